/- Circuits: the program's system of a circuit. -/
import Derived.Test.YtdnkignjanfikaaGreatPv1
import Derived.Test.YtdnkignjanfikaaGreatPv0
set_option linter.unusedVariables false
set_option linter.unusedSimpArgs false
namespace Go.AI.Fn
theorem Vu {s:aL} {k:Nat} (h:s.Cols=((k+1:Nat):Int)) (hk:k≤50):cf s=some ((2^k:Nat):Int):=by
 have e:IntKind.wrap .i64 (((k+1:Nat):Int)-1)=(k:Int):=by rw [aa _ om om];omega
 unfold cf
 rw [h,e,brd om,Gc om]
theorem Ib {p w c2 c3 c4 c5:Int} {l:List ah} {k:Nat} (hk:k≤50) (hp:0≤p) (hp1:p≤100):
 cJ w l c2 c3 c4 c5 p ((k+1:Nat):Int)=if ((2^k:Nat):Int)<mx (p+1) w then some (.inl ((k+2:Nat):Int)) else some (.inr (false,((k+1:Nat):Int))):=by
 have e2:IntKind.wrap .i64 (((k+1:Nat):Int)+1)=((k+2:Nat):Int):=by rw [aa _ om om];omega
 simp only [cJ]
 rw [Vu (k:=k) rfl hk,obs,e2,aa (p+1) om om]
 by_cases h:((2^k:Nat):Int)<mx (p+1) w
 ·rw [brd h,if_pos h]
 ·rw [brn h,if_neg h,decide_eq_false h]
theorem a8y {p w c2 c3 c4 c5:Int} {l:List ah} (hp:0≤p) (hp1:p≤7) (hw:w≤15):Loop (cJ w l c2 c3 c4 c5 p) 2=some (false,(lgM (mx (p+1) w):Int)):=by
 have hm:mx (p+1) w≤15:=by unfold mx;split<;>omega
 have s1:=Ib (p:=p) (w:=w) (l:=l) (c2:=c2) (c3:=c3) (c4:=c4) (c5:=c5) (k:=1) om hp om
 have s2:=Ib (p:=p) (w:=w) (l:=l) (c2:=c2) (c3:=c3) (c4:=c4) (c5:=c5) (k:=2) om hp om
 have s3:=Ib (p:=p) (w:=w) (l:=l) (c2:=c2) (c3:=c3) (c4:=c4) (c5:=c5) (k:=3) om hp om
 have s4:=Ib (p:=p) (w:=w) (l:=l) (c2:=c2) (c3:=c3) (c4:=c4) (c5:=c5) (k:=4) om hp om
 simp only [Nat.reducePow,Nat.reduceAdd] at s1 s2 s3 s4
 unfold lgM
 generalize mx (p+1) w=m at*
 by_cases h1:m≤2
 ·rw [if_pos h1];rw [if_neg om] at s1;exact dx s1
 rw [if_neg h1];rw [if_pos om] at s1
 refine (ct s1).trans ?_
 by_cases h2:m≤4
 ·rw [if_pos h2];rw [if_neg om] at s2;exact dx s2
 rw [if_neg h2];rw [if_pos om] at s2
 refine (ct s2).trans ?_
 by_cases h3:m≤8
 ·rw [if_pos h3];rw [if_neg om] at s3;exact dx s3
 rw [if_neg h3];rw [if_pos om] at s3
 refine (ct s3).trans ?_
 rw [if_neg om] at s4;exact dx s4
theorem YT {l:List ah} {c9 c10 c11 c12 c13 c14:Int} (ok:OkC l):Loop (cN l (l.length:Int) l c9 c10 c11 c12 c13 c14) ([],1,((2^(lgC l-1):Nat):Int),0)=
 some (iO l l.length,(bw l 2:Int)+1,((2^(lgC l-1):Nat):Int)+((l.length:Int)-(bw l 2:Int)),(l.length:Int),false):=by
 have h1:=ok.n2
 have h2':=IY l
 have hpw:=qF (lgC l-1) om
 have key:=aH (step:=cN l (l.length:Int) l c9 c10 c11 c12 c13 c14) (fun j=>(iO l j,(bw (l.take j) 2:Int)+1,((2^(lgC l-1):Nat):Int)+((j:Int)-(bw (l.take j) 2:Int)),(j:Int))) l.length (e:=(iO l l.length,(bw l 2:Int)+1,((2^(lgC l-1):Nat):Int)+((l.length:Int)-(bw l 2:Int)),(l.length:Int),false)) (fun j hj=> ?_) ?_
 ·have:((iO l 0,(bw (l.take 0) 2:Int)+1,((2^(lgC l-1):Nat):Int)+(((0:Nat):Int)-(bw (l.take 0) 2:Int)),((0:Nat):Int)):List Int×Int×Int×Int)=([],1,((2^(lgC l-1):Nat):Int),0):=by simp [iO,bw]
  rw [←this,key]
 ·have hd:l.getD j ⟨0,0,0,0⟩=l[j]:=by simp [hj]
  have l2:=gB (l.take j) 2
  rw [List.length_take] at l2
  have hcl:=QN l j
  have hfit: ∀v:Int,(iO l j++[v]).length*8≤1099511627776:=fun v=>by rw [List.length_append,hcl];simp;omega
  simp only [cN]
  rw [brd om,bN hj,obs,bt hj,fM,a0N,ZI,hd]
  by_cases h:l[j].Op=2
  ·rw [bre h,aA (hfit _),aa _ om om,aa _ om om,if_pos h,if_pos (by simp [h])]
   simp;omega
  ·rw [bc h,aA (hfit _),aa _ om om,aa _ om om,if_neg h,if_neg (by simp [h])]
   simp;omega
 ·simp only [cN]
  rw [brn om,decide_eq_false om,List.take_length]
theorem V3 {l:List ah} {c16 c17 c18 c19 c20 c21:Int} (ok:OkC l): ∃mA mB mC,Loop (dy (iO l l.length) l (l.length:Int) l c16 c17 c18 c19 c20 c21) ([],[],[],0,0)=
 some (mA,mB,mC,(l.length:Int),false,(fdM l l.length).1)∧R3 (fdM l l.length).1 mA mB mC (fdM l l.length).2.1 (fdM l l.length).2.2.1 (fdM l l.length).2.2.2 (2*l.length):=by
 have hn:=ok.n2
 obtain ⟨⟨mA,mB,mC,i,b,r⟩,h1,h2,h3,h4,h5⟩:=jw (step:=dy (iO l l.length) l (l.length:Int) l c16 c17 c18 c19 c20 c21)
  (fun s=> ∃j:Nat,j≤l.length∧s.2.2.2.1=(j:Int)∧s.2.2.2.2=(fdM l j).1∧R3 (fdM l j).1 s.1 s.2.1 s.2.2.1 (fdM l j).2.1 (fdM l j).2.2.1 (fdM l j).2.2.2 (2*j)) (fun s=>l.length-s.2.2.2.1.toNat)
  (fun e=>e.2.2.2.1=(l.length:Int)∧e.2.2.2.2.1=false∧e.2.2.2.2.2=(fdM l l.length).1∧R3 (fdM l l.length).1 e.1 e.2.1 e.2.2.1 (fdM l l.length).2.1 (fdM l l.length).2.2.1 (fdM l l.length).2.2.2 (2*l.length))
  (fun s=>by
   obtain ⟨mA,mB,mC,i,r⟩:=s
   rintro ⟨j,hj,e1,e2,h⟩
   dsimp only at e1 e2 h
   subst e1
   simp only [dy]
   by_cases hlt:j<l.length
   ·left
    have hd:l.getD j ⟨0,0,0,0⟩=l[j]:=by simp [hlt]
    have hl:=QN l l.length
    obtain ⟨_,r0,r1⟩:=Td ok j hj
    obtain ⟨x,y,z,g1,g2⟩:=a5g (t:=iO l l.length) (c:=(iO l l.length).getD j 0) (ok.g j hlt) om r0 om h
    rw [brd om,bN hlt,obs,brd om,brd (by rw [Int.toNat_natCast];omega),Int.toNat_natCast,gw om,obs,e2,g1,obs,aa _ om om]
    refine ⟨_,rfl,⟨j+1,by omega,by dsimp only;omega,by rw [fdM,hd], ?_⟩,by dsimp only;omega⟩
    rw [fdM,hd]
    exact g2
   ·right
    have:j=l.length:=by omega
    subst this
    rw [brn om,decide_eq_false om]
    exact ⟨_,rfl,rfl,rfl,e2,h⟩)
  ([],[],[],0,0) ⟨0,by omega,rfl,rfl,⟨Rm.nil _,Rm.nil _,Rm.nil _,by simp,by simp,by simp⟩⟩
 dsimp only at h2 h3 h4 h5
 subst h2 h3 h4
 exact ⟨mA,mB,mC,h1,h5⟩
theorem Wh {c:Circuit} (ok:OkC c.Gates):iJ c=some (MD c.Gates):=by
 have hn:=ok.n2
 have h2:=ok.p
 have h3:=gB c.Gates 2
 have h5:=IY c.Gates
 unfold iJ
 have hl:Loop (cJ ((c.Gates.length:Int)-(bw c.Gates 2:Int)) c.Gates 0 0 0 1 (bw c.Gates 2:Int)) 2=some (false,(lgC c.Gates:Int)):=a8y om om om
 rw [Am om,obs,aa _ om om,hl,obs]
 dsimp only
 rw [Vu (k:=lgC c.Gates-1) (by dsimp only;omega) om,obs,YT ok,obs]
 dsimp only
 obtain ⟨mA,mB,mC,g1,g2⟩:=V3 (c16:=0) (c17:=0) (c18:=0) (c19:=1) (c20:=(lgC c.Gates:Int)) (c21:=(bw c.Gates 2:Int)) ok
 obtain ⟨_,r0,r1⟩:=Td ok c.Gates.length (Nat.le_refl _)
 rw [g1,obs]
 dsimp only
 rw [a8P (r:=(fdM c.Gates c.Gates.length).1) om (fun k k1 k5=> ?_),obs,g2.a.ent (by have:=g2.la;omega),obs,g2.b.ent (by have:=g2.lb;omega),obs,g2.c.ent (by have:=g2.lc;omega),obs]
 ·rfl
 ·simp only [gX]
  have e2:IntKind.wrap .i64 ((k:Int)+1)=((k+1:Nat):Int):=by rw [aa _ om om];omega
  rw [brd om,Gc om,e2]
  by_cases h:((2^k:Nat):Int)<(fdM c.Gates c.Gates.length).1
  ·rw [brd h,if_pos h]
  ·rw [brn h,if_neg h,decide_eq_false h]
end Go.AI.Fn
set_option linter.unusedVariables false
set_option linter.unusedSimpArgs false
namespace Go.AI.Fn
theorem SQ (P I:List Int) (l:List ah) {i:Nat}: ∀{j n:Nat},i<j→j≤n→(rnM P I l n).getD i 0=(rnM P I l j).getD i 0
 |j,n,hi,hn=>by
  induction n with
  |zero=>omega
  |succ n ih=>
   by_cases h:j=n+1
   ·rw [h]
   ·rw [←ih om,rnM,List.getD_eq_getElem?_getD,List.getElem?_append_left (by rw [xl];omega), ←List.getD_eq_getElem?_getD]
theorem a1h {P I:List Int} {l:List ah} {j n:Nat} {g:ah} (hg:i4 g (j:Int)=true) (hn:j≤n):ij (rnM P I l n) g=ij (rnM P I l j) g:=by
 obtain ⟨g1,g2,g3,g4⟩:=zy hg
 unfold ij
 by_cases h7:g.Op=7
 ·have a:=g2 om
  have b:=g3 om om
  rw [SQ P I l (j:=j) om hn,SQ P I l (i:=g.B.toNat) (j:=j) om hn]
 ·by_cases h8:g.Op=8
  ·have a:=g2 om
   rw [bc h7,bc h7,SQ P I l (j:=j) om hn]
  ·rw [bc h7,bc h7,bc h8,bc h8]
theorem a2r {l:List Int} {p:Nat} (h:p<l.length):atL (l.drop p) 0=some (l.getD p 0):=by
 have:(l.drop p)[0]? =some (l.getD p 0):=by rw [List.getElem?_drop];simp [h]
 simp only [atL]
 rw [if_pos om]
 exact this
theorem b6Q {l:List Int} {p:Nat} (h:p<l.length) (hl:l.length≤1099511627776):nL (l.drop p) 1 ((l.drop p).length:Int)=some (l.drop (p+1)):=by
 rw [lQ om (by rw [List.length_drop];omega) om]
 simp only [List.drop_drop,List.length_drop,Option.some.injEq]
 refine List.take_of_length_le ?_
 rw [List.length_drop];omega
theorem O3 {P I:List Int} {l c':List ah} {j:Nat} (ok:OkC l) (hP:eU P) (hI:eU I) (lP:P.length=bw l 2) (lI:I.length=bw l 1) (hj:j<l.length):
 dJ l (l.length:Int) c' (rnM P I l j,P.drop (bw (l.take j) 2),I.drop (bw (l.take j) 1),(j:Int))=
  if ij (rnM P I l j) l[j]=true then some (.inl (rnM P I l (j+1),P.drop (bw (l.take (j+1)) 2),I.drop (bw (l.take (j+1)) 1),((j+1:Nat):Int))) else some (.inr (.inl (rnM P I l j,l[j].Op,l[j].A,l[j].B,l[j].K))):=by
 have hn:=ok.n2
 have hd:l.getD j ⟨0,0,0,0⟩=l[j]:=by simp [hj]
 obtain ⟨g1,g2,g3,g4⟩:=zy (ok.g j hj)
 have l2:=gB (l.take j) 2
 have l1:=gB (l.take j) 1
 rw [List.length_take] at l1 l2
 have c2:=gB l 2
 have c1:=gB l 1
 have hro:=SI ok hP hI lP lI j om
 have hrl:=xl P I l j
 have t2:=jk (op:=2) hj
 have t1:=jk (op:=1) hj
 have ej:IntKind.wrap .i64 ((j:Int)+1)=((j+1:Nat):Int):=by rw [aa _ om om];omega
 simp only [dJ]
 rw [brd om,bN hj,obs,bt hj,fM,fM,rnM,hd,ej]
 generalize l[j]=g at*
 generalize rnM P I l j=o at*
 have hfit: ∀v:Int,(o++[v]).length*8≤1099511627776:=fun v=>by rw [List.length_append,hrl];simp;omega
 have hop:g.Op=1∨g.Op=2∨g.Op=4∨g.Op=5∨g.Op=6∨g.Op=7∨g.Op=8∨g.Op=3:=by omega
 rcases hop with h|h|h|h|h|h|h|h
 ·have hf:ij o g=true:=by unfold ij;rw [bc om,bc om];rfl
  rw [if_pos hf,bre h,a2r (by have:=t1 h;omega),obs,b6Q (by have:=t1 h;omega) om,obs,aA (hfit _)]
  simp [gvM,h]
 ·have hf:ij o g=true:=by unfold ij;rw [bc om,bc om];rfl
  rw [if_pos hf,bc om,bre h,a2r (by have:=t2 h;omega),obs,b6Q (by have:=t2 h;omega) om,obs,aA (hfit _)]
  simp [gvM,h]
 ·have hf:ij o g=true:=by unfold ij;rw [bc om,bc om];rfl
  have a:=g2 om
  have b:=g3 om om
  rw [if_pos hf,bc om,bc om,bre h,brd a.1,brd om,gw om,obs,brd b.1,brd om,gw om,obs,pu (fb hro om) (fb hro om),obs,aA (hfit _)]
  simp [gvM,h]
 ·have hf:ij o g=true:=by unfold ij;rw [bc om,bc om];rfl
  have a:=g2 om
  have b:=g3 om om
  rw [if_pos hf,bc om,bc om,bc om,bre h,brd a.1,brd om,gw om,obs,brd b.1,brd om,gw om,obs,P8 (fb hro om) (fb hro om),obs,aA (hfit _)]
  simp [gvM,h]
 ·have hf:ij o g=true:=by unfold ij;rw [bc om,bc om];rfl
  have a:=g2 om
  have b:=g3 om om
  rw [if_pos hf,bc om,bc om,bc om,bc om,bre h,brd a.1,brd om,gw om,obs,brd b.1,brd om,gw om,obs,gr (fb hro om) (fb hro om),obs,aA (hfit _)]
  simp [gvM,h]
 ·have a:=g2 om
  have b:=g3 om om
  have hf:ij o g=(o.getD g.A.toNat 0==o.getD g.B.toNat 0):=by unfold ij;rw [bre h,bc om,Bool.and_true]
  rw [bc om,bc om,bc om,bc om,bc om,bre h,bre h,brd a.1,brd om,gw om,obs,bre h,brd b.1,brd om,gw om,obs]
  by_cases e:o.getD g.A.toNat 0=o.getD g.B.toNat 0
  ·rw [if_pos (by rw [hf];simpa using e),y8 e,bc om,aA (hfit _)]
   simp [gvM,h]
  ·rw [if_neg (by rw [hf];simpa using e),brb e]
 ·have a:=g2 om
  have hf:ij o g=decide (o.getD g.A.toNat 0≤1):=by unfold ij;rw [bc om,bre h,Bool.true_and]
  rw [bc om,bc om,bc om,bc om,bc om,bc om,bre h,brd a.1,brd om,gw om,obs,bc om,bre h]
  by_cases e:o.getD g.A.toNat 0>1
  ·rw [if_neg (by rw [hf,decide_eq_false om];simp),brd e]
  ·rw [if_pos (by rw [hf,decide_eq_true om]),brn e,aA (hfit _)]
   simp [gvM,h]
 ·have hf:ij o g=true:=by unfold ij;rw [bc om,bc om];rfl
  rw [if_pos hf,bc om,bc om,bc om,bc om,bc om,bc om,bc om,aA (hfit _)]
  simp [gvM,h]
theorem Ya {c:Circuit} {P I:List Int} (ok:OkC c.Gates) (hP:eU P) (hI:eU I) (lP:P.length=bw c.Gates 2) (lI:I.length=bw c.Gates 1):
 jK c P I=some (if c.Gates.all (ij (rnM P I c.Gates c.Gates.length))=true then (rnM P I c.Gates c.Gates.length,true) else ([],false)):=by
 have hn:=ok.n2
 unfold jK
 have key:=sg (step:=dJ c.Gates (c.Gates.length:Int) c.Gates) (fun k=>(rnM P I c.Gates k,P.drop (bw (c.Gates.take k) 2),I.drop (bw (c.Gates.take k) 1),(k:Int))) c.Gates.length
  (fun k=>((c.Gates[k]?.map (ij (rnM P I c.Gates k))).getD false)) (fun k=> .inl (rnM P I c.Gates k,(c.Gates.getD k ⟨0,0,0,0⟩).Op,(c.Gates.getD k ⟨0,0,0,0⟩).A,(c.Gates.getD k ⟨0,0,0,0⟩).B,(c.Gates.getD k ⟨0,0,0,0⟩).K))
  (e:= .inr (rnM P I c.Gates c.Gates.length,P.drop (bw (c.Gates.take c.Gates.length) 2),I.drop (bw (c.Gates.take c.Gates.length) 1),(c.Gates.length:Int),false))
  (fun k hk hp=>by
   have hb:ij (rnM P I c.Gates k) c.Gates[k]=true:=by simpa [hk] using hp
   rw [O3 ok hP hI lP lI hk,if_pos hb])
  (fun k hk hp=>by
   have hb:ij (rnM P I c.Gates k) c.Gates[k]=false:=by simpa [hk] using hp
   have hd:c.Gates.getD k ⟨0,0,0,0⟩=c.Gates[k]:=by simp [hk]
   rw [O3 ok hP hI lP lI hk,if_neg (by rw [hb];simp),hd])
  (by simp only [dJ];rw [brn om,decide_eq_false om])
 have h0:((rnM P I c.Gates 0,P.drop (bw (c.Gates.take 0) 2),I.drop (bw (c.Gates.take 0) 1),((0:Nat):Int)):List Int×List Int×List Int×Int)=([],P,I,0):=rfl
 rw [h0] at key
 rcases key with ⟨h2,h3⟩|⟨k,hk,h2,_,h3⟩
 ·have ha:c.Gates.all (ij (rnM P I c.Gates c.Gates.length))=true:=List.all_eq_true.2 fun x hx=>by
   obtain ⟨k,hk,rfl⟩:=List.getElem_of_mem hx
   rw [a1h (ok.g k hk) om]
   simpa [hk] using h2 k hk
  rw [h3,if_pos ha,obs,wG]
 ·have ha: ¬c.Gates.all (ij (rnM P I c.Gates c.Gates.length))=true:=by
   rw [Bool.not_eq_true]
   refine List.all_eq_false.2 ⟨c.Gates[k],List.getElem_mem hk, ?_⟩
   rw [a1h (ok.g k hk) om]
   simpa [hk] using h2
  rw [h3,if_neg ha,obs,ue]
def rcC (c:Circuit) (P I:List Int):Int:=
 if P.length>4096 then 2 else if I.length>4096 then 2 else if AO c.Gates=false then 19 else if P.all vg=false then 1 else if I.all vg=false then 1
 else if P.length≠bw c.Gates 2 then 8 else if I.length≠bw c.Gates 1 then 8 else 0
structure a5e (c:Circuit) (P I:List Int):Prop where
 ok:OkC c.Gates
 hP:eU P
 hI:eU I
 lP:P.length=bw c.Gates 2
 lI:I.length=bw c.Gates 1
theorem a1z {l:List Int} (h:l.all vg=true):eU l:=fun x hx=>CK.1 (List.all_eq_true.1 h x hx)
theorem zr {l:List Int} (h:eU l):l.all vg=true:=List.all_eq_true.2 fun x hx=>CK.2 (h x hx)
theorem b0G {c:Circuit} {P I:List Int} (h:rcC c P I=0):a5e c P I:=by
 unfold rcC at h
 split at h
 ·omega
 split at h
 ·omega
 split at h
 ·omega
 rename_i h3
 split at h
 ·omega
 rename_i h4
 split at h
 ·omega
 rename_i h5
 split at h
 ·omega
 rename_i h6
 split at h
 ·omega
 rename_i h7
 exact ⟨a7Z (by simpa using h3),a1z (by simpa using h4),a1z (by simpa using h5),by omega,by omega⟩
theorem VT {l:List ah} (h:OkC l):AO l=true:=by
 unfold AO
 rw [decide_eq_true ⟨h.n1,h.n2⟩,decide_eq_true (by have:=h.p;omega),Bool.true_and,Bool.and_true]
 refine List.all_eq_true.2 fun k hk=> ?_
 have hk:=List.mem_range.1 hk
 simpa [hk] using h.g k hk
theorem a9X {c:Circuit} {P I:List Int} (h:a5e c P I):rcC c P I=0:=by
 have h2:=gB c.Gates 2
 have h1:=gB c.Gates 1
 have hn:=h.ok.n2
 have:=h.lP
 have:=h.lI
 unfold rcC
 rw [if_neg om,if_neg om,VT h.ok,if_neg (by simp),zr h.hP,if_neg (by simp),zr h.hI,if_neg (by simp),if_neg om,if_neg om]
theorem Iw {c:Circuit} {P I:List Int} (hc:c.Gates.length≤1048576):uP c P I=some (rcC c P I):=by
 unfold uP rcC
 by_cases h1:P.length>4096
 ·rw [brd om,if_pos h1]
 rw [brn om,if_neg h1]
 by_cases h2:I.length>4096
 ·rw [brd om,if_pos h2]
 rw [brn om,if_neg h2,D5 hc,obs]
 cases AO c.Gates
 ·rfl
 rw [if_neg (by simp),Bool.not_true,aK,qH om,obs]
 cases P.all vg
 ·rfl
 rw [if_neg (by simp),Bool.not_true,aK,qH om,obs]
 cases I.all vg
 ·rfl
 rw [if_neg (by simp),Bool.not_true,aK,Am hc,obs]
 by_cases h3:P.length=bw c.Gates 2
 ·rw [y8 om,if_neg om,Am hc,obs]
  by_cases h4:I.length=bw c.Gates 1
  ·rw [y8 om,if_neg om]
  ·rw [brb om,if_pos h4]
 ·rw [brb om,if_pos h3]
theorem Vp {c:Circuit} {P I:List Int} (hc:c.Gates.length≤1048576):BG c P I=some (rcC c P I):=by
 unfold BG rcC
 by_cases h1:P.length>4096
 ·rw [brd om,if_pos h1]
 rw [brn om,if_neg h1]
 by_cases h2:I.length>4096
 ·rw [brd om,if_pos h2]
 rw [brn om,if_neg h2,O7 hc,obs]
 cases AO c.Gates
 ·rfl
 rw [if_neg (by simp),Bool.not_true,aK,L3 om,obs]
 cases P.all vg
 ·rfl
 rw [if_neg (by simp),Bool.not_true,aK,L3 om,obs]
 cases I.all vg
 ·rfl
 rw [if_neg (by simp),Bool.not_true,aK,qE hc,obs]
 by_cases h3:P.length=bw c.Gates 2
 ·rw [y8 om,if_neg om,qE hc,obs]
  by_cases h4:I.length=bw c.Gates 1
  ·rw [y8 om,if_neg om]
  ·rw [brb om,if_pos h4]
 ·rw [brb om,if_pos h3]
def a44 (c:Circuit) (P I:List Int):List Int×Int:=
 if rcC c P I=0 then (if c.Gates.all (ij (rnM P I c.Gates c.Gates.length))=true then (rnM P I c.Gates c.Gates.length,0) else ([],15)) else ([],rcC c P I)
theorem LM {c:Circuit} {P I:List Int} (hc:c.Gates.length≤1048576):oW c P I=some (a44 c P I):=by
 unfold oW a44
 rw [Iw hc,obs]
 by_cases h0:rcC c P I=0
 ·have ok:=b0G h0
  rw [y8 h0,if_pos h0,Ya ok.ok ok.hP ok.hI ok.lP ok.lI,obs]
  by_cases hf:c.Gates.all (ij (rnM P I c.Gates c.Gates.length))=true
  ·rw [if_pos hf,if_pos hf];rfl
  ·rw [if_neg hf,if_neg hf];rfl
 ·rw [brb h0,if_neg h0]
theorem LW {c:Circuit} {P I:List Int} (hc:c.Gates.length≤1048576):p6 c P I=some (a44 c P I):=by
 unfold p6 a44
 by_cases h1:P.length>4096
 ·rw [brd om];simp [rcC,h1]
 rw [brn om]
 by_cases h2:I.length>4096
 ·rw [brd om];simp [rcC,h1,h2]
 rw [brn om,Vp hc,obs]
 by_cases h0:rcC c P I=0
 ·have ok:=b0G h0
  rw [y8 h0,if_pos h0,XN ok.ok ok.hP ok.hI ok.lP ok.lI,obs,TN ok.ok (xl _ _ _ _),obs]
  cases c.Gates.all (ij (rnM P I c.Gates c.Gates.length))
  ·rfl
  ·rfl
 ·rw [brb h0,if_neg h0]
end Go.AI.Fn
set_option linter.unusedVariables false
set_option linter.unusedSimpArgs false
namespace Go.AI.Fn
def zc (z:List Int) (c:Int):Int:=z.getD c.toNat 0
def rS (z:List Int) (r x:Int) (e:ae):Int:=if e.Row=r then aF x (mF e.Value (zc z e.Col)) else x
def rV (z:List Int) (r:Int) (L:List ae):Int:=L.foldl (rS z r) 0
structure c4d (z:List Int) (r:Int) (A A':List ae) (x:Int):Prop where
 old: ∀k,k<r→rV z k A'=rV z k A
 new:rV z r A'=x
 row: ∀e∈A',e.Row<r+1
structure c4c (r:Int) (A B C:List ae):Prop where
 a: ∀e∈A,e.Row<r
 b: ∀e∈B,e.Row<r
 c: ∀e∈C,e.Row<r
end Go.AI.Fn
set_option linter.unusedVariables false
set_option linter.unusedSimpArgs false
namespace Go.AI.Fn
theorem MkR.mat {l:List ae} {row R C:Int} (h:MkR l row C) (hr:row≤R-1) (hl:l.length≤200):vm l R C=true:=by
 refine ZU hl fun t=> ?_
 rintro ⟨x,hx,hb⟩
 have hm:x∈l:=List.mem_of_getElem? hx
 obtain ⟨a1,a2,a3,a4,a5,a6⟩:=h.ent x hm
 rcases hb with hb|⟨ht,y,hy,hb⟩
 ·exact hb ⟨⟨a1,by omega⟩,⟨a3,a4⟩,a5,a6⟩
 ·refine hb ?_
  have h1:=(List.getElem?_eq_some_iff.1 hx)
  have h2:=(List.getElem?_eq_some_iff.1 hy)
  obtain ⟨i1,e1⟩:=h1
  obtain ⟨i2,e2⟩:=h2
  have:=List.pairwise_iff_getElem.1 h.srt (t-1) t i2 i1 om
  rwa [e1,e2] at this
theorem b0t {l:List ah} (ok:OkC l):kY (MD l)=true:=by
 obtain ⟨m,r0,r1⟩:=Td ok l.length (Nat.le_refl _)
 have hn:=ok.n2
 have hl:=IY l
 have hr:=b8R (fdM l l.length).1
 have hf:=b5Y (r:=(fdM l l.length).1) om
 have hg:=a0d ok
 unfold kY
 have c1:(MD l).Rows=((rlM (fdM l l.length).1:Nat):Int):=rfl
 have c2:(MD l).Cols=((lgC l:Nat):Int):=rfl
 have c3:(MD l).Publics=((bw l 2:Nat):Int):=rfl
 have e3:((lgC l:Nat):Int)-1=((lgC l-1:Nat):Int):=by omega
 rw [c1,c2,c3,e3,Gc om,Gc om,Gc om]
 have la:=m.la
 have lb:=m.lb
 have lc:=m.lc
 have mA:vm (MD l).A ((2^rlM (fdM l l.length).1:Nat):Int) ((2^lgC l:Nat):Int)=true:=m.a.mat om (by show (fdM l l.length).2.1.length≤200;omega)
 have mB:vm (MD l).B ((2^rlM (fdM l l.length).1:Nat):Int) ((2^lgC l:Nat):Int)=true:=m.b.mat om (by show (fdM l l.length).2.2.1.length≤200;omega)
 have mC:vm (MD l).C ((2^rlM (fdM l l.length).1:Nat):Int) ((2^lgC l:Nat):Int)=true:=m.c.mat om (by show (fdM l l.length).2.2.2.length≤200;omega)
 rw [mA,mB,mC,decide_eq_true om,decide_eq_true om,decide_eq_true om];rfl
theorem u7 {L:List ae} {z:List Int} {n:Nat} (hn:n≤20) (hm:OkM L ((2^n:Nat):Int) (z.length:Int)) (hz:eU z):iP L (n:Int) z=some (muM L n z):=by
 have hl:=hm.len
 have hp:2^n≤2^20:=Nat.pow_le_pow_right om hn
 have hp2:(2:Nat)^20=1048576:=by decide
 have h0:(0:Int)≤((2^n:Nat):Int):=Int.natCast_nonneg _
 have h3:((2^n:Nat):Int)≤1048576:=by rw [hp2] at hp;exact Int.ofNat_le.2 hp
 unfold iP
 rw [brd om,Gc om,Xi h0 (Int.le_refl _) om,Int.toNat_natCast]
 have key:=aH (step:=jR z L (L.length:Int)) (fun j=>((L.take j).foldl (muS z) (List.replicate (2^n) 0),(j:Int))) L.length (e:=(muM L n z,(L.length:Int),false)) (fun j hj=> ?_) ?_
 ·have:(((L.take 0).foldl (muS z) (List.replicate (2^n) 0),((0:Nat):Int)):List Int×Int)=(List.replicate (2^n) 0,0):=rfl
  rw [←this,key];rfl
 ·obtain ⟨⟨a1,a2⟩,⟨b1,b2⟩,v1,v2⟩:=hm.ent L[j] (List.getElem_mem hj)
  have hT:=S9 z (L.take j) (List.replicate (2^n) 0)
  rw [List.length_replicate] at hT
  have hok:eU ((L.take j).foldl (muS z) (List.replicate (2^n) 0)):=Yp z _ _ (by
   intro x hx
   rw [List.eq_of_mem_replicate hx]
   exact ⟨by omega,by omega⟩)
  simp only [jR]
  rw [brd om,bN hj,obs,bt hj,List.foldl_append,List.foldl_cons,List.foldl_nil]
  generalize (L.take j).foldl (muS z) (List.replicate (2^n) 0)=T at*
  generalize L[j]=x at*
  rw [brd a1,brd om,gw om,obs,T2 b1 om,obs,gr ⟨by omega,by omega⟩ (fb hz om),obs,pu (fb hok om) (wK _ _),obs,brd a1,brd om,obs,aa _ om om,muS];rfl
 ·simp only [jR]
  rw [brn om,decide_eq_false om,List.take_length];rfl
def O8 (s:aL) (z:List Int) (k:Nat):Bool:=mF ((muM s.A s.Rows.toNat z).getD k 0) ((muM s.B s.Rows.toNat z).getD k 0)==(muM s.C s.Rows.toNat z).getD k 0
def Z6 (s:aL) (z:List Int):Bool:=(List.range (2^s.Rows.toNat)).all (O8 s z)
theorem b6S {s:aL} (h:kY s=true):OkM s.A ((2^s.Rows.toNat:Nat):Int) ((2^s.Cols.toNat:Nat):Int)∧OkM s.B ((2^s.Rows.toNat:Nat):Int) ((2^s.Cols.toNat:Nat):Int)∧OkM s.C ((2^s.Rows.toNat:Nat):Int) ((2^s.Cols.toNat:Nat):Int):=by
 obtain ⟨hR,hC,_⟩:=j8 h
 unfold kY at h
 simp only [Bool.and_eq_true,decide_eq_true_eq] at h
 obtain ⟨_,_,_,h4,h5,h6⟩:=h
 have e1:aP .i64 1 s.Rows=((2^s.Rows.toNat:Nat):Int):=by
  have:s.Rows=((s.Rows.toNat:Nat):Int):=by omega
  conv=>lhs;rw [this]
  exact Gc om
 have e2:aP .i64 1 s.Cols=((2^s.Cols.toNat:Nat):Int):=by
  have:s.Cols=((s.Cols.toNat:Nat):Int):=by omega
  conv=>lhs;rw [this]
  exact Gc om
 rw [e1,e2] at h4 h5 h6
 exact ⟨Dw h4,Dw h5,Dw h6⟩
theorem Ki {s:aL} {z:List Int} (h:kY s=true) (hz:eU z) (lz:z.length=2^s.Cols.toNat): ∃r,gR s z=some r∧decide (r<0)=Z6 s z:=by
 obtain ⟨hA,hB,hC⟩:=b6S h
 obtain ⟨hR,_⟩:=j8 h
 have hp:=qF s.Rows.toNat om
 have eR:s.Rows=((s.Rows.toNat:Nat):Int):=by omega
 rw [←lz] at hA hB hC
 unfold gR
 rw [eR,u7 om hA hz,obs,u7 om hB hz,obs,u7 om hC hz,obs,wH]
 have okA:=a0i s.A s.Rows.toNat z
 have okB:=a0i s.B s.Rows.toNat z
 have hlA:=wH s.A s.Rows.toNat z
 have hlB:=wH s.B s.Rows.toNat z
 have hlC:=wH s.C s.Rows.toNat z
 have stp: ∀k:Nat,k<2^s.Rows.toNat→bX (muM s.A s.Rows.toNat z) (muM s.B s.Rows.toNat z) (muM s.C s.Rows.toNat z) ((2^s.Rows.toNat:Nat):Int) ((s.Rows.toNat:Nat):Int) s.Cols s.Publics s.A s.B s.C (k:Int)=if O8 s z k=true then some (.inl ((k+1:Nat):Int)) else some (.inr (.inl (k:Int))):=fun k hk=>by
  simp only [bX]
  rw [brd om,oR om,obs,oR om,obs,gr (fb okA om) (fb okB om),obs,oR om,obs,aa _ om om]
  unfold O8
  by_cases e:mF ((muM s.A s.Rows.toNat z).getD k 0) ((muM s.B s.Rows.toNat z).getD k 0)=(muM s.C s.Rows.toNat z).getD k 0
  ·rw [y8 e,if_pos (by simpa using e)];rfl
  ·rw [brb e,if_neg (by simpa using e)]
 have key:=sg (step:=bX (muM s.A s.Rows.toNat z) (muM s.B s.Rows.toNat z) (muM s.C s.Rows.toNat z) ((2^s.Rows.toNat:Nat):Int) ((s.Rows.toNat:Nat):Int) s.Cols s.Publics s.A s.B s.C) (fun k=>(k:Int)) (2^s.Rows.toNat) (O8 s z) (fun k=> .inl (k:Int)) (e:= .inr (((2^s.Rows.toNat:Nat):Int),false))
  (fun k hk hp=>by rw [stp k hk,if_pos hp]) (fun k hk hp=>by rw [stp k hk,if_neg (by rw [hp];simp)]) (by simp only [bX];rw [brn om,decide_eq_false om])
 rcases key with ⟨h2,h3⟩|⟨k,hk,h2,_,h3⟩
 ·have h4:Loop (bX (muM s.A s.Rows.toNat z) (muM s.B s.Rows.toNat z) (muM s.C s.Rows.toNat z) ((2^s.Rows.toNat:Nat):Int) ((s.Rows.toNat:Nat):Int) s.Cols s.Publics s.A s.B s.C) 0=_:=h3
  refine ⟨-1,by rw [h4,obs,wG], ?_⟩
  have:Z6 s z=true:=List.all_eq_true.2 fun k hk=>h2 k (List.mem_range.1 hk)
  rw [this];rfl
 ·have h4:Loop (bX (muM s.A s.Rows.toNat z) (muM s.B s.Rows.toNat z) (muM s.C s.Rows.toNat z) ((2^s.Rows.toNat:Nat):Int) ((s.Rows.toNat:Nat):Int) s.Cols s.Publics s.A s.B s.C) 0=_:=h3
  refine ⟨(k:Int),by rw [h4,obs,ue], ?_⟩
  have:Z6 s z=false:=List.all_eq_false.2 ⟨k,List.mem_range.2 hk,by rw [h2];simp⟩
  rw [this,decide_eq_false om]
theorem Ol {s:aL} {z:List Int} (h:kY s=true) (hz:eU z) (lz:z.length=2^s.Cols.toNat):sv s z=some (Z6 s z,0):=by
 obtain ⟨hR,hC,_,lA,lB,lC⟩:=j8 h
 have hp:=qF s.Cols.toNat om
 obtain ⟨r,e,hr⟩:=Ki h hz lz
 have e2:aP .i64 1 s.Cols=((2^s.Cols.toNat:Nat):Int):=by
  have:s.Cols=((s.Cols.toNat:Nat):Int):=by omega
  conv=>lhs;rw [this]
  exact Gc om
 unfold sv rj
 rw [brn om,xT om om om,obs,h,Bool.not_true,aK,qH om,obs,zr hz,Bool.not_true,aK,brd om,e2,y8 om,obs,y8 rfl,e,obs,hr]
end Go.AI.Fn
set_option linter.unusedVariables false
set_option linter.unusedSimpArgs false
set_option maxRecDepth 20000
namespace Go.AI.Fn
def nK (x:Int):K:=toK (eN x)
theorem ZL {l:List Int} (h:eU l):l.map eN=kv (l.map nK):=by
 rw [kv,List.map_map]
 exact List.map_congr_left fun x hx=>(Dx (b76 (h x hx))).symm
section
variable (s:aL) (t:Setting) (p z:List Int) (src:Source)
noncomputable def pW:List K:=(z.map nK).drop (gU s)
noncomputable def pRt:List UInt8:=wrK (s.Cols.toNat-1+t.Rate.toNat-1) (opW (s.Cols.toNat-1) t.Rate.toNat (pW s z))
noncomputable def pX1:Source:=vx1 s t p (pRt s t z) src
noncomputable def Vf:List K:=(drL (pX1 s t p z src) s.Rows.toNat).map toK
noncomputable def pT1:List (List K):=[eqK (Vf s t p z src),(muM s.A s.Rows.toNat z).map nK,(muM s.B s.Rows.toNat z).map nK,(muM s.C s.Rows.toNat z).map nK]
noncomputable def pV1:List (List K)×List K×List (List K)×Source:=pvM 2 bh0 s.Rows.toNat [] (pT1 s t p z src) (drS (pX1 s t p z src) s.Rows.toNat)
noncomputable def pL (j:Nat):K:=(mD (pV1 s t p z src).2.2.1).getD j 0
noncomputable def pX3:Source:=rsM (pV1 s t p z src).2.2.2 [pL s t p z src 1,pL s t p z src 2,pL s t p z src 3]
noncomputable def pT2:List (List K):=[btM s (eqK (pV1 s t p z src).2.1) (vr (pX3 s t p z src) 0) (vr (pX3 s t p z src) 1) (vr (pX3 s t p z src) 2),z.map nK]
noncomputable def pV2:List (List K)×List K×List (List K)×Source:=pvM 1 bh0 s.Cols.toNat [] (pT2 s t p z src) (drS (pX3 s t p z src) 3)
noncomputable def pPt:List K:=(pV2 s t p z src).2.1.take (s.Cols.toNat-1)
noncomputable def pVw:K:=a9N (pW s z) (eqK (pPt s t p z src))
noncomputable def pX5:Source:=rsM (pV2 s t p z src).2.2.2 [pVw s t p z src]
noncomputable def pO:aV×Source×Bool:=IA (s.Cols.toNat-1) t.Rate.toNat t.Queries.toNat t.Grind.toNat (pW s z) (pPt s t p z src) (pX5 s t p z src)
theorem c0h:pO s t p z src=IA (s.Cols.toNat-1) t.Rate.toNat t.Queries.toNat t.Grind.toNat (pW s z) (pPt s t p z src) (pX5 s t p z src):=rfl
noncomputable def b7u:il:=⟨pRt s t z,kvv (pV1 s t p z src).1,(pL s t p z src 1).1,(pL s t p z src 2).1,(pL s t p z src 3).1,kvv (pV2 s t p z src).1,(pVw s t p z src).1,(pO s t p z src).1⟩
end
variable {s:aL} {t:Setting} {p z:List Int} {src:Source} {k:Int}
theorem b98 (h:kY s=true) (lz:z.length=2^s.Cols.toNat):(pW s z).length=2^(s.Cols.toNat-1):=by
 have:=BQ h
 rw [pW,List.length_drop,List.length_map,lz,this]
 show 2*gU s-gU s=gU s
 omega
theorem Wq:(Vf s t p z src).length=s.Rows.toNat:=by rw [Vf,List.length_map,Hx]
theorem a9H:OkT 2 (2^s.Rows.toNat) (pT1 s t p z src):=⟨.inr rfl,rfl,fun i hi=>by
 have:i=0∨i=1∨i=2∨i=3:=by
  have:i<4:=hi
  omega
 rcases this with rfl|rfl|rfl|rfl
 ·show (eqK (Vf s t p z src)).length=_;rw [Sr,Wq]
 ·show ((muM s.A s.Rows.toNat z).map nK).length=_;rw [List.length_map,wH]
 ·show ((muM s.B s.Rows.toNat z).map nK).length=_;rw [List.length_map,wH]
 ·show ((muM s.C s.Rows.toNat z).map nK).length=_;rw [List.length_map,wH]⟩
theorem c0l (lz:z.length=2^s.Cols.toNat):OkT 1 (2^s.Cols.toNat) (pT2 s t p z src):=⟨.inl rfl,rfl,fun i hi=>by
 have:i=0∨i=1:=by
  have:i<2:=hi
  omega
 rcases this with rfl|rfl
 ·show (btM s _ _ _ _).length=_;rw [b2M]
 ·show (z.map nK).length=_;rw [List.length_map,lz]⟩
theorem a1A (h:Few src k):Few (pX1 s t p z src) (k+2):=((h.take _).take _).mono om
theorem a2n (h:Few src k) (hs:kY s=true) (hk:k≤900000):Few (drS (pX1 s t p z src) s.Rows.toNat) (k+7):=by
 obtain ⟨hr,_⟩:=j8 hs
 exact (Ic (a1A h) om _ om).mono om
theorem a1E (h:Few src k) (hs:kY s=true) (hk:k≤900000):Few (pV1 s t p z src).2.2.2 (k+22):=by
 obtain ⟨hr,_⟩:=j8 hs
 exact (SA b07 s.Rows.toNat [] _ _ _ (a2n h hs hk) om).mono om
theorem a1L (h:Few src k) (hs:kY s=true) (hk:k≤900000):Few (pX3 s t p z src) (k+23):=(Few.take (a1E h hs hk) _).mono om
theorem a1x (h:Few src k) (hs:kY s=true) (hk:k≤900000):Few (drS (pX3 s t p z src) 3) (k+26):=(Ic (a1L h hs hk) om 3 om).mono om
theorem a2i (h:Few src k) (hs:kY s=true) (hk:k≤900000):Few (pV2 s t p z src).2.2.2 (k+41):=by
 obtain ⟨_,hc,_⟩:=j8 hs
 exact (SA b07 s.Cols.toNat [] _ _ _ (a1x h hs hk) om).mono om
theorem b4Q (h:Few src k) (hs:kY s=true) (hk:k≤900000):Few (pX5 s t p z src) (k+42):=(Few.take (a2i h hs hk) _).mono om
theorem b5N:(pV1 s t p z src).1.length=s.Rows.toNat∧(pV1 s t p z src).2.1.length=s.Rows.toNat:=K4 _ _ _ _
theorem a2H:(pV2 s t p z src).1.length=s.Cols.toNat∧(pV2 s t p z src).2.1.length=s.Cols.toNat:=K4 _ _ _ _
theorem b4R (h:kY s=true):(pPt s t p z src).length=s.Cols.toNat-1:=by rw [pPt,List.length_take,a2H.2];omega
theorem b7G:(mD (pV1 s t p z src).2.2.1).length=4:=by
 rw [yF]
 exact (T9 s.Rows.toNat [] _ _ a9H).len
theorem b62 (h:kY s=true) (ht:setB t=true):(pRt s t z).length=32:=by
 obtain ⟨_,hc,_⟩:=j8 h
 obtain ⟨hr,_,_⟩:=a1K ht
 exact Sf _ _
theorem b8z (s:aL):ci s=some (s.A,s.B,s.C):=rfl
theorem YW (h:a3v s t p src) (hf:Few src k) (hk:k≤700) (hz:eU z) (lz:z.length=2^s.Cols.toNat):
 kN s t p z src=some (b7u s t p z src,(pO s t p z src).2.2,(pO s t p z src).2.1):=by
 obtain ⟨hr,hc,hpb,_⟩:=j8 h.sy
 obtain ⟨tr,tq,tg⟩:=a1K h.se
 obtain ⟨c1,c2,c3⟩:=Cv h.sy
 obtain ⟨mA,mB,mC⟩:=b6S h.sy
 have hth:=BQ h.sy
 have h5:=qF s.Cols.toNat om
 have h5r:=qF s.Rows.toNat om
 have hpl:=h.pl
 have hst:=a0O s t p
 have hrt:=b62 (z:=z) h.sy h.se
 have lw:=b98 (z:=z) h.sy lz
 have eR:((s.Rows.toNat:Nat):Int)=s.Rows:=by omega
 have eT:((t.Rate.toNat:Nat):Int)=t.Rate:=by omega
 obtain ⟨q,hq⟩: ∃q,s.Cols.toNat-1+t.Rate.toNat=q+1:=⟨s.Cols.toNat-1+t.Rate.toNat-1,by omega⟩
 have f1:=a1A (s:=s) (t:=t) (p:=p) (z:=z) hf
 have f2:=a2n (t:=t) (p:=p) (z:=z) hf h.sy om
 have f3:=a1L (t:=t) (p:=p) (z:=z) hf h.sy om
 have f4:=a1x (t:=t) (p:=p) (z:=z) hf h.sy om
 have f5:=a1E (t:=t) (p:=p) (z:=z) hf h.sy om
 have f6:=a2i (t:=t) (p:=p) (z:=z) hf h.sy om
 have f7:=b4Q (t:=t) (p:=p) (z:=z) hf h.sy om
 have g1:=b5N (s:=s) (t:=t) (p:=p) (z:=z) (src:=src)
 have g2:=a2H (s:=s) (t:=t) (p:=p) (z:=z) (src:=src)
 have gp:=b4R (t:=t) (p:=p) (z:=z) (src:=src) h.sy
 have gl:=b7G (s:=s) (t:=t) (p:=p) (z:=z) (src:=src)
 have hsub:nL z ((gU s:Nat):Int) ((z.length:Nat):Int)=some (z.drop (gU s)):=by
  rw [lQ om om om]
  simp only [Int.toNat_natCast,Option.some.injEq]
  refine List.take_of_length_le ?_
  rw [List.length_drop];omega
 have hzd:eU (z.drop (gU s)):=fun x hx=>hz x (List.mem_of_mem_drop hx)
 have hpw:(z.drop (gU s)).map eN=kv (pW s z):=by rw [ZL hzd,pW,List.map_drop]
 have hd1:=Fa f1 om (n:=s.Rows.toNat) om
 rw [eR] at hd1
 have htau:=TY f1 om (n:=s.Rows.toNat) om
 have het:jU (drL (pX1 s t p z src) s.Rows.toNat)=some (kv (eqK (Vf s t p z src))):=by
  have:=uk (l:=kv (Vf s t p z src)) (QX _) (by rw [aZ,Wq];omega)
  rw [Nd] at this
  rwa [Vf,b7D htau] at this
 have hmu: ∀L:List ae,xQ (muM L s.Rows.toNat z)=some (kv ((muM L s.Rows.toNat z).map nK)):=fun L=>by
  rw [JJ (by rw [wH];omega),ZL (a0i L _ z)]
 rw [←lz] at mA mB mC
 have hpr: ∀L,OkM L ((2^s.Rows.toNat:Nat):Int) (z.length:Int)→iP L s.Rows z=some (muM L s.Rows.toNat z):=fun L hm=>by
  rw [←eR];exact u7 om hm hz
 have hs1:bz 2 [kv (eqK (Vf s t p z src)),kv ((muM s.A s.Rows.toNat z).map nK),kv ((muM s.B s.Rows.toNat z).map nK),kv ((muM s.C s.Rows.toNat z).map nK)] (drS (pX1 s t p z src) s.Rows.toNat)=
  some (kvv (pV1 s t p z src).1,kv (pV1 s t p z src).2.1,kv (mD (pV1 s t p z src).2.2.1),(pV1 s t p z src).2.2.2):=
  F0 (kind:=2) (v:=s.Rows.toNat) [] (T:=pT1 s t p z src) a9H f2 om om
 have ha1:atL (kv (mD (pV1 s t p z src).2.2.1)) 1=some (pL s t p z src 1).1:=atK (j:=1) rfl om
 have ha2:atL (kv (mD (pV1 s t p z src).2.2.1)) 2=some (pL s t p z src 2).1:=atK (j:=2) rfl om
 have ha3:atL (kv (mD (pV1 s t p z src).2.2.1)) 3=some (pL s t p z src 3).1:=atK (j:=3) rfl om
 have hab:bD [(pL s t p z src 1).1,(pL s t p z src 2).1,(pL s t p z src 3).1] (pV1 s t p z src).2.2.2=some (pX3 s t p z src):=JR (g:=[pL s t p z src 1,pL s t p z src 2,pL s t p z src 3]) f5.1 (by simp)
 have hd3:=Fa f3 om (n:=3) om
 rw [show ((3:Nat):Int)=3 from rfl,c3G f3 om] at hd3
 have hbt:=Lh h.sy (p:=(pV1 s t p z src).2.1) (R:=eqK (pV1 s t p z src).2.1) (x:=vr (pX3 s t p z src) 0) (y:=vr (pX3 s t p z src) 1) (z:=vr (pX3 s t p z src) 2) g1.2 (Nd _)
 have hs2:bz 1 [kv (btM s (eqK (pV1 s t p z src).2.1) (vr (pX3 s t p z src) 0) (vr (pX3 s t p z src) 1) (vr (pX3 s t p z src) 2)),kv (z.map nK)] (drS (pX3 s t p z src) 3)=
  some (kvv (pV2 s t p z src).1,kv (pV2 s t p z src).2.1,kv (mD (pV2 s t p z src).2.2.1),(pV2 s t p z src).2.2.2):=
  F0 (kind:=1) (v:=s.Cols.toNat) [] (T:=pT2 s t p z src) (c0l lz) f4 om om
 have hsb:nL (kv (pV2 s t p z src).2.1) 0 (s.Cols-1)=some (kv (pPt s t p z src)):=by
  rw [lQ om om (by rw [aZ];omega),show (s.Cols-1).toNat-(0:Int).toNat=s.Cols.toNat-1 by omega]
  simp only [Int.toNat_zero,List.drop_zero,pPt,kv,List.map_take]
 have hep:jU (kv (pPt s t p z src))=some (kv (eqK (pPt s t p z src))):=by
  have:=uk (l:=kv (pPt s t p z src)) (QX _) (by rw [aZ];omega)
  rwa [Nd] at this
 have hdot:R5 (kv (pW s z)) (kv (eqK (pPt s t p z src)))=some (pVw s t p z src).1:=by
  rw [a8G (QX _) (QX _) (by rw [aZ,aZ,Sr,gp,lw];exact Nat.le_refl _) (by rw [aZ,lw];have:=qF (s.Cols.toNat-1) om;omega),b9p];rfl
 have hab2:bD [(pVw s t p z src).1] (pV2 s t p z src).2.2.2=some (pX5 s t p z src):=JR (g:=[pVw s t p z src]) f6.1 (by simp)
 have hop:=a6b (v:=s.Cols.toNat-1) (ρ:=t.Rate.toNat) (nq:=t.Queries.toNat) (bits:=t.Grind.toNat) (t:=pW s z) (P:=pPt s t p z src) (s:=pX5 s t p z src) (st:=t) lw gp om om om om om eT.symm om om f7 om
 rw [←c0h s t p z src] at hop
 unfold kN
 rw [Dk h.sy,obs,hsub,obs,JJ (by rw [List.length_drop];omega),obs,hpw,Ot h,obs,su h.fw.1.3 om,obs,
  MB lw om,obs, ←eT,Gk (m:=s.Cols.toNat-1) (t:=t.Rate.toNat) om (by rw [Do];exact lw),obs,Cb (k:=q) om (by rw [←hq];exact Gs lw),obs,MF q _ om,obs]
 rw [show wrK q (Enc (s.Cols.toNat-1) t.Rate.toNat (cfK (s.Cols.toNat-1) (pW s z)))=pRt s t z by rw [pRt,hq,Nat.add_sub_cancel];rfl]
 rw [aA om,su (h.fw.take _).1.3 om,obs,show tkM (tkM src (Og s t p)) (pRt s t z)=pX1 s t p z src from rfl,hd1,obs]
 dsimp only
 rw [het,obs,b8z,obs]
 dsimp only
 rw [hpr _ mA,obs,hmu,obs,aA (by simp),hpr _ mB,obs,hmu,obs,aA (by simp),hpr _ mC,obs,hmu,obs,aA (by simp)]
 simp only [List.cons_append,List.nil_append]
 rw [hs1,obs]
 dsimp only
 rw [ha1,obs,ha2,obs,ha3,obs]
 rw [hab,obs,hd3,obs]
 dsimp only
 rw [brd (by simp [aZ])]
 show (Option.bind (some ((vr (pX3 s t p z src) 0).1,(vr (pX3 s t p z src) 1).1,(vr (pX3 s t p z src) 2).1)) _)=_
 rw [obs]
 dsimp only
 rw [hbt,obs,JJ om,ZL hz,obs,hs2,obs]
 dsimp only
 rw [aa _ om om,hsb,obs,hep,obs,hdot,obs,hab2,obs,hop,obs,b7u]
end Go.AI.Fn
set_option linter.unusedVariables false
set_option linter.unusedSimpArgs false
set_option maxRecDepth 20000
namespace Go.AI.Fn
variable {s:aL} {t:Setting} {p z:List Int} {src:Source} {k:Int}
end Go.AI.Fn
set_option linter.unusedVariables false
set_option linter.unusedSimpArgs false
namespace Go.AI.Fn
def b3k (l:List ah) (P pr:List Int):List Int:=IK (2^(lgC l-1)) (2^lgC l) P pr
theorem a1l {l:List ah} (ok:OkC l) {P pr:List Int} (lP:P.length=bw l 2) (lp:pr.length+bw l 2=l.length):P.length+1≤2^(lgC l-1)∧pr.length≤2^(lgC l-1)∧2^lgC l=2^(lgC l-1)+2^(lgC l-1)∧2^lgC l≤32:=by
 have hf:=a0d ok
 have hg:=IY l
 have hp:=Nz (n:=lgC l) om
 have h5:=qF (lgC l) om
 omega
theorem a8W (v:List Int) (l:List ah):(prM v l l.length).length+bw l 2=l.length:=by
 have:=TE v l l.length (Nat.le_refl _)
 rwa [List.take_length] at this
theorem b2N {l:List ah} {P pr:List Int} (hP:eU P) (hp:eU pr):eU (b3k l P pr):=T5 hP hp
theorem a9i {l:List ah} (ok:OkC l) {P pr:List Int} (lP:P.length=bw l 2) (lp:pr.length+bw l 2=l.length):(b3k l P pr).length=2^lgC l:=by
 obtain ⟨s1,s2,s3,s4⟩:=a1l ok lP lp
 exact MK s1 om om
theorem X8 {c:Circuit} {v:List Int} (ok:OkC c.Gates) (hv:v.length=c.Gates.length):iC c v=some (prM v c.Gates c.Gates.length):=by
 have hn:=ok.n2
 unfold iC
 have key:=aH (step:=dA v c.Gates (c.Gates.length:Int) c.Gates) (fun j=>(prM v c.Gates j,(j:Int))) c.Gates.length (e:=(prM v c.Gates c.Gates.length,(c.Gates.length:Int),false)) (fun j hj=> ?_) ?_
 ·have:((prM v c.Gates 0,((0:Nat):Int)):List Int×Int)=([],0):=rfl
  rw [←this,key];rfl
 ·have hd:c.Gates.getD j ⟨0,0,0,0⟩=c.Gates[j]:=by simp [hj]
  have hl:=TE v c.Gates j om
  simp only [dA]
  rw [brd om,bN hj,obs,prM,hd,aa _ om om]
  by_cases h2:c.Gates[j].Op=2
  ·rw [y8 h2,if_pos h2,List.append_nil];rfl
  ·rw [brb h2,if_neg h2,oR om,obs,aA (by simp;omega)];rfl
 ·simp only [dA]
  rw [brn om,decide_eq_false om]
end Go.AI.Fn
set_option linter.unusedVariables false
set_option linter.unusedSimpArgs false
set_option maxRecDepth 10000
namespace Go.AI.Fn
abbrev DrS:Type:=(List ah)×Int×(List UInt8)×Int×Int
abbrev DrE:Type:=(List ah)×Int×Bool×(List UInt8)×Int×Int
noncomputable def KL (l:List ah) (t2:Int) (g:ah) (m:aD):Option (DrS⊕DrE):=
 br (aB (l++[g]).length 32) (some (.inl (l++[g],IntKind.wrap .i64 (t2+1),m.code,m.at_,m.seed))) none
noncomputable def Zi (l:List ah) (t2 op a b:Int) (m:aD):Option (DrS⊕DrE):=
 br (op==3) ((am m).bind fun r_13=>(ab 3 r_13.2).bind fun r_14=>
  br (decide (0≤r_14.1)) (br (decide (r_14.1.toNat<([0,1,r_13.1]:List Int).length)) ((([0,1,r_13.1]:List Int)[r_14.1.toNat]?).bind fun x=>
   KL l t2 ⟨op,a,b,x⟩ r_14.2) none) none) (KL l t2 ⟨op,a,b,0⟩ m)
noncomputable def a2E (l:List ah) (t2 op:Int) (m:aD):Option (DrS⊕DrE):=
 (dM op).bind fun r_9=>br (r_9==2)
  ((ab t2 m).bind fun a=>(ab t2 a.2).bind fun b=>
    br (op==7) ((aU 5 b.2).bind fun c=>br (!c.1) (Zi l t2 op a.1 a.1 c.2) (Zi l t2 op a.1 b.1 c.2)) (Zi l t2 op a.1 b.1 b.2))
  (br (r_9==1) ((ab t2 m).bind fun a=>Zi l t2 op a.1 0 a.2) (Zi l t2 op 0 0 m))
noncomputable def Yv (l:List ah) (t2:Int) (m:aD):Option (DrS⊕DrE):=
 (dM 1).bind fun r_9=>br (r_9==2)
  ((ab t2 m).bind fun a=>(ab t2 a.2).bind fun b=>KL l t2 ⟨1,a.1,b.1,0⟩ b.2)
  (br (r_9==1) ((ab t2 m).bind fun a=>KL l t2 ⟨1,a.1,0,0⟩ a.2) (KL l t2 ⟨1,0,0,0⟩ m))
noncomputable def opM (l:List ah) (t2 op:Int) (m:aD):Option (DrS⊕DrE):=
 br (op==2) ((ep ⟨l⟩ 2).bind fun r_4=>br (r_4==3) (Yv l t2 m) (a2E l t2 op m)) (a2E l t2 op m)
theorem a47 (t t2:Int) (l:List ah) (c:List UInt8) (c2 c3:Int):eJ t (l,t2,c,c2,c3)=
 br (decide (t2<t)) ((ab 8 ⟨c,c2,c3⟩).bind fun r_2=>
  br (t2==0) ((ab 3 r_2.2).bind fun r_3=>opM l t2 (IntKind.wrap .i64 (1+r_3.1)) r_3.2)
   ((aU 3 r_2.2).bind fun r_3=>br r_3.1 ((ab 3 r_3.2).bind fun r_4=>opM l t2 (IntKind.wrap .i64 (1+r_4.1)) r_4.2) (opM l t2 (IntKind.wrap .i64 (1+r_2.1)) r_3.2)))
  (some (.inr (l,t2,decide (t2<t),c,c2,c3))):=rfl
def Psh (l:List ah) (k:Nat) (op B:Int) (o:Option (DrS⊕DrE)):Prop:=
 ∃g m,o=some (.inl (l++[g],((k+1:Nat):Int),m.code,m.at_,m.seed))∧i4 g (k:Int)=true∧g.Op=op∧Src B m
theorem Uu {l:List ah} {k:Nat} {g:ah} {m:aD} {B:Int} (hl:l.length≤100) (hk:k≤100) (hg:i4 g (k:Int)=true) (h:Src B m):Psh l k g.Op B (KL l (k:Int) g m):=by
 unfold KL
 rw [aA (by simp;omega),aa _ om om]
 exact ⟨g,m,by rw [show (k:Int)+1=((k+1:Nat):Int) by omega],hg,rfl,h⟩
theorem RW {g:ah} {k:Int} (h1:1≤g.Op∧g.Op≤8) (hA:if 4≤g.Op then 0≤g.A∧g.A≤k-1 else g.A=0) (hB:if 4≤g.Op∧g.Op≤7 then 0≤g.B∧g.B≤k-1 else g.B=0) (hK:if g.Op=3 then okF g.K else g.K=0):i4 g k=true:=by
 unfold i4
 rw [decide_eq_true h1,Bool.true_and]
 have u1:decide (pJ g.Op>0)=decide (4≤g.Op):=by
  unfold pJ
  split
  ·rw [decide_eq_true om,decide_eq_true om]
  ·split
   ·rw [decide_eq_true om,decide_eq_true om]
   ·rw [decide_eq_false om,decide_eq_false om]
 have u2:decide (pJ g.Op>1)=decide (4≤g.Op∧g.Op≤7):=by
  unfold pJ
  split
  ·rename_i h;rw [decide_eq_true om,decide_eq_true h]
  ·rename_i h
   split
   ·rw [decide_eq_false om,decide_eq_false h]
   ·rw [decide_eq_false om,decide_eq_false h]
 rw [u1,u2]
 have a:br (decide (4≤g.Op)) (decide (0≤g.A∧g.A≤k-1)) (g.A==0)=true:=by
  by_cases h:4≤g.Op
  ·rw [if_pos h] at hA;rw [brd h,decide_eq_true hA]
  ·rw [if_neg h] at hA;rw [brn h,hA];rfl
 have b:br (decide (4≤g.Op∧g.Op≤7)) (decide (0≤g.B∧g.B≤k-1)) (g.B==0)=true:=by
  by_cases h:4≤g.Op∧g.Op≤7
  ·rw [if_pos h] at hB;rw [brd h,decide_eq_true hB]
  ·rw [if_neg h] at hB;rw [brn h,hB];rfl
 have c:br (g.Op==3) (vg g.K) (g.K==0)=true:=by
  by_cases h:g.Op=3
  ·rw [if_pos h] at hK;rw [bre h,CK.2 hK]
  ·rw [if_neg h] at hK;rw [bc h,hK];rfl
 rw [a,b,c];rfl
theorem O2 {l:List ah} {k:Nat} {op a b:Int} {m:aD} {B:Int} (hl:l.length≤100) (hk:k≤100) (h1:1≤op∧op≤8) (hA:if 4≤op then 0≤a∧a≤(k:Int)-1 else a=0) (hB:if 4≤op∧op≤7 then 0≤b∧b≤(k:Int)-1 else b=0)
 (h:Src B m) (hb:B+21<Big):Psh l k op (B+21) (Zi l (k:Int) op a b m):=by
 unfold Zi
 by_cases h3:op=3
 ·rw [bre h3]
  obtain ⟨x,m1,e1,ox,s1⟩:=z7 h om
  obtain ⟨y,m2,e2,y0,y1,_,s2⟩:=dY (n:=3) s1 om
  have y3:=y1 om
  rw [e1,obs,e2,obs]
  dsimp only
  rw [brd y0,brd (by simp;omega)]
  have hx: ∃z,([0,1,x]:List Int)[y.toNat]? =some z∧okF z:=by
   have:y=0∨y=1∨y=2:=by omega
   rcases this with rfl|rfl|rfl
   ·exact ⟨0,rfl,by omega,by omega⟩
   ·exact ⟨1,rfl,by omega,by omega⟩
   ·exact ⟨x,rfl,ox⟩
  obtain ⟨z,e3,oz⟩:=hx
  rw [e3,obs]
  exact Uu hl hk (RW h1 hA hB (by rw [if_pos h3];exact oz)) (s2.mono om)
 ·rw [bc h3]
  exact Uu hl hk (RW h1 hA hB (by rw [if_neg h3])) (h.mono om)
theorem a2D {l:List ah} {k:Nat} {op:Int} {m:aD} {B:Int} (hl:l.length≤100) (hk:k≤100) (h1:1≤op∧op≤8) (h4:4≤op→1≤k) (h:Src B m) (hb:B+30<Big):Psh l k op (B+30) (a2E l (k:Int) op m):=by
 unfold a2E
 rw [JT,obs]
 have up: ∀{C:Int} {o:Option (DrS⊕DrE)},C≤B+30→Psh l k op C o→Psh l k op (B+30) o:=fun hc ⟨g,m,e,hg,ho,hs⟩=>⟨g,m,e,hg,ho,hs.mono hc⟩
 have nx: ∀{C:Int} {m:aD},1≤k→Src C m→C+3<Big→ ∃x m',ab (k:Int) m=some (x,m')∧(0≤x∧x≤(k:Int)-1)∧Src (C+3) m':=fun hk1 hs hc=>by
  obtain ⟨x,m',e,x0,x1,x2,s⟩:=dY (n:=(k:Int)) hs hc
  refine ⟨x,m',e,⟨x0, ?_⟩,s⟩
  by_cases h2:1<(k:Int)
  ·have:=x1 h2;omega
  ·have:=x2 om;omega
 unfold pJ
 by_cases c1:4≤op∧op≤7
 ·rw [if_pos c1,bre rfl]
  obtain ⟨a,m1,e1,ha,s1⟩:=nx (h4 om) h om
  obtain ⟨b,m2,e2,hb',s2⟩:=nx (h4 om) s1 om
  rw [e1,obs,e2,obs]
  dsimp only
  by_cases c7:op=7
  ·rw [bre c7]
   obtain ⟨x,m3,e3,s3⟩:=qv (n:=5) s2 om
   rw [e3,obs]
   dsimp only
   cases x
   ·exact up om (O2 hl hk h1 (by rw [if_pos om];exact ha) (by rw [if_pos c1];exact ha) s3 om)
   ·exact up om (O2 hl hk h1 (by rw [if_pos om];exact ha) (by rw [if_pos c1];exact hb') s3 om)
  ·rw [bc c7]
   exact up om (O2 hl hk h1 (by rw [if_pos om];exact ha) (by rw [if_pos c1];exact hb') s2 om)
 ·rw [if_neg c1]
  by_cases c8:op=8
  ·rw [if_pos c8,bc om,bre rfl]
   obtain ⟨a,m1,e1,ha,s1⟩:=nx (h4 om) h om
   rw [e1,obs]
   exact up om (O2 hl hk h1 (by rw [if_pos om];exact ha) (by rw [if_neg c1]) s1 om)
  ·rw [if_neg c8,bc om,bc om]
   exact up om (O2 hl hk h1 (by rw [if_neg om]) (by rw [if_neg c1]) h om)
theorem a7M {l:List ah} {k:Nat} {m:aD} {B:Int} (hl:l.length≤100) (hk:k≤100) (h:Src B m):Psh l k 1 B (Yv l (k:Int) m):=by
 unfold Yv
 rw [JT,obs]
 show Psh l k 1 B (KL l (k:Int) ⟨1,0,0,0⟩ m)
 exact Uu hl hk (RW (g:=⟨1,0,0,0⟩) (by simp) (by simp) (by simp) (by simp)) h
theorem c1r {l:List ah} {k:Nat} {op:Int} {m:aD} {B:Int} (hl:l.length≤100) (hk:k≤100) (h1:1≤op∧op≤8) (h4:4≤op→1≤k) (hp:bw l 2≤3) (h:Src B m) (hb:B+30<Big):
 ∃g m',opM l (k:Int) op m=some (.inl (l++[g],((k+1:Nat):Int),m'.code,m'.at_,m'.seed))∧i4 g (k:Int)=true∧bw (l++[g]) 2≤3∧Src (B+30) m':=by
 unfold opM
 by_cases c2:op=2
 ·rw [bre c2,qE (by show l.length≤_;omega),obs]
  by_cases c3:(bw l 2:Int)=3
  ·rw [bre c3]
   obtain ⟨g,m',e,hg,ho,hs⟩:=a7M hl hk h
   refine ⟨g,m',e,hg, ?_,hs.mono om⟩
   rw [fM,if_neg (by rw [ho];decide)];omega
  ·rw [bc c3]
   obtain ⟨g,m',e,hg,ho,hs⟩:=a2D hl hk h1 h4 h hb
   refine ⟨g,m',e,hg, ?_,hs⟩
   rw [fM];split<;>omega
 ·rw [bc c2]
  obtain ⟨g,m',e,hg,ho,hs⟩:=a2D hl hk h1 h4 h hb
  refine ⟨g,m',e,hg, ?_,hs⟩
  rw [fM,if_neg (by rw [ho];simpa using c2)];omega
theorem a0C {m:aD} {B:Int} (h:Src B m) (hb:B+1000<Big): ∃l m',iG m=some (⟨l⟩,m')∧OkC l∧l.length≤9∧bw l 2≤3∧Src (B+500) m':=by
 unfold iG
 obtain ⟨n,m1,e1,n0,n1,_,s1⟩:=dY (n:=9) h om
 have n9:=n1 om
 rw [e1,obs]
 dsimp only
 rw [aa _ om om]
 obtain ⟨⟨l,i,b,c,a,s⟩,g1,g2⟩:=jw (step:=eJ (1+n))
  (fun s=> ∃k:Nat,s.1.length=k∧s.2.1=(k:Int)∧(k:Int)≤1+n∧(∀(j:Nat) (hj:j<s.1.length),i4 s.1[j] (j:Int)=true)∧bw s.1 2≤3∧Src (B+3+40*k) ⟨s.2.2.1,s.2.2.2.1,s.2.2.2.2⟩) (fun s=>(1+n-s.2.1).toNat)
  (fun e=>(e.1.length:Int)=1+n∧(∀(j:Nat) (hj:j<e.1.length),i4 e.1[j] (j:Int)=true)∧bw e.1 2≤3∧Src (B+500) ⟨e.2.2.2.1,e.2.2.2.2.1,e.2.2.2.2.2⟩)
  (fun s=>by
   obtain ⟨l,i,c,a,sd⟩:=s
   rintro ⟨k,hl,hi,hk,hg,hp,hs⟩
   dsimp only at hl hi hg hp hs
   subst hi
   rw [a47]
   by_cases c1:(k:Int)<1+n
   ·left
    rw [brd c1]
    have fin: ∀{op:Int} {m:aD} {C:Int},(1≤op∧op≤8)→(4≤op→1≤k)→Src C m→C≤B+3+40*k+10→
     ∃s',opM l (k:Int) (IntKind.wrap .i64 op) m=some (.inl s')∧(∃k:Nat,s'.1.length=k∧s'.2.1=(k:Int)∧(k:Int)≤1+n∧(∀(j:Nat) (hj:j<s'.1.length),i4 s'.1[j] (j:Int)=true)∧bw s'.1 2≤3∧Src (B+3+40*k) ⟨s'.2.2.1,s'.2.2.2.1,s'.2.2.2.2⟩)∧(1+n-s'.2.1).toNat<(1+n-(k:Int)).toNat:=by
     intro op m C h1 h4 hs hC
     rw [aa op om om]
     obtain ⟨g,m',e,g0,g1,g2⟩:=c1r (l:=l) (k:=k) om om h1 h4 hp hs om
     refine ⟨_,e,⟨k+1,by simp [hl],rfl,by omega,fun j hj=> ?_,g1,g2.mono om⟩,by dsimp only;omega⟩
     dsimp only at hj ⊢
     rw [List.getElem_append]
     split
     ·rename_i hj2;exact hg j hj2
     ·rename_i hj2
      have:j=k:=by simp at hj;omega
      subst this
      simpa using g0
    obtain ⟨x,m2,e2,x0,x1,_,s2⟩:=dY (n:=8) hs om
    have x8:=x1 om
    rw [e2,obs]
    dsimp only
    by_cases c0:(k:Int)=0
    ·rw [bre c0]
     obtain ⟨y,m3,e3,y0,y1,_,s3⟩:=dY (n:=3) s2 om
     have y3:=y1 om
     rw [e3,obs]
     exact fin ⟨by dsimp only;omega,by dsimp only;omega⟩ (fun h=>by dsimp only at h;omega) s3 om
    ·rw [bc c0]
     obtain ⟨y,m3,e3,s3⟩:=qv (n:=3) s2 om
     rw [e3,obs]
     dsimp only
     cases y
     ·exact fin ⟨by omega,by omega⟩ (fun _=>by omega) s3 om
     ·obtain ⟨z,m4,e4,z0,z1,_,s4⟩:=dY (n:=3) s3 om
      have z3:=z1 om
      rw [bM,e4,obs]
      exact fin ⟨by dsimp only;omega,by dsimp only;omega⟩ (fun h=>by dsimp only at h;omega) s4 om
   ·right
    rw [brn c1]
    exact ⟨_,rfl,by dsimp only;omega,hg,hp,hs.mono om⟩)
  ([],0,m1.code,m1.at_,m1.seed) ⟨0,rfl,rfl,by omega,fun j hj=>by simp at hj,by simp [bw],s1.mono om⟩
 rw [g1,obs]
 obtain ⟨g3,g4,g5,g6⟩:=g2
 dsimp only at g3 g4 g5 g6
 exact ⟨l,_,rfl,⟨by omega,by omega,g4,by omega⟩,by omega,g5,g6⟩
theorem Rs {code:List UInt8} (h:code.length≤1048600): ∃l,sU code=some ⟨l⟩∧OkC l∧l.length≤9∧bw l 2≤3:=by
 unfold sU
 obtain ⟨m,e,hm⟩:=uQ h
 obtain ⟨l,m',e2,h2,h3,h4,_⟩:=a0C hm (by decide)
 rw [e,obs,e2]
 exact ⟨l,rfl,h2,h3,h4⟩
end Go.AI.Fn
set_option linter.unusedVariables false
set_option linter.unusedSimpArgs false
namespace Go.AI.Fn
theorem R2 {a b:List Int} {g:List ah} {n:Nat} (hn:n≤100) {m:aD} {B:Int} (h:Src B m) (hb:B+4000<Big):
 ∃l m',Loop (cw a b g) ([],(n:Int),m.code,m.at_,m.seed)=some (l,0,false,m'.code,m'.at_,m'.seed)∧l.length=n∧eU l∧Src (B+30*n) m':=by
 obtain ⟨⟨l,k,f,c,at_,sd⟩,g1,g2⟩:=jw (step:=cw a b g)
  (fun s=>0≤s.2.1∧(s.1.length:Int)+s.2.1=n∧eU s.1∧Src (B+30*(n-s.2.1)) ⟨s.2.2.1,s.2.2.2.1,s.2.2.2.2⟩) (fun s=>s.2.1.toNat)
  (fun e=>e.2.1=0∧e.2.2.1=false∧e.1.length=n∧eU e.1∧Src (B+30*n) ⟨e.2.2.2.1,e.2.2.2.2.1,e.2.2.2.2.2⟩)
  (fun s=>by
   obtain ⟨l,k,c,at_,sd⟩:=s
   rintro ⟨k0,hl,ho,hs⟩
   dsimp only at k0 hl ho hs
   simp only [cw]
   by_cases c1:k>0
   ·left
    obtain ⟨x,m1,e1,x0,x1,_,s1⟩:=dY (n:=2) hs om
    have x2:=x1 om
    obtain ⟨y,m2,e2,s2⟩:=qv (n:=5) s1 om
    rw [brd c1,e1,obs]
    dsimp only
    rw [e2,obs,aa _ om om]
    dsimp only
    cases y
    ·rw [aK,aA (by simp;omega)]
     refine ⟨_,rfl,⟨by dsimp only;omega,by simp;omega,fun z hz=> ?_,s2.mono (by dsimp only;omega)⟩,by dsimp only;omega⟩
     rcases List.mem_append.1 hz with hz|hz
     ·exact ho z hz
     ·rw [List.mem_singleton] at hz;subst hz;exact ⟨x0,by omega⟩
    ·obtain ⟨w,m3,e3,ow,s3⟩:=z7 s2 om
     rw [bM,e3,obs]
     dsimp only
     rw [aA (by simp;omega)]
     refine ⟨_,rfl,⟨by dsimp only;omega,by simp;omega,fun z hz=> ?_,s3.mono (by dsimp only;omega)⟩,by dsimp only;omega⟩
     rcases List.mem_append.1 hz with hz|hz
     ·exact ho z hz
     ·rw [List.mem_singleton] at hz;subst hz;exact ow
   ·right
    rw [brn c1]
    exact ⟨_,rfl,by dsimp only;omega,by dsimp only;rw [decide_eq_false c1],by dsimp only;omega,ho,hs.mono om⟩)
  ([],(n:Int),m.code,m.at_,m.seed) ⟨by dsimp only;omega,by simp,(fun x hx=>by cases hx),h.mono (by simp)⟩
 obtain ⟨h1,h2,h3,h4,h5⟩:=g2
 dsimp only at h1 h2 h3 h4 h5
 subst h1 h2
 exact ⟨l,⟨c,at_,sd⟩,g1,h3,h4,h5⟩
theorem a3y {a b d e:List Int} {g g':List ah} (s:List Int×Int×List UInt8×Int×Int):fj a b g s=cw d e g' s:=rfl
theorem a4g {l:List ah} (hl:l.length≤100) {m:aD} {B:Int} (h:Src B m) (hb:B+10000<Big):
 ∃P I m',jC ⟨l⟩ m=some (P,I,m')∧eU P∧eU I∧P.length=bw l 2∧I.length=bw l 1∧Src (B+6000) m':=by
 have n2:=gB l 2
 have n1:=gB l 1
 unfold jC
 rw [qE (by show l.length≤_;omega),obs]
 dsimp only
 obtain ⟨P,m1,e1,lP,oP,s1⟩:=R2 (a:=[]) (b:=[2,1]) (g:=l) (n:=bw l 2) om h om
 rw [e1,obs,qE (by show l.length≤_;omega),obs]
 dsimp only
 rw [show fj P [2,1] l=cw P [2,1] l from funext fun s=>a3y s]
 obtain ⟨I,m2,e2,lI,oI,s2⟩:=R2 (a:=P) (b:=[2,1]) (g:=l) (n:=bw l 1) om s1 om
 rw [e2,obs]
 exact ⟨P,I,m2,rfl,oP,oI,lP,lI,s2.mono om⟩
theorem XW {code:List UInt8} (h:code.length≤1048600) {l:List ah} (hl:l.length≤100): ∃P I,w6 code ⟨l⟩=some ⟨P,I⟩∧eU P∧eU I∧P.length=bw l 2∧I.length=bw l 1:=by
 unfold w6
 obtain ⟨m,e,hm⟩:=uQ h
 obtain ⟨P,I,m',e2,h2,h3,h4,h5,_⟩:=a4g hl hm (by decide)
 rw [e,obs,e2]
 exact ⟨P,I,rfl,h2,h3,h4,h5⟩
end Go.AI.Fn
set_option linter.unusedVariables false
set_option linter.unusedSimpArgs false
namespace Go.AI.Fn
structure c4a (l:List ah) (P I:List Int):Prop where
 rc:a5e ⟨l⟩ P I
 fit:l.all (ij (rnM P I l l.length))=true
 n9:l.length≤9
 p3:bw l 2≤3
end Go.AI.Fn
set_option linter.unusedVariables false
set_option linter.unusedSimpArgs false
set_option maxRecDepth 20000
namespace Go.AI.Fn
def pN:il:=⟨[],[],⟨0,0⟩,⟨0,0⟩,⟨0,0⟩,[],⟨0,0⟩,⟨[],[],⟨0,0⟩,0,[]⟩⟩
noncomputable def pfR (s:aL) (t:Setting) (p z:List Int) (src:Source):il×Int:=if (pO s t p z src).2.2=true then (b7u s t p z src,0) else (pN,14)
theorem Kn {s:aL} {t:Setting} {p z:List Int} {src:Source} {k:Int} (h:a3v s t p src) (hf:Few src k) (hk:k≤700) (hz:eU z) (lz:z.length=2^s.Cols.toNat):ze s t p z src=some (pfR s t p z src):=by
 unfold ze pfR
 rw [Ye (by have:=h.fw.1.1;omega),obs,YW h hf hk hz lz,obs]
 dsimp only
 cases (pO s t p z src).2.2
 ·rfl
 ·rfl
theorem VV (s:aL) (t:Setting) (p z:List Int) (src:Source):(pfR s t p z src).2=0∨(pfR s t p z src).2=14:=by
 unfold pfR;split
 ·exact .inl rfl
 ·exact .inr rfl
theorem c0f {l:List ah} {P I:List Int} {t:Setting} {src:Source} {k:Int} (rc:a5e ⟨l⟩ P I) (ht:setB t=true) (hf:Few src k) (hk:k≤700):a3v (MD l) t P src:=by
 have n2:=gB l 2
 have hn:l.length≤15:=rc.ok.n2
 have lP:P.length=bw l 2:=rc.lP
 exact ⟨b0t rc.ok,ht,by omega,rc.hP,by show (P.length:Int)=((bw l 2:Nat):Int);omega,hf.mono om⟩
theorem GL {l:List ah} {P I:List Int} {t:Setting} {src:Source} {k:Int} (rc:a5e ⟨l⟩ P I) (ht:setB t=true) (hf:Few src k) (hk:k≤700):
 kW ⟨l⟩ t P I src=some (if l.all (ij (rnM P I l l.length))=true then pfR (MD l) t P (b3k l P (prM (rnM P I l l.length) l l.length)) src else (pN,15)):=by
 have hn:l.length≤15:=rc.ok.n2
 have n2:=gB l 2
 have lP:P.length=bw l 2:=rc.lP
 have hv:=SI rc.ok rc.hP rc.hI rc.lP rc.lI l.length (Nat.le_refl _)
 have hpr:=b0m hv (xl P I l l.length) l.length (Nat.le_refl _)
 have hpl:=a8W (rnM P I l l.length) l
 obtain ⟨s1,s2,s3,s4⟩:=a1l rc.ok lP hpl
 obtain ⟨n,e,n0,n1⟩:=b6C hf om
 unfold kW
 rw [Iw (by show l.length≤_;omega),obs,a9X rc,y8 rfl,CU,obs,ht,Bool.not_true,aK,Ts hf.1,obs,Bool.not_true,aK,e,obs,brn om,
  Ya rc.ok rc.hP rc.hI rc.lP rc.lI,obs]
 by_cases hfit:l.all (ij (rnM P I l l.length))=true
 ·rw [if_pos hfit,if_pos hfit]
  dsimp only
  rw [Bool.not_true,aK,Wh rc.ok,obs,X8 rc.ok (xl P I l l.length),obs]
  dsimp only
  have hvec:dU (MD l) P (prM (rnM P I l l.length) l l.length)=some (b3k l P (prM (rnM P I l l.length) l l.length)):=D7 (b0t rc.ok) s1 s2
  rw [hvec,obs,Kn (c0f rc ht hf hk) hf hk (b2N rc.hP hpr) (a9i rc.ok lP hpl),obs]
 ·rw [if_neg hfit,if_neg hfit];rfl
theorem Tk {s:aL} (hs:kY s=true) {P pr:List Int} (hP:eU P) (hp:eU pr) (lP:(P.length:Int)=s.Publics) (lp:pr.length≤gU s):vY s P pr=some (IK (gU s) (2^s.Cols.toNat) P pr,0):=by
 obtain ⟨_,hc,hb,lA,lB,lC⟩:=j8 hs
 obtain ⟨_,hpub⟩:=RT hs
 have h5:=qF (s.Cols.toNat-1) om
 have hh:gU s=2^(s.Cols.toNat-1):=rfl
 unfold vY
 rw [brn om,brn om,xT om om om,obs,hs,Bool.not_true,aK,qH om,obs,zr hP,Bool.not_true,aK,
  qH om,obs,zr hp,Bool.not_true,aK,y8 lP,Dk hs,obs,brn om,D7 hs om lp,obs]
theorem YJ {s:aL} {t:Setting} {P pr:List Int} {src:Source} {k:Int} (h:a3v s t P src) (hf:Few src k) (hk:k≤700) (hp:eU pr) (lp:pr.length≤gU s):
 Gn s t P pr src=some (if Z6 s (IK (gU s) (2^s.Cols.toNat) P pr)=true then pfR s t P (IK (gU s) (2^s.Cols.toNat) P pr) src else (pN,15)):=by
 obtain ⟨_,hc,hb,lA,lB,lC⟩:=j8 h.sy
 obtain ⟨_,hpub⟩:=RT h.sy
 have hpl:=h.pl
 have hpe:=h.pe
 have hsl:=h.fw.1.1
 have h5:=qF (s.Cols.toNat-1) om
 have hh:gU s=2^(s.Cols.toNat-1):=rfl
 have hth:=BQ h.sy
 have hz:eU (IK (gU s) (2^s.Cols.toNat) P pr):=T5 h.pf hp
 have lz:=MK (h:=gU s) (n:=2^s.Cols.toNat) (pub:=P) (priv:=pr) om om om
 have hst:stC s t P src=0:=by
  unfold stC
  have:=b0g (a:=src.At) (b:=src.Count) (c:=k) hf.2 hf.3
  rw [if_neg om,h.sy,if_neg (by simp),h.se,if_neg (by simp),zr h.pf,if_neg (by simp),Nm.2 hf.1,if_neg (by simp),if_neg om,if_neg om]
 obtain ⟨r,e,hr⟩:=Ki h.sy hz lz
 unfold Gn
 rw [brn om,Mq om om om om om,obs,hst,y8 rfl,qH om,obs,zr hp,Bool.not_true,aK,Dk h.sy,obs,brn om,D7 h.sy om lp,obs,e,obs]
 by_cases hs:Z6 s (IK (gU s) (2^s.Cols.toNat) P pr)=true
 ·rw [hs,decide_eq_true_eq] at hr
  rw [brn om,if_pos hs,Kn h hf hk hz lz,obs]
 ·rw [Bool.not_eq_true] at hs
  rw [hs,decide_eq_false_iff_not] at hr
  rw [brd om,hs];rfl
end Go.AI.Fn
set_option linter.unusedVariables false
namespace Go.AI.Fn
theorem b7I (c:Int) (h:c=0∨c=14):br (c==0) (some true) (some (c==14))=some true:=by
 rcases h with rfl|rfl<;>rfl
theorem c0g (c:Int) (x:Option Bool) (h:c=0∨c=14):br (c==0) (some true) (br (c==14) (some true) x)=some true:=by
 rcases h with rfl|rfl<;>rfl
theorem law_FnUnsatisfied (a b:List UInt8) (ha:bdL bdT a) (hb:bdL bdT b):mX a b=some true:=by
 unfold mX
 by_cases c1:((a.length:Nat):Int)>1048576
 ·rw [brd c1]
 rw [brn c1]
 by_cases c2:((b.length:Nat):Int)>1048576
 ·rw [brd c2]
 rw [brn c2]
 obtain ⟨l,e1,ok,l9,_⟩:=Rs (code:=a) om
 obtain ⟨P,I,e2,hP,hI,lP,lI⟩:=XW (code:=b) om (l:=l) om
 obtain ⟨t,e3,t1,t2,t3⟩:=Uy (code:=a) om
 obtain ⟨src,e4,hf⟩:=UM (code:=b) om
 have rc:a5e ⟨l⟩ P I:=⟨ok,hP,hI,lP,lI⟩
 have hc:(Circuit.mk l).Gates.length≤1048576:=by show l.length≤_;omega
 have ht:setB t=true:=by
  unfold setB
  rw [decide_eq_true om,decide_eq_true om,decide_eq_true om];rfl
 rw [e1,obs,e2,obs,e3,obs,e4,obs]
 dsimp only
 rw [LM hc,obs,LW hc,obs,GL rc ht hf om,obs,y8 rfl,D5 hc,obs]
 have hb:AO (Circuit.mk l).Gates=true:=VT ok
 rw [hb,Bool.not_true,aK]
 have hr:a44 ⟨l⟩ P I=if l.all (ij (rnM P I l l.length))=true then (rnM P I l l.length,0) else ([],15):=by unfold a44;rw [if_pos (a9X rc)]
 by_cases hfit:l.all (ij (rnM P I l l.length))=true
 ·rw [if_pos hfit] at hr
  rw [hr,if_pos hfit,bre rfl]
  exact b7I _ (VV _ _ _ _ _)
 ·rw [if_neg hfit] at hr
  obtain ⟨s,e5,hs,s1,s2⟩:=Ms (code:=a) om
  obtain ⟨hR,hC,hpb,_⟩:=j8 hs
  obtain ⟨p,e6,lp,op⟩:=In (code:=b) (n:=s.Publics) om hpb.1 om
  obtain ⟨q,e7,lq,oq⟩:=In (code:=b) (n:=1) om om om
  have h5:=qF (s.Cols.toNat-1) om
  have hh:gU s=2^(s.Cols.toNat-1):=rfl
  have hth:=BQ hs
  obtain ⟨_,hpub⟩:=RT hs
  have lz:=MK (h:=gU s) (n:=2^s.Cols.toNat) (pub:=p) (priv:=q) om om om
  have st:a3v s t p src:=⟨hs,ht,by omega,op,lp,hf.mono om⟩
  rw [hr,if_neg hfit,bc (by decide),e5,obs,e6,obs,e7,obs,Tk hs op oq lp om,obs]
  dsimp only
  rw [Ol hs (T5 op oq) lz,obs,YJ st hf om oq om,obs]
  dsimp only
  rw [bre rfl,bre rfl,bre rfl]
  cases hsat:Z6 s (IK (gU s) (2^s.Cols.toNat) p q)
  ·rfl
  ·rw [bM,if_pos rfl]
   exact c0g _ _ (VV _ _ _ _ _)
end Go.AI.Fn
