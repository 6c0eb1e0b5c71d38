/- Maps of pairs of numbers: the machine's words on lists. -/
import Derived.Test.YtgjlndaebhaciaaAiAdd
import Derived.Test.YtgjlndaebhaciaaAiSrt
set_option linter.unusedVariables false
set_option linter.unusedSimpArgs false
namespace Go.AI
theorem cj (t:Tri) (L:List Tri):ak (t::L)= .lit (.int .i64 t.1):: .lit (.int .i64 t.2.1):: .lit (.int .i64 t.2.2)::ak L:=rfl
theorem NQ:([]:List V)=ak []:=rfl
section
variable {C:aB} {ow:be} {ev:Opd→V} {h:ah} {n:Nat} {L:List Tri} {bs:List Nat}
theorem RG (b:Nat):(V.mp b).cz= .mp b:=rfl
theorem OT (b:Nat):(V.mp b).czA= .mp b:=rfl
theorem Qv (b:Nat):(V.mp b).czR= .mp b:=rfl
def lcM (k:Option Blk) (ids:List Nat) (b:Nat):Option (V×List Nat×List Nat):=match k with
 |some _=>some (.mp (cM b (bL ids b)),bL ids b,[])
 |none=>none
theorem Rt (own:Bool) (ids:List Nat) (b:Nat):aU h own ids (.mp b)=lcM (h b) ids b:=rfl
theorem Sg (own:Bool) (ids:List Nat) (b:Nat):bp h own ids (.mp b)=lcM (h b) ids b:=rfl
theorem Er (k:Blk) (ids:List Nat) (b:Nat):lcM (some k) ids b=some (.mp (cM b (bL ids b)),bL ids b,[]):=rfl
theorem EK (ids:List Nat) (b:Nat):jY ids (.mp b)= .mp (ids.getD b 0):=rfl
theorem Gc (ids:List Nat) (b:Nat):dn ids (.mp b)= .mp (ids.getD b 0):=rfl
theorem OY (ids:List Nat) (b:Nat):unV ids (.mp b)= .mp (ids.getD b 0):=rfl
theorem RN (b:Nat):fY (.mp b)=true:=rfl
theorem P7 (b:Nat):kW (.mp b)=true:=rfl
theorem Oj (b:Nat):eH (.mp b)=true:=rfl
def fcM (m:Nat) (kp:List Nat) (b:Nat):Option V:=br (Nat.blt b m) (some (.mp b)) (br (kp.contains b) (some (.mp (m+cM b kp))) none)
theorem uF (m:Nat) (kp:List Nat) (b:Nat):ew h m kp (.mp b)=fcM m kp b:=by
 rw [fcM,lK]
 simp only [ew]
 by_cases h1:b<m
 ·simp [h1,br]
 ·by_cases h2:b∈kp<;>simp [h1,h2,br]
theorem Kr (m:Nat) (kp:List Nat) (b:Nat):lL h m kp (.mp b)=fcM m kp b:=uF (h:=h) m kp b
theorem Mi (m:Nat) (kp:List Nat) (b:Nat):nl h m kp (.mp b)=fcM m kp b:=uF (h:=h) m kp b
theorem NE (m:Nat) (kp:List Nat) (b:Nat):fcM m kp b=br (Nat.blt b m) (some (.mp b)) (br (kp.contains b) (some (.mp (m+cM b kp))) none):=rfl
theorem GO (b:Nat):(V.mp b).cells=[.mp b]:=rfl
theorem Ko (b:Nat):(V.mp b).cell=true:=rfl
theorem N0 (b:Nat):fzA h bs (.mp b)=br (bs.contains b) .undef (.mp b):=by
 simp only [fzA,fzC]
 by_cases hb:b∈bs<;>simp [hb,br]
theorem NM (b:Nat):fzC h bs (.mp b)=br (bs.contains b) .undef (.mp b):=N0 (h:=h) b
theorem Pt (b:Nat):okC (.mp b)=true:=rfl
theorem Qs (b:Nat):bK (.mp b)=[b]:=rfl
theorem OR (b:Nat):ft (.mp b)=[b]:=rfl
theorem Rd:(ak L).map V.cz=ak L:=by
 induction L with
 |nil=>rfl
 |cons a l ih=>rw [cj,List.map_cons,List.map_cons,List.map_cons,ih];rfl
theorem NW (ids:List Nat):(ak L).map (unV ids)=ak L:=by
 induction L with
 |nil=>rfl
 |cons a l ih=>rw [cj,List.map_cons,List.map_cons,List.map_cons,ih];rfl
theorem IQ (ids:List Nat):(ak L).map (dn ids)=ak L:=by
 induction L with
 |nil=>rfl
 |cons a l ih=>rw [cj,List.map_cons,List.map_cons,List.map_cons,ih];rfl
theorem P1 (bs:List Nat):(ak L).map (fzC h bs)=ak L:=by
 induction L with
 |nil=>rfl
 |cons a l ih=>rw [cj,List.map_cons,List.map_cons,List.map_cons,ih];rfl
theorem LF:(ak L).all V.cell=true:=by
 induction L with
 |nil=>rfl
 |cons a l ih=>rw [cj,List.all_cons,List.all_cons,List.all_cons,ih];rfl
theorem Fs:(ak L).all eH=true:=by
 induction L with
 |nil=>rfl
 |cons a l ih=>rw [cj,List.all_cons,List.all_cons,List.all_cons,ih];rfl
theorem Kj:(ak L).flatMap ft=[]:=by
 induction L with
 |nil=>rfl
 |cons a l ih=>rw [cj,List.flatMap_cons,List.flatMap_cons,List.flatMap_cons,ih];rfl
theorem JP:(ak L).flatMap bK=[]:=by
 induction L with
 |nil=>rfl
 |cons a l ih=>rw [cj,List.flatMap_cons,List.flatMap_cons,List.flatMap_cons,ih];rfl
theorem sB (m:Nat) (kp:List Nat):jo h m kp (ak L)=some (ak L):=by
 induction L with
 |nil=>rfl
 |cons a l ih=>rw [cj,j0,j0,j0,ih];rfl
theorem Ll (ids:List Nat):ff h ids (ak L)=some (ak L,ids):=by
 induction L with
 |nil=>rfl
 |cons a l ih=>rw [cj,j1,rE,mK,j1,rE,mK,j1,rE,mK,ih];rfl
def mgB:Option Blk→Option (List Tri)
 |some ⟨0,true,[cs]⟩=>pI cs
 |_=>none
theorem PN:mgB (some ⟨0,true,[ak L]⟩)=some L:=fm L
theorem Ik (b:Nat):fj h (.mp b)=(mgB (h b)).bind fun L=>some (b,L):=by
 unfold fj mgB
 split
 ·rename_i e;cases e
  split
  ·rename_i cs hb;rw [hb];cases hd:pI cs<;>simp [hd]
  ·rename_i hn
   split
   ·rename_i cs hb;exact absurd hb (hn cs)
   ·rfl
 ·rename_i hn;exact absurd rfl (hn b)
def mkS (o:Option Blk) (n:Nat):Option (V×Upd):=br o.isNone (some (.mp n,[(n,⟨0,true,[ak []]⟩)])) none
theorem Jw:ae C ow .mkMap ev h n=mkS (h n) n:=by
 simp only [ae,mkS]
 cases (h n).isNone<;>rfl
theorem HZ:mkS none n=some (.mp n,[(n,⟨0,true,[ak []]⟩)]):=rfl
def mgS (o:Option (Nat×List Tri)) (k:V):Option (V×Upd):=match o,mapKey k with
 |some (_,L),some (a,b)=>some (.lit (.int .i64 (bU a b L)),[])
 |_,_=>none
theorem Ho (m k:Opd):ae C ow (.mapGet m k) ev h n=mgS (fj h (ev m)) (ev k):=rfl
theorem FK (p:Nat) (a b:Int):mgS (some (p,L)) (.agg [.lit (.int .i64 a),.lit (.int .i64 b)])=some (.lit (.int .i64 (bU a b L)),[]):=rfl
def msS (o:Option (Nat×List Tri)) (k x:V):Option (V×Upd):=match o,mapKey k,x with
 |some (p,L),some (a,b),.lit (.int .i64 v)=>some (.undef,[(p,⟨0,true,[ak (bX a b v L)]⟩)])
 |_,_,_=>none
theorem GL (m k x:Opd):ae C ow (.mapSet m k x) ev h n=msS (fj h (ev m)) (ev k) (ev x):=rfl
theorem IF (p:Nat) (a b v:Int):msS (some (p,L)) (.agg [.lit (.int .i64 a),.lit (.int .i64 b)]) (.lit (.int .i64 v))=some (.undef,[(p,⟨0,true,[ak (bX a b v L)]⟩)]):=rfl
def meS (o:Option (Nat×List Tri)) (k:V):Option (V×Upd):=match o,mapKey k with
 |some (p,L),some (a,b)=>some (.tup [.lit (.int .i64 (bU a b L)),.lit (.int .i64 (iq a b L))],[(p,⟨0,true,[ak (mR a b L)]⟩)])
 |_,_=>none
theorem II (m k:Opd):ae C ow (.mapEnt m k) ev h n=meS (fj h (ev m)) (ev k):=rfl
theorem Ez (p:Nat) (a b:Int):meS (some (p,L)) (.agg [.lit (.int .i64 a),.lit (.int .i64 b)])=some (.tup [.lit (.int .i64 (bU a b L)),.lit (.int .i64 (iq a b L))],[(p,⟨0,true,[ak (mR a b L)]⟩)]):=rfl
def mpS (o:Option (Nat×List Tri)) (i x:V):Option (V×Upd):=match o,i,x with
 |some (p,L),.lit (.int .i64 i),.lit (.int .i64 v)=>if 0≤i∧i<L.length then some (.undef,[(p,⟨0,true,[ak (Fj i.toNat v L)]⟩)]) else none
 |_,_,_=>none
theorem Fo (m i x:Opd):ae C ow (.mapPut m i x) ev h n=mpS (fj h (ev m)) (ev i) (ev x):=rfl
theorem Mb (a b:Int): ∀L:List Tri,iq a b L<(mR a b L).length:=by
 have hle: ∀L:List Tri,iq a b L≤L.length:=by
  intro L
  induction L with
  |nil=>simp [iq]
  |cons t r ih=>
   obtain ⟨x,y,u⟩:=t
   simp only [iq]
   split<;>simp<;>omega
 intro L
 unfold mR
 split
 ·assumption
 ·simp;have:=hle L;omega
theorem uz (a b v:Int): ∀L:List Tri,Fj (iq a b L) v (mR a b L)=bX a b v L
 |[]=>rfl
 | (x,y,u)::r=>by
   have ih:=uz a b v r
   simp only [iq,bX]
   by_cases hk:a=x∧b=y
   ·rw [if_pos hk,if_pos hk]
    have hm:iq a b ((x,y,u)::r)=0:=by simp only [iq];rw [if_pos hk]
    have:mR a b ((x,y,u)::r)=(x,y,u)::r:=by unfold mR;rw [if_pos (by rw [hm];simp)]
    rw [this,hk.1,hk.2];rfl
   ·rw [if_neg hk,if_neg hk]
    have hm:iq a b ((x,y,u)::r)=iq a b r+1:=by simp only [iq];rw [if_neg hk]
    have:mR a b ((x,y,u)::r)=(x,y,u)::mR a b r:=by
     unfold mR
     by_cases hl:iq a b r<r.length
     ·rw [if_pos hl,if_pos (by rw [hm];simpa using hl)]
     ·rw [if_neg hl,if_neg (by rw [hm];simpa using hl)];rfl
    rw [this, ←ih];rfl
theorem BB (p:Nat) (a b v:Int):mpS (some (p,mR a b L)) (.lit (.int .i64 (iq a b L))) (.lit (.int .i64 v))=some (.undef,[(p,⟨0,true,[ak (bX a b v L)]⟩)]):=by
 have:=Mb a b L
 simp only [mpS]
 rw [if_pos ⟨by omega,by omega⟩,Int.toNat_natCast,uz]
theorem R9 (p:Nat) (a b v:Int):mpS (some (p,mR a b L)) (I (iq a b L)) (I v)=some (.undef,[(p,⟨0,true,[ak (bX a b v L)]⟩)]):=BB p a b v
theorem Ix:bT ow .mkMap ev h=[]:=rfl
theorem D1 (m k:Opd):bT ow (.mapGet m k) ev h=((AOp.mapGet m k).opds.map ev).flatMap bK:=rfl
theorem D0 (m k x:Opd):bT ow (.mapSet m k x) ev h=((AOp.mapSet m k x).opds.map ev).flatMap bK:=rfl
theorem C9 (m k:Opd):bT ow (.mapEnt m k) ev h=((AOp.mapEnt m k).opds.map ev).flatMap bK:=rfl
theorem Cv (m k x:Opd):bT ow (.mapPut m k x) ev h=((AOp.mapPut m k x).opds.map ev).flatMap bK:=rfl
theorem Co (m k:Opd):(AOp.mapGet m k).opds=[m,k]:=rfl
theorem Ei (m k x:Opd):(AOp.mapSet m k x).opds=[m,k,x]:=rfl
theorem BI (m k:Opd):(AOp.mapEnt m k).opds=[m,k]:=rfl
theorem Cr (m k x:Opd):(AOp.mapPut m k x).opds=[m,k,x]:=rfl
end
attribute [go_sem] RG OT Qv Rt Sg Er EK Gc OY RN P7 Oj uF Kr Mi NE GO Ko N0 NM Pt Qs OR
attribute [go_sem] Rd NW IQ P1 LF Fs Kj JP sB Ll PN Ik Jw HZ Ho FK GL IF II Ez Fo BB
attribute [go_sem] Ix D1 D0 C9 Cv Co Ei BI Cr
def eA2 {α:Type} (e:En α):En (α×α):=⟨2,fun x=>e.enc x.1++e.enc x.2⟩
theorem MB:(eA2 eI).esz=2:=by decide
theorem Jp (x:Int×Int):(eA2 eI).enc x=[I x.1,I x.2]:=rfl
theorem Pq (a b:Int) (l:List (Int×Int)):bD [I a,I b] (rws (eA2 eI) l)=rws (eA2 eI) ((a,b)::l):=rfl
theorem RO (a b:Int) (l:List (Int×Int)) (i:Nat):cG (rws (eA2 eI) l) i [I a,I b]=rws (eA2 eI) (l.set i (a,b)):=by simp [cG,rws,eA2];rfl
attribute [go_sem] MB Jp Pq RO
end Go.AI
