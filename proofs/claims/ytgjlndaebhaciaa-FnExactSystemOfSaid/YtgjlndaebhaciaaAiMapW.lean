/- Maps of pairs of numbers: the machine's words on lists. -/
import Derived.Test.YtgjlndaebhaciaaAiAdd
import Derived.Test.YtgjlndaebhaciaaAiSrt
set_option linter.unusedVariables false
set_option linter.unusedSimpArgs false
namespace Go.AI
theorem cj (t:Tri) (L:List Tri):ak (t::L)= .lit (.int .i64 t.1):: .lit (.int .i64 t.2.1):: .lit (.int .i64 t.2.2)::ak L:=rfl
theorem PL:([]:List V)=ak []:=rfl
section
variable {C:aB} {ow:bf} {ev:Opd→V} {h:ah} {n:Nat} {L:List Tri} {bs:List Nat}
theorem Rh (b:Nat):(V.mp b).cz= .mp b:=rfl
theorem Qc (b:Nat):(V.mp b).czA= .mp b:=rfl
theorem PM (b:Nat):(V.mp b).czR= .mp b:=rfl
def lcM (k:Option Blk) (ids:List Nat) (b:Nat):Option (V×List Nat×List Nat):=match k with
 |some _=>some (.mp (cM b (bK ids b)),bK ids b,[])
 |none=>none
theorem QO (own:Bool) (ids:List Nat) (b:Nat):aU h own ids (.mp b)=lcM (h b) ids b:=rfl
theorem RT (own:Bool) (ids:List Nat) (b:Nat):bp h own ids (.mp b)=lcM (h b) ids b:=rfl
theorem Hq (k:Blk) (ids:List Nat) (b:Nat):lcM (some k) ids b=some (.mp (cM b (bK ids b)),bK ids b,[]):=rfl
theorem Fp (ids:List Nat) (b:Nat):kj ids (.mp b)= .mp (ids.getD b 0):=rfl
theorem IQ (ids:List Nat) (b:Nat):dt ids (.mp b)= .mp (ids.getD b 0):=rfl
theorem O0 (ids:List Nat) (b:Nat):unV ids (.mp b)= .mp (ids.getD b 0):=rfl
theorem Rj (b:Nat):fU (.mp b)=true:=rfl
theorem Od (b:Nat):l9 (.mp b)=true:=rfl
theorem Nt (b:Nat):eO (.mp b)=true:=rfl
def fcM (m:Nat) (kp:List Nat) (b:Nat):Option V:=br (Nat.blt b m) (some (.mp b)) (br (kp.contains b) (some (.mp (m+cM b kp))) none)
theorem wg (m:Nat) (kp:List Nat) (b:Nat):eG h m kp (.mp b)=fcM m kp b:=by
 rw [fcM,lH]
 simp only [eG]
 by_cases h1:b<m
 ·simp [h1,br]
 ·by_cases h2:b∈kp<;>simp [h1,h2,br]
theorem Lb (m:Nat) (kp:List Nat) (b:Nat):lJ h m kp (.mp b)=fcM m kp b:=wg (h:=h) m kp b
theorem KZ (m:Nat) (kp:List Nat) (b:Nat):nm h m kp (.mp b)=fcM m kp b:=wg (h:=h) m kp b
theorem Oe (m:Nat) (kp:List Nat) (b:Nat):fcM m kp b=br (Nat.blt b m) (some (.mp b)) (br (kp.contains b) (some (.mp (m+cM b kp))) none):=rfl
theorem If (b:Nat):(V.mp b).cells=[.mp b]:=rfl
theorem Mf (b:Nat):(V.mp b).cell=true:=rfl
theorem MS (b:Nat):fzA h bs (.mp b)=br (bs.contains b) .undef (.mp b):=by
 simp only [fzA,fzC]
 by_cases hb:b∈bs<;>simp [hb,br]
theorem Oi (b:Nat):fzC h bs (.mp b)=br (bs.contains b) .undef (.mp b):=MS (h:=h) b
theorem PE (b:Nat):okC (.mp b)=true:=rfl
theorem PA (b:Nat):bL (.mp b)=[b]:=rfl
theorem Ot (b:Nat):ft (.mp b)=[b]:=rfl
theorem QU:(ak L).map V.cz=ak L:=by
 induction L with
 |nil=>rfl
 |cons a l ih=>rw [cj,List.map_cons,List.map_cons,List.map_cons,ih];rfl
theorem NW (ids:List Nat):(ak L).map (unV ids)=ak L:=by
 induction L with
 |nil=>rfl
 |cons a l ih=>rw [cj,List.map_cons,List.map_cons,List.map_cons,ih];rfl
theorem GJ (ids:List Nat):(ak L).map (dt ids)=ak L:=by
 induction L with
 |nil=>rfl
 |cons a l ih=>rw [cj,List.map_cons,List.map_cons,List.map_cons,ih];rfl
theorem Ou (bs:List Nat):(ak L).map (fzC h bs)=ak L:=by
 induction L with
 |nil=>rfl
 |cons a l ih=>rw [cj,List.map_cons,List.map_cons,List.map_cons,ih];rfl
theorem JY:(ak L).all V.cell=true:=by
 induction L with
 |nil=>rfl
 |cons a l ih=>rw [cj,List.all_cons,List.all_cons,List.all_cons,ih];rfl
theorem GZ:(ak L).all eO=true:=by
 induction L with
 |nil=>rfl
 |cons a l ih=>rw [cj,List.all_cons,List.all_cons,List.all_cons,ih];rfl
theorem L6:(ak L).flatMap ft=[]:=by
 induction L with
 |nil=>rfl
 |cons a l ih=>rw [cj,List.flatMap_cons,List.flatMap_cons,List.flatMap_cons,ih];rfl
theorem Kj:(ak L).flatMap bL=[]:=by
 induction L with
 |nil=>rfl
 |cons a l ih=>rw [cj,List.flatMap_cons,List.flatMap_cons,List.flatMap_cons,ih];rfl
theorem sI (m:Nat) (kp:List Nat):ji h m kp (ak L)=some (ak L):=by
 induction L with
 |nil=>rfl
 |cons a l ih=>rw [cj,iQ,iQ,iQ,ih];rfl
theorem Lq (ids:List Nat):fg h ids (ak L)=some (ak L,ids):=by
 induction L with
 |nil=>rfl
 |cons a l ih=>rw [cj,j1,rg,mS,j1,rg,mS,j1,rg,mS,ih];rfl
def mgB:Option Blk→Option (List Tri)
 |some ⟨0,true,[cs]⟩=>pA cs
 |_=>none
theorem NZ:mgB (some ⟨0,true,[ak L]⟩)=some L:=fm L
theorem Gl (b:Nat):ff h (.mp b)=(mgB (h b)).bind fun L=>some (b,L):=by
 unfold ff mgB
 split
 ·rename_i e;cases e
  split
  ·rename_i cs hb;rw [hb];cases hd:pA cs<;>simp [hd]
  ·rename_i hn
   split
   ·rename_i cs hb;exact absurd hb (hn cs)
   ·rfl
 ·rename_i hn;exact absurd rfl (hn b)
def mkS (o:Option Blk) (n:Nat):Option (V×Upd):=br o.isNone (some (.mp n,[(n,⟨0,true,[ak []]⟩)])) none
theorem LF:ae C ow .mkMap ev h n=mkS (h n) n:=by
 simp only [ae,mkS]
 cases (h n).isNone<;>rfl
theorem Ii:mkS none n=some (.mp n,[(n,⟨0,true,[ak []]⟩)]):=rfl
def mgS (o:Option (Nat×List Tri)) (k:V):Option (V×Upd):=match o,mapKey k with
 |some (_,L),some (a,b)=>some (.lit (.int .i64 (bT a b L)),[])
 |_,_=>none
theorem Is (m k:Opd):ae C ow (.mapGet m k) ev h n=mgS (ff h (ev m)) (ev k):=rfl
theorem FG (p:Nat) (a b:Int):mgS (some (p,L)) (.agg [.lit (.int .i64 a),.lit (.int .i64 b)])=some (.lit (.int .i64 (bT a b L)),[]):=rfl
def msS (o:Option (Nat×List Tri)) (k x:V):Option (V×Upd):=match o,mapKey k,x with
 |some (p,L),some (a,b),.lit (.int .i64 v)=>some (.undef,[(p,⟨0,true,[ak (bX a b v L)]⟩)])
 |_,_,_=>none
theorem F0 (m k x:Opd):ae C ow (.mapSet m k x) ev h n=msS (ff h (ev m)) (ev k) (ev x):=rfl
theorem FV (p:Nat) (a b v:Int):msS (some (p,L)) (.agg [.lit (.int .i64 a),.lit (.int .i64 b)]) (.lit (.int .i64 v))=some (.undef,[(p,⟨0,true,[ak (bX a b v L)]⟩)]):=rfl
def meS (o:Option (Nat×List Tri)) (k:V):Option (V×Upd):=match o,mapKey k with
 |some (p,L),some (a,b)=>some (.tup [.lit (.int .i64 (bT a b L)),.lit (.int .i64 (ir a b L))],[(p,⟨0,true,[ak (mf a b L)]⟩)])
 |_,_=>none
theorem GT (m k:Opd):ae C ow (.mapEnt m k) ev h n=meS (ff h (ev m)) (ev k):=rfl
theorem FC (p:Nat) (a b:Int):meS (some (p,L)) (.agg [.lit (.int .i64 a),.lit (.int .i64 b)])=some (.tup [.lit (.int .i64 (bT a b L)),.lit (.int .i64 (ir a b L))],[(p,⟨0,true,[ak (mf a b L)]⟩)]):=rfl
def mpS (o:Option (Nat×List Tri)) (i x:V):Option (V×Upd):=match o,i,x with
 |some (p,L),.lit (.int .i64 i),.lit (.int .i64 v)=>if 0≤i∧i<L.length then some (.undef,[(p,⟨0,true,[ak (Fl i.toNat v L)]⟩)]) else none
 |_,_,_=>none
theorem F3 (m i x:Opd):ae C ow (.mapPut m i x) ev h n=mpS (ff h (ev m)) (ev i) (ev x):=rfl
theorem Ml (a b:Int): ∀L:List Tri,ir a b L<(mf a b L).length:=by
 have hle: ∀L:List Tri,ir a b L≤L.length:=by
  intro L
  induction L with
  |nil=>simp [ir]
  |cons t r ih=>
   obtain ⟨x,y,u⟩:=t
   simp only [ir]
   split<;>simp<;>omega
 intro L
 unfold mf
 split
 ·assumption
 ·simp;have:=hle L;omega
theorem uB (a b v:Int): ∀L:List Tri,Fl (ir a b L) v (mf a b L)=bX a b v L
 |[]=>rfl
 | (x,y,u)::r=>by
   have ih:=uB a b v r
   simp only [ir,bX]
   by_cases hk:a=x∧b=y
   ·rw [if_pos hk,if_pos hk]
    have hm:ir a b ((x,y,u)::r)=0:=by simp only [ir];rw [if_pos hk]
    have:mf a b ((x,y,u)::r)=(x,y,u)::r:=by unfold mf;rw [if_pos (by rw [hm];simp)]
    rw [this,hk.1,hk.2];rfl
   ·rw [if_neg hk,if_neg hk]
    have hm:ir a b ((x,y,u)::r)=ir a b r+1:=by simp only [ir];rw [if_neg hk]
    have:mf a b ((x,y,u)::r)=(x,y,u)::mf a b r:=by
     unfold mf
     by_cases hl:ir a b r<r.length
     ·rw [if_pos hl,if_pos (by rw [hm];simpa using hl)]
     ·rw [if_neg hl,if_neg (by rw [hm];simpa using hl)];rfl
    rw [this, ←ih];rfl
theorem B8 (p:Nat) (a b v:Int):mpS (some (p,mf a b L)) (.lit (.int .i64 (ir a b L))) (.lit (.int .i64 v))=some (.undef,[(p,⟨0,true,[ak (bX a b v L)]⟩)]):=by
 have:=Ml a b L
 simp only [mpS]
 rw [if_pos ⟨by omega,by omega⟩,Int.toNat_natCast,uB]
theorem RG (p:Nat) (a b v:Int):mpS (some (p,mf a b L)) (I (ir a b L)) (I v)=some (.undef,[(p,⟨0,true,[ak (bX a b v L)]⟩)]):=B8 p a b v
theorem Ip:bS ow .mkMap ev h=[]:=rfl
theorem CP (m k:Opd):bS ow (.mapGet m k) ev h=((AOp.mapGet m k).opds.map ev).flatMap bL:=rfl
theorem CH (m k x:Opd):bS ow (.mapSet m k x) ev h=((AOp.mapSet m k x).opds.map ev).flatMap bL:=rfl
theorem Ct (m k:Opd):bS ow (.mapEnt m k) ev h=((AOp.mapEnt m k).opds.map ev).flatMap bL:=rfl
theorem C8 (m k x:Opd):bS ow (.mapPut m k x) ev h=((AOp.mapPut m k x).opds.map ev).flatMap bL:=rfl
theorem Dq (m k:Opd):(AOp.mapGet m k).opds=[m,k]:=rfl
theorem DS (m k x:Opd):(AOp.mapSet m k x).opds=[m,k,x]:=rfl
theorem Dg (m k:Opd):(AOp.mapEnt m k).opds=[m,k]:=rfl
theorem E8 (m k x:Opd):(AOp.mapPut m k x).opds=[m,k,x]:=rfl
end
attribute [go_sem] Rh Qc PM QO RT Hq Fp IQ O0 Rj Od Nt wg Lb KZ Oe If Mf MS Oi PE PA Ot
attribute [go_sem] QU NW GJ Ou JY GZ L6 Kj sI Lq NZ Gl LF Ii Is FG F0 FV GT FC F3 B8
attribute [go_sem] Ip CP CH Ct C8 Dq DS Dg E8
def eA2 {α:Type} (e:En α):En (α×α):=⟨2,fun x=>e.enc x.1++e.enc x.2⟩
theorem Jx:(eA2 eI).esz=2:=by decide
theorem Ll (x:Int×Int):(eA2 eI).enc x=[I x.1,I x.2]:=rfl
theorem OW (a b:Int) (l:List (Int×Int)):bD [I a,I b] (rws (eA2 eI) l)=rws (eA2 eI) ((a,b)::l):=rfl
theorem Re (a b:Int) (l:List (Int×Int)) (i:Nat):cD (rws (eA2 eI) l) i [I a,I b]=rws (eA2 eI) (l.set i (a,b)):=by simp [cD,rws,eA2];rfl
attribute [go_sem] Jx Ll OW Re
end Go.AI
