/- Maps of pairs of numbers: the machine's words on lists. -/
import Derived.Test.YtgjlndaebhaciaaAiAdd
import Derived.Test.YtgjlndaebhaciaaAiSrt
set_option linter.unusedVariables false
set_option linter.unusedSimpArgs false
namespace Go.AI
theorem cj (t:Tri) (L:List Tri):ak (t::L)= .lit (.int .i64 t.1):: .lit (.int .i64 t.2.1):: .lit (.int .i64 t.2.2)::ak L:=rfl
theorem PQ:([]:List V)=ak []:=rfl
section
variable {C:aB} {ow:be} {ev:Opd→V} {h:ah} {n:Nat} {L:List Tri} {bs:List Nat}
theorem Rv (b:Nat):(V.mp b).cz= .mp b:=rfl
theorem Q7 (b:Nat):(V.mp b).czA= .mp b:=rfl
theorem O6 (b:Nat):(V.mp b).czR= .mp b:=rfl
def lcM (k:Option Blk) (ids:List Nat) (b:Nat):Option (V×List Nat×List Nat):=match k with
 |some _=>some (.mp (cM b (bK ids b)),bK ids b,[])
 |none=>none
theorem QG (own:Bool) (ids:List Nat) (b:Nat):aU h own ids (.mp b)=lcM (h b) ids b:=rfl
theorem RN (own:Bool) (ids:List Nat) (b:Nat):bp h own ids (.mp b)=lcM (h b) ids b:=rfl
theorem IW (k:Blk) (ids:List Nat) (b:Nat):lcM (some k) ids b=some (.mp (cM b (bK ids b)),bK ids b,[]):=rfl
theorem Gw (ids:List Nat) (b:Nat):jR ids (.mp b)= .mp (ids.getD b 0):=rfl
theorem Ff (ids:List Nat) (b:Nat):du ids (.mp b)= .mp (ids.getD b 0):=rfl
theorem OH (ids:List Nat) (b:Nat):unV ids (.mp b)= .mp (ids.getD b 0):=rfl
theorem Rh (b:Nat):gj (.mp b)=true:=rfl
theorem Pw (b:Nat):lj (.mp b)=true:=rfl
theorem Pn (b:Nat):eK (.mp b)=true:=rfl
def fcM (m:Nat) (kp:List Nat) (b:Nat):Option V:=br (Nat.blt b m) (some (.mp b)) (br (kp.contains b) (some (.mp (m+cM b kp))) none)
theorem uU (m:Nat) (kp:List Nat) (b:Nat):eO h m kp (.mp b)=fcM m kp b:=by
 rw [fcM,lI]
 simp only [eO]
 by_cases h1:b<m
 ·simp [h1,br]
 ·by_cases h2:b∈kp<;>simp [h1,h2,br]
theorem LU (m:Nat) (kp:List Nat) (b:Nat):lK h m kp (.mp b)=fcM m kp b:=uU (h:=h) m kp b
theorem JT (m:Nat) (kp:List Nat) (b:Nat):nm h m kp (.mp b)=fcM m kp b:=uU (h:=h) m kp b
theorem NK (m:Nat) (kp:List Nat) (b:Nat):fcM m kp b=br (Nat.blt b m) (some (.mp b)) (br (kp.contains b) (some (.mp (m+cM b kp))) none):=rfl
theorem Iu (b:Nat):(V.mp b).cells=[.mp b]:=rfl
theorem JX (b:Nat):(V.mp b).cell=true:=rfl
theorem MR (b:Nat):fzA h bs (.mp b)=br (bs.contains b) .undef (.mp b):=by
 simp only [fzA,fzC]
 by_cases hb:b∈bs<;>simp [hb,br]
theorem Pr (b:Nat):fzC h bs (.mp b)=br (bs.contains b) .undef (.mp b):=MR (h:=h) b
theorem Pk (b:Nat):okC (.mp b)=true:=rfl
theorem Pl (b:Nat):bL (.mp b)=[b]:=rfl
theorem Oc (b:Nat):ft (.mp b)=[b]:=rfl
theorem QF:(ak L).map V.cz=ak L:=by
 induction L with
 |nil=>rfl
 |cons a l ih=>rw [cj,List.map_cons,List.map_cons,List.map_cons,ih];rfl
theorem N7 (ids:List Nat):(ak L).map (unV ids)=ak L:=by
 induction L with
 |nil=>rfl
 |cons a l ih=>rw [cj,List.map_cons,List.map_cons,List.map_cons,ih];rfl
theorem IR (ids:List Nat):(ak L).map (du ids)=ak L:=by
 induction L with
 |nil=>rfl
 |cons a l ih=>rw [cj,List.map_cons,List.map_cons,List.map_cons,ih];rfl
theorem NW (bs:List Nat):(ak L).map (fzC h bs)=ak L:=by
 induction L with
 |nil=>rfl
 |cons a l ih=>rw [cj,List.map_cons,List.map_cons,List.map_cons,ih];rfl
theorem Jm:(ak L).all V.cell=true:=by
 induction L with
 |nil=>rfl
 |cons a l ih=>rw [cj,List.all_cons,List.all_cons,List.all_cons,ih];rfl
theorem Ie:(ak L).all eK=true:=by
 induction L with
 |nil=>rfl
 |cons a l ih=>rw [cj,List.all_cons,List.all_cons,List.all_cons,ih];rfl
theorem MC:(ak L).flatMap ft=[]:=by
 induction L with
 |nil=>rfl
 |cons a l ih=>rw [cj,List.flatMap_cons,List.flatMap_cons,List.flatMap_cons,ih];rfl
theorem K5:(ak L).flatMap bL=[]:=by
 induction L with
 |nil=>rfl
 |cons a l ih=>rw [cj,List.flatMap_cons,List.flatMap_cons,List.flatMap_cons,ih];rfl
theorem sV (m:Nat) (kp:List Nat):jj h m kp (ak L)=some (ak L):=by
 induction L with
 |nil=>rfl
 |cons a l ih=>rw [cj,j0,j0,j0,ih];rfl
theorem Me (ids:List Nat):fk h ids (ak L)=some (ak L,ids):=by
 induction L with
 |nil=>rfl
 |cons a l ih=>rw [cj,j4,sE,lW,j4,sE,lW,j4,sE,lW,ih];rfl
def mgB:Option Blk→Option (List Tri)
 |some ⟨0,true,[cs]⟩=>pC cs
 |_=>none
theorem Ng:mgB (some ⟨0,true,[ak L]⟩)=some L:=ff L
theorem FP (b:Nat):fg h (.mp b)=(mgB (h b)).bind fun L=>some (b,L):=by
 unfold fg mgB
 split
 ·rename_i e;cases e
  split
  ·rename_i cs hb;rw [hb];cases hd:pC cs<;>simp [hd]
  ·rename_i hn
   split
   ·rename_i cs hb;exact absurd hb (hn cs)
   ·rfl
 ·rename_i hn;exact absurd rfl (hn b)
def mkS (o:Option Blk) (n:Nat):Option (V×Upd):=br o.isNone (some (.mp n,[(n,⟨0,true,[ak []]⟩)])) none
theorem LM:ae C ow .mkMap ev h n=mkS (h n) n:=by
 simp only [ae,mkS]
 cases (h n).isNone<;>rfl
theorem EZ:mkS none n=some (.mp n,[(n,⟨0,true,[ak []]⟩)]):=rfl
def mgS (o:Option (Nat×List Tri)) (k:V):Option (V×Upd):=match o,mapKey k with
 |some (_,L),some (a,b)=>some (.lit (.int .i64 (bU a b L)),[])
 |_,_=>none
theorem Fk (m k:Opd):ae C ow (.mapGet m k) ev h n=mgS (fg h (ev m)) (ev k):=rfl
theorem IT (p:Nat) (a b:Int):mgS (some (p,L)) (.agg [.lit (.int .i64 a),.lit (.int .i64 b)])=some (.lit (.int .i64 (bU a b L)),[]):=rfl
def msS (o:Option (Nat×List Tri)) (k x:V):Option (V×Upd):=match o,mapKey k,x with
 |some (p,L),some (a,b),.lit (.int .i64 v)=>some (.undef,[(p,⟨0,true,[ak (bW a b v L)]⟩)])
 |_,_,_=>none
theorem GF (m k x:Opd):ae C ow (.mapSet m k x) ev h n=msS (fg h (ev m)) (ev k) (ev x):=rfl
theorem HN (p:Nat) (a b v:Int):msS (some (p,L)) (.agg [.lit (.int .i64 a),.lit (.int .i64 b)]) (.lit (.int .i64 v))=some (.undef,[(p,⟨0,true,[ak (bW a b v L)]⟩)]):=rfl
def meS (o:Option (Nat×List Tri)) (k:V):Option (V×Upd):=match o,mapKey k with
 |some (p,L),some (a,b)=>some (.tup [.lit (.int .i64 (bU a b L)),.lit (.int .i64 (iC a b L))],[(p,⟨0,true,[ak (lP a b L)]⟩)])
 |_,_=>none
theorem GX (m k:Opd):ae C ow (.mapEnt m k) ev h n=meS (fg h (ev m)) (ev k):=rfl
theorem FF (p:Nat) (a b:Int):meS (some (p,L)) (.agg [.lit (.int .i64 a),.lit (.int .i64 b)])=some (.tup [.lit (.int .i64 (bU a b L)),.lit (.int .i64 (iC a b L))],[(p,⟨0,true,[ak (lP a b L)]⟩)]):=rfl
def mpS (o:Option (Nat×List Tri)) (i x:V):Option (V×Upd):=match o,i,x with
 |some (p,L),.lit (.int .i64 i),.lit (.int .i64 v)=>if 0≤i∧i<L.length then some (.undef,[(p,⟨0,true,[ak (Fl i.toNat v L)]⟩)]) else none
 |_,_,_=>none
theorem Hx (m i x:Opd):ae C ow (.mapPut m i x) ev h n=mpS (fg h (ev m)) (ev i) (ev x):=rfl
theorem Ld (a b:Int): ∀L:List Tri,iC a b L<(lP a b L).length:=by
 have hle: ∀L:List Tri,iC a b L≤L.length:=by
  intro L
  induction L with
  |nil=>simp [iC]
  |cons t r ih=>
   obtain ⟨x,y,u⟩:=t
   simp only [iC]
   split<;>simp<;>omega
 intro L
 unfold lP
 split
 ·assumption
 ·simp;have:=hle L;omega
theorem uo (a b v:Int): ∀L:List Tri,Fl (iC a b L) v (lP a b L)=bW a b v L
 |[]=>rfl
 | (x,y,u)::r=>by
   have ih:=uo a b v r
   simp only [iC,bW]
   by_cases hk:a=x∧b=y
   ·rw [if_pos hk,if_pos hk]
    have hm:iC a b ((x,y,u)::r)=0:=by simp only [iC];rw [if_pos hk]
    have:lP a b ((x,y,u)::r)=(x,y,u)::r:=by unfold lP;rw [if_pos (by rw [hm];simp)]
    rw [this,hk.1,hk.2];rfl
   ·rw [if_neg hk,if_neg hk]
    have hm:iC a b ((x,y,u)::r)=iC a b r+1:=by simp only [iC];rw [if_neg hk]
    have:lP a b ((x,y,u)::r)=(x,y,u)::lP a b r:=by
     unfold lP
     by_cases hl:iC a b r<r.length
     ·rw [if_pos hl,if_pos (by rw [hm];simpa using hl)]
     ·rw [if_neg hl,if_neg (by rw [hm];simpa using hl)];rfl
    rw [this, ←ih];rfl
theorem Bl (p:Nat) (a b v:Int):mpS (some (p,lP a b L)) (.lit (.int .i64 (iC a b L))) (.lit (.int .i64 v))=some (.undef,[(p,⟨0,true,[ak (bW a b v L)]⟩)]):=by
 have:=Ld a b L
 simp only [mpS]
 rw [if_pos ⟨by omega,by omega⟩,Int.toNat_natCast,uo]
theorem RG (p:Nat) (a b v:Int):mpS (some (p,lP a b L)) (I (iC a b L)) (I v)=some (.undef,[(p,⟨0,true,[ak (bW a b v L)]⟩)]):=Bl p a b v
theorem Il:bS ow .mkMap ev h=[]:=rfl
theorem D4 (m k:Opd):bS ow (.mapGet m k) ev h=((AOp.mapGet m k).opds.map ev).flatMap bL:=rfl
theorem CZ (m k x:Opd):bS ow (.mapSet m k x) ev h=((AOp.mapSet m k x).opds.map ev).flatMap bL:=rfl
theorem DU (m k:Opd):bS ow (.mapEnt m k) ev h=((AOp.mapEnt m k).opds.map ev).flatMap bL:=rfl
theorem E0 (m k x:Opd):bS ow (.mapPut m k x) ev h=((AOp.mapPut m k x).opds.map ev).flatMap bL:=rfl
theorem Eh (m k:Opd):(AOp.mapGet m k).opds=[m,k]:=rfl
theorem Ec (m k x:Opd):(AOp.mapSet m k x).opds=[m,k,x]:=rfl
theorem CN (m k:Opd):(AOp.mapEnt m k).opds=[m,k]:=rfl
theorem BW (m k x:Opd):(AOp.mapPut m k x).opds=[m,k,x]:=rfl
end
attribute [go_sem] Rv Q7 O6 QG RN IW Gw Ff OH Rh Pw Pn uU LU JT NK Iu JX MR Pr Pk Pl Oc
attribute [go_sem] QF N7 IR NW Jm Ie MC K5 sV Me Ng FP LM EZ Fk IT GF HN GX FF Hx Bl
attribute [go_sem] Il D4 CZ DU E0 Eh Ec CN BW
def eA2 {α:Type} (e:En α):En (α×α):=⟨2,fun x=>e.enc x.1++e.enc x.2⟩
theorem K1:(eA2 eI).esz=2:=by decide
theorem JG (x:Int×Int):(eA2 eI).enc x=[I x.1,I x.2]:=rfl
theorem Qg (a b:Int) (l:List (Int×Int)):bD [I a,I b] (rws (eA2 eI) l)=rws (eA2 eI) ((a,b)::l):=rfl
theorem RS (a b:Int) (l:List (Int×Int)) (i:Nat):cI (rws (eA2 eI) l) i [I a,I b]=rws (eA2 eI) (l.set i (a,b)):=by simp [cI,rws,eA2];rfl
attribute [go_sem] K1 JG Qg RS
end Go.AI
