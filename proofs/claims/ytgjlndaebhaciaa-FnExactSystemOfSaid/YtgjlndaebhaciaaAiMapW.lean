/- Maps of pairs of numbers: the machine's words on lists. -/
import Derived.Test.YtgjlndaebhaciaaAiAdd
import Derived.Test.YtgjlndaebhaciaaAiSrt
set_option linter.unusedVariables false
set_option linter.unusedSimpArgs false
namespace Go.AI
theorem cj (t:Tri) (L:List Tri):ak (t::L)= .lit (.int .i64 t.1):: .lit (.int .i64 t.2.1):: .lit (.int .i64 t.2.2)::ak L:=rfl
theorem PR:([]:List V)=ak []:=rfl
section
variable {C:aB} {ow:be} {ev:Opd→V} {h:ah} {n:Nat} {L:List Tri} {bs:List Nat}
theorem Sj (b:Nat):(V.mp b).cz= .mp b:=rfl
theorem PU (b:Nat):(V.mp b).czA= .mp b:=rfl
theorem Qq (b:Nat):(V.mp b).czR= .mp b:=rfl
def lcM (k:Option Blk) (ids:List Nat) (b:Nat):Option (V×List Nat×List Nat):=match k with
 |some _=>some (.mp (cM b (bL ids b)),bL ids b,[])
 |none=>none
theorem Sl (own:Bool) (ids:List Nat) (b:Nat):aU h own ids (.mp b)=lcM (h b) ids b:=rfl
theorem Rt (own:Bool) (ids:List Nat) (b:Nat):bp h own ids (.mp b)=lcM (h b) ids b:=rfl
theorem EL (k:Blk) (ids:List Nat) (b:Nat):lcM (some k) ids b=some (.mp (cM b (bL ids b)),bL ids b,[]):=rfl
theorem Fs (ids:List Nat) (b:Nat):jK ids (.mp b)= .mp (ids.getD b 0):=rfl
theorem ED (ids:List Nat) (b:Nat):dn ids (.mp b)= .mp (ids.getD b 0):=rfl
theorem O2 (ids:List Nat) (b:Nat):unV ids (.mp b)= .mp (ids.getD b 0):=rfl
theorem Rx (b:Nat):fV (.mp b)=true:=rfl
theorem NS (b:Nat):lw (.mp b)=true:=rfl
theorem Pu (b:Nat):eJ (.mp b)=true:=rfl
def fcM (m:Nat) (kp:List Nat) (b:Nat):Option V:=br (Nat.blt b m) (some (.mp b)) (br (kp.contains b) (some (.mp (m+cM b kp))) none)
theorem vM (m:Nat) (kp:List Nat) (b:Nat):eG h m kp (.mp b)=fcM m kp b:=by
 rw [fcM,lK]
 simp only [eG]
 by_cases h1:b<m
 ·simp [h1,br]
 ·by_cases h2:b∈kp<;>simp [h1,h2,br]
theorem M6 (m:Nat) (kp:List Nat) (b:Nat):lJ h m kp (.mp b)=fcM m kp b:=vM (h:=h) m kp b
theorem K9 (m:Nat) (kp:List Nat) (b:Nat):nl h m kp (.mp b)=fcM m kp b:=vM (h:=h) m kp b
theorem Oz (m:Nat) (kp:List Nat) (b:Nat):fcM m kp b=br (Nat.blt b m) (some (.mp b)) (br (kp.contains b) (some (.mp (m+cM b kp))) none):=rfl
theorem Er (b:Nat):(V.mp b).cells=[.mp b]:=rfl
theorem Lw (b:Nat):(V.mp b).cell=true:=rfl
theorem MO (b:Nat):fzA h bs (.mp b)=br (bs.contains b) .undef (.mp b):=by
 simp only [fzA,fzC]
 by_cases hb:b∈bs<;>simp [hb,br]
theorem N1 (b:Nat):fzC h bs (.mp b)=br (bs.contains b) .undef (.mp b):=MO (h:=h) b
theorem Ot (b:Nat):okC (.mp b)=true:=rfl
theorem NT (b:Nat):bK (.mp b)=[b]:=rfl
theorem O1 (b:Nat):fy (.mp b)=[b]:=rfl
theorem RU:(ak L).map V.cz=ak L:=by
 induction L with
 |nil=>rfl
 |cons a l ih=>rw [cj,List.map_cons,List.map_cons,List.map_cons,ih];rfl
theorem PS (ids:List Nat):(ak L).map (unV ids)=ak L:=by
 induction L with
 |nil=>rfl
 |cons a l ih=>rw [cj,List.map_cons,List.map_cons,List.map_cons,ih];rfl
theorem Fy (ids:List Nat):(ak L).map (dn ids)=ak L:=by
 induction L with
 |nil=>rfl
 |cons a l ih=>rw [cj,List.map_cons,List.map_cons,List.map_cons,ih];rfl
theorem Qu (bs:List Nat):(ak L).map (fzC h bs)=ak L:=by
 induction L with
 |nil=>rfl
 |cons a l ih=>rw [cj,List.map_cons,List.map_cons,List.map_cons,ih];rfl
theorem K3:(ak L).all V.cell=true:=by
 induction L with
 |nil=>rfl
 |cons a l ih=>rw [cj,List.all_cons,List.all_cons,List.all_cons,ih];rfl
theorem HE:(ak L).all eJ=true:=by
 induction L with
 |nil=>rfl
 |cons a l ih=>rw [cj,List.all_cons,List.all_cons,List.all_cons,ih];rfl
theorem Ml:(ak L).flatMap fy=[]:=by
 induction L with
 |nil=>rfl
 |cons a l ih=>rw [cj,List.flatMap_cons,List.flatMap_cons,List.flatMap_cons,ih];rfl
theorem Lr:(ak L).flatMap bK=[]:=by
 induction L with
 |nil=>rfl
 |cons a l ih=>rw [cj,List.flatMap_cons,List.flatMap_cons,List.flatMap_cons,ih];rfl
theorem sH (m:Nat) (kp:List Nat):jo h m kp (ak L)=some (ak L):=by
 induction L with
 |nil=>rfl
 |cons a l ih=>rw [cj,iJ,iJ,iJ,ih];rfl
theorem M2 (ids:List Nat):fg h ids (ak L)=some (ak L,ids):=by
 induction L with
 |nil=>rfl
 |cons a l ih=>rw [cj,iR,su,lP,iR,su,lP,iR,su,lP,ih];rfl
def mgB:Option Blk→Option (List Tri)
 |some ⟨0,true,[cs]⟩=>pJ cs
 |_=>none
theorem OE:mgB (some ⟨0,true,[ak L]⟩)=some L:=fm L
theorem IV (b:Nat):fk h (.mp b)=(mgB (h b)).bind fun L=>some (b,L):=by
 unfold fk mgB
 split
 ·rename_i e;cases e
  split
  ·rename_i cs hb;rw [hb];cases hd:pJ cs<;>simp [hd]
  ·rename_i hn
   split
   ·rename_i cs hb;exact absurd hb (hn cs)
   ·rfl
 ·rename_i hn;exact absurd rfl (hn b)
def mkS (o:Option Blk) (n:Nat):Option (V×Upd):=br o.isNone (some (.mp n,[(n,⟨0,true,[ak []]⟩)])) none
theorem KN:ae C ow .mkMap ev h n=mkS (h n) n:=by
 simp only [ae,mkS]
 cases (h n).isNone<;>rfl
theorem HP:mkS none n=some (.mp n,[(n,⟨0,true,[ak []]⟩)]):=rfl
def mgS (o:Option (Nat×List Tri)) (k:V):Option (V×Upd):=match o,mapKey k with
 |some (_,L),some (a,b)=>some (.lit (.int .i64 (bU a b L)),[])
 |_,_=>none
theorem Gx (m k:Opd):ae C ow (.mapGet m k) ev h n=mgS (fk h (ev m)) (ev k):=rfl
theorem Fm (p:Nat) (a b:Int):mgS (some (p,L)) (.agg [.lit (.int .i64 a),.lit (.int .i64 b)])=some (.lit (.int .i64 (bU a b L)),[]):=rfl
def msS (o:Option (Nat×List Tri)) (k x:V):Option (V×Upd):=match o,mapKey k,x with
 |some (p,L),some (a,b),.lit (.int .i64 v)=>some (.undef,[(p,⟨0,true,[ak (bX a b v L)]⟩)])
 |_,_,_=>none
theorem H9 (m k x:Opd):ae C ow (.mapSet m k x) ev h n=msS (fk h (ev m)) (ev k) (ev x):=rfl
theorem Hk (p:Nat) (a b v:Int):msS (some (p,L)) (.agg [.lit (.int .i64 a),.lit (.int .i64 b)]) (.lit (.int .i64 v))=some (.undef,[(p,⟨0,true,[ak (bX a b v L)]⟩)]):=rfl
def meS (o:Option (Nat×List Tri)) (k:V):Option (V×Upd):=match o,mapKey k with
 |some (p,L),some (a,b)=>some (.tup [.lit (.int .i64 (bU a b L)),.lit (.int .i64 (ir a b L))],[(p,⟨0,true,[ak (lR a b L)]⟩)])
 |_,_=>none
theorem F9 (m k:Opd):ae C ow (.mapEnt m k) ev h n=meS (fk h (ev m)) (ev k):=rfl
theorem F6 (p:Nat) (a b:Int):meS (some (p,L)) (.agg [.lit (.int .i64 a),.lit (.int .i64 b)])=some (.tup [.lit (.int .i64 (bU a b L)),.lit (.int .i64 (ir a b L))],[(p,⟨0,true,[ak (lR a b L)]⟩)]):=rfl
def mpS (o:Option (Nat×List Tri)) (i x:V):Option (V×Upd):=match o,i,x with
 |some (p,L),.lit (.int .i64 i),.lit (.int .i64 v)=>if 0≤i∧i<L.length then some (.undef,[(p,⟨0,true,[ak (GZ i.toNat v L)]⟩)]) else none
 |_,_,_=>none
theorem FR (m i x:Opd):ae C ow (.mapPut m i x) ev h n=mpS (fk h (ev m)) (ev i) (ev x):=rfl
theorem KF (a b:Int): ∀L:List Tri,ir a b L<(lR a b L).length:=by
 have hle: ∀L:List Tri,ir a b L≤L.length:=by
  intro L
  induction L with
  |nil=>simp [ir]
  |cons t r ih=>
   obtain ⟨x,y,u⟩:=t
   simp only [ir]
   split<;>simp<;>omega
 intro L
 unfold lR
 split
 ·assumption
 ·simp;have:=hle L;omega
theorem uo (a b v:Int): ∀L:List Tri,GZ (ir a b L) v (lR a b L)=bX a b v L
 |[]=>rfl
 | (x,y,u)::r=>by
   have ih:=uo a b v r
   simp only [ir,bX]
   by_cases hk:a=x∧b=y
   ·rw [if_pos hk,if_pos hk]
    have hm:ir a b ((x,y,u)::r)=0:=by simp only [ir];rw [if_pos hk]
    have:lR a b ((x,y,u)::r)=(x,y,u)::r:=by unfold lR;rw [if_pos (by rw [hm];simp)]
    rw [this,hk.1,hk.2];rfl
   ·rw [if_neg hk,if_neg hk]
    have hm:ir a b ((x,y,u)::r)=ir a b r+1:=by simp only [ir];rw [if_neg hk]
    have:lR a b ((x,y,u)::r)=(x,y,u)::lR a b r:=by
     unfold lR
     by_cases hl:ir a b r<r.length
     ·rw [if_pos hl,if_pos (by rw [hm];simpa using hl)]
     ·rw [if_neg hl,if_neg (by rw [hm];simpa using hl)];rfl
    rw [this, ←ih];rfl
theorem Bu (p:Nat) (a b v:Int):mpS (some (p,lR a b L)) (.lit (.int .i64 (ir a b L))) (.lit (.int .i64 v))=some (.undef,[(p,⟨0,true,[ak (bX a b v L)]⟩)]):=by
 have:=KF a b L
 simp only [mpS]
 rw [if_pos ⟨by omega,by omega⟩,Int.toNat_natCast,uo]
theorem Rj (p:Nat) (a b v:Int):mpS (some (p,lR a b L)) (I (ir a b L)) (I v)=some (.undef,[(p,⟨0,true,[ak (bX a b v L)]⟩)]):=Bu p a b v
theorem EM:bT ow .mkMap ev h=[]:=rfl
theorem CM (m k:Opd):bT ow (.mapGet m k) ev h=((AOp.mapGet m k).opds.map ev).flatMap bK:=rfl
theorem BN (m k x:Opd):bT ow (.mapSet m k x) ev h=((AOp.mapSet m k x).opds.map ev).flatMap bK:=rfl
theorem Cy (m k:Opd):bT ow (.mapEnt m k) ev h=((AOp.mapEnt m k).opds.map ev).flatMap bK:=rfl
theorem Cr (m k x:Opd):bT ow (.mapPut m k x) ev h=((AOp.mapPut m k x).opds.map ev).flatMap bK:=rfl
theorem DF (m k:Opd):(AOp.mapGet m k).opds=[m,k]:=rfl
theorem BG (m k x:Opd):(AOp.mapSet m k x).opds=[m,k,x]:=rfl
theorem DK (m k:Opd):(AOp.mapEnt m k).opds=[m,k]:=rfl
theorem Cf (m k x:Opd):(AOp.mapPut m k x).opds=[m,k,x]:=rfl
end
attribute [go_sem] Sj PU Qq Sl Rt EL Fs ED O2 Rx NS Pu vM M6 K9 Oz Er Lw MO N1 Ot NT O1
attribute [go_sem] RU PS Fy Qu K3 HE Ml Lr sH M2 OE IV KN HP Gx Fm H9 Hk F9 F6 FR Bu
attribute [go_sem] EM CM BN Cy Cr DF BG DK Cf
def eA2 {α:Type} (e:En α):En (α×α):=⟨2,fun x=>e.enc x.1++e.enc x.2⟩
theorem Ms:(eA2 eI).esz=2:=by decide
theorem K4 (x:Int×Int):(eA2 eI).enc x=[I x.1,I x.2]:=rfl
theorem P3 (a b:Int) (l:List (Int×Int)):bD [I a,I b] (rws (eA2 eI) l)=rws (eA2 eI) ((a,b)::l):=rfl
theorem RO (a b:Int) (l:List (Int×Int)) (i:Nat):cI (rws (eA2 eI) l) i [I a,I b]=rws (eA2 eI) (l.set i (a,b)):=by simp [cI,rws,eA2];rfl
attribute [go_sem] Ms K4 P3 RO
end Go.AI
