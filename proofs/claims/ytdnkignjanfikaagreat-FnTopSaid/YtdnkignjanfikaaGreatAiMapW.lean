/- Part. -/
import Derived.Test.YtdnkignjanfikaaGreatAiAdd
import Derived.Test.YtdnkignjanfikaaGreatAiSrt
set_option linter.unusedVariables false
set_option linter.unusedSimpArgs false
namespace Go.AI
theorem rq (t:Tri) (L:List Tri):bH (t::L)= .lit (.int .i64 t.1):: .lit (.int .i64 t.2.1):: .lit (.int .i64 t.2.2)::bH L:=rfl
section
variable {C:cr} {ow:fe} {ev:Opd->V} {h:ba} {n:Nat} {L:List Tri} {bs:List Nat}
theorem c5Q (b:Nat):(V.mp b).cz= .mp b:=rfl
theorem c4l (b:Nat):(V.mp b).czA= .mp b:=rfl
def lcM (k:Option Blk) (ids:List Nat) (b:Nat):Option (V×List Nat×List Nat):=match k with
 |some _=>some (.mp (n3 b (iC ids b)),iC ids b,[])
 |none=>none
theorem c4r (own:Bool) (ids:List Nat) (b:Nat):gZ h own ids (.mp b)=lcM (h b) ids b:=rfl
theorem b1J (k:Blk) (ids:List Nat) (b:Nat):lcM (some k) ids b=some (.mp (n3 b (iC ids b)),iC ids b,[]):=rfl
theorem b2J (ids:List Nat) (b:Nat):pV ids (.mp b)= .mp (ids.getD b 0):=rfl
theorem c0N (b:Nat):vG (.mp b)=true:=rfl
def fcM (m:Nat) (kp:List Nat) (b:Nat):Option V:=br (Nat.blt b m) (some (.mp b)) (br (kp.contains b) (some (.mp (m+n3 b kp))) none)
theorem a4X (m:Nat) (kp:List Nat) (b:Nat):vP h m kp (.mp b)=fcM m kp b:=by
 rw [fcM,H0]
 simp only [vP]
 by_cases a:b<m
 ·simp [a,br]
 ·by_cases c:b∈kp<;>simp [a,c,br]
theorem b91 (m:Nat) (kp:List Nat) (b:Nat):Nl h m kp (.mp b)=fcM m kp b:=a4X (h:=h) m kp b
theorem c0X (m:Nat) (kp:List Nat) (b:Nat):fcM m kp b=br (Nat.blt b m) (some (.mp b)) (br (kp.contains b) (some (.mp (m+n3 b kp))) none):=rfl
theorem b2c (b:Nat):(V.mp b).cells=[.mp b]:=rfl
theorem b5R (b:Nat):(V.mp b).cell=true:=rfl
theorem c02 (b:Nat):fzA h bs (.mp b)=br (bs.contains b) .undef (.mp b):=by
 simp only [fzA,fzC]
 by_cases a:b∈bs<;>simp [a,br]
theorem c1w (b:Nat):fzC h bs (.mp b)=br (bs.contains b) .undef (.mp b):=c02 (h:=h) b
theorem c3l (b:Nat):ny (.mp b)=[b]:=rfl
theorem c56:(bH L).map V.cz=bH L:=by
 induction L with
 |nil=>rfl
 |cons a l ih=>rw [rq,aM,aM,aM,ih];rfl
theorem b0Q (ids:List Nat):(bH L).map (pV ids)=bH L:=by
 induction L with
 |nil=>rfl
 |cons a l ih=>rw [rq,aM,aM,aM,ih];rfl
theorem c2E (bs:List Nat):(bH L).map (fzC h bs)=bH L:=by
 induction L with
 |nil=>rfl
 |cons a l ih=>rw [rq,aM,aM,aM,ih];rfl
theorem b8d:(bH L).all V.cell=true:=by
 induction L with
 |nil=>rfl
 |cons a l ih=>rw [rq,cC,cC,cC,ih];rfl
theorem b33:(bH L).all vG=true:=by
 induction L with
 |nil=>rfl
 |cons a l ih=>rw [rq,cC,cC,cC,ih];rfl
theorem RW (m:Nat) (kp:List Nat):BQ h m kp (bH L)=some (bH L):=by
 induction L with
 |nil=>rfl
 |cons a l ih=>rw [rq,AK,AK,AK,ih];rfl
theorem b9B (ids:List Nat):uH h ids (bH L)=some (bH L,ids):=by
 induction L with
 |nil=>rfl
 |cons a l ih=>rw [rq,AG,Q4,GT,AG,Q4,GT,AG,Q4,GT,ih];rfl
def mgB:Option Blk->Option (List Tri)
 |some ⟨0,true,[cs]⟩=>NP cs
 |_=>none
theorem c1t:mgB (some ⟨0,true,[bH L]⟩)=some L:=yv L
theorem b2a (b:Nat):uM h (.mp b)=(mgB (h b)).bind fun L=>some (b,L):=by
 unfold uM mgB
 split
 ·rename_i e;cases e
  split
  ·rename_i cs a;rw [a];cases c:NP cs<;>simp [c]
  ·rename_i hn
   split
   ·rename_i cs a;exact absurd a (hn cs)
   ·rfl
 ·rename_i hn;exact absurd rfl (hn b)
def mkS (o:Option Blk) (n:Nat):Option (V×Upd):=br o.isNone (some (.mp n,[(n,⟨0,true,[bH []]⟩)])) none
theorem b5U:aK C ow .mkMap ev h n=mkS (h n) n:=by
 simp only [aK,mkS]
 cases (h n).isNone<;>rfl
theorem b1m:mkS none n=some (.mp n,[(n,⟨0,true,[bH []]⟩)]):=rfl
def mgS (o:Option (Nat×List Tri)) (k:V):Option (V×Upd):=match o,mapKey k with
 |some (_,L),some (a,b)=>some (.lit (.int .i64 (j5 a b L)),[])
 |_,_=>none
theorem b1c (m k:Opd):aK C ow (.mapGet m k) ev h n=mgS (uM h (ev m)) (ev k):=rfl
theorem b32 (p:Nat) (a b:Int):mgS (some (p,L)) (.agg [.lit (.int .i64 a),.lit (.int .i64 b)])=some (.lit (.int .i64 (j5 a b L)),[]):=rfl
def msS (o:Option (Nat×List Tri)) (k x:V):Option (V×Upd):=match o,mapKey k,x with
 |some (p,L),some (a,b),.lit (.int .i64 v)=>some (.undef,[(p,⟨0,true,[bH (jm a b v L)]⟩)])
 |_,_,_=>none
theorem b5m (m k x:Opd):aK C ow (.mapSet m k x) ev h n=msS (uM h (ev m)) (ev k) (ev x):=rfl
theorem b0i (p:Nat) (a b v:Int):msS (some (p,L)) (.agg [.lit (.int .i64 a),.lit (.int .i64 b)]) (.lit (.int .i64 v))=some (.undef,[(p,⟨0,true,[bH (jm a b v L)]⟩)]):=rfl
def meS (o:Option (Nat×List Tri)) (k:V):Option (V×Upd):=match o,mapKey k with
 |some (p,L),some (a,b)=>some (.tup [.lit (.int .i64 (j5 a b L)),.lit (.int .i64 (Aj a b L))],[(p,⟨0,true,[bH (Ic a b L)]⟩)])
 |_,_=>none
theorem b1u (m k:Opd):aK C ow (.mapEnt m k) ev h n=meS (uM h (ev m)) (ev k):=rfl
theorem b4P (p:Nat) (a b:Int):meS (some (p,L)) (.agg [.lit (.int .i64 a),.lit (.int .i64 b)])=some (.tup [.lit (.int .i64 (j5 a b L)),.lit (.int .i64 (Aj a b L))],[(p,⟨0,true,[bH (Ic a b L)]⟩)]):=rfl
def mpS (o:Option (Nat×List Tri)) (i x:V):Option (V×Upd):=match o,i,x with
 |some (p,L),.lit (.int .i64 i),.lit (.int .i64 v)=>if 0<=i/\i<L.length then some (.undef,[(p,⟨0,true,[bH (b3z i.toNat v L)]⟩)]) else none
 |_,_,_=>none
theorem b3p (m i x:Opd):aK C ow (.mapPut m i x) ev h n=mpS (uM h (ev m)) (ev i) (ev x):=rfl
theorem b8Z (a b:Int): ∀L:List Tri,Aj a b L<(Ic a b L).length:=by
 have c: ∀L:List Tri,Aj a b L<=L.length:=by
  intro L
  induction L with
  |nil=>simp [Aj]
  |cons t r ih=>
   obtain ⟨x,y,u⟩:=t
   simp only [Aj]
   split<;>simp<;>omega
 intro L
 unfold Ic
 split
 ·assumption
 ·simp;have:=c L;omega
theorem Vc (a b v:Int): ∀L:List Tri,b3z (Aj a b L) v (Ic a b L)=jm a b v L
 |[]=>rfl
 | (x,y,u)::r=>by
   have ih:=Vc a b v r
   simp only [Aj,jm]
   by_cases c:a=x/\b=y
   ·rw [aa c,aa c]
    have d:Aj a b ((x,y,u)::r)=0:=by simp only [Aj];rw [aa c]
    have:Ic a b ((x,y,u)::r)=(x,y,u)::r:=by unfold Ic;rw [aa (by rw [d];simp)]
    rw [this,c.1,c.2];rfl
   ·rw [a7 c,a7 c]
    have d:Aj a b ((x,y,u)::r)=Aj a b r+1:=by simp only [Aj];rw [a7 c]
    have:Ic a b ((x,y,u)::r)=(x,y,u)::Ic a b r:=by
     unfold Ic
     by_cases e:Aj a b r<r.length
     ·rw [aa e,aa (by rw [d];simpa using e)]
     ·rw [a7 e,a7 (by rw [d];simpa using e)];rfl
    rw [this, <-ih];rfl
theorem b7M (p:Nat) (a b v:Int):mpS (some (p,Ic a b L)) (.lit (.int .i64 (Aj a b L))) (.lit (.int .i64 v))=some (.undef,[(p,⟨0,true,[bH (jm a b v L)]⟩)]):=by
 have:=b8Z a b L
 simp only [mpS]
 rw [aa ⟨by omega,by omega⟩,aY,Vc]
theorem a7R (m k:Opd):mY ow (.mapGet m k) ev h=((AOp.mapGet m k).opds.map ev).flatMap ny:=rfl
theorem a8q (m k x:Opd):mY ow (.mapSet m k x) ev h=((AOp.mapSet m k x).opds.map ev).flatMap ny:=rfl
theorem a8N (m k:Opd):mY ow (.mapEnt m k) ev h=((AOp.mapEnt m k).opds.map ev).flatMap ny:=rfl
theorem a8A (m k x:Opd):mY ow (.mapPut m k x) ev h=((AOp.mapPut m k x).opds.map ev).flatMap ny:=rfl
theorem a8Y (m k:Opd):(AOp.mapGet m k).opds=[m,k]:=rfl
theorem a7M (m k x:Opd):(AOp.mapSet m k x).opds=[m,k,x]:=rfl
theorem a8b (m k:Opd):(AOp.mapEnt m k).opds=[m,k]:=rfl
theorem a7B (m k x:Opd):(AOp.mapPut m k x).opds=[m,k,x]:=rfl
end
attribute [go_sem] c5Q c4l c4r b1J b2J c0N a4X b91 c0X b2c b5R c02 c1w c3l
attribute [go_sem] c56 b0Q c2E b8d b33 RW b9B c1t b2a b5U b1m b1c b32 b5m b0i b1u b4P b3p b7M
attribute [go_sem] a7R a8q a8N a8A a8Y a7M a8b a7B
def eA2 {α:Type} (e:En α):En (α×α):=⟨2,fun x=>e.enc x.1++e.enc x.2⟩
theorem b84:(eA2 eI).esz=2:=by decide
theorem b66 (x:Int×Int):(eA2 eI).enc x=[I x.1,I x.2]:=rfl
theorem c2r (a b:Int) (l:List (Int×Int)):Ak [I a,I b] (rws (eA2 eI) l)=rws (eA2 eI) ((a,b)::l):=rfl
attribute [go_sem] b84 b66 c2r
end Go.AI
