/- Maps of pairs of numbers: the machine's words on lists. -/
import Derived.Test.YtdnkignjanfikaaGreatAiAdd
import Derived.Test.YtdnkignjanfikaaGreatAiSrt
set_option linter.unusedVariables false
set_option linter.unusedSimpArgs false
namespace Go.AI
theorem jj (t:Tri) (L:List Tri):bB (t::L)= .lit (.int .i64 t.1):: .lit (.int .i64 t.2.1):: .lit (.int .i64 t.2.2)::bB L:=rfl
section
variable {C:cg} {ow:en} {ev:Opd->V} {h:aZ} {n:Nat} {L:List Tri} {bs:List Nat}
theorem c5u (b:Nat):(V.mp b).cz= .mp b:=rfl
theorem c1g (b:Nat):(V.mp b).czA= .mp b:=rfl
theorem c0w (b:Nat):(V.mp b).czR= .mp b:=rfl
def lcM (k:Option Blk) (ids:List Nat) (b:Nat):Option (V×List Nat×List Nat):=match k with
 |some _=>some (.mp (kV b (gx ids b)),gx ids b,[])
 |none=>none
theorem c5e (own:Bool) (ids:List Nat) (b:Nat):dZ h own ids (.mp b)=lcM (h b) ids b:=rfl
theorem c5j (own:Bool) (ids:List Nat) (b:Nat):fU h own ids (.mp b)=lcM (h b) ids b:=rfl
theorem b5T (k:Blk) (ids:List Nat) (b:Nat):lcM (some k) ids b=some (.mp (kV b (gx ids b)),gx ids b,[]):=rfl
theorem b5g (ids:List Nat) (b:Nat):GV ids (.mp b)= .mp (ids.getD b 0):=rfl
theorem b3I (ids:List Nat) (b:Nat):nK ids (.mp b)= .mp (ids.getD b 0):=rfl
theorem c2R (ids:List Nat) (b:Nat):unV ids (.mp b)= .mp (ids.getD b 0):=rfl
theorem c4G (b:Nat):zp (.mp b)=true:=rfl
theorem c0B (b:Nat):ON (.mp b)=true:=rfl
theorem c3u (b:Nat):su (.mp b)=true:=rfl
def fcM (m:Nat) (kp:List Nat) (b:Nat):Option V:=br (Nat.blt b m) (some (.mp b)) (br (kp.contains b) (some (.mp (m+kV b kp))) none)
theorem a1u (m:Nat) (kp:List Nat) (b:Nat):sH h m kp (.mp b)=fcM m kp b:=by
 rw [fcM,MZ]
 simp only [sH]
 by_cases h1:b<m
 ·simp [h1,br]
 ·by_cases h2:b∈kp<;>simp [h1,h2,br]
theorem b9Y (m:Nat) (kp:List Nat) (b:Nat):K9 h m kp (.mp b)=fcM m kp b:=a1u (h:=h) m kp b
theorem b9T (m:Nat) (kp:List Nat) (b:Nat):Nd h m kp (.mp b)=fcM m kp b:=a1u (h:=h) m kp b
theorem c3A (m:Nat) (kp:List Nat) (b:Nat):fcM m kp b=br (Nat.blt b m) (some (.mp b)) (br (kp.contains b) (some (.mp (m+kV b kp))) none):=rfl
theorem b3L (b:Nat):(V.mp b).cells=[.mp b]:=rfl
theorem b6Z (b:Nat):(V.mp b).cell=true:=rfl
theorem c0h (b:Nat):fzA h bs (.mp b)=br (bs.contains b) .undef (.mp b):=by
 simp only [fzA,fzC]
 by_cases hb:b∈bs<;>simp [hb,br]
theorem c0X (b:Nat):fzC h bs (.mp b)=br (bs.contains b) .undef (.mp b):=c0h (h:=h) b
theorem c3K (b:Nat):okC (.mp b)=true:=rfl
theorem c2Y (b:Nat):n7 (.mp b)=[b]:=rfl
theorem c2f (b:Nat):Bb (.mp b)=[b]:=rfl
theorem c4i:(bB L).map V.cz=bB L:=by
 induction L with
 |nil=>rfl
 |cons a l ih=>rw [jj,aS,aS,aS,ih];rfl
theorem c1v (ids:List Nat):(bB L).map (unV ids)=bB L:=by
 induction L with
 |nil=>rfl
 |cons a l ih=>rw [jj,aS,aS,aS,ih];rfl
theorem b5Y (ids:List Nat):(bB L).map (nK ids)=bB L:=by
 induction L with
 |nil=>rfl
 |cons a l ih=>rw [jj,aS,aS,aS,ih];rfl
theorem c0W (bs:List Nat):(bB L).map (fzC h bs)=bB L:=by
 induction L with
 |nil=>rfl
 |cons a l ih=>rw [jj,aS,aS,aS,ih];rfl
theorem b8R:(bB L).all V.cell=true:=by
 induction L with
 |nil=>rfl
 |cons a l ih=>rw [jj,cr,cr,cr,ih];rfl
theorem b3Z:(bB L).all su=true:=by
 induction L with
 |nil=>rfl
 |cons a l ih=>rw [jj,cr,cr,cr,ih];rfl
theorem b9M:(bB L).flatMap Bb=[]:=by
 induction L with
 |nil=>rfl
 |cons a l ih=>rw [jj,cD,cD,cD,ih];rfl
theorem b7q:(bB L).flatMap n7=[]:=by
 induction L with
 |nil=>rfl
 |cons a l ih=>rw [jj,cD,cD,cD,ih];rfl
theorem QX (m:Nat) (kp:List Nat):Aj h m kp (bB L)=some (bB L):=by
 induction L with
 |nil=>rfl
 |cons a l ih=>rw [jj,yT,yT,yT,ih];rfl
theorem c05 (ids:List Nat):rL h ids (bB L)=some (bB L,ids):=by
 induction L with
 |nil=>rfl
 |cons a l ih=>rw [jj,zs,Sf,FC,zs,Sf,FC,zs,Sf,FC,ih];rfl
def mgB:Option Blk->Option (List Tri)
 |some ⟨0,true,[cs]⟩=>MI cs
 |_=>none
theorem c1b:mgB (some ⟨0,true,[bB L]⟩)=some L:=vA L
theorem b5C (b:Nat):rU h (.mp b)=(mgB (h b)).bind fun L=>some (b,L):=by
 unfold rU mgB
 split
 ·rename_i e;cases e
  split
  ·rename_i cs hb;rw [hb];cases hd:MI cs<;>simp [hd]
  ·rename_i hn
   split
   ·rename_i cs hb;exact absurd hb (hn cs)
   ·rfl
 ·rename_i hn;exact absurd rfl (hn b)
def mkS (o:Option Blk) (n:Nat):Option (V×Upd):=br o.isNone (some (.mp n,[(n,⟨0,true,[bB []]⟩)])) none
theorem b6T:aN C ow .mkMap ev h n=mkS (h n) n:=by
 simp only [aN,mkS]
 cases (h n).isNone<;>rfl
theorem b3z:mkS none n=some (.mp n,[(n,⟨0,true,[bB []]⟩)]):=rfl
def mgS (o:Option (Nat×List Tri)) (k:V):Option (V×Upd):=match o,mapKey k with
 |some (_,L),some (a,b)=>some (.lit (.int .i64 (ia a b L)),[])
 |_,_=>none
theorem b2r (m k:Opd):aN C ow (.mapGet m k) ev h n=mgS (rU h (ev m)) (ev k):=rfl
theorem b5y (p:Nat) (a b:Int):mgS (some (p,L)) (.agg [.lit (.int .i64 a),.lit (.int .i64 b)])=some (.lit (.int .i64 (ia a b L)),[]):=rfl
def msS (o:Option (Nat×List Tri)) (k x:V):Option (V×Upd):=match o,mapKey k,x with
 |some (p,L),some (a,b),.lit (.int .i64 v)=>some (.undef,[(p,⟨0,true,[bB (iB a b v L)]⟩)])
 |_,_,_=>none
theorem b3q (m k x:Opd):aN C ow (.mapSet m k x) ev h n=msS (rU h (ev m)) (ev k) (ev x):=rfl
theorem b5O (p:Nat) (a b v:Int):msS (some (p,L)) (.agg [.lit (.int .i64 a),.lit (.int .i64 b)]) (.lit (.int .i64 v))=some (.undef,[(p,⟨0,true,[bB (iB a b v L)]⟩)]):=rfl
def meS (o:Option (Nat×List Tri)) (k:V):Option (V×Upd):=match o,mapKey k with
 |some (p,L),some (a,b)=>some (.tup [.lit (.int .i64 (ia a b L)),.lit (.int .i64 (yL a b L))],[(p,⟨0,true,[bB (HX a b L)]⟩)])
 |_,_=>none
theorem b5b (m k:Opd):aN C ow (.mapEnt m k) ev h n=meS (rU h (ev m)) (ev k):=rfl
theorem b3d (p:Nat) (a b:Int):meS (some (p,L)) (.agg [.lit (.int .i64 a),.lit (.int .i64 b)])=some (.tup [.lit (.int .i64 (ia a b L)),.lit (.int .i64 (yL a b L))],[(p,⟨0,true,[bB (HX a b L)]⟩)]):=rfl
def mpS (o:Option (Nat×List Tri)) (i x:V):Option (V×Upd):=match o,i,x with
 |some (p,L),.lit (.int .i64 i),.lit (.int .i64 v)=>if 0<=i/\i<L.length then some (.undef,[(p,⟨0,true,[bB (b2o i.toNat v L)]⟩)]) else none
 |_,_,_=>none
theorem b6n (m i x:Opd):aN C ow (.mapPut m i x) ev h n=mpS (rU h (ev m)) (ev i) (ev x):=rfl
theorem b8Y (a b:Int): ∀L:List Tri,yL a b L<(HX a b L).length:=by
 have hle: ∀L:List Tri,yL a b L<=L.length:=by
  intro L
  induction L with
  |nil=>simp [yL]
  |cons t r ih=>
   obtain ⟨x,y,u⟩:=t
   simp only [yL]
   split<;>simp<;>omega
 intro L
 unfold HX
 split
 ·assumption
 ·simp;have:=hle L;omega
theorem Xo (a b v:Int): ∀L:List Tri,b2o (yL a b L) v (HX a b L)=iB a b v L
 |[]=>rfl
 | (x,y,u)::r=>by
   have ih:=Xo a b v r
   simp only [yL,iB]
   by_cases hk:a=x/\b=y
   ·rw [ae hk,ae hk]
    have hm:yL a b ((x,y,u)::r)=0:=by simp only [yL];rw [ae hk]
    have:HX a b ((x,y,u)::r)=(x,y,u)::r:=by unfold HX;rw [ae (by rw [hm];simp)]
    rw [this,hk.1,hk.2];rfl
   ·rw [aa hk,aa hk]
    have hm:yL a b ((x,y,u)::r)=yL a b r+1:=by simp only [yL];rw [aa hk]
    have:HX a b ((x,y,u)::r)=(x,y,u)::HX a b r:=by
     unfold HX
     by_cases hl:yL a b r<r.length
     ·rw [ae hl,ae (by rw [hm];simpa using hl)]
     ·rw [aa hl,aa (by rw [hm];simpa using hl)];rfl
    rw [this, <-ih];rfl
theorem b9P (p:Nat) (a b v:Int):mpS (some (p,HX a b L)) (.lit (.int .i64 (yL a b L))) (.lit (.int .i64 v))=some (.undef,[(p,⟨0,true,[bB (iB a b v L)]⟩)]):=by
 have:=b8Y a b L
 simp only [mpS]
 rw [ae ⟨by omega,by omega⟩,aK,Xo]
theorem b6q:m4 ow .mkMap ev h=[]:=rfl
theorem b27 (m k:Opd):m4 ow (.mapGet m k) ev h=((AOp.mapGet m k).opds.map ev).flatMap n7:=rfl
theorem b1p (m k x:Opd):m4 ow (.mapSet m k x) ev h=((AOp.mapSet m k x).opds.map ev).flatMap n7:=rfl
theorem b25 (m k:Opd):m4 ow (.mapEnt m k) ev h=((AOp.mapEnt m k).opds.map ev).flatMap n7:=rfl
theorem b1Y (m k x:Opd):m4 ow (.mapPut m k x) ev h=((AOp.mapPut m k x).opds.map ev).flatMap n7:=rfl
theorem a9K (m k:Opd):(AOp.mapGet m k).opds=[m,k]:=rfl
theorem b1a (m k x:Opd):(AOp.mapSet m k x).opds=[m,k,x]:=rfl
theorem a9D (m k:Opd):(AOp.mapEnt m k).opds=[m,k]:=rfl
theorem a99 (m k x:Opd):(AOp.mapPut m k x).opds=[m,k,x]:=rfl
end
attribute [go_sem] c5u c1g c0w c5e c5j b5T b5g b3I c2R c4G c0B c3u a1u b9Y b9T c3A b3L b6Z c0h c0X c3K c2Y c2f
attribute [go_sem] c4i c1v b5Y c0W b8R b3Z b9M b7q QX c05 c1b b5C b6T b3z b2r b5y b3q b5O b5b b3d b6n b9P
attribute [go_sem] b6q b27 b1p b25 b1Y a9K b1a a9D a99
def eA2 {α:Type} (e:En α):En (α×α):=⟨2,fun x=>e.enc x.1++e.enc x.2⟩
theorem c04:(eA2 eI).esz=2:=by decide
theorem b9g (x:Int×Int):(eA2 eI).enc x=[I x.1,I x.2]:=rfl
theorem c2n (a b:Int) (l:List (Int×Int)):dU [I a,I b] (rws (eA2 eI) l)=rws (eA2 eI) ((a,b)::l):=rfl
theorem c4z (a b:Int) (l:List (Int×Int)) (i:Nat):iV (rws (eA2 eI) l) i [I a,I b]=rws (eA2 eI) (l.set i (a,b)):=by simp [iV,rws,eA2];rfl
attribute [go_sem] c04 b9g c2n c4z
end Go.AI
