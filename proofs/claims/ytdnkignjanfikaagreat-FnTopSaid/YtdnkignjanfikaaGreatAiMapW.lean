/- Part. -/
import Derived.Test.YtdnkignjanfikaaGreatAiAdd
import Derived.Test.YtdnkignjanfikaaGreatAiSrt
set_option linter.unusedVariables false
set_option linter.unusedSimpArgs false
namespace Go.AI
theorem rp (t:Tri) (L:List Tri):bH (t::L)= .lit (.int .i64 t.1):: .lit (.int .i64 t.2.1):: .lit (.int .i64 t.2.2)::bH L:=rfl
section
variable {C:cr} {ow:ff} {ev:Opd->V} {h:ba} {n:Nat} {L:List Tri} {bs:List Nat}
theorem c6o (b:Nat):(V.mp b).cz= .mp b:=rfl
theorem c2Q (b:Nat):(V.mp b).czA= .mp b:=rfl
def lcM (k:Option Blk) (ids:List Nat) (b:Nat):Option (V×List Nat×List Nat):=match k with
 |some _=>some (.mp (n3 b (iA ids b)),iA ids b,[])
 |none=>none
theorem c67 (own:Bool) (ids:List Nat) (b:Nat):hJ h own ids (.mp b)=lcM (h b) ids b:=rfl
theorem b4t (k:Blk) (ids:List Nat) (b:Nat):lcM (some k) ids b=some (.mp (n3 b (iA ids b)),iA ids b,[]):=rfl
theorem b5a (ids:List Nat) (b:Nat):qj ids (.mp b)= .mp (ids.getD b 0):=rfl
theorem c0L (b:Nat):vB (.mp b)=true:=rfl
def fcM (m:Nat) (kp:List Nat) (b:Nat):Option V:=br (Nat.blt b m) (some (.mp b)) (br (kp.contains b) (some (.mp (m+n3 b kp))) none)
theorem a67 (m:Nat) (kp:List Nat) (b:Nat):vE h m kp (.mp b)=fcM m kp b:=by
 rw [fcM,Gq]
 simp only [vE]
 by_cases a:b<m
 ·simp [a,br]
 ·by_cases c:b∈kp<;>simp [a,c,br]
theorem b9X (m:Nat) (kp:List Nat) (b:Nat):NW h m kp (.mp b)=fcM m kp b:=a67 (h:=h) m kp b
theorem c2r (m:Nat) (kp:List Nat) (b:Nat):fcM m kp b=br (Nat.blt b m) (some (.mp b)) (br (kp.contains b) (some (.mp (m+n3 b kp))) none):=rfl
theorem b4Q (b:Nat):(V.mp b).cells=[.mp b]:=rfl
theorem b8u (b:Nat):(V.mp b).cell=true:=rfl
theorem c0f (b:Nat):fzA h bs (.mp b)=br (bs.contains b) .undef (.mp b):=by
 simp only [fzA,fzC]
 by_cases a:b∈bs<;>simp [a,br]
theorem c2a (b:Nat):fzC h bs (.mp b)=br (bs.contains b) .undef (.mp b):=c0f (h:=h) b
theorem c3Q (b:Nat):nE (.mp b)=[b]:=rfl
theorem c65:(bH L).map V.cz=bH L:=by
 induction L with
 |nil=>rfl
 |cons a l ih=>rw [rp,aM,aM,aM,ih];rfl
theorem b2z (ids:List Nat):(bH L).map (qj ids)=bH L:=by
 induction L with
 |nil=>rfl
 |cons a l ih=>rw [rp,aM,aM,aM,ih];rfl
theorem c3R (bs:List Nat):(bH L).map (fzC h bs)=bH L:=by
 induction L with
 |nil=>rfl
 |cons a l ih=>rw [rp,aM,aM,aM,ih];rfl
theorem b6g:(bH L).all V.cell=true:=by
 induction L with
 |nil=>rfl
 |cons a l ih=>rw [rp,cC,cC,cC,ih];rfl
theorem b5i:(bH L).all vB=true:=by
 induction L with
 |nil=>rfl
 |cons a l ih=>rw [rp,cC,cC,cC,ih];rfl
theorem QT (m:Nat) (kp:List Nat):BR h m kp (bH L)=some (bH L):=by
 induction L with
 |nil=>rfl
 |cons a l ih=>rw [rp,Aq,Aq,Aq,ih];rfl
theorem b6X (ids:List Nat):uE h ids (bH L)=some (bH L,ids):=by
 induction L with
 |nil=>rfl
 |cons a l ih=>rw [rp,AU,SN,GP,AU,SN,GP,AU,SN,GP,ih];rfl
def mgB:Option Blk->Option (List Tri)
 |some ⟨0,true,[cs]⟩=>NQ cs
 |_=>none
theorem c1V:mgB (some ⟨0,true,[bH L]⟩)=some L:=yp L
theorem b4U (b:Nat):uo h (.mp b)=(mgB (h b)).bind fun L=>some (b,L):=by
 unfold uo mgB
 split
 ·rename_i e;cases e
  split
  ·rename_i cs a;rw [a];cases c:NQ cs<;>simp [c]
  ·rename_i hn
   split
   ·rename_i cs a;exact absurd a (hn cs)
   ·rfl
 ·rename_i hn;exact absurd rfl (hn b)
def mkS (o:Option Blk) (n:Nat):Option (V×Upd):=br o.isNone (some (.mp n,[(n,⟨0,true,[bH []]⟩)])) none
theorem b5V:aK C ow .mkMap ev h n=mkS (h n) n:=by
 simp only [aK,mkS]
 cases (h n).isNone<;>rfl
theorem b2O:mkS none n=some (.mp n,[(n,⟨0,true,[bH []]⟩)]):=rfl
def mgS (o:Option (Nat×List Tri)) (k:V):Option (V×Upd):=match o,mapKey k with
 |some (_,L),some (a,b)=>some (.lit (.int .i64 (j5 a b L)),[])
 |_,_=>none
theorem a9L (m k:Opd):aK C ow (.mapGet m k) ev h n=mgS (uo h (ev m)) (ev k):=rfl
theorem a9I (p:Nat) (a b:Int):mgS (some (p,L)) (.agg [.lit (.int .i64 a),.lit (.int .i64 b)])=some (.lit (.int .i64 (j5 a b L)),[]):=rfl
def msS (o:Option (Nat×List Tri)) (k x:V):Option (V×Upd):=match o,mapKey k,x with
 |some (p,L),some (a,b),.lit (.int .i64 v)=>some (.undef,[(p,⟨0,true,[bH (jp a b v L)]⟩)])
 |_,_,_=>none
theorem b09 (m k x:Opd):aK C ow (.mapSet m k x) ev h n=msS (uo h (ev m)) (ev k) (ev x):=rfl
theorem b4z (p:Nat) (a b v:Int):msS (some (p,L)) (.agg [.lit (.int .i64 a),.lit (.int .i64 b)]) (.lit (.int .i64 v))=some (.undef,[(p,⟨0,true,[bH (jp a b v L)]⟩)]):=rfl
def meS (o:Option (Nat×List Tri)) (k:V):Option (V×Upd):=match o,mapKey k with
 |some (p,L),some (a,b)=>some (.tup [.lit (.int .i64 (j5 a b L)),.lit (.int .i64 (Ae a b L))],[(p,⟨0,true,[bH (If a b L)]⟩)])
 |_,_=>none
theorem b4D (m k:Opd):aK C ow (.mapEnt m k) ev h n=meS (uo h (ev m)) (ev k):=rfl
theorem b5n (p:Nat) (a b:Int):meS (some (p,L)) (.agg [.lit (.int .i64 a),.lit (.int .i64 b)])=some (.tup [.lit (.int .i64 (j5 a b L)),.lit (.int .i64 (Ae a b L))],[(p,⟨0,true,[bH (If a b L)]⟩)]):=rfl
def mpS (o:Option (Nat×List Tri)) (i x:V):Option (V×Upd):=match o,i,x with
 |some (p,L),.lit (.int .i64 i),.lit (.int .i64 v)=>if 0<=i/\i<L.length then some (.undef,[(p,⟨0,true,[bH (b3v i.toNat v L)]⟩)]) else none
 |_,_,_=>none
theorem b4S (m i x:Opd):aK C ow (.mapPut m i x) ev h n=mpS (uo h (ev m)) (ev i) (ev x):=rfl
theorem b7W (a b:Int): ∀L:List Tri,Ae a b L<(If a b L).length:=by
 have c: ∀L:List Tri,Ae a b L<=L.length:=by
  intro L
  induction L with
  |nil=>simp [Ae]
  |cons t r ih=>
   obtain ⟨x,y,u⟩:=t
   simp only [Ae]
   split<;>simp<;>omega
 intro L
 unfold If
 split
 ·assumption
 ·simp;have:=c L;omega
theorem Vl (a b v:Int): ∀L:List Tri,b3v (Ae a b L) v (If a b L)=jp a b v L
 |[]=>rfl
 | (x,y,u)::r=>by
   have ih:=Vl a b v r
   simp only [Ae,jp]
   by_cases c:a=x/\b=y
   ·rw [aa c,aa c]
    have d:Ae a b ((x,y,u)::r)=0:=by simp only [Ae];rw [aa c]
    have:If a b ((x,y,u)::r)=(x,y,u)::r:=by unfold If;rw [aa (by rw [d];simp)]
    rw [this,c.1,c.2];rfl
   ·rw [a7 c,a7 c]
    have d:Ae a b ((x,y,u)::r)=Ae a b r+1:=by simp only [Ae];rw [a7 c]
    have:If a b ((x,y,u)::r)=(x,y,u)::If a b r:=by
     unfold If
     by_cases e:Ae a b r<r.length
     ·rw [aa e,aa (by rw [d];simpa using e)]
     ·rw [a7 e,a7 (by rw [d];simpa using e)];rfl
    rw [this, <-ih];rfl
theorem b8S (p:Nat) (a b v:Int):mpS (some (p,If a b L)) (.lit (.int .i64 (Ae a b L))) (.lit (.int .i64 v))=some (.undef,[(p,⟨0,true,[bH (jp a b v L)]⟩)]):=by
 have:=b7W a b L
 simp only [mpS]
 rw [aa ⟨by omega,by omega⟩,aY,Vl]
theorem a9j (m k:Opd):mV ow (.mapGet m k) ev h=((AOp.mapGet m k).opds.map ev).flatMap nE:=rfl
theorem a6W (m k x:Opd):mV ow (.mapSet m k x) ev h=((AOp.mapSet m k x).opds.map ev).flatMap nE:=rfl
theorem a85 (m k:Opd):mV ow (.mapEnt m k) ev h=((AOp.mapEnt m k).opds.map ev).flatMap nE:=rfl
theorem a7p (m k x:Opd):mV ow (.mapPut m k x) ev h=((AOp.mapPut m k x).opds.map ev).flatMap nE:=rfl
theorem a8g (m k:Opd):(AOp.mapGet m k).opds=[m,k]:=rfl
theorem a9p (m k x:Opd):(AOp.mapSet m k x).opds=[m,k,x]:=rfl
theorem a81 (m k:Opd):(AOp.mapEnt m k).opds=[m,k]:=rfl
theorem a9x (m k x:Opd):(AOp.mapPut m k x).opds=[m,k,x]:=rfl
end
attribute [go_sem] c6o c2Q c67 b4t b5a c0L a67 b9X c2r b4Q b8u c0f c2a c3Q
attribute [go_sem] c65 b2z c3R b6g b5i QT b6X c1V b4U b5V b2O a9L a9I b09 b4z b4D b5n b4S b8S
attribute [go_sem] a9j a6W a85 a7p a8g a9p a81 a9x
def eA2 {α:Type} (e:En α):En (α×α):=⟨2,fun x=>e.enc x.1++e.enc x.2⟩
theorem b7q:(eA2 eI).esz=2:=by decide
theorem b89 (x:Int×Int):(eA2 eI).enc x=[I x.1,I x.2]:=rfl
theorem c3O (a b:Int) (l:List (Int×Int)):Av [I a,I b] (rws (eA2 eI) l)=rws (eA2 eI) ((a,b)::l):=rfl
attribute [go_sem] b7q b89 c3O
end Go.AI
