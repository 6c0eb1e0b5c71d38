/- Part. -/
import Derived.Test.YtdnkignjanfikaaGreatAiAdd
import Derived.Test.YtdnkignjanfikaaGreatAiSrt
set_option linter.unusedVariables false
set_option linter.unusedSimpArgs false
namespace Go.AI
theorem jh (t:Tri) (L:List Tri):bz (t::L)= .lit (.int .i64 t.1):: .lit (.int .i64 t.2.1):: .lit (.int .i64 t.2.2)::bz L:=rfl
section
variable {C:ce} {ow:ec} {ev:Opd->V} {h:b8} {n:Nat} {L:List Tri} {bs:List Nat}
theorem c7R (b:Nat):(V.mp b).cz= .mp b:=rfl
theorem c6e (b:Nat):(V.mp b).czA= .mp b:=rfl
theorem c4y (b:Nat):(V.mp b).czR= .mp b:=rfl
def lcM (k:Option Blk) (ids:List Nat) (b:Nat):Option (V×List Nat×List Nat):=match k with
 |some _=>some (.mp (kL b (gi ids b)),gi ids b,[])
 |none=>none
theorem c7j (own:Bool) (ids:List Nat) (b:Nat):dv h own ids (.mp b)=lcM (h b) ids b:=rfl
theorem c7a (own:Bool) (ids:List Nat) (b:Nat):fm h own ids (.mp b)=lcM (h b) ids b:=rfl
theorem b4C (k:Blk) (ids:List Nat) (b:Nat):lcM (some k) ids b=some (.mp (kL b (gi ids b)),gi ids b,[]):=rfl
theorem b5N (ids:List Nat) (b:Nat):Bo ids (.mp b)= .mp (ids.getD b 0):=rfl
theorem b5S (ids:List Nat) (b:Nat):mG ids (.mp b)= .mp (ids.getD b 0):=rfl
theorem c5V (ids:List Nat) (b:Nat):unV ids (.mp b)= .mp (ids.getD b 0):=rfl
theorem c6X (b:Nat):sQ (.mp b)=true:=rfl
theorem c63 (b:Nat):Et (.mp b)=true:=rfl
theorem c5W (b:Nat):pC (.mp b)=true:=rfl
def fcM (m:Nat) (kp:List Nat) (b:Nat):Option V:=br (Nat.blt b m) (some (.mp b)) (br (kp.contains b) (some (.mp (m+kL b kp))) none)
theorem WM (m:Nat) (kp:List Nat) (b:Nat):pK h m kp (.mp b)=fcM m kp b:=by
 rw [fcM,EU]
 simp only [pK]
 by_cases a:b<m
 ·simp [a,br]
 ·by_cases c:b∈kp<;>simp [a,c,br]
theorem c0M (m:Nat) (kp:List Nat) (b:Nat):ES h m kp (.mp b)=fcM m kp b:=WM (h:=h) m kp b
theorem b9a (m:Nat) (kp:List Nat) (b:Nat):Hw h m kp (.mp b)=fcM m kp b:=WM (h:=h) m kp b
theorem c3g (m:Nat) (kp:List Nat) (b:Nat):fcM m kp b=br (Nat.blt b m) (some (.mp b)) (br (kp.contains b) (some (.mp (m+kL b kp))) none):=rfl
theorem b6i (b:Nat):(V.mp b).cells=[.mp b]:=rfl
theorem b9b (b:Nat):(V.mp b).cell=true:=rfl
theorem c1W (b:Nat):fzA h bs (.mp b)=br (bs.contains b) .undef (.mp b):=by
 simp only [fzA,fzC]
 by_cases a:b∈bs<;>simp [a,br]
theorem c4q (b:Nat):fzC h bs (.mp b)=br (bs.contains b) .undef (.mp b):=c1W (h:=h) b
theorem c3L (b:Nat):okC (.mp b)=true:=rfl
theorem c2I (b:Nat):gN (.mp b)=[b]:=rfl
theorem c5l (b:Nat):rF (.mp b)=[b]:=rfl
theorem c70:(bz L).map V.cz=bz L:=by
 induction L with
 |nil=>rfl
 |cons a l ih=>rw [jh,aP,aP,aP,ih];rfl
theorem c3n (ids:List Nat):(bz L).map (unV ids)=bz L:=by
 induction L with
 |nil=>rfl
 |cons a l ih=>rw [jh,aP,aP,aP,ih];rfl
theorem b1x (ids:List Nat):(bz L).map (mG ids)=bz L:=by
 induction L with
 |nil=>rfl
 |cons a l ih=>rw [jh,aP,aP,aP,ih];rfl
theorem c4U (bs:List Nat):(bz L).map (fzC h bs)=bz L:=by
 induction L with
 |nil=>rfl
 |cons a l ih=>rw [jh,aP,aP,aP,ih];rfl
theorem b7L:(bz L).all V.cell=true:=by
 induction L with
 |nil=>rfl
 |cons a l ih=>rw [jh,cj,cj,cj,ih];rfl
theorem b6r:(bz L).all pC=true:=by
 induction L with
 |nil=>rfl
 |cons a l ih=>rw [jh,cj,cj,cj,ih];rfl
theorem b8d:(bz L).flatMap rF=[]:=by
 induction L with
 |nil=>rfl
 |cons a l ih=>rw [jh,cm,cm,cm,ih];rfl
theorem b7X:(bz L).flatMap gN=[]:=by
 induction L with
 |nil=>rfl
 |cons a l ih=>rw [jh,cm,cm,cm,ih];rfl
theorem RN (m:Nat) (kp:List Nat):zl h m kp (bz L)=some (bz L):=by
 induction L with
 |nil=>rfl
 |cons a l ih=>rw [jh,yf,yf,yf,ih];rfl
theorem b9E (ids:List Nat):rj h ids (bz L)=some (bz L,ids):=by
 induction L with
 |nil=>rfl
 |cons a l ih=>rw [jh,yd,R5,Fh,yd,R5,Fh,yd,R5,Fh,ih];rfl
def mgB:Option Blk->Option (List Tri)
 |some ⟨0,true,[cs]⟩=>Mw cs
 |_=>none
theorem c5p:mgB (some ⟨0,true,[bz L]⟩)=some L:=vd L
theorem b4S (b:Nat):rE h (.mp b)=(mgB (h b)).bind fun L=>some (b,L):=by
 unfold rE mgB
 split
 ·rename_i e;cases e
  split
  ·rename_i cs a;rw [a];cases c:Mw cs<;>simp [c]
  ·rename_i hn
   split
   ·rename_i cs a;exact absurd a (hn cs)
   ·rfl
 ·rename_i hn;exact absurd rfl (hn b)
def mkS (o:Option Blk) (n:Nat):Option (V×Upd):=br o.isNone (some (.mp n,[(n,⟨0,true,[bz []]⟩)])) none
theorem b7t:aM C ow .mkMap ev h n=mkS (h n) n:=by
 simp only [aM,mkS]
 cases (h n).isNone<;>rfl
theorem b5m:mkS none n=some (.mp n,[(n,⟨0,true,[bz []]⟩)]):=rfl
def mgS (o:Option (Nat×List Tri)) (k:V):Option (V×Upd):=match o,mapKey k with
 |some (_,L),some (a,b)=>some (.lit (.int .i64 (i7 a b L)),[])
 |_,_=>none
theorem b62 (m k:Opd):aM C ow (.mapGet m k) ev h n=mgS (rE h (ev m)) (ev k):=rfl
theorem b2N (p:Nat) (a b:Int):mgS (some (p,L)) (.agg [.lit (.int .i64 a),.lit (.int .i64 b)])=some (.lit (.int .i64 (i7 a b L)),[]):=rfl
def msS (o:Option (Nat×List Tri)) (k x:V):Option (V×Upd):=match o,mapKey k,x with
 |some (p,L),some (a,b),.lit (.int .i64 v)=>some (.undef,[(p,⟨0,true,[bz (iw a b v L)]⟩)])
 |_,_,_=>none
theorem b4L (m k x:Opd):aM C ow (.mapSet m k x) ev h n=msS (rE h (ev m)) (ev k) (ev x):=rfl
theorem b2B (p:Nat) (a b v:Int):msS (some (p,L)) (.agg [.lit (.int .i64 a),.lit (.int .i64 b)]) (.lit (.int .i64 v))=some (.undef,[(p,⟨0,true,[bz (iw a b v L)]⟩)]):=rfl
def meS (o:Option (Nat×List Tri)) (k:V):Option (V×Upd):=match o,mapKey k with
 |some (p,L),some (a,b)=>some (.tup [.lit (.int .i64 (i7 a b L)),.lit (.int .i64 (yM a b L))],[(p,⟨0,true,[bz (Ho a b L)]⟩)])
 |_,_=>none
theorem b6a (m k:Opd):aM C ow (.mapEnt m k) ev h n=meS (rE h (ev m)) (ev k):=rfl
theorem b4c (p:Nat) (a b:Int):meS (some (p,L)) (.agg [.lit (.int .i64 a),.lit (.int .i64 b)])=some (.tup [.lit (.int .i64 (i7 a b L)),.lit (.int .i64 (yM a b L))],[(p,⟨0,true,[bz (Ho a b L)]⟩)]):=rfl
def mpS (o:Option (Nat×List Tri)) (i x:V):Option (V×Upd):=match o,i,x with
 |some (p,L),.lit (.int .i64 i),.lit (.int .i64 v)=>if 0<=i/\i<L.length then some (.undef,[(p,⟨0,true,[bz (b6x i.toNat v L)]⟩)]) else none
 |_,_,_=>none
theorem b6D (m i x:Opd):aM C ow (.mapPut m i x) ev h n=mpS (rE h (ev m)) (ev i) (ev x):=rfl
theorem c1a (a b:Int): ∀L:List Tri,yM a b L<(Ho a b L).length:=by
 have c: ∀L:List Tri,yM a b L<=L.length:=by
  intro L
  induction L with
  |nil=>simp [yM]
  |cons t r ih=>
   obtain ⟨x,y,u⟩:=t
   simp only [yM]
   split<;>simp<;>omega
 intro L
 unfold Ho
 split
 ·assumption
 ·simp;have:=c L;omega
theorem VV (a b v:Int): ∀L:List Tri,b6x (yM a b L) v (Ho a b L)=iw a b v L
 |[]=>rfl
 | (x,y,u)::r=>by
   have ih:=VV a b v r
   simp only [yM,iw]
   by_cases c:a=x/\b=y
   ·rw [ae c,ae c]
    have d:yM a b ((x,y,u)::r)=0:=by simp only [yM];rw [ae c]
    have:Ho a b ((x,y,u)::r)=(x,y,u)::r:=by unfold Ho;rw [ae (by rw [d];simp)]
    rw [this,c.1,c.2];rfl
   ·rw [aa c,aa c]
    have d:yM a b ((x,y,u)::r)=yM a b r+1:=by simp only [yM];rw [aa c]
    have:Ho a b ((x,y,u)::r)=(x,y,u)::Ho a b r:=by
     unfold Ho
     by_cases e:yM a b r<r.length
     ·rw [ae e,ae (by rw [d];simpa using e)]
     ·rw [aa e,aa (by rw [d];simpa using e)];rfl
    rw [this, <-ih];rfl
theorem b7R (p:Nat) (a b v:Int):mpS (some (p,Ho a b L)) (.lit (.int .i64 (yM a b L))) (.lit (.int .i64 v))=some (.undef,[(p,⟨0,true,[bz (iw a b v L)]⟩)]):=by
 have:=c1a a b L
 simp only [mpS]
 rw [ae ⟨by omega,by omega⟩,aK,VV]
theorem b1u:im ow .mkMap ev h=[]:=rfl
theorem a9N (m k:Opd):im ow (.mapGet m k) ev h=((AOp.mapGet m k).opds.map ev).flatMap gN:=rfl
theorem a8D (m k x:Opd):im ow (.mapSet m k x) ev h=((AOp.mapSet m k x).opds.map ev).flatMap gN:=rfl
theorem a97 (m k:Opd):im ow (.mapEnt m k) ev h=((AOp.mapEnt m k).opds.map ev).flatMap gN:=rfl
theorem a9n (m k x:Opd):im ow (.mapPut m k x) ev h=((AOp.mapPut m k x).opds.map ev).flatMap gN:=rfl
theorem b0R (m k:Opd):(AOp.mapGet m k).opds=[m,k]:=rfl
theorem a8Y (m k x:Opd):(AOp.mapSet m k x).opds=[m,k,x]:=rfl
theorem a94 (m k:Opd):(AOp.mapEnt m k).opds=[m,k]:=rfl
theorem b0i (m k x:Opd):(AOp.mapPut m k x).opds=[m,k,x]:=rfl
end
attribute [go_sem] c7R c6e c4y c7j c7a b4C b5N b5S c5V c6X c63 c5W WM c0M b9a c3g b6i b9b c1W c4q c3L c2I c5l
attribute [go_sem] c70 c3n b1x c4U b7L b6r b8d b7X RN b9E c5p b4S b7t b5m b62 b2N b4L b2B b6a b4c b6D b7R
attribute [go_sem] b1u a9N a8D a97 a9n b0R a8Y a94 b0i
def eA2 {α:Type} (e:En α):En (α×α):=⟨2,fun x=>e.enc x.1++e.enc x.2⟩
theorem b8O:(eA2 eI).esz=2:=by decide
theorem b7B (x:Int×Int):(eA2 eI).enc x=[I x.1,I x.2]:=rfl
theorem c2v (a b:Int) (l:List (Int×Int)):dj [I a,I b] (rws (eA2 eI) l)=rws (eA2 eI) ((a,b)::l):=rfl
theorem c6C (a b:Int) (l:List (Int×Int)) (i:Nat):i4 (rws (eA2 eI) l) i [I a,I b]=rws (eA2 eI) (l.set i (a,b)):=by simp [i4,rws,eA2];rfl
attribute [go_sem] b8O b7B c2v c6C
end Go.AI
