/- Part. -/
import Derived.Test.YtdnkignjanfikaaGreatAiAdd
import Derived.Test.YtdnkignjanfikaaGreatAiSrt
set_option linter.unusedVariables false
set_option linter.unusedSimpArgs false
namespace Go.AI
theorem jc (t:Tri) (L:List Tri):bz (t::L)= .lit (.int .i64 t.1):: .lit (.int .i64 t.2.1):: .lit (.int .i64 t.2.2)::bz L:=rfl
section
variable {C:ce} {ow:ec} {ev:Opd->V} {h:b8} {n:Nat} {L:List Tri} {bs:List Nat}
theorem c6P (b:Nat):(V.mp b).cz= .mp b:=rfl
theorem c3O (b:Nat):(V.mp b).czA= .mp b:=rfl
theorem c2w (b:Nat):(V.mp b).czR= .mp b:=rfl
def lcM (k:Option Blk) (ids:List Nat) (b:Nat):Option (V×List Nat×List Nat):=match k with
 |some _=>some (.mp (kK b (gj ids b)),gj ids b,[])
 |none=>none
theorem c77 (own:Bool) (ids:List Nat) (b:Nat):dw h own ids (.mp b)=lcM (h b) ids b:=rfl
theorem c7X (own:Bool) (ids:List Nat) (b:Nat):fm h own ids (.mp b)=lcM (h b) ids b:=rfl
theorem b2K (k:Blk) (ids:List Nat) (b:Nat):lcM (some k) ids b=some (.mp (kK b (gj ids b)),gj ids b,[]):=rfl
theorem b1V (ids:List Nat) (b:Nat):Bu ids (.mp b)= .mp (ids.getD b 0):=rfl
theorem b5v (ids:List Nat) (b:Nat):mI ids (.mp b)= .mp (ids.getD b 0):=rfl
theorem c4a (ids:List Nat) (b:Nat):unV ids (.mp b)= .mp (ids.getD b 0):=rfl
theorem c6T (b:Nat):sT (.mp b)=true:=rfl
theorem c2A (b:Nat):E9 (.mp b)=true:=rfl
theorem c3S (b:Nat):pN (.mp b)=true:=rfl
def fcM (m:Nat) (kp:List Nat) (b:Nat):Option V:=br (Nat.blt b m) (some (.mp b)) (br (kp.contains b) (some (.mp (m+kK b kp))) none)
theorem ZP (m:Nat) (kp:List Nat) (b:Nat):pK h m kp (.mp b)=fcM m kp b:=by
 rw [fcM,EV]
 simp only [pK]
 by_cases a:b<m
 ·simp [a,br]
 ·by_cases c:b∈kp<;>simp [a,c,br]
theorem c1F (m:Nat) (kp:List Nat) (b:Nat):ET h m kp (.mp b)=fcM m kp b:=ZP (h:=h) m kp b
theorem c01 (m:Nat) (kp:List Nat) (b:Nat):Hx h m kp (.mp b)=fcM m kp b:=ZP (h:=h) m kp b
theorem c63 (m:Nat) (kp:List Nat) (b:Nat):fcM m kp b=br (Nat.blt b m) (some (.mp b)) (br (kp.contains b) (some (.mp (m+kK b kp))) none):=rfl
theorem b1C (b:Nat):(V.mp b).cells=[.mp b]:=rfl
theorem b9W (b:Nat):(V.mp b).cell=true:=rfl
theorem c2h (b:Nat):fzA h bs (.mp b)=br (bs.contains b) .undef (.mp b):=by
 simp only [fzA,fzC]
 by_cases a:b∈bs<;>simp [a,br]
theorem c2I (b:Nat):fzC h bs (.mp b)=br (bs.contains b) .undef (.mp b):=c2h (h:=h) b
theorem c3G (b:Nat):okC (.mp b)=true:=rfl
theorem c5f (b:Nat):gN (.mp b)=[b]:=rfl
theorem c55 (b:Nat):si (.mp b)=[b]:=rfl
theorem c83:(bz L).map V.cz=bz L:=by
 induction L with
 |nil=>rfl
 |cons a l ih=>rw [jc,aP,aP,aP,ih];rfl
theorem c5S (ids:List Nat):(bz L).map (unV ids)=bz L:=by
 induction L with
 |nil=>rfl
 |cons a l ih=>rw [jc,aP,aP,aP,ih];rfl
theorem b2L (ids:List Nat):(bz L).map (mI ids)=bz L:=by
 induction L with
 |nil=>rfl
 |cons a l ih=>rw [jc,aP,aP,aP,ih];rfl
theorem c2F (bs:List Nat):(bz L).map (fzC h bs)=bz L:=by
 induction L with
 |nil=>rfl
 |cons a l ih=>rw [jc,aP,aP,aP,ih];rfl
theorem c1E:(bz L).all V.cell=true:=by
 induction L with
 |nil=>rfl
 |cons a l ih=>rw [jc,cj,cj,cj,ih];rfl
theorem b48:(bz L).all pN=true:=by
 induction L with
 |nil=>rfl
 |cons a l ih=>rw [jc,cj,cj,cj,ih];rfl
theorem c0q:(bz L).flatMap si=[]:=by
 induction L with
 |nil=>rfl
 |cons a l ih=>rw [jc,cm,cm,cm,ih];rfl
theorem c0Y:(bz L).flatMap gN=[]:=by
 induction L with
 |nil=>rfl
 |cons a l ih=>rw [jc,cm,cm,cm,ih];rfl
theorem SR (m:Nat) (kp:List Nat):Ak h m kp (bz L)=some (bz L):=by
 induction L with
 |nil=>rfl
 |cons a l ih=>rw [jc,ye,ye,ye,ih];rfl
theorem b8e (ids:List Nat):re h ids (bz L)=some (bz L,ids):=by
 induction L with
 |nil=>rfl
 |cons a l ih=>rw [jc,y0,PA,Gu,y0,PA,Gu,y0,PA,Gu,ih];rfl
def mgB:Option Blk->Option (List Tri)
 |some ⟨0,true,[cs]⟩=>Mo cs
 |_=>none
theorem c61:mgB (some ⟨0,true,[bz L]⟩)=some L:=vm L
theorem b4M (b:Nat):rg h (.mp b)=(mgB (h b)).bind fun L=>some (b,L):=by
 unfold rg mgB
 split
 ·rename_i e;cases e
  split
  ·rename_i cs a;rw [a];cases d:Mo cs<;>simp [d]
  ·rename_i c
   split
   ·rename_i cs a;exact absurd a (c cs)
   ·rfl
 ·rename_i c;exact absurd rfl (c b)
def mkS (o:Option Blk) (n:Nat):Option (V×Upd):=br o.isNone (some (.mp n,[(n,⟨0,true,[bz []]⟩)])) none
theorem b9j:aM C ow .mkMap ev h n=mkS (h n) n:=by
 simp only [aM,mkS]
 cases (h n).isNone<;>rfl
theorem b1R:mkS none n=some (.mp n,[(n,⟨0,true,[bz []]⟩)]):=rfl
def mgS (o:Option (Nat×List Tri)) (k:V):Option (V×Upd):=match o,mapKey k with
 |some (_,L),some (a,b)=>some (.lit (.int .i64 (i4 a b L)),[])
 |_,_=>none
theorem b4Z (m k:Opd):aM C ow (.mapGet m k) ev h n=mgS (rg h (ev m)) (ev k):=rfl
theorem b4H (p:Nat) (a b:Int):mgS (some (p,L)) (.agg [.lit (.int .i64 a),.lit (.int .i64 b)])=some (.lit (.int .i64 (i4 a b L)),[]):=rfl
def msS (o:Option (Nat×List Tri)) (k x:V):Option (V×Upd):=match o,mapKey k,x with
 |some (p,L),some (a,b),.lit (.int .i64 v)=>some (.undef,[(p,⟨0,true,[bz (iu a b v L)]⟩)])
 |_,_,_=>none
theorem b6b (m k x:Opd):aM C ow (.mapSet m k x) ev h n=msS (rg h (ev m)) (ev k) (ev x):=rfl
theorem b4O (p:Nat) (a b v:Int):msS (some (p,L)) (.agg [.lit (.int .i64 a),.lit (.int .i64 b)]) (.lit (.int .i64 v))=some (.undef,[(p,⟨0,true,[bz (iu a b v L)]⟩)]):=rfl
def meS (o:Option (Nat×List Tri)) (k:V):Option (V×Upd):=match o,mapKey k with
 |some (p,L),some (a,b)=>some (.tup [.lit (.int .i64 (i4 a b L)),.lit (.int .i64 (ya a b L))],[(p,⟨0,true,[bz (Hr a b L)]⟩)])
 |_,_=>none
theorem b1P (m k:Opd):aM C ow (.mapEnt m k) ev h n=meS (rg h (ev m)) (ev k):=rfl
theorem b6t (p:Nat) (a b:Int):meS (some (p,L)) (.agg [.lit (.int .i64 a),.lit (.int .i64 b)])=some (.tup [.lit (.int .i64 (i4 a b L)),.lit (.int .i64 (ya a b L))],[(p,⟨0,true,[bz (Hr a b L)]⟩)]):=rfl
def mpS (o:Option (Nat×List Tri)) (i x:V):Option (V×Upd):=match o,i,x with
 |some (p,L),.lit (.int .i64 i),.lit (.int .i64 v)=>if 0<=i/\i<L.length then some (.undef,[(p,⟨0,true,[bz (b1U i.toNat v L)]⟩)]) else none
 |_,_,_=>none
theorem b6j (m i x:Opd):aM C ow (.mapPut m i x) ev h n=mpS (rg h (ev m)) (ev i) (ev x):=rfl
theorem c0M (a b:Int): ∀L:List Tri,ya a b L<(Hr a b L).length:=by
 c d: ∀L:List Tri,ya a b L<=L.length:=by
   intro L
   induction L with
   |nil=>simp [ya]
   |cons t r ih=>
    obtain ⟨x,y,u⟩:=t
    simp only [ya]
    split<;>simp<;>omega
 intro L
 unfold Hr
 split
 ·assumption
 ·simp;c:=d L;omega
theorem Vk (a b v:Int): ∀L:List Tri,b1U (ya a b L) v (Hr a b L)=iu a b v L
 |[]=>rfl
 | (x,y,u)::r=>by
   c ih:=Vk a b v r
   simp only [ya,iu]
   by_cases d:a=x/\b=y
   ·rw [ae d,ae d]
    c e:ya a b ((x,y,u)::r)=0:=by simp only [ya];rw [ae d]
    c:Hr a b ((x,y,u)::r)=(x,y,u)::r:=by unfold Hr;rw [ae (by rw [e];simp)]
    rw [this,d.1,d.2];rfl
   ·rw [aa d,aa d]
    c e:ya a b ((x,y,u)::r)=ya a b r+1:=by simp only [ya];rw [aa d]
    c:Hr a b ((x,y,u)::r)=(x,y,u)::Hr a b r:=by
     unfold Hr
     by_cases f:ya a b r<r.length
     ·rw [ae f,ae (by rw [e];simpa using f)]
     ·rw [aa f,aa (by rw [e];simpa using f)];rfl
    rw [this, <-ih];rfl
theorem b91 (p:Nat) (a b v:Int):mpS (some (p,Hr a b L)) (.lit (.int .i64 (ya a b L))) (.lit (.int .i64 v))=some (.undef,[(p,⟨0,true,[bz (iu a b v L)]⟩)]):=by
 c:=c0M a b L
 simp only [mpS]
 rw [ae ⟨by omega,by omega⟩,aK,Vk]
theorem b31:ij ow .mkMap ev h=[]:=rfl
theorem a9p (m k:Opd):ij ow (.mapGet m k) ev h=((AOp.mapGet m k).opds.map ev).flatMap gN:=rfl
theorem b0e (m k x:Opd):ij ow (.mapSet m k x) ev h=((AOp.mapSet m k x).opds.map ev).flatMap gN:=rfl
theorem a8f (m k:Opd):ij ow (.mapEnt m k) ev h=((AOp.mapEnt m k).opds.map ev).flatMap gN:=rfl
theorem a8h (m k x:Opd):ij ow (.mapPut m k x) ev h=((AOp.mapPut m k x).opds.map ev).flatMap gN:=rfl
theorem b09 (m k:Opd):(AOp.mapGet m k).opds=[m,k]:=rfl
theorem a9W (m k x:Opd):(AOp.mapSet m k x).opds=[m,k,x]:=rfl
theorem a9N (m k:Opd):(AOp.mapEnt m k).opds=[m,k]:=rfl
theorem b0d (m k x:Opd):(AOp.mapPut m k x).opds=[m,k,x]:=rfl
end
attribute [go_sem] c6P c3O c2w c77 c7X b2K b1V b5v c4a c6T c2A c3S ZP c1F c01 c63 b1C b9W c2h c2I c3G c5f c55
attribute [go_sem] c83 c5S b2L c2F c1E b48 c0q c0Y SR b8e c61 b4M b9j b1R b4Z b4H b6b b4O b1P b6t b6j b91
attribute [go_sem] b31 a9p b0e a8f a8h b09 a9W a9N b0d
def eA2 {α:Type} (e:En α):En (α×α):=⟨2,fun x=>e.enc x.1++e.enc x.2⟩
theorem b8K:(eA2 eI).esz=2:=by decide
theorem c0y (x:Int×Int):(eA2 eI).enc x=[I x.1,I x.2]:=rfl
theorem c5b (a b:Int) (l:List (Int×Int)):dt [I a,I b] (rws (eA2 eI) l)=rws (eA2 eI) ((a,b)::l):=rfl
theorem c7Z (a b:Int) (l:List (Int×Int)) (i:Nat):hZ (rws (eA2 eI) l) i [I a,I b]=rws (eA2 eI) (l.set i (a,b)):=by simp [hZ,rws,eA2];rfl
attribute [go_sem] b8K c0y c5b c7Z
end Go.AI
