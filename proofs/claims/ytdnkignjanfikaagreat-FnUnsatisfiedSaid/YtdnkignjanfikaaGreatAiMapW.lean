/- Maps of pairs of numbers: the machine's words on lists. -/
import Derived.Test.YtdnkignjanfikaaGreatAiAdd
import Derived.Test.YtdnkignjanfikaaGreatAiSrt
set_option linter.unusedVariables false
set_option linter.unusedSimpArgs false
namespace Go.AI
theorem fL (t:Tri) (L:List Tri):aC (t::L)= .lit (.int .i64 t.1):: .lit (.int .i64 t.2.1):: .lit (.int .i64 t.2.2)::aC L:=rfl
theorem b9Y:([]:List V)=aC []:=rfl
section
variable {C:aY} {ow:cy} {ev:Opd→V} {h:au} {n:Nat} {L:List Tri} {bs:List Nat}
theorem c1Z (b:Nat):(V.mp b).cz= .mp b:=rfl
theorem c0I (b:Nat):(V.mp b).czA= .mp b:=rfl
theorem b7v (b:Nat):(V.mp b).czR= .mp b:=rfl
def lcM (k:Option Blk) (ids:List Nat) (b:Nat):Option (V×List Nat×List Nat):=match k with
 |some _=>some (.mp (im b (dH ids b)),dH ids b,[])
 |none=>none
theorem c3t (own:Bool) (ids:List Nat) (b:Nat):bU h own ids (.mp b)=lcM (h b) ids b:=rfl
theorem c1w (own:Bool) (ids:List Nat) (b:Nat):cW h own ids (.mp b)=lcM (h b) ids b:=rfl
theorem b1l (k:Blk) (ids:List Nat) (b:Nat):lcM (some k) ids b=some (.mp (im b (dH ids b)),dH ids b,[]):=rfl
theorem b0r (ids:List Nat) (b:Nat):yg ids (.mp b)= .mp (ids.getD b 0):=rfl
theorem a72 (ids:List Nat) (b:Nat):jE ids (.mp b)= .mp (ids.getD b 0):=rfl
theorem c0G (ids:List Nat) (b:Nat):unV ids (.mp b)= .mp (ids.getD b 0):=rfl
theorem c1O (b:Nat):pz (.mp b)=true:=rfl
theorem c0X (b:Nat):B0 (.mp b)=true:=rfl
theorem b88 (b:Nat):mT (.mp b)=true:=rfl
def fcM (m:Nat) (kp:List Nat) (b:Nat):Option V:=br (Nat.blt b m) (some (.mp b)) (br (kp.contains b) (some (.mp (m+im b kp))) none)
theorem TS (m:Nat) (kp:List Nat) (b:Nat):mL h m kp (.mp b)=fcM m kp b:=by
 rw [fcM,Bm]
 simp only [mL]
 by_cases h1:b<m
 ·simp [h1,br]
 ·by_cases h2:b∈kp<;>simp [h1,h2,br]
theorem b4m (m:Nat) (kp:List Nat) (b:Nat):Br h m kp (.mp b)=fcM m kp b:=TS (h:=h) m kp b
theorem b5Z (m:Nat) (kp:List Nat) (b:Nat):DI h m kp (.mp b)=fcM m kp b:=TS (h:=h) m kp b
theorem b7z (m:Nat) (kp:List Nat) (b:Nat):fcM m kp b=br (Nat.blt b m) (some (.mp b)) (br (kp.contains b) (some (.mp (m+im b kp))) none):=rfl
theorem a6B (b:Nat):(V.mp b).cells=[.mp b]:=rfl
theorem b5z (b:Nat):(V.mp b).cell=true:=rfl
theorem b6Y (b:Nat):fzA h bs (.mp b)=br (bs.contains b) .undef (.mp b):=by
 simp only [fzA,fzC]
 by_cases hb:b∈bs<;>simp [hb,br]
theorem b7o (b:Nat):fzC h bs (.mp b)=br (bs.contains b) .undef (.mp b):=b6Y (h:=h) b
theorem b7b (b:Nat):okC (.mp b)=true:=rfl
theorem c0R (b:Nat):dG (.mp b)=[b]:=rfl
theorem b8J (b:Nat):oF (.mp b)=[b]:=rfl
theorem c2g:(aC L).map V.cz=aC L:=by
 induction L with
 |nil=>rfl
 |cons a l ih=>rw [fL,List.map_cons,List.map_cons,List.map_cons,ih];rfl
theorem c0C (ids:List Nat):(aC L).map (unV ids)=aC L:=by
 induction L with
 |nil=>rfl
 |cons a l ih=>rw [fL,List.map_cons,List.map_cons,List.map_cons,ih];rfl
theorem b1t (ids:List Nat):(aC L).map (jE ids)=aC L:=by
 induction L with
 |nil=>rfl
 |cons a l ih=>rw [fL,List.map_cons,List.map_cons,List.map_cons,ih];rfl
theorem b7g (bs:List Nat):(aC L).map (fzC h bs)=aC L:=by
 induction L with
 |nil=>rfl
 |cons a l ih=>rw [fL,List.map_cons,List.map_cons,List.map_cons,ih];rfl
theorem b5F:(aC L).all V.cell=true:=by
 induction L with
 |nil=>rfl
 |cons a l ih=>rw [fL,List.all_cons,List.all_cons,List.all_cons,ih];rfl
theorem a83:(aC L).all mT=true:=by
 induction L with
 |nil=>rfl
 |cons a l ih=>rw [fL,List.all_cons,List.all_cons,List.all_cons,ih];rfl
theorem b2R:(aC L).flatMap oF=[]:=by
 induction L with
 |nil=>rfl
 |cons a l ih=>rw [fL,List.flatMap_cons,List.flatMap_cons,List.flatMap_cons,ih];rfl
theorem b46:(aC L).flatMap dG=[]:=by
 induction L with
 |nil=>rfl
 |cons a l ih=>rw [fL,List.flatMap_cons,List.flatMap_cons,List.flatMap_cons,ih];rfl
theorem MJ (m:Nat) (kp:List Nat):wI h m kp (aC L)=some (aC L):=by
 induction L with
 |nil=>rfl
 |cons a l ih=>rw [fL,vj,vj,vj,ih];rfl
theorem b2f (ids:List Nat):od h ids (aC L)=some (aC L,ids):=by
 induction L with
 |nil=>rfl
 |cons a l ih=>rw [fL,w8,NQ,BR,w8,NQ,BR,w8,NQ,BR,ih];rfl
def mgB:Option Blk→Option (List Tri)
 |some ⟨0,true,[cs]⟩=>Jp cs
 |_=>none
theorem c0L:mgB (some ⟨0,true,[aC L]⟩)=some L:=oa L
theorem a7p (b:Nat):o9 h (.mp b)=(mgB (h b)).bind fun L=>some (b,L):=by
 unfold o9 mgB
 split
 ·rename_i e;cases e
  split
  ·rename_i cs hb;rw [hb];cases hd:Jp cs<;>simp [hd]
  ·rename_i hn
   split
   ·rename_i cs hb;exact absurd hb (hn cs)
   ·rfl
 ·rename_i hn;exact absurd rfl (hn b)
def mkS (o:Option Blk) (n:Nat):Option (V×Upd):=br o.isNone (some (.mp n,[(n,⟨0,true,[aC []]⟩)])) none
theorem b6I:aj C ow .mkMap ev h n=mkS (h n) n:=by
 simp only [aj,mkS]
 cases (h n).isNone<;>rfl
theorem a7x:mkS none n=some (.mp n,[(n,⟨0,true,[aC []]⟩)]):=rfl
def mgS (o:Option (Nat×List Tri)) (k:V):Option (V×Upd):=match o,mapKey k with
 |some (_,L),some (a,b)=>some (.lit (.int .i64 (ea a b L)),[])
 |_,_=>none
theorem b0D (m k:Opd):aj C ow (.mapGet m k) ev h n=mgS (o9 h (ev m)) (ev k):=rfl
theorem a7a (p:Nat) (a b:Int):mgS (some (p,L)) (.agg [.lit (.int .i64 a),.lit (.int .i64 b)])=some (.lit (.int .i64 (ea a b L)),[]):=rfl
def msS (o:Option (Nat×List Tri)) (k x:V):Option (V×Upd):=match o,mapKey k,x with
 |some (p,L),some (a,b),.lit (.int .i64 v)=>some (.undef,[(p,⟨0,true,[aC (ew a b v L)]⟩)])
 |_,_,_=>none
theorem a8R (m k x:Opd):aj C ow (.mapSet m k x) ev h n=msS (o9 h (ev m)) (ev k) (ev x):=rfl
theorem b1S (p:Nat) (a b v:Int):msS (some (p,L)) (.agg [.lit (.int .i64 a),.lit (.int .i64 b)]) (.lit (.int .i64 v))=some (.undef,[(p,⟨0,true,[aC (ew a b v L)]⟩)]):=rfl
def meS (o:Option (Nat×List Tri)) (k:V):Option (V×Upd):=match o,mapKey k with
 |some (p,L),some (a,b)=>some (.tup [.lit (.int .i64 (ea a b L)),.lit (.int .i64 (ur a b L))],[(p,⟨0,true,[aC (CW a b L)]⟩)])
 |_,_=>none
theorem a8O (m k:Opd):aj C ow (.mapEnt m k) ev h n=meS (o9 h (ev m)) (ev k):=rfl
theorem a6Q (p:Nat) (a b:Int):meS (some (p,L)) (.agg [.lit (.int .i64 a),.lit (.int .i64 b)])=some (.tup [.lit (.int .i64 (ea a b L)),.lit (.int .i64 (ur a b L))],[(p,⟨0,true,[aC (CW a b L)]⟩)]):=rfl
def mpS (o:Option (Nat×List Tri)) (i x:V):Option (V×Upd):=match o,i,x with
 |some (p,L),.lit (.int .i64 i),.lit (.int .i64 v)=>if 0≤i∧i<L.length then some (.undef,[(p,⟨0,true,[aC (b2c i.toNat v L)]⟩)]) else none
 |_,_,_=>none
theorem b0X (m i x:Opd):aj C ow (.mapPut m i x) ev h n=mpS (o9 h (ev m)) (ev i) (ev x):=rfl
theorem b6z (a b:Int): ∀L:List Tri,ur a b L<(CW a b L).length:=by
 have hle: ∀L:List Tri,ur a b L≤L.length:=by
  intro L
  induction L with
  |nil=>simp [ur]
  |cons t r ih=>
   obtain ⟨x,y,u⟩:=t
   simp only [ur]
   split<;>simp<;>omega
 intro L
 unfold CW
 split
 ·assumption
 ·simp;have:=hle L;omega
theorem R8 (a b v:Int): ∀L:List Tri,b2c (ur a b L) v (CW a b L)=ew a b v L
 |[]=>rfl
 | (x,y,u)::r=>by
   have ih:=R8 a b v r
   simp only [ur,ew]
   by_cases hk:a=x∧b=y
   ·rw [if_pos hk,if_pos hk]
    have hm:ur a b ((x,y,u)::r)=0:=by simp only [ur];rw [if_pos hk]
    have:CW a b ((x,y,u)::r)=(x,y,u)::r:=by unfold CW;rw [if_pos (by rw [hm];simp)]
    rw [this,hk.1,hk.2];rfl
   ·rw [if_neg hk,if_neg hk]
    have hm:ur a b ((x,y,u)::r)=ur a b r+1:=by simp only [ur];rw [if_neg hk]
    have:CW a b ((x,y,u)::r)=(x,y,u)::CW a b r:=by
     unfold CW
     by_cases hl:ur a b r<r.length
     ·rw [if_pos hl,if_pos (by rw [hm];simpa using hl)]
     ·rw [if_neg hl,if_neg (by rw [hm];simpa using hl)];rfl
    rw [this, ←ih];rfl
theorem a2b (p:Nat) (a b v:Int):mpS (some (p,CW a b L)) (.lit (.int .i64 (ur a b L))) (.lit (.int .i64 v))=some (.undef,[(p,⟨0,true,[aC (ew a b v L)]⟩)]):=by
 have:=b6z a b L
 simp only [mpS]
 rw [if_pos ⟨by omega,by omega⟩,Int.toNat_natCast,R8]
theorem c2t (p:Nat) (a b v:Int):mpS (some (p,CW a b L)) (I (ur a b L)) (I v)=some (.undef,[(p,⟨0,true,[aC (ew a b v L)]⟩)]):=a2b p a b v
theorem b1h:ec ow .mkMap ev h=[]:=rfl
theorem a4x (m k:Opd):ec ow (.mapGet m k) ev h=((AOp.mapGet m k).opds.map ev).flatMap dG:=rfl
theorem a4b (m k x:Opd):ec ow (.mapSet m k x) ev h=((AOp.mapSet m k x).opds.map ev).flatMap dG:=rfl
theorem a4r (m k:Opd):ec ow (.mapEnt m k) ev h=((AOp.mapEnt m k).opds.map ev).flatMap dG:=rfl
theorem a4P (m k x:Opd):ec ow (.mapPut m k x) ev h=((AOp.mapPut m k x).opds.map ev).flatMap dG:=rfl
theorem a33 (m k:Opd):(AOp.mapGet m k).opds=[m,k]:=rfl
theorem a57 (m k x:Opd):(AOp.mapSet m k x).opds=[m,k,x]:=rfl
theorem a5W (m k:Opd):(AOp.mapEnt m k).opds=[m,k]:=rfl
theorem a69 (m k x:Opd):(AOp.mapPut m k x).opds=[m,k,x]:=rfl
end
attribute [go_sem] c1Z c0I b7v c3t c1w b1l b0r a72 c0G c1O c0X b88 TS b4m b5Z b7z a6B b5z b6Y b7o b7b c0R b8J
attribute [go_sem] c2g c0C b1t b7g b5F a83 b2R b46 MJ b2f c0L a7p b6I a7x b0D a7a a8R b1S a8O a6Q b0X a2b
attribute [go_sem] b1h a4x a4b a4r a4P a33 a57 a5W a69
def eA2 {α:Type} (e:En α):En (α×α):=⟨2,fun x=>e.enc x.1++e.enc x.2⟩
theorem b38:(eA2 eI).esz=2:=by decide
theorem b6A (x:Int×Int):(eA2 eI).enc x=[I x.1,I x.2]:=rfl
theorem b7h (a b:Int) (l:List (Int×Int)):bK [I a,I b] (rws (eA2 eI) l)=rws (eA2 eI) ((a,b)::l):=rfl
theorem c3b (a b:Int) (l:List (Int×Int)) (i:Nat):dZ (rws (eA2 eI) l) i [I a,I b]=rws (eA2 eI) (l.set i (a,b)):=by simp [dZ,rws,eA2];rfl
attribute [go_sem] b38 b6A b7h c3b
end Go.AI
