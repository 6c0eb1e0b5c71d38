/- Maps of pairs of numbers: the machine's words on lists. -/
import Derived.Test.YtgjlndaebhaciaaAiAdd
import Derived.Test.YtgjlndaebhaciaaAiSrt
set_option linter.unusedVariables false
set_option linter.unusedSimpArgs false
namespace Go.AI
theorem dy (t:Tri) (L:List Tri):am (t::L)= .lit (.int .i64 t.1):: .lit (.int .i64 t.2.1):: .lit (.int .i64 t.2.2)::am L:=rfl
theorem YM:([]:List V)=am []:=rfl
section
variable {C:aM} {ow:bK} {ev:Opd→V} {h:ak} {n:Nat} {L:List Tri} {bs:List Nat}
theorem a00 (b:Nat):(V.mp b).cz= .mp b:=rfl
theorem Wr (b:Nat):(V.mp b).czA= .mp b:=rfl
theorem XE (b:Nat):(V.mp b).czR= .mp b:=rfl
def lcM (k:Option Blk) (ids:List Nat) (b:Nat):Option (V×List Nat×List Nat):=match k with
 |some _=>some (.mp (eD b (cG ids b)),cG ids b,[])
 |none=>none
theorem a1N (own:Bool) (ids:List Nat) (b:Nat):bq h own ids (.mp b)=lcM (h b) ids b:=rfl
theorem a1x (own:Bool) (ids:List Nat) (b:Nat):cc h own ids (.mp b)=lcM (h b) ids b:=rfl
theorem Q6 (k:Blk) (ids:List Nat) (b:Nat):lcM (some k) ids b=some (.mp (eD b (cG ids b)),cG ids b,[]):=rfl
theorem RE (ids:List Nat) (b:Nat):pg ids (.mp b)= .mp (ids.getD b 0):=rfl
theorem Og (ids:List Nat) (b:Nat):fR ids (.mp b)= .mp (ids.getD b 0):=rfl
theorem ZH (ids:List Nat) (b:Nat):unV ids (.mp b)= .mp (ids.getD b 0):=rfl
theorem a1S (b:Nat):jG (.mp b)=true:=rfl
theorem Yv (b:Nat):rg (.mp b)=true:=rfl
theorem Zi (b:Nat):ir (.mp b)=true:=rfl
def fcM (m:Nat) (kp:List Nat) (b:Nat):Option V:=br (Nat.blt b m) (some (.mp b)) (br (kp.contains b) (some (.mp (m+eD b kp))) none)
theorem BV (m:Nat) (kp:List Nat) (b:Nat):iu h m kp (.mp b)=fcM m kp b:=by
 rw [fcM,ru]
 simp only [iu]
 by_cases h1:b<m
 ·simp [h1,br]
 ·by_cases h2:b∈kp<;>simp [h1,h2,br]
theorem UT (m:Nat) (kp:List Nat) (b:Nat):rq h m kp (.mp b)=fcM m kp b:=BV (h:=h) m kp b
theorem Ue (m:Nat) (kp:List Nat) (b:Nat):tj h m kp (.mp b)=fcM m kp b:=BV (h:=h) m kp b
theorem WJ (m:Nat) (kp:List Nat) (b:Nat):fcM m kp b=br (Nat.blt b m) (some (.mp b)) (br (kp.contains b) (some (.mp (m+eD b kp))) none):=rfl
theorem Oy (b:Nat):(V.mp b).cells=[.mp b]:=rfl
theorem T7 (b:Nat):(V.mp b).cell=true:=rfl
theorem W2 (b:Nat):fzA h bs (.mp b)=br (bs.contains b) .undef (.mp b):=by
 simp only [fzA,fzC]
 by_cases hb:b∈bs<;>simp [hb,br]
theorem Yj (b:Nat):fzC h bs (.mp b)=br (bs.contains b) .undef (.mp b):=W2 (h:=h) b
theorem Zp (b:Nat):okC (.mp b)=true:=rfl
theorem Yz (b:Nat):cH (.mp b)=[b]:=rfl
theorem YT (b:Nat):ju (.mp b)=[b]:=rfl
theorem a0b:(am L).map V.cz=am L:=by
 induction L with
 |nil=>rfl
 |cons a l ih=>rw [dy,List.map_cons,List.map_cons,List.map_cons,ih];rfl
theorem Y4 (ids:List Nat):(am L).map (unV ids)=am L:=by
 induction L with
 |nil=>rfl
 |cons a l ih=>rw [dy,List.map_cons,List.map_cons,List.map_cons,ih];rfl
theorem NJ (ids:List Nat):(am L).map (fR ids)=am L:=by
 induction L with
 |nil=>rfl
 |cons a l ih=>rw [dy,List.map_cons,List.map_cons,List.map_cons,ih];rfl
theorem WO (bs:List Nat):(am L).map (fzC h bs)=am L:=by
 induction L with
 |nil=>rfl
 |cons a l ih=>rw [dy,List.map_cons,List.map_cons,List.map_cons,ih];rfl
theorem VN:(am L).all V.cell=true:=by
 induction L with
 |nil=>rfl
 |cons a l ih=>rw [dy,List.all_cons,List.all_cons,List.all_cons,ih];rfl
theorem NW:(am L).all ir=true:=by
 induction L with
 |nil=>rfl
 |cons a l ih=>rw [dy,List.all_cons,List.all_cons,List.all_cons,ih];rfl
theorem Vv:(am L).flatMap ju=[]:=by
 induction L with
 |nil=>rfl
 |cons a l ih=>rw [dy,List.flatMap_cons,List.flatMap_cons,List.flatMap_cons,ih];rfl
theorem U0:(am L).flatMap cH=[]:=by
 induction L with
 |nil=>rfl
 |cons a l ih=>rw [dy,List.flatMap_cons,List.flatMap_cons,List.flatMap_cons,ih];rfl
theorem yz (m:Nat) (kp:List Nat):o9 h m kp (am L)=some (am L):=by
 induction L with
 |nil=>rfl
 |cons a l ih=>rw [dy,nf,nf,nf,ih];rfl
theorem Uq (ids:List Nat):j3 h ids (am L)=some (am L,ids):=by
 induction L with
 |nil=>rfl
 |cons a l ih=>rw [dy,nL,Ad,sN,nL,Ad,sN,nL,Ad,sN,ih];rfl
def mgB:Option Blk→Option (List Tri)
 |some ⟨0,true,[cs]⟩=>wN cs
 |_=>none
theorem Xt:mgB (some ⟨0,true,[am L]⟩)=some L:=j4 L
theorem P0 (b:Nat):iT h (.mp b)=(mgB (h b)).bind fun L=>some (b,L):=by
 unfold iT mgB
 split
 ·rename_i e;cases e
  split
  ·rename_i cs hb;rw [hb];cases hd:wN cs<;>simp [hd]
  ·rename_i hn
   split
   ·rename_i cs hb;exact absurd hb (hn cs)
   ·rfl
 ·rename_i hn;exact absurd rfl (hn b)
def mkS (o:Option Blk) (n:Nat):Option (V×Upd):=br o.isNone (some (.mp n,[(n,⟨0,true,[am []]⟩)])) none
theorem TL:ag C ow .mkMap ev h n=mkS (h n) n:=by
 simp only [ag,mkS]
 cases (h n).isNone<;>rfl
theorem O5:mkS none n=some (.mp n,[(n,⟨0,true,[am []]⟩)]):=rfl
def mgS (o:Option (Nat×List Tri)) (k:V):Option (V×Upd):=match o,mapKey k with
 |some (_,L),some (a,b)=>some (.lit (.int .i64 (cV a b L)),[])
 |_,_=>none
theorem Nx (m k:Opd):ag C ow (.mapGet m k) ev h n=mgS (iT h (ev m)) (ev k):=rfl
theorem P6 (p:Nat) (a b:Int):mgS (some (p,L)) (.agg [.lit (.int .i64 a),.lit (.int .i64 b)])=some (.lit (.int .i64 (cV a b L)),[]):=rfl
def msS (o:Option (Nat×List Tri)) (k x:V):Option (V×Upd):=match o,mapKey k,x with
 |some (p,L),some (a,b),.lit (.int .i64 v)=>some (.undef,[(p,⟨0,true,[am (cZ a b v L)]⟩)])
 |_,_,_=>none
theorem Om (m k x:Opd):ag C ow (.mapSet m k x) ev h n=msS (iT h (ev m)) (ev k) (ev x):=rfl
theorem Po (p:Nat) (a b v:Int):msS (some (p,L)) (.agg [.lit (.int .i64 a),.lit (.int .i64 b)]) (.lit (.int .i64 v))=some (.undef,[(p,⟨0,true,[am (cZ a b v L)]⟩)]):=rfl
def meS (o:Option (Nat×List Tri)) (k:V):Option (V×Upd):=match o,mapKey k with
 |some (p,L),some (a,b)=>some (.tup [.lit (.int .i64 (cV a b L)),.lit (.int .i64 (my a b L))],[(p,⟨0,true,[am (rI a b L)]⟩)])
 |_,_=>none
theorem OH (m k:Opd):ag C ow (.mapEnt m k) ev h n=meS (iT h (ev m)) (ev k):=rfl
theorem OW (p:Nat) (a b:Int):meS (some (p,L)) (.agg [.lit (.int .i64 a),.lit (.int .i64 b)])=some (.tup [.lit (.int .i64 (cV a b L)),.lit (.int .i64 (my a b L))],[(p,⟨0,true,[am (rI a b L)]⟩)]):=rfl
def mpS (o:Option (Nat×List Tri)) (i x:V):Option (V×Upd):=match o,i,x with
 |some (p,L),.lit (.int .i64 i),.lit (.int .i64 v)=>if 0≤i∧i<L.length then some (.undef,[(p,⟨0,true,[am (OT i.toNat v L)]⟩)]) else none
 |_,_,_=>none
theorem Px (m i x:Opd):ag C ow (.mapPut m i x) ev h n=mpS (iT h (ev m)) (ev i) (ev x):=rfl
theorem Vz (a b:Int): ∀L:List Tri,my a b L<(rI a b L).length:=by
 have hle: ∀L:List Tri,my a b L≤L.length:=by
  intro L
  induction L with
  |nil=>simp [my]
  |cons t r ih=>
   obtain ⟨x,y,u⟩:=t
   simp only [my]
   split<;>simp<;>omega
 intro L
 unfold rI
 split
 ·assumption
 ·simp;have:=hle L;omega
theorem BU (a b v:Int): ∀L:List Tri,OT (my a b L) v (rI a b L)=cZ a b v L
 |[]=>rfl
 | (x,y,u)::r=>by
   have ih:=BU a b v r
   simp only [my,cZ]
   by_cases hk:a=x∧b=y
   ·rw [if_pos hk,if_pos hk]
    have hm:my a b ((x,y,u)::r)=0:=by simp only [my];rw [if_pos hk]
    have:rI a b ((x,y,u)::r)=(x,y,u)::r:=by unfold rI;rw [if_pos (by rw [hm];simp)]
    rw [this,hk.1,hk.2];rfl
   ·rw [if_neg hk,if_neg hk]
    have hm:my a b ((x,y,u)::r)=my a b r+1:=by simp only [my];rw [if_neg hk]
    have:rI a b ((x,y,u)::r)=(x,y,u)::rI a b r:=by
     unfold rI
     by_cases hl:my a b r<r.length
     ·rw [if_pos hl,if_pos (by rw [hm];simpa using hl)]
     ·rw [if_neg hl,if_neg (by rw [hm];simpa using hl)];rfl
    rw [this, ←ih];rfl
theorem JE (p:Nat) (a b v:Int):mpS (some (p,rI a b L)) (.lit (.int .i64 (my a b L))) (.lit (.int .i64 v))=some (.undef,[(p,⟨0,true,[am (cZ a b v L)]⟩)]):=by
 have:=Vz a b L
 simp only [mpS]
 rw [if_pos ⟨by omega,by omega⟩,Int.toNat_natCast,BU]
theorem a0u (p:Nat) (a b v:Int):mpS (some (p,rI a b L)) (I (my a b L)) (I v)=some (.undef,[(p,⟨0,true,[am (cZ a b v L)]⟩)]):=JE p a b v
theorem QT:cU ow .mkMap ev h=[]:=rfl
theorem Ls (m k:Opd):cU ow (.mapGet m k) ev h=((AOp.mapGet m k).opds.map ev).flatMap cH:=rfl
theorem L6 (m k x:Opd):cU ow (.mapSet m k x) ev h=((AOp.mapSet m k x).opds.map ev).flatMap cH:=rfl
theorem Ll (m k:Opd):cU ow (.mapEnt m k) ev h=((AOp.mapEnt m k).opds.map ev).flatMap cH:=rfl
theorem Kb (m k x:Opd):cU ow (.mapPut m k x) ev h=((AOp.mapPut m k x).opds.map ev).flatMap cH:=rfl
theorem K6 (m k:Opd):(AOp.mapGet m k).opds=[m,k]:=rfl
theorem LK (m k x:Opd):(AOp.mapSet m k x).opds=[m,k,x]:=rfl
theorem Md (m k:Opd):(AOp.mapEnt m k).opds=[m,k]:=rfl
theorem Lp (m k x:Opd):(AOp.mapPut m k x).opds=[m,k,x]:=rfl
end
attribute [go_sem] a00 Wr XE a1N a1x Q6 RE Og ZH a1S Yv Zi BV UT Ue WJ Oy T7 W2 Yj Zp Yz YT
attribute [go_sem] a0b Y4 NJ WO VN NW Vv U0 yz Uq Xt P0 TL O5 Nx P6 Om Po OH OW Px JE
attribute [go_sem] QT Ls L6 Ll Kb K6 LK Md Lp
def eA2 {α:Type} (e:En α):En (α×α):=⟨2,fun x=>e.enc x.1++e.enc x.2⟩
theorem Vx:(eA2 eI).esz=2:=by decide
theorem T4 (x:Int×Int):(eA2 eI).enc x=[I x.1,I x.2]:=rfl
theorem Wt (a b:Int) (l:List (Int×Int)):cA [I a,I b] (rws (eA2 eI) l)=rws (eA2 eI) ((a,b)::l):=rfl
theorem a0K (a b:Int) (l:List (Int×Int)) (i:Nat):eo (rws (eA2 eI) l) i [I a,I b]=rws (eA2 eI) (l.set i (a,b)):=by simp [eo,rws,eA2];rfl
attribute [go_sem] Vx T4 Wt a0K
end Go.AI
