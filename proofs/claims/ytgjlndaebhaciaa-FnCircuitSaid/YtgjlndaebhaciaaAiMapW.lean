/- Maps of pairs of numbers: the machine's words on lists. -/
import Derived.Test.YtgjlndaebhaciaaAiAdd
import Derived.Test.YtgjlndaebhaciaaAiSrt
set_option linter.unusedVariables false
set_option linter.unusedSimpArgs false
namespace Go.AI
theorem dm (t:Tri) (L:List Tri):aq (t::L)= .lit (.int .i64 t.1):: .lit (.int .i64 t.2.1):: .lit (.int .i64 t.2.2)::aq L:=rfl
theorem Tz:([]:List V)=aq []:=rfl
section
variable {C:aM} {ow:bB} {ev:Opd→V} {h:ak} {n:Nat} {L:List Tri} {bs:List Nat}
theorem Xf (b:Nat):(V.mp b).cz= .mp b:=rfl
theorem Wq (b:Nat):(V.mp b).czA= .mp b:=rfl
theorem U6 (b:Nat):(V.mp b).czR= .mp b:=rfl
def lcM (k:Option Blk) (ids:List Nat) (b:Nat):Option (V×List Nat×List Nat):=match k with
 |some _=>some (.mp (dZ b (cu ids b)),cu ids b,[])
 |none=>none
theorem XV (own:Bool) (ids:List Nat) (b:Nat):bk h own ids (.mp b)=lcM (h b) ids b:=rfl
theorem Yv (own:Bool) (ids:List Nat) (b:Nat):bS h own ids (.mp b)=lcM (h b) ids b:=rfl
theorem L7 (k:Blk) (ids:List Nat) (b:Nat):lcM (some k) ids b=some (.mp (dZ b (cu ids b)),cu ids b,[]):=rfl
theorem NJ (ids:List Nat) (b:Nat):nX ids (.mp b)= .mp (ids.getD b 0):=rfl
theorem P3 (ids:List Nat) (b:Nat):fA ids (.mp b)= .mp (ids.getD b 0):=rfl
theorem Vn (ids:List Nat) (b:Nat):unV ids (.mp b)= .mp (ids.getD b 0):=rfl
theorem Y2 (b:Nat):ja (.mp b)=true:=rfl
theorem Wu (b:Nat):pa (.mp b)=true:=rfl
theorem Wr (b:Nat):hJ (.mp b)=true:=rfl
def fcM (m:Nat) (kp:List Nat) (b:Nat):Option V:=br (Nat.blt b m) (some (.mp b)) (br (kp.contains b) (some (.mp (m+dZ b kp))) none)
theorem AC (m:Nat) (kp:List Nat) (b:Nat):gU h m kp (.mp b)=fcM m kp b:=by
 rw [fcM,pE]
 simp only [gU]
 by_cases h1:b<m
 ·simp [h1,br]
 ·by_cases h2:b∈kp<;>simp [h1,h2,br]
theorem PZ (m:Nat) (kp:List Nat) (b:Nat):pD h m kp (.mp b)=fcM m kp b:=AC (h:=h) m kp b
theorem R5 (m:Nat) (kp:List Nat) (b:Nat):rL h m kp (.mp b)=fcM m kp b:=AC (h:=h) m kp b
theorem UB (m:Nat) (kp:List Nat) (b:Nat):fcM m kp b=br (Nat.blt b m) (some (.mp b)) (br (kp.contains b) (some (.mp (m+dZ b kp))) none):=rfl
theorem Mf (b:Nat):(V.mp b).cells=[.mp b]:=rfl
theorem Po (b:Nat):(V.mp b).cell=true:=rfl
theorem Ti (b:Nat):fzA h bs (.mp b)=br (bs.contains b) .undef (.mp b):=by
 simp only [fzA,fzC]
 by_cases hb:b∈bs<;>simp [hb,br]
theorem V3 (b:Nat):fzC h bs (.mp b)=br (bs.contains b) .undef (.mp b):=Ti (h:=h) b
theorem US (b:Nat):okC (.mp b)=true:=rfl
theorem Wj (b:Nat):cw (.mp b)=[b]:=rfl
theorem Uf (b:Nat):iS (.mp b)=[b]:=rfl
theorem XR:(aq L).map V.cz=aq L:=by
 induction L with
 |nil=>rfl
 |cons a l ih=>rw [dm,List.map_cons,List.map_cons,List.map_cons,ih];rfl
theorem V5 (ids:List Nat):(aq L).map (unV ids)=aq L:=by
 induction L with
 |nil=>rfl
 |cons a l ih=>rw [dm,List.map_cons,List.map_cons,List.map_cons,ih];rfl
theorem Nt (ids:List Nat):(aq L).map (fA ids)=aq L:=by
 induction L with
 |nil=>rfl
 |cons a l ih=>rw [dm,List.map_cons,List.map_cons,List.map_cons,ih];rfl
theorem Vk (bs:List Nat):(aq L).map (fzC h bs)=aq L:=by
 induction L with
 |nil=>rfl
 |cons a l ih=>rw [dm,List.map_cons,List.map_cons,List.map_cons,ih];rfl
theorem Rh:(aq L).all V.cell=true:=by
 induction L with
 |nil=>rfl
 |cons a l ih=>rw [dm,List.all_cons,List.all_cons,List.all_cons,ih];rfl
theorem LR:(aq L).all hJ=true:=by
 induction L with
 |nil=>rfl
 |cons a l ih=>rw [dm,List.all_cons,List.all_cons,List.all_cons,ih];rfl
theorem T6:(aq L).flatMap iS=[]:=by
 induction L with
 |nil=>rfl
 |cons a l ih=>rw [dm,List.flatMap_cons,List.flatMap_cons,List.flatMap_cons,ih];rfl
theorem QT:(aq L).flatMap cw=[]:=by
 induction L with
 |nil=>rfl
 |cons a l ih=>rw [dm,List.flatMap_cons,List.flatMap_cons,List.flatMap_cons,ih];rfl
theorem yD (m:Nat) (kp:List Nat):nh h m kp (aq L)=some (aq L):=by
 induction L with
 |nil=>rfl
 |cons a l ih=>rw [dm,lZ,lZ,lZ,ih];rfl
theorem SY (ids:List Nat):iz h ids (aq L)=some (aq L,ids):=by
 induction L with
 |nil=>rfl
 |cons a l ih=>rw [dm,md,yh,q6,md,yh,q6,md,yh,q6,ih];rfl
def mgB:Option Blk→Option (List Tri)
 |some ⟨0,true,[cs]⟩=>uw cs
 |_=>none
theorem Ve:mgB (some ⟨0,true,[aq L]⟩)=some L:=iw L
theorem LW (b:Nat):ir h (.mp b)=(mgB (h b)).bind fun L=>some (b,L):=by
 unfold ir mgB
 split
 ·rename_i e;cases e
  split
  ·rename_i cs hb;rw [hb];cases hd:uw cs<;>simp [hd]
  ·rename_i hn
   split
   ·rename_i cs hb;exact absurd hb (hn cs)
   ·rfl
 ·rename_i hn;exact absurd rfl (hn b)
def mkS (o:Option Blk) (n:Nat):Option (V×Upd):=br o.isNone (some (.mp n,[(n,⟨0,true,[aq []]⟩)])) none
theorem Pr:ah C ow .mkMap ev h n=mkS (h n) n:=by
 simp only [ah,mkS]
 cases (h n).isNone<;>rfl
theorem LO:mkS none n=some (.mp n,[(n,⟨0,true,[aq []]⟩)]):=rfl
def mgS (o:Option (Nat×List Tri)) (k:V):Option (V×Upd):=match o,mapKey k with
 |some (_,L),some (a,b)=>some (.lit (.int .i64 (cM a b L)),[])
 |_,_=>none
theorem Ma (m k:Opd):ah C ow (.mapGet m k) ev h n=mgS (ir h (ev m)) (ev k):=rfl
theorem OY (p:Nat) (a b:Int):mgS (some (p,L)) (.agg [.lit (.int .i64 a),.lit (.int .i64 b)])=some (.lit (.int .i64 (cM a b L)),[]):=rfl
def msS (o:Option (Nat×List Tri)) (k x:V):Option (V×Upd):=match o,mapKey k,x with
 |some (p,L),some (a,b),.lit (.int .i64 v)=>some (.undef,[(p,⟨0,true,[aq (cV a b v L)]⟩)])
 |_,_,_=>none
theorem NM (m k x:Opd):ah C ow (.mapSet m k x) ev h n=msS (ir h (ev m)) (ev k) (ev x):=rfl
theorem LQ (p:Nat) (a b v:Int):msS (some (p,L)) (.agg [.lit (.int .i64 a),.lit (.int .i64 b)]) (.lit (.int .i64 v))=some (.undef,[(p,⟨0,true,[aq (cV a b v L)]⟩)]):=rfl
def meS (o:Option (Nat×List Tri)) (k:V):Option (V×Upd):=match o,mapKey k with
 |some (p,L),some (a,b)=>some (.tup [.lit (.int .i64 (cM a b L)),.lit (.int .i64 (lv a b L))],[(p,⟨0,true,[aq (qC a b L)]⟩)])
 |_,_=>none
theorem NC (m k:Opd):ah C ow (.mapEnt m k) ev h n=meS (ir h (ev m)) (ev k):=rfl
theorem MB (p:Nat) (a b:Int):meS (some (p,L)) (.agg [.lit (.int .i64 a),.lit (.int .i64 b)])=some (.tup [.lit (.int .i64 (cM a b L)),.lit (.int .i64 (lv a b L))],[(p,⟨0,true,[aq (qC a b L)]⟩)]):=rfl
def mpS (o:Option (Nat×List Tri)) (i x:V):Option (V×Upd):=match o,i,x with
 |some (p,L),.lit (.int .i64 i),.lit (.int .i64 v)=>if 0≤i∧i<L.length then some (.undef,[(p,⟨0,true,[aq (Mb i.toNat v L)]⟩)]) else none
 |_,_,_=>none
theorem Mc (m i x:Opd):ah C ow (.mapPut m i x) ev h n=mpS (ir h (ev m)) (ev i) (ev x):=rfl
theorem PK (a b:Int): ∀L:List Tri,lv a b L<(qC a b L).length:=by
 have hle: ∀L:List Tri,lv a b L≤L.length:=by
  intro L
  induction L with
  |nil=>simp [lv]
  |cons t r ih=>
   obtain ⟨x,y,u⟩:=t
   simp only [lv]
   split<;>simp<;>omega
 intro L
 unfold qC
 split
 ·assumption
 ·simp;have:=hle L;omega
theorem A1 (a b v:Int): ∀L:List Tri,Mb (lv a b L) v (qC a b L)=cV a b v L
 |[]=>rfl
 | (x,y,u)::r=>by
   have ih:=A1 a b v r
   simp only [lv,cV]
   by_cases hk:a=x∧b=y
   ·rw [if_pos hk,if_pos hk]
    have hm:lv a b ((x,y,u)::r)=0:=by simp only [lv];rw [if_pos hk]
    have:qC a b ((x,y,u)::r)=(x,y,u)::r:=by unfold qC;rw [if_pos (by rw [hm];simp)]
    rw [this,hk.1,hk.2];rfl
   ·rw [if_neg hk,if_neg hk]
    have hm:lv a b ((x,y,u)::r)=lv a b r+1:=by simp only [lv];rw [if_neg hk]
    have:qC a b ((x,y,u)::r)=(x,y,u)::qC a b r:=by
     unfold qC
     by_cases hl:lv a b r<r.length
     ·rw [if_pos hl,if_pos (by rw [hm];simpa using hl)]
     ·rw [if_neg hl,if_neg (by rw [hm];simpa using hl)];rfl
    rw [this, ←ih];rfl
theorem H8 (p:Nat) (a b v:Int):mpS (some (p,qC a b L)) (.lit (.int .i64 (lv a b L))) (.lit (.int .i64 v))=some (.undef,[(p,⟨0,true,[aq (cV a b v L)]⟩)]):=by
 have:=PK a b L
 simp only [mpS]
 rw [if_pos ⟨by omega,by omega⟩,Int.toNat_natCast,A1]
theorem Yz (p:Nat) (a b v:Int):mpS (some (p,qC a b L)) (I (lv a b L)) (I v)=some (.undef,[(p,⟨0,true,[aq (cV a b v L)]⟩)]):=H8 p a b v
theorem Ls:cL ow .mkMap ev h=[]:=rfl
theorem Il (m k:Opd):cL ow (.mapGet m k) ev h=((AOp.mapGet m k).opds.map ev).flatMap cw:=rfl
theorem IC (m k x:Opd):cL ow (.mapSet m k x) ev h=((AOp.mapSet m k x).opds.map ev).flatMap cw:=rfl
theorem Ig (m k:Opd):cL ow (.mapEnt m k) ev h=((AOp.mapEnt m k).opds.map ev).flatMap cw:=rfl
theorem JK (m k x:Opd):cL ow (.mapPut m k x) ev h=((AOp.mapPut m k x).opds.map ev).flatMap cw:=rfl
theorem JV (m k:Opd):(AOp.mapGet m k).opds=[m,k]:=rfl
theorem HR (m k x:Opd):(AOp.mapSet m k x).opds=[m,k,x]:=rfl
theorem J5 (m k:Opd):(AOp.mapEnt m k).opds=[m,k]:=rfl
theorem Js (m k x:Opd):(AOp.mapPut m k x).opds=[m,k,x]:=rfl
end
attribute [go_sem] Xf Wq U6 XV Yv L7 NJ P3 Vn Y2 Wu Wr AC PZ R5 UB Mf Po Ti V3 US Wj Uf
attribute [go_sem] XR V5 Nt Vk Rh LR T6 QT yD SY Ve LW Pr LO Ma OY NM LQ NC MB Mc H8
attribute [go_sem] Ls Il IC Ig JK JV HR J5 Js
def eA2 {α:Type} (e:En α):En (α×α):=⟨2,fun x=>e.enc x.1++e.enc x.2⟩
theorem PQ:(eA2 eI).esz=2:=by decide
theorem QB (x:Int×Int):(eA2 eI).enc x=[I x.1,I x.2]:=rfl
theorem UP (a b:Int) (l:List (Int×Int)):co [I a,I b] (rws (eA2 eI) l)=rws (eA2 eI) ((a,b)::l):=rfl
theorem Yx (a b:Int) (l:List (Int×Int)) (i:Nat):dS (rws (eA2 eI) l) i [I a,I b]=rws (eA2 eI) (l.set i (a,b)):=by simp [dS,rws,eA2];rfl
attribute [go_sem] PQ QB UP Yx
end Go.AI
