/- The way back out of a call. -/
import Derived.Test.YtdnkignjanfikaaGreatAiOp
set_option linter.unusedVariables false
set_option linter.unusedSimpArgs false
namespace Go.AI
section
def okA:V->Bool
 | .agg cs=>cs.all okC
 |v=>okC v
def okR:V->Bool
 | .tup vs=>vs.all okA
 |v=>okA v
def okD:V->Bool
 | .fn _ cs=>cs.all okC
 |v=>okC v
def okB (k:Blk):Prop:=k.op=true-> ∀row∈k.rows, ∀v∈row,okD v=true
theorem a4B: ∀(ids:List Nat) (L:List Blk) (h:aZ),(ids.take L.length).Nodup->L.length<=ids.length->
 (∀(p b:Nat) (k:Blk),ids[p]? =some b->L[p]? =some k->fX h (ol ids L) b=some k)/\ ∀b,b∉ids.take L.length->fX h (ol ids L) b=h b
 |[],L,h,_,hl=>by
  have:L=[]:=bU (by simpa using hl)
  subst this
  exact ⟨fun p b k h1=>by simp at h1,fun b _=>rfl⟩
 |i::r,[],h,_,_=>⟨fun p b k _ h1=>by simp at h1,fun b _=>rfl⟩
 |i::r,k::s,h,hn,hl=>by
  simp only [ah,lv,List.nodup_cons] at hn
  obtain ⟨a1,a2⟩:=a4B r s (bV h i k) hn.2 (by simpa using hl)
  refine ⟨fun p b k' h1 h2=> ?_,fun b hb=> ?_⟩
  ·cases p with
   |zero=>
    simp at h1 h2
    subst h1;subst h2
    show fX (bV h i k) (ol r s) i=some k
    rw [a2 i hn.1]
    simp [bV]
   |succ p=>exact a1 p b k' (by simpa using h1) (by simpa using h2)
  ·simp only [ah,lv,bc,not_or] at hb
   show fX (bV h i k) (ol r s) b=h b
   rw [a2 b hb.2]
   simp [bV,hb.1]
theorem XH: ∀(bs:List Nat) (h:aZ),(∀b,b∈bs->fX h (jo bs) b=some nG)/\ ∀b,b∉bs->fX h (jo bs) b=h b
 |[],h=>⟨fun b hb=>by simp at hb,fun b _=>rfl⟩
 |i::r,h=>by
  obtain ⟨a1,a2⟩:=XH r (bV h i nG)
  refine ⟨fun b hb=> ?_,fun b hb=> ?_⟩
  ·by_cases hr:b∈r
   ·exact a1 b hr
   ·have:b=i:=by
     rcases bc.1 hb with e|e
     ·exact e
     ·exact absurd e hr
    subst this
    show fX (bV h b nG) (jo r) b=some nG
    rw [a2 b hr]
    simp [bV]
  ·simp only [bc,not_or] at hb
   show fX (bV h i nG) (jo r) b=h b
   rw [a2 b hb.2]
   simp [bV,hb.1]
def vY (μ μ1:Mu) (idx kb:List Nat):Mu:=fun b=>if b∈idx then μ1 (kV b idx) else if b∈kb then none else μ b
theorem a6Y {idx:List Nat} (hn:idx.Nodup) {p b:Nat} (hp:idx[p]? =some b):kV b idx=p:=
 (List.getElem?_inj (dw (sE (an hp))) hn).1 ((sE (an hp)).trans hp.symm)
structure RK (F:Frame) (μ:Mu) (h:aZ) (w:World) (ids bor:List Nat) (blks:List Blk) (μ1:Mu) (blks':List Blk) (w':World) (idx kb:List Nat) (ids2:List Nat) (hc:aZ):Prop where
 W:Way h ids bor blks
 H: @bD F μ h w
 H1: @bD (ph F μ ids bor) μ1 (bL blks') w'
 C1: @Chg (ph F μ ids bor) (oa μ ids) (bL blks) w μ1 (bL blks') w'
 nd:idx.Nodup
 len:idx.length=blks'.length
 sub: ∀b∈ids,b∈idx
 pre: ∀(p b:Nat),ids[p]? =some b->idx[p]? =some b
 new: ∀b∈idx,b∈ids\/h b=none
 idx2: ∀(p:Nat) (b:Nat),idx[p]? =some b->ids2.getD p 0=b
 kbs: ∀b∈kb,b∈bor
 c1: ∀(p b:Nat) (k:Blk),idx[p]? =some b->blks'[p]? =some k->hc b=some (kA ids2 k)
 c2: ∀b,b∈kb->hc b=some nG
 c3: ∀b,b∉idx->b∉kb->hc b=h b
section
variable {F:Frame} {μ:Mu} {h:aZ} {w:World} {ids bor:List Nat} {blks:List Blk} {μ1:Mu} {blks':List Blk} {w':World} {idx kb ids2:List Nat} {hc:aZ}
theorem z8 (B:RK F μ h w ids bor blks μ1 blks' w' idx kb ids2 hc) {p b:Nat} (hp:idx[p]? =some b):vY μ μ1 idx kb b=μ1 p:=by
 unfold vY
 rw [ae (an hp),a6Y B.nd hp]
theorem rN {b c:Nat} (hm:vY μ μ1 idx kb b=some c):(∃p,idx[p]? =some b/\μ1 p=some c)\/(b∉idx/\b∉kb/\μ b=some c):=by
 unfold vY at hm
 split at hm
 ·rename_i hb;exact .inl ⟨_,sE hb,hm⟩
 ·rename_i hb
  split at hm
  ·cases hm
  ·rename_i hk;exact .inr ⟨hb,hk,hm⟩
theorem RK.other (B:RK F μ h w ids bor blks μ1 blks' w' idx kb ids2 hc) {b c:Nat} (hb:b∉idx) (hm:μ b=some c):
 w'.heap[c]? =w.heap[c]? /\(∀p,μ1 p≠some c)/\(b∈bor\/(ph F μ ids bor).fr c):=by
 have hlt:= @bD.lt F μ h w B.H b c hm
 have hnb:b∉ids:=fun h1=>hb (B.sub b h1)
 by_cases hbor:b∈bor
 ·have hs: @pS (ph F μ ids bor) (oa μ ids) c:=HS B.W (@bD.frame F μ h w B.H b c hm) (fun b' hb' e=>by
   have:= @bD.inj F μ h w B.H _ _ _ e hm
   subst this
   exact hb' hbor)
  obtain ⟨g1,g2⟩:=a7r (Nl B.C1) c hlt hs
  exact ⟨g1,fun p=>g2.1 p,.inl hbor⟩
 ·have hf:(ph F μ ids bor).fr c:= .inr ⟨b,hm,hnb,hbor⟩
  exact ⟨Yh (Nl B.C1) c hf,fun p e=>YW B.H1 p c e hf,.inr hf⟩
theorem Sh (B:RK F μ h w ids bor blks μ1 blks' w' idx kb ids2 hc) (hk: ∀b∈bor,b∈kb) {c:Nat} (hs: @pS (ph F μ ids bor) μ1 c): @pS F (vY μ μ1 idx kb) c:=by
 refine ⟨fun b hm=> ?_,fun hf=>hs.2 (.inl hf)⟩
 rcases rN hm with ⟨p,_,h1⟩|⟨h1,h2,h3⟩
 ·exact hs.1 p h1
 ·exact hs.2 (.inr ⟨b,h3,fun h4=>h1 (B.sub b h4),fun h4=>h2 (hk b h4)⟩)
theorem jB (ids:List Nat) (k:Blk):(kA ids k).esz=k.esz:=by unfold kA;split<;>rfl
theorem yw (ids:List Nat) (k:Blk):(kA ids k).op=k.op:=by unfold kA;split<;>rfl
theorem yn (ids:List Nat) (k:Blk):(kA ids k).rows.length=k.rows.length:=by unfold kA;split<;>simp
theorem a2C (ids:List Nat) {v:V} (h:v.cell=true):(unV ids v).cell=true:=by cases v<;>first|exact h|rfl
theorem a5y (ids:List Nat) {v:V} (h:v.cell=true):(nK ids v).cell=true:=by
 cases v with
 |agg cs=>simp [V.cell] at h
 |fn f cs=>rfl
 |_=>exact a2C ids h
theorem b1T (ids:List Nat) {v:V} (h:okC v=true):nK ids v=unV ids v:=by
 cases v with
 |agg cs=>simp [okC] at h
 |fn f cs=>
  cases cs with
  |nil=>rfl
  |cons a b=>simp [okC] at h
 |_=>rfl
theorem F4 {v:V} (hf:su v=true) (hcl:v.cl=true): ∃x,v= .lit x:=by
 cases v<;>simp [su,V.cl] at hf hcl ⊢
theorem b5f {F1 F2:Frame} {ν1 ν2:Mu} {g1 g2:aZ} {w1 w2:World} {x y:Value} (hv: @aX F1 ν1 g1 w1 (.lit x) y): @aX F2 ν2 g2 w2 (.lit x) y:=by
 cases hv;exact @aX.lit F2 ν2 g2 w2 x
theorem Ge (B:RK F μ h w ids bor blks μ1 blks' w' idx kb ids2 hc) {v:V} {x:Value} (ho:okC v=true) (hk:(∀b∈bor,b∈kb)\/su v=true) (hv: @aX (ph F μ ids bor) μ1 (bL blks') w' v x):
 @aX F (vY μ μ1 idx kb) hc w' (unV ids2 v) x:=by
 have closed:v.cl=true->unV ids2 v=v-> @aX F (vY μ μ1 idx kb) hc w' (unV ids2 v) x:=fun hcl hu=>by
  rw [hu]
  rcases hk with hk|hf
  ·exact aX.move (F:=ph F μ ids bor) _ (fun c hc hs=>⟨hc,rfl,Sh B hk hs⟩) hv hcl
  ·obtain ⟨y,rfl⟩:=F4 hf hcl
   cases hv with
   |lit=>exact @aX.lit F _ _ _ _
 cases v with
 |lit y=>exact closed rfl rfl
 |imm e r=>exact closed rfl rfl
 |iptr r o=>exact closed rfl rfl
 |fn f cs=>
  cases cs with
  |nil=>exact closed rfl rfl
  |cons a b=>simp [okC] at ho
 |agg cs=>simp [okC] at ho
 |tup cs=>simp [okC] at ho
 |undef=>exact @aX.unk F _ _ _ x
 |ptr p i o n=>
  cases hv with
  |ptr _ _ _ _ _ k hk0 hn hx hp hd=>
   obtain ⟨b,hb⟩:=ey (l:=idx) (i:=p) (by rw [B.len];exact dw hk0)
   have hu:unV ids2 (.ptr p i o n)= .ptr b i o n:=by show V.ptr _ _ _ _=_;rw [B.idx2 p b hb]
   rw [hu]
   refine @aX.ptr F _ _ _ b i o n x (kA ids2 k) (B.c1 p b k hb hk0) (by rw [jB,yn];exact hn) hx (fun g1 g2 g3=> ?_) (fun g=>by rw [yw];exact hd (by rw [jB] at g;exact g))
   rw [jB] at g1 ⊢
   rw [yn] at g2
   rw [z8 B hb]
   exact hp g1 g2 g3
 |mp p=>
  cases hv with
  |mp _ _ k hk0 hx hmm=>
   obtain ⟨b,hb⟩:=ey (l:=idx) (i:=p) (by rw [B.len];exact dw hk0)
   have hu:unV ids2 (.mp p)= .mp b:=by show V.mp _=_;rw [B.idx2 p b hb]
   rw [hu]
   refine @aX.mp F _ _ _ b x (kA ids2 k) (B.c1 p b k hb hk0) hx (fun g1 g2=> ?_)
   rw [jB] at g1
   rw [yw] at g2
   rw [z8 B hb]
   exact hmm g1 g2
 |sl p s n=>
  cases hv with
  |sl _ _ _ _ k hk0 hn hx hp=>
   obtain ⟨b,hb⟩:=ey (l:=idx) (i:=p) (by rw [B.len];exact dw hk0)
   have hu:unV ids2 (.sl p s n)= .sl b s n:=by show V.sl _ _ _=_;rw [B.idx2 p b hb]
   rw [hu]
   refine @aX.sl F _ _ _ b s n x (kA ids2 k) (B.c1 p b k hb hk0) (by rw [jB,yn];exact hn) hx (fun g1 g2=> ?_)
   rw [jB] at g1 ⊢
   rw [yn] at g2
   rw [z8 B hb]
   exact hp g1 g2
theorem a97 (B:RK F μ h w ids bor blks μ1 blks' w' idx kb ids2 hc) {v:V} {x:Value} (ho:okD v=true) (hk:(∀b∈bor,b∈kb)\/su v=true) (hv: @aX (ph F μ ids bor) μ1 (bL blks') w' v x):
 @aX F (vY μ μ1 idx kb) hc w' (nK ids2 v) x:=by
 have other:okC v=true-> @aX F (vY μ μ1 idx kb) hc w' (nK ids2 v) x:=fun h1=>by
  rw [b1T _ h1];exact Ge B h1 hk hv
 cases v with
 |fn f cs=>
  cases hv with
  |fn _ _ xs hl hcs=>
   show @aX F _ _ _ (.fn f (cs.map (unV ids2))) _
   refine @aX.fn F _ _ _ f _ xs (by simp [hl]) (fun i v hi=> ?_)
   rw [aV] at hi
   cases hu:cs[i]? with
   |none=>rw [hu] at hi;cases hi
   |some u=>
    rw [hu] at hi;cases hi
    have hm:=an hu
    refine Ge B (aB.1 ho u hm) (hk.imp id (fun h1=> ?_)) (hcs i u hu)
    simp [su] at h1
 |_=>exact other ho
theorem a80 (B:RK F μ h w ids bor blks μ1 blks' w' idx kb ids2 hc) {v:V} {x:Value} (ho:okA v=true) (hk:(∀b∈bor,b∈kb)\/ON v=true) (hv: @aX (ph F μ ids bor) μ1 (bL blks') w' v x):
 @aX F (vY μ μ1 idx kb) hc w' (nK ids2 v) x:=by
 cases v with
 |agg cs=>
  cases hv with
  |agg _ xs hl hcell hcs=>
   show @aX F _ _ _ (.agg (cs.map (unV ids2))) _
   refine @aX.agg F _ _ _ _ xs (by simp [hl]) (fun v hv=> ?_) (fun i v hi=> ?_)
   ·obtain ⟨u,hu,rfl⟩:=bu.1 hv;exact a2C _ (hcell u hu)
   ·rw [aV] at hi
    cases hu:cs[i]? with
    |none=>rw [hu] at hi;cases hi
    |some u=>
     rw [hu] at hi;cases hi
     have hm:=an hu
     exact Ge B (aB.1 ho u hm) (hk.imp id (fun h1=>aB.1 h1 u hm)) (hcs i u hu)
 |fn f cs=>
  cases cs with
  |nil=>exact Ge B (by exact ho) (by exact hk) hv
  |cons a b=>simp [okA,okC] at ho
 |_=>exact Ge B (by exact ho) (by exact hk) hv
theorem b9l (B:RK F μ h w ids bor blks μ1 blks' w' idx kb ids2 hc) {v:V} {x:Value} (ho:okR v=true) (hk:(∀b∈bor,b∈kb)\/zp v=true) (hv: @aX (ph F μ ids bor) μ1 (bL blks') w' v x):
 @aX F (vY μ μ1 idx kb) hc w' (GV ids2 v) x:=by
 cases v with
 |tup vs=>
  cases hv with
  |tup _ xs hl hcs=>
   show @aX F _ _ _ (.tup (vs.map (nK ids2))) _
   refine @aX.tup F _ _ _ _ xs (by simp [hl]) (fun i v hi=> ?_)
   rw [aV] at hi
   cases hu:vs[i]? with
   |none=>rw [hu] at hi;cases hi
   |some u=>
    rw [hu] at hi;cases hi
    have hm:=an hu
    exact a80 B (aB.1 ho u hm) (hk.imp id (fun h1=>aB.1 h1 u hm)) (hcs i u hu)
 |_=>exact a80 B (by exact ho) (by exact hk) hv
theorem a8T (B:RK F μ h w ids bor blks μ1 blks' w' idx kb ids2 hc): @Chg F μ h w (vY μ μ1 idx kb) hc w':=by
 refine @Chg.mk F _ _ _ _ _ _ (@nv.mk F _ _ _ _ (c2E (Nl B.C1)) (a6C (Nl B.C1)) (b6v (Nl B.C1)) (YY (Nl B.C1)) (a8b (Nl B.C1)) (fun c hc hs=> ?_) (fun c hf=>Yh (Nl B.C1) c (.inl hf))) (fun b k hk=> ?_)
 ·obtain ⟨g1,g2⟩:=a7r (Nl B.C1) c hc (HS B.W hs.2 (fun b _=>hs.1 b))
  refine ⟨g1,fun b hm=> ?_,hs.2⟩
  rcases rN hm with ⟨p,_,h1⟩|⟨_,_,h3⟩
  ·exact g2.1 p h1
  ·exact hs.1 b h3
 ·by_cases hb:b∈idx
  ·rcases B.new b hb with hb'|hb'
   ·obtain ⟨p,hp,hpb⟩:=bq hb'
    have hp1:ids[p]? =some b:=by rw [aq hp,hpb]
    have hp2:=B.pre p b hp1
    obtain ⟨k',k0,g1,g2,L⟩:=B.W.at_ p b hp1
    rw [hk] at g1;cases g1
    obtain ⟨k1,q1,q2⟩:=b4Y B.C1 p k0 g2
    refine ⟨kA ids2 k1,B.c1 p b k1 hp2 q1, ?_⟩
    rw [jB,yn,yw,z8 B hp2]
    rw [L.esz,L.len,L.op] at q2
    have:oa μ ids p=μ b:=by simp [oa,hp1]
    rw [this] at q2
    exact q2
   ·rw [hk] at hb';cases hb'
  ·by_cases hk2:b∈kb
   ·exact ⟨nG,B.c2 b hk2,.inl ⟨rfl,rfl⟩⟩
   ·refine ⟨k,by rw [B.c3 b hb hk2];exact hk,.inr (.inr ⟨rfl,fun _=>rfl,rfl,by unfold vY;rw [aa hb,aa hk2],fun c hm=> ?_⟩)⟩
    unfold bsize
    rw [(B.other hb hm).1]
theorem b3X {fl:Bool} (B:RK F μ h w ids bor blks μ1 blks' w' idx kb ids2 hc) (hok: ∀k∈blks',okB k) (hk:(∀b∈bor,b∈kb)\/blks'.all (BM fl)=true): @bD F (vY μ μ1 idx kb) hc w':=by
 have C:=a8T B
 have idxBlk: ∀p b,idx[p]? =some b-> ∃k,blks'[p]? =some k:=fun p b hp=>ey (by rw [<-B.len];exact dw hp)
 refine @bD.mk F _ _ _ (fun b b' c h1 h2=> ?_) (fun b c h1=> ?_) (fun b k hk0=> ?_) (fun b k hk0=> ?_) (fun b c h1=> ?_) (fun c hf=>bR (@bD.frlt F μ h w B.H c hf) (YY (Nl B.C1)))
 ·rcases rN h1 with ⟨p,hp,g1⟩|⟨e1,e2,e3⟩<;>rcases rN h2 with ⟨p',hp',g1'⟩|⟨e1',e2',e3'⟩
  ·have:=c1J B.H1 _ _ _ g1 g1'
   subst this
   rw [hp] at hp';cases hp';rfl
  ·exact absurd g1 ((B.other e1' e3').2.1 p)
  ·exact absurd g1' ((B.other e1 e3).2.1 p')
  ·exact @bD.inj F μ h w B.H _ _ _ e3 e3'
 ·rcases rN h1 with ⟨p,hp,g1⟩|⟨e1,e2,e3⟩
  ·obtain ⟨k,q1,q2⟩:=c1V B.H1 p c g1
   exact ⟨kA ids2 k,B.c1 p b k hp q1,by unfold Blk.lies;rw [jB,yw];exact q2⟩
  ·obtain ⟨k,q1,q2⟩:= @bD.dom F μ h w B.H b c e3
   exact ⟨k,by rw [B.c3 b e1 e2];exact q1,q2⟩
 ·by_cases hb:b∈idx
  ·have hp:=sE hb
   obtain ⟨k1,hk1⟩:=idxBlk _ _ hp
   have:=B.c1 _ b k1 hp hk1
   rw [hk0] at this;cases this
   rcases b7I B.H1 _ k1 hk1 with ⟨g1,g2,g3⟩|⟨g0,c,arr,t,lo,hi,gm,gh,gf,gl,gv⟩|⟨g0,go,c,gm,gb⟩
   ·left
    refine ⟨?_,by rw [yw];exact g2,by rw [z8 B hp];exact g3⟩
    unfold kA
    rw [ae g2];exact g1
   rotate_left
   ·right;right
    refine ⟨by rw [jB];exact g0,by rw [yw];exact go,c,by rw [z8 B hp];exact gm, ?_⟩
    have hu:kA ids2 k1={ k1 with rows:=k1.rows.map (·.map (nK ids2)) }:=by unfold kA;rw [aa (by rw [go];simp)]
    rw [hu]
    show sx w' c (k1.rows.map (·.map (nK ids2)))
    rw [gb.map (fun n=>rfl)]
    exact gb
   ·right;left
    refine ⟨by rw [jB];exact g0,c,arr,t,lo,hi,by rw [z8 B hp];exact gm,gh,gf,by rw [yn,jB];exact gl,fun i row j v h1 h2=> ?_⟩
    rw [jB]
    cases hop:k1.op with
    |false=>
     have hu:kA ids2 k1=k1:=by unfold kA;rw [ae hop]
     rw [hu] at h1
     have hcl:=(a88 B.H1 _ k1 hk1 row (an h1)).2 v (an h2)|>.2 hop
     rcases hk with hk|hk
     ·exact aX.move (F:=ph F μ ids bor) _ (fun c hc hs=>⟨hc,rfl,Sh B hk hs⟩) (gv i row j v h1 h2) hcl
     ·have:=aB.1 hk k1 (an hk1)
      simp only [BM,aC] at this
      obtain ⟨x,rfl⟩:=F4 (aB.1 (aB.1 this.2 row (an h1)) v (an h2)) hcl
      exact b5f (gv i row j _ h1 h2)
    |true=>
     have hu:kA ids2 k1={ k1 with rows:=k1.rows.map (·.map (nK ids2)) }:=by unfold kA;rw [aa (by rw [hop];simp)]
     rw [hu] at h1
     simp only [aV] at h1
     cases hr:k1.rows[i]? with
     |none=>rw [hr] at h1;cases h1
     |some row1=>
      rw [hr] at h1;cases h1
      rw [aV] at h2
      cases hv1:row1[j]? with
      |none=>rw [hv1] at h2;cases h2
      |some v1=>
       rw [hv1] at h2;cases h2
       have hm1:=an hr
       have hm2:=an hv1
       have ho:=hok k1 (an hk1) hop row1 hm1 v1 hm2
       refine a97 B ho (hk.imp id (fun h3=> ?_)) (gv i row1 j v1 hr hv1)
       have:=aB.1 h3 k1 (an hk1)
       simp only [BM,aC] at this
       exact aB.1 (aB.1 this.2 row1 hm1) v1 hm2
  ·by_cases hk2:b∈kb
   ·rw [B.c2 b hk2] at hk0;cases hk0
    exact .inl ⟨rfl,rfl,by unfold vY;rw [aa hb,ae hk2]⟩
   ·rw [B.c3 b hb hk2] at hk0
    have hm:vY μ μ1 idx kb b=μ b:=by unfold vY;rw [aa hb,aa hk2]
    rcases @bD.blk F μ h w B.H b k hk0 with ⟨g1,g2,g3⟩|⟨g0,c,arr,t,lo,hi,gm,gh,gf,gl,gv⟩|⟨g0,go,c,gm,gb⟩
    ·exact .inl ⟨g1,g2,by rw [hm];exact g3⟩
    ·refine .inr (.inl ⟨g0,c,arr,t,lo,hi,by rw [hm];exact gm,by rw [(B.other hb gm).1];exact gh,gf,gl,fun i row j v h1 h2=> @aX.chg F _ _ _ _ _ _ C _ _ (gv i row j v h1 h2)⟩)
    ·exact .inr (.inr ⟨g0,go,c,by rw [hm];exact gm,gb.keep (B.other hb gm).1⟩)
 ·by_cases hb:b∈idx
  ·have hp:=sE hb
   obtain ⟨k1,hk1⟩:=idxBlk _ _ hp
   have:=B.c1 _ b k1 hp hk1
   rw [hk0] at this;cases this
   have hr:=a88 B.H1 _ k1 hk1
   rw [jB,yw]
   intro row hrow
   cases hop:k1.op with
   |false=>
    have hu:kA ids2 k1=k1:=by unfold kA;rw [ae hop]
    rw [hu] at hrow
    exact ⟨(hr row hrow).1,fun v hv=>⟨((hr row hrow).2 v hv).1,fun _=>((hr row hrow).2 v hv).2 hop⟩⟩
   |true=>
    have hu:kA ids2 k1={ k1 with rows:=k1.rows.map (·.map (nK ids2)) }:=by unfold kA;rw [aa (by rw [hop];simp)]
    rw [hu] at hrow
    obtain ⟨row1,hm1,rfl⟩:=bu.1 hrow
    refine ⟨by simpa using (hr row1 hm1).1,fun v hv=>⟨?_,fun h3=>by cases h3⟩⟩
    obtain ⟨v1,hm2,rfl⟩:=bu.1 hv
    exact a5y _ ((hr row1 hm1).2 v1 hm2).1
  ·by_cases hk2:b∈kb
   ·rw [B.c2 b hk2] at hk0;cases hk0
    intro row hrow;simp [nG] at hrow
   ·rw [B.c3 b hb hk2] at hk0
    exact @bD.rows F μ h w B.H b k hk0
 ·rcases rN h1 with ⟨p,hp,g1⟩|⟨e1,e2,e3⟩
  ·exact fun hf=>YW B.H1 p c g1 (.inl hf)
  ·exact @bD.frame F μ h w B.H b c e3
theorem b0F {fl:Bool} {new:Nat} {r v:V} {u:Upd} {x:Value} (W:Way h ids bor blks) (H: @bD F μ h w) (hp:z6 fl h new ids bor r blks'=some (v,u))
 (H1: @bD (ph F μ ids bor) μ1 (bL blks') w') (C1: @Chg (ph F μ ids bor) (oa μ ids) (bL blks) w μ1 (bL blks') w')
 (hv: @aX (ph F μ ids bor) μ1 (bL blks') w' r x) (ho:okR r=true) (hok: ∀k∈blks',okB k):
 ∃μ', @bD F μ' (fX h u) w'/\ @Chg F μ h w μ' (fX h u) w'/\ @aX F μ' (fX h u) w' v x:=by
 unfold z6 at hp
 split at hp
 ·rename_i hlen
  cases hp
  generalize hkb:(if (bor.isEmpty||(zp r&&blks'.all (BM fl)))=true then ([]:List Nat) else bor)=kb
  have hdrop:(if (bor.isEmpty||(zp r&&blks'.all (BM fl)))=true then ([]:Upd) else jo bor)=jo kb:=by
   rw [<-hkb];split<;>rfl
  rw [hdrop]
  have hcov:(∀b∈bor,b∈kb)\/(zp r=true/\blks'.all (BM fl)=true):=by
   rw [<-hkb]
   split
   ·rename_i hc
    simp only [da,aC,List.isEmpty_iff] at hc
    rcases hc with hc|hc
    ·left;rw [hc];intro b hb;cases hb
    ·exact .inr hc
   ·exact .inl fun b hb=>hb
  have hkbs: ∀b∈kb,b∈bor:=by
   rw [<-hkb]
   intro b hb
   split at hb
   ·cases hb
   ·exact hb
  obtain ⟨hge,hfr⟩:=hlen
  generalize hns:gi ids blks' new=ns at hfr ⊢
  have hnl:ns.length+ids.length=blks'.length:=by rw [<-hns];exact A1 hge
  have hfr': ∀b∈ns,h b=none:=fun b hb=>by simpa using aB.1 hfr b hb
  let idx:=ids++ns
  have hil:idx.length=blks'.length:=by simp only [idx,ab];omega
  have hle:blks'.length<=(ids++ns).length:=by rw [ab];omega
  have hnew: ∀b∈idx,b∈ids\/h b=none:=by
   intro b hb
   rcases aW.1 hb with h2|h2
   ·exact .inl h2
   ·exact .inr (hfr' b h2)
  have hnd:idx.Nodup:=by
   refine jV.2 ⟨W.nd,by rw [<-hns];exact Ke ids blks' new,fun a ha b hb e=> ?_⟩
   subst e
   obtain ⟨i,hi,hia⟩:=bq ha
   obtain ⟨k,k0,g1,_⟩:=W.at_ i a (by rw [aq hi,hia])
   rw [hfr' a hb] at g1;cases g1
  have hat: ∀(p b:Nat),idx[p]? =some b->(ids++ns)[p]? =some b:=fun p b hb=>hb
  have hpre: ∀(p b:Nat),ids[p]? =some b->idx[p]? =some b:=by
   intro p b hb
   simp only [idx]
   rw [bI (dw hb)]
   exact hb
  have htk:(ids++ns).take blks'.length=ids++ns:=cq (by rw [ab];omega)
  let L:=blks'.map (kA (ids++ns))
  have hLl:L.length=blks'.length:=by simp [L]
  have hz:=a4B (ids++ns) L h (by rw [hLl,htk];exact hnd) (by rw [hLl];exact hle)
  have hd:=XH kb (fX h (ol (ids++ns) L))
  rw [rQ]
  have hkn: ∀b∈kb,b∉idx:=by
   intro b hb hm
   have hbor:=hkbs b hb
   rcases hnew b hm with h1|h2
   ·exact W.dis b hbor h1
   ·obtain ⟨k,hk⟩:=W.has b hbor
    rw [h2] at hk;cases hk
  have B:RK F μ h w ids bor blks μ1 blks' w' idx kb (ids++ns) (fX (fX h (ol (ids++ns) L)) (jo kb)):=by
   refine ⟨W,H,H1,C1,hnd,hil,fun b hb=> ?_,hpre,fun b hb=> ?_,fun p b hb=> ?_,hkbs,fun p b k hb hk=> ?_,fun b hb=>hd.1 b hb,fun b hb hk=> ?_⟩
   ·obtain ⟨i,hi,hib⟩:=bq hb
    exact an (hpre i b (by rw [aq hi,hib]))
   ·exact hnew b hb
   ·rw [bp,hat p b hb];rfl
   ·rw [hd.2 b (fun h1=>hkn b h1 (an hb))]
    exact hz.1 p b _ (hat p b hb) (by simp [L,hk])
   ·rw [hd.2 b hk]
    exact hz.2 b (by rw [hLl,htk];exact hb)
  exact ⟨_,b3X B hok (hcov.imp id (fun h1=>h1.2)),a8T B,b9l B ho (hcov.imp id (fun h1=>h1.1)) hv⟩
 ·cases hp
end
end
section
def nD (F:Frame) (μ:Mu) (h:aZ) (w:World) (r:V) (blks':List Blk) (x:Value) (w':World):Prop:=
 ∃μ', @bD F μ' (bL blks') w'/\ @Chg F μ h w μ' (bL blks') w'/\ @aX F μ' (bL blks') w' r x/\okR r=true/\ ∀k∈blks',okB k
def Reach (P:Program) (f:FuncId) (xs:Array Value) (w:World) (R:Value->World->Prop):Prop:=
 (∃x w',(callFunc f xs).run P w= .ok (.value x) w'/\R x w')\/
 ((callFunc f xs).run P w= .ok (.enter f xs) w/\Calls P f xs w (fun| .returned v,w'=>R v w'|_,_=>False))
theorem Reach.mono {P:Program} {f:FuncId} {xs:Array Value} {w:World} {R R':Value->World->Prop} (h:Reach P f xs w R) (hr: ∀x w',R x w'->R' x w'):Reach P f xs w R':=by
 rcases h with ⟨x,w',h1,h2⟩|⟨h1,h2⟩
 ·exact .inl ⟨x,w',h1,hr _ _ h2⟩
 ·refine .inr ⟨h1,h2.mono (fun e w' he=> ?_)⟩
  cases e with
  |returned v=>exact hr _ _ he
  |_=>exact he
def ln (P:Program) (C:cg):Prop:= ∀(f:FuncId) (args:List V) (blks:List Blk) (r:V) (blks':List Blk),C f args blks=some (r,blks')->
 ∀(F:Frame) (μ:Mu) (w:World) (xs:Array Value), @bD F μ (bL blks) w->xs.size=args.length->(∀(i:Nat) (v:V),args[i]? =some v-> @aX F μ (bL blks) w v (xs.getD i undef))->
 Reach P f xs w (nD F μ (bL blks) w r blks')
theorem aX.czA [Frame] {μ:Mu} {h:aZ} {w:World} {v:V} {x:Value} (hv:aX μ h w v x):aX μ h w v.czA x:=by
 cases v with
 |agg cs=>
  cases hv with
  |agg _ xs hl hcell hc=>
   refine .agg _ xs (by simp [hl]) (fun v hv=> ?_) (fun i v hi=> ?_)
   ·obtain ⟨u,hu,rfl⟩:=bu.1 hv
    exact KK (hcell u hu)
   ·rw [aV] at hi
    cases hu:cs[i]? with
    |none=>rw [hu] at hi;cases hi
    |some u=>rw [hu] at hi;cases hi;exact (hc i u hu).cz
 |_=>exact hv.cz
theorem aX.czR [Frame] {μ:Mu} {h:aZ} {w:World} {v:V} {x:Value} (hv:aX μ h w v x):aX μ h w v.czR x:=by
 cases v with
 |tup vs=>
  cases hv with
  |tup _ xs hl hc=>
   refine .tup _ xs (by simp [hl]) (fun i v hi=> ?_)
   rw [aV] at hi
   cases hu:vs[i]? with
   |none=>rw [hu] at hi;cases hi
   |some u=>rw [hu] at hi;cases hi;exact (hc i u hu).czA
 |_=>exact hv.czA
theorem c1u {v:V} (h:okC v=true):okC v.cz=true:=by
 rcases v.cz_or with h1|⟨_,h1⟩|⟨e,_,h1⟩
 ·rw [h1];exact h
 ·rw [h1];rfl
 ·rw [h1];rfl
theorem a8X {v:V} (h:okA v=true):okA v.czA=true:=by
 cases v with
 |agg cs=>
  simp only [okA,V.czA,List.all_map,aB] at h ⊢
  exact fun v hv=>c1u (h v hv)
 |tup cs=>simp [okA,okC] at h
 |lit v=>
  show okA (V.cz (.lit v))=true
  rcases V.cz_or (.lit v) with h1|⟨_,h1⟩|⟨e,_,h1⟩<;>rw [h1]<;>first|exact h|rfl
 |imm e r=>
  show okA (V.cz (.imm e r))=true
  rcases V.cz_or (.imm e r) with h1|⟨_,h1⟩|⟨e,_,h1⟩<;>rw [h1]<;>first|exact h|rfl
 |_=>exact h
theorem b6R {v:V} (h:okR v=true):okR v.czR=true:=by
 cases v with
 |tup vs=>
  simp only [okR,V.czR,List.all_map,aB] at h ⊢
  exact fun v hv=>a8X (h v hv)
 |agg cs=>exact a8X (v:= .agg cs) h
 |lit v=>
  show okR (V.cz (.lit v))=true
  rcases V.cz_or (.lit v) with h1|⟨_,h1⟩|⟨e,_,h1⟩<;>rw [h1]<;>first|exact h|rfl
 |imm e r=>
  show okR (V.cz (.imm e r))=true
  rcases V.cz_or (.imm e r) with h1|⟨_,h1⟩|⟨e,_,h1⟩<;>rw [h1]<;>first|exact h|rfl
 |_=>exact h
theorem Nb (k:Blk):k.cz.esz=k.esz:=by unfold Blk.cz;split<;>rfl
theorem a2h (k:Blk):k.cz.op=k.op:=by unfold Blk.cz;split<;>rfl
theorem b3O (k:Blk):k.cz.rows.length=k.rows.length:=by unfold Blk.cz;split<;>simp
theorem c0C {v:V} (h:okD v=true):okD v.cz=true:=by
 rcases V.cz_or v with h1|⟨_,h1⟩|⟨e,_,h1⟩
 ·rw [h1];exact h
 ·rw [h1];rfl
 ·rw [h1];rfl
theorem c2O {k:Blk} (h:okB k):okB k.cz:=by
 intro hop row hrow v hv
 rw [a2h] at hop
 unfold Blk.cz at hrow
 rw [ae hop] at hrow
 obtain ⟨r0,hr0,rfl⟩:=bu.1 hrow
 obtain ⟨u,hu,rfl⟩:=bu.1 hv
 exact c0C (h hop r0 hr0 u hu)
theorem Ug (blks:List Blk) (b:Nat):bL (blks.map Blk.cz) b=(bL blks b).map Blk.cz:=by simp [bL]
theorem Us {F:Frame} {μ:Mu} {w:World} (blks:List Blk): @Chg F μ (bL blks) w μ (bL (blks.map Blk.cz)) w:=
 @Chg.mk F _ _ _ _ _ _ (@nv.refl F _ _) (fun b k hk=>⟨k.cz,by rw [Ug,hk];rfl,.inr (.inr ⟨Nb k,fun _=>a2h k,b3O k,rfl,fun _ _=>rfl⟩)⟩)
theorem a8p {F:Frame} {μ:Mu} {w:World} {blks:List Blk} (H: @bD F μ (bL blks) w): @bD F μ (bL (blks.map Blk.cz)) w:=by
 have inv: ∀b k',bL (blks.map Blk.cz) b=some k'-> ∃k,bL blks b=some k/\k'=k.cz:=by
  intro b k' hk
  rw [Ug] at hk
  cases hb:bL blks b with
  |none=>rw [hb] at hk;cases hk
  |some k=>rw [hb] at hk;cases hk;exact ⟨k,rfl,rfl⟩
 refine @bD.mk F _ _ _ (c1J H) (fun b c h1=> ?_) (fun b k' hk'=> ?_) (fun b k' hk'=> ?_) (YW H) (c0j H)
 ·obtain ⟨k,h2,h3⟩:=c1V H b c h1
  exact ⟨k.cz,by rw [Ug,h2];rfl,by unfold Blk.lies;rw [Nb,a2h];exact h3⟩
 ·obtain ⟨k,hk,rfl⟩:=inv b k' hk'
  rcases b7I H b k hk with ⟨g1,g2,g3⟩|⟨g0,c,arr,t,lo,hi,gm,gh,gf,gl,gv⟩|⟨g0,go,c,gm,gb⟩
  ·exact .inl ⟨by unfold Blk.cz;rw [aa (by simp [g2])];exact g1,by rw [a2h];exact g2,g3⟩
  rotate_left
  ·refine .inr (.inr ⟨by rw [Nb];exact g0,by rw [a2h];exact go,c,gm, ?_⟩)
   unfold Blk.cz
   rw [ae go]
   show sx w c (k.rows.map (·.map V.cz))
   rw [gb.map (fun n=>rfl)]
   exact gb
  ·refine .inr (.inl ⟨by rw [Nb];exact g0,c,arr,t,lo,hi,gm,gh,gf,by rw [Nb,b3O];exact gl,fun i row j v hi hj=> ?_⟩)
   rw [Nb]
   have old: ∃row0 v0,k.rows[i]? =some row0/\row0[j]? =some v0/\(v=v0\/v=v0.cz):=by
    unfold Blk.cz at hi
    split at hi
    ·simp only [aV] at hi
     cases hr:k.rows[i]? with
     |none=>rw [hr] at hi;cases hi
     |some row0=>
      rw [hr] at hi;cases hi
      rw [aV] at hj
      cases hv0:row0[j]? with
      |none=>rw [hv0] at hj;cases hj
      |some v0=>rw [hv0] at hj;cases hj;exact ⟨row0,v0,rfl,hv0,.inr rfl⟩
    ·exact ⟨row,v,hi,hj,.inl rfl⟩
   obtain ⟨row0,v0,h1,h2,h3⟩:=old
   have h4:=(gv i row0 j v0 h1 h2).chg (Us blks)
   rcases h3 with rfl|rfl
   ·exact h4
   ·exact h4.cz
 ·obtain ⟨k,hk,rfl⟩:=inv b k' hk'
  intro row hrow
  have:=a88 H b k hk
  unfold Blk.cz at hrow ⊢
  split at hrow
  ·rename_i hop
   rw [ae hop]
   obtain ⟨r0,hr0,rfl⟩:=bu.1 hrow
   refine ⟨by simpa using (this r0 hr0).1,fun v hv=> ?_⟩
   obtain ⟨u,hu,rfl⟩:=bu.1 hv
   exact ⟨KK ((this r0 hr0).2 u hu).1,fun h=>a8q (((this r0 hr0).2 u hu).2 h)⟩
  ·rename_i hop
   rw [aa hop]
   exact this row hrow
theorem nD.base {F:Frame} {μ:Mu} {blks:List Blk} {w:World} {r:V} {blks':List Blk} {x:Value} {w':World} (h:nD F μ (bL (blks.map Blk.cz)) w r blks' x w'):nD F μ (bL blks) w r blks' x w':=by
 obtain ⟨μ',h1,h2,h3⟩:=h
 exact ⟨μ',h1, @Chg.trans _ _ _ F _ _ _ _ _ _ (Us blks) h2,h3⟩
theorem nD.czR {F:Frame} {μ:Mu} {h:aZ} {w:World} {r:V} {blks':List Blk} {x:Value} {w':World} (p:nD F μ h w r blks' x w'):nD F μ h w r.czR blks' x w':=by
 obtain ⟨μ',h1,h2,h3,h4,h5⟩:=p
 exact ⟨μ',h1,h2, @aX.czR F _ _ _ _ _ h3,b6R h4,h5⟩
theorem nD.czB {F:Frame} {μ:Mu} {h:aZ} {w:World} {r:V} {blks':List Blk} {x:Value} {w':World} (p:nD F μ h w r blks' x w'):nD F μ h w r (blks'.map Blk.cz) x w':=by
 obtain ⟨μ',h1,h2,h3,h4,h5⟩:=p
 exact ⟨μ',a8p h1, @Chg.trans _ _ _ F _ _ _ _ _ _ h2 (Us blks'),h3.chg (Us blks'),h4,fun k hk=>by
  obtain ⟨k0,hk0,rfl⟩:=bu.1 hk
  exact c2O (h5 k0 hk0)⟩
section
variable {F:Frame} {P:Program} {C:cg} {μ:Mu} {h:aZ} {w:World}
theorem XW (hC:ln P C) {owns:FuncId->List Nat} {new:Nat} {f:FuncId} {args:List V} {v:V} {u:Upd} {xs:Array Value} (H: @bD F μ h w) (hl:xs.size=args.length)
 (hv: ∀(i:Nat) (v:V),args[i]? =some v-> @aX F μ h w v (xs.getD i undef)) (hs:oC C owns h new f args=some (v,u)):
 Reach P f xs w (fun x w'=> ∃μ', @bD F μ' (fX h u) w'/\ @Chg F μ h w μ' (fX h u) w'/\ @aX F μ' (fX h u) w' v x):=by
 unfold oC at hs
 split at hs
 ·cases hs
 ·rename_i args' blks ids bor hp
  split at hs
  ·cases hs
  ·rename_i r blks' hc
   obtain ⟨W,hal,hloc⟩:=b3e hp
   have hrel: ∀(i:Nat) (v':V),args'[i]? =some v'-> @aX (ph F μ ids bor) (oa μ ids) (bL blks) w v' (xs.getD i undef):=fun i v' hi=>by
    obtain ⟨v0,h0⟩:=ey (l:=args) (i:=i) (by rw [<-hal];exact dw hi)
    exact a1q W H (hloc i v0 v' h0 hi) (hv i v0 h0)
   have key:Reach P f xs w (nD (ph F μ ids bor) (oa μ ids) (bL blks) w r blks'):=by
    unfold vv vd at hc
    cases hraw:(owns f).contains 1000 with
    |true=>
     rw [hraw] at hc
     exact hC f args' blks r blks' hc (ph F μ ids bor) (oa μ ids) w xs (ZO W H) (by omega) hrel
    |false=>
     rw [hraw] at hc
     simp only [bA,if_false] at hc
     refine (hC f _ _ r blks' hc (ph F μ ids bor) (oa μ ids) w xs (a8p (ZO W H)) (by simp;omega) (fun i v hi=> ?_)).mono (fun x w' hp=>hp.base)
     rw [aV] at hi
     cases hu:args'[i]? with
     |none=>rw [hu] at hi;cases hi
     |some u=>rw [hu] at hi;cases hi;exact @aX.czA (ph F μ ids bor) _ _ _ _ _ (@aX.chg (ph F μ ids bor) _ _ _ _ _ _ (Us blks) _ _ (hrel i u hu))
   refine key.mono (fun x w' hpost=> ?_)
   ·obtain ⟨μ1,H1,C1,V1,ho,hok⟩:=hpost
    obtain ⟨u0,hs0,hu, -, -⟩:=a7U hs
    rw [hu]
    exact b0F W H hs0 H1 C1 V1 ho hok
end
section
variable {P:Program} {C:cg} {μ:Mu} {h:aZ} {w:World} {f:Nat->V} {a:Act}
theorem a44 [Frame] (E:gj μ h w f a): ∀{l:List Operand} {l':List Opd},lD l=some l'->l'.length=l.length/\ ∀(i:Nat) (v:V),(l'.map (Opd.ev f))[i]? =some v->aX μ h w v ((l.map a.eval).getD i undef)
 |[],l',hl=>by
  simp [lD] at hl;subst hl
  exact ⟨rfl,fun i v hi=>by simp at hi⟩
 |x::r,l',hl=>by
  simp only [lD] at hl
  split at hl
  ·rename_i y r' h1 h2
   cases hl
   obtain ⟨i1,i2⟩:=a44 E h2
   refine ⟨by simp [i1],fun i v hi=> ?_⟩
   cases i with
   |zero=>simp at hi;subst hi;exact bP E h1
   |succ i=>exact i2 i v (by simpa using hi)
  ·cases hl
theorem b6F {o:Oper} {g:FuncId} {xs:Array Value} {next:Act->World->Prop} {Q:Exit->Act->World->Prop} (hrun:(execOp a.eval o).run P w=(callFunc g xs).run P w)
 (hr:Reach P g xs w (fun x w'=>next (a.put o.dst x) w')):o.wp P a w next Q:=by
 unfold Oper.wp
 rw [hrun]
 rcases hr with ⟨x,w',h1,h2⟩|⟨h1,h2⟩
 ·rw [h1];exact h2
 ·rw [h1,Oper.upon_enter]
  refine h2.mono (fun e w' he=> ?_)
  cases e with
  |returned v=>exact he
  |panicked c=>exact he.elim
  |outgrown=>exact he.elim
theorem T5 [Frame] (hC:ln P C) (H:bD μ h w) (E:gj μ h w f a) {ow:FuncId->List Nat} {o:Oper} {ao:AOp} (hc:dW P o.op=some ao) {new:Nat} {v:V} {u:Upd}
 (hs:aN C ow ao (Opd.ev f) h new=some (v,u)) {next:Act->World->Prop} {Q:Exit->Act->World->Prop}
 (K: ∀x w' μ',bD μ' (fX h u) w'->Chg μ h w μ' (fX h u) w'->aX μ' (fX h u) w' v x->next (a.put o.dst x) w'):o.wp P a w next Q:=by
 cases hn:mX ao with
 |false=>
  obtain ⟨x,w',μ',hr,H',C',V'⟩:=b4p H E hc hn hs
  unfold Oper.wp
  rcases hr with hr|⟨hr,rfl⟩
  ·rw [hr,Oper.upon_value];exact K x w' μ' H' C' V'
  ·rw [hr,Oper.upon_skip];exact K undef w' μ' H' C' V'
 |true=>
  generalize hop:o.op=op at hc
  cases op with
  |call c=>
   have key: ∀(g:FuncId) (args:List Opd) (caps:List V) (xs:Array Value),lD c.args.toList=some args->(execOp a.eval o).run P w=(callFunc g (c.args.map a.eval++xs)).run P w->xs.size=caps.length->
    (∀(i:Nat) (v:V),caps[i]? =some v->aX μ h w v (xs.getD i undef))->oC C ow h new g (args.map (Opd.ev f)++caps)=some (v,u)->o.wp P a w next Q:=by
    intro g args caps xs hargs hrun hxs hcaps hcall
    obtain ⟨i1,i2⟩:=a44 E hargs
    refine b6F hrun ((XW hC H (by simp [i1,hxs]) (fun i v hi=> ?_) hcall).mono (fun x w' ⟨μ',H',C',V'⟩=>K x w' μ' H' C' V'))
    rcases cA i args.length with hlt|hge
    ·rw [bI (by simpa using hlt)] at hi
     have:=i2 i v hi
     rw [bp] at this
     rw [Array.getD_eq_getD_getElem?,fj (by simpa [i1] using hlt), <-Array.getElem?_toList]
     simpa using this
    ·rw [bS (by simpa using hge)] at hi
     rw [Array.getD_eq_getD_getElem?,Array.getElem?_append_right (by simpa [i1] using hge), <-Array.getD_eq_getD_getElem?]
     simp only [aM,Array.size_map] at hi ⊢
     have:=hcaps _ v hi
     rw [i1,Array.length_toList] at this
     exact this
   have hcc:=hc
   simp only [dW] at hc
   split at hc
   ·rename_i g args hca hargs
    cases hc
    simp only [aN] at hs
    refine key g args [] #[] hargs ?_ rfl (fun i v hi=>by simp at hi) (by simpa using hs)
    simp [execOp,hop,resolve,hca,Deferred.ofValue,invoke,Act.eval]
   ·rename_i fv args hnf hca hargs
    split at hc
    ·rename_i fo hfo
     cases hc
     have hvf:=bP E hfo
     simp only [aN] at hs
     split at hs
     ·rename_i g caps hev
      rw [hev] at hvf
      obtain ⟨xs,hx,hxl,hxv⟩:=b4A hvf
      refine key g args caps xs hargs ?_ hxl hxv hs
      simp [execOp,hop,resolve,hca,hx,Deferred.ofValue,invoke]
     ·cases hs
    ·cases hc
   ·exfalso
    repeat' (first|contradiction| (cases hc;simp [mX] at hn;done)| (split at hc))
   ·exfalso
    repeat' (first|contradiction| (cases hc;simp [mX] at hn;done)| (split at hc))
   ·exfalso
    repeat' (first|contradiction| (cases hc;simp [mX] at hn;done)| (split at hc))
   ·cases hc;simp [mX] at hn
   ·cases hc;simp [mX] at hn
   ·cases hc
  |_=>
   exfalso
   simp only [dW] at hc
   repeat' (first|contradiction| (obtain ⟨_,_,rfl⟩:=sI hc;simp [mX] at hn;done)| (cases hc;simp [mX] at hn;done)| (split at hc))
end
end
section
theorem yb {α:Type} (b:Nat) (k:α): ∀(m:List (Nat×α)) (b':Nat),dO (jf b k m) b'=if b'=b then some k else dO m b'
 |[],b'=>by
  simp only [jf,dO]
  by_cases e:b=b'
  ·simp [e]
  ·rw [aa e,aa (Ne.symm e)]
 | (j,u)::r,b'=>by
   simp only [jf]
   by_cases e:j=b
   ·rw [ae e]
    simp only [dO]
    by_cases e2:j=b'
    ·rw [ae e2,ae (by omega)]
    ·rw [aa e2,aa e2,aa (by omega)]
   ·rw [aa e]
    simp only [dO]
    by_cases e2:j=b'
    ·rw [ae e2,ae e2,aa (by omega)]
    ·rw [aa e2,aa e2,yb b k r b']
theorem X9: ∀(u:Upd) (m:List (Nat×Blk)),dO (a3X m u)=fX (dO m) u
 |[],m=>rfl
 | (b,k)::r,m=>by
   show dO (a3X (jf b k m) r)=fX (bV (dO m) b k) r
   rw [X9 r (jf b k m)]
   congr 1
   funext b'
   rw [yb]
   rfl
theorem St.upd_heap (s:St) (u:Upd):(s.upd u).heap=fX s.heap u:=X9 u s.m
theorem St.upd_get (s:St) (u:Upd):(s.upd u).get=s.get:=rfl
theorem St.put_heap (s:St) (d:Option Nat) (v:V):(s.put d v).heap=s.heap:=by cases d<;>rfl
theorem St.put_get (s:St) (d:Option Nat) (v:V) (t:Nat):(s.put d v).get t=if d=some t then v else s.get t:=by
 cases d with
 |none=>rfl
 |some d=>
  show (dO ((d,v)::s.e) t).getD .undef=_
  simp only [dO]
  by_cases e:d=t
  ·simp [e]
  ·rw [aa e,aa (by simpa using e)];rfl
theorem b2D (live:List Nat) (s:St) (t:Nat):(trim live s).get t=if t∈live then s.get t else .undef:=by
 show (dO (live.map fun t=>(t,s.get t)) t).getD .undef=_
 have: ∀l:List Nat,dO (l.map fun t=>(t,s.get t)) t=if t∈l then some (s.get t) else none:=by
  intro l
  induction l with
  |nil=>rfl
  |cons x r ih=>
   simp only [aS,dO]
   by_cases e:x=t
   ·rw [ae e,ae (by simp [e]),e]
   ·rw [aa e,ih]
    by_cases h2:t∈r
    ·rw [ae h2,ae (by simp [h2])]
    ·rw [aa h2,aa (by simp [h2];exact fun h=>e h.symm)]
 rw [this live]
 split<;>rfl
section
structure Inv [Frame] (n:Nat) (f:Nat->V) (h:aZ) (μ:Mu) (a:Act) (w:World):Prop where
 H:bD μ h w
 E:gj μ h w f a
 sz:n<=a.tmps.size
 df:a.defers=[]
structure lr [Frame] (μ0:Mu) (h0:aZ) (w0:World) (μ:Mu) (h:aZ) (w:World):Prop where
 C:Chg μ0 h0 w0 μ h w
 lo: ∀b k,h0 b=some k->b<1000
theorem CO {a:Act} {d:Option Nat} {x:Value} {t:Nat} (h: ∀e,d=some e->e<a.tmps.size):(a.put d x).tmps.getD t undef=if d=some t then x else a.tmps.getD t undef:=by
 cases d with
 |none=>rfl
 |some e=>
  have:=h e rfl
  show (a.tmps.setIfInBounds e x).getD t undef=_
  rw [Array.getD_eq_getD_getElem?,cx]
  by_cases he:e=t
  ·subst he;simp [this]
  ·rw [aa he,aa (by simpa using he),Array.getD_eq_getD_getElem?]
variable {P:Program} {μ:Mu} {w:World} {a:Act}
theorem gj.put [Frame] {h:aZ} {f:Nat->V} (E:gj μ h w f a) {d:Option Nat} {v:V} {x:Value} (hd: ∀e,d=some e->e<a.tmps.size) (hv:aX μ h w v x):gj μ h w (fun t=>if d=some t then v else f t) (a.put d x):=by
 intro t
 rw [CO hd]
 show aX μ h w (if d=some t then v else f t) _
 split
 ·exact hv
 ·exact E t
theorem Act.put_size (a:Act) (d:Option Nat) (x:Value):(a.put d x).tmps.size=a.tmps.size:=by
 cases d with
 |none=>rfl
 |some d=>show (a.tmps.setIfInBounds d x).size=_;simp
theorem Act.put_def (a:Act) (d:Option Nat) (x:Value):(a.put d x).defers=a.defers:=by cases d<;>rfl
structure c1D (P:Program) (n:Nat) (ops:Array Oper) (o:Oper) (s:cm):Prop where
 op:dW P o.op=some s.op
 dst:s.dst=o.dst
 lt: ∀d,o.dst=some d->d<n
 gd:match o.guard with
  |none=>s.guard=none
  |some (j,b)=> ∃t,(ops[j]?).bind (·.dst)=some t/\s.guard=some (t,b)
theorem Jx {n:Nat} {ops:Array Oper} {o:Oper} {s:cm} (h:L5 P n ops o=some s):c1D P n ops o s:=by
 unfold L5 at h
 split at h
 ·cases h
 ·rename_i op hop
  by_cases hd:b60 n o.dst=true
  ·rw [ae hd] at h
   have hlt: ∀d,o.dst=some d->d<n:=fun d hd'=>by rw [hd'] at hd;simpa [b60] using hd
   cases hg:o.guard with
   |none=>
    rw [hg] at h
    simp only [Option.some.injEq] at h
    subst h
    exact ⟨hop,rfl,hlt,by rw [hg]⟩
   |some p=>
    obtain ⟨j,b⟩:=p
    rw [hg] at h
    dsimp only at h
    cases ht:(ops[j]?).bind (·.dst) with
    |none=>rw [ht] at h;cases h
    |some t=>
     rw [ht] at h
     simp only [Option.some.injEq] at h
     subst h
     exact ⟨hop,rfl,hlt,by rw [hg];exact ⟨t,ht,rfl⟩⟩
  ·rw [aa hd] at h;cases h
theorem NC [Frame] {n:Nat} {ops:Array Oper} {o:Oper} {s:cm} (C:c1D P n ops o s) {st:St} {h:aZ} (E:gj μ h w st.get a) {b:Bool} (hw:st.want s.guard=some b):
 Region.wanted o (yielded ops a.tmps)=b:=by
 have hg:=C.gd
 unfold Region.wanted
 cases hog:o.guard with
 |none=>
  rw [hog] at hg
  simp only at hg
  rw [hg] at hw
  simp [St.want] at hw
  simp [hw]
 |some p=>
  obtain ⟨j,bb⟩:=p
  rw [hog] at hg
  obtain ⟨t,ht,hsg⟩:=hg
  rw [hsg] at hw
  have hE:=E t
  simp only [St.want] at hw
  simp only [yielded,ht,Option.bind_some]
  split at hw
  ·rename_i c hc
   cases hw
   rw [hc] at hE
   generalize hX:a.tmps.getD t undef=X at hE
   cases hE
   rw [Array.getD_eq_getD_getElem?] at hX
   cases hT:a.tmps[t]? with
   |none=>rw [hT] at hX;cases hX
   |some y=>
    rw [hT] at hX;cases hX
    rfl
  ·rename_i c hc
   cases hw
   rw [hc] at hE
   generalize hX:a.tmps.getD t undef=X at hE
   cases hE
   rw [Array.getD_eq_getD_getElem?] at hX
   cases hT:a.tmps[t]? with
   |none=>rfl
   |some y=>
    rw [hT] at hX;cases hX
    rfl
  ·cases hw
theorem Inv.put_skip [Frame] {n:Nat} {f:Nat->V} {h:aZ} (I:Inv n f h μ a w) {d:Option Nat} (hd: ∀e,d=some e->e<n) {x:Value} {v:V} (hv:aX μ h w v x):Inv n (fun t=>if d=some t then v else f t) h μ (a.put d x) w:=
 ⟨I.H,I.E.put (fun e he=>bR (hd e he) I.sz) hv,by rw [Act.put_size];exact I.sz,by rw [Act.put_def];exact I.df⟩
theorem H6 [Frame] {C:cg} (hC:ln P C) {ow:en} {n:Nat} {ops:Array Oper} {Q:Exit->Act->World->Prop} {μ0:Mu} {h0:aZ} {w0:World}: ∀(l:List Oper) (steps:List cm) (i k:Nat) (st st':St) (μ:Mu) (a:Act) (w:World),
 (∀j,j<l.length->ops[i+j]? =l[j]?)->km P n ops l=some steps->jP C ow steps k st=some st'->Inv n st.get st.heap μ a w->lr μ0 h0 w0 μ st.heap w->
 (∀μ' a' w',Inv n st'.get st'.heap μ' a' w'->lr μ0 h0 w0 μ' st'.heap w'->Q .normal a' w')->wpOps P ops Q (List.range' i l.length) a w
 |[],steps,i,k,st,st',μ,a,w,hl,hc,hs,I,S,K=>by
  simp [km] at hc;subst hc
  simp [jP] at hs;subst hs
  exact K μ a w I S
 |o::l,steps,i,k,st,st',μ,a,w,hl,hc,hs,I,S,K=>by
  simp only [km] at hc
  split at hc
  ·rename_i s r h1 h2
   cases hc
   simp only [jP] at hs
   split at hs
   ·rename_i st1 hst1
    have CS:=Jx h1
    have hoi:ops[i]? =some o:=by have:=hl 0 (by simp);simpa using this
    have hl': ∀j,j<l.length->ops[i+1+j]? =l[j]? :=fun j hj=>by
     have:=hl (j+1) (by simpa using hj)
     rw [show i+1+j=i+(j+1) by omega,this];simp
    simp only [ah,List.range'_succ,wpOps,hoi]
    have next: ∀μ' a' w',Inv n st1.get st1.heap μ' a' w'->lr μ0 h0 w0 μ' st1.heap w'->wpOps P ops Q (List.range' (i+1) l.length) a' w':=
     fun μ' a' w' I' S'=>H6 hC l r (i+1) (k+1) st1 st' μ' a' w' hl' h2 hs I' S' K
    unfold CF at hst1
    cases hwant:st.want s.guard with
    |none=>rw [hwant] at hst1;cases hst1
    |some b=>
     rw [hwant] at hst1
     rw [NC CS I.E hwant]
     cases b with
     |false=>
      simp only [Option.some.injEq] at hst1
      subst hst1
      simp only [bA,if_false]
      refine next μ _ w ?_ (by rw [St.put_heap];exact S)
      rw [St.put_heap]
      have:=I.put_skip (d:=o.dst) (x:=undef) (v:= .lit (.tuple #[])) CS.lt (.lit _)
      have e:(st.put s.dst (.lit (.tuple #[]))).get=fun t=>if o.dst=some t then .lit (.tuple #[]) else st.get t:=by
       funext t;rw [St.put_get,CS.dst]
      rw [e];exact this
     |true=>
      simp only at hst1
      split at hst1
      ·rename_i v u hop
       cases hst1
       simp only [if_true]
       refine .inl (T5 hC I.H I.E CS.op hop (fun x w' μ' H' C' V'=> ?_))
       have hh:((st.upd u).put s.dst v).heap=fX st.heap u:=by rw [St.put_heap,St.upd_heap]
       refine next μ' _ w' ?_ (by rw [hh];exact ⟨S.C.trans C',S.lo⟩)
       rw [hh]
       have E':gj μ' (fX st.heap u) w' st.get a:=fun t=>(I.E t).chg C'
       have:=(Inv.mk H' E' I.sz I.df).put_skip (d:=o.dst) CS.lt V'
       have e:((st.upd u).put s.dst v).get=fun t=>if o.dst=some t then v else st.get t:=by
        funext t;rw [St.put_get,CS.dst,St.upd_get]
       rw [e];exact this
      ·cases hst1
   ·cases hs
  ·cases hc
theorem Inv.trim [Frame] {n:Nat} {st:St} (I:Inv n st.get st.heap μ a w) (live:List Nat):Inv n (trim live st).get (AI.trim live st).heap μ a w:=by
 refine ⟨I.H,fun t=> ?_,I.sz,I.df⟩
 rw [b2D]
 split
 ·exact I.E t
 ·exact .unk _
theorem a0G [Frame] {C:cg} (hC:ln P C) {ow:en} {n id base:Nat} {ops:Array Oper} {steps:List cm} {live:List Nat} {Q:Exit->Act->World->Prop} {μ0:Mu} {h0:aZ} {w0:World} {st st':St} {e:bT}
 (hc:km P n ops ops.toList=some steps) (hs:sh C ow base steps live st=some (e,st')) (I:Inv n st.get st.heap μ a w) (S:lr μ0 h0 w0 μ st.heap w)
 (K: ∀μ' a' w',Inv n st'.get st'.heap μ' a' w'->lr μ0 h0 w0 μ' st'.heap w'->Q .normal a' w'):e= .normal/\(Code.region id ops false).wp P Q a w:=by
 unfold sh at hs
 split at hs
 ·rename_i st1 h1
  cases hs
  refine ⟨rfl,wp_region ?_⟩
  have:=H6 (Q:=Q) hC ops.toList steps 0 base st st1 μ a w (fun j hj=>by simp) hc h1 I S (fun μ' a' w' I' S'=>K μ' a' w' (I'.trim live) S')
  rwa [Array.length_toList, <-List.range_eq_range'] at this
 ·cases hs
end
end
end Go.AI
