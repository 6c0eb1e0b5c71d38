/- Part. -/
import Derived.Test.YtdnkignjanfikaaGreatAiOp
set_option linter.unusedVariables false
set_option linter.unusedSimpArgs false
namespace Go.AI
section
def okA:V->Bool
 | .agg cs=>cs.all okC
 |v=>okC v
def okR:V->Bool
 | .tup vs=>vs.all okA
 |v=>okA v
def okD:V->Bool
 | .fn _ cs=>cs.all okC
 |v=>okC v
def okB (k:Blk):Prop:=k.op=true-> ∀row∈k.rows, ∀v∈row,okD v=true
theorem a3p: ∀(ids:List Nat) (L:List Blk) (h:b8),(ids.take L.length).Nodup->L.length<=ids.length->
 (∀(p b:Nat) (k:Blk),ids[p]? =some b->L[p]? =some k->g9 h (og ids L) b=some k)/\ ∀b,b∉ids.take L.length->g9 h (og ids L) b=h b
 |[],L,h,_,c=>by
  have:L=[]:=bS (by simpa using c)
  subst this
  exact ⟨fun p b k a=>by simp at a,fun b _=>rfl⟩
 |i::r,[],h,_,_=>⟨fun p b k _ a=>by simp at a,fun b _=>rfl⟩
 |i::r,k::s,h,hn,c=>by
  simp only [ah,lL,List.nodup_cons] at hn
  obtain ⟨f,a2⟩:=a3p r s (bT h i k) hn.2 (by simpa using c)
  refine ⟨fun p b k' a d=> ?_,fun b e=> ?_⟩
  ·cases p with
   |zero=>
    simp at a d
    subst a;subst d
    show g9 (bT h i k) (og r s) i=some k
    rw [a2 i hn.1]
    simp [bT]
   |succ p=>exact f p b k' (by simpa using a) (by simpa using d)
  ·simp only [ah,lL,b9,not_or] at e
   show g9 (bT h i k) (og r s) b=h b
   rw [a2 b e.2]
   simp [bT,e.1]
theorem VG: ∀(bs:List Nat) (h:b8),(∀b,b∈bs->g9 h (iZ bs) b=some mO)/\ ∀b,b∉bs->g9 h (iZ bs) b=h b
 |[],h=>⟨fun b hb=>by simp at hb,fun b _=>rfl⟩
 |i::r,h=>by
  obtain ⟨a1,a2⟩:=VG r (bT h i mO)
  refine ⟨fun b hb=> ?_,fun b hb=> ?_⟩
  ·by_cases hr:b∈r
   ·exact a1 b hr
   ·have:b=i:=by
     rcases b9.1 hb with e|e
     ·exact e
     ·exact absurd e hr
    subst this
    show g9 (bT h b mO) (iZ r) b=some mO
    rw [a2 b hr]
    simp [bT]
  ·simp only [b9,not_or] at hb
   show g9 (bT h i mO) (iZ r) b=h b
   rw [a2 b hb.2]
   simp [bT,hb.1]
def vT (μ μ1:Mu) (idx kb:List Nat):Mu:=fun b=>if b∈idx then μ1 (kL b idx) else if b∈kb then none else μ b
theorem a5Q {idx:List Nat} (hn:idx.Nodup) {p b:Nat} (a:idx[p]? =some b):kL b idx=p:=
 (List.getElem?_inj (dw (so (an a))) hn).1 ((so (an a)).trans a.symm)
structure QN (F:Frame) (μ:Mu) (h:b8) (w:World) (ids bor:List Nat) (blks:List Blk) (μ1:Mu) (blks':List Blk) (w':World) (idx kb:List Nat) (ids2:List Nat) (hc:b8):Prop where
 W:Way h ids bor blks
 H: @bB F μ h w
 H1: @bB (oq F μ ids bor) μ1 (bJ blks') w'
 C1: @Chg (oq F μ ids bor) (o9 μ ids) (bJ blks) w μ1 (bJ blks') w'
 nd:idx.Nodup
 len:idx.length=blks'.length
 sub: ∀b∈ids,b∈idx
 pre: ∀(p b:Nat),ids[p]? =some b->idx[p]? =some b
 new: ∀b∈idx,b∈ids\/h b=none
 idx2: ∀(p:Nat) (b:Nat),idx[p]? =some b->ids2.getD p 0=b
 kbs: ∀b∈kb,b∈bor
 c1: ∀(p b:Nat) (k:Blk),idx[p]? =some b->blks'[p]? =some k->hc b=some (ki ids2 k)
 c2: ∀b,b∈kb->hc b=some mO
 c3: ∀b,b∉idx->b∉kb->hc b=h b
section
variable {F:Frame} {μ:Mu} {h:b8} {w:World} {ids bor:List Nat} {blks:List Blk} {μ1:Mu} {blks':List Blk} {w':World} {idx kb ids2:List Nat} {hc:b8}
theorem yy (B:QN F μ h w ids bor blks μ1 blks' w' idx kb ids2 hc) {p b:Nat} (a:idx[p]? =some b):vT μ μ1 idx kb b=μ1 p:=by
 unfold vT
 rw [ae (an a),a5Q B.nd a]
theorem ra {b c:Nat} (a:vT μ μ1 idx kb b=some c):(∃p,idx[p]? =some b/\μ1 p=some c)\/(b∉idx/\b∉kb/\μ b=some c):=by
 unfold vT at a
 split at a
 ·rename_i d;exact .inl ⟨_,so d,a⟩
 ·rename_i d
  split at a
  ·cases a
  ·rename_i e;exact .inr ⟨d,e,a⟩
theorem QN.other (B:QN F μ h w ids bor blks μ1 blks' w' idx kb ids2 hc) {b c:Nat} (l:b∉idx) (d:μ b=some c):
 w'.heap[c]? =w.heap[c]? /\(∀p,μ1 p≠some c)/\(b∈bor\/(oq F μ ids bor).fr c):=by
 have f:= @bB.lt F μ h w B.H b c d
 have i:b∉ids:=fun m=>l (B.sub b m)
 by_cases a:b∈bor
 ·have n: @pd (oq F μ ids bor) (o9 μ ids) c:=GT B.W (@bB.frame F μ h w B.H b c d) (fun b' j e=>by
   have:= @bB.inj F μ h w B.H _ _ _ e d
   subst this
   exact j a)
  obtain ⟨o,q⟩:=a4f (MI B.C1) c f n
  exact ⟨o,fun p=>q.1 p,.inl a⟩
 ·have k:(oq F μ ids bor).fr c:= .inr ⟨b,d,i,a⟩
  exact ⟨WN (MI B.C1) c k,fun p e=>WS B.H1 p c e k,.inr k⟩
theorem R4 (B:QN F μ h w ids bor blks μ1 blks' w' idx kb ids2 hc) (f: ∀b∈bor,b∈kb) {c:Nat} (a: @pd (oq F μ ids bor) μ1 c): @pd F (vT μ μ1 idx kb) c:=by
 refine ⟨fun b i=> ?_,fun j=>a.2 (.inl j)⟩
 rcases ra i with ⟨p,_,d⟩|⟨d,k,l⟩
 ·exact a.1 p d
 ·exact a.2 (.inr ⟨b,l,fun e=>d (B.sub b e),fun e=>k (f b e)⟩)
theorem jq (ids:List Nat) (k:Blk):(ki ids k).esz=k.esz:=by unfold ki;split<;>rfl
theorem yi (ids:List Nat) (k:Blk):(ki ids k).op=k.op:=by unfold ki;split<;>rfl
theorem xX (ids:List Nat) (k:Blk):(ki ids k).rows.length=k.rows.length:=by unfold ki;split<;>simp
theorem a3H (ids:List Nat) {v:V} (h:v.cell=true):(unV ids v).cell=true:=by cases v<;>first|exact h|rfl
theorem a67 (ids:List Nat) {v:V} (h:v.cell=true):(mG ids v).cell=true:=by
 cases v with
 |agg cs=>simp [V.cell] at h
 |fn f cs=>rfl
 |_=>exact a3H ids h
theorem b03 (ids:List Nat) {v:V} (h:okC v=true):mG ids v=unV ids v:=by
 cases v with
 |agg cs=>simp [okC] at h
 |fn f cs=>
  cases cs with
  |nil=>rfl
  |cons a b=>simp [okC] at h
 |_=>rfl
theorem EF {v:V} (b:pC v=true) (a:v.cl=true): ∃x,v= .lit x:=by
 cases v<;>simp [pC,V.cl] at b a ⊢
theorem b4h {F1 F2:Frame} {ν1 ν2:Mu} {b a:b8} {c w2:World} {x y:Value} (d: @aY F1 ν1 b c (.lit x) y): @aY F2 ν2 a w2 (.lit x) y:=by
 cases d;exact @aY.lit F2 ν2 a w2 x
theorem Fx (B:QN F μ h w ids bor blks μ1 blks' w' idx kb ids2 hc) {v:V} {x:Value} (ho:okC v=true) (hk:(∀b∈bor,b∈kb)\/pC v=true) (u: @aY (oq F μ ids bor) μ1 (bJ blks') w' v x):
 @aY F (vT μ μ1 idx kb) hc w' (unV ids2 v) x:=by
 have closed:v.cl=true->unV ids2 v=v-> @aY F (vT μ μ1 idx kb) hc w' (unV ids2 v) x:=fun z t=>by
  rw [t]
  rcases hk with hk|hf
  ·exact aY.move (F:=oq F μ ids bor) _ (fun c hc hs=>⟨hc,rfl,R4 B hk hs⟩) u z
  ·obtain ⟨y,rfl⟩:=EF hf z
   cases u with
   |lit=>exact @aY.lit F _ _ _ _
 cases v with
 |lit y=>exact closed rfl rfl
 |imm e r=>exact closed rfl rfl
 |iptr r o=>exact closed rfl rfl
 |fn f cs=>
  cases cs with
  |nil=>exact closed rfl rfl
  |cons a b=>simp [okC] at ho
 |agg cs=>simp [okC] at ho
 |tup cs=>simp [okC] at ho
 |undef=>exact @aY.unk F _ _ _ x
 |ptr p i o n=>
  cases u with
  |ptr _ _ _ _ _ k d hn hx hp hd=>
   obtain ⟨b,j⟩:=eu (l:=idx) (i:=p) (by rw [B.len];exact dw d)
   have t:unV ids2 (.ptr p i o n)= .ptr b i o n:=by show V.ptr _ _ _ _=_;rw [B.idx2 p b j]
   rw [t]
   refine @aY.ptr F _ _ _ b i o n x (ki ids2 k) (B.c1 p b k j d) (by rw [jq,xX];exact hn) hx (fun m q g3=> ?_) (fun g=>by rw [yi];exact hd (by rw [jq] at g;exact g))
   rw [jq] at m ⊢
   rw [xX] at q
   rw [yy B j]
   exact hp m q g3
 |mp p=>
  cases u with
  |mp _ _ k d hx hmm=>
   obtain ⟨b,j⟩:=eu (l:=idx) (i:=p) (by rw [B.len];exact dw d)
   have t:unV ids2 (.mp p)= .mp b:=by show V.mp _=_;rw [B.idx2 p b j]
   rw [t]
   refine @aY.mp F _ _ _ b x (ki ids2 k) (B.c1 p b k j d) hx (fun m q=> ?_)
   rw [jq] at m
   rw [yi] at q
   rw [yy B j]
   exact hmm m q
 |sl p s n=>
  cases u with
  |sl _ _ _ _ k d hn hx hp=>
   obtain ⟨b,j⟩:=eu (l:=idx) (i:=p) (by rw [B.len];exact dw d)
   have t:unV ids2 (.sl p s n)= .sl b s n:=by show V.sl _ _ _=_;rw [B.idx2 p b j]
   rw [t]
   refine @aY.sl F _ _ _ b s n x (ki ids2 k) (B.c1 p b k j d) (by rw [jq,xX];exact hn) hx (fun m q=> ?_)
   rw [jq] at m ⊢
   rw [xX] at q
   rw [yy B j]
   exact hp m q
theorem b0W (B:QN F μ h w ids bor blks μ1 blks' w' idx kb ids2 hc) {v:V} {x:Value} (e:okD v=true) (j:(∀b∈bor,b∈kb)\/pC v=true) (k: @aY (oq F μ ids bor) μ1 (bJ blks') w' v x):
 @aY F (vT μ μ1 idx kb) hc w' (mG ids2 v) x:=by
 have other:okC v=true-> @aY F (vT μ μ1 idx kb) hc w' (mG ids2 v) x:=fun a=>by
  rw [b03 _ a];exact Fx B a j k
 cases v with
 |fn f cs=>
  cases k with
  |fn _ _ xs l d=>
   show @aY F _ _ _ (.fn f (cs.map (unV ids2))) _
   refine @aY.fn F _ _ _ f _ xs (by simp [l]) (fun i v hi=> ?_)
   rw [aW] at hi
   cases c:cs[i]? with
   |none=>rw [c] at hi;cases hi
   |some u=>
    rw [c] at hi;cases hi
    have m:=an c
    refine Fx B (aB.1 e u m) (j.imp id (fun a=> ?_)) (d i u c)
    simp [pC] at a
 |_=>exact other e
theorem a6H (B:QN F μ h w ids bor blks μ1 blks' w' idx kb ids2 hc) {v:V} {x:Value} (j:okA v=true) (k:(∀b∈bor,b∈kb)\/Et v=true) (e: @aY (oq F μ ids bor) μ1 (bJ blks') w' v x):
 @aY F (vT μ μ1 idx kb) hc w' (mG ids2 v) x:=by
 cases v with
 |agg cs=>
  cases e with
  |agg _ xs n c l=>
   show @aY F _ _ _ (.agg (cs.map (unV ids2))) _
   refine @aY.agg F _ _ _ _ xs (by simp [n]) (fun v e=> ?_) (fun i v hi=> ?_)
   ·obtain ⟨u,d,rfl⟩:=bq.1 e;exact a3H _ (c u d)
   ·rw [aW] at hi
    cases d:cs[i]? with
    |none=>rw [d] at hi;cases hi
    |some u=>
     rw [d] at hi;cases hi
     have m:=an d
     exact Fx B (aB.1 j u m) (k.imp id (fun o=>aB.1 o u m)) (l i u d)
 |fn f cs=>
  cases cs with
  |nil=>exact Fx B (by exact j) (by exact k) e
  |cons a b=>simp [okA,okC] at j
 |_=>exact Fx B (by exact j) (by exact k) e
theorem b8J (B:QN F μ h w ids bor blks μ1 blks' w' idx kb ids2 hc) {v:V} {x:Value} (d:okR v=true) (e:(∀b∈bor,b∈kb)\/sQ v=true) (f: @aY (oq F μ ids bor) μ1 (bJ blks') w' v x):
 @aY F (vT μ μ1 idx kb) hc w' (Bo ids2 v) x:=by
 cases v with
 |tup vs=>
  cases f with
  |tup _ xs k c=>
   show @aY F _ _ _ (.tup (vs.map (mG ids2))) _
   refine @aY.tup F _ _ _ _ xs (by simp [k]) (fun i v hi=> ?_)
   rw [aW] at hi
   cases a:vs[i]? with
   |none=>rw [a] at hi;cases hi
   |some u=>
    rw [a] at hi;cases hi
    have j:=an a
    exact a6H B (aB.1 d u j) (e.imp id (fun l=>aB.1 l u j)) (c i u a)
 |_=>exact a6H B (by exact d) (by exact e) f
theorem a7b (B:QN F μ h w ids bor blks μ1 blks' w' idx kb ids2 hc): @Chg F μ h w (vT μ μ1 idx kb) hc w':=by
 refine @Chg.mk F _ _ _ _ _ _ (@n4.mk F _ _ _ _ (c4u (MI B.C1)) (a5l (MI B.C1)) (b5q (MI B.C1)) (Wz (MI B.C1)) (a7K (MI B.C1)) (fun c hc i=> ?_) (fun c s=>WN (MI B.C1) c (.inl s))) (fun b k m=> ?_)
 ·obtain ⟨j,n⟩:=a4f (MI B.C1) c hc (GT B.W i.2 (fun b _=>i.1 b))
  refine ⟨j,fun b o=> ?_,i.2⟩
  rcases ra o with ⟨p,_,t⟩|⟨_,_,u⟩
  ·exact n.1 p t
  ·exact i.1 b u
 ·by_cases l:b∈idx
  ·rcases B.new b l with a|a
   ·obtain ⟨p,v,q⟩:=bp a
    have d:ids[p]? =some b:=by rw [aq v,q]
    have f:=B.pre p b d
    obtain ⟨k',x,j,n,L⟩:=B.W.at_ p b d
    rw [m] at j;cases j
    obtain ⟨r,q1,q2⟩:=b6G B.C1 p x n
    refine ⟨ki ids2 r,B.c1 p b r f q1, ?_⟩
    rw [jq,xX,yi,yy B f]
    rw [L.esz,L.len,L.op] at q2
    have:o9 μ ids p=μ b:=by simp [o9,d]
    rw [this] at q2
    exact q2
   ·rw [m] at a;cases a
  ·by_cases e:b∈kb
   ·exact ⟨mO,B.c2 b e,.inl ⟨rfl,rfl⟩⟩
   ·refine ⟨k,by rw [B.c3 b l e];exact m,.inr (.inr ⟨rfl,fun _=>rfl,rfl,by unfold vT;rw [aa l,aa e],fun c o=> ?_⟩)⟩
    unfold bsize
    rw [(B.other l o).1]
theorem b2p {fl:Bool} (B:QN F μ h w ids bor blks μ1 blks' w' idx kb ids2 hc) (hok: ∀k∈blks',okB k) (hk:(∀b∈bor,b∈kb)\/blks'.all (rb fl)=true): @bB F (vT μ μ1 idx kb) hc w':=by
 have C:=a7b B
 have idxBlk: ∀p b,idx[p]? =some b-> ∃k,blks'[p]? =some k:=fun p b o=>eu (by rw [<-B.len];exact dw o)
 refine @bB.mk F _ _ _ (fun b b' c f r=> ?_) (fun b c f=> ?_) (fun b k e=> ?_) (fun b k e=> ?_) (fun b c f=> ?_) (fun c hf=>bP (@bB.frlt F μ h w B.H c hf) (Wz (MI B.C1)))
 ·rcases ra f with ⟨p,o,u⟩|⟨e1,e2,e3⟩<;>rcases ra r with ⟨p',hp',g1'⟩|⟨e1',e2',e3'⟩
  ·have:=c3S B.H1 _ _ _ u g1'
   subst this
   rw [o] at hp';cases hp';rfl
  ·exact absurd u ((B.other e1' e3').2.1 p)
  ·exact absurd g1' ((B.other e1 e3).2.1 p')
  ·exact @bB.inj F μ h w B.H _ _ _ e3 e3'
 ·rcases ra f with ⟨p,o,u⟩|⟨e1,e2,e3⟩
  ·obtain ⟨k,q1,q2⟩:=c5S B.H1 p c u
   exact ⟨ki ids2 k,B.c1 p b k o q1,by unfold Blk.lies;rw [jq,yi];exact q2⟩
  ·obtain ⟨k,q1,q2⟩:= @bB.dom F μ h w B.H b c e3
   exact ⟨k,by rw [B.c3 b e1 e2];exact q1,q2⟩
 ·by_cases z:b∈idx
  ·have o:=so z
   obtain ⟨a,l⟩:=idxBlk _ _ o
   have:=B.c1 _ b a o l
   rw [e] at this;cases this
   rcases b8x B.H1 _ a l with ⟨u,g2,g3⟩|⟨g0,c,arr,t,lo,hi,gm,gh,gf,gl,gv⟩|⟨g0,go,c,gm,gb⟩
   ·left
    refine ⟨?_,by rw [yi];exact g2,by rw [yy B o];exact g3⟩
    unfold ki
    rw [ae g2];exact u
   rotate_left
   ·right;right
    refine ⟨by rw [jq];exact g0,by rw [yi];exact go,c,by rw [yy B o];exact gm, ?_⟩
    have hu:ki ids2 a={ a with rows:=a.rows.map (·.map (mG ids2)) }:=by unfold ki;rw [aa (by rw [go];simp)]
    rw [hu]
    show sB w' c (a.rows.map (·.map (mG ids2)))
    rw [gb.map (fun n=>rfl)]
    exact gb
   ·right;left
    refine ⟨by rw [jq];exact g0,c,arr,t,lo,hi,by rw [yy B o];exact gm,gh,gf,by rw [xX,jq];exact gl,fun i row j v f r=> ?_⟩
    rw [jq]
    cases m:a.op with
    |false=>
     have hu:ki ids2 a=a:=by unfold ki;rw [ae m]
     rw [hu] at f
     have hcl:=(a78 B.H1 _ a l row (an f)).2 v (an r)|>.2 m
     rcases hk with hk|hk
     ·exact aY.move (F:=oq F μ ids bor) _ (fun c hc hs=>⟨hc,rfl,R4 B hk hs⟩) (gv i row j v f r) hcl
     ·have:=aB.1 hk a (an l)
      simp only [rb,aD] at this
      obtain ⟨x,rfl⟩:=EF (aB.1 (aB.1 this.2 row (an f)) v (an r)) hcl
      exact b4h (gv i row j _ f r)
    |true=>
     have hu:ki ids2 a={ a with rows:=a.rows.map (·.map (mG ids2)) }:=by unfold ki;rw [aa (by rw [m];simp)]
     rw [hu] at f
     simp only [aW] at f
     cases y:a.rows[i]? with
     |none=>rw [y] at f;cases f
     |some row1=>
      rw [y] at f;cases f
      rw [aW] at r
      cases hv1:row1[j]? with
      |none=>rw [hv1] at r;cases r
      |some v1=>
       rw [hv1] at r;cases r
       have s:=an y
       have hm2:=an hv1
       have ho:=hok a (an l) m row1 s v1 hm2
       refine b0W B ho (hk.imp id (fun h3=> ?_)) (gv i row1 j v1 y hv1)
       have:=aB.1 h3 a (an l)
       simp only [rb,aD] at this
       exact aB.1 (aB.1 this.2 row1 s) v1 hm2
  ·by_cases q:b∈kb
   ·rw [B.c2 b q] at e;cases e
    exact .inl ⟨rfl,rfl,by unfold vT;rw [aa z,ae q]⟩
   ·rw [B.c3 b z q] at e
    have hm:vT μ μ1 idx kb b=μ b:=by unfold vT;rw [aa z,aa q]
    rcases @bB.blk F μ h w B.H b k e with ⟨u,g2,g3⟩|⟨g0,c,arr,t,lo,hi,gm,gh,gf,gl,gv⟩|⟨g0,go,c,gm,gb⟩
    ·exact .inl ⟨u,g2,by rw [hm];exact g3⟩
    ·refine .inr (.inl ⟨g0,c,arr,t,lo,hi,by rw [hm];exact gm,by rw [(B.other z gm).1];exact gh,gf,gl,fun i row j v f r=> @aY.chg F _ _ _ _ _ _ C _ _ (gv i row j v f r)⟩)
    ·exact .inr (.inr ⟨g0,go,c,by rw [hm];exact gm,gb.keep (B.other z gm).1⟩)
 ·by_cases z:b∈idx
  ·have o:=so z
   obtain ⟨a,l⟩:=idxBlk _ _ o
   have:=B.c1 _ b a o l
   rw [e] at this;cases this
   have y:=a78 B.H1 _ a l
   rw [jq,yi]
   intro row d
   cases m:a.op with
   |false=>
    have hu:ki ids2 a=a:=by unfold ki;rw [ae m]
    rw [hu] at d
    exact ⟨(y row d).1,fun v hv=>⟨((y row d).2 v hv).1,fun _=>((y row d).2 v hv).2 m⟩⟩
   |true=>
    have hu:ki ids2 a={ a with rows:=a.rows.map (·.map (mG ids2)) }:=by unfold ki;rw [aa (by rw [m];simp)]
    rw [hu] at d
    obtain ⟨row1,s,rfl⟩:=bq.1 d
    refine ⟨by simpa using (y row1 s).1,fun v hv=>⟨?_,fun h3=>by cases h3⟩⟩
    obtain ⟨v1,hm2,rfl⟩:=bq.1 hv
    exact a67 _ ((y row1 s).2 v1 hm2).1
  ·by_cases q:b∈kb
   ·rw [B.c2 b q] at e;cases e
    intro row d;simp [mO] at d
   ·rw [B.c3 b z q] at e
    exact @bB.rows F μ h w B.H b k e
 ·rcases ra f with ⟨p,o,u⟩|⟨e1,e2,e3⟩
  ·exact fun hf=>WS B.H1 p c u (.inl hf)
  ·exact @bB.frame F μ h w B.H b c e3
theorem b0e {fl:Bool} {new:Nat} {r v:V} {u:Upd} {x:Value} (W:Way h ids bor blks) (H: @bB F μ h w) (hp:yl fl h new ids bor r blks'=some (v,u))
 (H1: @bB (oq F μ ids bor) μ1 (bJ blks') w') (C1: @Chg (oq F μ ids bor) (o9 μ ids) (bJ blks) w μ1 (bJ blks') w')
 (hv: @aY (oq F μ ids bor) μ1 (bJ blks') w' r x) (ho:okR r=true) (hok: ∀k∈blks',okB k):
 ∃μ', @bB F μ' (g9 h u) w'/\ @Chg F μ h w μ' (g9 h u) w'/\ @aY F μ' (g9 h u) w' v x:=by
 unfold yl at hp
 split at hp
 ·rename_i z
  cases hp
  generalize o:(if (bor.isEmpty||(sQ r&&blks'.all (rb fl)))=true then ([]:List Nat) else bor)=kb
  have q:(if (bor.isEmpty||(sQ r&&blks'.all (rb fl)))=true then ([]:Upd) else iZ bor)=iZ kb:=by
   rw [<-o];split<;>rfl
  rw [q]
  have d:(∀b∈bor,b∈kb)\/(sQ r=true/\blks'.all (rb fl)=true):=by
   rw [<-o]
   split
   ·rename_i hc
    simp only [cY,aD,List.isEmpty_iff] at hc
    rcases hc with hc|hc
    ·left;rw [hc];intro b c;cases c
    ·exact .inr hc
   ·exact .inl fun b c=>c
  have f: ∀b∈kb,b∈bor:=by
   rw [<-o]
   intro b c
   split at c
   ·cases c
   ·exact c
  obtain ⟨hge,hfr⟩:=z
  generalize hns:gc ids blks' new=ns at hfr ⊢
  have hnl:ns.length+ids.length=blks'.length:=by rw [<-hns];exact Aa hge
  have j: ∀b∈ns,h b=none:=fun b c=>by simpa using aB.1 hfr b c
  let idx:=ids++ns
  have hil:idx.length=blks'.length:=by simp only [idx,ab];omega
  have hle:blks'.length<=(ids++ns).length:=by rw [ab];omega
  have l: ∀b∈idx,b∈ids\/h b=none:=by
   intro b c
   rcases aX.1 c with h2|h2
   ·exact .inl h2
   ·exact .inr (j b h2)
  have hnd:idx.Nodup:=by
   refine jL.2 ⟨W.nd,by rw [<-hns];exact JG ids blks' new,fun a ha b c e=> ?_⟩
   subst e
   obtain ⟨i,hi,hia⟩:=bp ha
   obtain ⟨k,k0,g1,_⟩:=W.at_ i a (by rw [aq hi,hia])
   rw [j a c] at g1;cases g1
  have hat: ∀(p b:Nat),idx[p]? =some b->(ids++ns)[p]? =some b:=fun p b c=>c
  have m: ∀(p b:Nat),ids[p]? =some b->idx[p]? =some b:=by
   intro p b c
   simp only [idx]
   rw [bG (dw c)]
   exact c
  have htk:(ids++ns).take blks'.length=ids++ns:=ca (by rw [ab];omega)
  let L:=blks'.map (ki (ids++ns))
  have s:L.length=blks'.length:=by simp [L]
  have hz:=a3p (ids++ns) L h (by rw [s,htk];exact hnd) (by rw [s];exact hle)
  have hd:=VG kb (g9 h (og (ids++ns) L))
  rw [rq]
  have hkn: ∀b∈kb,b∉idx:=by
   intro b c hm
   have n:=f b c
   rcases l b hm with t|h2
   ·exact W.dis b n t
   ·obtain ⟨k,y⟩:=W.has b n
    rw [h2] at y;cases y
  have B:QN F μ h w ids bor blks μ1 blks' w' idx kb (ids++ns) (g9 (g9 h (og (ids++ns) L)) (iZ kb)):=by
   refine ⟨W,H,H1,C1,hnd,hil,fun b c=> ?_,m,fun b c=> ?_,fun p b c=> ?_,f,fun p b k c y=> ?_,fun b c=>hd.1 b c,fun b c y=> ?_⟩
   ·obtain ⟨i,hi,hib⟩:=bp c
    exact an (m i b (by rw [aq hi,hib]))
   ·exact l b c
   ·rw [bo,hat p b c];rfl
   ·rw [hd.2 b (fun t=>hkn b t (an c))]
    exact hz.1 p b _ (hat p b c) (by simp [L,y])
   ·rw [hd.2 b y]
    exact hz.2 b (by rw [s,htk];exact c)
  exact ⟨_,b2p B hok (d.imp id (fun t=>t.2)),a7b B,b8J B ho (d.imp id (fun t=>t.1)) hv⟩
 ·cases hp
end
end
section
def n7 (F:Frame) (μ:Mu) (h:b8) (w:World) (r:V) (blks':List Blk) (x:Value) (w':World):Prop:=
 ∃μ', @bB F μ' (bJ blks') w'/\ @Chg F μ h w μ' (bJ blks') w'/\ @aY F μ' (bJ blks') w' r x/\okR r=true/\ ∀k∈blks',okB k
def Reach (P:Program) (f:FuncId) (xs:Array Value) (w:World) (R:Value->World->Prop):Prop:=
 (∃x w',(callFunc f xs).run P w= .ok (.value x) w'/\R x w')\/
 ((callFunc f xs).run P w= .ok (.enter f xs) w/\Calls P f xs w (fun| .returned v,w'=>R v w'|_,_=>False))
theorem Reach.mono {P:Program} {f:FuncId} {xs:Array Value} {w:World} {R R':Value->World->Prop} (h:Reach P f xs w R) (c: ∀x w',R x w'->R' x w'):Reach P f xs w R':=by
 rcases h with ⟨x,w',a,b⟩|⟨a,b⟩
 ·exact .inl ⟨x,w',a,c _ _ b⟩
 ·refine .inr ⟨a,b.mono (fun e w' d=> ?_)⟩
  cases e with
  |returned v=>exact c _ _ d
  |_=>exact d
def lH (P:Program) (C:ce):Prop:= ∀(f:FuncId) (args:List V) (blks:List Blk) (r:V) (blks':List Blk),C f args blks=some (r,blks')->
 ∀(F:Frame) (μ:Mu) (w:World) (xs:Array Value), @bB F μ (bJ blks) w->xs.size=args.length->(∀(i:Nat) (v:V),args[i]? =some v-> @aY F μ (bJ blks) w v (xs.getD i undef))->
 Reach P f xs w (n7 F μ (bJ blks) w r blks')
theorem aY.czA [Frame] {μ:Mu} {h:b8} {w:World} {v:V} {x:Value} (c:aY μ h w v x):aY μ h w v.czA x:=by
 cases v with
 |agg cs=>
  cases c with
  |agg _ xs d a hc=>
   refine .agg _ xs (by simp [d]) (fun v c=> ?_) (fun i v hi=> ?_)
   ·obtain ⟨u,b,rfl⟩:=bq.1 c
    exact Kv (a u b)
   ·rw [aW] at hi
    cases b:cs[i]? with
    |none=>rw [b] at hi;cases hi
    |some u=>rw [b] at hi;cases hi;exact (hc i u b).cz
 |_=>exact c.cz
theorem aY.czR [Frame] {μ:Mu} {h:b8} {w:World} {v:V} {x:Value} (b:aY μ h w v x):aY μ h w v.czR x:=by
 cases v with
 |tup vs=>
  cases b with
  |tup _ xs c hc=>
   refine .tup _ xs (by simp [c]) (fun i v hi=> ?_)
   rw [aW] at hi
   cases a:vs[i]? with
   |none=>rw [a] at hi;cases hi
   |some u=>rw [a] at hi;cases hi;exact (hc i u a).czA
 |_=>exact b.czA
theorem c45 {v:V} (h:okC v=true):okC v.cz=true:=by
 rcases v.cz_or with a|⟨_,a⟩|⟨e,_,a⟩
 ·rw [a];exact h
 ·rw [a];rfl
 ·rw [a];rfl
theorem a71 {v:V} (h:okA v=true):okA v.czA=true:=by
 cases v with
 |agg cs=>
  simp only [okA,V.czA,List.all_map,aB] at h ⊢
  exact fun v b=>c45 (h v b)
 |tup cs=>simp [okA,okC] at h
 |lit v=>
  show okA (V.cz (.lit v))=true
  rcases V.cz_or (.lit v) with a|⟨_,a⟩|⟨e,_,a⟩<;>rw [a]<;>first|exact h|rfl
 |imm e r=>
  show okA (V.cz (.imm e r))=true
  rcases V.cz_or (.imm e r) with a|⟨_,a⟩|⟨e,_,a⟩<;>rw [a]<;>first|exact h|rfl
 |_=>exact h
theorem c02 {v:V} (h:okR v=true):okR v.czR=true:=by
 cases v with
 |tup vs=>
  simp only [okR,V.czR,List.all_map,aB] at h ⊢
  exact fun v b=>a71 (h v b)
 |agg cs=>exact a71 (v:= .agg cs) h
 |lit v=>
  show okR (V.cz (.lit v))=true
  rcases V.cz_or (.lit v) with a|⟨_,a⟩|⟨e,_,a⟩<;>rw [a]<;>first|exact h|rfl
 |imm e r=>
  show okR (V.cz (.imm e r))=true
  rcases V.cz_or (.imm e r) with a|⟨_,a⟩|⟨e,_,a⟩<;>rw [a]<;>first|exact h|rfl
 |_=>exact h
theorem LV (k:Blk):k.cz.esz=k.esz:=by unfold Blk.cz;split<;>rfl
theorem a3i (k:Blk):k.cz.op=k.op:=by unfold Blk.cz;split<;>rfl
theorem b4x (k:Blk):k.cz.rows.length=k.rows.length:=by unfold Blk.cz;split<;>simp
theorem c5i {v:V} (h:okD v=true):okD v.cz=true:=by
 rcases V.cz_or v with a|⟨_,a⟩|⟨e,_,a⟩
 ·rw [a];exact h
 ·rw [a];rfl
 ·rw [a];rfl
theorem c2J {k:Blk} (h:okB k):okB k.cz:=by
 intro b row a v d
 rw [a3i] at b
 unfold Blk.cz at a
 rw [ae b] at a
 obtain ⟨e,c,rfl⟩:=bq.1 a
 obtain ⟨u,f,rfl⟩:=bq.1 d
 exact c5i (h b e c u f)
theorem SH (blks:List Blk) (b:Nat):bJ (blks.map Blk.cz) b=(bJ blks b).map Blk.cz:=by simp [bJ]
theorem R8 {F:Frame} {μ:Mu} {w:World} (blks:List Blk): @Chg F μ (bJ blks) w μ (bJ (blks.map Blk.cz)) w:=
 @Chg.mk F _ _ _ _ _ _ (@n4.refl F _ _) (fun b k a=>⟨k.cz,by rw [SH,a];rfl,.inr (.inr ⟨LV k,fun _=>a3i k,b4x k,rfl,fun _ _=>rfl⟩)⟩)
theorem a7H {F:Frame} {μ:Mu} {w:World} {blks:List Blk} (H: @bB F μ (bJ blks) w): @bB F μ (bJ (blks.map Blk.cz)) w:=by
 have inv: ∀b k',bJ (blks.map Blk.cz) b=some k'-> ∃k,bJ blks b=some k/\k'=k.cz:=by
  intro b k' d
  rw [SH] at d
  cases z:bJ blks b with
  |none=>rw [z] at d;cases d
  |some k=>rw [z] at d;cases d;exact ⟨k,rfl,rfl⟩
 refine @bB.mk F _ _ _ (c3S H) (fun b c q=> ?_) (fun b k' e=> ?_) (fun b k' e=> ?_) (WS H) (c2e H)
 ·obtain ⟨k,r,s⟩:=c5S H b c q
  exact ⟨k.cz,by rw [SH,r];rfl,by unfold Blk.lies;rw [LV,a3i];exact s⟩
 ·obtain ⟨k,d,rfl⟩:=inv b k' e
  rcases b8x H b k d with ⟨g1,g2,g3⟩|⟨x,c,arr,t,lo,hi,gm,gh,gf,gl,gv⟩|⟨x,go,c,gm,gb⟩
  ·exact .inl ⟨by unfold Blk.cz;rw [aa (by simp [g2])];exact g1,by rw [a3i];exact g2,g3⟩
  rotate_left
  ·refine .inr (.inr ⟨by rw [LV];exact x,by rw [a3i];exact go,c,gm, ?_⟩)
   unfold Blk.cz
   rw [ae go]
   show sB w c (k.rows.map (·.map V.cz))
   rw [gb.map (fun n=>rfl)]
   exact gb
  ·refine .inr (.inl ⟨by rw [LV];exact x,c,arr,t,lo,hi,gm,gh,gf,by rw [LV,b4x];exact gl,fun i row j v hi p=> ?_⟩)
   rw [LV]
   have old: ∃row0 f,k.rows[i]? =some row0/\row0[j]? =some f/\(v=f\/v=f.cz):=by
    unfold Blk.cz at hi
    split at hi
    ·simp only [aW] at hi
     cases hr:k.rows[i]? with
     |none=>rw [hr] at hi;cases hi
     |some row0=>
      rw [hr] at hi;cases hi
      rw [aW] at p
      cases l:row0[j]? with
      |none=>rw [l] at p;cases p
      |some f=>rw [l] at p;cases p;exact ⟨row0,f,rfl,l,.inr rfl⟩
    ·exact ⟨row,v,hi,p,.inl rfl⟩
   obtain ⟨row0,f,q,r,s⟩:=old
   have h4:=(gv i row0 j f q r).chg (R8 blks)
   rcases s with rfl|rfl
   ·exact h4
   ·exact h4.cz
 ·obtain ⟨k,d,rfl⟩:=inv b k' e
  intro row a
  have:=a78 H b k d
  unfold Blk.cz at a ⊢
  split at a
  ·rename_i m
   rw [ae m]
   obtain ⟨y,o,rfl⟩:=bq.1 a
   refine ⟨by simpa using (this y o).1,fun v hv=> ?_⟩
   obtain ⟨u,hu,rfl⟩:=bq.1 hv
   exact ⟨Kv ((this y o).2 u hu).1,fun h=>a6I (((this y o).2 u hu).2 h)⟩
  ·rename_i m
   rw [aa m]
   exact this row a
theorem n7.base {F:Frame} {μ:Mu} {blks:List Blk} {w:World} {r:V} {blks':List Blk} {x:Value} {w':World} (h:n7 F μ (bJ (blks.map Blk.cz)) w r blks' x w'):n7 F μ (bJ blks) w r blks' x w':=by
 obtain ⟨μ',a,b,c⟩:=h
 exact ⟨μ',a, @Chg.trans _ _ _ F _ _ _ _ _ _ (R8 blks) b,c⟩
theorem n7.czR {F:Frame} {μ:Mu} {h:b8} {w:World} {r:V} {blks':List Blk} {x:Value} {w':World} (p:n7 F μ h w r blks' x w'):n7 F μ h w r.czR blks' x w':=by
 obtain ⟨μ',a,b,c,d,e⟩:=p
 exact ⟨μ',a,b, @aY.czR F _ _ _ _ _ c,c02 d,e⟩
theorem n7.czB {F:Frame} {μ:Mu} {h:b8} {w:World} {r:V} {blks':List Blk} {x:Value} {w':World} (p:n7 F μ h w r blks' x w'):n7 F μ h w r (blks'.map Blk.cz) x w':=by
 obtain ⟨μ',b,c,d,e,f⟩:=p
 exact ⟨μ',a7H b, @Chg.trans _ _ _ F _ _ _ _ _ _ c (R8 blks'),d.chg (R8 blks'),e,fun k i=>by
  obtain ⟨j,a,rfl⟩:=bq.1 i
  exact c2J (f j a)⟩
section
variable {F:Frame} {P:Program} {C:ce} {μ:Mu} {h:b8} {w:World}
theorem ZO (p:lH P C) {owns:FuncId->List Nat} {new:Nat} {f:FuncId} {args:List V} {v:V} {u:Upd} {xs:Array Value} (H: @bB F μ h w) (y:xs.size=args.length)
 (s: ∀(i:Nat) (v:V),args[i]? =some v-> @aY F μ h w v (xs.getD i undef)) (d:nV C owns h new f args=some (v,u)):
 Reach P f xs w (fun x w'=> ∃μ', @bB F μ' (g9 h u) w'/\ @Chg F μ h w μ' (g9 h u) w'/\ @aY F μ' (g9 h u) w' v x):=by
 unfold nV at d
 split at d
 ·cases d
 ·rename_i args' blks ids bor k
  split at d
  ·cases d
  ·rename_i r blks' hc
   obtain ⟨W,m,e⟩:=b3o k
   have a: ∀(i:Nat) (v':V),args'[i]? =some v'-> @aY (oq F μ ids bor) (o9 μ ids) (bJ blks) w v' (xs.getD i undef):=fun i v' hi=>by
    obtain ⟨q,h0⟩:=eu (l:=args) (i:=i) (by rw [<-m];exact dw hi)
    exact Yg W H (e i q v' h0 hi) (s i q h0)
   have key:Reach P f xs w (n7 (oq F μ ids bor) (o9 μ ids) (bJ blks) w r blks'):=by
    unfold ul tY at hc
    cases b:(owns f).contains 1000 with
    |true=>
     rw [b] at hc
     exact p f args' blks r blks' hc (oq F μ ids bor) (o9 μ ids) w xs (Yd W H) (by omega) a
    |false=>
     rw [b] at hc
     simp only [bx,if_false] at hc
     refine (p f _ _ r blks' hc (oq F μ ids bor) (o9 μ ids) w xs (a7H (Yd W H)) (by simp;omega) (fun i v hi=> ?_)).mono (fun x w' k=>k.base)
     rw [aW] at hi
     cases j:args'[i]? with
     |none=>rw [j] at hi;cases hi
     |some u=>rw [j] at hi;cases hi;exact @aY.czA (oq F μ ids bor) _ _ _ _ _ (@aY.chg (oq F μ ids bor) _ _ _ _ _ _ (R8 blks) _ _ (a i u j))
   refine key.mono (fun x w' c=> ?_)
   ·obtain ⟨μ1,H1,C1,V1,t,n⟩:=c
    obtain ⟨z,o,j, -, -⟩:=a7C d
    rw [j]
    exact b0e W H o H1 C1 V1 t n
end
section
variable {P:Program} {C:ce} {μ:Mu} {h:b8} {w:World} {f:Nat->V} {a:Act}
theorem a0u [Frame] (E:gg μ h w f a): ∀{l:List Operand} {l':List Opd},l9 l=some l'->l'.length=l.length/\ ∀(i:Nat) (v:V),(l'.map (Opd.ev f))[i]? =some v->aY μ h w v ((l.map a.eval).getD i undef)
 |[],l',hl=>by
  simp [l9] at hl;subst hl
  exact ⟨rfl,fun i v hi=>by simp at hi⟩
 |x::r,l',hl=>by
  simp only [l9] at hl
  split at hl
  ·rename_i y r' h1 h2
   cases hl
   obtain ⟨i1,i2⟩:=a0u E h2
   refine ⟨by simp [i1],fun i v hi=> ?_⟩
   cases i with
   |zero=>simp at hi;subst hi;exact bM E h1
   |succ i=>exact i2 i v (by simpa using hi)
  ·cases hl
theorem b6o {o:Oper} {g:FuncId} {xs:Array Value} {next:Act->World->Prop} {Q:Exit->Act->World->Prop} (b:(execOp a.eval o).run P w=(callFunc g xs).run P w)
 (i:Reach P g xs w (fun x w'=>next (a.put o.dst x) w')):o.wp P a w next Q:=by
 unfold Oper.wp
 rw [b]
 rcases i with ⟨x,w',d,f⟩|⟨d,f⟩
 ·rw [d];exact f
 ·rw [d,Oper.upon_enter]
  refine f.mono (fun e w' h=> ?_)
  cases e with
  |returned v=>exact h
  |panicked c=>exact h.elim
  |outgrown=>exact h.elim
theorem PZ [Frame] (hC:lH P C) (H:bB μ h w) (E:gg μ h w f a) {ow:FuncId->List Nat} {o:Oper} {ao:AOp} (hc:dY P o.op=some ao) {new:Nat} {v:V} {u:Upd}
 (d:aM C ow ao (Opd.ev f) h new=some (v,u)) {next:Act->World->Prop} {Q:Exit->Act->World->Prop}
 (K: ∀x w' μ',bB μ' (g9 h u) w'->Chg μ h w μ' (g9 h u) w'->aY μ' (g9 h u) w' v x->next (a.put o.dst x) w'):o.wp P a w next Q:=by
 cases hn:mP ao with
 |false=>
  obtain ⟨x,w',μ',l,H',C',V'⟩:=b1K H E hc hn d
  unfold Oper.wp
  rcases l with l|⟨l,rfl⟩
  ·rw [l,Oper.upon_value];exact K x w' μ' H' C' V'
  ·rw [l,Oper.upon_skip];exact K undef w' μ' H' C' V'
 |true=>
  generalize m:o.op=op at hc
  cases op with
  |call c=>
   have key: ∀(g:FuncId) (args:List Opd) (caps:List V) (xs:Array Value),l9 c.args.toList=some args->(execOp a.eval o).run P w=(callFunc g (c.args.map a.eval++xs)).run P w->xs.size=caps.length->
    (∀(i:Nat) (v:V),caps[i]? =some v->aY μ h w v (xs.getD i undef))->nV C ow h new g (args.map (Opd.ev f)++caps)=some (v,u)->o.wp P a w next Q:=by
    intro g args caps xs b n t e j
    obtain ⟨s,i2⟩:=a0u E b
    refine b6o n ((ZO hC H (by simp [s,t]) (fun i v hi=> ?_) j).mono (fun x w' ⟨μ',H',C',V'⟩=>K x w' μ' H' C' V'))
    rcases cx i args.length with p|q
    ·rw [bG (by simpa using p)] at hi
     have:=i2 i v hi
     rw [bo] at this
     rw [Array.getD_eq_getD_getElem?,ff (by simpa [s] using p), <-Array.getElem?_toList]
     simpa using this
    ·rw [bQ (by simpa using q)] at hi
     rw [Array.getD_eq_getD_getElem?,Array.getElem?_append_right (by simpa [s] using q), <-Array.getD_eq_getD_getElem?]
     simp only [aO,Array.size_map] at hi ⊢
     have:=e _ v hi
     rw [s,Array.length_toList] at this
     exact this
   have hcc:=hc
   simp only [dY] at hc
   split at hc
   ·rename_i g args k b
    cases hc
    simp only [aM] at d
    refine key g args [] #[] b ?_ rfl (fun i v hi=>by simp at hi) (by simpa using d)
    simp [execOp,m,resolve,k,Deferred.ofValue,invoke,Act.eval]
   ·rename_i fv args hnf k b
    split at hc
    ·rename_i fo y
     cases hc
     have r:=bM E y
     simp only [aM] at d
     split at d
     ·rename_i g caps z
      rw [z] at r
      obtain ⟨xs,hx,hxl,hxv⟩:=b42 r
      refine key g args caps xs b ?_ hxl hxv d
      simp [execOp,m,resolve,k,hx,Deferred.ofValue,invoke]
     ·cases d
    ·cases hc
   ·exfalso
    repeat' (first|contradiction| (cases hc;simp [mP] at hn;done)| (split at hc))
   ·exfalso
    repeat' (first|contradiction| (cases hc;simp [mP] at hn;done)| (split at hc))
   ·exfalso
    repeat' (first|contradiction| (cases hc;simp [mP] at hn;done)| (split at hc))
   ·cases hc;simp [mP] at hn
   ·cases hc;simp [mP] at hn
   ·cases hc
  |_=>
   exfalso
   simp only [dY] at hc
   repeat' (first|contradiction| (obtain ⟨_,_,rfl⟩:=rQ hc;simp [mP] at hn;done)| (cases hc;simp [mP] at hn;done)| (split at hc))
end
end
section
theorem xR {α:Type} (b:Nat) (k:α): ∀(m:List (Nat×α)) (b':Nat),dP (j7 b k m) b'=if b'=b then some k else dP m b'
 |[],b'=>by
  simp only [j7,dP]
  by_cases e:b=b'
  ·simp [e]
  ·rw [aa e,aa (Ne.symm e)]
 | (j,u)::r,b'=>by
   simp only [j7]
   by_cases e:j=b
   ·rw [ae e]
    simp only [dP]
    by_cases e2:j=b'
    ·rw [ae e2,ae (by omega)]
    ·rw [aa e2,aa e2,aa (by omega)]
   ·rw [aa e]
    simp only [dP]
    by_cases e2:j=b'
    ·rw [ae e2,ae e2,aa (by omega)]
    ·rw [aa e2,aa e2,xR b k r b']
theorem VM: ∀(u:Upd) (m:List (Nat×Blk)),dP (a0j m u)=g9 (dP m) u
 |[],m=>rfl
 | (b,k)::r,m=>by
   show dP (a0j (j7 b k m) r)=g9 (bT (dP m) b k) r
   rw [VM r (j7 b k m)]
   congr 1
   funext b'
   rw [xR]
   rfl
theorem St.upd_heap (s:St) (u:Upd):(s.upd u).heap=g9 s.heap u:=VM u s.m
theorem St.upd_get (s:St) (u:Upd):(s.upd u).get=s.get:=rfl
theorem St.put_heap (s:St) (d:Option Nat) (v:V):(s.put d v).heap=s.heap:=by cases d<;>rfl
theorem St.put_get (s:St) (d:Option Nat) (v:V) (t:Nat):(s.put d v).get t=if d=some t then v else s.get t:=by
 cases d with
 |none=>rfl
 |some d=>
  show (dP ((d,v)::s.e) t).getD .undef=_
  simp only [dP]
  by_cases e:d=t
  ·simp [e]
  ·rw [aa e,aa (by simpa using e)];rfl
theorem b5M (live:List Nat) (s:St) (t:Nat):(trim live s).get t=if t∈live then s.get t else .undef:=by
 show (dP (live.map fun t=>(t,s.get t)) t).getD .undef=_
 have: ∀l:List Nat,dP (l.map fun t=>(t,s.get t)) t=if t∈l then some (s.get t) else none:=by
  intro l
  induction l with
  |nil=>rfl
  |cons x r ih=>
   simp only [aP,dP]
   by_cases e:x=t
   ·rw [ae e,ae (by simp [e]),e]
   ·rw [aa e,ih]
    by_cases a:t∈r
    ·rw [ae a,ae (by simp [a])]
    ·rw [aa a,aa (by simp [a];exact fun h=>e h.symm)]
 rw [this live]
 split<;>rfl
section
structure Inv [Frame] (n:Nat) (f:Nat->V) (h:b8) (μ:Mu) (a:Act) (w:World):Prop where
 H:bB μ h w
 E:gg μ h w f a
 sz:n<=a.tmps.size
 df:a.defers=[]
structure lk [Frame] (μ0:Mu) (h0:b8) (w0:World) (μ:Mu) (h:b8) (w:World):Prop where
 C:Chg μ0 h0 w0 μ h w
 lo: ∀b k,h0 b=some k->b<1000
theorem Cd {a:Act} {d:Option Nat} {x:Value} {t:Nat} (h: ∀e,d=some e->e<a.tmps.size):(a.put d x).tmps.getD t undef=if d=some t then x else a.tmps.getD t undef:=by
 cases d with
 |none=>rfl
 |some e=>
  have:=h e rfl
  show (a.tmps.setIfInBounds e x).getD t undef=_
  rw [Array.getD_eq_getD_getElem?,cw]
  by_cases b:e=t
  ·subst b;simp [this]
  ·rw [aa b,aa (by simpa using b),Array.getD_eq_getD_getElem?]
variable {P:Program} {μ:Mu} {w:World} {a:Act}
theorem gg.put [Frame] {h:b8} {f:Nat->V} (E:gg μ h w f a) {d:Option Nat} {v:V} {x:Value} (b: ∀e,d=some e->e<a.tmps.size) (c:aY μ h w v x):gg μ h w (fun t=>if d=some t then v else f t) (a.put d x):=by
 intro t
 rw [Cd b]
 show aY μ h w (if d=some t then v else f t) _
 split
 ·exact c
 ·exact E t
theorem Act.put_size (a:Act) (d:Option Nat) (x:Value):(a.put d x).tmps.size=a.tmps.size:=by
 cases d with
 |none=>rfl
 |some d=>show (a.tmps.setIfInBounds d x).size=_;simp
theorem Act.put_def (a:Act) (d:Option Nat) (x:Value):(a.put d x).defers=a.defers:=by cases d<;>rfl
structure c5q (P:Program) (n:Nat) (ops:Array Oper) (o:Oper) (s:cn):Prop where
 op:dY P o.op=some s.op
 dst:s.dst=o.dst
 lt: ∀d,o.dst=some d->d<n
 gd:match o.guard with
  |none=>s.guard=none
  |some (j,b)=> ∃t,(ops[j]?).bind (·.dst)=some t/\s.guard=some (t,b)
theorem Ij {n:Nat} {ops:Array Oper} {o:Oper} {s:cn} (h:Kj P n ops o=some s):c5q P n ops o s:=by
 unfold Kj at h
 split at h
 ·cases h
 ·rename_i op a
  by_cases e:b5y n o.dst=true
  ·rw [ae e] at h
   have c: ∀d,o.dst=some d->d<n:=fun d i=>by rw [i] at e;simpa [b5y] using e
   cases f:o.guard with
   |none=>
    rw [f] at h
    simp only [Option.some.injEq] at h
    subst h
    exact ⟨a,rfl,c,by rw [f]⟩
   |some p=>
    obtain ⟨j,b⟩:=p
    rw [f] at h
    dsimp only at h
    cases k:(ops[j]?).bind (·.dst) with
    |none=>rw [k] at h;cases h
    |some t=>
     rw [k] at h
     simp only [Option.some.injEq] at h
     subst h
     exact ⟨a,rfl,c,by rw [f];exact ⟨t,k,rfl⟩⟩
  ·rw [aa e] at h;cases h
theorem M2 [Frame] {n:Nat} {ops:Array Oper} {o:Oper} {s:cn} (C:c5q P n ops o s) {st:St} {h:b8} (E:gg μ h w st.get a) {b:Bool} (d:st.want s.guard=some b):
 Region.wanted o (yielded ops a.tmps)=b:=by
 have f:=C.gd
 unfold Region.wanted
 cases i:o.guard with
 |none=>
  rw [i] at f
  simp only at f
  rw [f] at d
  simp [St.want] at d
  simp [d]
 |some p=>
  obtain ⟨j,bb⟩:=p
  rw [i] at f
  obtain ⟨t,m,l⟩:=f
  rw [l] at d
  have hE:=E t
  simp only [St.want] at d
  simp only [yielded,m,nI]
  split at d
  ·rename_i c hc
   cases d
   rw [hc] at hE
   generalize e:a.tmps.getD t undef=X at hE
   cases hE
   rw [Array.getD_eq_getD_getElem?] at e
   cases k:a.tmps[t]? with
   |none=>rw [k] at e;cases e
   |some y=>
    rw [k] at e;cases e
    rfl
  ·rename_i c hc
   cases d
   rw [hc] at hE
   generalize e:a.tmps.getD t undef=X at hE
   cases hE
   rw [Array.getD_eq_getD_getElem?] at e
   cases k:a.tmps[t]? with
   |none=>rfl
   |some y=>
    rw [k] at e;cases e
    rfl
  ·cases d
theorem Inv.put_skip [Frame] {n:Nat} {f:Nat->V} {h:b8} (I:Inv n f h μ a w) {d:Option Nat} (b: ∀e,d=some e->e<n) {x:Value} {v:V} (c:aY μ h w v x):Inv n (fun t=>if d=some t then v else f t) h μ (a.put d x) w:=
 ⟨I.H,I.E.put (fun e i=>bP (b e i) I.sz) c,by rw [Act.put_size];exact I.sz,by rw [Act.put_def];exact I.df⟩
theorem FW [Frame] {C:ce} (z:lH P C) {ow:ec} {n:Nat} {ops:Array Oper} {Q:Exit->Act->World->Prop} {μ0:Mu} {h0:b8} {w0:World}: ∀(l:List Oper) (steps:List cn) (i k:Nat) (st st':St) (μ:Mu) (a:Act) (w:World),
 (∀j,j<l.length->ops[i+j]? =l[j]?)->k9 P n ops l=some steps->jE C ow steps k st=some st'->Inv n st.get st.heap μ a w->lk μ0 h0 w0 μ st.heap w->
 (∀μ' a' w',Inv n st'.get st'.heap μ' a' w'->lk μ0 h0 w0 μ' st'.heap w'->Q .normal a' w')->wpOps P ops Q (List.range' i l.length) a w
 |[],steps,i,k,st,st',μ,a,w,m,hc,h,I,S,K=>by
  simp [k9] at hc;subst hc
  simp [jE] at h;subst h
  exact K μ a w I S
 |o::l,steps,i,k,st,st',μ,a,w,m,hc,h,I,S,K=>by
  simp only [k9] at hc
  split at hc
  ·rename_i s r h1 h2
   cases hc
   simp only [jE] at h
   split at h
   ·rename_i st1 c
    have CS:=Ij h1
    have p:ops[i]? =some o:=by have:=m 0 (by simp);simpa using this
    have q: ∀j,j<l.length->ops[i+1+j]? =l[j]? :=fun j hj=>by
     have:=m (j+1) (by simpa using hj)
     rw [show i+1+j=i+(j+1) by omega,this];simp
    simp only [ah,List.range'_succ,wpOps,p]
    have next: ∀μ' a' w',Inv n st1.get st1.heap μ' a' w'->lk μ0 h0 w0 μ' st1.heap w'->wpOps P ops Q (List.range' (i+1) l.length) a' w':=
     fun μ' a' w' I' S'=>FW z l r (i+1) (k+1) st1 st' μ' a' w' q h2 h I' S' K
    unfold Cm at c
    cases f:st.want s.guard with
    |none=>rw [f] at c;cases c
    |some b=>
     rw [f] at c
     rw [M2 CS I.E f]
     cases b with
     |false=>
      simp only [Option.some.injEq] at c
      subst c
      simp only [bx,if_false]
      refine next μ _ w ?_ (by rw [St.put_heap];exact S)
      rw [St.put_heap]
      have:=I.put_skip (d:=o.dst) (x:=undef) (v:= .lit (.tuple #[])) CS.lt (.lit _)
      have e:(st.put s.dst (.lit (.tuple #[]))).get=fun t=>if o.dst=some t then .lit (.tuple #[]) else st.get t:=by
       funext t;rw [St.put_get,CS.dst]
      rw [e];exact this
     |true=>
      simp only at c
      split at c
      ·rename_i v u y
       cases c
       simp only [if_true]
       refine .inl (PZ z I.H I.E CS.op y (fun x w' μ' H' C' V'=> ?_))
       have hh:((st.upd u).put s.dst v).heap=g9 st.heap u:=by rw [St.put_heap,St.upd_heap]
       refine next μ' _ w' ?_ (by rw [hh];exact ⟨S.C.trans C',S.lo⟩)
       rw [hh]
       have E':gg μ' (g9 st.heap u) w' st.get a:=fun t=>(I.E t).chg C'
       have:=(Inv.mk H' E' I.sz I.df).put_skip (d:=o.dst) CS.lt V'
       have e:((st.upd u).put s.dst v).get=fun t=>if o.dst=some t then v else st.get t:=by
        funext t;rw [St.put_get,CS.dst,St.upd_get]
       rw [e];exact this
      ·cases c
   ·cases h
  ·cases hc
theorem Inv.trim [Frame] {n:Nat} {st:St} (I:Inv n st.get st.heap μ a w) (live:List Nat):Inv n (trim live st).get (AI.trim live st).heap μ a w:=by
 refine ⟨I.H,fun t=> ?_,I.sz,I.df⟩
 rw [b5M]
 split
 ·exact I.E t
 ·exact .unk _
theorem Y5 [Frame] {C:ce} (c:lH P C) {ow:ec} {n id base:Nat} {ops:Array Oper} {steps:List cn} {live:List Nat} {Q:Exit->Act->World->Prop} {μ0:Mu} {h0:b8} {w0:World} {st st':St} {e:bR}
 (hc:k9 P n ops ops.toList=some steps) (b:s5 C ow base steps live st=some (e,st')) (I:Inv n st.get st.heap μ a w) (S:lk μ0 h0 w0 μ st.heap w)
 (K: ∀μ' a' w',Inv n st'.get st'.heap μ' a' w'->lk μ0 h0 w0 μ' st'.heap w'->Q .normal a' w'):e= .normal/\(Code.region id ops false).wp P Q a w:=by
 unfold s5 at b
 split at b
 ·rename_i st1 d
  cases b
  refine ⟨rfl,wp_region ?_⟩
  have:=FW (Q:=Q) c ops.toList steps 0 base st st1 μ a w (fun j f=>by simp) hc d I S (fun μ' a' w' I' S'=>K μ' a' w' (I'.trim live) S')
  rwa [Array.length_toList, <-List.range_eq_range'] at this
 ·cases b
end
end
end Go.AI
