/- Part. -/
import Derived.Test.YtdnkignjanfikaaGreatAiOp
set_option linter.unusedVariables false
set_option linter.unusedSimpArgs false
namespace Go.AI
section
def okA:V->Bool
 | .agg cs=>cs.all okC
 |v=>okC v
def okR:V->Bool
 | .tup vs=>vs.all okA
 |v=>okA v
def okD:V->Bool
 | .fn _ cs=>cs.all okC
 |v=>okC v
def okB (k:Blk):Prop:=k.op=true-> ∀row∈k.rows, ∀v∈row,okD v=true
theorem Z2: ∀(ids:List Nat) (L:List Blk) (h:ba),(ids.take L.length).Nodup->L.length<=ids.length->
 (∀(p b:Nat) (k:Blk),ids[p]? =some b->L[p]? =some k->hU h (ra ids L) b=some k)/\ ∀b,b∉ids.take L.length->hU h (ra ids L) b=h b
 |[],L,h,_,c=>by
  have:L=[]:=bN (by simpa using c)
  subst this
  exact ⟨fun p b k a=>by simp at a,fun b _=>rfl⟩
 |i::r,[],h,_,_=>⟨fun p b k _ a=>by simp at a,fun b _=>rfl⟩
 |i::r,k::s,h,hn,c=>by
  simp only [ab,jE,List.nodup_cons] at hn
  obtain ⟨f,a2⟩:=Z2 r s (ci h i k) hn.2 (by simpa using c)
  refine ⟨fun p b k' a d=> ?_,fun b e=> ?_⟩
  ·cases p with
   |zero=>
    simp at a d
    subst a;subst d
    show hU (ci h i k) (ra r s) i=some k
    rw [a2 i hn.1]
    simp [ci]
   |succ p=>exact f p b k' (by simpa using a) (by simpa using d)
  ·simp only [ab,jE,aW,not_or] at e
   show hU (ci h i k) (ra r s) b=h b
   rw [a2 b e.2]
   simp [ci,e.1]
theorem VF: ∀(bs:List Nat) (h:ba),(∀b,b∈bs->hU h (ka bs) b=some kf)/\ ∀b,b∉bs->hU h (ka bs) b=h b
 |[],h=>⟨fun b hb=>by simp at hb,fun b _=>rfl⟩
 |i::r,h=>by
  obtain ⟨a1,a2⟩:=VF r (ci h i kf)
  refine ⟨fun b hb=> ?_,fun b hb=> ?_⟩
  ·by_cases hr:b∈r
   ·exact a1 b hr
   ·have:b=i:=by
     rcases aW.1 hb with e|e
     ·exact e
     ·exact absurd e hr
    subst this
    show hU (ci h b kf) (ka r) b=some kf
    rw [a2 b hr]
    simp [ci]
  ·simp only [aW,not_or] at hb
   show hU (ci h i kf) (ka r) b=h b
   rw [a2 b hb.2]
   simp [ci,hb.1]
def y5 (μ μ1:Mu) (idx kb:List Nat):Mu:=fun b=>if b∈idx then μ1 (n3 b idx) else if b∈kb then none else μ b
theorem a4g {idx:List Nat} (hn:idx.Nodup) {p b:Nat} (a:idx[p]? =some b):n3 b idx=p:=
 (List.getElem?_inj (dS (vK (al a))) hn).1 ((vK (al a)).trans a.symm)
structure Sb (F:Frame) (μ:Mu) (h:ba) (w:World) (ids bor:List Nat) (blks:List Blk) (μ1:Mu) (blks':List Blk) (w':World) (idx kb:List Nat) (ids2:List Nat) (hc:ba):Prop where
 W:Way h ids bor blks
 H: @bG F μ h w
 H1: @bG (sj F μ ids bor) μ1 (bT blks') w'
 C1: @Chg (sj F μ ids bor) (qU μ ids) (bT blks) w μ1 (bT blks') w'
 nd:idx.Nodup
 len:idx.length=blks'.length
 sub: ∀b∈ids,b∈idx
 pre: ∀(p b:Nat),ids[p]? =some b->idx[p]? =some b
 new: ∀b∈idx,b∈ids\/h b=none
 idx2: ∀(p:Nat) (b:Nat),idx[p]? =some b->ids2.getD p 0=b
 kbs: ∀b∈kb,b∈bor
 c1: ∀(p b:Nat) (k:Blk),idx[p]? =some b->blks'[p]? =some k->hc b=some (ms ids2 k)
 c2: ∀b,b∈kb->hc b=some kf
 c3: ∀b,b∉idx->b∉kb->hc b=h b
section
variable {F:Frame} {μ:Mu} {h:ba} {w:World} {ids bor:List Nat} {blks:List Blk} {μ1:Mu} {blks':List Blk} {w':World} {idx kb ids2:List Nat} {hc:ba}
theorem Ai (B:Sb F μ h w ids bor blks μ1 blks' w' idx kb ids2 hc) {p b:Nat} (a:idx[p]? =some b):y5 μ μ1 idx kb b=μ1 p:=by
 unfold y5
 rw [aa (al a),a4g B.nd a]
theorem uD {b c:Nat} (a:y5 μ μ1 idx kb b=some c):(∃p,idx[p]? =some b/\μ1 p=some c)\/(b∉idx/\b∉kb/\μ b=some c):=by
 unfold y5 at a
 split at a
 ·rename_i d;exact .inl ⟨_,vK d,a⟩
 ·rename_i d
  split at a
  ·cases a
  ·rename_i e;exact .inr ⟨d,e,a⟩
theorem Sb.other (B:Sb F μ h w ids bor blks μ1 blks' w' idx kb ids2 hc) {b c:Nat} (l:b∉idx) (d:μ b=some c):
 w'.heap[c]? =w.heap[c]? /\(∀p,μ1 p≠some c)/\(b∈bor\/(sj F μ ids bor).fr c):=by
 have f:= @bG.lt F μ h w B.H b c d
 have i:b∉ids:=fun m=>l (B.sub b m)
 by_cases a:b∈bor
 ·have n: @sX (sj F μ ids bor) (qU μ ids) c:=HG B.W (@bG.frame F μ h w B.H b c d) (fun b' j e=>by
   have:= @bG.inj F μ h w B.H _ _ _ e d
   subst this
   exact j a)
  obtain ⟨o,q⟩:=a3V (NS B.C1) c f n
  exact ⟨o,fun p=>q.1 p,.inl a⟩
 ·have k:(sj F μ ids bor).fr c:= .inr ⟨b,d,i,a⟩
  exact ⟨WE (NS B.C1) c k,fun p e=>Yu B.H1 p c e k,.inr k⟩
theorem R4 (B:Sb F μ h w ids bor blks μ1 blks' w' idx kb ids2 hc) (f: ∀b∈bor,b∈kb) {c:Nat} (a: @sX (sj F μ ids bor) μ1 c): @sX F (y5 μ μ1 idx kb) c:=by
 refine ⟨fun b i=> ?_,fun j=>a.2 (.inl j)⟩
 rcases uD i with ⟨p,_,d⟩|⟨d,k,l⟩
 ·exact a.1 p d
 ·exact a.2 (.inr ⟨b,l,fun e=>d (B.sub b e),fun e=>k (f b e)⟩)
theorem kW (ids:List Nat) (k:Blk):(ms ids k).esz=k.esz:=by unfold ms;split<;>rfl
theorem AC (ids:List Nat) (k:Blk):(ms ids k).op=k.op:=by unfold ms;split<;>rfl
theorem zY (ids:List Nat) (k:Blk):(ms ids k).rows.length=k.rows.length:=by unfold ms;split<;>simp
theorem a1z (ids:List Nat) {v:V} (h:v.cell=true):(unV ids v).cell=true:=by cases v<;>first|exact h|rfl
theorem a31 (ids:List Nat) {v:V} (h:v.cell=true):(qj ids v).cell=true:=by
 cases v with
 |agg cs=>simp [V.cell] at h
 |fn f cs=>rfl
 |_=>exact a1z ids h
theorem a79 (ids:List Nat) {v:V} (h:okC v=true):qj ids v=unV ids v:=by
 cases v with
 |agg cs=>simp [okC] at h
 |fn f cs=>
  cases cs with
  |nil=>rfl
  |cons a b=>simp [okC] at h
 |_=>rfl
theorem Fx {v:V} (b:vB v=true) (a:v.cl=true): ∃x,v= .lit x:=by
 cases v<;>simp [vB,V.cl] at b a ⊢
theorem b0n {F1 F2:Frame} {ν1 ν2:Mu} {b a:ba} {c w2:World} {x y:Value} (d: @b7 F1 ν1 b c (.lit x) y): @b7 F2 ν2 a w2 (.lit x) y:=by
 cases d;exact @b7.lit F2 ν2 a w2 x
theorem Gr (B:Sb F μ h w ids bor blks μ1 blks' w' idx kb ids2 hc) {v:V} {x:Value} (ho:okC v=true) (hk:(∀b∈bor,b∈kb)\/vB v=true) (u: @b7 (sj F μ ids bor) μ1 (bT blks') w' v x):
 @b7 F (y5 μ μ1 idx kb) hc w' (unV ids2 v) x:=by
 have closed:v.cl=true->unV ids2 v=v-> @b7 F (y5 μ μ1 idx kb) hc w' (unV ids2 v) x:=fun z t=>by
  rw [t]
  rcases hk with hk|hf
  ·exact b7.move (F:=sj F μ ids bor) _ (fun c hc hs=>⟨hc,rfl,R4 B hk hs⟩) u z
  ·obtain ⟨y,rfl⟩:=Fx hf z
   cases u with
   |lit=>exact @b7.lit F _ _ _ _
 cases v with
 |lit y=>exact closed rfl rfl
 |imm e r=>exact closed rfl rfl
 |iptr r o=>exact closed rfl rfl
 |fn f cs=>
  cases cs with
  |nil=>exact closed rfl rfl
  |cons a b=>simp [okC] at ho
 |agg cs=>simp [okC] at ho
 |tup cs=>simp [okC] at ho
 |undef=>exact @b7.unk F _ _ _ x
 |ptr p i o n=>
  cases u with
  |ptr _ _ _ _ _ k d hn hx hp hd=>
   obtain ⟨b,j⟩:=fC (l:=idx) (i:=p) (by rw [B.len];exact dS d)
   have t:unV ids2 (.ptr p i o n)= .ptr b i o n:=by show V.ptr _ _ _ _=_;rw [B.idx2 p b j]
   rw [t]
   refine @b7.ptr F _ _ _ b i o n x (ms ids2 k) (B.c1 p b k j d) (by rw [kW,zY];exact hn) hx (fun m q g3=> ?_) (fun g=>by rw [AC];exact hd (by rw [kW] at g;exact g))
   rw [kW] at m ⊢
   rw [zY] at q
   rw [Ai B j]
   exact hp m q g3
 |mp p=>
  cases u with
  |mp _ _ k d hx hmm=>
   obtain ⟨b,j⟩:=fC (l:=idx) (i:=p) (by rw [B.len];exact dS d)
   have t:unV ids2 (.mp p)= .mp b:=by show V.mp _=_;rw [B.idx2 p b j]
   rw [t]
   refine @b7.mp F _ _ _ b x (ms ids2 k) (B.c1 p b k j d) hx (fun m q=> ?_)
   rw [kW] at m
   rw [AC] at q
   rw [Ai B j]
   exact hmm m q
 |sl p s n=>
  cases u with
  |sl _ _ _ _ k d hn hx hp=>
   obtain ⟨b,j⟩:=fC (l:=idx) (i:=p) (by rw [B.len];exact dS d)
   have t:unV ids2 (.sl p s n)= .sl b s n:=by show V.sl _ _ _=_;rw [B.idx2 p b j]
   rw [t]
   refine @b7.sl F _ _ _ b s n x (ms ids2 k) (B.c1 p b k j d) (by rw [kW,zY];exact hn) hx (fun m q=> ?_)
   rw [kW] at m ⊢
   rw [zY] at q
   rw [Ai B j]
   exact hp m q
theorem a6U (B:Sb F μ h w ids bor blks μ1 blks' w' idx kb ids2 hc) {v:V} {x:Value} (e:okD v=true) (j:(∀b∈bor,b∈kb)\/vB v=true) (k: @b7 (sj F μ ids bor) μ1 (bT blks') w' v x):
 @b7 F (y5 μ μ1 idx kb) hc w' (qj ids2 v) x:=by
 have other:okC v=true-> @b7 F (y5 μ μ1 idx kb) hc w' (qj ids2 v) x:=fun a=>by
  rw [a79 _ a];exact Gr B a j k
 cases v with
 |fn f cs=>
  cases k with
  |fn _ _ xs l d=>
   show @b7 F _ _ _ (.fn f (cs.map (unV ids2))) _
   refine @b7.fn F _ _ _ f _ xs (by simp [l]) (fun i v hi=> ?_)
   rw [b6] at hi
   cases c:cs[i]? with
   |none=>rw [c] at hi;cases hi
   |some u=>
    rw [c] at hi;cases hi
    have m:=al c
    refine Gr B (an.1 e u m) (j.imp id (fun a=> ?_)) (d i u c)
    simp [vB] at a
 |_=>exact other e
theorem a5l (B:Sb F μ h w ids bor blks μ1 blks' w' idx kb ids2 hc) {v:V} {x:Value} (j:okA v=true) (k:(∀b∈bor,b∈kb)\/SR v=true) (e: @b7 (sj F μ ids bor) μ1 (bT blks') w' v x):
 @b7 F (y5 μ μ1 idx kb) hc w' (qj ids2 v) x:=by
 cases v with
 |agg cs=>
  cases e with
  |agg _ xs n c l=>
   show @b7 F _ _ _ (.agg (cs.map (unV ids2))) _
   refine @b7.agg F _ _ _ _ xs (by simp [n]) (fun v e=> ?_) (fun i v hi=> ?_)
   ·obtain ⟨u,d,rfl⟩:=bf.1 e;exact a1z _ (c u d)
   ·rw [b6] at hi
    cases d:cs[i]? with
    |none=>rw [d] at hi;cases hi
    |some u=>
     rw [d] at hi;cases hi
     have m:=al d
     exact Gr B (an.1 j u m) (k.imp id (fun o=>an.1 o u m)) (l i u d)
 |fn f cs=>
  cases cs with
  |nil=>exact Gr B (by exact j) (by exact k) e
  |cons a b=>simp [okA,okC] at j
 |_=>exact Gr B (by exact j) (by exact k) e
theorem b61 (B:Sb F μ h w ids bor blks μ1 blks' w' idx kb ids2 hc) {v:V} {x:Value} (d:okR v=true) (e:(∀b∈bor,b∈kb)\/BU v=true) (f: @b7 (sj F μ ids bor) μ1 (bT blks') w' v x):
 @b7 F (y5 μ μ1 idx kb) hc w' (Jl ids2 v) x:=by
 cases v with
 |tup vs=>
  cases f with
  |tup _ xs k c=>
   show @b7 F _ _ _ (.tup (vs.map (qj ids2))) _
   refine @b7.tup F _ _ _ _ xs (by simp [k]) (fun i v hi=> ?_)
   rw [b6] at hi
   cases a:vs[i]? with
   |none=>rw [a] at hi;cases hi
   |some u=>
    rw [a] at hi;cases hi
    have j:=al a
    exact a5l B (an.1 d u j) (e.imp id (fun l=>an.1 l u j)) (c i u a)
 |_=>exact a5l B (by exact d) (by exact e) f
theorem a5I (B:Sb F μ h w ids bor blks μ1 blks' w' idx kb ids2 hc): @Chg F μ h w (y5 μ μ1 idx kb) hc w':=by
 refine @Chg.mk F _ _ _ _ _ _ (@pI.mk F _ _ _ _ (c1K (NS B.C1)) (a1T (NS B.C1)) (b1q (NS B.C1)) (VT (NS B.C1)) (a5N (NS B.C1)) (fun c hc i=> ?_) (fun c s=>WE (NS B.C1) c (.inl s))) (fun b k m=> ?_)
 ·obtain ⟨j,n⟩:=a3V (NS B.C1) c hc (HG B.W i.2 (fun b _=>i.1 b))
  refine ⟨j,fun b o=> ?_,i.2⟩
  rcases uD o with ⟨p,_,t⟩|⟨_,_,u⟩
  ·exact n.1 p t
  ·exact i.1 b u
 ·by_cases l:b∈idx
  ·rcases B.new b l with a|a
   ·obtain ⟨p,v,q⟩:=bp a
    have d:ids[p]? =some b:=by rw [aq v,q]
    have f:=B.pre p b d
    obtain ⟨k',x,j,n,L⟩:=B.W.at_ p b d
    rw [m] at j;cases j
    obtain ⟨r,q1,q2⟩:=b5b B.C1 p x n
    refine ⟨ms ids2 r,B.c1 p b r f q1, ?_⟩
    rw [kW,zY,AC,Ai B f]
    rw [L.esz,L.len,L.op] at q2
    have:qU μ ids p=μ b:=by simp [qU,d]
    rw [this] at q2
    exact q2
   ·rw [m] at a;cases a
  ·by_cases e:b∈kb
   ·exact ⟨kf,B.c2 b e,.inl ⟨rfl,rfl⟩⟩
   ·refine ⟨k,by rw [B.c3 b l e];exact m,.inr (.inr ⟨rfl,fun _=>rfl,rfl,by unfold y5;rw [a7 l,a7 e],fun c o=> ?_⟩)⟩
    unfold bsize
    rw [(B.other l o).1]
theorem b3m {fl:Bool} (B:Sb F μ h w ids bor blks μ1 blks' w' idx kb ids2 hc) (hok: ∀k∈blks',okB k) (hk:(∀b∈bor,b∈kb)\/blks'.all (CN fl)=true): @bG F (y5 μ μ1 idx kb) hc w':=by
 have C:=a5I B
 have idxBlk: ∀p b,idx[p]? =some b-> ∃k,blks'[p]? =some k:=fun p b o=>fC (by rw [<-B.len];exact dS o)
 refine @bG.mk F _ _ _ (fun b b' c f r=> ?_) (fun b c f=> ?_) (fun b k e=> ?_) (fun b k e=> ?_) (fun b c f=> ?_) (fun c hf=>co (@bG.frlt F μ h w B.H c hf) (VT (NS B.C1)))
 ·rcases uD f with ⟨p,o,u⟩|⟨e1,e2,e3⟩<;>rcases uD r with ⟨p',hp',g1'⟩|⟨e1',e2',e3'⟩
  ·have:=c34 B.H1 _ _ _ u g1'
   subst this
   rw [o] at hp';cases hp';rfl
  ·exact absurd u ((B.other e1' e3').2.1 p)
  ·exact absurd g1' ((B.other e1 e3).2.1 p')
  ·exact @bG.inj F μ h w B.H _ _ _ e3 e3'
 ·rcases uD f with ⟨p,o,u⟩|⟨e1,e2,e3⟩
  ·obtain ⟨k,q1,q2⟩:=c3Z B.H1 p c u
   exact ⟨ms ids2 k,B.c1 p b k o q1,by unfold Blk.lies;rw [kW,AC];exact q2⟩
  ·obtain ⟨k,q1,q2⟩:= @bG.dom F μ h w B.H b c e3
   exact ⟨k,by rw [B.c3 b e1 e2];exact q1,q2⟩
 ·by_cases z:b∈idx
  ·have o:=vK z
   obtain ⟨a,l⟩:=idxBlk _ _ o
   have:=B.c1 _ b a o l
   rw [e] at this;cases this
   rcases b5M B.H1 _ a l with ⟨u,g2,g3⟩|⟨g0,c,arr,t,lo,hi,gm,gh,gf,gl,gv⟩|⟨g0,go,c,gm,gb⟩
   ·left
    refine ⟨?_,by rw [AC];exact g2,by rw [Ai B o];exact g3⟩
    unfold ms
    rw [aa g2];exact u
   rotate_left
   ·right;right
    refine ⟨by rw [kW];exact g0,by rw [AC];exact go,c,by rw [Ai B o];exact gm, ?_⟩
    have hu:ms ids2 a={ a with rows:=a.rows.map (·.map (qj ids2)) }:=by unfold ms;rw [a7 (by rw [go];simp)]
    rw [hu]
    show vz w' c (a.rows.map (·.map (qj ids2)))
    rw [gb.map (fun n=>rfl)]
    exact gb
   ·right;left
    refine ⟨by rw [kW];exact g0,c,arr,t,lo,hi,by rw [Ai B o];exact gm,gh,gf,by rw [zY,kW];exact gl,fun i row j v f r=> ?_⟩
    rw [kW]
    cases m:a.op with
    |false=>
     have hu:ms ids2 a=a:=by unfold ms;rw [aa m]
     rw [hu] at f
     have hcl:=(a5Y B.H1 _ a l row (al f)).2 v (al r)|>.2 m
     rcases hk with hk|hk
     ·exact b7.move (F:=sj F μ ids bor) _ (fun c hc hs=>⟨hc,rfl,R4 B hk hs⟩) (gv i row j v f r) hcl
     ·have:=an.1 hk a (al l)
      simp only [CN,aB] at this
      obtain ⟨x,rfl⟩:=Fx (an.1 (an.1 this.2 row (al f)) v (al r)) hcl
      exact b0n (gv i row j _ f r)
    |true=>
     have hu:ms ids2 a={ a with rows:=a.rows.map (·.map (qj ids2)) }:=by unfold ms;rw [a7 (by rw [m];simp)]
     rw [hu] at f
     simp only [b6] at f
     cases y:a.rows[i]? with
     |none=>rw [y] at f;cases f
     |some row1=>
      rw [y] at f;cases f
      rw [b6] at r
      cases hv1:row1[j]? with
      |none=>rw [hv1] at r;cases r
      |some v1=>
       rw [hv1] at r;cases r
       have s:=al y
       have hm2:=al hv1
       have ho:=hok a (al l) m row1 s v1 hm2
       refine a6U B ho (hk.imp id (fun h3=> ?_)) (gv i row1 j v1 y hv1)
       have:=an.1 h3 a (al l)
       simp only [CN,aB] at this
       exact an.1 (an.1 this.2 row1 s) v1 hm2
  ·by_cases q:b∈kb
   ·rw [B.c2 b q] at e;cases e
    exact .inl ⟨rfl,rfl,by unfold y5;rw [a7 z,aa q]⟩
   ·rw [B.c3 b z q] at e
    have hm:y5 μ μ1 idx kb b=μ b:=by unfold y5;rw [a7 z,a7 q]
    rcases @bG.blk F μ h w B.H b k e with ⟨u,g2,g3⟩|⟨g0,c,arr,t,lo,hi,gm,gh,gf,gl,gv⟩|⟨g0,go,c,gm,gb⟩
    ·exact .inl ⟨u,g2,by rw [hm];exact g3⟩
    ·refine .inr (.inl ⟨g0,c,arr,t,lo,hi,by rw [hm];exact gm,by rw [(B.other z gm).1];exact gh,gf,gl,fun i row j v f r=> @b7.chg F _ _ _ _ _ _ C _ _ (gv i row j v f r)⟩)
    ·exact .inr (.inr ⟨g0,go,c,by rw [hm];exact gm,gb.keep (B.other z gm).1⟩)
 ·by_cases z:b∈idx
  ·have o:=vK z
   obtain ⟨a,l⟩:=idxBlk _ _ o
   have:=B.c1 _ b a o l
   rw [e] at this;cases this
   have y:=a5Y B.H1 _ a l
   rw [kW,AC]
   intro row d
   cases m:a.op with
   |false=>
    have hu:ms ids2 a=a:=by unfold ms;rw [aa m]
    rw [hu] at d
    exact ⟨(y row d).1,fun v hv=>⟨((y row d).2 v hv).1,fun _=>((y row d).2 v hv).2 m⟩⟩
   |true=>
    have hu:ms ids2 a={ a with rows:=a.rows.map (·.map (qj ids2)) }:=by unfold ms;rw [a7 (by rw [m];simp)]
    rw [hu] at d
    obtain ⟨row1,s,rfl⟩:=bf.1 d
    refine ⟨by simpa using (y row1 s).1,fun v hv=>⟨?_,fun h3=>by cases h3⟩⟩
    obtain ⟨v1,hm2,rfl⟩:=bf.1 hv
    exact a31 _ ((y row1 s).2 v1 hm2).1
  ·by_cases q:b∈kb
   ·rw [B.c2 b q] at e;cases e
    intro row d;simp [kf] at d
   ·rw [B.c3 b z q] at e
    exact @bG.rows F μ h w B.H b k e
 ·rcases uD f with ⟨p,o,u⟩|⟨e1,e2,e3⟩
  ·exact fun hf=>Yu B.H1 p c u (.inl hf)
  ·exact @bG.frame F μ h w B.H b c e3
theorem a8W {fl:Bool} {new:Nat} {r v:V} {u:Upd} {x:Value} (W:Way h ids bor blks) (H: @bG F μ h w) (hp:A5 fl h new ids bor r blks'=some (v,u))
 (H1: @bG (sj F μ ids bor) μ1 (bT blks') w') (C1: @Chg (sj F μ ids bor) (qU μ ids) (bT blks) w μ1 (bT blks') w')
 (hv: @b7 (sj F μ ids bor) μ1 (bT blks') w' r x) (ho:okR r=true) (hok: ∀k∈blks',okB k):
 ∃μ', @bG F μ' (hU h u) w'/\ @Chg F μ h w μ' (hU h u) w'/\ @b7 F μ' (hU h u) w' v x:=by
 unfold A5 at hp
 split at hp
 ·rename_i z
  cases hp
  generalize o:(if (bor.isEmpty||(BU r&&blks'.all (CN fl)))=true then ([]:List Nat) else bor)=kb
  have q:(if (bor.isEmpty||(BU r&&blks'.all (CN fl)))=true then ([]:Upd) else ka bor)=ka kb:=by
   rw [<-o];split<;>rfl
  rw [q]
  have d:(∀b∈bor,b∈kb)\/(BU r=true/\blks'.all (CN fl)=true):=by
   rw [<-o]
   split
   ·rename_i hc
    simp only [dZ,aB,List.isEmpty_iff] at hc
    rcases hc with hc|hc
    ·left;rw [hc];intro b c;cases c
    ·exact .inr hc
   ·exact .inl fun b c=>c
  have f: ∀b∈kb,b∈bor:=by
   rw [<-o]
   intro b c
   split at c
   ·cases c
   ·exact c
  obtain ⟨hge,hfr⟩:=z
  generalize hns:i8 ids blks' new=ns at hfr ⊢
  have hnl:ns.length+ids.length=blks'.length:=by rw [<-hns];exact Bf hge
  have j: ∀b∈ns,h b=none:=fun b c=>by simpa using an.1 hfr b c
  let idx:=ids++ns
  have hil:idx.length=blks'.length:=by simp only [idx,a8];omega
  have hle:blks'.length<=(ids++ns).length:=by rw [a8];omega
  have l: ∀b∈idx,b∈ids\/h b=none:=by
   intro b c
   rcases aJ.1 c with h2|h2
   ·exact .inl h2
   ·exact .inr (j b h2)
  have hnd:idx.Nodup:=by
   refine lN.2 ⟨W.nd,by rw [<-hns];exact Jx ids blks' new,fun a ha b c e=> ?_⟩
   subst e
   obtain ⟨i,hi,hia⟩:=bp ha
   obtain ⟨k,k0,g1,_⟩:=W.at_ i a (by rw [aq hi,hia])
   rw [j a c] at g1;cases g1
  have hat: ∀(p b:Nat),idx[p]? =some b->(ids++ns)[p]? =some b:=fun p b c=>c
  have m: ∀(p b:Nat),ids[p]? =some b->idx[p]? =some b:=by
   intro p b c
   simp only [idx]
   rw [bc (dS c)]
   exact c
  have htk:(ids++ns).take blks'.length=ids++ns:=aX (by rw [a8];omega)
  let L:=blks'.map (ms (ids++ns))
  have s:L.length=blks'.length:=by simp [L]
  have hz:=Z2 (ids++ns) L h (by rw [s,htk];exact hnd) (by rw [s];exact hle)
  have hd:=VF kb (hU h (ra (ids++ns) L))
  rw [uK]
  have hkn: ∀b∈kb,b∉idx:=by
   intro b c hm
   have n:=f b c
   rcases l b hm with t|h2
   ·exact W.dis b n t
   ·obtain ⟨k,y⟩:=W.has b n
    rw [h2] at y;cases y
  have B:Sb F μ h w ids bor blks μ1 blks' w' idx kb (ids++ns) (hU (hU h (ra (ids++ns) L)) (ka kb)):=by
   refine ⟨W,H,H1,C1,hnd,hil,fun b c=> ?_,m,fun b c=> ?_,fun p b c=> ?_,f,fun p b k c y=> ?_,fun b c=>hd.1 b c,fun b c y=> ?_⟩
   ·obtain ⟨i,hi,hib⟩:=bp c
    exact al (m i b (by rw [aq hi,hib]))
   ·exact l b c
   ·rw [List.getD_eq_getElem?_getD,hat p b c];rfl
   ·rw [hd.2 b (fun t=>hkn b t (al c))]
    exact hz.1 p b _ (hat p b c) (by simp [L,y])
   ·rw [hd.2 b y]
    exact hz.2 b (by rw [s,htk];exact c)
  exact ⟨_,b3m B hok (d.imp id (fun t=>t.2)),a5I B,b61 B ho (d.imp id (fun t=>t.1)) hv⟩
 ·cases hp
end
end
section
def pJ (F:Frame) (μ:Mu) (h:ba) (w:World) (r:V) (blks':List Blk) (x:Value) (w':World):Prop:=
 ∃μ', @bG F μ' (bT blks') w'/\ @Chg F μ h w μ' (bT blks') w'/\ @b7 F μ' (bT blks') w' r x/\okR r=true/\ ∀k∈blks',okB k
def Reach (P:Program) (f:FuncId) (xs:Array Value) (w:World) (R:Value->World->Prop):Prop:=
 (∃x w',(callFunc f xs).run P w= .ok (.value x) w'/\R x w')\/
 ((callFunc f xs).run P w= .ok (.enter f xs) w/\Calls P f xs w (fun| .returned v,w'=>R v w'|_,_=>False))
theorem Reach.mono {P:Program} {f:FuncId} {xs:Array Value} {w:World} {R R':Value->World->Prop} (h:Reach P f xs w R) (c: ∀x w',R x w'->R' x w'):Reach P f xs w R':=by
 rcases h with ⟨x,w',a,b⟩|⟨a,b⟩
 ·exact .inl ⟨x,w',a,c _ _ b⟩
 ·refine .inr ⟨a,b.mono (fun e w' d=> ?_)⟩
  cases e with
  |returned v=>exact c _ _ d
  |_=>exact d
def ny (P:Program) (C:cr):Prop:= ∀(f:FuncId) (args:List V) (blks:List Blk) (r:V) (blks':List Blk),C f args blks=some (r,blks')->
 ∀(F:Frame) (μ:Mu) (w:World) (xs:Array Value), @bG F μ (bT blks) w->xs.size=args.length->(∀(i:Nat) (v:V),args[i]? =some v-> @b7 F μ (bT blks) w v (xs.getD i undef))->
 Reach P f xs w (pJ F μ (bT blks) w r blks')
theorem b7.czA [Frame] {μ:Mu} {h:ba} {w:World} {v:V} {x:Value} (c:b7 μ h w v x):b7 μ h w v.czA x:=by
 cases v with
 |agg cs=>
  cases c with
  |agg _ xs d a hc=>
   refine .agg _ xs (by simp [d]) (fun v c=> ?_) (fun i v hi=> ?_)
   ·obtain ⟨u,b,rfl⟩:=bf.1 c
    exact Mp (a u b)
   ·rw [b6] at hi
    cases b:cs[i]? with
    |none=>rw [b] at hi;cases hi
    |some u=>rw [b] at hi;cases hi;exact (hc i u b).cz
 |_=>exact c.cz
theorem b7.czR [Frame] {μ:Mu} {h:ba} {w:World} {v:V} {x:Value} (b:b7 μ h w v x):b7 μ h w v.czR x:=by
 cases v with
 |tup vs=>
  cases b with
  |tup _ xs c hc=>
   refine .tup _ xs (by simp [c]) (fun i v hi=> ?_)
   rw [b6] at hi
   cases a:vs[i]? with
   |none=>rw [a] at hi;cases hi
   |some u=>rw [a] at hi;cases hi;exact (hc i u a).czA
 |_=>exact b.czA
theorem c1a {v:V} (h:okC v=true):okC v.cz=true:=by
 rcases v.cz_or with a|⟨_,a⟩|⟨e,_,a⟩
 ·rw [a];exact h
 ·rw [a];rfl
 ·rw [a];rfl
theorem a4G {v:V} (h:okA v=true):okA v.czA=true:=by
 cases v with
 |agg cs=>
  simp only [okA,V.czA,List.all_map,an] at h ⊢
  exact fun v b=>c1a (h v b)
 |tup cs=>simp [okA,okC] at h
 |lit v=>
  show okA (V.cz (.lit v))=true
  rcases V.cz_or (.lit v) with a|⟨_,a⟩|⟨e,_,a⟩<;>rw [a]<;>first|exact h|rfl
 |imm e r=>
  show okA (V.cz (.imm e r))=true
  rcases V.cz_or (.imm e r) with a|⟨_,a⟩|⟨e,_,a⟩<;>rw [a]<;>first|exact h|rfl
 |_=>exact h
theorem b66 {v:V} (h:okR v=true):okR v.czR=true:=by
 cases v with
 |tup vs=>
  simp only [okR,V.czR,List.all_map,an] at h ⊢
  exact fun v b=>a4G (h v b)
 |agg cs=>exact a4G (v:= .agg cs) h
 |lit v=>
  show okR (V.cz (.lit v))=true
  rcases V.cz_or (.lit v) with a|⟨_,a⟩|⟨e,_,a⟩<;>rw [a]<;>first|exact h|rfl
 |imm e r=>
  show okR (V.cz (.imm e r))=true
  rcases V.cz_or (.imm e r) with a|⟨_,a⟩|⟨e,_,a⟩<;>rw [a]<;>first|exact h|rfl
 |_=>exact h
theorem MR (k:Blk):k.cz.esz=k.esz:=by unfold Blk.cz;split<;>rfl
theorem a0t (k:Blk):k.cz.op=k.op:=by unfold Blk.cz;split<;>rfl
theorem a9W (k:Blk):k.cz.rows.length=k.rows.length:=by unfold Blk.cz;split<;>simp
theorem c42 {v:V} (h:okD v=true):okD v.cz=true:=by
 rcases V.cz_or v with a|⟨_,a⟩|⟨e,_,a⟩
 ·rw [a];exact h
 ·rw [a];rfl
 ·rw [a];rfl
theorem c1l {k:Blk} (h:okB k):okB k.cz:=by
 intro b row a v d
 rw [a0t] at b
 unfold Blk.cz at a
 rw [aa b] at a
 obtain ⟨e,c,rfl⟩:=bf.1 a
 obtain ⟨u,f,rfl⟩:=bf.1 d
 exact c42 (h b e c u f)
theorem RC (blks:List Blk) (b:Nat):bT (blks.map Blk.cz) b=(bT blks b).map Blk.cz:=by simp [bT]
theorem Qk {F:Frame} {μ:Mu} {w:World} (blks:List Blk): @Chg F μ (bT blks) w μ (bT (blks.map Blk.cz)) w:=
 @Chg.mk F _ _ _ _ _ _ (@pI.refl F _ _) (fun b k a=>⟨k.cz,by rw [RC,a];rfl,.inr (.inr ⟨MR k,fun _=>a0t k,a9W k,rfl,fun _ _=>rfl⟩)⟩)
theorem a5b {F:Frame} {μ:Mu} {w:World} {blks:List Blk} (H: @bG F μ (bT blks) w): @bG F μ (bT (blks.map Blk.cz)) w:=by
 have inv: ∀b k',bT (blks.map Blk.cz) b=some k'-> ∃k,bT blks b=some k/\k'=k.cz:=by
  intro b k' d
  rw [RC] at d
  cases z:bT blks b with
  |none=>rw [z] at d;cases d
  |some k=>rw [z] at d;cases d;exact ⟨k,rfl,rfl⟩
 refine @bG.mk F _ _ _ (c34 H) (fun b c q=> ?_) (fun b k' e=> ?_) (fun b k' e=> ?_) (Yu H) (c0y H)
 ·obtain ⟨k,r,s⟩:=c3Z H b c q
  exact ⟨k.cz,by rw [RC,r];rfl,by unfold Blk.lies;rw [MR,a0t];exact s⟩
 ·obtain ⟨k,d,rfl⟩:=inv b k' e
  rcases b5M H b k d with ⟨g1,g2,g3⟩|⟨x,c,arr,t,lo,hi,gm,gh,gf,gl,gv⟩|⟨x,go,c,gm,gb⟩
  ·exact .inl ⟨by unfold Blk.cz;rw [a7 (by simp [g2])];exact g1,by rw [a0t];exact g2,g3⟩
  rotate_left
  ·refine .inr (.inr ⟨by rw [MR];exact x,by rw [a0t];exact go,c,gm, ?_⟩)
   unfold Blk.cz
   rw [aa go]
   show vz w c (k.rows.map (·.map V.cz))
   rw [gb.map (fun n=>rfl)]
   exact gb
  ·refine .inr (.inl ⟨by rw [MR];exact x,c,arr,t,lo,hi,gm,gh,gf,by rw [MR,a9W];exact gl,fun i row j v hi p=> ?_⟩)
   rw [MR]
   have old: ∃row0 f,k.rows[i]? =some row0/\row0[j]? =some f/\(v=f\/v=f.cz):=by
    unfold Blk.cz at hi
    split at hi
    ·simp only [b6] at hi
     cases hr:k.rows[i]? with
     |none=>rw [hr] at hi;cases hi
     |some row0=>
      rw [hr] at hi;cases hi
      rw [b6] at p
      cases l:row0[j]? with
      |none=>rw [l] at p;cases p
      |some f=>rw [l] at p;cases p;exact ⟨row0,f,rfl,l,.inr rfl⟩
    ·exact ⟨row,v,hi,p,.inl rfl⟩
   obtain ⟨row0,f,q,r,s⟩:=old
   have h4:=(gv i row0 j f q r).chg (Qk blks)
   rcases s with rfl|rfl
   ·exact h4
   ·exact h4.cz
 ·obtain ⟨k,d,rfl⟩:=inv b k' e
  intro row a
  have:=a5Y H b k d
  unfold Blk.cz at a ⊢
  split at a
  ·rename_i m
   rw [aa m]
   obtain ⟨y,o,rfl⟩:=bf.1 a
   refine ⟨by simpa using (this y o).1,fun v hv=> ?_⟩
   obtain ⟨u,hu,rfl⟩:=bf.1 hv
   exact ⟨Mp ((this y o).2 u hu).1,fun h=>a6h (((this y o).2 u hu).2 h)⟩
  ·rename_i m
   rw [a7 m]
   exact this row a
theorem pJ.base {F:Frame} {μ:Mu} {blks:List Blk} {w:World} {r:V} {blks':List Blk} {x:Value} {w':World} (h:pJ F μ (bT (blks.map Blk.cz)) w r blks' x w'):pJ F μ (bT blks) w r blks' x w':=by
 obtain ⟨μ',a,b,c⟩:=h
 exact ⟨μ',a, @Chg.trans _ _ _ F _ _ _ _ _ _ (Qk blks) b,c⟩
theorem pJ.czR {F:Frame} {μ:Mu} {h:ba} {w:World} {r:V} {blks':List Blk} {x:Value} {w':World} (p:pJ F μ h w r blks' x w'):pJ F μ h w r.czR blks' x w':=by
 obtain ⟨μ',a,b,c,d,e⟩:=p
 exact ⟨μ',a,b, @b7.czR F _ _ _ _ _ c,b66 d,e⟩
theorem pJ.czB {F:Frame} {μ:Mu} {h:ba} {w:World} {r:V} {blks':List Blk} {x:Value} {w':World} (p:pJ F μ h w r blks' x w'):pJ F μ h w r (blks'.map Blk.cz) x w':=by
 obtain ⟨μ',b,c,d,e,f⟩:=p
 exact ⟨μ',a5b b, @Chg.trans _ _ _ F _ _ _ _ _ _ c (Qk blks'),d.chg (Qk blks'),e,fun k i=>by
  obtain ⟨j,a,rfl⟩:=bf.1 i
  exact c1l (f j a)⟩
section
variable {F:Frame} {P:Program} {C:cr} {μ:Mu} {h:ba} {w:World}
theorem Xd (p:ny P C) {owns:FuncId->List Nat} {new:Nat} {f:FuncId} {args:List V} {v:V} {u:Upd} {xs:Array Value} (H: @bG F μ h w) (y:xs.size=args.length)
 (s: ∀(i:Nat) (v:V),args[i]? =some v-> @b7 F μ h w v (xs.getD i undef)) (d:qC C owns h new f args=some (v,u)):
 Reach P f xs w (fun x w'=> ∃μ', @bG F μ' (hU h u) w'/\ @Chg F μ h w μ' (hU h u) w'/\ @b7 F μ' (hU h u) w' v x):=by
 unfold qC at d
 split at d
 ·cases d
 ·rename_i args' blks ids bor k
  split at d
  ·cases d
  ·rename_i r blks' hc
   obtain ⟨W,m,e⟩:=b44 k
   have a: ∀(i:Nat) (v':V),args'[i]? =some v'-> @b7 (sj F μ ids bor) (qU μ ids) (bT blks) w v' (xs.getD i undef):=fun i v' hi=>by
    obtain ⟨q,h0⟩:=fC (l:=args) (i:=i) (by rw [<-m];exact dS hi)
    exact VS W H (e i q v' h0 hi) (s i q h0)
   have key:Reach P f xs w (pJ (sj F μ ids bor) (qU μ ids) (bT blks) w r blks'):=by
    unfold xE xf at hc
    cases b:(owns f).contains 1000 with
    |true=>
     rw [b] at hc
     exact p f args' blks r blks' hc (sj F μ ids bor) (qU μ ids) w xs (Y4 W H) om a
    |false=>
     rw [b] at hc
     simp only [bC,if_false] at hc
     refine (p f _ _ r blks' hc (sj F μ ids bor) (qU μ ids) w xs (a5b (Y4 W H)) (by simp;omega) (fun i v hi=> ?_)).mono (fun x w' k=>k.base)
     rw [b6] at hi
     cases j:args'[i]? with
     |none=>rw [j] at hi;cases hi
     |some u=>rw [j] at hi;cases hi;exact @b7.czA (sj F μ ids bor) _ _ _ _ _ (@b7.chg (sj F μ ids bor) _ _ _ _ _ _ (Qk blks) _ _ (a i u j))
   refine key.mono (fun x w' c=> ?_)
   ·obtain ⟨μ1,H1,C1,V1,t,n⟩:=c
    obtain ⟨z,o,j, -, -⟩:=a6k d
    rw [j]
    exact a8W W H o H1 C1 V1 t n
end
section
variable {P:Program} {C:cr} {μ:Mu} {h:ba} {w:World} {f:Nat->V} {a:Act}
theorem ZB [Frame] (E:ic μ h w f a): ∀{l:List Operand} {l':List Opd},nG l=some l'->l'.length=l.length/\ ∀(i:Nat) (v:V),(l'.map (Opd.ev f))[i]? =some v->b7 μ h w v ((l.map a.eval).getD i undef)
 |[],l',hl=>by
  simp [nG] at hl;subst hl
  exact ⟨rfl,fun i v hi=>by simp at hi⟩
 |x::r,l',hl=>by
  simp only [nG] at hl
  split at hl
  ·rename_i y r' h1 h2
   cases hl
   obtain ⟨i1,i2⟩:=ZB E h2
   refine ⟨by simp [i1],fun i v hi=> ?_⟩
   cases i with
   |zero=>simp at hi;subst hi;exact bX E h1
   |succ i=>exact i2 i v (by simpa using hi)
  ·cases hl
theorem b1Y {o:Oper} {g:FuncId} {xs:Array Value} {next:Act->World->Prop} {Q:Exit->Act->World->Prop} (b:(execOp a.eval o).run P w=(callFunc g xs).run P w)
 (i:Reach P g xs w (fun x w'=>next (a.put o.dst x) w')):o.wp P a w next Q:=by
 unfold Oper.wp
 rw [b]
 rcases i with ⟨x,w',d,f⟩|⟨d,f⟩
 ·rw [d];exact f
 ·rw [d,Oper.upon_enter]
  refine f.mono (fun e w' h=> ?_)
  cases e with
  |returned v=>exact h
  |panicked c=>exact h.elim
  |outgrown=>exact h.elim
theorem S9 [Frame] (hC:ny P C) (H:bG μ h w) (E:ic μ h w f a) {ow:FuncId->List Nat} {o:Oper} {ao:AOp} (hc:eW P o.op=some ao) {new:Nat} {v:V} {u:Upd}
 (d:aK C ow ao (Opd.ev f) h new=some (v,u)) {next:Act->World->Prop} {Q:Exit->Act->World->Prop}
 (K: ∀x w' μ',bG μ' (hU h u) w'->Chg μ h w μ' (hU h u) w'->b7 μ' (hU h u) w' v x->next (a.put o.dst x) w'):o.wp P a w next Q:=by
 cases hn:oW ao with
 |false=>
  obtain ⟨x,w',μ',l,H',C',V'⟩:=b3t H E hc hn d
  unfold Oper.wp
  rcases l with l|⟨l,rfl⟩
  ·rw [l,Oper.upon_value];exact K x w' μ' H' C' V'
  ·rw [l,Oper.upon_skip];exact K undef w' μ' H' C' V'
 |true=>
  generalize m:o.op=op at hc
  cases op with
  |call c=>
   have key: ∀(g:FuncId) (args:List Opd) (caps:List V) (xs:Array Value),nG c.args.toList=some args->(execOp a.eval o).run P w=(callFunc g (c.args.map a.eval++xs)).run P w->xs.size=caps.length->
    (∀(i:Nat) (v:V),caps[i]? =some v->b7 μ h w v (xs.getD i undef))->qC C ow h new g (args.map (Opd.ev f)++caps)=some (v,u)->o.wp P a w next Q:=by
    intro g args caps xs b n t e j
    obtain ⟨s,i2⟩:=ZB E b
    refine b1Y n ((Xd hC H (by simp [s,t]) (fun i v hi=> ?_) j).mono (fun x w' ⟨μ',H',C',V'⟩=>K x w' μ' H' C' V'))
    rcases dc i args.length with p|q
    ·rw [bc (by simpa using p)] at hi
     have:=i2 i v hi
     rw [List.getD_eq_getElem?_getD] at this
     rw [Array.getD_eq_getD_getElem?,fU (by simpa [s] using p), <-Array.getElem?_toList]
     simpa using this
    ·rw [bt (by simpa using q)] at hi
     rw [Array.getD_eq_getD_getElem?,Array.getElem?_append_right (by simpa [s] using q), <-Array.getD_eq_getD_getElem?]
     simp only [aw,Array.size_map] at hi ⊢
     have:=e _ v hi
     rw [s,Array.length_toList] at this
     exact this
   have hcc:=hc
   simp only [eW] at hc
   split at hc
   ·rename_i g args k b
    cases hc
    simp only [aK] at d
    refine key g args [] #[] b ?_ rfl (fun i v hi=>by simp at hi) (by simpa using d)
    simp [execOp,m,resolve,k,Deferred.ofValue,invoke,Act.eval]
   ·rename_i fv args hnf k b
    split at hc
    ·rename_i fo y
     cases hc
     have r:=bX E y
     simp only [aK] at d
     split at d
     ·rename_i g caps z
      rw [z] at r
      obtain ⟨xs,hx,hxl,hxv⟩:=b2m r
      refine key g args caps xs b ?_ hxl hxv d
      simp [execOp,m,resolve,k,hx,Deferred.ofValue,invoke]
     ·cases d
    ·cases hc
   ·exfalso
    repeat' (first|contradiction| (cases hc;simp [oW] at hn;done)| (split at hc))
   ·exfalso
    repeat' (first|contradiction| (cases hc;simp [oW] at hn;done)| (split at hc))
   ·exfalso
    repeat' (first|contradiction| (cases hc;simp [oW] at hn;done)| (split at hc))
   ·cases hc;simp [oW] at hn
   ·cases hc;simp [oW] at hn
   ·cases hc
  |_=>
   exfalso
   simp only [eW] at hc
   repeat' (first|contradiction| (obtain ⟨_,_,rfl⟩:=vo hc;simp [oW] at hn;done)| (cases hc;simp [oW] at hn;done)| (split at hc))
end
end
section
theorem zP {α:Type} (b:Nat) (k:α): ∀(m:List (Nat×α)) (b':Nat),eH (lx b k m) b'=if b'=b then some k else eH m b'
 |[],b'=>by
  simp only [lx,eH]
  by_cases e:b=b'
  ·simp [e]
  ·rw [a7 e,a7 (Ne.symm e)]
 | (j,u)::r,b'=>by
   simp only [lx]
   by_cases e:j=b
   ·rw [aa e]
    simp only [eH]
    by_cases e2:j=b'
    ·rw [aa e2,aa om]
    ·rw [a7 e2,a7 e2,a7 om]
   ·rw [a7 e]
    simp only [eH]
    by_cases e2:j=b'
    ·rw [aa e2,aa e2,a7 om]
    ·rw [a7 e2,a7 e2,zP b k r b']
theorem V3: ∀(u:Upd) (m:List (Nat×Blk)),eH (a07 m u)=hU (eH m) u
 |[],m=>rfl
 | (b,k)::r,m=>by
   show eH (a07 (lx b k m) r)=hU (ci (eH m) b k) r
   rw [V3 r (lx b k m)]
   congr 1
   funext b'
   rw [zP]
   rfl
theorem St.upd_heap (s:St) (u:Upd):(s.upd u).heap=hU s.heap u:=V3 u s.m
theorem St.upd_get (s:St) (u:Upd):(s.upd u).get=s.get:=rfl
theorem St.put_heap (s:St) (d:Option Nat) (v:V):(s.put d v).heap=s.heap:=by cases d<;>rfl
theorem St.put_get (s:St) (d:Option Nat) (v:V) (t:Nat):(s.put d v).get t=if d=some t then v else s.get t:=by
 cases d with
 |none=>rfl
 |some d=>
  show (eH ((d,v)::s.e) t).getD .undef=_
  simp only [eH]
  by_cases e:d=t
  ·simp [e]
  ·rw [a7 e,a7 (by simpa using e)];rfl
theorem a9P (live:List Nat) (s:St) (t:Nat):(trim live s).get t=if t∈live then s.get t else .undef:=by
 show (eH (live.map fun t=>(t,s.get t)) t).getD .undef=_
 have: ∀l:List Nat,eH (l.map fun t=>(t,s.get t)) t=if t∈l then some (s.get t) else none:=by
  intro l
  induction l with
  |nil=>rfl
  |cons x r ih=>
   simp only [aM,eH]
   by_cases e:x=t
   ·rw [aa e,aa (by simp [e]),e]
   ·rw [a7 e,ih]
    by_cases a:t∈r
    ·rw [aa a,aa (by simp [a])]
    ·rw [a7 a,a7 (by simp [a];exact fun h=>e h.symm)]
 rw [this live]
 split<;>rfl
section
structure Inv [Frame] (n:Nat) (f:Nat->V) (h:ba) (μ:Mu) (a:Act) (w:World):Prop where
 H:bG μ h w
 E:ic μ h w f a
 sz:n<=a.tmps.size
 df:a.defers=[]
structure nX [Frame] (μ0:Mu) (h0:ba) (w0:World) (μ:Mu) (h:ba) (w:World):Prop where
 C:Chg μ0 h0 w0 μ h w
 lo: ∀b k,h0 b=some k->b<1000
theorem CK {a:Act} {d:Option Nat} {x:Value} {t:Nat} (h: ∀e,d=some e->e<a.tmps.size):(a.put d x).tmps.getD t undef=if d=some t then x else a.tmps.getD t undef:=by
 cases d with
 |none=>rfl
 |some e=>
  have:=h e rfl
  show (a.tmps.setIfInBounds e x).getD t undef=_
  rw [Array.getD_eq_getD_getElem?,cE]
  by_cases b:e=t
  ·subst b;simp [this]
  ·rw [a7 b,a7 (by simpa using b),Array.getD_eq_getD_getElem?]
variable {P:Program} {μ:Mu} {w:World} {a:Act}
theorem ic.put [Frame] {h:ba} {f:Nat->V} (E:ic μ h w f a) {d:Option Nat} {v:V} {x:Value} (b: ∀e,d=some e->e<a.tmps.size) (c:b7 μ h w v x):ic μ h w (fun t=>if d=some t then v else f t) (a.put d x):=by
 intro t
 rw [CK b]
 show b7 μ h w (if d=some t then v else f t) _
 split
 ·exact c
 ·exact E t
theorem Act.put_size (a:Act) (d:Option Nat) (x:Value):(a.put d x).tmps.size=a.tmps.size:=by
 cases d with
 |none=>rfl
 |some d=>show (a.tmps.setIfInBounds d x).size=_;simp
theorem Act.put_def (a:Act) (d:Option Nat) (x:Value):(a.put d x).defers=a.defers:=by cases d<;>rfl
structure c4g (P:Program) (n:Nat) (ops:Array Oper) (o:Oper) (s:cx):Prop where
 op:eW P o.op=some s.op
 dst:s.dst=o.dst
 lt: ∀d,o.dst=some d->d<n
 gd:match o.guard with
  |none=>s.guard=none
  |some (j,b)=> ∃t,(ops[j]?).bind (·.dst)=some t/\s.guard=some (t,b)
theorem ID {n:Nat} {ops:Array Oper} {o:Oper} {s:cx} (h:LP P n ops o=some s):c4g P n ops o s:=by
 unfold LP at h
 split at h
 ·cases h
 ·rename_i op a
  by_cases e:b3k n o.dst=true
  ·rw [aa e] at h
   have c: ∀d,o.dst=some d->d<n:=fun d i=>by rw [i] at e;simpa [b3k] using e
   cases f:o.guard with
   |none=>
    rw [f] at h
    simp only [Option.some.injEq] at h
    subst h
    exact ⟨a,rfl,c,by rw [f]⟩
   |some p=>
    obtain ⟨j,b⟩:=p
    rw [f] at h
    dsimp only at h
    cases k:(ops[j]?).bind (·.dst) with
    |none=>rw [k] at h;cases h
    |some t=>
     rw [k] at h
     simp only [Option.some.injEq] at h
     subst h
     exact ⟨a,rfl,c,by rw [f];exact ⟨t,k,rfl⟩⟩
  ·rw [a7 e] at h;cases h
theorem MZ [Frame] {n:Nat} {ops:Array Oper} {o:Oper} {s:cx} (C:c4g P n ops o s) {st:St} {h:ba} (E:ic μ h w st.get a) {b:Bool} (d:st.want s.guard=some b):
 Region.wanted o (yielded ops a.tmps)=b:=by
 have f:=C.gd
 unfold Region.wanted
 cases i:o.guard with
 |none=>
  rw [i] at f
  simp only at f
  rw [f] at d
  simp [St.want] at d
  simp [d]
 |some p=>
  obtain ⟨j,bb⟩:=p
  rw [i] at f
  obtain ⟨t,m,l⟩:=f
  rw [l] at d
  have hE:=E t
  simp only [St.want] at d
  simp only [yielded,m,qP]
  split at d
  ·rename_i c hc
   cases d
   rw [hc] at hE
   generalize e:a.tmps.getD t undef=X at hE
   cases hE
   rw [Array.getD_eq_getD_getElem?] at e
   cases k:a.tmps[t]? with
   |none=>rw [k] at e;cases e
   |some y=>
    rw [k] at e;cases e
    rfl
  ·rename_i c hc
   cases d
   rw [hc] at hE
   generalize e:a.tmps.getD t undef=X at hE
   cases hE
   rw [Array.getD_eq_getD_getElem?] at e
   cases k:a.tmps[t]? with
   |none=>rfl
   |some y=>
    rw [k] at e;cases e
    rfl
  ·cases d
theorem Inv.put_skip [Frame] {n:Nat} {f:Nat->V} {h:ba} (I:Inv n f h μ a w) {d:Option Nat} (b: ∀e,d=some e->e<n) {x:Value} {v:V} (c:b7 μ h w v x):Inv n (fun t=>if d=some t then v else f t) h μ (a.put d x) w:=
 ⟨I.H,I.E.put (fun e i=>co (b e i) I.sz) c,by rw [Act.put_size];exact I.sz,by rw [Act.put_def];exact I.df⟩
theorem FU [Frame] {C:cr} (z:ny P C) {ow:ff} {n:Nat} {ops:Array Oper} {Q:Exit->Act->World->Prop} {μ0:Mu} {h0:ba} {w0:World}: ∀(l:List Oper) (steps:List cx) (i k:Nat) (st st':St) (μ:Mu) (a:Act) (w:World),
 (∀j,j<l.length->ops[i+j]? =l[j]?)->md P n ops l=some steps->lD C ow steps k st=some st'->Inv n st.get st.heap μ a w->nX μ0 h0 w0 μ st.heap w->
 (∀μ' a' w',Inv n st'.get st'.heap μ' a' w'->nX μ0 h0 w0 μ' st'.heap w'->Q .normal a' w')->wpOps P ops Q (List.range' i l.length) a w
 |[],steps,i,k,st,st',μ,a,w,m,hc,h,I,S,K=>by
  simp [md] at hc;subst hc
  simp [lD] at h;subst h
  exact K μ a w I S
 |o::l,steps,i,k,st,st',μ,a,w,m,hc,h,I,S,K=>by
  simp only [md] at hc
  split at hc
  ·rename_i s r h1 h2
   cases hc
   simp only [lD] at h
   split at h
   ·rename_i st1 c
    have CS:=ID h1
    have p:ops[i]? =some o:=by have:=m 0 sm;simpa using this
    have q: ∀j,j<l.length->ops[i+1+j]? =l[j]? :=fun j hj=>by
     have:=m (j+1) (by simpa using hj)
     rw [show i+1+j=i+(j+1) by omega,this];simp
    simp only [ab,List.range'_succ,wpOps,p]
    have next: ∀μ' a' w',Inv n st1.get st1.heap μ' a' w'->nX μ0 h0 w0 μ' st1.heap w'->wpOps P ops Q (List.range' (i+1) l.length) a' w':=
     fun μ' a' w' I' S'=>FU z l r (i+1) (k+1) st1 st' μ' a' w' q h2 h I' S' K
    unfold Dt at c
    cases f:st.want s.guard with
    |none=>rw [f] at c;cases c
    |some b=>
     rw [f] at c
     rw [MZ CS I.E f]
     cases b with
     |false=>
      simp only [Option.some.injEq] at c
      subst c
      simp only [bC,if_false]
      refine next μ _ w ?_ (by rw [St.put_heap];exact S)
      rw [St.put_heap]
      have:=I.put_skip (d:=o.dst) (x:=undef) (v:= .lit (.tuple #[])) CS.lt (.lit _)
      have e:(st.put s.dst (.lit (.tuple #[]))).get=fun t=>if o.dst=some t then .lit (.tuple #[]) else st.get t:=by
       funext t;rw [St.put_get,CS.dst]
      rw [e];exact this
     |true=>
      simp only at c
      split at c
      ·rename_i v u y
       cases c
       simp only [if_true]
       refine .inl (S9 z I.H I.E CS.op y (fun x w' μ' H' C' V'=> ?_))
       have hh:((st.upd u).put s.dst v).heap=hU st.heap u:=by rw [St.put_heap,St.upd_heap]
       refine next μ' _ w' ?_ (by rw [hh];exact ⟨S.C.trans C',S.lo⟩)
       rw [hh]
       have E':ic μ' (hU st.heap u) w' st.get a:=fun t=>(I.E t).chg C'
       have:=(Inv.mk H' E' I.sz I.df).put_skip (d:=o.dst) CS.lt V'
       have e:((st.upd u).put s.dst v).get=fun t=>if o.dst=some t then v else st.get t:=by
        funext t;rw [St.put_get,CS.dst,St.upd_get]
       rw [e];exact this
      ·cases c
   ·cases h
  ·cases hc
theorem Inv.trim [Frame] {n:Nat} {st:St} (I:Inv n st.get st.heap μ a w) (live:List Nat):Inv n (trim live st).get (AI.trim live st).heap μ a w:=by
 refine ⟨I.H,fun t=> ?_,I.sz,I.df⟩
 rw [a9P]
 split
 ·exact I.E t
 ·exact .unk _
theorem Yf [Frame] {C:cr} (c:ny P C) {ow:ff} {n id base:Nat} {ops:Array Oper} {steps:List cx} {live:List Nat} {Q:Exit->Act->World->Prop} {μ0:Mu} {h0:ba} {w0:World} {st st':St} {e:dd}
 (hc:md P n ops ops.toList=some steps) (b:vI C ow base steps live st=some (e,st')) (I:Inv n st.get st.heap μ a w) (S:nX μ0 h0 w0 μ st.heap w)
 (K: ∀μ' a' w',Inv n st'.get st'.heap μ' a' w'->nX μ0 h0 w0 μ' st'.heap w'->Q .normal a' w'):e= .normal/\(Code.region id ops false).wp P Q a w:=by
 unfold vI at b
 split at b
 ·rename_i st1 d
  cases b
  refine ⟨rfl,wp_region ?_⟩
  have:=FU (Q:=Q) c ops.toList steps 0 base st st1 μ a w (fun j f=>by simp) hc d I S (fun μ' a' w' I' S'=>K μ' a' w' (I'.trim live) S')
  rwa [Array.length_toList, <-List.range_eq_range'] at this
 ·cases b
end
end
end Go.AI
