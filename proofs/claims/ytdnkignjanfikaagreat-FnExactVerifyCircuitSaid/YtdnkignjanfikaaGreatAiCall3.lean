/- Part. -/
import Derived.Test.YtdnkignjanfikaaGreatAiOp
set_option linter.unusedVariables false
set_option linter.unusedSimpArgs false
namespace Go.AI
section
def okA:V->Bool
 | .agg cs=>cs.all okC
 |v=>okC v
def okR:V->Bool
 | .tup vs=>vs.all okA
 |v=>okA v
def okD:V->Bool
 | .fn _ cs=>cs.all okC
 |v=>okC v
def okB (k:Blk):Prop:=k.op=true-> ∀row∈k.rows, ∀v∈row,okD v=true
theorem ZY: ∀(ids:List Nat) (L:List Blk) (h:b8),(ids.take L.length).Nodup->L.length<=ids.length->
 (∀(p b:Nat) (k:Blk),ids[p]? =some b->L[p]? =some k->fW h (nH ids L) b=some k)/\ ∀b,b∉ids.take L.length->fW h (nH ids L) b=h b
 |[],L,h,_,c=>by
  j:L=[]:=bS (by simpa using c)
  subst this
  exact ⟨fun p b k a=>by simp at a,fun b _=>rfl⟩
 |i::r,[],h,_,_=>⟨fun p b k _ a=>by simp at a,fun b _=>rfl⟩
 |i::r,k::s,h,d,c=>by
  simp only [ah,ly,List.nodup_cons] at d
  obtain ⟨l,a2⟩:=ZY r s (bT h i k) d.2 (by simpa using c)
  refine ⟨fun p b k' a e=> ?_,fun b f=> ?_⟩
  ·cases p with
   |zero=>
    simp at a e
    subst a;subst e
    show fW (bT h i k) (nH r s) i=some k
    rw [a2 i d.1]
    simp [bT]
   |succ p=>exact l p b k' (by simpa using a) (by simpa using e)
  ·simp only [ah,ly,b9,not_or] at f
   show fW (bT h i k) (nH r s) b=h b
   rw [a2 b f.2]
   simp [bT,f.1]
theorem Vt: ∀(bs:List Nat) (h:b8),(∀b,b∈bs->fW h (iS bs) b=some my)/\ ∀b,b∉bs->fW h (iS bs) b=h b
 |[],h=>⟨fun b a=>by simp at a,fun b _=>rfl⟩
 |i::r,h=>by
  obtain ⟨f,a2⟩:=Vt r (bT h i my)
  refine ⟨fun b a=> ?_,fun b a=> ?_⟩
  ·by_cases c:b∈r
   ·exact f b c
   ·d:b=i:=by
     rcases b9.1 a with e|e
     ·exact e
     ·exact absurd e c
    subst this
    show fW (bT h b my) (iS r) b=some my
    rw [a2 b c]
    simp [bT]
  ·simp only [b9,not_or] at a
   show fW (bT h i my) (iS r) b=h b
   rw [a2 b a.2]
   simp [bT,a.1]
def vf (μ μ1:Mu) (idx kb:List Nat):Mu:=fun b=>if b∈idx then μ1 (kK b idx) else if b∈kb then none else μ b
theorem a6a {idx:List Nat} (c:idx.Nodup) {p b:Nat} (a:idx[p]? =some b):kK b idx=p:=
 (List.getElem?_inj (dv (s8 (an a))) c).1 ((s8 (an a)).trans a.symm)
structure Sm (F:Frame) (μ:Mu) (h:b8) (w:World) (ids bor:List Nat) (blks:List Blk) (μ1:Mu) (blks':List Blk) (w':World) (idx kb:List Nat) (ids2:List Nat) (hc:b8):Prop where
 W:Way h ids bor blks
 H: @bB F μ h w
 H1: @bB (oD F μ ids bor) μ1 (bJ blks') w'
 C1: @Chg (oD F μ ids bor) (nM μ ids) (bJ blks) w μ1 (bJ blks') w'
 nd:idx.Nodup
 len:idx.length=blks'.length
 sub: ∀b∈ids,b∈idx
 pre: ∀(p b:Nat),ids[p]? =some b->idx[p]? =some b
 new: ∀b∈idx,b∈ids\/h b=none
 idx2: ∀(p:Nat) (b:Nat),idx[p]? =some b->ids2.getD p 0=b
 kbs: ∀b∈kb,b∈bor
 c1: ∀(p b:Nat) (k:Blk),idx[p]? =some b->blks'[p]? =some k->hc b=some (kx ids2 k)
 c2: ∀b,b∈kb->hc b=some my
 c3: ∀b,b∉idx->b∉kb->hc b=h b
section
variable {F:Frame} {μ:Mu} {h:b8} {w:World} {ids bor:List Nat} {blks:List Blk} {μ1:Mu} {blks':List Blk} {w':World} {idx kb ids2:List Nat} {hc:b8}
theorem yq (B:Sm F μ h w ids bor blks μ1 blks' w' idx kb ids2 c) {p b:Nat} (a:idx[p]? =some b):vf μ μ1 idx kb b=μ1 p:=by
 unfold vf
 rw [ae (an a),a6a B.nd a]
theorem rq {b c:Nat} (a:vf μ μ1 idx kb b=some c):(∃p,idx[p]? =some b/\μ1 p=some c)\/(b∉idx/\b∉kb/\μ b=some c):=by
 unfold vf at a
 split at a
 ·rename_i d;exact .inl ⟨_,s8 d,a⟩
 ·rename_i d
  split at a
  ·cases a
  ·rename_i e;exact .inr ⟨d,e,a⟩
theorem Sm.other (B:Sm F μ h w ids bor blks μ1 blks' w' idx kb ids2 s) {b c:Nat} (m:b∉idx) (f:μ b=some c):
 w'.heap[c]? =w.heap[c]? /\(∀p,μ1 p≠some c)/\(b∈bor\/(oD F μ ids bor).fr c):=by
 a i:= @bB.lt F μ h w B.H b c f
 a j:b∉ids:=fun n=>m (B.sub b n)
 by_cases d:b∈bor
 ·a o: @pd (oD F μ ids bor) (nM μ ids) c:=GT B.W (@bB.frame F μ h w B.H b c f) (fun b' k e=>by
    a:= @bB.inj F μ h w B.H _ _ _ e f
    subst this
    exact k d)
  obtain ⟨q,r⟩:=a5H (Mh B.C1) c i o
  exact ⟨q,fun p=>r.1 p,.inl d⟩
 ·a l:(oD F μ ids bor).fr c:= .inr ⟨b,f,j,d⟩
  exact ⟨Xw (Mh B.C1) c l,fun p e=>WL B.H1 p c e l,.inr l⟩
theorem Q2 (B:Sm F μ h w ids bor blks μ1 blks' w' idx kb ids2 m) (f: ∀b∈bor,b∈kb) {c:Nat} (a: @pd (oD F μ ids bor) μ1 c): @pd F (vf μ μ1 idx kb) c:=by
 refine ⟨fun b i=> ?_,fun j=>a.2 (.inl j)⟩
 rcases rq i with ⟨p,_,d⟩|⟨d,k,l⟩
 ·exact a.1 p d
 ·exact a.2 (.inr ⟨b,l,fun e=>d (B.sub b e),fun e=>k (f b e)⟩)
theorem jr (ids:List Nat) (k:Blk):(kx ids k).esz=k.esz:=by unfold kx;split<;>rfl
theorem yO (ids:List Nat) (k:Blk):(kx ids k).op=k.op:=by unfold kx;split<;>rfl
theorem xQ (ids:List Nat) (k:Blk):(kx ids k).rows.length=k.rows.length:=by unfold kx;split<;>simp
theorem a3x (ids:List Nat) {v:V} (h:v.cell=true):(unV ids v).cell=true:=by cases v<;>first|exact h|rfl
theorem a4u (ids:List Nat) {v:V} (h:v.cell=true):(mI ids v).cell=true:=by
 cases v with
 |agg cs=>simp [V.cell] at h
 |fn f cs=>rfl
 |_=>exact a3x ids h
theorem a90 (ids:List Nat) {v:V} (h:okC v=true):mI ids v=unV ids v:=by
 cases v with
 |agg cs=>simp [okC] at h
 |fn f cs=>
  cases cs with
  |nil=>rfl
  |cons a b=>simp [okC] at h
 |_=>rfl
theorem EA {v:V} (b:pN v=true) (a:v.cl=true): ∃x,v= .lit x:=by
 cases v<;>simp [pN,V.cl] at b a ⊢
theorem b4o {F1 F2:Frame} {ν1 ν2:Mu} {c a:b8} {d b:World} {x y:Value} (e: @aY F1 ν1 c d (.lit x) y): @aY F2 ν2 a b (.lit x) y:=by
 cases e;exact @aY.lit F2 ν2 a b x
theorem FD (B:Sm F μ h w ids bor blks μ1 blks' w' idx kb ids2 hc) {v:V} {x:Value} (ho:okC v=true) (hk:(∀b∈bor,b∈kb)\/pN v=true) (z: @aY (oD F μ ids bor) μ1 (bJ blks') w' v x):
 @aY F (vf μ μ1 idx kb) hc w' (unV ids2 v) x:=by
 j closed:v.cl=true->unV ids2 v=v-> @aY F (vf μ μ1 idx kb) hc w' (unV ids2 v) x:=fun hcl u=>by
   rw [u]
   rcases hk with hk|hf
   ·exact aY.move (F:=oD F μ ids bor) _ (fun c hc hs=>⟨hc,rfl,Q2 B hk hs⟩) z hcl
   ·obtain ⟨y,rfl⟩:=EA hf hcl
    cases z with
    |lit=>exact @aY.lit F _ _ _ _
 cases v with
 |lit y=>exact closed rfl rfl
 |imm e r=>exact closed rfl rfl
 |iptr r o=>exact closed rfl rfl
 |fn f cs=>
  cases cs with
  |nil=>exact closed rfl rfl
  |cons a b=>simp [okC] at ho
 |agg cs=>simp [okC] at ho
 |tup cs=>simp [okC] at ho
 |undef=>exact @aY.unk F _ _ _ x
 |ptr p i o n=>
  cases z with
  |ptr _ _ _ _ _ k d hn hx hp hd=>
   obtain ⟨b,m⟩:=ep (l:=idx) (i:=p) (by rw [B.len];exact dv d)
   j u:unV ids2 (.ptr p i o n)= .ptr b i o n:=by show V.ptr _ _ _ _=_;rw [B.idx2 p b m]
   rw [u]
   refine @aY.ptr F _ _ _ b i o n x (kx ids2 k) (B.c1 p b k m d) (by rw [jr,xQ];exact hn) hx (fun q t g3=> ?_) (fun g=>by rw [yO];exact hd (by rw [jr] at g;exact g))
   rw [jr] at q ⊢
   rw [xQ] at t
   rw [yq B m]
   exact hp q t g3
 |mp p=>
  cases z with
  |mp _ _ k d hx hmm=>
   obtain ⟨b,m⟩:=ep (l:=idx) (i:=p) (by rw [B.len];exact dv d)
   j u:unV ids2 (.mp p)= .mp b:=by show V.mp _=_;rw [B.idx2 p b m]
   rw [u]
   refine @aY.mp F _ _ _ b x (kx ids2 k) (B.c1 p b k m d) hx (fun q t=> ?_)
   rw [jr] at q
   rw [yO] at t
   rw [yq B m]
   exact hmm q t
 |sl p s n=>
  cases z with
  |sl _ _ _ _ k d hn hx hp=>
   obtain ⟨b,m⟩:=ep (l:=idx) (i:=p) (by rw [B.len];exact dv d)
   j u:unV ids2 (.sl p s n)= .sl b s n:=by show V.sl _ _ _=_;rw [B.idx2 p b m]
   rw [u]
   refine @aY.sl F _ _ _ b s n x (kx ids2 k) (B.c1 p b k m d) (by rw [jr,xQ];exact hn) hx (fun q t=> ?_)
   rw [jr] at q ⊢
   rw [xQ] at t
   rw [yq B m]
   exact hp q t
theorem a8S (B:Sm F μ h w ids bor blks μ1 blks' w' idx kb ids2 j) {v:V} {x:Value} (k:okD v=true) (l:(∀b∈bor,b∈kb)\/pN v=true) (m: @aY (oD F μ ids bor) μ1 (bJ blks') w' v x):
 @aY F (vf μ μ1 idx kb) j w' (mI ids2 v) x:=by
 a other:okC v=true-> @aY F (vf μ μ1 idx kb) j w' (mI ids2 v) x:=fun c=>by
   rw [a90 _ c];exact FD B c l m
 cases v with
 |fn f cs=>
  cases m with
  |fn _ _ xs n e=>
   show @aY F _ _ _ (.fn f (cs.map (unV ids2))) _
   refine @aY.fn F _ _ _ f _ xs (by simp [n]) (fun i v hi=> ?_)
   rw [aW] at hi
   cases d:cs[i]? with
   |none=>rw [d] at hi;cases hi
   |some u=>
    rw [d] at hi;cases hi
    a o:=an d
    refine FD B (aB.1 k u o) (l.imp id (fun c=> ?_)) (e i u d)
    simp [pN] at c
 |_=>exact other k
theorem a6S (B:Sm F μ h w ids bor blks μ1 blks' w' idx kb ids2 o) {v:V} {x:Value} (j:okA v=true) (k:(∀b∈bor,b∈kb)\/E9 v=true) (e: @aY (oD F μ ids bor) μ1 (bJ blks') w' v x):
 @aY F (vf μ μ1 idx kb) o w' (mI ids2 v) x:=by
 cases v with
 |agg cs=>
  cases e with
  |agg _ xs p c l=>
   show @aY F _ _ _ (.agg (cs.map (unV ids2))) _
   refine @aY.agg F _ _ _ _ xs (by simp [p]) (fun v e=> ?_) (fun i v hi=> ?_)
   ·obtain ⟨u,d,rfl⟩:=bq.1 e;exact a3x _ (c u d)
   ·rw [aW] at hi
    cases d:cs[i]? with
    |none=>rw [d] at hi;cases hi
    |some u=>
     rw [d] at hi;cases hi
     m n:=an d
     exact FD B (aB.1 j u n) (k.imp id (fun q=>aB.1 q u n)) (l i u d)
 |fn f cs=>
  cases cs with
  |nil=>exact FD B (by exact j) (by exact k) e
  |cons a b=>simp [okA,okC] at j
 |_=>exact FD B (by exact j) (by exact k) e
theorem c0A (B:Sm F μ h w ids bor blks μ1 blks' w' idx kb ids2 l) {v:V} {x:Value} (d:okR v=true) (e:(∀b∈bor,b∈kb)\/sT v=true) (f: @aY (oD F μ ids bor) μ1 (bJ blks') w' v x):
 @aY F (vf μ μ1 idx kb) l w' (Bu ids2 v) x:=by
 cases v with
 |tup vs=>
  cases f with
  |tup _ xs m c=>
   show @aY F _ _ _ (.tup (vs.map (mI ids2))) _
   refine @aY.tup F _ _ _ _ xs (by simp [m]) (fun i v hi=> ?_)
   rw [aW] at hi
   cases a:vs[i]? with
   |none=>rw [a] at hi;cases hi
   |some u=>
    rw [a] at hi;cases hi
    j k:=an a
    exact a6S B (aB.1 d u k) (e.imp id (fun n=>aB.1 n u k)) (c i u a)
 |_=>exact a6S B (by exact d) (by exact e) f
theorem a7o (B:Sm F μ h w ids bor blks μ1 blks' w' idx kb ids2 n): @Chg F μ h w (vf μ μ1 idx kb) n w':=by
 refine @Chg.mk F _ _ _ _ _ _ (@n0.mk F _ _ _ _ (c64 (Mh B.C1)) (a5Z (Mh B.C1)) (b6f (Mh B.C1)) (XY (Mh B.C1)) (a7f (Mh B.C1)) (fun c n j=> ?_) (fun c u=>Xw (Mh B.C1) c (.inl u))) (fun b k o=> ?_)
 ·obtain ⟨l,q⟩:=a5H (Mh B.C1) c n (GT B.W j.2 (fun b _=>j.1 b))
  refine ⟨l,fun b r=> ?_,j.2⟩
  rcases rq r with ⟨p,_,v⟩|⟨_,_,x⟩
  ·exact q.1 p v
  ·exact j.1 b x
 ·by_cases m:b∈idx
  ·rcases B.new b m with a|a
   ·obtain ⟨p,y,s⟩:=bp a
    d e:ids[p]? =some b:=by rw [aq y,s]
    d i:=B.pre p b e
    obtain ⟨k',z,l,q,L⟩:=B.W.at_ p b e
    rw [o] at l;cases l
    obtain ⟨t,q1,q2⟩:=b5K B.C1 p z q
    refine ⟨kx ids2 t,B.c1 p b t i q1, ?_⟩
    rw [jr,xQ,yO,yq B i]
    rw [L.esz,L.len,L.op] at q2
    d:nM μ ids p=μ b:=by simp [nM,e]
    rw [this] at q2
    exact q2
   ·rw [o] at a;cases a
  ·by_cases f:b∈kb
   ·exact ⟨my,B.c2 b f,.inl ⟨rfl,rfl⟩⟩
   ·refine ⟨k,by rw [B.c3 b m f];exact o,.inr (.inr ⟨rfl,fun _=>rfl,rfl,by unfold vf;rw [aa m,aa f],fun c r=> ?_⟩)⟩
    unfold bsize
    rw [(B.other m r).1]
theorem b2d {fl:Bool} (B:Sm F μ h w ids bor blks μ1 blks' w' idx kb ids2 hc) (hok: ∀k∈blks',okB k) (hk:(∀b∈bor,b∈kb)\/blks'.all (rm fl)=true): @bB F (vf μ μ1 idx kb) hc w':=by
 a C:=a7o B
 a idxBlk: ∀p b,idx[p]? =some b-> ∃k,blks'[p]? =some k:=fun p b q=>ep (by rw [<-B.len];exact dv q)
 refine @bB.mk F _ _ _ (fun b b' c l s=> ?_) (fun b c l=> ?_) (fun b k f=> ?_) (fun b k f=> ?_) (fun b c l=> ?_) (fun c hf=>bP (@bB.frlt F μ h w B.H c hf) (XY (Mh B.C1)))
 ·rcases rq l with ⟨p,q,y⟩|⟨e1,e2,e3⟩<;>rcases rq s with ⟨p',hp',g1'⟩|⟨e1',e2',e3'⟩
  ·a:=c6f B.H1 _ _ _ y g1'
   subst this
   rw [q] at hp';cases hp';rfl
  ·exact absurd y ((B.other e1' e3').2.1 p)
  ·exact absurd g1' ((B.other e1 e3).2.1 p')
  ·exact @bB.inj F μ h w B.H _ _ _ e3 e3'
 ·rcases rq l with ⟨p,q,y⟩|⟨e1,e2,e3⟩
  ·obtain ⟨k,q1,q2⟩:=c2K B.H1 p c y
   exact ⟨kx ids2 k,B.c1 p b k q q1,by unfold Blk.lies;rw [jr,yO];exact q2⟩
  ·obtain ⟨k,q1,q2⟩:= @bB.dom F μ h w B.H b c e3
   exact ⟨k,by rw [B.c3 b e1 e2];exact q1,q2⟩
 ·by_cases hb:b∈idx
  ·a q:=s8 hb
   obtain ⟨d,m⟩:=idxBlk _ _ q
   a:=B.c1 _ b d q m
   rw [f] at this;cases this
   rcases b99 B.H1 _ d m with ⟨y,g2,g3⟩|⟨g0,c,arr,t,lo,hi,gm,gh,gf,gl,gv⟩|⟨g0,go,c,gm,gb⟩
   ·left
    refine ⟨?_,by rw [yO];exact g2,by rw [yq B q];exact g3⟩
    unfold kx
    rw [ae g2];exact y
   rotate_left
   ·right;right
    refine ⟨by rw [jr];exact g0,by rw [yO];exact go,c,by rw [yq B q];exact gm, ?_⟩
    a hu:kx ids2 d={ d with rows:=d.rows.map (·.map (mI ids2)) }:=by unfold kx;rw [aa (by rw [go];simp)]
    rw [hu]
    show rK w' c (d.rows.map (·.map (mI ids2)))
    rw [gb.map (fun n=>rfl)]
    exact gb
   ·right;left
    refine ⟨by rw [jr];exact g0,c,arr,t,lo,hi,by rw [yq B q];exact gm,gh,gf,by rw [xQ,jr];exact gl,fun i row j v l s=> ?_⟩
    rw [jr]
    cases o:d.op with
    |false=>
     a hu:kx ids2 d=d:=by unfold kx;rw [ae o]
     rw [hu] at l
     a hcl:=(a6G B.H1 _ d m row (an l)).2 v (an s)|>.2 o
     rcases hk with hk|hk
     ·exact aY.move (F:=oD F μ ids bor) _ (fun c hc hs=>⟨hc,rfl,Q2 B hk hs⟩) (gv i row j v l s) hcl
     ·a:=aB.1 hk d (an m)
      simp only [rm,aD] at this
      obtain ⟨x,rfl⟩:=EA (aB.1 (aB.1 this.2 row (an l)) v (an s)) hcl
      exact b4o (gv i row j _ l s)
    |true=>
     a hu:kx ids2 d={ d with rows:=d.rows.map (·.map (mI ids2)) }:=by unfold kx;rw [aa (by rw [o];simp)]
     rw [hu] at l
     simp only [aW] at l
     cases z:d.rows[i]? with
     |none=>rw [z] at l;cases l
     |some row1=>
      rw [z] at l;cases l
      rw [aW] at s
      cases hv1:row1[j]? with
      |none=>rw [hv1] at s;cases s
      |some v1=>
       rw [hv1] at s;cases s
       a u:=an z
       a hm2:=an hv1
       a ho:=hok d (an m) o row1 u v1 hm2
       refine a8S B ho (hk.imp id (fun h3=> ?_)) (gv i row1 j v1 z hv1)
       a:=aB.1 h3 d (an m)
       simp only [rm,aD] at this
       exact aB.1 (aB.1 this.2 row1 u) v1 hm2
  ·by_cases r:b∈kb
   ·rw [B.c2 b r] at f;cases f
    exact .inl ⟨rfl,rfl,by unfold vf;rw [aa hb,ae r]⟩
   ·rw [B.c3 b hb r] at f
    a hm:vf μ μ1 idx kb b=μ b:=by unfold vf;rw [aa hb,aa r]
    rcases @bB.blk F μ h w B.H b k f with ⟨y,g2,g3⟩|⟨g0,c,arr,t,lo,hi,gm,gh,gf,gl,gv⟩|⟨g0,go,c,gm,gb⟩
    ·exact .inl ⟨y,g2,by rw [hm];exact g3⟩
    ·refine .inr (.inl ⟨g0,c,arr,t,lo,hi,by rw [hm];exact gm,by rw [(B.other hb gm).1];exact gh,gf,gl,fun i row j v l s=> @aY.chg F _ _ _ _ _ _ C _ _ (gv i row j v l s)⟩)
    ·exact .inr (.inr ⟨g0,go,c,by rw [hm];exact gm,gb.keep (B.other hb gm).1⟩)
 ·by_cases hb:b∈idx
  ·a q:=s8 hb
   obtain ⟨d,m⟩:=idxBlk _ _ q
   a:=B.c1 _ b d q m
   rw [f] at this;cases this
   a z:=a6G B.H1 _ d m
   rw [jr,yO]
   intro row e
   cases o:d.op with
   |false=>
    a hu:kx ids2 d=d:=by unfold kx;rw [ae o]
    rw [hu] at e
    exact ⟨(z row e).1,fun v hv=>⟨((z row e).2 v hv).1,fun _=>((z row e).2 v hv).2 o⟩⟩
   |true=>
    a hu:kx ids2 d={ d with rows:=d.rows.map (·.map (mI ids2)) }:=by unfold kx;rw [aa (by rw [o];simp)]
    rw [hu] at e
    obtain ⟨row1,u,rfl⟩:=bq.1 e
    refine ⟨by simpa using (z row1 u).1,fun v hv=>⟨?_,fun h3=>by cases h3⟩⟩
    obtain ⟨v1,hm2,rfl⟩:=bq.1 hv
    exact a4u _ ((z row1 u).2 v1 hm2).1
  ·by_cases r:b∈kb
   ·rw [B.c2 b r] at f;cases f
    intro row e;simp [my] at e
   ·rw [B.c3 b hb r] at f
    exact @bB.rows F μ h w B.H b k f
 ·rcases rq l with ⟨p,q,y⟩|⟨e1,e2,e3⟩
  ·exact fun hf=>WL B.H1 p c y (.inl hf)
  ·exact @bB.frame F μ h w B.H b c e3
theorem a9Y {fl:Bool} {new:Nat} {r v:V} {u:Upd} {x:Value} (W:Way h ids bor blks) (H: @bB F μ h w) (hp:yw fl h new ids bor r blks'=some (v,u))
 (H1: @bB (oD F μ ids bor) μ1 (bJ blks') w') (C1: @Chg (oD F μ ids bor) (nM μ ids) (bJ blks) w μ1 (bJ blks') w')
 (hv: @aY (oD F μ ids bor) μ1 (bJ blks') w' r x) (ho:okR r=true) (hok: ∀k∈blks',okB k):
 ∃μ', @bB F μ' (fW h u) w'/\ @Chg F μ h w μ' (fW h u) w'/\ @aY F μ' (fW h u) w' v x:=by
 unfold yw at hp
 split at hp
 ·rename_i hlen
  cases hp
  generalize q:(if (bor.isEmpty||(sT r&&blks'.all (rm fl)))=true then ([]:List Nat) else bor)=kb
  c s:(if (bor.isEmpty||(sT r&&blks'.all (rm fl)))=true then ([]:Upd) else iS bor)=iS kb:=by
    rw [<-q];split<;>rfl
  rw [s]
  c f:(∀b∈bor,b∈kb)\/(sT r=true/\blks'.all (rm fl)=true):=by
    rw [<-q]
    split
    ·rename_i z
     simp only [da,aD,List.isEmpty_iff] at z
     rcases z with z|z
     ·left;rw [z];intro b d;cases d
     ·exact .inr z
    ·exact .inl fun b d=>d
  c j: ∀b∈kb,b∈bor:=by
    rw [<-q]
    intro b d
    split at d
    ·cases d
    ·exact d
  obtain ⟨hge,hfr⟩:=hlen
  generalize hns:gc ids blks' new=ns at hfr ⊢
  c hnl:ns.length+ids.length=blks'.length:=by rw [<-hns];exact zK hge
  c l: ∀b∈ns,h b=none:=fun b d=>by simpa using aB.1 hfr b d
  let idx:=ids++ns
  c hil:idx.length=blks'.length:=by simp only [idx,ab];omega
  c hle:blks'.length<=(ids++ns).length:=by rw [ab];omega
  c m: ∀b∈idx,b∈ids\/h b=none:=by
    intro b d
    rcases aX.1 d with h2|h2
    ·exact .inl h2
    ·exact .inr (l b h2)
  c hnd:idx.Nodup:=by
    refine jP.2 ⟨W.nd,by rw [<-hns];exact Je ids blks' new,fun a ha b d e=> ?_⟩
    subst e
    obtain ⟨i,hi,hia⟩:=bp ha
    obtain ⟨k,k0,g1,_⟩:=W.at_ i a (by rw [aq hi,hia])
    rw [l a d] at g1;cases g1
  c hat: ∀(p b:Nat),idx[p]? =some b->(ids++ns)[p]? =some b:=fun p b d=>d
  c n: ∀(p b:Nat),ids[p]? =some b->idx[p]? =some b:=by
    intro p b d
    simp only [idx]
    rw [bG (dv d)]
    exact d
  c htk:(ids++ns).take blks'.length=ids++ns:=bZ (by rw [ab];omega)
  let L:=blks'.map (kx (ids++ns))
  c t:L.length=blks'.length:=by simp [L]
  c hz:=ZY (ids++ns) L h (by rw [t,htk];exact hnd) (by rw [t];exact hle)
  c hd:=Vt kb (fW h (nH (ids++ns) L))
  rw [qZ]
  c hkn: ∀b∈kb,b∉idx:=by
    intro b d hm
    c o:=j b d
    rcases m b hm with y|h2
    ·exact W.dis b o y
    ·obtain ⟨k,hk⟩:=W.has b o
     rw [h2] at hk;cases hk
  c B:Sm F μ h w ids bor blks μ1 blks' w' idx kb (ids++ns) (fW (fW h (nH (ids++ns) L)) (iS kb)):=by
    refine ⟨W,H,H1,C1,hnd,hil,fun b d=> ?_,n,fun b d=> ?_,fun p b d=> ?_,j,fun p b k d hk=> ?_,fun b d=>hd.1 b d,fun b d hk=> ?_⟩
    ·obtain ⟨i,hi,hib⟩:=bp d
     exact an (n i b (by rw [aq hi,hib]))
    ·exact m b d
    ·rw [bo,hat p b d];rfl
    ·rw [hd.2 b (fun y=>hkn b y (an d))]
     exact hz.1 p b _ (hat p b d) (by simp [L,hk])
    ·rw [hd.2 b hk]
     exact hz.2 b (by rw [t,htk];exact d)
  exact ⟨_,b2d B hok (f.imp id (fun y=>y.2)),a7o B,c0A B ho (f.imp id (fun y=>y.1)) hv⟩
 ·cases hp
end
end
section
def n4 (F:Frame) (μ:Mu) (h:b8) (w:World) (r:V) (blks':List Blk) (x:Value) (w':World):Prop:=
 ∃μ', @bB F μ' (bJ blks') w'/\ @Chg F μ h w μ' (bJ blks') w'/\ @aY F μ' (bJ blks') w' r x/\okR r=true/\ ∀k∈blks',okB k
def Reach (P:Program) (f:FuncId) (xs:Array Value) (w:World) (R:Value->World->Prop):Prop:=
 (∃x w',(callFunc f xs).run P w= .ok (.value x) w'/\R x w')\/
 ((callFunc f xs).run P w= .ok (.enter f xs) w/\Calls P f xs w (fun| .returned v,w'=>R v w'|_,_=>False))
theorem Reach.mono {P:Program} {f:FuncId} {xs:Array Value} {w:World} {R R':Value->World->Prop} (h:Reach P f xs w R) (c: ∀x w',R x w'->R' x w'):Reach P f xs w R':=by
 rcases h with ⟨x,w',a,b⟩|⟨a,b⟩
 ·exact .inl ⟨x,w',a,c _ _ b⟩
 ·refine .inr ⟨a,b.mono (fun e w' d=> ?_)⟩
  cases e with
  |returned v=>exact c _ _ d
  |_=>exact d
def lN (P:Program) (C:ce):Prop:= ∀(f:FuncId) (args:List V) (blks:List Blk) (r:V) (blks':List Blk),C f args blks=some (r,blks')->
 ∀(F:Frame) (μ:Mu) (w:World) (xs:Array Value), @bB F μ (bJ blks) w->xs.size=args.length->(∀(i:Nat) (v:V),args[i]? =some v-> @aY F μ (bJ blks) w v (xs.getD i undef))->
 Reach P f xs w (n4 F μ (bJ blks) w r blks')
theorem aY.czA [Frame] {μ:Mu} {h:b8} {w:World} {v:V} {x:Value} (c:aY μ h w v x):aY μ h w v.czA x:=by
 cases v with
 |agg cs=>
  cases c with
  |agg _ xs d a e=>
   refine .agg _ xs (by simp [d]) (fun v c=> ?_) (fun i v hi=> ?_)
   ·obtain ⟨u,b,rfl⟩:=bq.1 c
    exact LG (a u b)
   ·rw [aW] at hi
    cases b:cs[i]? with
    |none=>rw [b] at hi;cases hi
    |some u=>rw [b] at hi;cases hi;exact (e i u b).cz
 |_=>exact c.cz
theorem aY.czR [Frame] {μ:Mu} {h:b8} {w:World} {v:V} {x:Value} (b:aY μ h w v x):aY μ h w v.czR x:=by
 cases v with
 |tup vs=>
  cases b with
  |tup _ xs c d=>
   refine .tup _ xs (by simp [c]) (fun i v hi=> ?_)
   rw [aW] at hi
   cases a:vs[i]? with
   |none=>rw [a] at hi;cases hi
   |some u=>rw [a] at hi;cases hi;exact (d i u a).czA
 |_=>exact b.czA
theorem c4h {v:V} (h:okC v=true):okC v.cz=true:=by
 rcases v.cz_or with a|⟨_,a⟩|⟨e,_,a⟩
 ·rw [a];exact h
 ·rw [a];rfl
 ·rw [a];rfl
theorem a6Z {v:V} (h:okA v=true):okA v.czA=true:=by
 cases v with
 |agg cs=>
  simp only [okA,V.czA,List.all_map,aB] at h ⊢
  exact fun v b=>c4h (h v b)
 |tup cs=>simp [okA,okC] at h
 |lit v=>
  show okA (V.cz (.lit v))=true
  rcases V.cz_or (.lit v) with a|⟨_,a⟩|⟨e,_,a⟩<;>rw [a]<;>first|exact h|rfl
 |imm e r=>
  show okA (V.cz (.imm e r))=true
  rcases V.cz_or (.imm e r) with a|⟨_,a⟩|⟨e,_,a⟩<;>rw [a]<;>first|exact h|rfl
 |_=>exact h
theorem b7t {v:V} (h:okR v=true):okR v.czR=true:=by
 cases v with
 |tup vs=>
  simp only [okR,V.czR,List.all_map,aB] at h ⊢
  exact fun v b=>a6Z (h v b)
 |agg cs=>exact a6Z (v:= .agg cs) h
 |lit v=>
  show okR (V.cz (.lit v))=true
  rcases V.cz_or (.lit v) with a|⟨_,a⟩|⟨e,_,a⟩<;>rw [a]<;>first|exact h|rfl
 |imm e r=>
  show okR (V.cz (.imm e r))=true
  rcases V.cz_or (.imm e r) with a|⟨_,a⟩|⟨e,_,a⟩<;>rw [a]<;>first|exact h|rfl
 |_=>exact h
theorem MJ (k:Blk):k.cz.esz=k.esz:=by unfold Blk.cz;split<;>rfl
theorem a08 (k:Blk):k.cz.op=k.op:=by unfold Blk.cz;split<;>rfl
theorem b2M (k:Blk):k.cz.rows.length=k.rows.length:=by unfold Blk.cz;split<;>simp
theorem c2O {v:V} (h:okD v=true):okD v.cz=true:=by
 rcases V.cz_or v with a|⟨_,a⟩|⟨e,_,a⟩
 ·rw [a];exact h
 ·rw [a];rfl
 ·rw [a];rfl
theorem c5H {k:Blk} (h:okB k):okB k.cz:=by
 intro b row a v d
 rw [a08] at b
 unfold Blk.cz at a
 rw [ae b] at a
 obtain ⟨e,c,rfl⟩:=bq.1 a
 obtain ⟨u,f,rfl⟩:=bq.1 d
 exact c2O (h b e c u f)
theorem Sc (blks:List Blk) (b:Nat):bJ (blks.map Blk.cz) b=(bJ blks b).map Blk.cz:=by simp [bJ]
theorem T8 {F:Frame} {μ:Mu} {w:World} (blks:List Blk): @Chg F μ (bJ blks) w μ (bJ (blks.map Blk.cz)) w:=
 @Chg.mk F _ _ _ _ _ _ (@n0.refl F _ _) (fun b k a=>⟨k.cz,by rw [Sc,a];rfl,.inr (.inr ⟨MJ k,fun _=>a08 k,b2M k,rfl,fun _ _=>rfl⟩)⟩)
theorem a7E {F:Frame} {μ:Mu} {w:World} {blks:List Blk} (H: @bB F μ (bJ blks) w): @bB F μ (bJ (blks.map Blk.cz)) w:=by
 d inv: ∀b k',bJ (blks.map Blk.cz) b=some k'-> ∃k,bJ blks b=some k/\k'=k.cz:=by
   intro b k' e
   rw [Sc] at e
   cases hb:bJ blks b with
   |none=>rw [hb] at e;cases e
   |some k=>rw [hb] at e;cases e;exact ⟨k,rfl,rfl⟩
 refine @bB.mk F _ _ _ (c6f H) (fun b c r=> ?_) (fun b k' f=> ?_) (fun b k' f=> ?_) (WL H) (c1S H)
 ·obtain ⟨k,s,x⟩:=c2K H b c r
  exact ⟨k.cz,by rw [Sc,s];rfl,by unfold Blk.lies;rw [MJ,a08];exact x⟩
 ·obtain ⟨k,e,rfl⟩:=inv b k' f
  rcases b99 H b k e with ⟨g1,g2,g3⟩|⟨y,c,arr,t,lo,hi,gm,gh,gf,gl,gv⟩|⟨y,go,c,gm,gb⟩
  ·exact .inl ⟨by unfold Blk.cz;rw [aa (by simp [g2])];exact g1,by rw [a08];exact g2,g3⟩
  rotate_left
  ·refine .inr (.inr ⟨by rw [MJ];exact y,by rw [a08];exact go,c,gm, ?_⟩)
   unfold Blk.cz
   rw [ae go]
   show rK w c (k.rows.map (·.map V.cz))
   rw [gb.map (fun n=>rfl)]
   exact gb
  ·refine .inr (.inl ⟨by rw [MJ];exact y,c,arr,t,lo,hi,gm,gh,gf,by rw [MJ,b2M];exact gl,fun i row j v hi q=> ?_⟩)
   rw [MJ]
   d old: ∃row0 l,k.rows[i]? =some row0/\row0[j]? =some l/\(v=l\/v=l.cz):=by
     unfold Blk.cz at hi
     split at hi
     ·simp only [aW] at hi
      cases hr:k.rows[i]? with
      |none=>rw [hr] at hi;cases hi
      |some row0=>
       rw [hr] at hi;cases hi
       rw [aW] at q
       cases m:row0[j]? with
       |none=>rw [m] at q;cases q
       |some l=>rw [m] at q;cases q;exact ⟨row0,l,rfl,m,.inr rfl⟩
     ·exact ⟨row,v,hi,q,.inl rfl⟩
   obtain ⟨row0,l,r,s,x⟩:=old
   d h4:=(gv i row0 j l r s).chg (T8 blks)
   rcases x with rfl|rfl
   ·exact h4
   ·exact h4.cz
 ·obtain ⟨k,e,rfl⟩:=inv b k' f
  intro row a
  d:=a6G H b k e
  unfold Blk.cz at a ⊢
  split at a
  ·rename_i o
   rw [ae o]
   obtain ⟨z,p,rfl⟩:=bq.1 a
   refine ⟨by simpa using (this z p).1,fun v hv=> ?_⟩
   obtain ⟨u,hu,rfl⟩:=bq.1 hv
   exact ⟨LG ((this z p).2 u hu).1,fun h=>a7O (((this z p).2 u hu).2 h)⟩
  ·rename_i o
   rw [aa o]
   exact this row a
theorem n4.base {F:Frame} {μ:Mu} {blks:List Blk} {w:World} {r:V} {blks':List Blk} {x:Value} {w':World} (h:n4 F μ (bJ (blks.map Blk.cz)) w r blks' x w'):n4 F μ (bJ blks) w r blks' x w':=by
 obtain ⟨μ',a,b,c⟩:=h
 exact ⟨μ',a, @Chg.trans _ _ _ F _ _ _ _ _ _ (T8 blks) b,c⟩
theorem n4.czR {F:Frame} {μ:Mu} {h:b8} {w:World} {r:V} {blks':List Blk} {x:Value} {w':World} (p:n4 F μ h w r blks' x w'):n4 F μ h w r.czR blks' x w':=by
 obtain ⟨μ',a,b,c,d,e⟩:=p
 exact ⟨μ',a,b, @aY.czR F _ _ _ _ _ c,b7t d,e⟩
theorem n4.czB {F:Frame} {μ:Mu} {h:b8} {w:World} {r:V} {blks':List Blk} {x:Value} {w':World} (p:n4 F μ h w r blks' x w'):n4 F μ h w r (blks'.map Blk.cz) x w':=by
 obtain ⟨μ',b,c,d,e,f⟩:=p
 exact ⟨μ',a7E b, @Chg.trans _ _ _ F _ _ _ _ _ _ c (T8 blks'),d.chg (T8 blks'),e,fun k i=>by
  obtain ⟨j,a,rfl⟩:=bq.1 i
  exact c5H (f j a)⟩
section
variable {F:Frame} {P:Program} {C:ce} {μ:Mu} {h:b8} {w:World}
theorem Yz (s:lN P C) {owns:FuncId->List Nat} {new:Nat} {f:FuncId} {args:List V} {v:V} {u:Upd} {xs:Array Value} (H: @bB F μ h w) (hl:xs.size=args.length)
 (y: ∀(i:Nat) (v:V),args[i]? =some v-> @aY F μ h w v (xs.getD i undef)) (d:nR C owns h new f args=some (v,u)):
 Reach P f xs w (fun x w'=> ∃μ', @bB F μ' (fW h u) w'/\ @Chg F μ h w μ' (fW h u) w'/\ @aY F μ' (fW h u) w' v x):=by
 unfold nR at d
 split at d
 ·cases d
 ·rename_i args' blks ids bor n
  split at d
  ·cases d
  ·rename_i r blks' e
   obtain ⟨W,o,j⟩:=b6y n
   k a: ∀(i:Nat) (v':V),args'[i]? =some v'-> @aY (oD F μ ids bor) (nM μ ids) (bJ blks) w v' (xs.getD i undef):=fun i v' hi=>by
     obtain ⟨t,h0⟩:=ep (l:=args) (i:=i) (by rw [<-o];exact dv hi)
     exact XI W H (j i t v' h0 hi) (y i t h0)
   k key:Reach P f xs w (n4 (oD F μ ids bor) (nM μ ids) (bJ blks) w r blks'):=by
     unfold u5 uR at e
     cases b:(owns f).contains 1000 with
     |true=>
      rw [b] at e
      exact s f args' blks r blks' e (oD F μ ids bor) (nM μ ids) w xs (ZI W H) (by omega) a
     |false=>
      rw [b] at e
      simp only [bx,if_false] at e
      refine (s f _ _ r blks' e (oD F μ ids bor) (nM μ ids) w xs (a7E (ZI W H)) (by simp;omega) (fun i v hi=> ?_)).mono (fun x w' n=>n.base)
      rw [aW] at hi
      cases m:args'[i]? with
      |none=>rw [m] at hi;cases hi
      |some u=>rw [m] at hi;cases hi;exact @aY.czA (oD F μ ids bor) _ _ _ _ _ (@aY.chg (oD F μ ids bor) _ _ _ _ _ _ (T8 blks) _ _ (a i u m))
   refine key.mono (fun x w' c=> ?_)
   ·obtain ⟨μ1,H1,C1,V1,z,p⟩:=c
    obtain ⟨u0,q,m, -, -⟩:=a6R d
    rw [m]
    exact a9Y W H q H1 C1 V1 z p
end
section
variable {P:Program} {C:ce} {μ:Mu} {h:b8} {w:World} {f:Nat->V} {a:Act}
theorem a1Z [Frame] (E:gi μ h w f a): ∀{l:List Operand} {l':List Opd},ln l=some l'->l'.length=l.length/\ ∀(i:Nat) (v:V),(l'.map (Opd.ev f))[i]? =some v->aY μ h w v ((l.map a.eval).getD i undef)
 |[],l',b=>by
  simp [ln] at b;subst b
  exact ⟨rfl,fun i v hi=>by simp at hi⟩
 |x::r,l',b=>by
  simp only [ln] at b
  split at b
  ·rename_i y r' c d
   cases b
   obtain ⟨e,j⟩:=a1Z E d
   refine ⟨by simp [e],fun i v hi=> ?_⟩
   cases i with
   |zero=>simp at hi;subst hi;exact bM E c
   |succ i=>exact j i v (by simpa using hi)
  ·cases b
theorem b6o {o:Oper} {g:FuncId} {xs:Array Value} {next:Act->World->Prop} {Q:Exit->Act->World->Prop} (b:(execOp a.eval o).run P w=(callFunc g xs).run P w)
 (i:Reach P g xs w (fun x w'=>next (a.put o.dst x) w')):o.wp P a w next Q:=by
 unfold Oper.wp
 rw [b]
 rcases i with ⟨x,w',d,f⟩|⟨d,f⟩
 ·rw [d];exact f
 ·rw [d,Oper.upon_enter]
  refine f.mono (fun e w' h=> ?_)
  cases e with
  |returned v=>exact h
  |panicked c=>exact h.elim
  |outgrown=>exact h.elim
theorem Se [Frame] (hC:lN P C) (H:bB μ h w) (E:gi μ h w f a) {ow:FuncId->List Nat} {o:Oper} {ao:AOp} (d:dX P o.op=some ao) {new:Nat} {v:V} {u:Upd}
 (k:aM C ow ao (Opd.ev f) h new=some (v,u)) {next:Act->World->Prop} {Q:Exit->Act->World->Prop}
 (K: ∀x w' μ',bB μ' (fW h u) w'->Chg μ h w μ' (fW h u) w'->aY μ' (fW h u) w' v x->next (a.put o.dst x) w'):o.wp P a w next Q:=by
 cases j:mH ao with
 |false=>
  obtain ⟨x,w',μ',p,H',C',V'⟩:=b42 H E d j k
  unfold Oper.wp
  rcases p with p|⟨p,rfl⟩
  ·rw [p,Oper.upon_value];exact K x w' μ' H' C' V'
  ·rw [p,Oper.upon_skip];exact K undef w' μ' H' C' V'
 |true=>
  generalize q:o.op=op at d
  cases op with
  |call c=>
   e key: ∀(g:FuncId) (args:List Opd) (caps:List V) (xs:Array Value),ln c.args.toList=some args->(execOp a.eval o).run P w=(callFunc g (c.args.map a.eval++xs)).run P w->xs.size=caps.length->
    (∀(i:Nat) (v:V),caps[i]? =some v->aY μ h w v (xs.getD i undef))->nR C ow h new g (args.map (Opd.ev f)++caps)=some (v,u)->o.wp P a w next Q:=by
     intro g args caps xs b r hxs l m
     obtain ⟨z,i2⟩:=a1Z E b
     refine b6o r ((Yz hC H (by simp [z,hxs]) (fun i v hi=> ?_) m).mono (fun x w' ⟨μ',H',C',V'⟩=>K x w' μ' H' C' V'))
     rcases cA i args.length with s|t
     ·rw [bG (by simpa using s)] at hi
      e:=i2 i v hi
      rw [bo] at this
      rw [Array.getD_eq_getD_getElem?,fc (by simpa [z] using s), <-Array.getElem?_toList]
      simpa using this
     ·rw [bQ (by simpa using t)] at hi
      rw [Array.getD_eq_getD_getElem?,Array.getElem?_append_right (by simpa [z] using t), <-Array.getD_eq_getD_getElem?]
      simp only [aO,Array.size_map] at hi ⊢
      e:=l _ v hi
      rw [z,Array.length_toList] at this
      exact this
   e hcc:=d
   simp only [dX] at d
   split at d
   ·rename_i g args n b
    cases d
    simp only [aM] at k
    refine key g args [] #[] b ?_ rfl (fun i v hi=>by simp at hi) (by simpa using k)
    simp [execOp,q,resolve,n,Deferred.ofValue,invoke,Act.eval]
   ·rename_i fv args hnf n b
    split at d
    ·rename_i fo hfo
     cases d
     e y:=bM E hfo
     simp only [aM] at k
     split at k
     ·rename_i g caps hev
      rw [hev] at y
      obtain ⟨xs,hx,hxl,hxv⟩:=b3S y
      refine key g args caps xs b ?_ hxl hxv k
      simp [execOp,q,resolve,n,hx,Deferred.ofValue,invoke]
     ·cases k
    ·cases d
   ·exfalso
    repeat' (first|contradiction| (cases d;simp [mH] at j;done)| (split at d))
   ·exfalso
    repeat' (first|contradiction| (cases d;simp [mH] at j;done)| (split at d))
   ·exfalso
    repeat' (first|contradiction| (cases d;simp [mH] at j;done)| (split at d))
   ·cases d;simp [mH] at j
   ·cases d;simp [mH] at j
   ·cases d
  |_=>
   exfalso
   simp only [dX] at d
   repeat' (first|contradiction| (obtain ⟨_,_,rfl⟩:=sG d;simp [mH] at j;done)| (cases d;simp [mH] at j;done)| (split at d))
end
end
section
theorem xW {α:Type} (b:Nat) (k:α): ∀(m:List (Nat×α)) (b':Nat),dP (j9 b k m) b'=if b'=b then some k else dP m b'
 |[],b'=>by
  simp only [j9,dP]
  by_cases e:b=b'
  ·simp [e]
  ·rw [aa e,aa (Ne.symm e)]
 | (j,u)::r,b'=>by
   simp only [j9]
   by_cases e:j=b
   ·rw [ae e]
    simp only [dP]
    by_cases e2:j=b'
    ·rw [ae e2,ae (by omega)]
    ·rw [aa e2,aa e2,aa (by omega)]
   ·rw [aa e]
    simp only [dP]
    by_cases e2:j=b'
    ·rw [ae e2,ae e2,aa (by omega)]
    ·rw [aa e2,aa e2,xW b k r b']
theorem W9: ∀(u:Upd) (m:List (Nat×Blk)),dP (a2X m u)=fW (dP m) u
 |[],m=>rfl
 | (b,k)::r,m=>by
   show dP (a2X (j9 b k m) r)=fW (bT (dP m) b k) r
   rw [W9 r (j9 b k m)]
   congr 1
   funext b'
   rw [xW]
   rfl
theorem St.upd_heap (s:St) (u:Upd):(s.upd u).heap=fW s.heap u:=W9 u s.m
theorem St.upd_get (s:St) (u:Upd):(s.upd u).get=s.get:=rfl
theorem St.put_heap (s:St) (d:Option Nat) (v:V):(s.put d v).heap=s.heap:=by cases d<;>rfl
theorem St.put_get (s:St) (d:Option Nat) (v:V) (t:Nat):(s.put d v).get t=if d=some t then v else s.get t:=by
 cases d with
 |none=>rfl
 |some d=>
  show (dP ((d,v)::s.e) t).getD .undef=_
  simp only [dP]
  by_cases e:d=t
  ·simp [e]
  ·rw [aa e,aa (by simpa using e)];rfl
theorem b3c (live:List Nat) (s:St) (t:Nat):(trim live s).get t=if t∈live then s.get t else .undef:=by
 show (dP (live.map fun t=>(t,s.get t)) t).getD .undef=_
 b: ∀l:List Nat,dP (l.map fun t=>(t,s.get t)) t=if t∈l then some (s.get t) else none:=by
  intro l
  induction l with
  |nil=>rfl
  |cons x r ih=>
   simp only [aP,dP]
   by_cases e:x=t
   ·rw [ae e,ae (by simp [e]),e]
   ·rw [aa e,ih]
    by_cases a:t∈r
    ·rw [ae a,ae (by simp [a])]
    ·rw [aa a,aa (by simp [a];exact fun h=>e h.symm)]
 rw [this live]
 split<;>rfl
section
structure Inv [Frame] (n:Nat) (f:Nat->V) (h:b8) (μ:Mu) (a:Act) (w:World):Prop where
 H:bB μ h w
 E:gi μ h w f a
 sz:n<=a.tmps.size
 df:a.defers=[]
structure l8 [Frame] (μ0:Mu) (h0:b8) (w0:World) (μ:Mu) (h:b8) (w:World):Prop where
 C:Chg μ0 h0 w0 μ h w
 lo: ∀b k,h0 b=some k->b<1000
theorem BB {a:Act} {d:Option Nat} {x:Value} {t:Nat} (h: ∀e,d=some e->e<a.tmps.size):(a.put d x).tmps.getD t undef=if d=some t then x else a.tmps.getD t undef:=by
 cases d with
 |none=>rfl
 |some e=>
  c:=h e rfl
  show (a.tmps.setIfInBounds e x).getD t undef=_
  rw [Array.getD_eq_getD_getElem?,cu]
  by_cases b:e=t
  ·subst b;simp [this]
  ·rw [aa b,aa (by simpa using b),Array.getD_eq_getD_getElem?]
variable {P:Program} {μ:Mu} {w:World} {a:Act}
theorem gi.put [Frame] {h:b8} {f:Nat->V} (E:gi μ h w f a) {d:Option Nat} {v:V} {x:Value} (b: ∀e,d=some e->e<a.tmps.size) (c:aY μ h w v x):gi μ h w (fun t=>if d=some t then v else f t) (a.put d x):=by
 intro t
 rw [BB b]
 show aY μ h w (if d=some t then v else f t) _
 split
 ·exact c
 ·exact E t
theorem Act.put_size (a:Act) (d:Option Nat) (x:Value):(a.put d x).tmps.size=a.tmps.size:=by
 cases d with
 |none=>rfl
 |some d=>show (a.tmps.setIfInBounds d x).size=_;simp
theorem Act.put_def (a:Act) (d:Option Nat) (x:Value):(a.put d x).defers=a.defers:=by cases d<;>rfl
structure c3b (P:Program) (n:Nat) (ops:Array Oper) (o:Oper) (s:cn):Prop where
 op:dX P o.op=some s.op
 dst:s.dst=o.dst
 lt: ∀d,o.dst=some d->d<n
 gd:match o.guard with
  |none=>s.guard=none
  |some (j,b)=> ∃t,(ops[j]?).bind (·.dst)=some t/\s.guard=some (t,b)
theorem HG {n:Nat} {ops:Array Oper} {o:Oper} {s:cn} (h:Lh P n ops o=some s):c3b P n ops o s:=by
 unfold Lh at h
 split at h
 ·cases h
 ·rename_i op a
  by_cases e:b3Y n o.dst=true
  ·rw [ae e] at h
   l c: ∀d,o.dst=some d->d<n:=fun d i=>by rw [i] at e;simpa [b3Y] using e
   cases f:o.guard with
   |none=>
    rw [f] at h
    simp only [Option.some.injEq] at h
    subst h
    exact ⟨a,rfl,c,by rw [f]⟩
   |some p=>
    obtain ⟨j,b⟩:=p
    rw [f] at h
    dsimp only at h
    cases k:(ops[j]?).bind (·.dst) with
    |none=>rw [k] at h;cases h
    |some t=>
     rw [k] at h
     simp only [Option.some.injEq] at h
     subst h
     exact ⟨a,rfl,c,by rw [f];exact ⟨t,k,rfl⟩⟩
  ·rw [aa e] at h;cases h
theorem My [Frame] {n:Nat} {ops:Array Oper} {o:Oper} {s:cn} (C:c3b P n ops o s) {st:St} {h:b8} (E:gi μ h w st.get a) {b:Bool} (d:st.want s.guard=some b):
 Region.wanted o (yielded ops a.tmps)=b:=by
 f i:=C.gd
 unfold Region.wanted
 cases k:o.guard with
 |none=>
  rw [k] at i
  simp only at i
  rw [i] at d
  simp [St.want] at d
  simp [d]
 |some p=>
  obtain ⟨j,bb⟩:=p
  rw [k] at i
  obtain ⟨t,r,m⟩:=i
  rw [m] at d
  f hE:=E t
  simp only [St.want] at d
  simp only [yielded,r,nY]
  split at d
  ·rename_i c q
   cases d
   rw [q] at hE
   generalize e:a.tmps.getD t undef=X at hE
   cases hE
   rw [Array.getD_eq_getD_getElem?] at e
   cases l:a.tmps[t]? with
   |none=>rw [l] at e;cases e
   |some y=>
    rw [l] at e;cases e
    rfl
  ·rename_i c q
   cases d
   rw [q] at hE
   generalize e:a.tmps.getD t undef=X at hE
   cases hE
   rw [Array.getD_eq_getD_getElem?] at e
   cases l:a.tmps[t]? with
   |none=>rfl
   |some y=>
    rw [l] at e;cases e
    rfl
  ·cases d
theorem Inv.put_skip [Frame] {n:Nat} {f:Nat->V} {h:b8} (I:Inv n f h μ a w) {d:Option Nat} (b: ∀e,d=some e->e<n) {x:Value} {v:V} (c:aY μ h w v x):Inv n (fun t=>if d=some t then v else f t) h μ (a.put d x) w:=
 ⟨I.H,I.E.put (fun e i=>bP (b e i) I.sz) c,by rw [Act.put_size];exact I.sz,by rw [Act.put_def];exact I.df⟩
theorem Gn [Frame] {C:ce} (hC:lN P C) {ow:ec} {n:Nat} {ops:Array Oper} {Q:Exit->Act->World->Prop} {μ0:Mu} {h0:b8} {w0:World}: ∀(l:List Oper) (steps:List cn) (i k:Nat) (st st':St) (μ:Mu) (a:Act) (w:World),
 (∀j,j<l.length->ops[i+j]? =l[j]?)->jX P n ops l=some steps->jH C ow steps k st=some st'->Inv n st.get st.heap μ a w->l8 μ0 h0 w0 μ st.heap w->
 (∀μ' a' w',Inv n st'.get st'.heap μ' a' w'->l8 μ0 h0 w0 μ' st'.heap w'->Q .normal a' w')->wpOps P ops Q (List.range' i l.length) a w
 |[],steps,i,k,st,st',μ,a,w,q,m,p,I,S,K=>by
  simp [jX] at m;subst m
  simp [jH] at p;subst p
  exact K μ a w I S
 |o::l,steps,i,k,st,st',μ,a,w,q,m,p,I,S,K=>by
  simp only [jX] at m
  split at m
  ·rename_i s r h1 h2
   cases m
   simp only [jH] at p
   split at p
   ·rename_i st1 f
    c CS:=HG h1
    c y:ops[i]? =some o:=by c:=q 0 (by simp);simpa using this
    c z: ∀j,j<l.length->ops[i+1+j]? =l[j]? :=fun j hj=>by
      c:=q (j+1) (by simpa using hj)
      rw [show i+1+j=i+(j+1) by omega,this];simp
    simp only [ah,List.range'_succ,wpOps,y]
    c next: ∀μ' a' w',Inv n st1.get st1.heap μ' a' w'->l8 μ0 h0 w0 μ' st1.heap w'->wpOps P ops Q (List.range' (i+1) l.length) a' w':=
      fun μ' a' w' I' S'=>Gn hC l r (i+1) (k+1) st1 st' μ' a' w' z h2 p I' S' K
    unfold BS at f
    cases h:st.want s.guard with
    |none=>rw [h] at f;cases f
    |some b=>
     rw [h] at f
     rw [My CS I.E h]
     cases b with
     |false=>
      simp only [Option.some.injEq] at f
      subst f
      simp only [bx,if_false]
      refine next μ _ w ?_ (by rw [St.put_heap];exact S)
      rw [St.put_heap]
      c:=I.put_skip (d:=o.dst) (x:=undef) (v:= .lit (.tuple #[])) CS.lt (.lit _)
      c e:(st.put s.dst (.lit (.tuple #[]))).get=fun t=>if o.dst=some t then .lit (.tuple #[]) else st.get t:=by
        funext t;rw [St.put_get,CS.dst]
      rw [e];exact this
     |true=>
      simp only at f
      split at f
      ·rename_i v u hop
       cases f
       simp only [if_true]
       refine .inl (Se hC I.H I.E CS.op hop (fun x w' μ' H' C' V'=> ?_))
       c hh:((st.upd u).put s.dst v).heap=fW st.heap u:=by rw [St.put_heap,St.upd_heap]
       refine next μ' _ w' ?_ (by rw [hh];exact ⟨S.C.trans C',S.lo⟩)
       rw [hh]
       c E':gi μ' (fW st.heap u) w' st.get a:=fun t=>(I.E t).chg C'
       c:=(Inv.mk H' E' I.sz I.df).put_skip (d:=o.dst) CS.lt V'
       c e:((st.upd u).put s.dst v).get=fun t=>if o.dst=some t then v else st.get t:=by
         funext t;rw [St.put_get,CS.dst,St.upd_get]
       rw [e];exact this
      ·cases f
   ·cases p
  ·cases m
theorem Inv.trim [Frame] {n:Nat} {st:St} (I:Inv n st.get st.heap μ a w) (live:List Nat):Inv n (trim live st).get (AI.trim live st).heap μ a w:=by
 refine ⟨I.H,fun t=> ?_,I.sz,I.df⟩
 rw [b3c]
 split
 ·exact I.E t
 ·exact .unk _
theorem WT [Frame] {C:ce} (d:lN P C) {ow:ec} {n id base:Nat} {ops:Array Oper} {steps:List cn} {live:List Nat} {Q:Exit->Act->World->Prop} {μ0:Mu} {h0:b8} {w0:World} {st st':St} {e:bR}
 (f:jX P n ops ops.toList=some steps) (b:sE C ow base steps live st=some (e,st')) (I:Inv n st.get st.heap μ a w) (S:l8 μ0 h0 w0 μ st.heap w)
 (K: ∀μ' a' w',Inv n st'.get st'.heap μ' a' w'->l8 μ0 h0 w0 μ' st'.heap w'->Q .normal a' w'):e= .normal/\(Code.region id ops false).wp P Q a w:=by
 unfold sE at b
 split at b
 ·rename_i st1 h
  cases b
  refine ⟨rfl,wp_region ?_⟩
  c:=Gn (Q:=Q) d ops.toList steps 0 base st st1 μ a w (fun j i=>by simp) f h I S (fun μ' a' w' I' S'=>K μ' a' w' (I'.trim live) S')
  rwa [Array.length_toList, <-List.range_eq_range'] at this
 ·cases b
end
end
end Go.AI
