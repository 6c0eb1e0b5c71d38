/- Part. -/
import Derived.Test.YtdnkignjanfikaaGreatAiOps4
import Derived.WideKeyRuns
import Derived.MapKept
set_option linter.unusedVariables false
set_option linter.unusedSimpArgs false
namespace Go.AI
structure U5 (P:Program) (t k e i:TypeId) (ii ie:TypeInfo):Prop where
 hu:P.underlying t=some (.map k e)
 hk:P.underlying k=some (.array 2 i)
 hi:P.underlying i=some (.int .i64)
 hii:P.info? i=some ii
 hs:ii.size=1
 hc:P.cellsOf i=1
 hie:P.info? e=some ie
 hz:ie.zero=some (.int .i64 0)
theorem XS {P:Program} {t:TypeId} (h:Yu P t=true): ∃k e i ii ie,U5 P t k e i ii ie:=by
 unfold Yu at h
 split at h
 ·rename_i k e c
  split at h
  ·rename_i i ie d a f
   split at h
   ·rename_i ii hi b j
    simp only [aD,beq_iff_eq] at h
    exact ⟨k,e,i,ii,ie,c,d,hi,b,h.1,h.2,a,j⟩
   ·cases h
  ·cases h
 ·cases h
def oZ (a b:Int) (t:Tri):Bool:=decide (a=t.1/\b=t.2.1)
theorem M1 {a b:Int}: ∀{L:List Tri},(∀t∈L,oZ a b t=false)->i4 a b L=0
 |[],_=>rfl
 | (x,y,v)::r,h=>by
   c h0:=h (x,y,v) (by simp)
   simp only [oZ,bw] at h0
   simp only [i4]
   rw [aa h0]
   exact M1 (fun t d=>h t (by simp [d]))
theorem R4 {a b:Int}: ∀{L:List Tri} {j:Nat} {t:Tri},(∀i u,i<j->L[i]? =some u->oZ a b u=false)->L[j]? =some t->oZ a b t=true->i4 a b L=t.2.2
 |[],j,t,_,h,_=>by simp at h
 | (x,y,v)::r,0,t,_,h,c=>by
   simp at h;subst h
   simp only [oZ,aC] at c
   simp only [i4]
   rw [ae c]
 | (x,y,v)::r,j+1,t,d,h,c=>by
   e h0:=d 0 (x,y,v) (by omega) rfl
   simp only [oZ,bw] at h0
   simp only [i4]
   rw [aa h0]
   exact R4 (j:=j) (fun i u hi f=>d (i+1) u (by omega) (by simpa using f)) (by simpa using h) c
theorem VH {a b v:Int}: ∀{L:List Tri},(∀t∈L,oZ a b t=false)->iu a b v L=L++[(a,b,v)]
 |[],_=>rfl
 | (x,y,u)::r,h=>by
   c h0:=h (x,y,u) (by simp)
   simp only [oZ,bw] at h0
   simp only [iu]
   rw [aa h0,VH (fun t d=>h t (by simp [d]))]
   rfl
theorem a2C {a b v:Int}: ∀{L:List Tri} {j:Nat} {t:Tri},(∀i u,i<j->L[i]? =some u->oZ a b u=false)->L[j]? =some t->oZ a b t=true->iu a b v L=L.set j (a,b,v)
 |[],j,t,_,h,_=>by simp at h
 | (x,y,u)::r,0,t,_,h,c=>by
   simp at h;subst h
   simp only [oZ,aC] at c
   simp only [iu]
   rw [ae c]
   rfl
 | (x,y,u)::r,j+1,t,d,h,c=>by
   e h0:=d 0 (x,y,u) (by omega) rfl
   simp only [oZ,bw] at h0
   simp only [iu]
   rw [aa h0,a2C (j:=j) (fun i u hi f=>d (i+1) u (by omega) (by simpa using f)) (by simpa using h) c]
   rfl
def lQ (a b:Int):Value:= .agg #[.int .i64 a,.int .i64 b]
section
variable {P:Program} {w:World} {t k e i:TypeId} {ii ie:TypeInfo}
theorem PN (M:U5 P t k e i ii ie):P.plainKey i=true:=by unfold Program.plainKey;rw [M.hi]
theorem FV (M:U5 P t k e i ii ie) (w:World) (a b:Int):(Go.part i #[.int .i64 a,.int .i64 b] 0).run P w= .ok (.int .i64 a) w/\(Go.part i #[.int .i64 a,.int .i64 b] 1).run P w= .ok (.int .i64 b) w:=
 ⟨run_part_plain w (PN M) rfl,run_part_plain w (PN M) rfl⟩
theorem a8H (M:U5 P t k e i ii ie) (w:World) (a b c d:Int):(Op.equal k (lQ a b) (lQ c d)).run P w= .ok (oZ a b (c,d,0)) w:=by
 unfold lQ Op.equal Op.maxDepth
 show (Op.equalIn (9999+1) k _ _).run P w=_
 rw [run_equalIn_array w 9999 _ _ M.hk M.hii,M.hc]
 show (Op.eqItems 9999 i 1 _ _ [0,1]).run P w=_
 obtain ⟨j,p2⟩:=FV M w a b
 obtain ⟨q1,q2⟩:=FV M w c d
 simp only [Op.eqItems,Sem.run_bind,lF,cB,j,p2,q1,q2,Result.andThen_ok,run_equalIn_int w 9998 i .i64 .i64 a c M.hi,run_equalIn_int w 9998 i .i64 .i64 b d M.hi]
 by_cases f:a=c
 ·subst f
  by_cases h:b=d
  ·subst h
   simp [p2,oZ,run_equalIn_int w 9998 i .i64 .i64 b b M.hi]
  ·simp [p2,q2,h,oZ,run_equalIn_int w 9998 i .i64 .i64 b d M.hi]
 ·simp [f,oZ]
theorem Wv (M:U5 P t k e i ii ie) (w:World) (em:Bool) (n:Nat) (x:Int):(Instr.checkKey em (n+1) i (.int .i64 x)).run P w= .ok () w:=by
 simp [Instr.checkKey,run_underlying M.hi]
theorem WQ (M:U5 P t k e i ii ie) (w:World) (em:Bool) (n:Nat) (a b:Int):(Instr.checkKey em (n+1+1) k (lQ a b)).run P w= .ok () w:=by
 obtain ⟨d,p2⟩:=FV M w a b
 c f:=fun x=>Wv M w em n x
 unfold lQ
 simp only [Instr.checkKey,Sem.run_bind,run_underlying M.hk,Result.andThen_ok] at f ⊢
 simp only [Std.Legacy.Range.forIn_eq_forIn_range',Std.Legacy.Range.size,oF,Nat.add_one_sub_one,Nat.div_one]
 rw [show List.range' 0 2 1=[0,1] from rfl]
 simp [List.forIn_cons,List.forIn_nil,Sem.run_bind,run_sizeOf w M.hii,Result.andThen_ok,M.hs,M.hc,d,p2,Instr.checkKey,run_underlying M.hi]
theorem Az (M:U5 P t k e i ii ie) (w:World) (em:Bool) (a b:Int):(Instr.checkKey em 10000 k (lQ a b)).run P w= .ok () w:=WQ M w em 9998 a b
theorem Q6 (M:U5 P t k e i ii ie) (w:World) (a b:Int): ∀(es:List MapEntry) (L:List Tri) (n:Nat),L.length=es.length->(∀(j:Nat) (x:MapEntry) (u:Tri),es[j]? =some x->L[j]? =some u->a4j x u)->
 ((Instr.findAsking k (lQ a b) es n).run P w= .ok none w/\ ∀u∈L,oZ a b u=false)\/
 ∃j u,(Instr.findAsking k (lQ a b) es n).run P w= .ok (some (n+j,.int .i64 u.2.2)) w/\L[j]? =some u/\oZ a b u=true/\ ∀i u,i<j->L[i]? =some u->oZ a b u=false
 |[],[],n,_,_=> .inl ⟨by simp [Instr.findAsking],by simp⟩
 |[],_::_,n,o,_=>by simp at o
 |_::_,[],n,o,_=>by simp at o
 |x::es,(c,d,v)::L,n,o,s=>by
  f y:=s 0 x (c,d,v) rfl rfl
  f m:=a8H M w a b c d
  f h:x.key=lQ c d:=y.key
  f e0:oZ a b (c,d,0)=oZ a b (c,d,v):=rfl
  rw [e0] at m
  cases p:oZ a b (c,d,v) with
  |true=>
   right
   refine ⟨0,(c,d,v), ?_,rfl,p,fun i u hi=>by omega⟩
   rw [p] at m
   simp [Instr.findAsking,h,m,y.val]
  |false=>
   rw [p] at m
   rcases Q6 M w a b es L (n+1) (by simpa using o) (fun j x u z h2=>s (j+1) x u (by simpa using z) (by simpa using h2)) with ⟨q,r⟩|⟨j,u,q,r,g3,g4⟩
   ·left
    refine ⟨by simp [Instr.findAsking,h,m,q],fun u l=> ?_⟩
    rcases b9.1 l with rfl|l
    ·exact p
    ·exact r u l
   ·right
    refine ⟨j+1,u,by simp [Instr.findAsking,h,m,q,fx,jh 1 j],by simpa using r,g3,fun i u' hi l=> ?_⟩
    cases i with
    |zero=>simp at l;subst l;exact p
    |succ i=>exact g4 i u' (by omega) (by simpa using l)
theorem PG (M:U5 P t k e i ii ie) (w:World) (a b:Int) {es:Array MapEntry} {L:List Tri} (d:L.length=es.size) (f: ∀(j:Nat) (x:MapEntry) (u:Tri),es[j]? =some x->L[j]? =some u->a4j x u):
 ((Instr.findKey k (lQ a b) es.toList).run P w= .ok none w/\ ∀u∈L,oZ a b u=false)\/
 ∃j u,(Instr.findKey k (lQ a b) es.toList).run P w= .ok (some (j,.int .i64 u.2.2)) w/\L[j]? =some u/\oZ a b u=true/\ ∀i u,i<j->L[i]? =some u->oZ a b u=false:=by
 c h:=Q6 M w a b es.toList L 0 (by simpa using d) (fun j x u l m=>f j x u (by simpa using l) m)
 rw [run_findKey_eq w (by rw [M.hk])]
 simpa using h
theorem bB.newM [Frame] {μ:Mu} {h:b8} {w:World} (H:bB μ h w) {b:Nat} (hb:h b=none):
 bB (cE μ b (some w.heap.size)) (bT h b ⟨0,true,[[]]⟩) (mK w (.map #[] 0))/\Chg μ h w (cE μ b (some w.heap.size)) (bT h b ⟨0,true,[[]]⟩) (mK w (.map #[] 0)):=by
 f g:=lS w (.map #[] 0)
 f hmb:μ b=none:=by
   cases hm:μ b with
   |none=>rfl
   |some c'=>obtain ⟨k',a,_⟩:=H.dom b c' hm;rw [hb] at a;cases a
 f p: ∀b' k',h b'=some k'->b'≠b:=fun b' k' a e=>by rw [e,hb] at a;cases a
 f ch:Chg μ h w (cE μ b (some w.heap.size)) (bT h b ⟨0,true,[[]]⟩) (mK w (.map #[] 0)):=by
   refine ⟨⟨g.1,g.2.1,g.2.2.1,g.2.2.2.1,g.2.2.2.2.2,(fun c' o hs=>⟨g.2.2.2.2.1 c' o,fun b'=> ?_,hs.2⟩),fun c q=>g.2.2.2.2.1 c (H.frlt c q)⟩,fun b' k' a=> ?_⟩
   ·unfold cE
    by_cases e:b'=b
    ·rw [ae e];intro d;cases d;omega
    ·rw [aa e];exact hs.1 b'
   ·f e:=p b' k' a
    exact ⟨k',by simp [bT,e,a],.inr (.inr ⟨rfl,fun _=>rfl,rfl,by simp [cE,e],fun c' o=>g.bsize (H.lt o)⟩)⟩
 refine ⟨⟨fun b1 b2 c' d k=> ?_,fun b' c' d=> ?_,fun b' k' a=> ?_,fun b' k' a=> ?_,fun b' c' d=> ?_,fun c q=>bP (H.frlt c q) g.2.2.2.1⟩,ch⟩
 ·unfold cE at d k
  by_cases e1:b1=b<;>by_cases e2:b2=b
  ·rw [e1,e2]
  ·rw [ae e1] at d;rw [aa e2] at k;cases d;f:=H.lt k;omega
  ·rw [aa e1] at d;rw [ae e2] at k;cases k;f:=H.lt d;omega
  ·rw [aa e1] at d;rw [aa e2] at k;exact H.inj _ _ _ d k
 ·unfold cE at d
  by_cases e:b'=b
  ·exact ⟨⟨0,true,[[]]⟩,by simp [bT,e],.inr rfl⟩
  ·rw [aa e] at d
   obtain ⟨k',a,l⟩:=H.dom b' c' d
   exact ⟨k',by simp [bT,e,a],l⟩
 ·by_cases e:b'=b
  ·simp [bT,e] at a
   subst a
   exact .inr (.inr ⟨rfl,rfl,w.heap.size,by simp [cE,e],⟨⟨#[],[],pJ w _,rfl,rfl,(fun i e t d=>by simp at d),fun i e d=>by simp at d⟩⟩⟩)
  ·simp [bT,e] at a
   rcases H.blk b' k' a with d|⟨l,c',arr',t',lo',r,m,s,u,x,y⟩|⟨l,z,c',m,hb'⟩
   ·exact .inl ⟨d.1,d.2.1,by simp [cE,e,d.2.2]⟩
   ·exact .inr (.inl ⟨l,c',arr',t',lo',r,by simp [cE,e,m],by rw [g.2.2.2.2.1 c' (H.lt m)];exact s,u,x,fun i row j v d k=>(y i row j v d k).chg ch⟩)
   ·exact .inr (.inr ⟨l,z,c',by simp [cE,e,m],hb'.keep (g.2.2.2.2.1 c' (H.lt m))⟩)
 ·by_cases e:b'=b
  ·simp [bT,e] at a;subst a
   intro row n
   simp at n;subst n
   exact ⟨fun h=>by simp at h,fun v hv=>by simp at hv⟩
  ·simp [bT,e] at a;exact H.rows b' k' a
 ·unfold cE at d
  split at d
  ·cases d;intro k;f:=H.frlt _ k;omega
  ·exact H.frame b' c' d
def AF (w:World) (c:Nat) (o:Obj):World:={ w with heap:=w.heap.setIfInBounds c o }
theorem Wy {w:World} {c:Nat} {o:Obj} (h:c<w.heap.size):(AF w c o).heap[c]? =some o:=by simp [AF,h]
theorem Hm {w:World} {c c':Nat} {o:Obj} (h:c'≠c):(AF w c o).heap[c']? =w.heap[c']? :=by simp [AF,cu,Ne.symm h]
theorem bB.putM [Frame] {μ:Mu} {h:b8} {w:World} (H:bB μ h w) {b c:Nat} {rows rows':List (List V)} {o:Obj} (hb:h b=some ⟨0,true,rows⟩) (m:μ b=some c) (u:rK w c rows) (x:rK (AF w c o) c rows') (hl:rows'.length=rows.length):
 bB μ (bT h b ⟨0,true,rows'⟩) (AF w c o)/\Chg μ h w μ (bT h b ⟨0,true,rows'⟩) (AF w c o):=by
 d p:(AF w c o).heap.size=w.heap.size:=by simp [AF]
 d q: ∀c',bsize (AF w c o) c'=bsize w c':=fun c'=>by
   by_cases e:c'=c
   ·subst e;rw [x.bsize,u.bsize]
   ·unfold bsize;rw [Hm e]
 d ch:Chg μ h w μ (bT h b ⟨0,true,rows'⟩) (AF w c o):=by
   refine ⟨⟨rfl,rfl,rfl,by rw [p];exact aw _,aw _,(fun c' r hs=>⟨Hm (fun e=>hs.1 b (e▸m)),hs⟩),fun c' r=>Hm (fun e=>H.frame _ _ m (e▸r))⟩,fun b' k' a=> ?_⟩
   by_cases e:b'=b
   ·subst e
    rw [hb] at a;cases a
    exact ⟨⟨0,true,rows'⟩,by simp [bT],.inr (.inr ⟨rfl,fun _=>rfl,hl,rfl,fun c' _=>q c'⟩)⟩
   ·exact ⟨k',by simp [bT,e,a],.inr (.inr ⟨rfl,fun _=>rfl,rfl,rfl,fun c' _=>q c'⟩)⟩
 refine ⟨⟨H.inj,fun b' c' l=> ?_,fun b' k' a=> ?_,fun b' k' a=> ?_,H.frame,fun c m=>by rw [p];exact H.frlt c m⟩,ch⟩
 ·by_cases e:b'=b
  ·exact ⟨⟨0,true,rows'⟩,by simp [bT,e],.inr rfl⟩
  ·obtain ⟨k',a,f⟩:=H.dom b' c' l
   exact ⟨k',by simp [bT,e,a],f⟩
 ·by_cases e:b'=b
  ·simp [bT,e] at a
   subst a
   exact .inr (.inr ⟨rfl,rfl,c,by rw [e];exact m,x⟩)
  ·simp [bT,e] at a
   d s: ∀c',μ b'=some c'->c'≠c:=fun c' l e2=>e (H.inj _ _ _ (e2▸l) m)
   rcases H.blk b' k' a with l|⟨f,c',arr',t',lo',y,k,z,hf',hl',hv'⟩|⟨f,ho',c',k,hb'⟩
   ·exact .inl l
   ·exact .inr (.inl ⟨f,c',arr',t',lo',y,k,by rw [Hm (s c' k)];exact z,hf',hl',fun i row j v l h2=>(hv' i row j v l h2).chg ch⟩)
   ·exact .inr (.inr ⟨f,ho',c',k,hb'.keep (Hm (s c' k))⟩)
 ·by_cases e:b'=b
  ·simp [bT,e] at a;subst a
   intro row t
   exact ⟨fun h=>by simp at h,fun v hv=>by obtain ⟨n,rfl⟩:=x.lit t hv;exact ⟨rfl,fun h=>by cases h⟩⟩
  ·simp [bT,e] at a;exact H.rows b' k' a
theorem a8t {h:b8} {v:V} {b:Nat} {L:List Tri} (a:rg h v=some (b,L)):v= .mp b/\h b=some ⟨0,true,[bz L]⟩:=by
 unfold rg at a
 split at a
 ·rename_i p
  split at a
  ·rename_i cs c
   split at a
   ·rename_i L' d
    cases a
    rw [zH d] at c
    exact ⟨rfl,c⟩
   ·cases a
  ·cases a
 ·cases a
theorem Qp: ∀{L L':List Tri},bz L=bz L'->L=L'
 |L,L',h=>by
  a b:=vm L
  rw [h,vm L'] at b
  cases b;rfl
section
variable {P:Program} {μ:Mu} {h:b8} {w:World} {a:Act} {f:Nat->V}
theorem Ya [Frame] (H:bB μ h w) {v:V} {x:Value} {b:Nat} {L:List Tri} (o:aY μ h w v x) (p:rg h v=some (b,L)):
 ∃c es,x= .map (some c)/\μ b=some c/\h b=some ⟨0,true,[bz L]⟩/\rK w c [bz L]/\w.heap[c]? =some (.map es es.size)/\L.length=es.size/\
  (∀(i:Nat) (e:MapEntry) (t:Tri),es[i]? =some e->L[i]? =some t->a4j e t)/\ ∀(i:Nat) (e:MapEntry),es[i]? =some e->e.born=i:=by
 obtain ⟨rfl,j⟩:=a8t p
 cases o with
 |mp _ _ k a hx l=>
  rw [j] at a;cases a
  obtain ⟨c,m,rfl⟩:=l rfl rfl
  rcases H.blk b _ j with ⟨q,_⟩|⟨r,_⟩|⟨_,_,c',d,n⟩
  ·cases q
  ·exact absurd r (by simp)
  ·rw [m] at d;cases d
   obtain ⟨es,L',s,u,y,z,h5⟩:=n.ex
   f:L'=L:=by
    f:=List.cons.inj u
    exact (Qp this.1).symm
   subst this
   exact ⟨c,es,rfl,m,j,n,s,y,z,h5⟩
theorem Jn [Frame] {v:V} {x:Value} {p q:Int} (j:aY μ h w v x) (b:mapKey v=some (p,q)):x=lQ p q:=by
 unfold mapKey at b
 split at b
 ·cases b
  cases j with
  |agg _ xs e c f=>
   a h0:=f 0 _ rfl
   a k:=f 1 _ rfl
   a e0:=de h0
   a e1:=de k
   simp at e
   unfold lQ
   congr 1
   apply Array.ext
   ·simpa using e
   ·intro i d l
    match i,d with
    |0,h=>simpa [Array.getD_eq_getD_getElem?,aL h] using e0
    |1,h=>simpa [Array.getD_eq_getD_getElem?,aL h] using e1
 ·cases b
theorem kA {c:Nat} {es:Array MapEntry} {n:Nat} (h:w.heap[c]? =some (.map es n)):(getObj c).run P w= .ok (.map es n) w:=by
 simp [getObj,Sem.run,h]
theorem yE {c:Nat} {es:Array MapEntry} {n:Nat} (o:Obj) (h:w.heap[c]? =some (.map es n)):(setObj c o).run P w= .ok () (AF w c o):=by
 simp [setObj,Sem.run,h,AF]
theorem Wm {t k e i:TypeId} {ii ie:TypeInfo} (M:U5 P t k e i ii ie) (w:World):(zeroValue e).run P w= .ok (.int .i64 0) w:=by
 simp [zeroValue,typeInfo,M.hie,M.hz]
theorem a9y (n:Nat) (a b:Int):Instr.sameBits (n+1+1) (lQ a b) (lQ a b)=true:=by
 simp [lQ,Instr.sameBits]
theorem NQ (w:World) (a b:Int):(Instr.keyThatStays (lQ a b) (lQ a b)).run P w= .ok (lQ a b) w:=by
 c:Instr.sameBits 10000 (lQ a b) (lQ a b)=true:=a9y 9998 a b
 simp [Instr.keyThatStays,this]
theorem Mg {a b:Int}: ∀{L:List Tri},(∀t∈L,oZ a b t=false)->ya a b L=L.length
 |[],_=>rfl
 | (x,y,v)::r,h=>by
   c h0:=h (x,y,v) (by simp)
   simp only [oZ,bw] at h0
   simp only [ya]
   rw [aa h0,Mg (fun t d=>h t (by simp [d]))]
   rfl
theorem R9 {a b:Int}: ∀{L:List Tri} {j:Nat} {t:Tri},(∀i u,i<j->L[i]? =some u->oZ a b u=false)->L[j]? =some t->oZ a b t=true->ya a b L=j
 |[],j,t,_,h,_=>by simp at h
 | (x,y,u)::r,0,t,_,h,c=>by
   simp at h;subst h
   simp only [oZ,aC] at c
   simp only [ya]
   rw [ae c]
 | (x,y,u)::r,j+1,t,d,h,c=>by
   e h0:=d 0 (x,y,u) (by omega) rfl
   simp only [oZ,bw] at h0
   simp only [ya]
   rw [aa h0,R9 (j:=j) (fun i u hi f=>d (i+1) u (by omega) (by simpa using f)) (by simpa using h) c]
theorem rK.push {w:World} {c:Nat} {es:Array MapEntry} {L:List Tri} {p q v:Int} (j:c<w.heap.size) (d:L.length=es.size) (k: ∀(i:Nat) (e:MapEntry) (t:Tri),es[i]? =some e->L[i]? =some t->a4j e t) (l: ∀(i:Nat) (e:MapEntry),es[i]? =some e->e.born=i):
 rK (AF w c (.map (es.push { key:=lQ p q,val:= .int .i64 v,born:=es.size }) (es.size+1))) c [bz (L++[(p,q,v)])]:=by
 refine ⟨⟨es.push { key:=lQ p q,val:= .int .i64 v,born:=es.size },L++[(p,q,v)],by rw [Wy j];simp,rfl,by simp [d],fun i e t a b=> ?_,fun i e a=> ?_⟩⟩
 ·rw [iD] at a
  split at a
  ·rename_i hi
   cases a
   subst hi
   rw [<-d,bQ (aw _),Nat.sub_self] at b
   simp at b;subst b
   exact ⟨rfl,rfl⟩
  ·rename_i hi
   f m:i<es.size:=by
     rcases cA i es.size with h|h
     ·exact h
     ·rw [eQ h] at a;cases a
   rw [bG (by omega)] at b
   exact k i e t a b
 ·rw [iD] at a
  split at a
  ·rename_i hi;cases a;exact hi.symm
  ·exact l i e a
theorem rK.mod {w:World} {c j:Nat} {es:Array MapEntry} {L:List Tri} {g:MapEntry->MapEntry} {u:Tri} (k:c<w.heap.size) (l:L.length=es.size) (m: ∀(i:Nat) (e:MapEntry) (t:Tri),es[i]? =some e->L[i]? =some t->a4j e t) (f: ∀(i:Nat) (e:MapEntry),es[i]? =some e->e.born=i)
 (h: ∀e,es[j]? =some e->a4j (g e) u/\(g e).born=e.born) (n:j<L.length):
 rK (AF w c (.map (es.modify j g) es.size)) c [bz (L.set j u)]:=by
 refine ⟨⟨es.modify j g,L.set j u,by rw [Wy k];simp,rfl,by simp [l],fun i e t a d=> ?_,fun i e a=> ?_⟩⟩
 ·rw [dT] at a
  rw [fB] at d
  by_cases hi:j=i
  ·subst hi
   rw [ae rfl] at a
   rw [ae rfl,ae n] at d
   cases d
   cases b:es[j]? with
   |none=>rw [b] at a;cases a
   |some e0=>rw [b] at a;cases a;exact (h e0 b).1
  ·rw [aa hi] at a
   rw [aa hi] at d
   exact m i e t a d
 ·rw [dT] at a
  by_cases hi:j=i
  ·subst hi
   rw [ae rfl] at a
   cases b:es[j]? with
   |none=>rw [b] at a;cases a
   |some e0=>rw [b] at a;cases a;rw [(h e0 b).2];exact f _ _ b
  ·rw [aa hi] at a;exact f i e a
theorem a9R [Frame] (H:bB μ h w) {o:Oper} {t:TypeId} (c:o.op= .makeMap t none) {C:ce} {ow:FuncId->List Nat} {new:Nat} {v:V} {u:Upd}
 (b:aM C ow .mkMap (Opd.ev f) h new=some (v,u)):ix P o a μ h w v u:=by
 simp only [aM] at b
 split at b
 ·rename_i i
  cases b
  e d:h new=none:=by simpa using i
  obtain ⟨q1,q2⟩:=H.newM (w:=w) d
  refine ⟨.map (some w.heap.size),_,_,.inl ?_,q1,q2,.mp new _ ⟨0,true,[[]]⟩ (by simp [fW,bT]) ⟨_,rfl⟩ (fun _ _=>⟨_,by simp [cE],rfl⟩)⟩
  simp [execOp,c,Instr.makeMap,mK]
 ·cases b
theorem a3R [Frame] (H:bB μ h w) (E:gi μ h w f a) {o:Oper} {t:TypeId} {m k:Operand} {m' k':Opd} (e:o.op= .lookup t m k false) (hm:bA m=some m') (hk:bA k=some k') (ht:Yu P t=true)
 {C:ce} {ow:FuncId->List Nat} {new:Nat} {v:V} {u:Upd} (l:aM C ow (.mapGet m' k') (Opd.ev f) h new=some (v,u)):ix P o a μ h w v u:=by
 obtain ⟨kt,et,it,ii,ie,M⟩:=XS ht
 d n:=bM E hm
 d r:=bM E hk
 simp only [aM] at l
 split at l
 ·rename_i b L p q h1 h2
  cases l
  obtain ⟨c,es,z,hc,hb,hmb,g1,g2,g3,g4⟩:=Ya H n h1
  d hy:=Jn r h2
  refine .quiet H (x:= .int .i64 (i4 p q L)) ?_ (.lit _)
  d i:=Az M w es.isEmpty p q
  rcases PG M w p q g2 g3 with ⟨s,y⟩|⟨j,t',s,y,r3,r4⟩
  ·rw [M1 y]
   simp [execOp,e,Instr.lookup,z,hy,run_underlying M.hu,kA g1,i,s,Wm M]
  ·rw [R4 r4 y r3]
   simp [execOp,e,Instr.lookup,z,hy,run_underlying M.hu,kA g1,i,s]
 ·cases l
theorem a4t [Frame] (H:bB μ h w) (E:gi μ h w f a) {o:Oper} {t:TypeId} {m k x:Operand} {m' k' x':Opd} (l:o.op= .mapUpdate t m k x) (hm:bA m=some m') (hk:bA k=some k') (hx:bA x=some x') (ht:Yu P t=true)
 {C:ce} {ow:FuncId->List Nat} {new:Nat} {v:V} {u:Upd} (hs:aM C ow (.mapSet m' k' x') (Opd.ev f) h new=some (v,u)):ix P o a μ h w v u:=by
 obtain ⟨kt,et,it,ii,ie,M⟩:=XS ht
 d hvm:=bM E hm
 d hvk:=bM E hk
 d n:=bM E hx
 simp only [aM] at hs
 split at hs
 ·rename_i b L p q y h1 h2 h3
  cases hs
  obtain ⟨c,es,r,hc,hb,s,g1,g2,g3,g4⟩:=Ya H hvm h1
  d hy:=Jn hvk h2
  rw [h3] at n
  d hz:=de n
  d z:=H.lt hc
  d hck:=Az M w false p q
  rcases PG M w p q g2 g3 with ⟨r1,i⟩|⟨j,t',r1,i,r3,r4⟩
  ·rw [VH i]
   obtain ⟨q1,q2⟩:=H.putM hb hc s (rK.push (p:=p) (q:=q) (v:=y) z g2 g3 g4) rfl
   refine ⟨undef,_,_,.inr ⟨?_,rfl⟩,q1,q2,.unk _⟩
   simp [execOp,l,Instr.mapUpdate,r,hy,hz,run_underlying M.hu,kA g1,hck,r1,yE _ g1]
  ·rw [a2C r4 i r3]
   d hj:j<L.length:=by
     rcases cA j L.length with h|h
     ·exact h
     ·rw [bD h] at i;cases i
   d hes:es[j]? =some es[j]:=aL (by omega)
   d hkey:es[j].key=lQ p q:=by
     d:=(g3 j _ _ hes i).key
     simp only [oZ,aC] at r3
     rw [this, <-r3.1, <-r3.2];rfl
   obtain ⟨q1,q2⟩:=H.putM hb hc s (rK.mod (j:=j) (g:=fun e=>{ e with key:=lQ p q,val:= .int .i64 y }) (u:=(p,q,y)) z g2 g3 g4 (fun e _=>⟨⟨rfl,rfl⟩,rfl⟩) hj) rfl
   refine ⟨undef,_,_,.inr ⟨?_,rfl⟩,q1,q2,.unk _⟩
   simp [execOp,l,Instr.mapUpdate,r,hy,hz,run_underlying M.hu,kA g1,hck,r1,hes,hkey,NQ,yE _ g1]
 ·cases hs
theorem a6m [Frame] (H:bB μ h w) (E:gi μ h w f a) {o:Oper} {t:TypeId} {m k:Operand} {m' k':Opd} (z:o.op= .mapEntry t m k) (hm:bA m=some m') (hk:bA k=some k') (ht:Yu P t=true)
 {C:ce} {ow:FuncId->List Nat} {new:Nat} {v:V} {u:Upd} (hs:aM C ow (.mapEnt m' k') (Opd.ev f) h new=some (v,u)):ix P o a μ h w v u:=by
 obtain ⟨kt,et,it,ii,ie,M⟩:=XS ht
 d hvm:=bM E hm
 d hvk:=bM E hk
 simp only [aM] at hs
 split at hs
 ·rename_i b L p q h1 h2
  cases hs
  obtain ⟨c,es,hxm,hc,hb,hmb,g1,g2,g3,g4⟩:=Ya H hvm h1
  d hy:=Jn hvk h2
  d hlt:=H.lt hc
  d hck:=Az M w false p q
  d two: ∀{μ':Mu} {h':b8} {w':World} (x y:Int),aY μ' h' w' (.tup [.lit (.int .i64 x),.lit (.int .i64 y)]) (.tuple #[.int .i64 x,.int .i64 y]):=fun x y=>
    .tup _ _ rfl (fun i v hi=>by
     match i,hi with
     |0,hi=>simp at hi;subst hi;exact .lit _
     |1,hi=>simp at hi;subst hi;exact .lit _)
  rcases PG M w p q g2 g3 with ⟨r1,l⟩|⟨j,t',r1,l,r3,r4⟩
  ·rw [M1 l,Mg l,show Hr p q L=L++[(p,q,0)] by unfold Hr;rw [Mg l,aa (Nat.lt_irrefl _)]]
   obtain ⟨q1,q2⟩:=H.putM hb hc hmb (rK.push (p:=p) (q:=q) (v:=0) hlt g2 g3 g4) rfl
   refine ⟨.tuple #[.int .i64 0,.int .i64 (L.length:Nat)],_,_,.inl ?_,q1,q2,two _ _⟩
   simp [execOp,z,Instr.mapEntry,hxm,hy,run_underlying M.hu,kA g1,hck,r1,Wm M,yE _ g1,goInt,g2]
  ·d hj:j<L.length:=by
     rcases cA j L.length with h|h
     ·exact h
     ·rw [bD h] at l;cases l
   rw [R4 r4 l r3,R9 r4 l r3,show Hr p q L=L by unfold Hr;rw [R9 r4 l r3,ae hj]]
   d s:es[j]? =some es[j]:=aL (by omega)
   d n:=r3
   simp only [oZ,aC] at n
   d r:=g3 j _ _ s l
   d hkey:es[j].key=lQ p q:=by
     rw [r.key, <-n.1, <-n.2];rfl
   d bT:L.set j t'=L:=by
     apply mZ
     intro i
     rw [fB]
     by_cases hi:j=i
     ·subst hi;rw [ae rfl,ae hj,l]
     ·rw [aa hi]
   obtain ⟨q1,q2⟩:=H.putM hb hc hmb (rK.mod (j:=j) (g:=fun e=>{ e with key:=lQ p q }) (u:=t') hlt g2 g3 g4 (fun e he=>by
    rw [s] at he;cases he
    exact ⟨⟨by rw [<-n.1, <-n.2];rfl,r.val⟩,rfl⟩) hj) rfl
   rw [bT] at q1 q2
   refine ⟨.tuple #[.int .i64 t'.2.2,.int .i64 (j:Nat)],_,_,.inl ?_,q1,q2,two _ _⟩
   simp [execOp,z,Instr.mapEntry,hxm,hy,run_underlying M.hu,kA g1,hck,r1,s,hkey,NQ,yE _ g1,goInt,g4 j _ s]
 ·cases hs
theorem a62 [Frame] (H:bB μ h w) (E:gi μ h w f a) {o:Oper} {t:TypeId} {m k x:Operand} {m' k' x':Opd} (hop:o.op= .entryStore t m k x) (hm:bA m=some m') (hk:bA k=some k') (hx:bA x=some x')
 {C:ce} {ow:FuncId->List Nat} {new:Nat} {v:V} {u:Upd} (q:aM C ow (.mapPut m' k' x') (Opd.ev f) h new=some (v,u)):ix P o a μ h w v u:=by
 d hvm:=bM E hm
 d r:=bM E hk
 d s:=bM E hx
 simp only [aM] at q
 split at q
 ·rename_i b L i y h1 h2 h3
  split at q
  ·rename_i hi
   cases q
   obtain ⟨c,es,hxm,hc,hb,hmb,g1,g2,g3,g4⟩:=Ya H hvm h1
   rw [h2] at r
   d hy:=de r
   rw [h3] at s
   d hz:=de s
   d hlt:=H.lt hc
   obtain ⟨n,rfl⟩:=nm hi.1
   d hn:n<L.length:=by omega
   d l:es.findIdx? (fun e=>(e.born:Int)==(n:Int))=some n:=by
     rw [Array.findIdx?_eq_some_iff_getElem]
     refine ⟨by omega, ?_,fun j hj=> ?_⟩
     ·d:=g4 n _ (aL (by omega))
      simp [this]
     ·d:=g4 j _ (aL (by omega))
      simp [this];omega
   obtain ⟨t',p⟩: ∃t',L[n]? =some t':=⟨_,aq hn⟩
   d z:b1U n y L=L.set n (t'.1,t'.2.1,y):=by
     unfold b1U
     apply mZ
     intro i
     rw [List.getElem?_modify,fB]
     by_cases hi:n=i
     ·subst hi
      d hL:L[n]=t':=by simpa [aq hn] using p
      simp [p,hn,hL]
     ·simp [hi]
   rw [aK,z]
   obtain ⟨q1,q2⟩:=H.putM hb hc hmb (rK.mod (j:=n) (g:=fun e=>{ e with val:= .int .i64 y }) (u:=(t'.1,t'.2.1,y)) hlt g2 g3 g4 (fun e he=>⟨⟨(g3 n e t' he p).key,rfl⟩,rfl⟩) hn) rfl
   refine ⟨undef,_,_,.inr ⟨?_,rfl⟩,q1,q2,.unk _⟩
   simp [execOp,hop,Instr.entryStore,hxm,hy,hz,kA g1,asInt,asIntOf,l,yE _ g1]
  ·cases q
 ·cases q
end
end
end Go.AI
