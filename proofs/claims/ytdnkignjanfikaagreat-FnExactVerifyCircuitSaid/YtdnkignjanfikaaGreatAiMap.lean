/- Part. -/
import Derived.Test.YtdnkignjanfikaaGreatAiOps4
import Derived.WideKeyRuns
import Derived.MapKept
set_option linter.unusedVariables false
set_option linter.unusedSimpArgs false
namespace Go.AI
structure UP (P:Program) (t k e i:TypeId) (ii ie:TypeInfo):Prop where
 hu:P.underlying t=some (.map k e)
 hk:P.underlying k=some (.array 2 i)
 hi:P.underlying i=some (.int .i64)
 hii:P.info? i=some ii
 hs:ii.size=1
 hc:P.cellsOf i=1
 hie:P.info? e=some ie
 hz:ie.zero=some (.int .i64 0)
theorem Xe {P:Program} {t:TypeId} (h:Xn P t=true): ∃k e i ii ie,UP P t k e i ii ie:=by
 unfold Xn at h
 split at h
 ·rename_i k e c
  split at h
  ·rename_i i ie d a f
   split at h
   ·rename_i ii hi b j
    simp only [aD,beq_iff_eq] at h
    exact ⟨k,e,i,ii,ie,c,d,hi,b,h.1,h.2,a,j⟩
   ·cases h
  ·cases h
 ·cases h
def pj (a b:Int) (t:Tri):Bool:=decide (a=t.1/\b=t.2.1)
theorem MJ {a b:Int}: ∀{L:List Tri},(∀t∈L,pj a b t=false)->i7 a b L=0
 |[],_=>rfl
 | (x,y,v)::r,h=>by
   have h0:=h (x,y,v) (by simp)
   simp only [pj,bw] at h0
   simp only [i7]
   rw [aa h0]
   exact MJ (fun t c=>h t (by simp [c]))
theorem QV {a b:Int}: ∀{L:List Tri} {j:Nat} {t:Tri},(∀i u,i<j->L[i]? =some u->pj a b u=false)->L[j]? =some t->pj a b t=true->i7 a b L=t.2.2
 |[],j,t,_,h,_=>by simp at h
 | (x,y,v)::r,0,t,_,h,c=>by
   simp at h;subst h
   simp only [pj,aC] at c
   simp only [i7]
   rw [ae c]
 | (x,y,v)::r,j+1,t,d,h,c=>by
   have h0:=d 0 (x,y,v) (by omega) rfl
   simp only [pj,bw] at h0
   simp only [i7]
   rw [aa h0]
   exact QV (j:=j) (fun i u hi e=>d (i+1) u (by omega) (by simpa using e)) (by simpa using h) c
theorem Vt {a b v:Int}: ∀{L:List Tri},(∀t∈L,pj a b t=false)->iw a b v L=L++[(a,b,v)]
 |[],_=>rfl
 | (x,y,u)::r,h=>by
   have h0:=h (x,y,u) (by simp)
   simp only [pj,bw] at h0
   simp only [iw]
   rw [aa h0,Vt (fun t c=>h t (by simp [c]))]
   rfl
theorem a1n {a b v:Int}: ∀{L:List Tri} {j:Nat} {t:Tri},(∀i u,i<j->L[i]? =some u->pj a b u=false)->L[j]? =some t->pj a b t=true->iw a b v L=L.set j (a,b,v)
 |[],j,t,_,h,_=>by simp at h
 | (x,y,u)::r,0,t,_,h,c=>by
   simp at h;subst h
   simp only [pj,aC] at c
   simp only [iw]
   rw [ae c]
   rfl
 | (x,y,u)::r,j+1,t,d,h,c=>by
   have h0:=d 0 (x,y,u) (by omega) rfl
   simp only [pj,bw] at h0
   simp only [iw]
   rw [aa h0,a1n (j:=j) (fun i u hi e=>d (i+1) u (by omega) (by simpa using e)) (by simpa using h) c]
   rfl
def lS (a b:Int):Value:= .agg #[.int .i64 a,.int .i64 b]
section
variable {P:Program} {w:World} {t k e i:TypeId} {ii ie:TypeInfo}
theorem RK (M:UP P t k e i ii ie):P.plainKey i=true:=by unfold Program.plainKey;rw [M.hi]
theorem F9 (M:UP P t k e i ii ie) (w:World) (a b:Int):(Go.part i #[.int .i64 a,.int .i64 b] 0).run P w= .ok (.int .i64 a) w/\(Go.part i #[.int .i64 a,.int .i64 b] 1).run P w= .ok (.int .i64 b) w:=
 ⟨run_part_plain w (RK M) rfl,run_part_plain w (RK M) rfl⟩
theorem a9p (M:UP P t k e i ii ie) (w:World) (a b c d:Int):(Op.equal k (lS a b) (lS c d)).run P w= .ok (pj a b (c,d,0)) w:=by
 unfold lS Op.equal Op.maxDepth
 show (Op.equalIn (9999+1) k _ _).run P w=_
 rw [run_equalIn_array w 9999 _ _ M.hk M.hii,M.hc]
 show (Op.eqItems 9999 i 1 _ _ [0,1]).run P w=_
 obtain ⟨j,p2⟩:=F9 M w a b
 obtain ⟨q1,q2⟩:=F9 M w c d
 simp only [Op.eqItems,Sem.run_bind,lJ,cB,j,p2,q1,q2,Result.andThen_ok,run_equalIn_int w 9998 i .i64 .i64 a c M.hi,run_equalIn_int w 9998 i .i64 .i64 b d M.hi]
 by_cases f:a=c
 ·subst f
  by_cases h:b=d
  ·subst h
   simp [p2,pj,run_equalIn_int w 9998 i .i64 .i64 b b M.hi]
  ·simp [p2,q2,h,pj,run_equalIn_int w 9998 i .i64 .i64 b d M.hi]
 ·simp [f,pj]
theorem Yr (M:UP P t k e i ii ie) (w:World) (em:Bool) (n:Nat) (x:Int):(Instr.checkKey em (n+1) i (.int .i64 x)).run P w= .ok () w:=by
 simp [Instr.checkKey,run_underlying M.hi]
theorem Z9 (M:UP P t k e i ii ie) (w:World) (em:Bool) (n:Nat) (a b:Int):(Instr.checkKey em (n+1+1) k (lS a b)).run P w= .ok () w:=by
 obtain ⟨c,p2⟩:=F9 M w a b
 have d:=fun x=>Yr M w em n x
 unfold lS
 simp only [Instr.checkKey,Sem.run_bind,run_underlying M.hk,Result.andThen_ok] at d ⊢
 simp only [Std.Legacy.Range.forIn_eq_forIn_range',Std.Legacy.Range.size,oA,Nat.add_one_sub_one,Nat.div_one]
 rw [show List.range' 0 2 1=[0,1] from rfl]
 simp [List.forIn_cons,List.forIn_nil,Sem.run_bind,run_sizeOf w M.hii,Result.andThen_ok,M.hs,M.hc,c,p2,Instr.checkKey,run_underlying M.hi]
theorem Ba (M:UP P t k e i ii ie) (w:World) (em:Bool) (a b:Int):(Instr.checkKey em 10000 k (lS a b)).run P w= .ok () w:=Z9 M w em 9998 a b
theorem Q1 (M:UP P t k e i ii ie) (w:World) (a b:Int): ∀(es:List MapEntry) (L:List Tri) (n:Nat),L.length=es.length->(∀(j:Nat) (x:MapEntry) (u:Tri),es[j]? =some x->L[j]? =some u->a4O x u)->
 ((Instr.findAsking k (lS a b) es n).run P w= .ok none w/\ ∀u∈L,pj a b u=false)\/
 ∃j u,(Instr.findAsking k (lS a b) es n).run P w= .ok (some (n+j,.int .i64 u.2.2)) w/\L[j]? =some u/\pj a b u=true/\ ∀i u,i<j->L[i]? =some u->pj a b u=false
 |[],[],n,_,_=> .inl ⟨by simp [Instr.findAsking],by simp⟩
 |[],_::_,n,hl,_=>by simp at hl
 |_::_,[],n,hl,_=>by simp at hl
 |x::es,(c,d,v)::L,n,hl,hm=>by
  have m0:=hm 0 x (c,d,v) rfl rfl
  have hr:=a9p M w a b c d
  have hkey:x.key=lS c d:=m0.key
  have e0:pj a b (c,d,0)=pj a b (c,d,v):=rfl
  rw [e0] at hr
  cases hh:pj a b (c,d,v) with
  |true=>
   right
   refine ⟨0,(c,d,v), ?_,rfl,hh,fun i u hi=>by omega⟩
   rw [hh] at hr
   simp [Instr.findAsking,hkey,hr,m0.val]
  |false=>
   rw [hh] at hr
   rcases Q1 M w a b es L (n+1) (by simpa using hl) (fun j x u h1 h2=>hm (j+1) x u (by simpa using h1) (by simpa using h2)) with ⟨g1,g2⟩|⟨j,u,g1,g2,g3,g4⟩
   ·left
    refine ⟨by simp [Instr.findAsking,hkey,hr,g1],fun u hu=> ?_⟩
    rcases b9.1 hu with rfl|hu
    ·exact hh
    ·exact g2 u hu
   ·right
    refine ⟨j+1,u,by simp [Instr.findAsking,hkey,hr,g1,fu,jk 1 j],by simpa using g2,g3,fun i u' hi hu=> ?_⟩
    cases i with
    |zero=>simp at hu;subst hu;exact hh
    |succ i=>exact g4 i u' (by omega) (by simpa using hu)
theorem QS (M:UP P t k e i ii ie) (w:World) (a b:Int) {es:Array MapEntry} {L:List Tri} (c:L.length=es.size) (d: ∀(j:Nat) (x:MapEntry) (u:Tri),es[j]? =some x->L[j]? =some u->a4O x u):
 ((Instr.findKey k (lS a b) es.toList).run P w= .ok none w/\ ∀u∈L,pj a b u=false)\/
 ∃j u,(Instr.findKey k (lS a b) es.toList).run P w= .ok (some (j,.int .i64 u.2.2)) w/\L[j]? =some u/\pj a b u=true/\ ∀i u,i<j->L[i]? =some u->pj a b u=false:=by
 have h:=Q1 M w a b es.toList L 0 (by simpa using c) (fun j x u f l=>d j x u (by simpa using f) l)
 rw [run_findKey_eq w (by rw [M.hk])]
 simpa using h
theorem bB.newM [Frame] {μ:Mu} {h:b8} {w:World} (H:bB μ h w) {b:Nat} (z:h b=none):
 bB (cE μ b (some w.heap.size)) (bT h b ⟨0,true,[[]]⟩) (mw w (.map #[] 0))/\Chg μ h w (cE μ b (some w.heap.size)) (bT h b ⟨0,true,[[]]⟩) (mw w (.map #[] 0)):=by
 have g:=lZ w (.map #[] 0)
 have hmb:μ b=none:=by
  cases hm:μ b with
  |none=>rfl
  |some c'=>obtain ⟨k',a,_⟩:=H.dom b c' hm;rw [z] at a;cases a
 have o: ∀b' k',h b'=some k'->b'≠b:=fun b' k' a e=>by rw [e,z] at a;cases a
 have ch:Chg μ h w (cE μ b (some w.heap.size)) (bT h b ⟨0,true,[[]]⟩) (mw w (.map #[] 0)):=by
  refine ⟨⟨g.1,g.2.1,g.2.2.1,g.2.2.2.1,g.2.2.2.2.2,(fun c' n hs=>⟨g.2.2.2.2.1 c' n,fun b'=> ?_,hs.2⟩),fun c hc=>g.2.2.2.2.1 c (H.frlt c hc)⟩,fun b' k' a=> ?_⟩
  ·unfold cE
   by_cases e:b'=b
   ·rw [ae e];intro d;cases d;omega
   ·rw [aa e];exact hs.1 b'
  ·have e:=o b' k' a
   exact ⟨k',by simp [bT,e,a],.inr (.inr ⟨rfl,fun _=>rfl,rfl,by simp [cE,e],fun c' n=>g.bsize (H.lt n)⟩)⟩
 refine ⟨⟨fun b1 b2 c' d f=> ?_,fun b' c' d=> ?_,fun b' k' a=> ?_,fun b' k' a=> ?_,fun b' c' d=> ?_,fun c hc=>bP (H.frlt c hc) g.2.2.2.1⟩,ch⟩
 ·unfold cE at d f
  by_cases e1:b1=b<;>by_cases e2:b2=b
  ·rw [e1,e2]
  ·rw [ae e1] at d;rw [aa e2] at f;cases d;have:=H.lt f;omega
  ·rw [aa e1] at d;rw [ae e2] at f;cases f;have:=H.lt d;omega
  ·rw [aa e1] at d;rw [aa e2] at f;exact H.inj _ _ _ d f
 ·unfold cE at d
  by_cases e:b'=b
  ·exact ⟨⟨0,true,[[]]⟩,by simp [bT,e],.inr rfl⟩
  ·rw [aa e] at d
   obtain ⟨k',a,k⟩:=H.dom b' c' d
   exact ⟨k',by simp [bT,e,a],k⟩
 ·by_cases e:b'=b
  ·simp [bT,e] at a
   subst a
   exact .inr (.inr ⟨rfl,rfl,w.heap.size,by simp [cE,e],⟨⟨#[],[],pE w _,rfl,rfl,(fun i e t d=>by simp at d),fun i e d=>by simp at d⟩⟩⟩)
  ·simp [bT,e] at a
   rcases H.blk b' k' a with d|⟨k,c',arr',t',lo',p,l,q,r,s,u⟩|⟨k,x,c',l,y⟩
   ·exact .inl ⟨d.1,d.2.1,by simp [cE,e,d.2.2]⟩
   ·exact .inr (.inl ⟨k,c',arr',t',lo',p,by simp [cE,e,l],by rw [g.2.2.2.2.1 c' (H.lt l)];exact q,r,s,fun i row j v d f=>(u i row j v d f).chg ch⟩)
   ·exact .inr (.inr ⟨k,x,c',by simp [cE,e,l],y.keep (g.2.2.2.2.1 c' (H.lt l))⟩)
 ·by_cases e:b'=b
  ·simp [bT,e] at a;subst a
   intro row m
   simp at m;subst m
   exact ⟨fun h=>by simp at h,fun v hv=>by simp at hv⟩
  ·simp [bT,e] at a;exact H.rows b' k' a
 ·unfold cE at d
  split at d
  ·cases d;intro f;have:=H.frlt _ f;omega
  ·exact H.frame b' c' d
def B8 (w:World) (c:Nat) (o:Obj):World:={ w with heap:=w.heap.setIfInBounds c o }
theorem Yk {w:World} {c:Nat} {o:Obj} (h:c<w.heap.size):(B8 w c o).heap[c]? =some o:=by simp [B8,h]
theorem H5 {w:World} {c c':Nat} {o:Obj} (h:c'≠c):(B8 w c o).heap[c']? =w.heap[c']? :=by simp [B8,cw,Ne.symm h]
theorem bB.putM [Frame] {μ:Mu} {h:b8} {w:World} (H:bB μ h w) {b c:Nat} {rows rows':List (List V)} {o:Obj} (hb:h b=some ⟨0,true,rows⟩) (hc:μ b=some c) (s:sB w c rows) (t:sB (B8 w c o) c rows') (hl:rows'.length=rows.length):
 bB μ (bT h b ⟨0,true,rows'⟩) (B8 w c o)/\Chg μ h w μ (bT h b ⟨0,true,rows'⟩) (B8 w c o):=by
 have l:(B8 w c o).heap.size=w.heap.size:=by simp [B8]
 have m: ∀c',bsize (B8 w c o) c'=bsize w c':=fun c'=>by
  by_cases e:c'=c
  ·subst e;rw [t.bsize,s.bsize]
  ·unfold bsize;rw [H5 e]
 have ch:Chg μ h w μ (bT h b ⟨0,true,rows'⟩) (B8 w c o):=by
  refine ⟨⟨rfl,rfl,rfl,by rw [l];exact aw _,aw _,(fun c' p hs=>⟨H5 (fun e=>hs.1 b (e▸hc)),hs⟩),fun c' p=>H5 (fun e=>H.frame _ _ hc (e▸p))⟩,fun b' k' a=> ?_⟩
  by_cases e:b'=b
  ·subst e
   rw [hb] at a;cases a
   exact ⟨⟨0,true,rows'⟩,by simp [bT],.inr (.inr ⟨rfl,fun _=>rfl,hl,rfl,fun c' _=>m c'⟩)⟩
  ·exact ⟨k',by simp [bT,e,a],.inr (.inr ⟨rfl,fun _=>rfl,rfl,rfl,fun c' _=>m c'⟩)⟩
 refine ⟨⟨H.inj,fun b' c' k=> ?_,fun b' k' a=> ?_,fun b' k' a=> ?_,H.frame,fun c hc=>by rw [l];exact H.frlt c hc⟩,ch⟩
 ·by_cases e:b'=b
  ·exact ⟨⟨0,true,rows'⟩,by simp [bT,e],.inr rfl⟩
  ·obtain ⟨k',a,d⟩:=H.dom b' c' k
   exact ⟨k',by simp [bT,e,a],d⟩
 ·by_cases e:b'=b
  ·simp [bT,e] at a
   subst a
   exact .inr (.inr ⟨rfl,rfl,c,by rw [e];exact hc,t⟩)
  ·simp [bT,e] at a
   have q: ∀c',μ b'=some c'->c'≠c:=fun c' k e2=>e (H.inj _ _ _ (e2▸k) hc)
   rcases H.blk b' k' a with k|⟨d,c',arr',t',lo',u,f,x,y,z,hv'⟩|⟨d,ho',c',f,hb'⟩
   ·exact .inl k
   ·exact .inr (.inl ⟨d,c',arr',t',lo',u,f,by rw [H5 (q c' f)];exact x,y,z,fun i row j v k h2=>(hv' i row j v k h2).chg ch⟩)
   ·exact .inr (.inr ⟨d,ho',c',f,hb'.keep (H5 (q c' f))⟩)
 ·by_cases e:b'=b
  ·simp [bT,e] at a;subst a
   intro row r
   exact ⟨fun h=>by simp at h,fun v hv=>by obtain ⟨n,rfl⟩:=t.lit r hv;exact ⟨rfl,fun h=>by cases h⟩⟩
  ·simp [bT,e] at a;exact H.rows b' k' a
theorem a9C {h:b8} {v:V} {b:Nat} {L:List Tri} (a:rE h v=some (b,L)):v= .mp b/\h b=some ⟨0,true,[bz L]⟩:=by
 unfold rE at a
 split at a
 ·rename_i p
  split at a
  ·rename_i cs c
   split at a
   ·rename_i L' d
    cases a
    rw [Ag d] at c
    exact ⟨rfl,c⟩
   ·cases a
  ·cases a
 ·cases a
theorem Ry: ∀{L L':List Tri},bz L=bz L'->L=L'
 |L,L',h=>by
  have a:=vd L
  rw [h,vd L'] at a
  cases a;rfl
section
variable {P:Program} {μ:Mu} {h:b8} {w:World} {a:Act} {f:Nat->V}
theorem Xp [Frame] (H:bB μ h w) {v:V} {x:Value} {b:Nat} {L:List Tri} (m:aY μ h w v x) (n:rE h v=some (b,L)):
 ∃c es,x= .map (some c)/\μ b=some c/\h b=some ⟨0,true,[bz L]⟩/\sB w c [bz L]/\w.heap[c]? =some (.map es es.size)/\L.length=es.size/\
  (∀(i:Nat) (e:MapEntry) (t:Tri),es[i]? =some e->L[i]? =some t->a4O e t)/\ ∀(i:Nat) (e:MapEntry),es[i]? =some e->e.born=i:=by
 obtain ⟨rfl,f⟩:=a9C n
 cases m with
 |mp _ _ k a z j=>
  rw [f] at a;cases a
  obtain ⟨c,hc,rfl⟩:=j rfl rfl
  rcases H.blk b _ f with ⟨o,_⟩|⟨p,_⟩|⟨_,_,c',d,l⟩
  ·cases o
  ·exact absurd p (by simp)
  ·rw [hc] at d;cases d
   obtain ⟨es,L',q,r,s,u,y⟩:=l.ex
   have:L'=L:=by
    have:=List.cons.inj r
    exact (Ry this.1).symm
   subst this
   exact ⟨c,es,rfl,hc,f,l,q,s,u,y⟩
theorem Ji [Frame] {v:V} {x:Value} {p q:Int} (e:aY μ h w v x) (a:mapKey v=some (p,q)):x=lS p q:=by
 unfold mapKey at a
 split at a
 ·cases a
  cases e with
  |agg _ xs d b hc=>
   have h0:=hc 0 _ rfl
   have f:=hc 1 _ rfl
   have e0:=dd h0
   have e1:=dd f
   simp at d
   unfold lS
   congr 1
   apply Array.ext
   ·simpa using d
   ·intro i c j
    match i,c with
    |0,h=>simpa [Array.getD_eq_getD_getElem?,aL h] using e0
    |1,h=>simpa [Array.getD_eq_getD_getElem?,aL h] using e1
 ·cases a
theorem kE {c:Nat} {es:Array MapEntry} {n:Nat} (h:w.heap[c]? =some (.map es n)):(getObj c).run P w= .ok (.map es n) w:=by
 simp [getObj,Sem.run,h]
theorem yQ {c:Nat} {es:Array MapEntry} {n:Nat} (o:Obj) (h:w.heap[c]? =some (.map es n)):(setObj c o).run P w= .ok () (B8 w c o):=by
 simp [setObj,Sem.run,h,B8]
theorem VO {t k e i:TypeId} {ii ie:TypeInfo} (M:UP P t k e i ii ie) (w:World):(zeroValue e).run P w= .ok (.int .i64 0) w:=by
 simp [zeroValue,typeInfo,M.hie,M.hz]
theorem b0g (n:Nat) (a b:Int):Instr.sameBits (n+1+1) (lS a b) (lS a b)=true:=by
 simp [lS,Instr.sameBits]
theorem Nd (w:World) (a b:Int):(Instr.keyThatStays (lS a b) (lS a b)).run P w= .ok (lS a b) w:=by
 have:Instr.sameBits 10000 (lS a b) (lS a b)=true:=b0g 9998 a b
 simp [Instr.keyThatStays,this]
theorem Ms {a b:Int}: ∀{L:List Tri},(∀t∈L,pj a b t=false)->yM a b L=L.length
 |[],_=>rfl
 | (x,y,v)::r,h=>by
   have h0:=h (x,y,v) (by simp)
   simp only [pj,bw] at h0
   simp only [yM]
   rw [aa h0,Ms (fun t c=>h t (by simp [c]))]
   rfl
theorem SL {a b:Int}: ∀{L:List Tri} {j:Nat} {t:Tri},(∀i u,i<j->L[i]? =some u->pj a b u=false)->L[j]? =some t->pj a b t=true->yM a b L=j
 |[],j,t,_,h,_=>by simp at h
 | (x,y,u)::r,0,t,_,h,c=>by
   simp at h;subst h
   simp only [pj,aC] at c
   simp only [yM]
   rw [ae c]
 | (x,y,u)::r,j+1,t,d,h,c=>by
   have h0:=d 0 (x,y,u) (by omega) rfl
   simp only [pj,bw] at h0
   simp only [yM]
   rw [aa h0,SL (j:=j) (fun i u hi e=>d (i+1) u (by omega) (by simpa using e)) (by simpa using h) c]
theorem sB.push {w:World} {c:Nat} {es:Array MapEntry} {L:List Tri} {p q v:Int} (hc:c<w.heap.size) (d:L.length=es.size) (f: ∀(i:Nat) (e:MapEntry) (t:Tri),es[i]? =some e->L[i]? =some t->a4O e t) (j: ∀(i:Nat) (e:MapEntry),es[i]? =some e->e.born=i):
 sB (B8 w c (.map (es.push { key:=lS p q,val:= .int .i64 v,born:=es.size }) (es.size+1))) c [bz (L++[(p,q,v)])]:=by
 refine ⟨⟨es.push { key:=lS p q,val:= .int .i64 v,born:=es.size },L++[(p,q,v)],by rw [Yk hc];simp,rfl,by simp [d],fun i e t a b=> ?_,fun i e a=> ?_⟩⟩
 ·rw [iI] at a
  split at a
  ·rename_i hi
   cases a
   subst hi
   rw [<-d,bQ (aw _),Nat.sub_self] at b
   simp at b;subst b
   exact ⟨rfl,rfl⟩
  ·rename_i hi
   have k:i<es.size:=by
    rcases cx i es.size with h|h
    ·exact h
    ·rw [eK h] at a;cases a
   rw [bG (by omega)] at b
   exact f i e t a b
 ·rw [iI] at a
  split at a
  ·rename_i hi;cases a;exact hi.symm
  ·exact j i e a
theorem sB.mod {w:World} {c j:Nat} {es:Array MapEntry} {L:List Tri} {g:MapEntry->MapEntry} {u:Tri} (hc:c<w.heap.size) (k:L.length=es.size) (l: ∀(i:Nat) (e:MapEntry) (t:Tri),es[i]? =some e->L[i]? =some t->a4O e t) (f: ∀(i:Nat) (e:MapEntry),es[i]? =some e->e.born=i)
 (h: ∀e,es[j]? =some e->a4O (g e) u/\(g e).born=e.born) (m:j<L.length):
 sB (B8 w c (.map (es.modify j g) es.size)) c [bz (L.set j u)]:=by
 refine ⟨⟨es.modify j g,L.set j u,by rw [Yk hc];simp,rfl,by simp [k],fun i e t a d=> ?_,fun i e a=> ?_⟩⟩
 ·rw [dT] at a
  rw [fA] at d
  by_cases hi:j=i
  ·subst hi
   rw [ae rfl] at a
   rw [ae rfl,ae m] at d
   cases d
   cases b:es[j]? with
   |none=>rw [b] at a;cases a
   |some e0=>rw [b] at a;cases a;exact (h e0 b).1
  ·rw [aa hi] at a
   rw [aa hi] at d
   exact l i e t a d
 ·rw [dT] at a
  by_cases hi:j=i
  ·subst hi
   rw [ae rfl] at a
   cases b:es[j]? with
   |none=>rw [b] at a;cases a
   |some e0=>rw [b] at a;cases a;rw [(h e0 b).2];exact f _ _ b
  ·rw [aa hi] at a;exact f i e a
theorem a9P [Frame] (H:bB μ h w) {o:Oper} {t:TypeId} (c:o.op= .makeMap t none) {C:ce} {ow:FuncId->List Nat} {new:Nat} {v:V} {u:Upd}
 (b:aM C ow .mkMap (Opd.ev f) h new=some (v,u)):ix P o a μ h w v u:=by
 simp only [aM] at b
 split at b
 ·rename_i hn
  cases b
  have d:h new=none:=by simpa using hn
  obtain ⟨q1,q2⟩:=H.newM (w:=w) d
  refine ⟨.map (some w.heap.size),_,_,.inl ?_,q1,q2,.mp new _ ⟨0,true,[[]]⟩ (by simp [g9,bT]) ⟨_,rfl⟩ (fun _ _=>⟨_,by simp [cE],rfl⟩)⟩
  simp [execOp,c,Instr.makeMap,mw]
 ·cases b
theorem a5E [Frame] (H:bB μ h w) (E:gg μ h w f a) {o:Oper} {t:TypeId} {m k:Operand} {m' k':Opd} (d:o.op= .lookup t m k false) (hm:bA m=some m') (hk:bA k=some k') (ht:Xn P t=true)
 {C:ce} {ow:FuncId->List Nat} {new:Nat} {v:V} {u:Upd} (i:aM C ow (.mapGet m' k') (Opd.ev f) h new=some (v,u)):ix P o a μ h w v u:=by
 obtain ⟨kt,et,it,ii,ie,M⟩:=Xe ht
 have l:=bM E hm
 have n:=bM E hk
 simp only [aM] at i
 split at i
 ·rename_i b L p q h1 h2
  cases i
  obtain ⟨c,es,y,hc,hb,hmb,z,g2,g3,g4⟩:=Xp H l h1
  have hy:=Ji n h2
  refine .quiet H (x:= .int .i64 (i7 p q L)) ?_ (.lit _)
  have e:=Ba M w es.isEmpty p q
  rcases QS M w p q g2 g3 with ⟨r,s⟩|⟨j,t',r,s,r3,r4⟩
  ·rw [MJ s]
   simp [execOp,d,Instr.lookup,y,hy,run_underlying M.hu,kE z,e,r,VO M]
  ·rw [QV r4 s r3]
   simp [execOp,d,Instr.lookup,y,hy,run_underlying M.hu,kE z,e,r]
 ·cases i
theorem a4a [Frame] (H:bB μ h w) (E:gg μ h w f a) {o:Oper} {t:TypeId} {m k x:Operand} {m' k' x':Opd} (i:o.op= .mapUpdate t m k x) (hm:bA m=some m') (hk:bA k=some k') (hx:bA x=some x') (ht:Xn P t=true)
 {C:ce} {ow:FuncId->List Nat} {new:Nat} {v:V} {u:Upd} (hs:aM C ow (.mapSet m' k' x') (Opd.ev f) h new=some (v,u)):ix P o a μ h w v u:=by
 obtain ⟨kt,et,it,ii,ie,M⟩:=Xe ht
 have hvm:=bM E hm
 have hvk:=bM E hk
 have l:=bM E hx
 simp only [aM] at hs
 split at hs
 ·rename_i b L p q y h1 h2 h3
  cases hs
  obtain ⟨c,es,n,hc,hb,r,g1,g2,g3,g4⟩:=Xp H hvm h1
  have hy:=Ji hvk h2
  rw [h3] at l
  have hz:=dd l
  have s:=H.lt hc
  have z:=Ba M w false p q
  rcases QS M w p q g2 g3 with ⟨r1,d⟩|⟨j,t',r1,d,r3,r4⟩
  ·rw [Vt d]
   obtain ⟨q1,q2⟩:=H.putM hb hc r (sB.push (p:=p) (q:=q) (v:=y) s g2 g3 g4) rfl
   refine ⟨undef,_,_,.inr ⟨?_,rfl⟩,q1,q2,.unk _⟩
   simp [execOp,i,Instr.mapUpdate,n,hy,hz,run_underlying M.hu,kE g1,z,r1,yQ _ g1]
  ·rw [a1n r4 d r3]
   have hj:j<L.length:=by
    rcases cx j L.length with h|h
    ·exact h
    ·rw [bD h] at d;cases d
   have hes:es[j]? =some es[j]:=aL (by omega)
   have hkey:es[j].key=lS p q:=by
    have:=(g3 j _ _ hes d).key
    simp only [pj,aC] at r3
    rw [this, <-r3.1, <-r3.2];rfl
   obtain ⟨q1,q2⟩:=H.putM hb hc r (sB.mod (j:=j) (g:=fun e=>{ e with key:=lS p q,val:= .int .i64 y }) (u:=(p,q,y)) s g2 g3 g4 (fun e _=>⟨⟨rfl,rfl⟩,rfl⟩) hj) rfl
   refine ⟨undef,_,_,.inr ⟨?_,rfl⟩,q1,q2,.unk _⟩
   simp [execOp,i,Instr.mapUpdate,n,hy,hz,run_underlying M.hu,kE g1,z,r1,hes,hkey,Nd,yQ _ g1]
 ·cases hs
theorem a4J [Frame] (H:bB μ h w) (E:gg μ h w f a) {o:Oper} {t:TypeId} {m k:Operand} {m' k':Opd} (s:o.op= .mapEntry t m k) (hm:bA m=some m') (hk:bA k=some k') (ht:Xn P t=true)
 {C:ce} {ow:FuncId->List Nat} {new:Nat} {v:V} {u:Upd} (hs:aM C ow (.mapEnt m' k') (Opd.ev f) h new=some (v,u)):ix P o a μ h w v u:=by
 obtain ⟨kt,et,it,ii,ie,M⟩:=Xe ht
 have hvm:=bM E hm
 have hvk:=bM E hk
 simp only [aM] at hs
 split at hs
 ·rename_i b L p q h1 h2
  cases hs
  obtain ⟨c,es,z,hc,hb,hmb,g1,g2,g3,g4⟩:=Xp H hvm h1
  have hy:=Ji hvk h2
  have hlt:=H.lt hc
  have hck:=Ba M w false p q
  have two: ∀{μ':Mu} {h':b8} {w':World} (x y:Int),aY μ' h' w' (.tup [.lit (.int .i64 x),.lit (.int .i64 y)]) (.tuple #[.int .i64 x,.int .i64 y]):=fun x y=>
   .tup _ _ rfl (fun i v hi=>by
    match i,hi with
    |0,hi=>simp at hi;subst hi;exact .lit _
    |1,hi=>simp at hi;subst hi;exact .lit _)
  rcases QS M w p q g2 g3 with ⟨r1,d⟩|⟨j,t',r1,d,r3,r4⟩
  ·rw [MJ d,Ms d,show Ho p q L=L++[(p,q,0)] by unfold Ho;rw [Ms d,aa (Nat.lt_irrefl _)]]
   obtain ⟨q1,q2⟩:=H.putM hb hc hmb (sB.push (p:=p) (q:=q) (v:=0) hlt g2 g3 g4) rfl
   refine ⟨.tuple #[.int .i64 0,.int .i64 (L.length:Nat)],_,_,.inl ?_,q1,q2,two _ _⟩
   simp [execOp,s,Instr.mapEntry,z,hy,run_underlying M.hu,kE g1,hck,r1,VO M,yQ _ g1,goInt,g2]
  ·have hj:j<L.length:=by
    rcases cx j L.length with h|h
    ·exact h
    ·rw [bD h] at d;cases d
   rw [QV r4 d r3,SL r4 d r3,show Ho p q L=L by unfold Ho;rw [SL r4 d r3,ae hj]]
   have r:es[j]? =some es[j]:=aL (by omega)
   have l:=r3
   simp only [pj,aC] at l
   have n:=g3 j _ _ r d
   have hkey:es[j].key=lS p q:=by
    rw [n.key, <-l.1, <-l.2];rfl
   have bT:L.set j t'=L:=by
    apply n8
    intro i
    rw [fA]
    by_cases hi:j=i
    ·subst hi;rw [ae rfl,ae hj,d]
    ·rw [aa hi]
   obtain ⟨q1,q2⟩:=H.putM hb hc hmb (sB.mod (j:=j) (g:=fun e=>{ e with key:=lS p q }) (u:=t') hlt g2 g3 g4 (fun e he=>by
    rw [r] at he;cases he
    exact ⟨⟨by rw [<-l.1, <-l.2];rfl,n.val⟩,rfl⟩) hj) rfl
   rw [bT] at q1 q2
   refine ⟨.tuple #[.int .i64 t'.2.2,.int .i64 (j:Nat)],_,_,.inl ?_,q1,q2,two _ _⟩
   simp [execOp,s,Instr.mapEntry,z,hy,run_underlying M.hu,kE g1,hck,r1,r,hkey,Nd,yQ _ g1,goInt,g4 j _ r]
 ·cases hs
theorem a4H [Frame] (H:bB μ h w) (E:gg μ h w f a) {o:Oper} {t:TypeId} {m k x:Operand} {m' k' x':Opd} (z:o.op= .entryStore t m k x) (hm:bA m=some m') (hk:bA k=some k') (hx:bA x=some x')
 {C:ce} {ow:FuncId->List Nat} {new:Nat} {v:V} {u:Upd} (p:aM C ow (.mapPut m' k' x') (Opd.ev f) h new=some (v,u)):ix P o a μ h w v u:=by
 have hvm:=bM E hm
 have q:=bM E hk
 have r:=bM E hx
 simp only [aM] at p
 split at p
 ·rename_i b L i y h1 h2 h3
  split at p
  ·rename_i hi
   cases p
   obtain ⟨c,es,hxm,hc,hb,hmb,g1,g2,g3,g4⟩:=Xp H hvm h1
   rw [h2] at q
   have hy:=dd q
   rw [h3] at r
   have hz:=dd r
   have hlt:=H.lt hc
   obtain ⟨n,rfl⟩:=nw hi.1
   have hn:n<L.length:=by omega
   have d:es.findIdx? (fun e=>(e.born:Int)==(n:Int))=some n:=by
    rw [Array.findIdx?_eq_some_iff_getElem]
    refine ⟨by omega, ?_,fun j hj=> ?_⟩
    ·have:=g4 n _ (aL (by omega))
     simp [this]
    ·have:=g4 j _ (aL (by omega))
     simp [this];omega
   obtain ⟨t',l⟩: ∃t',L[n]? =some t':=⟨_,aq hn⟩
   have s:b6x n y L=L.set n (t'.1,t'.2.1,y):=by
    unfold b6x
    apply n8
    intro i
    rw [List.getElem?_modify,fA]
    by_cases hi:n=i
    ·subst hi
     have hL:L[n]=t':=by simpa [aq hn] using l
     simp [l,hn,hL]
    ·simp [hi]
   rw [aK,s]
   obtain ⟨q1,q2⟩:=H.putM hb hc hmb (sB.mod (j:=n) (g:=fun e=>{ e with val:= .int .i64 y }) (u:=(t'.1,t'.2.1,y)) hlt g2 g3 g4 (fun e he=>⟨⟨(g3 n e t' he l).key,rfl⟩,rfl⟩) hn) rfl
   refine ⟨undef,_,_,.inr ⟨?_,rfl⟩,q1,q2,.unk _⟩
   simp [execOp,z,Instr.entryStore,hxm,hy,hz,kE g1,asInt,asIntOf,d,yQ _ g1]
  ·cases p
 ·cases p
end
end
end Go.AI
