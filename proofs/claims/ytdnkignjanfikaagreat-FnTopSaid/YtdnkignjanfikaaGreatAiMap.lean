/- Part. -/
import Derived.Test.YtdnkignjanfikaaGreatAiOps4
import Derived.WideKeyRuns
import Derived.MapKept
set_option linter.unusedVariables false
set_option linter.unusedSimpArgs false
namespace Go.AI
structure TH (P:Program) (t k e i:TypeId) (ii ie:TypeInfo):Prop where
 hu:P.underlying t=some (.map k e)
 hk:P.underlying k=some (.array 2 i)
 hi:P.underlying i=some (.int .i64)
 hii:P.info? i=some ii
 hs:ii.size=1
 hc:P.cellsOf i=1
 hie:P.info? e=some ie
 hz:ie.zero=some (.int .i64 0)
theorem Xc {P:Program} {t:TypeId} (h:WZ P t=true): ∃k e i ii ie,TH P t k e i ii ie:=by
 unfold WZ at h
 split at h
 ·rename_i k e c
  split at h
  ·rename_i i ie d a f
   split at h
   ·rename_i ii hi b j
    simp only [aB,beq_iff_eq] at h
    exact ⟨k,e,i,ii,ie,c,d,hi,b,h.1,h.2,a,j⟩
   ·cases h
  ·cases h
 ·cases h
def sV (a b:Int) (t:Tri):Bool:=decide (a=t.1/\b=t.2.1)
theorem MN {a b:Int}: ∀{L:List Tri},(∀t∈L,sV a b t=false)->j5 a b L=0
 |[],_=>rfl
 | (x,y,v)::r,h=>by
   have h0:=h (x,y,v) sm
   simp only [sV,cg] at h0
   simp only [j5]
   rw [a7 h0]
   exact MN (fun t c=>h t (by simp [c]))
theorem RM {a b:Int}: ∀{L:List Tri} {j:Nat} {t:Tri},(∀i u,i<j->L[i]? =some u->sV a b u=false)->L[j]? =some t->sV a b t=true->j5 a b L=t.2.2
 |[],j,t,_,h,_=>by simp at h
 | (x,y,v)::r,0,t,_,h,c=>by
   simp at h;subst h
   simp only [sV,aA] at c
   simp only [j5]
   rw [aa c]
 | (x,y,v)::r,j+1,t,d,h,c=>by
   have h0:=d 0 (x,y,v) om rfl
   simp only [sV,cg] at h0
   simp only [j5]
   rw [a7 h0]
   exact RM (j:=j) (fun i u hi e=>d (i+1) u om (by simpa using e)) (by simpa using h) c
theorem VE {a b v:Int}: ∀{L:List Tri},(∀t∈L,sV a b t=false)->jp a b v L=L++[(a,b,v)]
 |[],_=>rfl
 | (x,y,u)::r,h=>by
   have h0:=h (x,y,u) sm
   simp only [sV,cg] at h0
   simp only [jp]
   rw [a7 h0,VE (fun t c=>h t (by simp [c]))]
   rfl
theorem YV {a b v:Int}: ∀{L:List Tri} {j:Nat} {t:Tri},(∀i u,i<j->L[i]? =some u->sV a b u=false)->L[j]? =some t->sV a b t=true->jp a b v L=L.set j (a,b,v)
 |[],j,t,_,h,_=>by simp at h
 | (x,y,u)::r,0,t,_,h,c=>by
   simp at h;subst h
   simp only [sV,aA] at c
   simp only [jp]
   rw [aa c]
   rfl
 | (x,y,u)::r,j+1,t,d,h,c=>by
   have h0:=d 0 (x,y,u) om rfl
   simp only [sV,cg] at h0
   simp only [jp]
   rw [a7 h0,YV (j:=j) (fun i u hi e=>d (i+1) u om (by simpa using e)) (by simpa using h) c]
   rfl
def o3 (a b:Int):Value:= .agg #[.int .i64 a,.int .i64 b]
section
variable {P:Program} {w:World} {t k e i:TypeId} {ii ie:TypeInfo}
theorem T5 (M:TH P t k e i ii ie):P.plainKey i=true:=by unfold Program.plainKey;rw [M.hi]
theorem GE (M:TH P t k e i ii ie) (w:World) (a b:Int):(Go.part i #[.int .i64 a,.int .i64 b] 0).run P w= .ok (.int .i64 a) w/\(Go.part i #[.int .i64 a,.int .i64 b] 1).run P w= .ok (.int .i64 b) w:=
 ⟨run_part_plain w (T5 M) rfl,run_part_plain w (T5 M) rfl⟩
theorem a7j (M:TH P t k e i ii ie) (w:World) (a b c d:Int):(Op.equal k (o3 a b) (o3 c d)).run P w= .ok (sV a b (c,d,0)) w:=by
 unfold o3 Op.equal Op.maxDepth
 show (Op.equalIn (9999+1) k _ _).run P w=_
 rw [run_equalIn_array w 9999 _ _ M.hk M.hii,M.hc]
 show (Op.eqItems 9999 i 1 _ _ [0,1]).run P w=_
 obtain ⟨j,p2⟩:=GE M w a b
 obtain ⟨q1,q2⟩:=GE M w c d
 simp only [Op.eqItems,Sem.run_bind,nW,cK,j,p2,q1,q2,Result.andThen_ok,run_equalIn_int w 9998 i .i64 .i64 a c M.hi,run_equalIn_int w 9998 i .i64 .i64 b d M.hi]
 by_cases f:a=c
 ·subst f
  by_cases h:b=d
  ·subst h
   simp [p2,sV,run_equalIn_int w 9998 i .i64 .i64 b b M.hi]
  ·simp [p2,q2,h,sV,run_equalIn_int w 9998 i .i64 .i64 b d M.hi]
 ·simp [f,sV]
theorem WN (M:TH P t k e i ii ie) (w:World) (em:Bool) (n:Nat) (x:Int):(Instr.checkKey em (n+1) i (.int .i64 x)).run P w= .ok () w:=by
 simp [Instr.checkKey,run_underlying M.hi]
theorem XO (M:TH P t k e i ii ie) (w:World) (em:Bool) (n:Nat) (a b:Int):(Instr.checkKey em (n+1+1) k (o3 a b)).run P w= .ok () w:=by
 obtain ⟨c,p2⟩:=GE M w a b
 have d:=fun x=>WN M w em n x
 unfold o3
 simp only [Instr.checkKey,Sem.run_bind,run_underlying M.hk,Result.andThen_ok] at d ⊢
 simp only [Std.Legacy.Range.forIn_eq_forIn_range',Std.Legacy.Range.size,nv,Nat.add_one_sub_one,Nat.div_one]
 rw [show List.range' 0 2 1=[0,1] from rfl]
 simp [List.forIn_cons,List.forIn_nil,Sem.run_bind,run_sizeOf w M.hii,Result.andThen_ok,M.hs,M.hc,c,p2,Instr.checkKey,run_underlying M.hi]
theorem Cj (M:TH P t k e i ii ie) (w:World) (em:Bool) (a b:Int):(Instr.checkKey em 10000 k (o3 a b)).run P w= .ok () w:=XO M w em 9998 a b
theorem Sl (M:TH P t k e i ii ie) (w:World) (a b:Int): ∀(es:List MapEntry) (L:List Tri) (n:Nat),L.length=es.length->(∀(j:Nat) (x:MapEntry) (u:Tri),es[j]? =some x->L[j]? =some u->a3k x u)->
 ((Instr.findAsking k (o3 a b) es n).run P w= .ok none w/\ ∀u∈L,sV a b u=false)\/
 ∃j u,(Instr.findAsking k (o3 a b) es n).run P w= .ok (some (n+j,.int .i64 u.2.2)) w/\L[j]? =some u/\sV a b u=true/\ ∀i u,i<j->L[i]? =some u->sV a b u=false
 |[],[],n,_,_=> .inl ⟨by simp [Instr.findAsking],by simp⟩
 |[],_::_,n,hl,_=>by simp at hl
 |_::_,[],n,hl,_=>by simp at hl
 |x::es,(c,d,v)::L,n,hl,hm=>by
  have m0:=hm 0 x (c,d,v) rfl rfl
  have hr:=a7j M w a b c d
  have hkey:x.key=o3 c d:=m0.key
  have e0:sV a b (c,d,0)=sV a b (c,d,v):=rfl
  rw [e0] at hr
  cases hh:sV a b (c,d,v) with
  |true=>
   right
   refine ⟨0,(c,d,v), ?_,rfl,hh,fun i u hi=>by omega⟩
   rw [hh] at hr
   simp [Instr.findAsking,hkey,hr,m0.val]
  |false=>
   rw [hh] at hr
   rcases Sl M w a b es L (n+1) (by simpa using hl) (fun j x u h1 h2=>hm (j+1) x u (by simpa using h1) (by simpa using h2)) with ⟨g1,g2⟩|⟨j,u,g1,g2,g3,g4⟩
   ·left
    refine ⟨by simp [Instr.findAsking,hkey,hr,g1],fun u hu=> ?_⟩
    rcases aW.1 hu with rfl|hu
    ·exact hh
    ·exact g2 u hu
   ·right
    refine ⟨j+1,u,by simp [Instr.findAsking,hkey,hr,g1,gt,jd 1 j],by simpa using g2,g3,fun i u' hi hu=> ?_⟩
    cases i with
    |zero=>simp at hu;subst hu;exact hh
    |succ i=>exact g4 i u' om (by simpa using hu)
theorem QF (M:TH P t k e i ii ie) (w:World) (a b:Int) {es:Array MapEntry} {L:List Tri} (c:L.length=es.size) (d: ∀(j:Nat) (x:MapEntry) (u:Tri),es[j]? =some x->L[j]? =some u->a3k x u):
 ((Instr.findKey k (o3 a b) es.toList).run P w= .ok none w/\ ∀u∈L,sV a b u=false)\/
 ∃j u,(Instr.findKey k (o3 a b) es.toList).run P w= .ok (some (j,.int .i64 u.2.2)) w/\L[j]? =some u/\sV a b u=true/\ ∀i u,i<j->L[i]? =some u->sV a b u=false:=by
 have h:=Sl M w a b es.toList L 0 (by simpa using c) (fun j x u f l=>d j x u (by simpa using f) l)
 rw [run_findKey_eq w (by rw [M.hk])]
 simpa using h
theorem bG.newM [Frame] {μ:Mu} {h:ba} {w:World} (H:bG μ h w) {b:Nat} (z:h b=none):
 bG (cM μ b (some w.heap.size)) (ci h b ⟨0,true,[[]]⟩) (p8 w (.map #[] 0))/\Chg μ h w (cM μ b (some w.heap.size)) (ci h b ⟨0,true,[[]]⟩) (p8 w (.map #[] 0)):=by
 have g:=o7 w (.map #[] 0)
 have hmb:μ b=none:=by
  cases hm:μ b with
  |none=>rfl
  |some c'=>obtain ⟨k',a,_⟩:=H.dom b c' hm;rw [z] at a;cases a
 have o: ∀b' k',h b'=some k'->b'≠b:=fun b' k' a e=>by rw [e,z] at a;cases a
 have ch:Chg μ h w (cM μ b (some w.heap.size)) (ci h b ⟨0,true,[[]]⟩) (p8 w (.map #[] 0)):=by
  refine ⟨⟨g.1,g.2.1,g.2.2.1,g.2.2.2.1,g.2.2.2.2.2,(fun c' n hs=>⟨g.2.2.2.2.1 c' n,fun b'=> ?_,hs.2⟩),fun c hc=>g.2.2.2.2.1 c (H.frlt c hc)⟩,fun b' k' a=> ?_⟩
  ·unfold cM
   by_cases e:b'=b
   ·rw [aa e];intro d;cases d;omega
   ·rw [a7 e];exact hs.1 b'
  ·have e:=o b' k' a
   exact ⟨k',by simp [ci,e,a],.inr (.inr ⟨rfl,fun _=>rfl,rfl,by simp [cM,e],fun c' n=>g.bsize (H.lt n)⟩)⟩
 refine ⟨⟨fun b1 b2 c' d f=> ?_,fun b' c' d=> ?_,fun b' k' a=> ?_,fun b' k' a=> ?_,fun b' c' d=> ?_,fun c hc=>co (H.frlt c hc) g.2.2.2.1⟩,ch⟩
 ·unfold cM at d f
  by_cases e1:b1=b<;>by_cases e2:b2=b
  ·rw [e1,e2]
  ·rw [aa e1] at d;rw [a7 e2] at f;cases d;have:=H.lt f;omega
  ·rw [a7 e1] at d;rw [aa e2] at f;cases f;have:=H.lt d;omega
  ·rw [a7 e1] at d;rw [a7 e2] at f;exact H.inj _ _ _ d f
 ·unfold cM at d
  by_cases e:b'=b
  ·exact ⟨⟨0,true,[[]]⟩,by simp [ci,e],.inr rfl⟩
  ·rw [a7 e] at d
   obtain ⟨k',a,k⟩:=H.dom b' c' d
   exact ⟨k',by simp [ci,e,a],k⟩
 ·by_cases e:b'=b
  ·simp [ci,e] at a
   subst a
   exact .inr (.inr ⟨rfl,rfl,w.heap.size,by simp [cM,e],⟨⟨#[],[],ti w _,rfl,rfl,(fun i e t d=>by simp at d),fun i e d=>by simp at d⟩⟩⟩)
  ·simp [ci,e] at a
   rcases H.blk b' k' a with d|⟨k,c',arr',t',lo',p,l,q,r,s,u⟩|⟨k,x,c',l,y⟩
   ·exact .inl ⟨d.1,d.2.1,by simp [cM,e,d.2.2]⟩
   ·exact .inr (.inl ⟨k,c',arr',t',lo',p,by simp [cM,e,l],by rw [g.2.2.2.2.1 c' (H.lt l)];exact q,r,s,fun i row j v d f=>(u i row j v d f).chg ch⟩)
   ·exact .inr (.inr ⟨k,x,c',by simp [cM,e,l],y.keep (g.2.2.2.2.1 c' (H.lt l))⟩)
 ·by_cases e:b'=b
  ·simp [ci,e] at a;subst a
   intro row m
   simp at m;subst m
   exact ⟨fun h=>by simp at h,fun v hv=>by simp at hv⟩
  ·simp [ci,e] at a;exact H.rows b' k' a
 ·unfold cM at d
  split at d
  ·cases d;intro f;have:=H.frlt _ f;omega
  ·exact H.frame b' c' d
def Cn (w:World) (c:Nat) (o:Obj):World:={ w with heap:=w.heap.setIfInBounds c o }
theorem Wl {w:World} {c:Nat} {o:Obj} (h:c<w.heap.size):(Cn w c o).heap[c]? =some o:=by simp [Cn,h]
theorem Hy {w:World} {c c':Nat} {o:Obj} (h:c'≠c):(Cn w c o).heap[c']? =w.heap[c']? :=by simp [Cn,cE,Ne.symm h]
theorem bG.putM [Frame] {μ:Mu} {h:ba} {w:World} (H:bG μ h w) {b c:Nat} {rows rows':List (List V)} {o:Obj} (hb:h b=some ⟨0,true,rows⟩) (hc:μ b=some c) (s:vz w c rows) (t:vz (Cn w c o) c rows') (hl:rows'.length=rows.length):
 bG μ (ci h b ⟨0,true,rows'⟩) (Cn w c o)/\Chg μ h w μ (ci h b ⟨0,true,rows'⟩) (Cn w c o):=by
 have l:(Cn w c o).heap.size=w.heap.size:=by simp [Cn]
 have m: ∀c',bsize (Cn w c o) c'=bsize w c':=fun c'=>by
  by_cases e:c'=c
  ·subst e;rw [t.bsize,s.bsize]
  ·unfold bsize;rw [Hy e]
 have ch:Chg μ h w μ (ci h b ⟨0,true,rows'⟩) (Cn w c o):=by
  refine ⟨⟨rfl,rfl,rfl,by rw [l];exact am _,am _,(fun c' p hs=>⟨Hy (fun e=>hs.1 b (e▸hc)),hs⟩),fun c' p=>Hy (fun e=>H.frame _ _ hc (e▸p))⟩,fun b' k' a=> ?_⟩
  by_cases e:b'=b
  ·subst e
   rw [hb] at a;cases a
   exact ⟨⟨0,true,rows'⟩,by simp [ci],.inr (.inr ⟨rfl,fun _=>rfl,hl,rfl,fun c' _=>m c'⟩)⟩
  ·exact ⟨k',by simp [ci,e,a],.inr (.inr ⟨rfl,fun _=>rfl,rfl,rfl,fun c' _=>m c'⟩)⟩
 refine ⟨⟨H.inj,fun b' c' k=> ?_,fun b' k' a=> ?_,fun b' k' a=> ?_,H.frame,fun c hc=>by rw [l];exact H.frlt c hc⟩,ch⟩
 ·by_cases e:b'=b
  ·exact ⟨⟨0,true,rows'⟩,by simp [ci,e],.inr rfl⟩
  ·obtain ⟨k',a,d⟩:=H.dom b' c' k
   exact ⟨k',by simp [ci,e,a],d⟩
 ·by_cases e:b'=b
  ·simp [ci,e] at a
   subst a
   exact .inr (.inr ⟨rfl,rfl,c,by rw [e];exact hc,t⟩)
  ·simp [ci,e] at a
   have q: ∀c',μ b'=some c'->c'≠c:=fun c' k e2=>e (H.inj _ _ _ (e2▸k) hc)
   rcases H.blk b' k' a with k|⟨d,c',arr',t',lo',u,f,x,y,z,hv'⟩|⟨d,ho',c',f,hb'⟩
   ·exact .inl k
   ·exact .inr (.inl ⟨d,c',arr',t',lo',u,f,by rw [Hy (q c' f)];exact x,y,z,fun i row j v k h2=>(hv' i row j v k h2).chg ch⟩)
   ·exact .inr (.inr ⟨d,ho',c',f,hb'.keep (Hy (q c' f))⟩)
 ·by_cases e:b'=b
  ·simp [ci,e] at a;subst a
   intro row r
   exact ⟨fun h=>by simp at h,fun v hv=>by obtain ⟨n,rfl⟩:=t.lit r hv;exact ⟨rfl,fun h=>by cases h⟩⟩
  ·simp [ci,e] at a;exact H.rows b' k' a
theorem a8T {h:ba} {v:V} {b:Nat} {L:List Tri} (a:uo h v=some (b,L)):v= .mp b/\h b=some ⟨0,true,[bH L]⟩:=by
 unfold uo at a
 split at a
 ·rename_i p
  split at a
  ·rename_i cs c
   split at a
   ·rename_i L' d
    cases a
    rw [Bi d] at c
    exact ⟨rfl,c⟩
   ·cases a
  ·cases a
 ·cases a
theorem RN: ∀{L L':List Tri},bH L=bH L'->L=L'
 |L,L',h=>by
  have a:=yp L
  rw [h,yp L'] at a
  cases a;rfl
section
variable {P:Program} {μ:Mu} {h:ba} {w:World} {a:Act} {f:Nat->V}
theorem Xu [Frame] (H:bG μ h w) {v:V} {x:Value} {b:Nat} {L:List Tri} (m:b7 μ h w v x) (n:uo h v=some (b,L)):
 ∃c es,x= .map (some c)/\μ b=some c/\h b=some ⟨0,true,[bH L]⟩/\vz w c [bH L]/\w.heap[c]? =some (.map es es.size)/\L.length=es.size/\
  (∀(i:Nat) (e:MapEntry) (t:Tri),es[i]? =some e->L[i]? =some t->a3k e t)/\ ∀(i:Nat) (e:MapEntry),es[i]? =some e->e.born=i:=by
 obtain ⟨rfl,f⟩:=a8T n
 cases m with
 |mp _ _ k a z j=>
  rw [f] at a;cases a
  obtain ⟨c,hc,rfl⟩:=j rfl rfl
  rcases H.blk b _ f with ⟨o,_⟩|⟨p,_⟩|⟨_,_,c',d,l⟩
  ·cases o
  ·exact absurd p sm
  ·rw [hc] at d;cases d
   obtain ⟨es,L',q,r,s,u,y⟩:=l.ex
   have:L'=L:=by
    have:=List.cons.inj r
    exact (RN this.1).symm
   subst this
   exact ⟨c,es,rfl,hc,f,l,q,s,u,y⟩
theorem JF [Frame] {v:V} {x:Value} {p q:Int} (e:b7 μ h w v x) (a:mapKey v=some (p,q)):x=o3 p q:=by
 unfold mapKey at a
 split at a
 ·cases a
  cases e with
  |agg _ xs d b hc=>
   have h0:=hc 0 _ rfl
   have f:=hc 1 _ rfl
   have e0:=dw h0
   have e1:=dw f
   simp at d
   unfold o3
   congr 1
   apply Array.ext
   ·simpa using d
   ·intro i c j
    match i,c with
    |0,h=>simpa [Array.getD_eq_getD_getElem?,aH h] using e0
    |1,h=>simpa [Array.getD_eq_getD_getElem?,aH h] using e1
 ·cases a
theorem mO {c:Nat} {es:Array MapEntry} {n:Nat} (h:w.heap[c]? =some (.map es n)):(getObj c).run P w= .ok (.map es n) w:=by
 simp [getObj,Sem.run,h]
theorem Aw {c:Nat} {es:Array MapEntry} {n:Nat} (o:Obj) (h:w.heap[c]? =some (.map es n)):(setObj c o).run P w= .ok () (Cn w c o):=by
 simp [setObj,Sem.run,h,Cn]
theorem UQ {t k e i:TypeId} {ii ie:TypeInfo} (M:TH P t k e i ii ie) (w:World):(zeroValue e).run P w= .ok (.int .i64 0) w:=by
 simp [zeroValue,typeInfo,M.hie,M.hz]
theorem a7d (n:Nat) (a b:Int):Instr.sameBits (n+1+1) (o3 a b) (o3 a b)=true:=by
 simp [o3,Instr.sameBits]
theorem OZ (w:World) (a b:Int):(Instr.keyThatStays (o3 a b) (o3 a b)).run P w= .ok (o3 a b) w:=by
 have:Instr.sameBits 10000 (o3 a b) (o3 a b)=true:=a7d 9998 a b
 simp [Instr.keyThatStays,this]
theorem MT {a b:Int}: ∀{L:List Tri},(∀t∈L,sV a b t=false)->Ae a b L=L.length
 |[],_=>rfl
 | (x,y,v)::r,h=>by
   have h0:=h (x,y,v) sm
   simp only [sV,cg] at h0
   simp only [Ae]
   rw [a7 h0,MT (fun t c=>h t (by simp [c]))]
   rfl
theorem R7 {a b:Int}: ∀{L:List Tri} {j:Nat} {t:Tri},(∀i u,i<j->L[i]? =some u->sV a b u=false)->L[j]? =some t->sV a b t=true->Ae a b L=j
 |[],j,t,_,h,_=>by simp at h
 | (x,y,u)::r,0,t,_,h,c=>by
   simp at h;subst h
   simp only [sV,aA] at c
   simp only [Ae]
   rw [aa c]
 | (x,y,u)::r,j+1,t,d,h,c=>by
   have h0:=d 0 (x,y,u) om rfl
   simp only [sV,cg] at h0
   simp only [Ae]
   rw [a7 h0,R7 (j:=j) (fun i u hi e=>d (i+1) u om (by simpa using e)) (by simpa using h) c]
theorem vz.push {w:World} {c:Nat} {es:Array MapEntry} {L:List Tri} {p q v:Int} (hc:c<w.heap.size) (d:L.length=es.size) (f: ∀(i:Nat) (e:MapEntry) (t:Tri),es[i]? =some e->L[i]? =some t->a3k e t) (j: ∀(i:Nat) (e:MapEntry),es[i]? =some e->e.born=i):
 vz (Cn w c (.map (es.push { key:=o3 p q,val:= .int .i64 v,born:=es.size }) (es.size+1))) c [bH (L++[(p,q,v)])]:=by
 refine ⟨⟨es.push { key:=o3 p q,val:= .int .i64 v,born:=es.size },L++[(p,q,v)],by rw [Wl hc];simp,rfl,by simp [d],fun i e t a b=> ?_,fun i e a=> ?_⟩⟩
 ·rw [jz] at a
  split at a
  ·rename_i hi
   cases a
   subst hi
   rw [<-d,bt (am _),kI] at b
   simp at b;subst b
   exact ⟨rfl,rfl⟩
  ·rename_i hi
   have k:i<es.size:=by
    rcases dc i es.size with h|h
    ·exact h
    ·rw [fG h] at a;cases a
   rw [bc om] at b
   exact f i e t a b
 ·rw [jz] at a
  split at a
  ·rename_i hi;cases a;exact hi.symm
  ·exact j i e a
theorem vz.mod {w:World} {c j:Nat} {es:Array MapEntry} {L:List Tri} {g:MapEntry->MapEntry} {u:Tri} (hc:c<w.heap.size) (k:L.length=es.size) (l: ∀(i:Nat) (e:MapEntry) (t:Tri),es[i]? =some e->L[i]? =some t->a3k e t) (f: ∀(i:Nat) (e:MapEntry),es[i]? =some e->e.born=i)
 (h: ∀e,es[j]? =some e->a3k (g e) u/\(g e).born=e.born) (m:j<L.length):
 vz (Cn w c (.map (es.modify j g) es.size)) c [bH (L.set j u)]:=by
 refine ⟨⟨es.modify j g,L.set j u,by rw [Wl hc];simp,rfl,by simp [k],fun i e t a d=> ?_,fun i e a=> ?_⟩⟩
 ·rw [eO] at a
  rw [dW] at d
  by_cases hi:j=i
  ·subst hi
   rw [aa rfl] at a
   rw [aa rfl,aa m] at d
   cases d
   cases b:es[j]? with
   |none=>rw [b] at a;cases a
   |some e0=>rw [b] at a;cases a;exact (h e0 b).1
  ·rw [a7 hi] at a
   rw [a7 hi] at d
   exact l i e t a d
 ·rw [eO] at a
  by_cases hi:j=i
  ·subst hi
   rw [aa rfl] at a
   cases b:es[j]? with
   |none=>rw [b] at a;cases a
   |some e0=>rw [b] at a;cases a;rw [(h e0 b).2];exact f _ _ b
  ·rw [a7 hi] at a;exact f i e a
theorem a6H [Frame] (H:bG μ h w) {o:Oper} {t:TypeId} (c:o.op= .makeMap t none) {C:cr} {ow:FuncId->List Nat} {new:Nat} {v:V} {u:Upd}
 (b:aK C ow .mkMap (Opd.ev f) h new=some (v,u)):jv P o a μ h w v u:=by
 simp only [aK] at b
 split at b
 ·rename_i hn
  cases b
  have d:h new=none:=by simpa using hn
  obtain ⟨q1,q2⟩:=H.newM (w:=w) d
  refine ⟨.map (some w.heap.size),_,_,.inl ?_,q1,q2,.mp new _ ⟨0,true,[[]]⟩ (by simp [hU,ci]) ⟨_,rfl⟩ (fun _ _=>⟨_,by simp [cM],rfl⟩)⟩
  simp [execOp,c,Instr.makeMap,p8]
 ·cases b
theorem a3K [Frame] (H:bG μ h w) (E:ic μ h w f a) {o:Oper} {t:TypeId} {m k:Operand} {m' k':Opd} (d:o.op= .lookup t m k false) (hm:bF m=some m') (hk:bF k=some k') (ht:WZ P t=true)
 {C:cr} {ow:FuncId->List Nat} {new:Nat} {v:V} {u:Upd} (i:aK C ow (.mapGet m' k') (Opd.ev f) h new=some (v,u)):jv P o a μ h w v u:=by
 obtain ⟨kt,et,it,ii,ie,M⟩:=Xc ht
 have l:=bX E hm
 have n:=bX E hk
 simp only [aK] at i
 split at i
 ·rename_i b L p q h1 h2
  cases i
  obtain ⟨c,es,y,hc,hb,hmb,z,g2,g3,g4⟩:=Xu H l h1
  have hy:=JF n h2
  refine .quiet H (x:= .int .i64 (j5 p q L)) ?_ (.lit _)
  have e:=Cj M w es.isEmpty p q
  rcases QF M w p q g2 g3 with ⟨r,s⟩|⟨j,t',r,s,r3,r4⟩
  ·rw [MN s]
   simp [execOp,d,Instr.lookup,y,hy,run_underlying M.hu,mO z,e,r,UQ M]
  ·rw [RM r4 s r3]
   simp [execOp,d,Instr.lookup,y,hy,run_underlying M.hu,mO z,e,r]
 ·cases i
theorem a49 [Frame] (H:bG μ h w) (E:ic μ h w f a) {o:Oper} {t:TypeId} {m k x:Operand} {m' k' x':Opd} (i:o.op= .mapUpdate t m k x) (hm:bF m=some m') (hk:bF k=some k') (hx:bF x=some x') (ht:WZ P t=true)
 {C:cr} {ow:FuncId->List Nat} {new:Nat} {v:V} {u:Upd} (hs:aK C ow (.mapSet m' k' x') (Opd.ev f) h new=some (v,u)):jv P o a μ h w v u:=by
 obtain ⟨kt,et,it,ii,ie,M⟩:=Xc ht
 have hvm:=bX E hm
 have hvk:=bX E hk
 have l:=bX E hx
 simp only [aK] at hs
 split at hs
 ·rename_i b L p q y h1 h2 h3
  cases hs
  obtain ⟨c,es,n,hc,hb,r,g1,g2,g3,g4⟩:=Xu H hvm h1
  have hy:=JF hvk h2
  rw [h3] at l
  have hz:=dw l
  have s:=H.lt hc
  have z:=Cj M w false p q
  rcases QF M w p q g2 g3 with ⟨r1,d⟩|⟨j,t',r1,d,r3,r4⟩
  ·rw [VE d]
   obtain ⟨q1,q2⟩:=H.putM hb hc r (vz.push (p:=p) (q:=q) (v:=y) s g2 g3 g4) rfl
   refine ⟨undef,_,_,.inr ⟨?_,rfl⟩,q1,q2,.unk _⟩
   simp [execOp,i,Instr.mapUpdate,n,hy,hz,run_underlying M.hu,mO g1,z,r1,Aw _ g1]
  ·rw [YV r4 d r3]
   have hj:j<L.length:=by
    rcases dc j L.length with h|h
    ·exact h
    ·rw [cf h] at d;cases d
   have hes:es[j]? =some es[j]:=aH om
   have hkey:es[j].key=o3 p q:=by
    have:=(g3 j _ _ hes d).key
    simp only [sV,aA] at r3
    rw [this, <-r3.1, <-r3.2];rfl
   obtain ⟨q1,q2⟩:=H.putM hb hc r (vz.mod (j:=j) (g:=fun e=>{ e with key:=o3 p q,val:= .int .i64 y }) (u:=(p,q,y)) s g2 g3 g4 (fun e _=>⟨⟨rfl,rfl⟩,rfl⟩) hj) rfl
   refine ⟨undef,_,_,.inr ⟨?_,rfl⟩,q1,q2,.unk _⟩
   simp [execOp,i,Instr.mapUpdate,n,hy,hz,run_underlying M.hu,mO g1,z,r1,hes,hkey,OZ,Aw _ g1]
 ·cases hs
theorem a2l [Frame] (H:bG μ h w) (E:ic μ h w f a) {o:Oper} {t:TypeId} {m k:Operand} {m' k':Opd} (s:o.op= .mapEntry t m k) (hm:bF m=some m') (hk:bF k=some k') (ht:WZ P t=true)
 {C:cr} {ow:FuncId->List Nat} {new:Nat} {v:V} {u:Upd} (hs:aK C ow (.mapEnt m' k') (Opd.ev f) h new=some (v,u)):jv P o a μ h w v u:=by
 obtain ⟨kt,et,it,ii,ie,M⟩:=Xc ht
 have hvm:=bX E hm
 have hvk:=bX E hk
 simp only [aK] at hs
 split at hs
 ·rename_i b L p q h1 h2
  cases hs
  obtain ⟨c,es,z,hc,hb,hmb,g1,g2,g3,g4⟩:=Xu H hvm h1
  have hy:=JF hvk h2
  have hlt:=H.lt hc
  have hck:=Cj M w false p q
  have two: ∀{μ':Mu} {h':ba} {w':World} (x y:Int),b7 μ' h' w' (.tup [.lit (.int .i64 x),.lit (.int .i64 y)]) (.tuple #[.int .i64 x,.int .i64 y]):=fun x y=>
   .tup _ _ rfl (fun i v hi=>by
    match i,hi with
    |0,hi=>simp at hi;subst hi;exact .lit _
    |1,hi=>simp at hi;subst hi;exact .lit _)
  rcases QF M w p q g2 g3 with ⟨r1,d⟩|⟨j,t',r1,d,r3,r4⟩
  ·rw [MN d,MT d,show If p q L=L++[(p,q,0)] by unfold If;rw [MT d,a7 (Nat.lt_irrefl _)]]
   obtain ⟨q1,q2⟩:=H.putM hb hc hmb (vz.push (p:=p) (q:=q) (v:=0) hlt g2 g3 g4) rfl
   refine ⟨.tuple #[.int .i64 0,.int .i64 (L.length:Nat)],_,_,.inl ?_,q1,q2,two _ _⟩
   simp [execOp,s,Instr.mapEntry,z,hy,run_underlying M.hu,mO g1,hck,r1,UQ M,Aw _ g1,goInt,g2]
  ·have hj:j<L.length:=by
    rcases dc j L.length with h|h
    ·exact h
    ·rw [cf h] at d;cases d
   rw [RM r4 d r3,R7 r4 d r3,show If p q L=L by unfold If;rw [R7 r4 d r3,aa hj]]
   have r:es[j]? =some es[j]:=aH om
   have l:=r3
   simp only [sV,aA] at l
   have n:=g3 j _ _ r d
   have hkey:es[j].key=o3 p q:=by
    rw [n.key, <-l.1, <-l.2];rfl
   have ci:L.set j t'=L:=by
    apply vZ
    intro i
    rw [dW]
    by_cases hi:j=i
    ·subst hi;rw [aa rfl,aa hj,d]
    ·rw [a7 hi]
   obtain ⟨q1,q2⟩:=H.putM hb hc hmb (vz.mod (j:=j) (g:=fun e=>{ e with key:=o3 p q }) (u:=t') hlt g2 g3 g4 (fun e he=>by
    rw [r] at he;cases he
    exact ⟨⟨by rw [<-l.1, <-l.2];rfl,n.val⟩,rfl⟩) hj) rfl
   rw [ci] at q1 q2
   refine ⟨.tuple #[.int .i64 t'.2.2,.int .i64 (j:Nat)],_,_,.inl ?_,q1,q2,two _ _⟩
   simp [execOp,s,Instr.mapEntry,z,hy,run_underlying M.hu,mO g1,hck,r1,r,hkey,OZ,Aw _ g1,goInt,g4 j _ r]
 ·cases hs
theorem a3s [Frame] (H:bG μ h w) (E:ic μ h w f a) {o:Oper} {t:TypeId} {m k x:Operand} {m' k' x':Opd} (z:o.op= .entryStore t m k x) (hm:bF m=some m') (hk:bF k=some k') (hx:bF x=some x')
 {C:cr} {ow:FuncId->List Nat} {new:Nat} {v:V} {u:Upd} (p:aK C ow (.mapPut m' k' x') (Opd.ev f) h new=some (v,u)):jv P o a μ h w v u:=by
 have hvm:=bX E hm
 have q:=bX E hk
 have r:=bX E hx
 simp only [aK] at p
 split at p
 ·rename_i b L i y h1 h2 h3
  split at p
  ·rename_i hi
   cases p
   obtain ⟨c,es,hxm,hc,hb,hmb,g1,g2,g3,g4⟩:=Xu H hvm h1
   rw [h2] at q
   have hy:=dw q
   rw [h3] at r
   have hz:=dw r
   have hlt:=H.lt hc
   obtain ⟨n,rfl⟩:=pQ hi.1
   have hn:n<L.length:=by omega
   have d:es.findIdx? (fun e=>(e.born:Int)==(n:Int))=some n:=by
    rw [Array.findIdx?_eq_some_iff_getElem]
    refine ⟨by omega, ?_,fun j hj=> ?_⟩
    ·have:=g4 n _ (aH om)
     simp [this]
    ·have:=g4 j _ (aH om)
     simp [this];omega
   obtain ⟨t',l⟩: ∃t',L[n]? =some t':=⟨_,aq hn⟩
   have s:b3v n y L=L.set n (t'.1,t'.2.1,y):=by
    unfold b3v
    apply vZ
    intro i
    rw [List.getElem?_modify,dW]
    by_cases hi:n=i
    ·subst hi
     have hL:L[n]=t':=by simpa [aq hn] using l
     simp [l,hn,hL]
    ·simp [hi]
   rw [aY,s]
   obtain ⟨q1,q2⟩:=H.putM hb hc hmb (vz.mod (j:=n) (g:=fun e=>{ e with val:= .int .i64 y }) (u:=(t'.1,t'.2.1,y)) hlt g2 g3 g4 (fun e he=>⟨⟨(g3 n e t' he l).key,rfl⟩,rfl⟩) hn) rfl
   refine ⟨undef,_,_,.inr ⟨?_,rfl⟩,q1,q2,.unk _⟩
   simp [execOp,z,Instr.entryStore,hxm,hy,hz,mO g1,asInt,asIntOf,d,Aw _ g1]
  ·cases p
 ·cases p
end
end
end Go.AI
