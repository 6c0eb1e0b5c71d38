/- Maps of pairs of numbers to numbers: what the machine's words for them tell is what the model does. -/
import Derived.Test.YtdnkignjanfikaaGreatAiOps4
import Derived.WideKeyRuns
import Derived.MapKept
set_option linter.unusedVariables false
set_option linter.unusedSimpArgs false
namespace Go.AI
structure W7 (P:Program) (t k e i:TypeId) (ii ie:TypeInfo):Prop where
 hu:P.underlying t=some (.map k e)
 hk:P.underlying k=some (.array 2 i)
 hi:P.underlying i=some (.int .i64)
 hii:P.info? i=some ii
 hs:ii.size=1
 hc:P.cellsOf i=1
 hie:P.info? e=some ie
 hz:ie.zero=some (.int .i64 0)
theorem YL {P:Program} {t:TypeId} (h:ZQ P t=true): ∃k e i ii ie,W7 P t k e i ii ie:=by
 unfold ZQ at h
 split at h
 ·rename_i k e hu
  split at h
  ·rename_i i ie hk hie hue
   split at h
   ·rename_i ii hi hii hz
    simp only [aC,beq_iff_eq] at h
    exact ⟨k,e,i,ii,ie,hu,hk,hi,hii,h.1,h.2,hie,hz⟩
   ·cases h
  ·cases h
 ·cases h
def pN (a b:Int) (t:Tri):Bool:=decide (a=t.1/\b=t.2.1)
theorem Nv {a b:Int}: ∀{L:List Tri},(∀t∈L,pN a b t=false)->ia a b L=0
 |[],_=>rfl
 | (x,y,v)::r,h=>by
   have h0:=h (x,y,v) (by simp)
   simp only [pN,bz] at h0
   simp only [ia]
   rw [aa h0]
   exact Nv (fun t ht=>h t (by simp [ht]))
theorem Qk {a b:Int}: ∀{L:List Tri} {j:Nat} {t:Tri},(∀i u,i<j->L[i]? =some u->pN a b u=false)->L[j]? =some t->pN a b t=true->ia a b L=t.2.2
 |[],j,t,_,h,_=>by simp at h
 | (x,y,v)::r,0,t,_,h,ht=>by
   simp at h;subst h
   simp only [pN,aG] at ht
   simp only [ia]
   rw [ae ht]
 | (x,y,v)::r,j+1,t,hm,h,ht=>by
   have h0:=hm 0 (x,y,v) (by omega) rfl
   simp only [pN,bz] at h0
   simp only [ia]
   rw [aa h0]
   exact Qk (j:=j) (fun i u hi hu=>hm (i+1) u (by omega) (by simpa using hu)) (by simpa using h) ht
theorem XP {a b v:Int}: ∀{L:List Tri},(∀t∈L,pN a b t=false)->iB a b v L=L++[(a,b,v)]
 |[],_=>rfl
 | (x,y,u)::r,h=>by
   have h0:=h (x,y,u) (by simp)
   simp only [pN,bz] at h0
   simp only [iB]
   rw [aa h0,XP (fun t ht=>h t (by simp [ht]))]
   rfl
theorem a4c {a b v:Int}: ∀{L:List Tri} {j:Nat} {t:Tri},(∀i u,i<j->L[i]? =some u->pN a b u=false)->L[j]? =some t->pN a b t=true->iB a b v L=L.set j (a,b,v)
 |[],j,t,_,h,_=>by simp at h
 | (x,y,u)::r,0,t,_,h,ht=>by
   simp at h;subst h
   simp only [pN,aG] at ht
   simp only [iB]
   rw [ae ht]
   rfl
 | (x,y,u)::r,j+1,t,hm,h,ht=>by
   have h0:=hm 0 (x,y,u) (by omega) rfl
   simp only [pN,bz] at h0
   simp only [iB]
   rw [aa h0,a4c (j:=j) (fun i u hi hu=>hm (i+1) u (by omega) (by simpa using hu)) (by simpa using h) ht]
   rfl
def m3 (a b:Int):Value:= .agg #[.int .i64 a,.int .i64 b]
section
variable {P:Program} {w:World} {t k e i:TypeId} {ii ie:TypeInfo}
theorem SF (M:W7 P t k e i ii ie):P.plainKey i=true:=by unfold Program.plainKey;rw [M.hi]
theorem Gu (M:W7 P t k e i ii ie) (w:World) (a b:Int):(Go.part i #[.int .i64 a,.int .i64 b] 0).run P w= .ok (.int .i64 a) w/\(Go.part i #[.int .i64 a,.int .i64 b] 1).run P w= .ok (.int .i64 b) w:=
 ⟨run_part_plain w (SF M) rfl,run_part_plain w (SF M) rfl⟩
theorem b0N (M:W7 P t k e i ii ie) (w:World) (a b c d:Int):(Op.equal k (m3 a b) (m3 c d)).run P w= .ok (pN a b (c,d,0)) w:=by
 unfold m3 Op.equal Op.maxDepth
 show (Op.equalIn (9999+1) k _ _).run P w=_
 rw [run_equalIn_array w 9999 _ _ M.hk M.hii,M.hc]
 show (Op.eqItems 9999 i 1 _ _ [0,1]).run P w=_
 obtain ⟨p1,p2⟩:=Gu M w a b
 obtain ⟨q1,q2⟩:=Gu M w c d
 simp only [Op.eqItems,Sem.run_bind,lR,cB,p1,p2,q1,q2,Result.andThen_ok,run_equalIn_int w 9998 i .i64 .i64 a c M.hi,run_equalIn_int w 9998 i .i64 .i64 b d M.hi]
 by_cases h1:a=c
 ·subst h1
  by_cases h2:b=d
  ·subst h2
   simp [p2,pN,run_equalIn_int w 9998 i .i64 .i64 b b M.hi]
  ·simp [p2,q2,h2,pN,run_equalIn_int w 9998 i .i64 .i64 b d M.hi]
 ·simp [h1,pN]
theorem YQ (M:W7 P t k e i ii ie) (w:World) (em:Bool) (n:Nat) (x:Int):(Instr.checkKey em (n+1) i (.int .i64 x)).run P w= .ok () w:=by
 simp [Instr.checkKey,run_underlying M.hi]
theorem Z0 (M:W7 P t k e i ii ie) (w:World) (em:Bool) (n:Nat) (a b:Int):(Instr.checkKey em (n+1+1) k (m3 a b)).run P w= .ok () w:=by
 obtain ⟨p1,p2⟩:=Gu M w a b
 have h1:=fun x=>YQ M w em n x
 unfold m3
 simp only [Instr.checkKey,Sem.run_bind,run_underlying M.hk,Result.andThen_ok] at h1 ⊢
 simp only [Std.Legacy.Range.forIn_eq_forIn_range',Std.Legacy.Range.size,oM,Nat.add_one_sub_one,Nat.div_one]
 rw [show List.range' 0 2 1=[0,1] from rfl]
 simp [List.forIn_cons,List.forIn_nil,Sem.run_bind,run_sizeOf w M.hii,Result.andThen_ok,M.hs,M.hc,p1,p2,Instr.checkKey,run_underlying M.hi]
theorem AZ (M:W7 P t k e i ii ie) (w:World) (em:Bool) (a b:Int):(Instr.checkKey em 10000 k (m3 a b)).run P w= .ok () w:=Z0 M w em 9998 a b
theorem QY (M:W7 P t k e i ii ie) (w:World) (a b:Int): ∀(es:List MapEntry) (L:List Tri) (n:Nat),L.length=es.length->(∀(j:Nat) (x:MapEntry) (u:Tri),es[j]? =some x->L[j]? =some u->a6A x u)->
 ((Instr.findAsking k (m3 a b) es n).run P w= .ok none w/\ ∀u∈L,pN a b u=false)\/
 ∃j u,(Instr.findAsking k (m3 a b) es n).run P w= .ok (some (n+j,.int .i64 u.2.2)) w/\L[j]? =some u/\pN a b u=true/\ ∀i u,i<j->L[i]? =some u->pN a b u=false
 |[],[],n,_,_=> .inl ⟨by simp [Instr.findAsking],by simp⟩
 |[],_::_,n,hl,_=>by simp at hl
 |_::_,[],n,hl,_=>by simp at hl
 |x::es,(c,d,v)::L,n,hl,hm=>by
  have m0:=hm 0 x (c,d,v) rfl rfl
  have hr:=b0N M w a b c d
  have hkey:x.key=m3 c d:=m0.key
  have e0:pN a b (c,d,0)=pN a b (c,d,v):=rfl
  rw [e0] at hr
  cases hh:pN a b (c,d,v) with
  |true=>
   right
   refine ⟨0,(c,d,v), ?_,rfl,hh,fun i u hi=>by omega⟩
   rw [hh] at hr
   simp [Instr.findAsking,hkey,hr,m0.val]
  |false=>
   rw [hh] at hr
   rcases QY M w a b es L (n+1) (by simpa using hl) (fun j x u h1 h2=>hm (j+1) x u (by simpa using h1) (by simpa using h2)) with ⟨g1,g2⟩|⟨j,u,g1,g2,g3,g4⟩
   ·left
    refine ⟨by simp [Instr.findAsking,hkey,hr,g1],fun u hu=> ?_⟩
    rcases bc.1 hu with rfl|hu
    ·exact hh
    ·exact g2 u hu
   ·right
    refine ⟨j+1,u,by simp [Instr.findAsking,hkey,hr,g1,fA,jp 1 j],by simpa using g2,g3,fun i u' hi hu=> ?_⟩
    cases i with
    |zero=>simp at hu;subst hu;exact hh
    |succ i=>exact g4 i u' (by omega) (by simpa using hu)
theorem TV (M:W7 P t k e i ii ie) (w:World) (a b:Int) {es:Array MapEntry} {L:List Tri} (hl:L.length=es.size) (hm: ∀(j:Nat) (x:MapEntry) (u:Tri),es[j]? =some x->L[j]? =some u->a6A x u):
 ((Instr.findKey k (m3 a b) es.toList).run P w= .ok none w/\ ∀u∈L,pN a b u=false)\/
 ∃j u,(Instr.findKey k (m3 a b) es.toList).run P w= .ok (some (j,.int .i64 u.2.2)) w/\L[j]? =some u/\pN a b u=true/\ ∀i u,i<j->L[i]? =some u->pN a b u=false:=by
 have h:=QY M w a b es.toList L 0 (by simpa using hl) (fun j x u h1 h2=>hm j x u (by simpa using h1) h2)
 rw [run_findKey_eq w (by rw [M.hk])]
 simpa using h
theorem bD.newM [Frame] {μ:Mu} {h:aZ} {w:World} (H:bD μ h w) {b:Nat} (hb:h b=none):
 bD (cE μ b (some w.heap.size)) (bV h b ⟨0,true,[[]]⟩) (mV w (.map #[] 0))/\Chg μ h w (cE μ b (some w.heap.size)) (bV h b ⟨0,true,[[]]⟩) (mV w (.map #[] 0)):=by
 have g:=md w (.map #[] 0)
 have hmb:μ b=none:=by
  cases hm:μ b with
  |none=>rfl
  |some c'=>obtain ⟨k',hk',_⟩:=H.dom b c' hm;rw [hb] at hk';cases hk'
 have hne: ∀b' k',h b'=some k'->b'≠b:=fun b' k' hk' e=>by rw [e,hb] at hk';cases hk'
 have ch:Chg μ h w (cE μ b (some w.heap.size)) (bV h b ⟨0,true,[[]]⟩) (mV w (.map #[] 0)):=by
  refine ⟨⟨g.1,g.2.1,g.2.2.1,g.2.2.2.1,g.2.2.2.2.2,(fun c' hc' hs=>⟨g.2.2.2.2.1 c' hc',fun b'=> ?_,hs.2⟩),fun c hc=>g.2.2.2.2.1 c (H.frlt c hc)⟩,fun b' k' hk'=> ?_⟩
  ·unfold cE
   by_cases e:b'=b
   ·rw [ae e];intro h1;cases h1;omega
   ·rw [aa e];exact hs.1 b'
  ·have e:=hne b' k' hk'
   exact ⟨k',by simp [bV,e,hk'],.inr (.inr ⟨rfl,fun _=>rfl,rfl,by simp [cE,e],fun c' hc'=>g.bsize (H.lt hc')⟩)⟩
 refine ⟨⟨fun b1 b2 c' h1 h2=> ?_,fun b' c' h1=> ?_,fun b' k' hk'=> ?_,fun b' k' hk'=> ?_,fun b' c' h1=> ?_,fun c hc=>bR (H.frlt c hc) g.2.2.2.1⟩,ch⟩
 ·unfold cE at h1 h2
  by_cases e1:b1=b<;>by_cases e2:b2=b
  ·rw [e1,e2]
  ·rw [ae e1] at h1;rw [aa e2] at h2;cases h1;have:=H.lt h2;omega
  ·rw [aa e1] at h1;rw [ae e2] at h2;cases h2;have:=H.lt h1;omega
  ·rw [aa e1] at h1;rw [aa e2] at h2;exact H.inj _ _ _ h1 h2
 ·unfold cE at h1
  by_cases e:b'=b
  ·exact ⟨⟨0,true,[[]]⟩,by simp [bV,e],.inr rfl⟩
  ·rw [aa e] at h1
   obtain ⟨k',hk',h0'⟩:=H.dom b' c' h1
   exact ⟨k',by simp [bV,e,hk'],h0'⟩
 ·by_cases e:b'=b
  ·simp [bV,e] at hk'
   subst hk'
   exact .inr (.inr ⟨rfl,rfl,w.heap.size,by simp [cE,e],⟨⟨#[],[],qf w _,rfl,rfl,(fun i e t h1=>by simp at h1),fun i e h1=>by simp at h1⟩⟩⟩)
  ·simp [bV,e] at hk'
   rcases H.blk b' k' hk' with h1|⟨h0',c',arr',t',lo',hi',hm',hh',hf',hl',hv'⟩|⟨h0',ho',c',hm',hb'⟩
   ·exact .inl ⟨h1.1,h1.2.1,by simp [cE,e,h1.2.2]⟩
   ·exact .inr (.inl ⟨h0',c',arr',t',lo',hi',by simp [cE,e,hm'],by rw [g.2.2.2.2.1 c' (H.lt hm')];exact hh',hf',hl',fun i row j v h1 h2=>(hv' i row j v h1 h2).chg ch⟩)
   ·exact .inr (.inr ⟨h0',ho',c',by simp [cE,e,hm'],hb'.keep (g.2.2.2.2.1 c' (H.lt hm'))⟩)
 ·by_cases e:b'=b
  ·simp [bV,e] at hk';subst hk'
   intro row hrow
   simp at hrow;subst hrow
   exact ⟨fun h=>by simp at h,fun v hv=>by simp at hv⟩
  ·simp [bV,e] at hk';exact H.rows b' k' hk'
 ·unfold cE at h1
  split at h1
  ·cases h1;intro h2;have:=H.frlt _ h2;omega
  ·exact H.frame b' c' h1
def Bs (w:World) (c:Nat) (o:Obj):World:={ w with heap:=w.heap.setIfInBounds c o }
theorem ZJ {w:World} {c:Nat} {o:Obj} (h:c<w.heap.size):(Bs w c o).heap[c]? =some o:=by simp [Bs,h]
theorem HM {w:World} {c c':Nat} {o:Obj} (h:c'≠c):(Bs w c o).heap[c']? =w.heap[c']? :=by simp [Bs,cx,Ne.symm h]
theorem bD.putM [Frame] {μ:Mu} {h:aZ} {w:World} (H:bD μ h w) {b c:Nat} {rows rows':List (List V)} {o:Obj} (hb:h b=some ⟨0,true,rows⟩) (hc:μ b=some c) (hm0:sx w c rows) (hm:sx (Bs w c o) c rows') (hl:rows'.length=rows.length):
 bD μ (bV h b ⟨0,true,rows'⟩) (Bs w c o)/\Chg μ h w μ (bV h b ⟨0,true,rows'⟩) (Bs w c o):=by
 have hsz:(Bs w c o).heap.size=w.heap.size:=by simp [Bs]
 have hbs: ∀c',bsize (Bs w c o) c'=bsize w c':=fun c'=>by
  by_cases e:c'=c
  ·subst e;rw [hm.bsize,hm0.bsize]
  ·unfold bsize;rw [HM e]
 have ch:Chg μ h w μ (bV h b ⟨0,true,rows'⟩) (Bs w c o):=by
  refine ⟨⟨rfl,rfl,rfl,by rw [hsz];exact aw _,aw _,(fun c' hc' hs=>⟨HM (fun e=>hs.1 b (e▸hc)),hs⟩),fun c' hc'=>HM (fun e=>H.frame _ _ hc (e▸hc'))⟩,fun b' k' hk'=> ?_⟩
  by_cases e:b'=b
  ·subst e
   rw [hb] at hk';cases hk'
   exact ⟨⟨0,true,rows'⟩,by simp [bV],.inr (.inr ⟨rfl,fun _=>rfl,hl,rfl,fun c' _=>hbs c'⟩)⟩
  ·exact ⟨k',by simp [bV,e,hk'],.inr (.inr ⟨rfl,fun _=>rfl,rfl,rfl,fun c' _=>hbs c'⟩)⟩
 refine ⟨⟨H.inj,fun b' c' h1=> ?_,fun b' k' hk'=> ?_,fun b' k' hk'=> ?_,H.frame,fun c hc=>by rw [hsz];exact H.frlt c hc⟩,ch⟩
 ·by_cases e:b'=b
  ·exact ⟨⟨0,true,rows'⟩,by simp [bV,e],.inr rfl⟩
  ·obtain ⟨k',hk',h0'⟩:=H.dom b' c' h1
   exact ⟨k',by simp [bV,e,hk'],h0'⟩
 ·by_cases e:b'=b
  ·simp [bV,e] at hk'
   subst hk'
   exact .inr (.inr ⟨rfl,rfl,c,by rw [e];exact hc,hm⟩)
  ·simp [bV,e] at hk'
   have hne: ∀c',μ b'=some c'->c'≠c:=fun c' h1 e2=>e (H.inj _ _ _ (e2▸h1) hc)
   rcases H.blk b' k' hk' with h1|⟨h0',c',arr',t',lo',hi',hm',hh',hf',hl',hv'⟩|⟨h0',ho',c',hm',hb'⟩
   ·exact .inl h1
   ·exact .inr (.inl ⟨h0',c',arr',t',lo',hi',hm',by rw [HM (hne c' hm')];exact hh',hf',hl',fun i row j v h1 h2=>(hv' i row j v h1 h2).chg ch⟩)
   ·exact .inr (.inr ⟨h0',ho',c',hm',hb'.keep (HM (hne c' hm'))⟩)
 ·by_cases e:b'=b
  ·simp [bV,e] at hk';subst hk'
   intro row hrow
   exact ⟨fun h=>by simp at h,fun v hv=>by obtain ⟨n,rfl⟩:=hm.lit hrow hv;exact ⟨rfl,fun h=>by cases h⟩⟩
  ·simp [bV,e] at hk';exact H.rows b' k' hk'
theorem b1Q {h:aZ} {v:V} {b:Nat} {L:List Tri} (hm:rU h v=some (b,L)):v= .mp b/\h b=some ⟨0,true,[bB L]⟩:=by
 unfold rU at hm
 split at hm
 ·rename_i p
  split at hm
  ·rename_i cs hk
   split at hm
   ·rename_i L' hd
    cases hm
    rw [Ag hd] at hk
    exact ⟨rfl,hk⟩
   ·cases hm
  ·cases hm
 ·cases hm
theorem Qj: ∀{L L':List Tri},bB L=bB L'->L=L'
 |L,L',h=>by
  have h1:=vA L
  rw [h,vA L'] at h1
  cases h1;rfl
section
variable {P:Program} {μ:Mu} {h:aZ} {w:World} {a:Act} {f:Nat->V}
theorem a1H [Frame] (H:bD μ h w) {v:V} {x:Value} {b:Nat} {L:List Tri} (hv:aX μ h w v x) (hm:rU h v=some (b,L)):
 ∃c es,x= .map (some c)/\μ b=some c/\h b=some ⟨0,true,[bB L]⟩/\sx w c [bB L]/\w.heap[c]? =some (.map es es.size)/\L.length=es.size/\
  (∀(i:Nat) (e:MapEntry) (t:Tri),es[i]? =some e->L[i]? =some t->a6A e t)/\ ∀(i:Nat) (e:MapEntry),es[i]? =some e->e.born=i:=by
 obtain ⟨rfl,hk⟩:=b1Q hm
 cases hv with
 |mp _ _ k hk' hx hmm=>
  rw [hk] at hk';cases hk'
  obtain ⟨c,hc,rfl⟩:=hmm rfl rfl
  rcases H.blk b _ hk with ⟨g1,_⟩|⟨g0,_⟩|⟨_,_,c',hc',hb⟩
  ·cases g1
  ·exact absurd g0 (by simp)
  ·rw [hc] at hc';cases hc'
   obtain ⟨es,L',h1,h2,h3,h4,h5⟩:=hb.ex
   have:L'=L:=by
    have:=List.cons.inj h2
    exact (Qj this.1).symm
   subst this
   exact ⟨c,es,rfl,hc,hk,hb,h1,h3,h4,h5⟩
theorem JF [Frame] {v:V} {x:Value} {p q:Int} (hv:aX μ h w v x) (hk:mapKey v=some (p,q)):x=m3 p q:=by
 unfold mapKey at hk
 split at hk
 ·cases hk
  cases hv with
  |agg _ xs hl hcell hc=>
   have h0:=hc 0 _ rfl
   have h1:=hc 1 _ rfl
   have e0:=de h0
   have e1:=de h1
   simp at hl
   unfold m3
   congr 1
   apply Array.ext
   ·simpa using hl
   ·intro i h1' h2'
    match i,h1' with
    |0,h=>simpa [Array.getD_eq_getD_getElem?,aL h] using e0
    |1,h=>simpa [Array.getD_eq_getD_getElem?,aL h] using e1
 ·cases hk
theorem kK {c:Nat} {es:Array MapEntry} {n:Nat} (h:w.heap[c]? =some (.map es n)):(getObj c).run P w= .ok (.map es n) w:=by
 simp [getObj,Sem.run,h]
theorem zy {c:Nat} {es:Array MapEntry} {n:Nat} (o:Obj) (h:w.heap[c]? =some (.map es n)):(setObj c o).run P w= .ok () (Bs w c o):=by
 simp [setObj,Sem.run,h,Bs]
theorem Xb {t k e i:TypeId} {ii ie:TypeInfo} (M:W7 P t k e i ii ie) (w:World):(zeroValue e).run P w= .ok (.int .i64 0) w:=by
 simp [zeroValue,typeInfo,M.hie,M.hz]
theorem b1s (n:Nat) (a b:Int):Instr.sameBits (n+1+1) (m3 a b) (m3 a b)=true:=by
 simp [m3,Instr.sameBits]
theorem NM (w:World) (a b:Int):(Instr.keyThatStays (m3 a b) (m3 a b)).run P w= .ok (m3 a b) w:=by
 have:Instr.sameBits 10000 (m3 a b) (m3 a b)=true:=b1s 9998 a b
 simp [Instr.keyThatStays,this]
theorem No {a b:Int}: ∀{L:List Tri},(∀t∈L,pN a b t=false)->yL a b L=L.length
 |[],_=>rfl
 | (x,y,v)::r,h=>by
   have h0:=h (x,y,v) (by simp)
   simp only [pN,bz] at h0
   simp only [yL]
   rw [aa h0,No (fun t ht=>h t (by simp [ht]))]
   rfl
theorem RI {a b:Int}: ∀{L:List Tri} {j:Nat} {t:Tri},(∀i u,i<j->L[i]? =some u->pN a b u=false)->L[j]? =some t->pN a b t=true->yL a b L=j
 |[],j,t,_,h,_=>by simp at h
 | (x,y,u)::r,0,t,_,h,ht=>by
   simp at h;subst h
   simp only [pN,aG] at ht
   simp only [yL]
   rw [ae ht]
 | (x,y,u)::r,j+1,t,hm,h,ht=>by
   have h0:=hm 0 (x,y,u) (by omega) rfl
   simp only [pN,bz] at h0
   simp only [yL]
   rw [aa h0,RI (j:=j) (fun i u hi hu=>hm (i+1) u (by omega) (by simpa using hu)) (by simpa using h) ht]
theorem sx.push {w:World} {c:Nat} {es:Array MapEntry} {L:List Tri} {p q v:Int} (hc:c<w.heap.size) (h3:L.length=es.size) (h4: ∀(i:Nat) (e:MapEntry) (t:Tri),es[i]? =some e->L[i]? =some t->a6A e t) (h5: ∀(i:Nat) (e:MapEntry),es[i]? =some e->e.born=i):
 sx (Bs w c (.map (es.push { key:=m3 p q,val:= .int .i64 v,born:=es.size }) (es.size+1))) c [bB (L++[(p,q,v)])]:=by
 refine ⟨⟨es.push { key:=m3 p q,val:= .int .i64 v,born:=es.size },L++[(p,q,v)],by rw [ZJ hc];simp,rfl,by simp [h3],fun i e t h1 h2=> ?_,fun i e h1=> ?_⟩⟩
 ·rw [iO] at h1
  split at h1
  ·rename_i hi
   cases h1
   subst hi
   rw [<-h3,bS (aw _),Nat.sub_self] at h2
   simp at h2;subst h2
   exact ⟨rfl,rfl⟩
  ·rename_i hi
   have hlt:i<es.size:=by
    rcases cA i es.size with h|h
    ·exact h
    ·rw [eK h] at h1;cases h1
   rw [bI (by omega)] at h2
   exact h4 i e t h1 h2
 ·rw [iO] at h1
  split at h1
  ·rename_i hi;cases h1;exact hi.symm
  ·exact h5 i e h1
theorem sx.mod {w:World} {c j:Nat} {es:Array MapEntry} {L:List Tri} {g:MapEntry->MapEntry} {u:Tri} (hc:c<w.heap.size) (h3:L.length=es.size) (h4: ∀(i:Nat) (e:MapEntry) (t:Tri),es[i]? =some e->L[i]? =some t->a6A e t) (h5: ∀(i:Nat) (e:MapEntry),es[i]? =some e->e.born=i)
 (hg: ∀e,es[j]? =some e->a6A (g e) u/\(g e).born=e.born) (hj:j<L.length):
 sx (Bs w c (.map (es.modify j g) es.size)) c [bB (L.set j u)]:=by
 refine ⟨⟨es.modify j g,L.set j u,by rw [ZJ hc];simp,rfl,by simp [h3],fun i e t h1 h2=> ?_,fun i e h1=> ?_⟩⟩
 ·rw [dR] at h1
  rw [fC] at h2
  by_cases hi:j=i
  ·subst hi
   rw [ae rfl] at h1
   rw [ae rfl,ae hj] at h2
   cases h2
   cases he:es[j]? with
   |none=>rw [he] at h1;cases h1
   |some e0=>rw [he] at h1;cases h1;exact (hg e0 he).1
  ·rw [aa hi] at h1
   rw [aa hi] at h2
   exact h4 i e t h1 h2
 ·rw [dR] at h1
  by_cases hi:j=i
  ·subst hi
   rw [ae rfl] at h1
   cases he:es[j]? with
   |none=>rw [he] at h1;cases h1
   |some e0=>rw [he] at h1;cases h1;rw [(hg e0 he).2];exact h5 _ _ he
  ·rw [aa hi] at h1;exact h5 i e h1
theorem b0g [Frame] (H:bD μ h w) {o:Oper} {t:TypeId} (hop:o.op= .makeMap t none) {C:cg} {ow:FuncId->List Nat} {new:Nat} {v:V} {u:Upd}
 (hs:aN C ow .mkMap (Opd.ev f) h new=some (v,u)):iC P o a μ h w v u:=by
 simp only [aN] at hs
 split at hs
 ·rename_i hn
  cases hs
  have hn':h new=none:=by simpa using hn
  obtain ⟨q1,q2⟩:=H.newM (w:=w) hn'
  refine ⟨.map (some w.heap.size),_,_,.inl ?_,q1,q2,.mp new _ ⟨0,true,[[]]⟩ (by simp [fX,bV]) ⟨_,rfl⟩ (fun _ _=>⟨_,by simp [cE],rfl⟩)⟩
  simp [execOp,hop,Instr.makeMap,mV]
 ·cases hs
theorem a6I [Frame] (H:bD μ h w) (E:gj μ h w f a) {o:Oper} {t:TypeId} {m k:Operand} {m' k':Opd} (hop:o.op= .lookup t m k false) (hm:bC m=some m') (hk:bC k=some k') (ht:ZQ P t=true)
 {C:cg} {ow:FuncId->List Nat} {new:Nat} {v:V} {u:Upd} (hs:aN C ow (.mapGet m' k') (Opd.ev f) h new=some (v,u)):iC P o a μ h w v u:=by
 obtain ⟨kt,et,it,ii,ie,M⟩:=YL ht
 have hvm:=bP E hm
 have hvk:=bP E hk
 simp only [aN] at hs
 split at hs
 ·rename_i b L p q h1 h2
  cases hs
  obtain ⟨c,es,hx,hc,hb,hmb,g1,g2,g3,g4⟩:=a1H H hvm h1
  have hy:=JF hvk h2
  refine .quiet H (x:= .int .i64 (ia p q L)) ?_ (.lit _)
  have hck:=AZ M w es.isEmpty p q
  rcases TV M w p q g2 g3 with ⟨r1,r2⟩|⟨j,t',r1,r2,r3,r4⟩
  ·rw [Nv r2]
   simp [execOp,hop,Instr.lookup,hx,hy,run_underlying M.hu,kK g1,hck,r1,Xb M]
  ·rw [Qk r4 r2 r3]
   simp [execOp,hop,Instr.lookup,hx,hy,run_underlying M.hu,kK g1,hck,r1]
 ·cases hs
theorem a7t [Frame] (H:bD μ h w) (E:gj μ h w f a) {o:Oper} {t:TypeId} {m k x:Operand} {m' k' x':Opd} (hop:o.op= .mapUpdate t m k x) (hm:bC m=some m') (hk:bC k=some k') (hx:bC x=some x') (ht:ZQ P t=true)
 {C:cg} {ow:FuncId->List Nat} {new:Nat} {v:V} {u:Upd} (hs:aN C ow (.mapSet m' k' x') (Opd.ev f) h new=some (v,u)):iC P o a μ h w v u:=by
 obtain ⟨kt,et,it,ii,ie,M⟩:=YL ht
 have hvm:=bP E hm
 have hvk:=bP E hk
 have hvx:=bP E hx
 simp only [aN] at hs
 split at hs
 ·rename_i b L p q y h1 h2 h3
  cases hs
  obtain ⟨c,es,hxm,hc,hb,hmb,g1,g2,g3,g4⟩:=a1H H hvm h1
  have hy:=JF hvk h2
  rw [h3] at hvx
  have hz:=de hvx
  have hlt:=H.lt hc
  have hck:=AZ M w false p q
  rcases TV M w p q g2 g3 with ⟨r1,r2⟩|⟨j,t',r1,r2,r3,r4⟩
  ·rw [XP r2]
   obtain ⟨q1,q2⟩:=H.putM hb hc hmb (sx.push (p:=p) (q:=q) (v:=y) hlt g2 g3 g4) rfl
   refine ⟨undef,_,_,.inr ⟨?_,rfl⟩,q1,q2,.unk _⟩
   simp [execOp,hop,Instr.mapUpdate,hxm,hy,hz,run_underlying M.hu,kK g1,hck,r1,zy _ g1]
  ·rw [a4c r4 r2 r3]
   have hj:j<L.length:=by
    rcases cA j L.length with h|h
    ·exact h
    ·rw [bF h] at r2;cases r2
   have hes:es[j]? =some es[j]:=aL (by omega)
   have hkey:es[j].key=m3 p q:=by
    have:=(g3 j _ _ hes r2).key
    simp only [pN,aG] at r3
    rw [this, <-r3.1, <-r3.2];rfl
   obtain ⟨q1,q2⟩:=H.putM hb hc hmb (sx.mod (j:=j) (g:=fun e=>{ e with key:=m3 p q,val:= .int .i64 y }) (u:=(p,q,y)) hlt g2 g3 g4 (fun e _=>⟨⟨rfl,rfl⟩,rfl⟩) hj) rfl
   refine ⟨undef,_,_,.inr ⟨?_,rfl⟩,q1,q2,.unk _⟩
   simp [execOp,hop,Instr.mapUpdate,hxm,hy,hz,run_underlying M.hu,kK g1,hck,r1,hes,hkey,NM,zy _ g1]
 ·cases hs
theorem a7A [Frame] (H:bD μ h w) (E:gj μ h w f a) {o:Oper} {t:TypeId} {m k:Operand} {m' k':Opd} (hop:o.op= .mapEntry t m k) (hm:bC m=some m') (hk:bC k=some k') (ht:ZQ P t=true)
 {C:cg} {ow:FuncId->List Nat} {new:Nat} {v:V} {u:Upd} (hs:aN C ow (.mapEnt m' k') (Opd.ev f) h new=some (v,u)):iC P o a μ h w v u:=by
 obtain ⟨kt,et,it,ii,ie,M⟩:=YL ht
 have hvm:=bP E hm
 have hvk:=bP E hk
 simp only [aN] at hs
 split at hs
 ·rename_i b L p q h1 h2
  cases hs
  obtain ⟨c,es,hxm,hc,hb,hmb,g1,g2,g3,g4⟩:=a1H H hvm h1
  have hy:=JF hvk h2
  have hlt:=H.lt hc
  have hck:=AZ M w false p q
  have two: ∀{μ':Mu} {h':aZ} {w':World} (x y:Int),aX μ' h' w' (.tup [.lit (.int .i64 x),.lit (.int .i64 y)]) (.tuple #[.int .i64 x,.int .i64 y]):=fun x y=>
   .tup _ _ rfl (fun i v hi=>by
    match i,hi with
    |0,hi=>simp at hi;subst hi;exact .lit _
    |1,hi=>simp at hi;subst hi;exact .lit _)
  rcases TV M w p q g2 g3 with ⟨r1,r2⟩|⟨j,t',r1,r2,r3,r4⟩
  ·rw [Nv r2,No r2,show HX p q L=L++[(p,q,0)] by unfold HX;rw [No r2,aa (Nat.lt_irrefl _)]]
   obtain ⟨q1,q2⟩:=H.putM hb hc hmb (sx.push (p:=p) (q:=q) (v:=0) hlt g2 g3 g4) rfl
   refine ⟨.tuple #[.int .i64 0,.int .i64 (L.length:Nat)],_,_,.inl ?_,q1,q2,two _ _⟩
   simp [execOp,hop,Instr.mapEntry,hxm,hy,run_underlying M.hu,kK g1,hck,r1,Xb M,zy _ g1,goInt,g2]
  ·have hj:j<L.length:=by
    rcases cA j L.length with h|h
    ·exact h
    ·rw [bF h] at r2;cases r2
   rw [Qk r4 r2 r3,RI r4 r2 r3,show HX p q L=L by unfold HX;rw [RI r4 r2 r3,ae hj]]
   have hes:es[j]? =some es[j]:=aL (by omega)
   have hr3:=r3
   simp only [pN,aG] at hr3
   have hment:=g3 j _ _ hes r2
   have hkey:es[j].key=m3 p q:=by
    rw [hment.key, <-hr3.1, <-hr3.2];rfl
   have bV:L.set j t'=L:=by
    apply ny
    intro i
    rw [fC]
    by_cases hi:j=i
    ·subst hi;rw [ae rfl,ae hj,r2]
    ·rw [aa hi]
   obtain ⟨q1,q2⟩:=H.putM hb hc hmb (sx.mod (j:=j) (g:=fun e=>{ e with key:=m3 p q }) (u:=t') hlt g2 g3 g4 (fun e he=>by
    rw [hes] at he;cases he
    exact ⟨⟨by rw [<-hr3.1, <-hr3.2];rfl,hment.val⟩,rfl⟩) hj) rfl
   rw [bV] at q1 q2
   refine ⟨.tuple #[.int .i64 t'.2.2,.int .i64 (j:Nat)],_,_,.inl ?_,q1,q2,two _ _⟩
   simp [execOp,hop,Instr.mapEntry,hxm,hy,run_underlying M.hu,kK g1,hck,r1,hes,hkey,NM,zy _ g1,goInt,g4 j _ hes]
 ·cases hs
theorem a6P [Frame] (H:bD μ h w) (E:gj μ h w f a) {o:Oper} {t:TypeId} {m k x:Operand} {m' k' x':Opd} (hop:o.op= .entryStore t m k x) (hm:bC m=some m') (hk:bC k=some k') (hx:bC x=some x')
 {C:cg} {ow:FuncId->List Nat} {new:Nat} {v:V} {u:Upd} (hs:aN C ow (.mapPut m' k' x') (Opd.ev f) h new=some (v,u)):iC P o a μ h w v u:=by
 have hvm:=bP E hm
 have hvk:=bP E hk
 have hvx:=bP E hx
 simp only [aN] at hs
 split at hs
 ·rename_i b L i y h1 h2 h3
  split at hs
  ·rename_i hi
   cases hs
   obtain ⟨c,es,hxm,hc,hb,hmb,g1,g2,g3,g4⟩:=a1H H hvm h1
   rw [h2] at hvk
   have hy:=de hvk
   rw [h3] at hvx
   have hz:=de hvx
   have hlt:=H.lt hc
   obtain ⟨n,rfl⟩:=nI hi.1
   have hn:n<L.length:=by omega
   have hfind:es.findIdx? (fun e=>(e.born:Int)==(n:Int))=some n:=by
    rw [Array.findIdx?_eq_some_iff_getElem]
    refine ⟨by omega, ?_,fun j hj=> ?_⟩
    ·have:=g4 n _ (aL (by omega))
     simp [this]
    ·have:=g4 j _ (aL (by omega))
     simp [this];omega
   obtain ⟨t',ht'⟩: ∃t',L[n]? =some t':=⟨_,aq hn⟩
   have hput:b2o n y L=L.set n (t'.1,t'.2.1,y):=by
    unfold b2o
    apply ny
    intro i
    rw [List.getElem?_modify,fC]
    by_cases hi:n=i
    ·subst hi
     have hL:L[n]=t':=by simpa [aq hn] using ht'
     simp [ht',hn,hL]
    ·simp [hi]
   rw [aK,hput]
   obtain ⟨q1,q2⟩:=H.putM hb hc hmb (sx.mod (j:=n) (g:=fun e=>{ e with val:= .int .i64 y }) (u:=(t'.1,t'.2.1,y)) hlt g2 g3 g4 (fun e he=>⟨⟨(g3 n e t' he ht').key,rfl⟩,rfl⟩) hn) rfl
   refine ⟨undef,_,_,.inr ⟨?_,rfl⟩,q1,q2,.unk _⟩
   simp [execOp,hop,Instr.entryStore,hxm,hy,hz,kK g1,asInt,asIntOf,hfind,zy _ g1]
  ·cases hs
 ·cases hs
end
end
end Go.AI
