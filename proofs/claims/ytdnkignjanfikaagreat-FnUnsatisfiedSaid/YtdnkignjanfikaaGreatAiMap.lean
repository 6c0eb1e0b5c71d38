/- Maps of pairs of numbers to numbers: what the machine's words for them tell is what the model does. -/
import Derived.Test.YtdnkignjanfikaaGreatAiOps4
import Derived.WideKeyRuns
import Derived.MapKept
set_option linter.unusedVariables false
set_option linter.unusedSimpArgs false
namespace Go.AI
structure PJ (P:Program) (t k e i:TypeId) (ii ie:TypeInfo):Prop where
 hu:P.underlying t=some (.map k e)
 hk:P.underlying k=some (.array 2 i)
 hi:P.underlying i=some (.int .i64)
 hii:P.info? i=some ii
 hs:ii.size=1
 hc:P.cellsOf i=1
 hie:P.info? e=some ie
 hz:ie.zero=some (.int .i64 0)
theorem Ua {P:Program} {t:TypeId} (h:Sn P t=true): ∃k e i ii ie,PJ P t k e i ii ie:=by
 unfold Sn at h
 split at h
 ·rename_i k e hu
  split at h
  ·rename_i i ie hk hie hue
   split at h
   ·rename_i ii hi hii hz
    simp only [Bool.and_eq_true,beq_iff_eq] at h
    exact ⟨k,e,i,ii,ie,hu,hk,hi,hii,h.1,h.2,hie,hz⟩
   ·cases h
  ·cases h
 ·cases h
def ml (a b:Int) (t:Tri):Bool:=decide (a=t.1∧b=t.2.1)
theorem J0 {a b:Int}: ∀{L:List Tri},(∀t∈L,ml a b t=false)→ea a b L=0
 |[],_=>rfl
 | (x,y,v)::r,h=>by
   have h0:=h (x,y,v) (by simp)
   simp only [ml,decide_eq_false_iff_not] at h0
   simp only [ea]
   rw [if_neg h0]
   exact J0 (fun t ht=>h t (by simp [ht]))
theorem Nq {a b:Int}: ∀{L:List Tri} {j:Nat} {t:Tri},(∀i u,i<j→L[i]? =some u→ml a b u=false)→L[j]? =some t→ml a b t=true→ea a b L=t.2.2
 |[],j,t,_,h,_=>by simp at h
 | (x,y,v)::r,0,t,_,h,ht=>by
   simp at h;subst h
   simp only [ml,decide_eq_true_eq] at ht
   simp only [ea]
   rw [if_pos ht]
 | (x,y,v)::r,j+1,t,hm,h,ht=>by
   have h0:=hm 0 (x,y,v) (by omega) rfl
   simp only [ml,decide_eq_false_iff_not] at h0
   simp only [ea]
   rw [if_neg h0]
   exact Nq (j:=j) (fun i u hi hu=>hm (i+1) u (by omega) (by simpa using hu)) (by simpa using h) ht
theorem Qw {a b v:Int}: ∀{L:List Tri},(∀t∈L,ml a b t=false)→ew a b v L=L++[(a,b,v)]
 |[],_=>rfl
 | (x,y,u)::r,h=>by
   have h0:=h (x,y,u) (by simp)
   simp only [ml,decide_eq_false_iff_not] at h0
   simp only [ew]
   rw [if_neg h0,Qw (fun t ht=>h t (by simp [ht]))]
   rfl
theorem Y4 {a b v:Int}: ∀{L:List Tri} {j:Nat} {t:Tri},(∀i u,i<j→L[i]? =some u→ml a b u=false)→L[j]? =some t→ml a b t=true→ew a b v L=L.set j (a,b,v)
 |[],j,t,_,h,_=>by simp at h
 | (x,y,u)::r,0,t,_,h,ht=>by
   simp at h;subst h
   simp only [ml,decide_eq_true_eq] at ht
   simp only [ew]
   rw [if_pos ht]
   rfl
 | (x,y,u)::r,j+1,t,hm,h,ht=>by
   have h0:=hm 0 (x,y,u) (by omega) rfl
   simp only [ml,decide_eq_false_iff_not] at h0
   simp only [ew]
   rw [if_neg h0,Y4 (j:=j) (fun i u hi hu=>hm (i+1) u (by omega) (by simpa using hu)) (by simpa using h) ht]
   rfl
def iV (a b:Int):Value:= .agg #[.int .i64 a,.int .i64 b]
section
variable {P:Program} {w:World} {t k e i:TypeId} {ii ie:TypeInfo}
theorem N4 (M:PJ P t k e i ii ie):P.plainKey i=true:=by unfold Program.plainKey;rw [M.hi]
theorem BX (M:PJ P t k e i ii ie) (w:World) (a b:Int):(Go.part i #[.int .i64 a,.int .i64 b] 0).run P w= .ok (.int .i64 a) w∧(Go.part i #[.int .i64 a,.int .i64 b] 1).run P w= .ok (.int .i64 b) w:=
 ⟨run_part_plain w (N4 M) rfl,run_part_plain w (N4 M) rfl⟩
theorem a5Q (M:PJ P t k e i ii ie) (w:World) (a b c d:Int):(Op.equal k (iV a b) (iV c d)).run P w= .ok (ml a b (c,d,0)) w:=by
 unfold iV Op.equal Op.maxDepth
 show (Op.equalIn (9999+1) k _ _).run P w=_
 rw [run_equalIn_array w 9999 _ _ M.hk M.hii,M.hc]
 show (Op.eqItems 9999 i 1 _ _ [0,1]).run P w=_
 obtain ⟨p1,p2⟩:=BX M w a b
 obtain ⟨q1,q2⟩:=BX M w c d
 simp only [Op.eqItems,Sem.run_bind,Nat.zero_mul,Nat.one_mul,p1,p2,q1,q2,Result.andThen_ok,run_equalIn_int w 9998 i .i64 .i64 a c M.hi,run_equalIn_int w 9998 i .i64 .i64 b d M.hi]
 by_cases h1:a=c
 ·subst h1
  by_cases h2:b=d
  ·subst h2
   simp [p2,ml,run_equalIn_int w 9998 i .i64 .i64 b b M.hi]
  ·simp [p2,q2,h2,ml,run_equalIn_int w 9998 i .i64 .i64 b d M.hi]
 ·simp [h1,ml]
theorem Ul (M:PJ P t k e i ii ie) (w:World) (em:Bool) (n:Nat) (x:Int):(Instr.checkKey em (n+1) i (.int .i64 x)).run P w= .ok () w:=by
 simp [Instr.checkKey,run_underlying M.hi]
theorem Ux (M:PJ P t k e i ii ie) (w:World) (em:Bool) (n:Nat) (a b:Int):(Instr.checkKey em (n+1+1) k (iV a b)).run P w= .ok () w:=by
 obtain ⟨p1,p2⟩:=BX M w a b
 have h1:=fun x=>Ul M w em n x
 unfold iV
 simp only [Instr.checkKey,Sem.run_bind,run_underlying M.hk,Result.andThen_ok] at h1 ⊢
 simp only [Std.Legacy.Range.forIn_eq_forIn_range',Std.Legacy.Range.size,Nat.sub_zero,Nat.add_one_sub_one,Nat.div_one]
 rw [show List.range' 0 2 1=[0,1] from rfl]
 simp [List.forIn_cons,List.forIn_nil,Sem.run_bind,run_sizeOf w M.hii,Result.andThen_ok,M.hs,M.hc,p1,p2,Instr.checkKey,run_underlying M.hi]
theorem xL (M:PJ P t k e i ii ie) (w:World) (em:Bool) (a b:Int):(Instr.checkKey em 10000 k (iV a b)).run P w= .ok () w:=Ux M w em 9998 a b
theorem NG (M:PJ P t k e i ii ie) (w:World) (a b:Int): ∀(es:List MapEntry) (L:List Tri) (n:Nat),L.length=es.length→(∀(j:Nat) (x:MapEntry) (u:Tri),es[j]? =some x→L[j]? =some u→ZR x u)→
 ((Instr.findAsking k (iV a b) es n).run P w= .ok none w∧ ∀u∈L,ml a b u=false)∨
 ∃j u,(Instr.findAsking k (iV a b) es n).run P w= .ok (some (n+j,.int .i64 u.2.2)) w∧L[j]? =some u∧ml a b u=true∧ ∀i u,i<j→L[i]? =some u→ml a b u=false
 |[],[],n,_,_=> .inl ⟨by simp [Instr.findAsking],by simp⟩
 |[],_::_,n,hl,_=>by simp at hl
 |_::_,[],n,hl,_=>by simp at hl
 |x::es,(c,d,v)::L,n,hl,hm=>by
  have m0:=hm 0 x (c,d,v) rfl rfl
  have hr:=a5Q M w a b c d
  have hkey:x.key=iV c d:=m0.key
  have e0:ml a b (c,d,0)=ml a b (c,d,v):=rfl
  rw [e0] at hr
  cases hh:ml a b (c,d,v) with
  |true=>
   right
   refine ⟨0,(c,d,v), ?_,rfl,hh,fun i u hi=>by omega⟩
   rw [hh] at hr
   simp [Instr.findAsking,hkey,hr,m0.val]
  |false=>
   rw [hh] at hr
   rcases NG M w a b es L (n+1) (by simpa using hl) (fun j x u h1 h2=>hm (j+1) x u (by simpa using h1) (by simpa using h2)) with ⟨g1,g2⟩|⟨j,u,g1,g2,g3,g4⟩
   ·left
    refine ⟨by simp [Instr.findAsking,hkey,hr,g1],fun u hu=> ?_⟩
    rcases List.mem_cons.1 hu with rfl|hu
    ·exact hh
    ·exact g2 u hu
   ·right
    refine ⟨j+1,u,by simp [Instr.findAsking,hkey,hr,g1,Nat.add_assoc,Nat.add_comm 1 j],by simpa using g2,g3,fun i u' hi hu=> ?_⟩
    cases i with
    |zero=>simp at hu;subst hu;exact hh
    |succ i=>exact g4 i u' (by omega) (by simpa using hu)
theorem NH (M:PJ P t k e i ii ie) (w:World) (a b:Int) {es:Array MapEntry} {L:List Tri} (hl:L.length=es.size) (hm: ∀(j:Nat) (x:MapEntry) (u:Tri),es[j]? =some x→L[j]? =some u→ZR x u):
 ((Instr.findKey k (iV a b) es.toList).run P w= .ok none w∧ ∀u∈L,ml a b u=false)∨
 ∃j u,(Instr.findKey k (iV a b) es.toList).run P w= .ok (some (j,.int .i64 u.2.2)) w∧L[j]? =some u∧ml a b u=true∧ ∀i u,i<j→L[i]? =some u→ml a b u=false:=by
 have h:=NG M w a b es.toList L 0 (by simpa using hl) (fun j x u h1 h2=>hm j x u (by simpa using h1) h2)
 rw [run_findKey_eq w (by rw [M.hk])]
 simpa using h
theorem aI.newM [Frame] {μ:Mu} {h:au} {w:World} (H:aI μ h w) {b:Nat} (hb:h b=none):
 aI (bk μ b (some w.heap.size)) (aW h b ⟨0,true,[[]]⟩) (jD w (.map #[] 0))∧Chg μ h w (bk μ b (some w.heap.size)) (aW h b ⟨0,true,[[]]⟩) (jD w (.map #[] 0)):=by
 have g:=iZ w (.map #[] 0)
 have hmb:μ b=none:=by
  cases hm:μ b with
  |none=>rfl
  |some c'=>obtain ⟨k',hk',_⟩:=H.dom b c' hm;rw [hb] at hk';cases hk'
 have hne: ∀b' k',h b'=some k'→b'≠b:=fun b' k' hk' e=>by rw [e,hb] at hk';cases hk'
 have ch:Chg μ h w (bk μ b (some w.heap.size)) (aW h b ⟨0,true,[[]]⟩) (jD w (.map #[] 0)):=by
  refine ⟨⟨g.1,g.2.1,g.2.2.1,g.2.2.2.1,g.2.2.2.2.2,(fun c' hc' hs=>⟨g.2.2.2.2.1 c' hc',fun b'=> ?_,hs.2⟩),fun c hc=>g.2.2.2.2.1 c (H.frlt c hc)⟩,fun b' k' hk'=> ?_⟩
  ·unfold bk
   by_cases e:b'=b
   ·rw [if_pos e];intro h1;cases h1;omega
   ·rw [if_neg e];exact hs.1 b'
  ·have e:=hne b' k' hk'
   exact ⟨k',by simp [aW,e,hk'],.inr (.inr ⟨rfl,fun _=>rfl,rfl,by simp [bk,e],fun c' hc'=>g.bsize (H.lt hc')⟩)⟩
 refine ⟨⟨fun b1 b2 c' h1 h2=> ?_,fun b' c' h1=> ?_,fun b' k' hk'=> ?_,fun b' k' hk'=> ?_,fun b' c' h1=> ?_,fun c hc=>Nat.lt_of_lt_of_le (H.frlt c hc) g.2.2.2.1⟩,ch⟩
 ·unfold bk at h1 h2
  by_cases e1:b1=b<;>by_cases e2:b2=b
  ·rw [e1,e2]
  ·rw [if_pos e1] at h1;rw [if_neg e2] at h2;cases h1;have:=H.lt h2;omega
  ·rw [if_neg e1] at h1;rw [if_pos e2] at h2;cases h2;have:=H.lt h1;omega
  ·rw [if_neg e1] at h1;rw [if_neg e2] at h2;exact H.inj _ _ _ h1 h2
 ·unfold bk at h1
  by_cases e:b'=b
  ·exact ⟨⟨0,true,[[]]⟩,by simp [aW,e],.inr rfl⟩
  ·rw [if_neg e] at h1
   obtain ⟨k',hk',h0'⟩:=H.dom b' c' h1
   exact ⟨k',by simp [aW,e,hk'],h0'⟩
 ·by_cases e:b'=b
  ·simp [aW,e] at hk'
   subst hk'
   exact .inr (.inr ⟨rfl,rfl,w.heap.size,by simp [bk,e],⟨⟨#[],[],mO w _,rfl,rfl,(fun i e t h1=>by simp at h1),fun i e h1=>by simp at h1⟩⟩⟩)
  ·simp [aW,e] at hk'
   rcases H.blk b' k' hk' with h1|⟨h0',c',arr',t',lo',hi',hm',hh',hf',hl',hv'⟩|⟨h0',ho',c',hm',hb'⟩
   ·exact .inl ⟨h1.1,h1.2.1,by simp [bk,e,h1.2.2]⟩
   ·exact .inr (.inl ⟨h0',c',arr',t',lo',hi',by simp [bk,e,hm'],by rw [g.2.2.2.2.1 c' (H.lt hm')];exact hh',hf',hl',fun i row j v h1 h2=>(hv' i row j v h1 h2).chg ch⟩)
   ·exact .inr (.inr ⟨h0',ho',c',by simp [bk,e,hm'],hb'.keep (g.2.2.2.2.1 c' (H.lt hm'))⟩)
 ·by_cases e:b'=b
  ·simp [aW,e] at hk';subst hk'
   intro row hrow
   simp at hrow;subst hrow
   exact ⟨fun h=>by simp at h,fun v hv=>by simp at hv⟩
  ·simp [aW,e] at hk';exact H.rows b' k' hk'
 ·unfold bk at h1
  split at h1
  ·cases h1;intro h2;have:=H.frlt _ h2;omega
  ·exact H.frame b' c' h1
def xH (w:World) (c:Nat) (o:Obj):World:={ w with heap:=w.heap.setIfInBounds c o }
theorem Tm {w:World} {c:Nat} {o:Obj} (h:c<w.heap.size):(xH w c o).heap[c]? =some o:=by simp [xH,h]
theorem Dm {w:World} {c c':Nat} {o:Obj} (h:c'≠c):(xH w c o).heap[c']? =w.heap[c']? :=by simp [xH,Array.getElem?_setIfInBounds,Ne.symm h]
theorem aI.putM [Frame] {μ:Mu} {h:au} {w:World} (H:aI μ h w) {b c:Nat} {rows rows':List (List V)} {o:Obj} (hb:h b=some ⟨0,true,rows⟩) (hc:μ b=some c) (hm0:oN w c rows) (hm:oN (xH w c o) c rows') (hl:rows'.length=rows.length):
 aI μ (aW h b ⟨0,true,rows'⟩) (xH w c o)∧Chg μ h w μ (aW h b ⟨0,true,rows'⟩) (xH w c o):=by
 have hsz:(xH w c o).heap.size=w.heap.size:=by simp [xH]
 have hbs: ∀c',bsize (xH w c o) c'=bsize w c':=fun c'=>by
  by_cases e:c'=c
  ·subst e;rw [hm.bsize,hm0.bsize]
  ·unfold bsize;rw [Dm e]
 have ch:Chg μ h w μ (aW h b ⟨0,true,rows'⟩) (xH w c o):=by
  refine ⟨⟨rfl,rfl,rfl,by rw [hsz];exact Nat.le_refl _,Nat.le_refl _,(fun c' hc' hs=>⟨Dm (fun e=>hs.1 b (e▸hc)),hs⟩),fun c' hc'=>Dm (fun e=>H.frame _ _ hc (e▸hc'))⟩,fun b' k' hk'=> ?_⟩
  by_cases e:b'=b
  ·subst e
   rw [hb] at hk';cases hk'
   exact ⟨⟨0,true,rows'⟩,by simp [aW],.inr (.inr ⟨rfl,fun _=>rfl,hl,rfl,fun c' _=>hbs c'⟩)⟩
  ·exact ⟨k',by simp [aW,e,hk'],.inr (.inr ⟨rfl,fun _=>rfl,rfl,rfl,fun c' _=>hbs c'⟩)⟩
 refine ⟨⟨H.inj,fun b' c' h1=> ?_,fun b' k' hk'=> ?_,fun b' k' hk'=> ?_,H.frame,fun c hc=>by rw [hsz];exact H.frlt c hc⟩,ch⟩
 ·by_cases e:b'=b
  ·exact ⟨⟨0,true,rows'⟩,by simp [aW,e],.inr rfl⟩
  ·obtain ⟨k',hk',h0'⟩:=H.dom b' c' h1
   exact ⟨k',by simp [aW,e,hk'],h0'⟩
 ·by_cases e:b'=b
  ·simp [aW,e] at hk'
   subst hk'
   exact .inr (.inr ⟨rfl,rfl,c,by rw [e];exact hc,hm⟩)
  ·simp [aW,e] at hk'
   have hne: ∀c',μ b'=some c'→c'≠c:=fun c' h1 e2=>e (H.inj _ _ _ (e2▸h1) hc)
   rcases H.blk b' k' hk' with h1|⟨h0',c',arr',t',lo',hi',hm',hh',hf',hl',hv'⟩|⟨h0',ho',c',hm',hb'⟩
   ·exact .inl h1
   ·exact .inr (.inl ⟨h0',c',arr',t',lo',hi',hm',by rw [Dm (hne c' hm')];exact hh',hf',hl',fun i row j v h1 h2=>(hv' i row j v h1 h2).chg ch⟩)
   ·exact .inr (.inr ⟨h0',ho',c',hm',hb'.keep (Dm (hne c' hm'))⟩)
 ·by_cases e:b'=b
  ·simp [aW,e] at hk';subst hk'
   intro row hrow
   exact ⟨fun h=>by simp at h,fun v hv=>by obtain ⟨n,rfl⟩:=hm.lit hrow hv;exact ⟨rfl,fun h=>by cases h⟩⟩
  ·simp [aW,e] at hk';exact H.rows b' k' hk'
theorem a5V {h:au} {v:V} {b:Nat} {L:List Tri} (hm:o9 h v=some (b,L)):v= .mp b∧h b=some ⟨0,true,[aC L]⟩:=by
 unfold o9 at hm
 split at hm
 ·rename_i p
  split at hm
  ·rename_i cs hk
   split at hm
   ·rename_i L' hd
    cases hm
    rw [xk hd] at hk
    exact ⟨rfl,hk⟩
   ·cases hm
  ·cases hm
 ·cases hm
theorem NO: ∀{L L':List Tri},aC L=aC L'→L=L'
 |L,L',h=>by
  have h1:=oa L
  rw [h,oa L'] at h1
  cases h1;rfl
section
variable {P:Program} {μ:Mu} {h:au} {w:World} {a:Act} {f:Nat→V}
theorem Sj [Frame] (H:aI μ h w) {v:V} {x:Value} {b:Nat} {L:List Tri} (hv:an μ h w v x) (hm:o9 h v=some (b,L)):
 ∃c es,x= .map (some c)∧μ b=some c∧h b=some ⟨0,true,[aC L]⟩∧oN w c [aC L]∧w.heap[c]? =some (.map es es.size)∧L.length=es.size∧
  (∀(i:Nat) (e:MapEntry) (t:Tri),es[i]? =some e→L[i]? =some t→ZR e t)∧ ∀(i:Nat) (e:MapEntry),es[i]? =some e→e.born=i:=by
 obtain ⟨rfl,hk⟩:=a5V hm
 cases hv with
 |mp _ _ k hk' hx hmm=>
  rw [hk] at hk';cases hk'
  obtain ⟨c,hc,rfl⟩:=hmm rfl rfl
  rcases H.blk b _ hk with ⟨g1,_⟩|⟨g0,_⟩|⟨_,_,c',hc',hb⟩
  ·cases g1
  ·exact absurd g0 (by simp)
  ·rw [hc] at hc';cases hc'
   obtain ⟨es,L',h1,h2,h3,h4,h5⟩:=hb.ex
   have:L'=L:=by
    have:=List.cons.inj h2
    exact (NO this.1).symm
   subst this
   exact ⟨c,es,rfl,hc,hk,hb,h1,h3,h4,h5⟩
theorem Ft [Frame] {v:V} {x:Value} {p q:Int} (hv:an μ h w v x) (hk:mapKey v=some (p,q)):x=iV p q:=by
 unfold mapKey at hk
 split at hk
 ·cases hk
  cases hv with
  |agg _ xs hl hcell hc=>
   have h0:=hc 0 _ rfl
   have h1:=hc 1 _ rfl
   have e0:=bF h0
   have e1:=bF h1
   simp at hl
   unfold iV
   congr 1
   apply Array.ext
   ·simpa using hl
   ·intro i h1' h2'
    match i,h1' with
    |0,h=>simpa [Array.getD_eq_getD_getElem?,Array.getElem?_eq_getElem h] using e0
    |1,h=>simpa [Array.getD_eq_getD_getElem?,Array.getElem?_eq_getElem h] using e1
 ·cases hk
theorem ic {c:Nat} {es:Array MapEntry} {n:Nat} (h:w.heap[c]? =some (.map es n)):(getObj c).run P w= .ok (.map es n) w:=by
 simp [getObj,Sem.run,h]
theorem uY {c:Nat} {es:Array MapEntry} {n:Nat} (o:Obj) (h:w.heap[c]? =some (.map es n)):(setObj c o).run P w= .ok () (xH w c o):=by
 simp [setObj,Sem.run,h,xH]
theorem Qz {t k e i:TypeId} {ii ie:TypeInfo} (M:PJ P t k e i ii ie) (w:World):(zeroValue e).run P w= .ok (.int .i64 0) w:=by
 simp [zeroValue,typeInfo,M.hie,M.hz]
theorem a4i (n:Nat) (a b:Int):Instr.sameBits (n+1+1) (iV a b) (iV a b)=true:=by
 simp [iV,Instr.sameBits]
theorem KV (w:World) (a b:Int):(Instr.keyThatStays (iV a b) (iV a b)).run P w= .ok (iV a b) w:=by
 have:Instr.sameBits 10000 (iV a b) (iV a b)=true:=a4i 9998 a b
 simp [Instr.keyThatStays,this]
theorem IV {a b:Int}: ∀{L:List Tri},(∀t∈L,ml a b t=false)→ur a b L=L.length
 |[],_=>rfl
 | (x,y,v)::r,h=>by
   have h0:=h (x,y,v) (by simp)
   simp only [ml,decide_eq_false_iff_not] at h0
   simp only [ur]
   rw [if_neg h0,IV (fun t ht=>h t (by simp [ht]))]
   rfl
theorem Nl {a b:Int}: ∀{L:List Tri} {j:Nat} {t:Tri},(∀i u,i<j→L[i]? =some u→ml a b u=false)→L[j]? =some t→ml a b t=true→ur a b L=j
 |[],j,t,_,h,_=>by simp at h
 | (x,y,u)::r,0,t,_,h,ht=>by
   simp at h;subst h
   simp only [ml,decide_eq_true_eq] at ht
   simp only [ur]
   rw [if_pos ht]
 | (x,y,u)::r,j+1,t,hm,h,ht=>by
   have h0:=hm 0 (x,y,u) (by omega) rfl
   simp only [ml,decide_eq_false_iff_not] at h0
   simp only [ur]
   rw [if_neg h0,Nl (j:=j) (fun i u hi hu=>hm (i+1) u (by omega) (by simpa using hu)) (by simpa using h) ht]
theorem oN.push {w:World} {c:Nat} {es:Array MapEntry} {L:List Tri} {p q v:Int} (hc:c<w.heap.size) (h3:L.length=es.size) (h4: ∀(i:Nat) (e:MapEntry) (t:Tri),es[i]? =some e→L[i]? =some t→ZR e t) (h5: ∀(i:Nat) (e:MapEntry),es[i]? =some e→e.born=i):
 oN (xH w c (.map (es.push { key:=iV p q,val:= .int .i64 v,born:=es.size }) (es.size+1))) c [aC (L++[(p,q,v)])]:=by
 refine ⟨⟨es.push { key:=iV p q,val:= .int .i64 v,born:=es.size },L++[(p,q,v)],by rw [Tm hc];simp,rfl,by simp [h3],fun i e t h1 h2=> ?_,fun i e h1=> ?_⟩⟩
 ·rw [Array.getElem?_push] at h1
  split at h1
  ·rename_i hi
   cases h1
   subst hi
   rw [←h3,List.getElem?_append_right (Nat.le_refl _),Nat.sub_self] at h2
   simp at h2;subst h2
   exact ⟨rfl,rfl⟩
  ·rename_i hi
   have hlt:i<es.size:=by
    rcases Nat.lt_or_ge i es.size with h|h
    ·exact h
    ·rw [Array.getElem?_eq_none h] at h1;cases h1
   rw [List.getElem?_append_left (by omega)] at h2
   exact h4 i e t h1 h2
 ·rw [Array.getElem?_push] at h1
  split at h1
  ·rename_i hi;cases h1;exact hi.symm
  ·exact h5 i e h1
theorem oN.mod {w:World} {c j:Nat} {es:Array MapEntry} {L:List Tri} {g:MapEntry→MapEntry} {u:Tri} (hc:c<w.heap.size) (h3:L.length=es.size) (h4: ∀(i:Nat) (e:MapEntry) (t:Tri),es[i]? =some e→L[i]? =some t→ZR e t) (h5: ∀(i:Nat) (e:MapEntry),es[i]? =some e→e.born=i)
 (hg: ∀e,es[j]? =some e→ZR (g e) u∧(g e).born=e.born) (hj:j<L.length):
 oN (xH w c (.map (es.modify j g) es.size)) c [aC (L.set j u)]:=by
 refine ⟨⟨es.modify j g,L.set j u,by rw [Tm hc];simp,rfl,by simp [h3],fun i e t h1 h2=> ?_,fun i e h1=> ?_⟩⟩
 ·rw [Array.getElem?_modify] at h1
  rw [List.getElem?_set] at h2
  by_cases hi:j=i
  ·subst hi
   rw [if_pos rfl] at h1
   rw [if_pos rfl,if_pos hj] at h2
   cases h2
   cases he:es[j]? with
   |none=>rw [he] at h1;cases h1
   |some e0=>rw [he] at h1;cases h1;exact (hg e0 he).1
  ·rw [if_neg hi] at h1
   rw [if_neg hi] at h2
   exact h4 i e t h1 h2
 ·rw [Array.getElem?_modify] at h1
  by_cases hi:j=i
  ·subst hi
   rw [if_pos rfl] at h1
   cases he:es[j]? with
   |none=>rw [he] at h1;cases h1
   |some e0=>rw [he] at h1;cases h1;rw [(hg e0 he).2];exact h5 _ _ he
  ·rw [if_neg hi] at h1;exact h5 i e h1
theorem a4a [Frame] (H:aI μ h w) {o:Oper} {t:TypeId} (hop:o.op= .makeMap t none) {C:aY} {ow:FuncId→List Nat} {new:Nat} {v:V} {u:Upd}
 (hs:aj C ow .mkMap (Opd.ev f) h new=some (v,u)):eV P o a μ h w v u:=by
 simp only [aj] at hs
 split at hs
 ·rename_i hn
  cases hs
  have hn':h new=none:=by simpa using hn
  obtain ⟨q1,q2⟩:=H.newM (w:=w) hn'
  refine ⟨.map (some w.heap.size),_,_,.inl ?_,q1,q2,.mp new _ ⟨0,true,[[]]⟩ (by simp [dz,aW]) ⟨_,rfl⟩ (fun _ _=>⟨_,by simp [bk],rfl⟩)⟩
  simp [execOp,hop,Instr.makeMap,jD]
 ·cases hs
theorem Zz [Frame] (H:aI μ h w) (E:dF μ h w f a) {o:Oper} {t:TypeId} {m k:Operand} {m' k':Opd} (hop:o.op= .lookup t m k false) (hm:aJ m=some m') (hk:aJ k=some k') (ht:Sn P t=true)
 {C:aY} {ow:FuncId→List Nat} {new:Nat} {v:V} {u:Upd} (hs:aj C ow (.mapGet m' k') (Opd.ev f) h new=some (v,u)):eV P o a μ h w v u:=by
 obtain ⟨kt,et,it,ii,ie,M⟩:=Ua ht
 have hvm:=aS E hm
 have hvk:=aS E hk
 simp only [aj] at hs
 split at hs
 ·rename_i b L p q h1 h2
  cases hs
  obtain ⟨c,es,hx,hc,hb,hmb,g1,g2,g3,g4⟩:=Sj H hvm h1
  have hy:=Ft hvk h2
  refine .quiet H (x:= .int .i64 (ea p q L)) ?_ (.lit _)
  have hck:=xL M w es.isEmpty p q
  rcases NH M w p q g2 g3 with ⟨r1,r2⟩|⟨j,t',r1,r2,r3,r4⟩
  ·rw [J0 r2]
   simp [execOp,hop,Instr.lookup,hx,hy,run_underlying M.hu,ic g1,hck,r1,Qz M]
  ·rw [Nq r4 r2 r3]
   simp [execOp,hop,Instr.lookup,hx,hy,run_underlying M.hu,ic g1,hck,r1]
 ·cases hs
theorem a1d [Frame] (H:aI μ h w) (E:dF μ h w f a) {o:Oper} {t:TypeId} {m k x:Operand} {m' k' x':Opd} (hop:o.op= .mapUpdate t m k x) (hm:aJ m=some m') (hk:aJ k=some k') (hx:aJ x=some x') (ht:Sn P t=true)
 {C:aY} {ow:FuncId→List Nat} {new:Nat} {v:V} {u:Upd} (hs:aj C ow (.mapSet m' k' x') (Opd.ev f) h new=some (v,u)):eV P o a μ h w v u:=by
 obtain ⟨kt,et,it,ii,ie,M⟩:=Ua ht
 have hvm:=aS E hm
 have hvk:=aS E hk
 have hvx:=aS E hx
 simp only [aj] at hs
 split at hs
 ·rename_i b L p q y h1 h2 h3
  cases hs
  obtain ⟨c,es,hxm,hc,hb,hmb,g1,g2,g3,g4⟩:=Sj H hvm h1
  have hy:=Ft hvk h2
  rw [h3] at hvx
  have hz:=bF hvx
  have hlt:=H.lt hc
  have hck:=xL M w false p q
  rcases NH M w p q g2 g3 with ⟨r1,r2⟩|⟨j,t',r1,r2,r3,r4⟩
  ·rw [Qw r2]
   obtain ⟨q1,q2⟩:=H.putM hb hc hmb (oN.push (p:=p) (q:=q) (v:=y) hlt g2 g3 g4) rfl
   refine ⟨undef,_,_,.inr ⟨?_,rfl⟩,q1,q2,.unk _⟩
   simp [execOp,hop,Instr.mapUpdate,hxm,hy,hz,run_underlying M.hu,ic g1,hck,r1,uY _ g1]
  ·rw [Y4 r4 r2 r3]
   have hj:j<L.length:=by
    rcases Nat.lt_or_ge j L.length with h|h
    ·exact h
    ·rw [List.getElem?_eq_none h] at r2;cases r2
   have hes:es[j]? =some es[j]:=Array.getElem?_eq_getElem (by omega)
   have hkey:es[j].key=iV p q:=by
    have:=(g3 j _ _ hes r2).key
    simp only [ml,decide_eq_true_eq] at r3
    rw [this, ←r3.1, ←r3.2];rfl
   obtain ⟨q1,q2⟩:=H.putM hb hc hmb (oN.mod (j:=j) (g:=fun e=>{ e with key:=iV p q,val:= .int .i64 y }) (u:=(p,q,y)) hlt g2 g3 g4 (fun e _=>⟨⟨rfl,rfl⟩,rfl⟩) hj) rfl
   refine ⟨undef,_,_,.inr ⟨?_,rfl⟩,q1,q2,.unk _⟩
   simp [execOp,hop,Instr.mapUpdate,hxm,hy,hz,run_underlying M.hu,ic g1,hck,r1,hes,hkey,KV,uY _ g1]
 ·cases hs
theorem Yy [Frame] (H:aI μ h w) (E:dF μ h w f a) {o:Oper} {t:TypeId} {m k:Operand} {m' k':Opd} (hop:o.op= .mapEntry t m k) (hm:aJ m=some m') (hk:aJ k=some k') (ht:Sn P t=true)
 {C:aY} {ow:FuncId→List Nat} {new:Nat} {v:V} {u:Upd} (hs:aj C ow (.mapEnt m' k') (Opd.ev f) h new=some (v,u)):eV P o a μ h w v u:=by
 obtain ⟨kt,et,it,ii,ie,M⟩:=Ua ht
 have hvm:=aS E hm
 have hvk:=aS E hk
 simp only [aj] at hs
 split at hs
 ·rename_i b L p q h1 h2
  cases hs
  obtain ⟨c,es,hxm,hc,hb,hmb,g1,g2,g3,g4⟩:=Sj H hvm h1
  have hy:=Ft hvk h2
  have hlt:=H.lt hc
  have hck:=xL M w false p q
  have two: ∀{μ':Mu} {h':au} {w':World} (x y:Int),an μ' h' w' (.tup [.lit (.int .i64 x),.lit (.int .i64 y)]) (.tuple #[.int .i64 x,.int .i64 y]):=fun x y=>
   .tup _ _ rfl (fun i v hi=>by
    match i,hi with
    |0,hi=>simp at hi;subst hi;exact .lit _
    |1,hi=>simp at hi;subst hi;exact .lit _)
  rcases NH M w p q g2 g3 with ⟨r1,r2⟩|⟨j,t',r1,r2,r3,r4⟩
  ·rw [J0 r2,IV r2,show CW p q L=L++[(p,q,0)] by unfold CW;rw [IV r2,if_neg (Nat.lt_irrefl _)]]
   obtain ⟨q1,q2⟩:=H.putM hb hc hmb (oN.push (p:=p) (q:=q) (v:=0) hlt g2 g3 g4) rfl
   refine ⟨.tuple #[.int .i64 0,.int .i64 (L.length:Nat)],_,_,.inl ?_,q1,q2,two _ _⟩
   simp [execOp,hop,Instr.mapEntry,hxm,hy,run_underlying M.hu,ic g1,hck,r1,Qz M,uY _ g1,goInt,g2]
  ·have hj:j<L.length:=by
    rcases Nat.lt_or_ge j L.length with h|h
    ·exact h
    ·rw [List.getElem?_eq_none h] at r2;cases r2
   rw [Nq r4 r2 r3,Nl r4 r2 r3,show CW p q L=L by unfold CW;rw [Nl r4 r2 r3,if_pos hj]]
   have hes:es[j]? =some es[j]:=Array.getElem?_eq_getElem (by omega)
   have hr3:=r3
   simp only [ml,decide_eq_true_eq] at hr3
   have hment:=g3 j _ _ hes r2
   have hkey:es[j].key=iV p q:=by
    rw [hment.key, ←hr3.1, ←hr3.2];rfl
   have aW:L.set j t'=L:=by
    apply List.ext_getElem?
    intro i
    rw [List.getElem?_set]
    by_cases hi:j=i
    ·subst hi;rw [if_pos rfl,if_pos hj,r2]
    ·rw [if_neg hi]
   obtain ⟨q1,q2⟩:=H.putM hb hc hmb (oN.mod (j:=j) (g:=fun e=>{ e with key:=iV p q }) (u:=t') hlt g2 g3 g4 (fun e he=>by
    rw [hes] at he;cases he
    exact ⟨⟨by rw [←hr3.1, ←hr3.2];rfl,hment.val⟩,rfl⟩) hj) rfl
   rw [aW] at q1 q2
   refine ⟨.tuple #[.int .i64 t'.2.2,.int .i64 (j:Nat)],_,_,.inl ?_,q1,q2,two _ _⟩
   simp [execOp,hop,Instr.mapEntry,hxm,hy,run_underlying M.hu,ic g1,hck,r1,hes,hkey,KV,uY _ g1,goInt,g4 j _ hes]
 ·cases hs
theorem YR [Frame] (H:aI μ h w) (E:dF μ h w f a) {o:Oper} {t:TypeId} {m k x:Operand} {m' k' x':Opd} (hop:o.op= .entryStore t m k x) (hm:aJ m=some m') (hk:aJ k=some k') (hx:aJ x=some x')
 {C:aY} {ow:FuncId→List Nat} {new:Nat} {v:V} {u:Upd} (hs:aj C ow (.mapPut m' k' x') (Opd.ev f) h new=some (v,u)):eV P o a μ h w v u:=by
 have hvm:=aS E hm
 have hvk:=aS E hk
 have hvx:=aS E hx
 simp only [aj] at hs
 split at hs
 ·rename_i b L i y h1 h2 h3
  split at hs
  ·rename_i hi
   cases hs
   obtain ⟨c,es,hxm,hc,hb,hmb,g1,g2,g3,g4⟩:=Sj H hvm h1
   rw [h2] at hvk
   have hy:=bF hvk
   rw [h3] at hvx
   have hz:=bF hvx
   have hlt:=H.lt hc
   obtain ⟨n,rfl⟩:=Int.eq_ofNat_of_zero_le hi.1
   have hn:n<L.length:=by omega
   have hfind:es.findIdx? (fun e=>(e.born:Int)==(n:Int))=some n:=by
    rw [Array.findIdx?_eq_some_iff_getElem]
    refine ⟨by omega, ?_,fun j hj=> ?_⟩
    ·have:=g4 n _ (Array.getElem?_eq_getElem (by omega))
     simp [this]
    ·have:=g4 j _ (Array.getElem?_eq_getElem (by omega))
     simp [this];omega
   obtain ⟨t',ht'⟩: ∃t',L[n]? =some t':=⟨_,List.getElem?_eq_getElem hn⟩
   have hput:b2c n y L=L.set n (t'.1,t'.2.1,y):=by
    unfold b2c
    apply List.ext_getElem?
    intro i
    rw [List.getElem?_modify,List.getElem?_set]
    by_cases hi:n=i
    ·subst hi
     have hL:L[n]=t':=by simpa [List.getElem?_eq_getElem hn] using ht'
     simp [ht',hn,hL]
    ·simp [hi]
   rw [Int.toNat_natCast,hput]
   obtain ⟨q1,q2⟩:=H.putM hb hc hmb (oN.mod (j:=n) (g:=fun e=>{ e with val:= .int .i64 y }) (u:=(t'.1,t'.2.1,y)) hlt g2 g3 g4 (fun e he=>⟨⟨(g3 n e t' he ht').key,rfl⟩,rfl⟩) hn) rfl
   refine ⟨undef,_,_,.inr ⟨?_,rfl⟩,q1,q2,.unk _⟩
   simp [execOp,hop,Instr.entryStore,hxm,hy,hz,ic g1,asInt,asIntOf,hfind,uY _ g1]
  ·cases hs
 ·cases hs
end
end
end Go.AI
