/- The way back out of a call. -/
import Derived.Test.YtdmhkkcihecndaaGreatAiCall2
set_option linter.unusedVariables false
set_option linter.unusedSimpArgs false
namespace Go.AI
def okA:V→Bool
 | .agg cs=>cs.all okC
 |v=>okC v
def okR:V→Bool
 | .tup vs=>vs.all okA
 |v=>okA v
def okD:V→Bool
 | .fn _ cs=>cs.all okC
 |v=>okC v
def okB (k:Blk):Prop:=k.op=true→ ∀row∈k.rows, ∀v∈row,okD v=true
theorem VK: ∀(ids:List Nat) (L:List Blk) (h:aw),(ids.take L.length).Nodup→L.length≤ids.length→
 (∀(p b:Nat) (k:Blk),ids[p]? =some b→L[p]? =some k→dT h (jP ids L) b=some k)∧ ∀b,b∉ids.take L.length→dT h (jP ids L) b=h b
 |[],L,h,_,hl=>by
  have:L=[]:=List.eq_nil_of_length_eq_zero (by simpa using hl)
  subst this
  exact ⟨fun p b k h1=>by simp at h1,fun b _=>rfl⟩
 |i::r,[],h,_,_=>⟨fun p b k _ h1=>by simp at h1,fun b _=>rfl⟩
 |i::r,k::s,h,hn,hl=>by
  simp only [List.length_cons,List.take_succ_cons,List.nodup_cons] at hn
  obtain ⟨a1,a2⟩:=VK r s (bt h i k) hn.2 (by simpa using hl)
  refine ⟨fun p b k' h1 h2=> ?_,fun b hb=> ?_⟩
  ·cases p with
   |zero=>
    simp at h1 h2
    subst h1;subst h2
    show dT (bt h i k) (jP r s) i=some k
    rw [a2 i hn.1]
    simp [bt]
   |succ p=>exact a1 p b k' (by simpa using h1) (by simpa using h2)
  ·simp only [List.length_cons,List.take_succ_cons,List.mem_cons,not_or] at hb
   show dT (bt h i k) (jP r s) b=h b
   rw [a2 b hb.2]
   simp [bt,hb.1]
theorem QF: ∀(bs:List Nat) (h:aw),(∀b,b∈bs→dT h (f8 bs) b=some dR)∧ ∀b,b∉bs→dT h (f8 bs) b=h b
 |[],h=>⟨fun b hb=>by simp at hb,fun b _=>rfl⟩
 |i::r,h=>by
  obtain ⟨a1,a2⟩:=QF r (bt h i dR)
  refine ⟨fun b hb=> ?_,fun b hb=> ?_⟩
  ·by_cases hr:b∈r
   ·exact a1 b hr
   ·have:b=i:=by
     rcases List.mem_cons.1 hb with e|e
     ·exact e
     ·exact absurd e hr
    subst this
    show dT (bt h b dR) (f8 r) b=some dR
    rw [a2 b hr]
    simp [bt]
  ·simp only [List.mem_cons,not_or] at hb
   show dT (bt h i dR) (f8 r) b=h b
   rw [a2 b hb.2]
   simp [bt,hb.1]
def pn (μ μ1:Mu) (idx kb:List Nat):Mu:=fun b=>if b∈idx then μ1 (kT b idx) else if b∈kb then none else μ b
theorem YB {idx:List Nat} (hn:idx.Nodup) {p b:Nat} (hp:idx[p]? =some b):kT b idx=p:=
 (List.getElem?_inj (cu (na (List.mem_of_getElem? hp))) hn).1 ((na (List.mem_of_getElem? hp)).trans hp.symm)
structure O2 (F:Frame) (μ:Mu) (h:aw) (w:World) (ids bor:List Nat) (blks:List Blk) (μ1:Mu) (blks':List Blk) (w':World) (idx kb:List Nat) (ids2:List Nat) (hc:aw):Prop where
 W:Way h ids bor blks
 H: @aI F μ h w
 H1: @aI (kI F μ ids bor) μ1 (bn blks') w'
 C1: @Chg (kI F μ ids bor) (lb μ ids) (bn blks) w μ1 (bn blks') w'
 nd:idx.Nodup
 len:idx.length=blks'.length
 sub: ∀b∈ids,b∈idx
 pre: ∀(p b:Nat),ids[p]? =some b→idx[p]? =some b
 new: ∀b∈idx,b∈ids∨h b=none
 idx2: ∀(p:Nat) (b:Nat),idx[p]? =some b→ids2.getD p 0=b
 kbs: ∀b∈kb,b∈bor
 c1: ∀(p b:Nat) (k:Blk),idx[p]? =some b→blks'[p]? =some k→hc b=some (hU ids2 k)
 c2: ∀b,b∈kb→hc b=some dR
 c3: ∀b,b∉idx→b∉kb→hc b=h b
section
variable {F:Frame} {μ:Mu} {h:aw} {w:World} {ids bor:List Nat} {blks:List Blk} {μ1:Mu} {blks':List Blk} {w':World} {idx kb ids2:List Nat} {hc:aw}
theorem Bv (B:O2 F μ h w ids bor blks μ1 blks' w' idx kb ids2 hc) {p b:Nat} (hp:idx[p]? =some b):pn μ μ1 idx kb b=μ1 p:=by
 unfold pn
 rw [if_pos (List.mem_of_getElem? hp),YB B.nd hp]
theorem mp {b c:Nat} (hm:pn μ μ1 idx kb b=some c):(∃p,idx[p]? =some b∧μ1 p=some c)∨(b∉idx∧b∉kb∧μ b=some c):=by
 unfold pn at hm
 split at hm
 ·rename_i hb;exact .inl ⟨_,na hb,hm⟩
 ·rename_i hb
  split at hm
  ·cases hm
  ·rename_i hk;exact .inr ⟨hb,hk,hm⟩
theorem O2.other (B:O2 F μ h w ids bor blks μ1 blks' w' idx kb ids2 hc) {b c:Nat} (hb:b∉idx) (hm:μ b=some c):
 w'.heap[c]? =w.heap[c]? ∧(∀p,μ1 p≠some c)∧(b∈bor∨(kI F μ ids bor).fr c):=by
 have hlt:= @aI.lt F μ h w B.H b c hm
 have hnb:b∉ids:=fun h1=>hb (B.sub b h1)
 by_cases hbor:b∈bor
 ·have hs: @lT (kI F μ ids bor) (lb μ ids) c:=BV B.W (@aI.frame F μ h w B.H b c hm) (fun b' hb' e=>by
   have:= @aI.inj F μ h w B.H _ _ _ e hm
   subst this
   exact hb' hbor)
  obtain ⟨g1,g2⟩:=a0q (ML B.C1) c hlt hs
  exact ⟨g1,fun p=>g2.1 p,.inl hbor⟩
 ·have hf:(kI F μ ids bor).fr c:= .inr ⟨b,hm,hnb,hbor⟩
  exact ⟨a0V (ML B.C1) c hf,fun p e=>S4 B.H1 p c e hf,.inr hf⟩
theorem MV (B:O2 F μ h w ids bor blks μ1 blks' w' idx kb ids2 hc) (hk: ∀b∈bor,b∈kb) {c:Nat} (hs: @lT (kI F μ ids bor) μ1 c): @lT F (pn μ μ1 idx kb) c:=by
 refine ⟨fun b hm=> ?_,fun hf=>hs.2 (.inl hf)⟩
 rcases mp hm with ⟨p,_,h1⟩|⟨h1,h2,h3⟩
 ·exact hs.1 p h1
 ·exact hs.2 (.inr ⟨b,h3,fun h4=>h1 (B.sub b h4),fun h4=>h2 (hk b h4)⟩)
theorem iN (ids:List Nat) (k:Blk):(hU ids k).esz=k.esz:=by unfold hU;split<;>rfl
theorem XA (ids:List Nat) (k:Blk):(hU ids k).op=k.op:=by unfold hU;split<;>rfl
theorem rZ (ids:List Nat) (k:Blk):(hU ids k).rows.length=k.rows.length:=by unfold hU;split<;>simp
theorem WX (ids:List Nat) {v:V} (h:v.cell=true):(unV ids v).cell=true:=by cases v<;>first|exact h|rfl
theorem a03 (ids:List Nat) {v:V} (h:v.cell=true):(mm ids v).cell=true:=by
 cases v with
 |agg cs=>simp [V.cell] at h
 |fn f cs=>rfl
 |_=>exact WX ids h
theorem a1Y (ids:List Nat) {v:V} (h:okC v=true):mm ids v=unV ids v:=by
 cases v with
 |agg cs=>simp [okC] at h
 |fn f cs=>
  cases cs with
  |nil=>rfl
  |cons a b=>simp [okC] at h
 |_=>rfl
theorem L5 {v:V} (hf:py v=true) (hcl:v.cl=true): ∃x,v= .lit x:=by
 cases v<;>simp [py,V.cl] at hf hcl ⊢
theorem Al (B:O2 F μ h w ids bor blks μ1 blks' w' idx kb ids2 hc) {v:V} {x:Value} (ho:okC v=true) (hk:(∀b∈bor,b∈kb)∨py v=true) (hv: @au (kI F μ ids bor) μ1 (bn blks') w' v x):
 @au F (pn μ μ1 idx kb) hc w' (unV ids2 v) x:=by
 have closed:v.cl=true→unV ids2 v=v→ @au F (pn μ μ1 idx kb) hc w' (unV ids2 v) x:=fun hcl hu=>by
  rw [hu]
  rcases hk with hk|hf
  ·exact au.move (F:=kI F μ ids bor) _ (fun c hc hs=>⟨hc,rfl,MV B hk hs⟩) hv hcl
  ·obtain ⟨y,rfl⟩:=L5 hf hcl
   cases hv with
   |lit=>exact @au.lit F _ _ _ _
 cases v with
 |lit y=>exact closed rfl rfl
 |imm e r=>exact closed rfl rfl
 |iptr r o=>exact closed rfl rfl
 |fn f cs=>
  cases cs with
  |nil=>exact closed rfl rfl
  |cons a b=>simp [okC] at ho
 |agg cs=>simp [okC] at ho
 |tup cs=>simp [okC] at ho
 |undef=>exact @au.unk F _ _ _ x
 |ptr p i o n=>
  cases hv with
  |ptr _ _ _ _ _ k hk0 hn hx hp=>
   obtain ⟨b,hb⟩:=cC (l:=idx) (i:=p) (by rw [B.len];exact cu hk0)
   have hu:unV ids2 (.ptr p i o n)= .ptr b i o n:=by show V.ptr _ _ _ _=_;rw [B.idx2 p b hb]
   rw [hu]
   refine @au.ptr F _ _ _ b i o n x (hU ids2 k) (B.c1 p b k hb hk0) (by rw [iN,rZ];exact hn) hx (fun g1 g2 g3=> ?_)
   rw [iN] at g1 ⊢
   rw [rZ] at g2
   rw [Bv B hb]
   exact hp g1 g2 g3
 |sl p s n=>
  cases hv with
  |sl _ _ _ _ k hk0 hn hx hp=>
   obtain ⟨b,hb⟩:=cC (l:=idx) (i:=p) (by rw [B.len];exact cu hk0)
   have hu:unV ids2 (.sl p s n)= .sl b s n:=by show V.sl _ _ _=_;rw [B.idx2 p b hb]
   rw [hu]
   refine @au.sl F _ _ _ b s n x (hU ids2 k) (B.c1 p b k hb hk0) (by rw [iN,rZ];exact hn) hx (fun g1 g2=> ?_)
   rw [iN] at g1 ⊢
   rw [rZ] at g2
   rw [Bv B hb]
   exact hp g1 g2
theorem a38 (B:O2 F μ h w ids bor blks μ1 blks' w' idx kb ids2 hc) {v:V} {x:Value} (ho:okD v=true) (hk:(∀b∈bor,b∈kb)∨py v=true) (hv: @au (kI F μ ids bor) μ1 (bn blks') w' v x):
 @au F (pn μ μ1 idx kb) hc w' (mm ids2 v) x:=by
 have other:okC v=true→ @au F (pn μ μ1 idx kb) hc w' (mm ids2 v) x:=fun h1=>by
  rw [a1Y _ h1];exact Al B h1 hk hv
 cases v with
 |fn f cs=>
  cases hv with
  |fn _ _ xs hl hcs=>
   show @au F _ _ _ (.fn f (cs.map (unV ids2))) _
   refine @au.fn F _ _ _ f _ xs (by simp [hl]) (fun i v hi=> ?_)
   rw [List.getElem?_map] at hi
   cases hu:cs[i]? with
   |none=>rw [hu] at hi;cases hi
   |some u=>
    rw [hu] at hi;cases hi
    have hm:=List.mem_of_getElem? hu
    refine Al B (List.all_eq_true.1 ho u hm) (hk.imp id (fun h1=> ?_)) (hcs i u hu)
    simp [py] at h1
 |_=>exact other ho
theorem a1r (B:O2 F μ h w ids bor blks μ1 blks' w' idx kb ids2 hc) {v:V} {x:Value} (ho:okA v=true) (hk:(∀b∈bor,b∈kb)∨Mg v=true) (hv: @au (kI F μ ids bor) μ1 (bn blks') w' v x):
 @au F (pn μ μ1 idx kb) hc w' (mm ids2 v) x:=by
 cases v with
 |agg cs=>
  cases hv with
  |agg _ xs hl hcell hcs=>
   show @au F _ _ _ (.agg (cs.map (unV ids2))) _
   refine @au.agg F _ _ _ _ xs (by simp [hl]) (fun v hv=> ?_) (fun i v hi=> ?_)
   ·obtain ⟨u,hu,rfl⟩:=List.mem_map.1 hv;exact WX _ (hcell u hu)
   ·rw [List.getElem?_map] at hi
    cases hu:cs[i]? with
    |none=>rw [hu] at hi;cases hi
    |some u=>
     rw [hu] at hi;cases hi
     have hm:=List.mem_of_getElem? hu
     exact Al B (List.all_eq_true.1 ho u hm) (hk.imp id (fun h1=>List.all_eq_true.1 h1 u hm)) (hcs i u hu)
 |fn f cs=>
  cases cs with
  |nil=>exact Al B (by exact ho) (by exact hk) hv
  |cons a b=>simp [okA,okC] at ho
 |_=>exact Al B (by exact ho) (by exact hk) hv
theorem a9V (B:O2 F μ h w ids bor blks μ1 blks' w' idx kb ids2 hc) {v:V} {x:Value} (ho:okR v=true) (hk:(∀b∈bor,b∈kb)∨uD v=true) (hv: @au (kI F μ ids bor) μ1 (bn blks') w' v x):
 @au F (pn μ μ1 idx kb) hc w' (DF ids2 v) x:=by
 cases v with
 |tup vs=>
  cases hv with
  |tup _ xs hl hcs=>
   show @au F _ _ _ (.tup (vs.map (mm ids2))) _
   refine @au.tup F _ _ _ _ xs (by simp [hl]) (fun i v hi=> ?_)
   rw [List.getElem?_map] at hi
   cases hu:vs[i]? with
   |none=>rw [hu] at hi;cases hi
   |some u=>
    rw [hu] at hi;cases hi
    have hm:=List.mem_of_getElem? hu
    exact a1r B (List.all_eq_true.1 ho u hm) (hk.imp id (fun h1=>List.all_eq_true.1 h1 u hm)) (hcs i u hu)
 |_=>exact a1r B (by exact ho) (by exact hk) hv
theorem a1w (B:O2 F μ h w ids bor blks μ1 blks' w' idx kb ids2 hc): @Chg F μ h w (pn μ μ1 idx kb) hc w':=by
 refine @Chg.mk F _ _ _ _ _ _ (@kn.mk F _ _ _ _ (b6a (ML B.C1)) (a72 (ML B.C1)) (b2x (ML B.C1)) (a0o (ML B.C1)) (fun c hc hs=> ?_) (fun c hf=>a0V (ML B.C1) c (.inl hf))) (fun b k hk=> ?_)
 ·obtain ⟨g1,g2⟩:=a0q (ML B.C1) c hc (BV B.W hs.2 (fun b _=>hs.1 b))
  refine ⟨g1,fun b hm=> ?_,hs.2⟩
  rcases mp hm with ⟨p,_,h1⟩|⟨_,_,h3⟩
  ·exact g2.1 p h1
  ·exact hs.1 b h3
 ·by_cases hb:b∈idx
  ·rcases B.new b hb with hb'|hb'
   ·obtain ⟨p,hp,hpb⟩:=List.getElem_of_mem hb'
    have hp1:ids[p]? =some b:=by rw [List.getElem?_eq_getElem hp,hpb]
    have hp2:=B.pre p b hp1
    obtain ⟨k',k0,g1,g2,L⟩:=B.W.at_ p b hp1
    rw [hk] at g1;cases g1
    obtain ⟨k1,q1,q2⟩:=a8x B.C1 p k0 g2
    refine ⟨hU ids2 k1,B.c1 p b k1 hp2 q1, ?_⟩
    rw [iN,rZ,Bv B hp2]
    rw [L.esz,L.len] at q2
    have:lb μ ids p=μ b:=by simp [lb,hp1]
    rw [this] at q2
    exact q2
   ·rw [hk] at hb';cases hb'
  ·by_cases hk2:b∈kb
   ·exact ⟨dR,B.c2 b hk2,.inl rfl⟩
   ·refine ⟨k,by rw [B.c3 b hb hk2];exact hk,.inr (.inr ⟨rfl,rfl,by unfold pn;rw [if_neg hb,if_neg hk2],fun c hm=> ?_⟩)⟩
    unfold bsize
    rw [(B.other hb hm).1]
theorem a74 (B:O2 F μ h w ids bor blks μ1 blks' w' idx kb ids2 hc) (hok: ∀k∈blks',okB k) (hk:(∀b∈bor,b∈kb)∨blks'.all xd=true): @aI F (pn μ μ1 idx kb) hc w':=by
 have C:=a1w B
 have idxBlk: ∀p b,idx[p]? =some b→ ∃k,blks'[p]? =some k:=fun p b hp=>cC (by rw [←B.len];exact cu hp)
 refine @aI.mk F _ _ _ (fun b b' c h1 h2=> ?_) (fun b c h1=> ?_) (fun b k hk0=> ?_) (fun b k hk0=> ?_) (fun b c h1=> ?_) (fun c hf=>Nat.lt_of_lt_of_le (@aI.frlt F μ h w B.H c hf) (a0o (ML B.C1)))
 ·rcases mp h1 with ⟨p,hp,g1⟩|⟨e1,e2,e3⟩<;>rcases mp h2 with ⟨p',hp',g1'⟩|⟨e1',e2',e3'⟩
  ·have:=b3L B.H1 _ _ _ g1 g1'
   subst this
   rw [hp] at hp';cases hp';rfl
  ·exact absurd g1 ((B.other e1' e3').2.1 p)
  ·exact absurd g1' ((B.other e1 e3).2.1 p')
  ·exact @aI.inj F μ h w B.H _ _ _ e3 e3'
 ·rcases mp h1 with ⟨p,hp,g1⟩|⟨e1,e2,e3⟩
  ·obtain ⟨k,q1,q2⟩:=b3i B.H1 p c g1
   exact ⟨hU ids2 k,B.c1 p b k hp q1,by rw [iN];exact q2⟩
  ·obtain ⟨k,q1,q2⟩:= @aI.dom F μ h w B.H b c e3
   exact ⟨k,by rw [B.c3 b e1 e2];exact q1,q2⟩
 ·by_cases hb:b∈idx
  ·have hp:=na hb
   obtain ⟨k1,hk1⟩:=idxBlk _ _ hp
   have:=B.c1 _ b k1 hp hk1
   rw [hk0] at this;cases this
   rcases b46 B.H1 _ k1 hk1 with ⟨g1,g2,g3⟩|⟨g0,c,arr,t,lo,hi,gm,gh,gf,gl,gv⟩
   ·left
    refine ⟨?_,by rw [XA];exact g2,by rw [Bv B hp];exact g3⟩
    unfold hU
    rw [if_pos g2];exact g1
   ·right
    refine ⟨by rw [iN];exact g0,c,arr,t,lo,hi,by rw [Bv B hp];exact gm,gh,gf,by rw [rZ,iN];exact gl,fun i row j v h1 h2=> ?_⟩
    rw [iN]
    cases hop:k1.op with
    |false=>
     have hu:hU ids2 k1=k1:=by unfold hU;rw [if_pos hop]
     rw [hu] at h1
     have hcl:=(a1m B.H1 _ k1 hk1 row (List.mem_of_getElem? h1)).2 v (List.mem_of_getElem? h2)|>.2 hop
     rcases hk with hk|hk
     ·exact au.move (F:=kI F μ ids bor) _ (fun c hc hs=>⟨hc,rfl,MV B hk hs⟩) (gv i row j v h1 h2) hcl
     ·have:=List.all_eq_true.1 hk k1 (List.mem_of_getElem? hk1)
      simp [xd,hop] at this
    |true=>
     have hu:hU ids2 k1={ k1 with rows:=k1.rows.map (·.map (mm ids2)) }:=by unfold hU;rw [if_neg (by rw [hop];simp)]
     rw [hu] at h1
     simp only [List.getElem?_map] at h1
     cases hr:k1.rows[i]? with
     |none=>rw [hr] at h1;cases h1
     |some row1=>
      rw [hr] at h1;cases h1
      rw [List.getElem?_map] at h2
      cases hv1:row1[j]? with
      |none=>rw [hv1] at h2;cases h2
      |some v1=>
       rw [hv1] at h2;cases h2
       have hm1:=List.mem_of_getElem? hr
       have hm2:=List.mem_of_getElem? hv1
       have ho:=hok k1 (List.mem_of_getElem? hk1) hop row1 hm1 v1 hm2
       refine a38 B ho (hk.imp id (fun h3=> ?_)) (gv i row1 j v1 hr hv1)
       have:=List.all_eq_true.1 h3 k1 (List.mem_of_getElem? hk1)
       simp only [xd,Bool.and_eq_true] at this
       exact List.all_eq_true.1 (List.all_eq_true.1 this.2 row1 hm1) v1 hm2
  ·by_cases hk2:b∈kb
   ·rw [B.c2 b hk2] at hk0;cases hk0
    exact .inl ⟨rfl,rfl,by unfold pn;rw [if_neg hb,if_pos hk2]⟩
   ·rw [B.c3 b hb hk2] at hk0
    have hm:pn μ μ1 idx kb b=μ b:=by unfold pn;rw [if_neg hb,if_neg hk2]
    rcases @aI.blk F μ h w B.H b k hk0 with ⟨g1,g2,g3⟩|⟨g0,c,arr,t,lo,hi,gm,gh,gf,gl,gv⟩
    ·exact .inl ⟨g1,g2,by rw [hm];exact g3⟩
    ·refine .inr ⟨g0,c,arr,t,lo,hi,by rw [hm];exact gm,by rw [(B.other hb gm).1];exact gh,gf,gl,fun i row j v h1 h2=> @au.chg F _ _ _ _ _ _ C _ _ (gv i row j v h1 h2)⟩
 ·by_cases hb:b∈idx
  ·have hp:=na hb
   obtain ⟨k1,hk1⟩:=idxBlk _ _ hp
   have:=B.c1 _ b k1 hp hk1
   rw [hk0] at this;cases this
   have hr:=a1m B.H1 _ k1 hk1
   rw [iN,XA]
   intro row hrow
   cases hop:k1.op with
   |false=>
    have hu:hU ids2 k1=k1:=by unfold hU;rw [if_pos hop]
    rw [hu] at hrow
    exact ⟨(hr row hrow).1,fun v hv=>⟨((hr row hrow).2 v hv).1,fun _=>((hr row hrow).2 v hv).2 hop⟩⟩
   |true=>
    have hu:hU ids2 k1={ k1 with rows:=k1.rows.map (·.map (mm ids2)) }:=by unfold hU;rw [if_neg (by rw [hop];simp)]
    rw [hu] at hrow
    obtain ⟨row1,hm1,rfl⟩:=List.mem_map.1 hrow
    refine ⟨by simpa using (hr row1 hm1).1,fun v hv=>⟨?_,fun h3=>by cases h3⟩⟩
    obtain ⟨v1,hm2,rfl⟩:=List.mem_map.1 hv
    exact a03 _ ((hr row1 hm1).2 v1 hm2).1
  ·by_cases hk2:b∈kb
   ·rw [B.c2 b hk2] at hk0;cases hk0
    intro row hrow;simp [dR] at hrow
   ·rw [B.c3 b hb hk2] at hk0
    exact @aI.rows F μ h w B.H b k hk0
 ·rcases mp h1 with ⟨p,hp,g1⟩|⟨e1,e2,e3⟩
  ·exact fun hf=>S4 B.H1 p c g1 (.inl hf)
  ·exact @aI.frame F μ h w B.H b c e3
theorem a3b {new:Nat} {r v:V} {u:Upd} {x:Value} (W:Way h ids bor blks) (H: @aI F μ h w) (hp:wO h new ids bor r blks'=some (v,u))
 (H1: @aI (kI F μ ids bor) μ1 (bn blks') w') (C1: @Chg (kI F μ ids bor) (lb μ ids) (bn blks) w μ1 (bn blks') w')
 (hv: @au (kI F μ ids bor) μ1 (bn blks') w' r x) (ho:okR r=true) (hok: ∀k∈blks',okB k):
 ∃μ', @aI F μ' (dT h u) w'∧ @Chg F μ h w μ' (dT h u) w'∧ @au F μ' (dT h u) w' v x:=by
 unfold wO at hp
 split at hp
 ·rename_i hlen
  cases hp
  generalize hkb:(if (bor.isEmpty||(uD r&&blks'.all xd))=true then ([]:List Nat) else bor)=kb
  have hdrop:(if (bor.isEmpty||(uD r&&blks'.all xd))=true then ([]:Upd) else f8 bor)=f8 kb:=by
   rw [←hkb];split<;>rfl
  rw [hdrop]
  have hcov:(∀b∈bor,b∈kb)∨(uD r=true∧blks'.all xd=true):=by
   rw [←hkb]
   split
   ·rename_i hc
    simp only [Bool.or_eq_true,Bool.and_eq_true,List.isEmpty_iff] at hc
    rcases hc with hc|hc
    ·left;rw [hc];intro b hb;cases hb
    ·exact .inr hc
   ·exact .inl fun b hb=>hb
  have hkbs: ∀b∈kb,b∈bor:=by
   rw [←hkb]
   intro b hb
   split at hb
   ·cases hb
   ·exact hb
  obtain ⟨hge,hfr⟩:=hlen
  generalize hns:dc ids blks' new=ns at hfr ⊢
  have hnl:ns.length+ids.length=blks'.length:=by rw [←hns];exact tZ hge
  have hfr': ∀b∈ns,h b=none:=fun b hb=>by simpa using List.all_eq_true.1 hfr b hb
  let idx:=ids++ns
  have hil:idx.length=blks'.length:=by simp only [idx,List.length_append];omega
  have hle:blks'.length≤(ids++ns).length:=by rw [List.length_append];omega
  have hnew: ∀b∈idx,b∈ids∨h b=none:=by
   intro b hb
   rcases List.mem_append.1 hb with h2|h2
   ·exact .inl h2
   ·exact .inr (hfr' b h2)
  have hnd:idx.Nodup:=by
   refine List.nodup_append.2 ⟨W.nd,by rw [←hns];exact Ef ids blks' new,fun a ha b hb e=> ?_⟩
   subst e
   obtain ⟨i,hi,hia⟩:=List.getElem_of_mem ha
   obtain ⟨k,k0,g1,_⟩:=W.at_ i a (by rw [List.getElem?_eq_getElem hi,hia])
   rw [hfr' a hb] at g1;cases g1
  have hat: ∀(p b:Nat),idx[p]? =some b→(ids++ns)[p]? =some b:=fun p b hb=>hb
  have hpre: ∀(p b:Nat),ids[p]? =some b→idx[p]? =some b:=by
   intro p b hb
   simp only [idx]
   rw [List.getElem?_append_left (cu hb)]
   exact hb
  have htk:(ids++ns).take blks'.length=ids++ns:=List.take_of_length_le (by rw [List.length_append];omega)
  let L:=blks'.map (hU (ids++ns))
  have hLl:L.length=blks'.length:=by simp [L]
  have hz:=VK (ids++ns) L h (by rw [hLl,htk];exact hnd) (by rw [hLl];exact hle)
  have hd:=QF kb (dT h (jP (ids++ns) L))
  rw [mh]
  have hkn: ∀b∈kb,b∉idx:=by
   intro b hb hm
   have hbor:=hkbs b hb
   rcases hnew b hm with h1|h2
   ·exact W.dis b hbor h1
   ·obtain ⟨k,hk⟩:=W.has b hbor
    rw [h2] at hk;cases hk
  have B:O2 F μ h w ids bor blks μ1 blks' w' idx kb (ids++ns) (dT (dT h (jP (ids++ns) L)) (f8 kb)):=by
   refine ⟨W,H,H1,C1,hnd,hil,fun b hb=> ?_,hpre,fun b hb=> ?_,fun p b hb=> ?_,hkbs,fun p b k hb hk=> ?_,fun b hb=>hd.1 b hb,fun b hb hk=> ?_⟩
   ·obtain ⟨i,hi,hib⟩:=List.getElem_of_mem hb
    exact List.mem_of_getElem? (hpre i b (by rw [List.getElem?_eq_getElem hi,hib]))
   ·exact hnew b hb
   ·rw [List.getD_eq_getElem?_getD,hat p b hb];rfl
   ·rw [hd.2 b (fun h1=>hkn b h1 (List.mem_of_getElem? hb))]
    exact hz.1 p b _ (hat p b hb) (by simp [L,hk])
   ·rw [hd.2 b hk]
    exact hz.2 b (by rw [hLl,htk];exact hb)
  exact ⟨_,a74 B hok (hcov.imp id (fun h1=>h1.2)),a1w B,a9V B ho (hcov.imp id (fun h1=>h1.1)) hv⟩
 ·cases hp
end
end Go.AI
