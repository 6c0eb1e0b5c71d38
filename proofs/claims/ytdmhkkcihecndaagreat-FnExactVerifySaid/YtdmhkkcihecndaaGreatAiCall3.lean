/- The way back out of a call. -/
import Derived.Test.YtdmhkkcihecndaaGreatAiCall2
set_option linter.unusedVariables false
set_option linter.unusedSimpArgs false
namespace Go.AI
def okA:V→Bool
 | .agg cs=>cs.all okC
 |v=>okC v
def okR:V→Bool
 | .tup vs=>vs.all okA
 |v=>okA v
def okD:V→Bool
 | .fn _ cs=>cs.all okC
 |v=>okC v
def okB (k:Blk):Prop:=k.op=true→ ∀row∈k.rows, ∀v∈row,okD v=true
theorem V9: ∀(ids:List Nat) (L:List Blk) (h:ak),(ids.take L.length).Nodup→L.length≤ids.length→
 (∀(p b:Nat) (k:Blk),ids[p]? =some b→L[p]? =some k→dU h (iK ids L) b=some k)∧ ∀b,b∉ids.take L.length→dU h (iK ids L) b=h b
 |[],L,h,_,hl=>by
  have:L=[]:=List.eq_nil_of_length_eq_zero (by simpa using hl)
  subst this
  exact ⟨fun p b k h1=>by simp at h1,fun b _=>rfl⟩
 |i::r,[],h,_,_=>⟨fun p b k _ h1=>by simp at h1,fun b _=>rfl⟩
 |i::r,k::s,h,hn,hl=>by
  simp only [List.length_cons,List.take_succ_cons,List.nodup_cons] at hn
  obtain ⟨a1,a2⟩:=V9 r s (bj h i k) hn.2 (by simpa using hl)
  refine ⟨fun p b k' h1 h2=> ?_,fun b hb=> ?_⟩
  ·cases p with
   |zero=>
    simp at h1 h2
    subst h1;subst h2
    show dU (bj h i k) (iK r s) i=some k
    rw [a2 i hn.1]
    simp [bj]
   |succ p=>exact a1 p b k' (by simpa using h1) (by simpa using h2)
  ·simp only [List.length_cons,List.take_succ_cons,List.mem_cons,not_or] at hb
   show dU (bj h i k) (iK r s) b=h b
   rw [a2 b hb.2]
   simp [bj,hb.1]
theorem Qg: ∀(bs:List Nat) (h:ak),(∀b,b∈bs→dU h (eO bs) b=some is)∧ ∀b,b∉bs→dU h (eO bs) b=h b
 |[],h=>⟨fun b hb=>by simp at hb,fun b _=>rfl⟩
 |i::r,h=>by
  obtain ⟨a1,a2⟩:=Qg r (bj h i is)
  refine ⟨fun b hb=> ?_,fun b hb=> ?_⟩
  ·by_cases hr:b∈r
   ·exact a1 b hr
   ·have:b=i:=by
     rcases List.mem_cons.1 hb with e|e
     ·exact e
     ·exact absurd e hr
    subst this
    show dU (bj h b is) (eO r) b=some is
    rw [a2 b hr]
    simp [bj]
  ·simp only [List.mem_cons,not_or] at hb
   show dU (bj h i is) (eO r) b=h b
   rw [a2 b hb.2]
   simp [bj,hb.1]
def pi (μ μ1:Mu) (idx kb:List Nat):Mu:=fun b=>if b∈idx then μ1 (jV b idx) else if b∈kb then none else μ b
theorem Xf {idx:List Nat} (hn:idx.Nodup) {p b:Nat} (hp:idx[p]? =some b):jV b idx=p:=
 (List.getElem?_inj (cu (lL (List.mem_of_getElem? hp))) hn).1 ((lL (List.mem_of_getElem? hp)).trans hp.symm)
structure LP (F:Frame) (μ:Mu) (h:ak) (w:World) (ids bor:List Nat) (blks:List Blk) (μ1:Mu) (blks':List Blk) (w':World) (idx kb:List Nat) (ids2:List Nat) (hc:ak):Prop where
 W:Way h ids bor blks
 H: @aE F μ h w
 H1: @aE (jC F μ ids bor) μ1 (bf blks') w'
 C1: @Chg (jC F μ ids bor) (jW μ ids) (bf blks) w μ1 (bf blks') w'
 nd:idx.Nodup
 len:idx.length=blks'.length
 sub: ∀b∈ids,b∈idx
 pre: ∀(p b:Nat),ids[p]? =some b→idx[p]? =some b
 new: ∀b∈idx,b∈ids∨h b=none
 idx2: ∀(p:Nat) (b:Nat),idx[p]? =some b→ids2.getD p 0=b
 kbs: ∀b∈kb,b∈bor
 c1: ∀(p b:Nat) (k:Blk),idx[p]? =some b→blks'[p]? =some k→hc b=some (gQ ids2 k)
 c2: ∀b,b∈kb→hc b=some is
 c3: ∀b,b∉idx→b∉kb→hc b=h b
section
variable {F:Frame} {μ:Mu} {h:ak} {w:World} {ids bor:List Nat} {blks:List Blk} {μ1:Mu} {blks':List Blk} {w':World} {idx kb ids2:List Nat} {hc:ak}
theorem AB (B:LP F μ h w ids bor blks μ1 blks' w' idx kb ids2 hc) {p b:Nat} (hp:idx[p]? =some b):pi μ μ1 idx kb b=μ1 p:=by
 unfold pi
 rw [if_pos (List.mem_of_getElem? hp),Xf B.nd hp]
theorem lj {b c:Nat} (hm:pi μ μ1 idx kb b=some c):(∃p,idx[p]? =some b∧μ1 p=some c)∨(b∉idx∧b∉kb∧μ b=some c):=by
 unfold pi at hm
 split at hm
 ·rename_i hb;exact .inl ⟨_,lL hb,hm⟩
 ·rename_i hb
  split at hm
  ·cases hm
  ·rename_i hk;exact .inr ⟨hb,hk,hm⟩
theorem LP.other (B:LP F μ h w ids bor blks μ1 blks' w' idx kb ids2 hc) {b c:Nat} (hb:b∉idx) (hm:μ b=some c):
 w'.heap[c]? =w.heap[c]? ∧(∀p,μ1 p≠some c)∧(b∈bor∨(jC F μ ids bor).fr c):=by
 have hlt:= @aE.lt F μ h w B.H b c hm
 have hnb:b∉ids:=fun h1=>hb (B.sub b h1)
 by_cases hbor:b∈bor
 ·have hs: @kX (jC F μ ids bor) (jW μ ids) c:=Bo B.W (@aE.frame F μ h w B.H b c hm) (fun b' hb' e=>by
   have:= @aE.inj F μ h w B.H _ _ _ e hm
   subst this
   exact hb' hbor)
  obtain ⟨g1,g2⟩:=YU (LK B.C1) c hlt hs
  exact ⟨g1,fun p=>g2.1 p,.inl hbor⟩
 ·have hf:(jC F μ ids bor).fr c:= .inr ⟨b,hm,hnb,hbor⟩
  exact ⟨ZW (LK B.C1) c hf,fun p e=>TA B.H1 p c e hf,.inr hf⟩
theorem MA (B:LP F μ h w ids bor blks μ1 blks' w' idx kb ids2 hc) (hk: ∀b∈bor,b∈kb) {c:Nat} (hs: @kX (jC F μ ids bor) μ1 c): @kX F (pi μ μ1 idx kb) c:=by
 refine ⟨fun b hm=> ?_,fun hf=>hs.2 (.inl hf)⟩
 rcases lj hm with ⟨p,_,h1⟩|⟨h1,h2,h3⟩
 ·exact hs.1 p h1
 ·exact hs.2 (.inr ⟨b,h3,fun h4=>h1 (B.sub b h4),fun h4=>h2 (hk b h4)⟩)
theorem il (ids:List Nat) (k:Blk):(gQ ids k).esz=k.esz:=by unfold gQ;split<;>rfl
theorem Wn (ids:List Nat) (k:Blk):(gQ ids k).op=k.op:=by unfold gQ;split<;>rfl
theorem s8 (ids:List Nat) (k:Blk):(gQ ids k).rows.length=k.rows.length:=by unfold gQ;split<;>simp
theorem VH (ids:List Nat) {v:V} (h:v.cell=true):(unV ids v).cell=true:=by cases v<;>first|exact h|rfl
theorem XD (ids:List Nat) {v:V} (h:v.cell=true):(k9 ids v).cell=true:=by
 cases v with
 |agg cs=>simp [V.cell] at h
 |fn f cs=>rfl
 |_=>exact VH ids h
theorem a1z (ids:List Nat) {v:V} (h:okC v=true):k9 ids v=unV ids v:=by
 cases v with
 |agg cs=>simp [okC] at h
 |fn f cs=>
  cases cs with
  |nil=>rfl
  |cons a b=>simp [okC] at h
 |_=>rfl
theorem IS {v:V} (hf:mu v=true) (hcl:v.cl=true): ∃x,v= .lit x:=by
 cases v<;>simp [mu,V.cl] at hf hcl ⊢
theorem zF (B:LP F μ h w ids bor blks μ1 blks' w' idx kb ids2 hc) {v:V} {x:Value} (ho:okC v=true) (hk:(∀b∈bor,b∈kb)∨mu v=true) (hv: @aj (jC F μ ids bor) μ1 (bf blks') w' v x):
 @aj F (pi μ μ1 idx kb) hc w' (unV ids2 v) x:=by
 have closed:v.cl=true→unV ids2 v=v→ @aj F (pi μ μ1 idx kb) hc w' (unV ids2 v) x:=fun hcl hu=>by
  rw [hu]
  rcases hk with hk|hf
  ·exact aj.move (F:=jC F μ ids bor) _ (fun c hc hs=>⟨hc,rfl,MA B hk hs⟩) hv hcl
  ·obtain ⟨y,rfl⟩:=IS hf hcl
   cases hv with
   |lit=>exact @aj.lit F _ _ _ _
 cases v with
 |lit y=>exact closed rfl rfl
 |imm e r=>exact closed rfl rfl
 |iptr r o=>exact closed rfl rfl
 |fn f cs=>
  cases cs with
  |nil=>exact closed rfl rfl
  |cons a b=>simp [okC] at ho
 |agg cs=>simp [okC] at ho
 |tup cs=>simp [okC] at ho
 |undef=>exact @aj.unk F _ _ _ x
 |ptr p i o n=>
  cases hv with
  |ptr _ _ _ _ _ k hk0 hn hx hp=>
   obtain ⟨b,hb⟩:=cH (l:=idx) (i:=p) (by rw [B.len];exact cu hk0)
   have hu:unV ids2 (.ptr p i o n)= .ptr b i o n:=by show V.ptr _ _ _ _=_;rw [B.idx2 p b hb]
   rw [hu]
   refine @aj.ptr F _ _ _ b i o n x (gQ ids2 k) (B.c1 p b k hb hk0) (by rw [il,s8];exact hn) hx (fun g1 g2 g3=> ?_)
   rw [il] at g1 ⊢
   rw [s8] at g2
   rw [AB B hb]
   exact hp g1 g2 g3
 |sl p s n=>
  cases hv with
  |sl _ _ _ _ k hk0 hn hx hp=>
   obtain ⟨b,hb⟩:=cH (l:=idx) (i:=p) (by rw [B.len];exact cu hk0)
   have hu:unV ids2 (.sl p s n)= .sl b s n:=by show V.sl _ _ _=_;rw [B.idx2 p b hb]
   rw [hu]
   refine @aj.sl F _ _ _ b s n x (gQ ids2 k) (B.c1 p b k hb hk0) (by rw [il,s8];exact hn) hx (fun g1 g2=> ?_)
   rw [il] at g1 ⊢
   rw [s8] at g2
   rw [AB B hb]
   exact hp g1 g2
theorem a3k (B:LP F μ h w ids bor blks μ1 blks' w' idx kb ids2 hc) {v:V} {x:Value} (ho:okD v=true) (hk:(∀b∈bor,b∈kb)∨mu v=true) (hv: @aj (jC F μ ids bor) μ1 (bf blks') w' v x):
 @aj F (pi μ μ1 idx kb) hc w' (k9 ids2 v) x:=by
 have other:okC v=true→ @aj F (pi μ μ1 idx kb) hc w' (k9 ids2 v) x:=fun h1=>by
  rw [a1z _ h1];exact zF B h1 hk hv
 cases v with
 |fn f cs=>
  cases hv with
  |fn _ _ xs hl hcs=>
   show @aj F _ _ _ (.fn f (cs.map (unV ids2))) _
   refine @aj.fn F _ _ _ f _ xs (by simp [hl]) (fun i v hi=> ?_)
   rw [List.getElem?_map] at hi
   cases hu:cs[i]? with
   |none=>rw [hu] at hi;cases hi
   |some u=>
    rw [hu] at hi;cases hi
    have hm:=List.mem_of_getElem? hu
    refine zF B (List.all_eq_true.1 ho u hm) (hk.imp id (fun h1=> ?_)) (hcs i u hu)
    simp [mu] at h1
 |_=>exact other ho
theorem ZE (B:LP F μ h w ids bor blks μ1 blks' w' idx kb ids2 hc) {v:V} {x:Value} (ho:okA v=true) (hk:(∀b∈bor,b∈kb)∨B4 v=true) (hv: @aj (jC F μ ids bor) μ1 (bf blks') w' v x):
 @aj F (pi μ μ1 idx kb) hc w' (k9 ids2 v) x:=by
 cases v with
 |agg cs=>
  cases hv with
  |agg _ xs hl hcell hcs=>
   show @aj F _ _ _ (.agg (cs.map (unV ids2))) _
   refine @aj.agg F _ _ _ _ xs (by simp [hl]) (fun v hv=> ?_) (fun i v hi=> ?_)
   ·obtain ⟨u,hu,rfl⟩:=List.mem_map.1 hv;exact VH _ (hcell u hu)
   ·rw [List.getElem?_map] at hi
    cases hu:cs[i]? with
    |none=>rw [hu] at hi;cases hi
    |some u=>
     rw [hu] at hi;cases hi
     have hm:=List.mem_of_getElem? hu
     exact zF B (List.all_eq_true.1 ho u hm) (hk.imp id (fun h1=>List.all_eq_true.1 h1 u hm)) (hcs i u hu)
 |fn f cs=>
  cases cs with
  |nil=>exact zF B (by exact ho) (by exact hk) hv
  |cons a b=>simp [okA,okC] at ho
 |_=>exact zF B (by exact ho) (by exact hk) hv
theorem a8S (B:LP F μ h w ids bor blks μ1 blks' w' idx kb ids2 hc) {v:V} {x:Value} (ho:okR v=true) (hk:(∀b∈bor,b∈kb)∨oQ v=true) (hv: @aj (jC F μ ids bor) μ1 (bf blks') w' v x):
 @aj F (pi μ μ1 idx kb) hc w' (yG ids2 v) x:=by
 cases v with
 |tup vs=>
  cases hv with
  |tup _ xs hl hcs=>
   show @aj F _ _ _ (.tup (vs.map (k9 ids2))) _
   refine @aj.tup F _ _ _ _ xs (by simp [hl]) (fun i v hi=> ?_)
   rw [List.getElem?_map] at hi
   cases hu:vs[i]? with
   |none=>rw [hu] at hi;cases hi
   |some u=>
    rw [hu] at hi;cases hi
    have hm:=List.mem_of_getElem? hu
    exact ZE B (List.all_eq_true.1 ho u hm) (hk.imp id (fun h1=>List.all_eq_true.1 h1 u hm)) (hcs i u hu)
 |_=>exact ZE B (by exact ho) (by exact hk) hv
theorem Zu (B:LP F μ h w ids bor blks μ1 blks' w' idx kb ids2 hc): @Chg F μ h w (pi μ μ1 idx kb) hc w':=by
 refine @Chg.mk F _ _ _ _ _ _ (@jc.mk F _ _ _ _ (b5r (LK B.C1)) (a4F (LK B.C1)) (b1x (LK B.C1)) (Xy (LK B.C1)) (fun c hc hs=> ?_) (fun c hf=>ZW (LK B.C1) c (.inl hf))) (fun b k hk=> ?_)
 ·obtain ⟨g1,g2⟩:=YU (LK B.C1) c hc (Bo B.W hs.2 (fun b _=>hs.1 b))
  refine ⟨g1,fun b hm=> ?_,hs.2⟩
  rcases lj hm with ⟨p,_,h1⟩|⟨_,_,h3⟩
  ·exact g2.1 p h1
  ·exact hs.1 b h3
 ·by_cases hb:b∈idx
  ·rcases B.new b hb with hb'|hb'
   ·obtain ⟨p,hp,hpb⟩:=List.getElem_of_mem hb'
    have hp1:ids[p]? =some b:=by rw [List.getElem?_eq_getElem hp,hpb]
    have hp2:=B.pre p b hp1
    obtain ⟨k',k0,g1,g2,L⟩:=B.W.at_ p b hp1
    rw [hk] at g1;cases g1
    obtain ⟨k1,q1,q2⟩:=a5r B.C1 p k0 g2
    refine ⟨gQ ids2 k1,B.c1 p b k1 hp2 q1, ?_⟩
    rw [il,s8,AB B hp2]
    rw [L.esz,L.len] at q2
    have:jW μ ids p=μ b:=by simp [jW,hp1]
    rw [this] at q2
    exact q2
   ·rw [hk] at hb';cases hb'
  ·by_cases hk2:b∈kb
   ·exact ⟨is,B.c2 b hk2,.inl rfl⟩
   ·refine ⟨k,by rw [B.c3 b hb hk2];exact hk,.inr (.inr ⟨rfl,rfl,by unfold pi;rw [if_neg hb,if_neg hk2],fun c hm=> ?_⟩)⟩
    unfold bsize
    rw [(B.other hb hm).1]
theorem a3Z (B:LP F μ h w ids bor blks μ1 blks' w' idx kb ids2 hc) (hok: ∀k∈blks',okB k) (hk:(∀b∈bor,b∈kb)∨blks'.all wE=true): @aE F (pi μ μ1 idx kb) hc w':=by
 have C:=Zu B
 have idxBlk: ∀p b,idx[p]? =some b→ ∃k,blks'[p]? =some k:=fun p b hp=>cH (by rw [←B.len];exact cu hp)
 refine @aE.mk F _ _ _ (fun b b' c h1 h2=> ?_) (fun b c h1=> ?_) (fun b k hk0=> ?_) (fun b k hk0=> ?_) (fun b c h1=> ?_) (fun c hf=>Nat.lt_of_lt_of_le (@aE.frlt F μ h w B.H c hf) (Xy (LK B.C1)))
 ·rcases lj h1 with ⟨p,hp,g1⟩|⟨e1,e2,e3⟩<;>rcases lj h2 with ⟨p',hp',g1'⟩|⟨e1',e2',e3'⟩
  ·have:=b3P B.H1 _ _ _ g1 g1'
   subst this
   rw [hp] at hp';cases hp';rfl
  ·exact absurd g1 ((B.other e1' e3').2.1 p)
  ·exact absurd g1' ((B.other e1 e3).2.1 p')
  ·exact @aE.inj F μ h w B.H _ _ _ e3 e3'
 ·rcases lj h1 with ⟨p,hp,g1⟩|⟨e1,e2,e3⟩
  ·obtain ⟨k,q1,q2⟩:=b3j B.H1 p c g1
   exact ⟨gQ ids2 k,B.c1 p b k hp q1,by rw [il];exact q2⟩
  ·obtain ⟨k,q1,q2⟩:= @aE.dom F μ h w B.H b c e3
   exact ⟨k,by rw [B.c3 b e1 e2];exact q1,q2⟩
 ·by_cases hb:b∈idx
  ·have hp:=lL hb
   obtain ⟨k1,hk1⟩:=idxBlk _ _ hp
   have:=B.c1 _ b k1 hp hk1
   rw [hk0] at this;cases this
   rcases b25 B.H1 _ k1 hk1 with ⟨g1,g2,g3⟩|⟨g0,c,arr,t,lo,hi,gm,gh,gf,gl,gv⟩
   ·left
    refine ⟨?_,by rw [Wn];exact g2,by rw [AB B hp];exact g3⟩
    unfold gQ
    rw [if_pos g2];exact g1
   ·right
    refine ⟨by rw [il];exact g0,c,arr,t,lo,hi,by rw [AB B hp];exact gm,gh,gf,by rw [s8,il];exact gl,fun i row j v h1 h2=> ?_⟩
    rw [il]
    cases hop:k1.op with
    |false=>
     have hu:gQ ids2 k1=k1:=by unfold gQ;rw [if_pos hop]
     rw [hu] at h1
     have hcl:=(a05 B.H1 _ k1 hk1 row (List.mem_of_getElem? h1)).2 v (List.mem_of_getElem? h2)|>.2 hop
     rcases hk with hk|hk
     ·exact aj.move (F:=jC F μ ids bor) _ (fun c hc hs=>⟨hc,rfl,MA B hk hs⟩) (gv i row j v h1 h2) hcl
     ·have:=List.all_eq_true.1 hk k1 (List.mem_of_getElem? hk1)
      simp [wE,hop] at this
    |true=>
     have hu:gQ ids2 k1={ k1 with rows:=k1.rows.map (·.map (k9 ids2)) }:=by unfold gQ;rw [if_neg (by rw [hop];simp)]
     rw [hu] at h1
     simp only [List.getElem?_map] at h1
     cases hr:k1.rows[i]? with
     |none=>rw [hr] at h1;cases h1
     |some row1=>
      rw [hr] at h1;cases h1
      rw [List.getElem?_map] at h2
      cases hv1:row1[j]? with
      |none=>rw [hv1] at h2;cases h2
      |some v1=>
       rw [hv1] at h2;cases h2
       have hm1:=List.mem_of_getElem? hr
       have hm2:=List.mem_of_getElem? hv1
       have ho:=hok k1 (List.mem_of_getElem? hk1) hop row1 hm1 v1 hm2
       refine a3k B ho (hk.imp id (fun h3=> ?_)) (gv i row1 j v1 hr hv1)
       have:=List.all_eq_true.1 h3 k1 (List.mem_of_getElem? hk1)
       simp only [wE,Bool.and_eq_true] at this
       exact List.all_eq_true.1 (List.all_eq_true.1 this.2 row1 hm1) v1 hm2
  ·by_cases hk2:b∈kb
   ·rw [B.c2 b hk2] at hk0;cases hk0
    exact .inl ⟨rfl,rfl,by unfold pi;rw [if_neg hb,if_pos hk2]⟩
   ·rw [B.c3 b hb hk2] at hk0
    have hm:pi μ μ1 idx kb b=μ b:=by unfold pi;rw [if_neg hb,if_neg hk2]
    rcases @aE.blk F μ h w B.H b k hk0 with ⟨g1,g2,g3⟩|⟨g0,c,arr,t,lo,hi,gm,gh,gf,gl,gv⟩
    ·exact .inl ⟨g1,g2,by rw [hm];exact g3⟩
    ·refine .inr ⟨g0,c,arr,t,lo,hi,by rw [hm];exact gm,by rw [(B.other hb gm).1];exact gh,gf,gl,fun i row j v h1 h2=> @aj.chg F _ _ _ _ _ _ C _ _ (gv i row j v h1 h2)⟩
 ·by_cases hb:b∈idx
  ·have hp:=lL hb
   obtain ⟨k1,hk1⟩:=idxBlk _ _ hp
   have:=B.c1 _ b k1 hp hk1
   rw [hk0] at this;cases this
   have hr:=a05 B.H1 _ k1 hk1
   rw [il,Wn]
   intro row hrow
   cases hop:k1.op with
   |false=>
    have hu:gQ ids2 k1=k1:=by unfold gQ;rw [if_pos hop]
    rw [hu] at hrow
    exact ⟨(hr row hrow).1,fun v hv=>⟨((hr row hrow).2 v hv).1,fun _=>((hr row hrow).2 v hv).2 hop⟩⟩
   |true=>
    have hu:gQ ids2 k1={ k1 with rows:=k1.rows.map (·.map (k9 ids2)) }:=by unfold gQ;rw [if_neg (by rw [hop];simp)]
    rw [hu] at hrow
    obtain ⟨row1,hm1,rfl⟩:=List.mem_map.1 hrow
    refine ⟨by simpa using (hr row1 hm1).1,fun v hv=>⟨?_,fun h3=>by cases h3⟩⟩
    obtain ⟨v1,hm2,rfl⟩:=List.mem_map.1 hv
    exact XD _ ((hr row1 hm1).2 v1 hm2).1
  ·by_cases hk2:b∈kb
   ·rw [B.c2 b hk2] at hk0;cases hk0
    intro row hrow;simp [is] at hrow
   ·rw [B.c3 b hb hk2] at hk0
    exact @aE.rows F μ h w B.H b k hk0
 ·rcases lj h1 with ⟨p,hp,g1⟩|⟨e1,e2,e3⟩
  ·exact fun hf=>TA B.H1 p c g1 (.inl hf)
  ·exact @aE.frame F μ h w B.H b c e3
theorem a30 {new:Nat} {r v:V} {u:Upd} {x:Value} (W:Way h ids bor blks) (H: @aE F μ h w) (hp:wU h new ids bor r blks'=some (v,u))
 (H1: @aE (jC F μ ids bor) μ1 (bf blks') w') (C1: @Chg (jC F μ ids bor) (jW μ ids) (bf blks) w μ1 (bf blks') w')
 (hv: @aj (jC F μ ids bor) μ1 (bf blks') w' r x) (ho:okR r=true) (hok: ∀k∈blks',okB k):
 ∃μ', @aE F μ' (dU h u) w'∧ @Chg F μ h w μ' (dU h u) w'∧ @aj F μ' (dU h u) w' v x:=by
 unfold wU at hp
 split at hp
 ·rename_i hlen
  cases hp
  generalize hkb:(if (bor.isEmpty||(oQ r&&blks'.all wE))=true then ([]:List Nat) else bor)=kb
  have hdrop:(if (bor.isEmpty||(oQ r&&blks'.all wE))=true then ([]:Upd) else eO bor)=eO kb:=by
   rw [←hkb];split<;>rfl
  rw [hdrop]
  have hcov:(∀b∈bor,b∈kb)∨(oQ r=true∧blks'.all wE=true):=by
   rw [←hkb]
   split
   ·rename_i hc
    simp only [Bool.or_eq_true,Bool.and_eq_true,List.isEmpty_iff] at hc
    rcases hc with hc|hc
    ·left;rw [hc];intro b hb;cases hb
    ·exact .inr hc
   ·exact .inl fun b hb=>hb
  have hkbs: ∀b∈kb,b∈bor:=by
   rw [←hkb]
   intro b hb
   split at hb
   ·cases hb
   ·exact hb
  obtain ⟨hge,hfr⟩:=hlen
  generalize hns:di ids blks' new=ns at hfr ⊢
  have hnl:ns.length+ids.length=blks'.length:=by rw [←hns];exact tQ hge
  have hfr': ∀b∈ns,h b=none:=fun b hb=>by simpa using List.all_eq_true.1 hfr b hb
  let idx:=ids++ns
  have hil:idx.length=blks'.length:=by simp only [idx,List.length_append];omega
  have hle:blks'.length≤(ids++ns).length:=by rw [List.length_append];omega
  have hnew: ∀b∈idx,b∈ids∨h b=none:=by
   intro b hb
   rcases List.mem_append.1 hb with h2|h2
   ·exact .inl h2
   ·exact .inr (hfr' b h2)
  have hnd:idx.Nodup:=by
   refine List.nodup_append.2 ⟨W.nd,by rw [←hns];exact Dn ids blks' new,fun a ha b hb e=> ?_⟩
   subst e
   obtain ⟨i,hi,hia⟩:=List.getElem_of_mem ha
   obtain ⟨k,k0,g1,_⟩:=W.at_ i a (by rw [List.getElem?_eq_getElem hi,hia])
   rw [hfr' a hb] at g1;cases g1
  have hat: ∀(p b:Nat),idx[p]? =some b→(ids++ns)[p]? =some b:=fun p b hb=>hb
  have hpre: ∀(p b:Nat),ids[p]? =some b→idx[p]? =some b:=by
   intro p b hb
   simp only [idx]
   rw [List.getElem?_append_left (cu hb)]
   exact hb
  have htk:(ids++ns).take blks'.length=ids++ns:=List.take_of_length_le (by rw [List.length_append];omega)
  let L:=blks'.map (gQ (ids++ns))
  have hLl:L.length=blks'.length:=by simp [L]
  have hz:=V9 (ids++ns) L h (by rw [hLl,htk];exact hnd) (by rw [hLl];exact hle)
  have hd:=Qg kb (dU h (iK (ids++ns) L))
  rw [ld]
  have hkn: ∀b∈kb,b∉idx:=by
   intro b hb hm
   have hbor:=hkbs b hb
   rcases hnew b hm with h1|h2
   ·exact W.dis b hbor h1
   ·obtain ⟨k,hk⟩:=W.has b hbor
    rw [h2] at hk;cases hk
  have B:LP F μ h w ids bor blks μ1 blks' w' idx kb (ids++ns) (dU (dU h (iK (ids++ns) L)) (eO kb)):=by
   refine ⟨W,H,H1,C1,hnd,hil,fun b hb=> ?_,hpre,fun b hb=> ?_,fun p b hb=> ?_,hkbs,fun p b k hb hk=> ?_,fun b hb=>hd.1 b hb,fun b hb hk=> ?_⟩
   ·obtain ⟨i,hi,hib⟩:=List.getElem_of_mem hb
    exact List.mem_of_getElem? (hpre i b (by rw [List.getElem?_eq_getElem hi,hib]))
   ·exact hnew b hb
   ·rw [List.getD_eq_getElem?_getD,hat p b hb];rfl
   ·rw [hd.2 b (fun h1=>hkn b h1 (List.mem_of_getElem? hb))]
    exact hz.1 p b _ (hat p b hb) (by simp [L,hk])
   ·rw [hd.2 b hk]
    exact hz.2 b (by rw [hLl,htk];exact hb)
  exact ⟨_,a3Z B hok (hcov.imp id (fun h1=>h1.2)),Zu B,a8S B ho (hcov.imp id (fun h1=>h1.1)) hv⟩
 ·cases hp
end
end Go.AI
