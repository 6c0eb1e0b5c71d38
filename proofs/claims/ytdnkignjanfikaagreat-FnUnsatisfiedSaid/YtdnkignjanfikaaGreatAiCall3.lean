/- The way back out of a call. -/
import Derived.Test.YtdnkignjanfikaaGreatAiOp
set_option linter.unusedVariables false
set_option linter.unusedSimpArgs false
namespace Go.AI
def okA:V→Bool
 | .agg cs=>cs.all okC
 |v=>okC v
def okR:V→Bool
 | .tup vs=>vs.all okA
 |v=>okA v
def okD:V→Bool
 | .fn _ cs=>cs.all okC
 |v=>okC v
def okB (k:Blk):Prop:=k.op=true→ ∀row∈k.rows, ∀v∈row,okD v=true
theorem Xg: ∀(ids:List Nat) (L:List Blk) (h:au),(ids.take L.length).Nodup→L.length≤ids.length→
 (∀(p b:Nat) (k:Blk),ids[p]? =some b→L[p]? =some k→dz h (kU ids L) b=some k)∧ ∀b,b∉ids.take L.length→dz h (kU ids L) b=h b
 |[],L,h,_,hl=>by
  have:L=[]:=List.eq_nil_of_length_eq_zero (by simpa using hl)
  subst this
  exact ⟨fun p b k h1=>by simp at h1,fun b _=>rfl⟩
 |i::r,[],h,_,_=>⟨fun p b k _ h1=>by simp at h1,fun b _=>rfl⟩
 |i::r,k::s,h,hn,hl=>by
  simp only [List.length_cons,List.take_succ_cons,List.nodup_cons] at hn
  obtain ⟨a1,a2⟩:=Xg r s (aW h i k) hn.2 (by simpa using hl)
  refine ⟨fun p b k' h1 h2=> ?_,fun b hb=> ?_⟩
  ·cases p with
   |zero=>
    simp at h1 h2
    subst h1;subst h2
    show dz (aW h i k) (kU r s) i=some k
    rw [a2 i hn.1]
    simp [aW]
   |succ p=>exact a1 p b k' (by simpa using h1) (by simpa using h2)
  ·simp only [List.length_cons,List.take_succ_cons,List.mem_cons,not_or] at hb
   show dz (aW h i k) (kU r s) b=h b
   rw [a2 b hb.2]
   simp [aW,hb.1]
theorem Rk: ∀(bs:List Nat) (h:au),(∀b,b∈bs→dz h (fm bs) b=some ip)∧ ∀b,b∉bs→dz h (fm bs) b=h b
 |[],h=>⟨fun b hb=>by simp at hb,fun b _=>rfl⟩
 |i::r,h=>by
  obtain ⟨a1,a2⟩:=Rk r (aW h i ip)
  refine ⟨fun b hb=> ?_,fun b hb=> ?_⟩
  ·by_cases hr:b∈r
   ·exact a1 b hr
   ·have:b=i:=by
     rcases List.mem_cons.1 hb with e|e
     ·exact e
     ·exact absurd e hr
    subst this
    show dz (aW h b ip) (fm r) b=some ip
    rw [a2 b hr]
    simp [aW]
  ·simp only [List.mem_cons,not_or] at hb
   show dz (aW h i ip) (fm r) b=h b
   rw [a2 b hb.2]
   simp [aW,hb.1]
def rW (μ μ1:Mu) (idx kb:List Nat):Mu:=fun b=>if b∈idx then μ1 (im b idx) else if b∈kb then none else μ b
theorem Yw {idx:List Nat} (hn:idx.Nodup) {p b:Nat} (hp:idx[p]? =some b):im b idx=p:=
 (List.getElem?_inj (bT (pg (List.mem_of_getElem? hp))) hn).1 ((pg (List.mem_of_getElem? hp)).trans hp.symm)
structure Js (F:Frame) (μ:Mu) (h:au) (w:World) (ids bor:List Nat) (blks:List Blk) (μ1:Mu) (blks':List Blk) (w':World) (idx kb:List Nat) (ids2:List Nat) (hc:au):Prop where
 W:Way h ids bor blks
 H: @aI F μ h w
 H1: @aI (ln F μ ids bor) μ1 (aN blks') w'
 C1: @Chg (ln F μ ids bor) (kJ μ ids) (aN blks) w μ1 (aN blks') w'
 nd:idx.Nodup
 len:idx.length=blks'.length
 sub: ∀b∈ids,b∈idx
 pre: ∀(p b:Nat),ids[p]? =some b→idx[p]? =some b
 new: ∀b∈idx,b∈ids∨h b=none
 idx2: ∀(p:Nat) (b:Nat),idx[p]? =some b→ids2.getD p 0=b
 kbs: ∀b∈kb,b∈bor
 c1: ∀(p b:Nat) (k:Blk),idx[p]? =some b→blks'[p]? =some k→hc b=some (hQ ids2 k)
 c2: ∀b,b∈kb→hc b=some ip
 c3: ∀b,b∉idx→b∉kb→hc b=h b
section
variable {F:Frame} {μ:Mu} {h:au} {w:World} {ids bor:List Nat} {blks:List Blk} {μ1:Mu} {blks':List Blk} {w':World} {idx kb ids2:List Nat} {hc:au}
theorem vB (B:Js F μ h w ids bor blks μ1 blks' w' idx kb ids2 hc) {p b:Nat} (hp:idx[p]? =some b):rW μ μ1 idx kb b=μ1 p:=by
 unfold rW
 rw [if_pos (List.mem_of_getElem? hp),Yw B.nd hp]
theorem Js.kbNot (B:Js F μ h w ids bor blks μ1 blks' w' idx kb ids2 hc) {b:Nat} (hb:b∈bor):b∉idx:=by
 intro hm
 rcases B.new b hm with h1|h1
 ·exact B.W.dis b hb h1
 ·obtain ⟨k,hk⟩:=B.W.has b hb
  rw [h1] at hk;cases hk
theorem ol {b c:Nat} (hm:rW μ μ1 idx kb b=some c):(∃p,idx[p]? =some b∧μ1 p=some c)∨(b∉idx∧b∉kb∧μ b=some c):=by
 unfold rW at hm
 split at hm
 ·rename_i hb;exact .inl ⟨_,pg hb,hm⟩
 ·rename_i hb
  split at hm
  ·cases hm
  ·rename_i hk;exact .inr ⟨hb,hk,hm⟩
theorem Js.other (B:Js F μ h w ids bor blks μ1 blks' w' idx kb ids2 hc) {b c:Nat} (hb:b∉idx) (hm:μ b=some c):
 w'.heap[c]? =w.heap[c]? ∧(∀p,μ1 p≠some c)∧(b∈bor∨(ln F μ ids bor).fr c):=by
 have hlt:= @aI.lt F μ h w B.H b c hm
 have hnb:b∉ids:=fun h1=>hb (B.sub b h1)
 by_cases hbor:b∈bor
 ·have hs: @mi (ln F μ ids bor) (kJ μ ids) c:=Dn B.W (@aI.frame F μ h w B.H b c hm) (fun b' hb' e=>by
   have:= @aI.inj F μ h w B.H _ _ _ e hm
   subst this
   exact hb' hbor)
  obtain ⟨g1,g2⟩:=ZD (JN B.C1) c hlt hs
  exact ⟨g1,fun p=>g2.1 p,.inl hbor⟩
 ·have hf:(ln F μ ids bor).fr c:= .inr ⟨b,hm,hnb,hbor⟩
  exact ⟨TQ (JN B.C1) c hf,fun p e=>T6 B.H1 p c e hf,.inr hf⟩
theorem Nb (B:Js F μ h w ids bor blks μ1 blks' w' idx kb ids2 hc) (hk: ∀b∈bor,b∈kb) {c:Nat} (hs: @mi (ln F μ ids bor) μ1 c): @mi F (rW μ μ1 idx kb) c:=by
 refine ⟨fun b hm=> ?_,fun hf=>hs.2 (.inl hf)⟩
 rcases ol hm with ⟨p,_,h1⟩|⟨h1,h2,h3⟩
 ·exact hs.1 p h1
 ·exact hs.2 (.inr ⟨b,h3,fun h4=>h1 (B.sub b h4),fun h4=>h2 (hk b h4)⟩)
theorem fZ (ids:List Nat) (k:Blk):(hQ ids k).esz=k.esz:=by unfold hQ;split<;>rfl
theorem v8 (ids:List Nat) (k:Blk):(hQ ids k).op=k.op:=by unfold hQ;split<;>rfl
theorem uN (ids:List Nat) (k:Blk):(hQ ids k).rows.length=k.rows.length:=by unfold hQ;split<;>simp
theorem VG (ids:List Nat) {v:V} (h:v.cell=true):(unV ids v).cell=true:=by cases v<;>first|exact h|rfl
theorem a0b (ids:List Nat) {v:V} (h:v.cell=true):(jE ids v).cell=true:=by
 cases v with
 |agg cs=>simp [V.cell] at h
 |fn f cs=>rfl
 |_=>exact VG ids h
theorem a5q (ids:List Nat) {v:V} (h:okC v=true):jE ids v=unV ids v:=by
 cases v with
 |agg cs=>simp [okC] at h
 |fn f cs=>
  cases cs with
  |nil=>rfl
  |cons a b=>simp [okC] at h
 |_=>rfl
theorem AD {v:V} (hf:mT v=true) (hcl:v.cl=true): ∃x,v= .lit x:=by
 cases v<;>simp [mT,V.cl] at hf hcl ⊢
theorem b0z {F1 F2:Frame} {ν1 ν2:Mu} {g1 g2:au} {w1 w2:World} {x y:Value} (hv: @an F1 ν1 g1 w1 (.lit x) y): @an F2 ν2 g2 w2 (.lit x) y:=by
 cases hv;exact @an.lit F2 ν2 g2 w2 x
theorem By (B:Js F μ h w ids bor blks μ1 blks' w' idx kb ids2 hc) {v:V} {x:Value} (ho:okC v=true) (hk:(∀b∈bor,b∈kb)∨mT v=true) (hv: @an (ln F μ ids bor) μ1 (aN blks') w' v x):
 @an F (rW μ μ1 idx kb) hc w' (unV ids2 v) x:=by
 have closed:v.cl=true→unV ids2 v=v→ @an F (rW μ μ1 idx kb) hc w' (unV ids2 v) x:=fun hcl hu=>by
  rw [hu]
  rcases hk with hk|hf
  ·exact an.move (F:=ln F μ ids bor) _ (fun c hc hs=>⟨hc,rfl,Nb B hk hs⟩) hv hcl
  ·obtain ⟨y,rfl⟩:=AD hf hcl
   cases hv with
   |lit=>exact @an.lit F _ _ _ _
 cases v with
 |lit y=>exact closed rfl rfl
 |imm e r=>exact closed rfl rfl
 |iptr r o=>exact closed rfl rfl
 |fn f cs=>
  cases cs with
  |nil=>exact closed rfl rfl
  |cons a b=>simp [okC] at ho
 |agg cs=>simp [okC] at ho
 |tup cs=>simp [okC] at ho
 |undef=>exact @an.unk F _ _ _ x
 |ptr p i o n=>
  cases hv with
  |ptr _ _ _ _ _ k hk0 hn hx hp hd=>
   obtain ⟨b,hb⟩:=cD (l:=idx) (i:=p) (by rw [B.len];exact bT hk0)
   have hu:unV ids2 (.ptr p i o n)= .ptr b i o n:=by show V.ptr _ _ _ _=_;rw [B.idx2 p b hb]
   rw [hu]
   refine @an.ptr F _ _ _ b i o n x (hQ ids2 k) (B.c1 p b k hb hk0) (by rw [fZ,uN];exact hn) hx (fun g1 g2 g3=> ?_) (fun g=>by rw [v8];exact hd (by rw [fZ] at g;exact g))
   rw [fZ] at g1 ⊢
   rw [uN] at g2
   rw [vB B hb]
   exact hp g1 g2 g3
 |mp p=>
  cases hv with
  |mp _ _ k hk0 hx hmm=>
   obtain ⟨b,hb⟩:=cD (l:=idx) (i:=p) (by rw [B.len];exact bT hk0)
   have hu:unV ids2 (.mp p)= .mp b:=by show V.mp _=_;rw [B.idx2 p b hb]
   rw [hu]
   refine @an.mp F _ _ _ b x (hQ ids2 k) (B.c1 p b k hb hk0) hx (fun g1 g2=> ?_)
   rw [fZ] at g1
   rw [v8] at g2
   rw [vB B hb]
   exact hmm g1 g2
 |sl p s n=>
  cases hv with
  |sl _ _ _ _ k hk0 hn hx hp=>
   obtain ⟨b,hb⟩:=cD (l:=idx) (i:=p) (by rw [B.len];exact bT hk0)
   have hu:unV ids2 (.sl p s n)= .sl b s n:=by show V.sl _ _ _=_;rw [B.idx2 p b hb]
   rw [hu]
   refine @an.sl F _ _ _ b s n x (hQ ids2 k) (B.c1 p b k hb hk0) (by rw [fZ,uN];exact hn) hx (fun g1 g2=> ?_)
   rw [fZ] at g1 ⊢
   rw [uN] at g2
   rw [vB B hb]
   exact hp g1 g2
theorem a4d (B:Js F μ h w ids bor blks μ1 blks' w' idx kb ids2 hc) {v:V} {x:Value} (ho:okD v=true) (hk:(∀b∈bor,b∈kb)∨mT v=true) (hv: @an (ln F μ ids bor) μ1 (aN blks') w' v x):
 @an F (rW μ μ1 idx kb) hc w' (jE ids2 v) x:=by
 have other:okC v=true→ @an F (rW μ μ1 idx kb) hc w' (jE ids2 v) x:=fun h1=>by
  rw [a5q _ h1];exact By B h1 hk hv
 cases v with
 |fn f cs=>
  cases hv with
  |fn _ _ xs hl hcs=>
   show @an F _ _ _ (.fn f (cs.map (unV ids2))) _
   refine @an.fn F _ _ _ f _ xs (by simp [hl]) (fun i v hi=> ?_)
   rw [List.getElem?_map] at hi
   cases hu:cs[i]? with
   |none=>rw [hu] at hi;cases hi
   |some u=>
    rw [hu] at hi;cases hi
    have hm:=List.mem_of_getElem? hu
    refine By B (List.all_eq_true.1 ho u hm) (hk.imp id (fun h1=> ?_)) (hcs i u hu)
    simp [mT] at h1
 |_=>exact other ho
theorem a1Y (B:Js F μ h w ids bor blks μ1 blks' w' idx kb ids2 hc) {v:V} {x:Value} (ho:okA v=true) (hk:(∀b∈bor,b∈kb)∨B0 v=true) (hv: @an (ln F μ ids bor) μ1 (aN blks') w' v x):
 @an F (rW μ μ1 idx kb) hc w' (jE ids2 v) x:=by
 cases v with
 |agg cs=>
  cases hv with
  |agg _ xs hl hcell hcs=>
   show @an F _ _ _ (.agg (cs.map (unV ids2))) _
   refine @an.agg F _ _ _ _ xs (by simp [hl]) (fun v hv=> ?_) (fun i v hi=> ?_)
   ·obtain ⟨u,hu,rfl⟩:=List.mem_map.1 hv;exact VG _ (hcell u hu)
   ·rw [List.getElem?_map] at hi
    cases hu:cs[i]? with
    |none=>rw [hu] at hi;cases hi
    |some u=>
     rw [hu] at hi;cases hi
     have hm:=List.mem_of_getElem? hu
     exact By B (List.all_eq_true.1 ho u hm) (hk.imp id (fun h1=>List.all_eq_true.1 h1 u hm)) (hcs i u hu)
 |fn f cs=>
  cases cs with
  |nil=>exact By B (by exact ho) (by exact hk) hv
  |cons a b=>simp [okA,okC] at ho
 |_=>exact By B (by exact ho) (by exact hk) hv
theorem b5b (B:Js F μ h w ids bor blks μ1 blks' w' idx kb ids2 hc) {v:V} {x:Value} (ho:okR v=true) (hk:(∀b∈bor,b∈kb)∨pz v=true) (hv: @an (ln F μ ids bor) μ1 (aN blks') w' v x):
 @an F (rW μ μ1 idx kb) hc w' (yg ids2 v) x:=by
 cases v with
 |tup vs=>
  cases hv with
  |tup _ xs hl hcs=>
   show @an F _ _ _ (.tup (vs.map (jE ids2))) _
   refine @an.tup F _ _ _ _ xs (by simp [hl]) (fun i v hi=> ?_)
   rw [List.getElem?_map] at hi
   cases hu:vs[i]? with
   |none=>rw [hu] at hi;cases hi
   |some u=>
    rw [hu] at hi;cases hi
    have hm:=List.mem_of_getElem? hu
    exact a1Y B (List.all_eq_true.1 ho u hm) (hk.imp id (fun h1=>List.all_eq_true.1 h1 u hm)) (hcs i u hu)
 |_=>exact a1Y B (by exact ho) (by exact hk) hv
theorem a1O (B:Js F μ h w ids bor blks μ1 blks' w' idx kb ids2 hc): @Chg F μ h w (rW μ μ1 idx kb) hc w':=by
 refine @Chg.mk F _ _ _ _ _ _ (@jV.mk F _ _ _ _ (b8r (JN B.C1)) (Zs (JN B.C1)) (b1Z (JN B.C1)) (Rx (JN B.C1)) (a2o (JN B.C1)) (fun c hc hs=> ?_) (fun c hf=>TQ (JN B.C1) c (.inl hf))) (fun b k hk=> ?_)
 ·obtain ⟨g1,g2⟩:=ZD (JN B.C1) c hc (Dn B.W hs.2 (fun b _=>hs.1 b))
  refine ⟨g1,fun b hm=> ?_,hs.2⟩
  rcases ol hm with ⟨p,_,h1⟩|⟨_,_,h3⟩
  ·exact g2.1 p h1
  ·exact hs.1 b h3
 ·by_cases hb:b∈idx
  ·rcases B.new b hb with hb'|hb'
   ·obtain ⟨p,hp,hpb⟩:=List.getElem_of_mem hb'
    have hp1:ids[p]? =some b:=by rw [List.getElem?_eq_getElem hp,hpb]
    have hp2:=B.pre p b hp1
    obtain ⟨k',k0,g1,g2,L⟩:=B.W.at_ p b hp1
    rw [hk] at g1;cases g1
    obtain ⟨k1,q1,q2⟩:=a9n B.C1 p k0 g2
    refine ⟨hQ ids2 k1,B.c1 p b k1 hp2 q1, ?_⟩
    rw [fZ,uN,v8,vB B hp2]
    rw [L.esz,L.len,L.op] at q2
    have:kJ μ ids p=μ b:=by simp [kJ,hp1]
    rw [this] at q2
    exact q2
   ·rw [hk] at hb';cases hb'
  ·by_cases hk2:b∈kb
   ·exact ⟨ip,B.c2 b hk2,.inl ⟨rfl,rfl⟩⟩
   ·refine ⟨k,by rw [B.c3 b hb hk2];exact hk,.inr (.inr ⟨rfl,fun _=>rfl,rfl,by unfold rW;rw [if_neg hb,if_neg hk2],fun c hm=> ?_⟩)⟩
    unfold bsize
    rw [(B.other hb hm).1]
theorem a6z {fl:Bool} (B:Js F μ h w ids bor blks μ1 blks' w' idx kb ids2 hc) (hok: ∀k∈blks',okB k) (hk:(∀b∈bor,b∈kb)∨blks'.all (oj fl)=true): @aI F (rW μ μ1 idx kb) hc w':=by
 have C:=a1O B
 have idxBlk: ∀p b,idx[p]? =some b→ ∃k,blks'[p]? =some k:=fun p b hp=>cD (by rw [←B.len];exact bT hp)
 refine @aI.mk F _ _ _ (fun b b' c h1 h2=> ?_) (fun b c h1=> ?_) (fun b k hk0=> ?_) (fun b k hk0=> ?_) (fun b c h1=> ?_) (fun c hf=>Nat.lt_of_lt_of_le (@aI.frlt F μ h w B.H c hf) (Rx (JN B.C1)))
 ·rcases ol h1 with ⟨p,hp,g1⟩|⟨e1,e2,e3⟩<;>rcases ol h2 with ⟨p',hp',g1'⟩|⟨e1',e2',e3'⟩
  ·have:=b8B B.H1 _ _ _ g1 g1'
   subst this
   rw [hp] at hp';cases hp';rfl
  ·exact absurd g1 ((B.other e1' e3').2.1 p)
  ·exact absurd g1' ((B.other e1 e3).2.1 p')
  ·exact @aI.inj F μ h w B.H _ _ _ e3 e3'
 ·rcases ol h1 with ⟨p,hp,g1⟩|⟨e1,e2,e3⟩
  ·obtain ⟨k,q1,q2⟩:=b9e B.H1 p c g1
   exact ⟨hQ ids2 k,B.c1 p b k hp q1,by unfold Blk.lies;rw [fZ,v8];exact q2⟩
  ·obtain ⟨k,q1,q2⟩:= @aI.dom F μ h w B.H b c e3
   exact ⟨k,by rw [B.c3 b e1 e2];exact q1,q2⟩
 ·by_cases hb:b∈idx
  ·have hp:=pg hb
   obtain ⟨k1,hk1⟩:=idxBlk _ _ hp
   have:=B.c1 _ b k1 hp hk1
   rw [hk0] at this;cases this
   rcases b3S B.H1 _ k1 hk1 with ⟨g1,g2,g3⟩|⟨g0,c,arr,t,lo,hi,gm,gh,gf,gl,gv⟩|⟨g0,go,c,gm,gb⟩
   ·left
    refine ⟨?_,by rw [v8];exact g2,by rw [vB B hp];exact g3⟩
    unfold hQ
    rw [if_pos g2];exact g1
   rotate_left
   ·right;right
    refine ⟨by rw [fZ];exact g0,by rw [v8];exact go,c,by rw [vB B hp];exact gm, ?_⟩
    have hu:hQ ids2 k1={ k1 with rows:=k1.rows.map (·.map (jE ids2)) }:=by unfold hQ;rw [if_neg (by rw [go];simp)]
    rw [hu]
    show oN w' c (k1.rows.map (·.map (jE ids2)))
    rw [gb.map (fun n=>rfl)]
    exact gb
   ·right;left
    refine ⟨by rw [fZ];exact g0,c,arr,t,lo,hi,by rw [vB B hp];exact gm,gh,gf,by rw [uN,fZ];exact gl,fun i row j v h1 h2=> ?_⟩
    rw [fZ]
    cases hop:k1.op with
    |false=>
     have hu:hQ ids2 k1=k1:=by unfold hQ;rw [if_pos hop]
     rw [hu] at h1
     have hcl:=(a1F B.H1 _ k1 hk1 row (List.mem_of_getElem? h1)).2 v (List.mem_of_getElem? h2)|>.2 hop
     rcases hk with hk|hk
     ·exact an.move (F:=ln F μ ids bor) _ (fun c hc hs=>⟨hc,rfl,Nb B hk hs⟩) (gv i row j v h1 h2) hcl
     ·have:=List.all_eq_true.1 hk k1 (List.mem_of_getElem? hk1)
      simp only [oj,Bool.and_eq_true] at this
      obtain ⟨x,rfl⟩:=AD (List.all_eq_true.1 (List.all_eq_true.1 this.2 row (List.mem_of_getElem? h1)) v (List.mem_of_getElem? h2)) hcl
      exact b0z (gv i row j _ h1 h2)
    |true=>
     have hu:hQ ids2 k1={ k1 with rows:=k1.rows.map (·.map (jE ids2)) }:=by unfold hQ;rw [if_neg (by rw [hop];simp)]
     rw [hu] at h1
     simp only [List.getElem?_map] at h1
     cases hr:k1.rows[i]? with
     |none=>rw [hr] at h1;cases h1
     |some row1=>
      rw [hr] at h1;cases h1
      rw [List.getElem?_map] at h2
      cases hv1:row1[j]? with
      |none=>rw [hv1] at h2;cases h2
      |some v1=>
       rw [hv1] at h2;cases h2
       have hm1:=List.mem_of_getElem? hr
       have hm2:=List.mem_of_getElem? hv1
       have ho:=hok k1 (List.mem_of_getElem? hk1) hop row1 hm1 v1 hm2
       refine a4d B ho (hk.imp id (fun h3=> ?_)) (gv i row1 j v1 hr hv1)
       have:=List.all_eq_true.1 h3 k1 (List.mem_of_getElem? hk1)
       simp only [oj,Bool.and_eq_true] at this
       exact List.all_eq_true.1 (List.all_eq_true.1 this.2 row1 hm1) v1 hm2
  ·by_cases hk2:b∈kb
   ·rw [B.c2 b hk2] at hk0;cases hk0
    exact .inl ⟨rfl,rfl,by unfold rW;rw [if_neg hb,if_pos hk2]⟩
   ·rw [B.c3 b hb hk2] at hk0
    have hm:rW μ μ1 idx kb b=μ b:=by unfold rW;rw [if_neg hb,if_neg hk2]
    rcases @aI.blk F μ h w B.H b k hk0 with ⟨g1,g2,g3⟩|⟨g0,c,arr,t,lo,hi,gm,gh,gf,gl,gv⟩|⟨g0,go,c,gm,gb⟩
    ·exact .inl ⟨g1,g2,by rw [hm];exact g3⟩
    ·refine .inr (.inl ⟨g0,c,arr,t,lo,hi,by rw [hm];exact gm,by rw [(B.other hb gm).1];exact gh,gf,gl,fun i row j v h1 h2=> @an.chg F _ _ _ _ _ _ C _ _ (gv i row j v h1 h2)⟩)
    ·exact .inr (.inr ⟨g0,go,c,by rw [hm];exact gm,gb.keep (B.other hb gm).1⟩)
 ·by_cases hb:b∈idx
  ·have hp:=pg hb
   obtain ⟨k1,hk1⟩:=idxBlk _ _ hp
   have:=B.c1 _ b k1 hp hk1
   rw [hk0] at this;cases this
   have hr:=a1F B.H1 _ k1 hk1
   rw [fZ,v8]
   intro row hrow
   cases hop:k1.op with
   |false=>
    have hu:hQ ids2 k1=k1:=by unfold hQ;rw [if_pos hop]
    rw [hu] at hrow
    exact ⟨(hr row hrow).1,fun v hv=>⟨((hr row hrow).2 v hv).1,fun _=>((hr row hrow).2 v hv).2 hop⟩⟩
   |true=>
    have hu:hQ ids2 k1={ k1 with rows:=k1.rows.map (·.map (jE ids2)) }:=by unfold hQ;rw [if_neg (by rw [hop];simp)]
    rw [hu] at hrow
    obtain ⟨row1,hm1,rfl⟩:=List.mem_map.1 hrow
    refine ⟨by simpa using (hr row1 hm1).1,fun v hv=>⟨?_,fun h3=>by cases h3⟩⟩
    obtain ⟨v1,hm2,rfl⟩:=List.mem_map.1 hv
    exact a0b _ ((hr row1 hm1).2 v1 hm2).1
  ·by_cases hk2:b∈kb
   ·rw [B.c2 b hk2] at hk0;cases hk0
    intro row hrow;simp [ip] at hrow
   ·rw [B.c3 b hb hk2] at hk0
    exact @aI.rows F μ h w B.H b k hk0
 ·rcases ol h1 with ⟨p,hp,g1⟩|⟨e1,e2,e3⟩
  ·exact fun hf=>T6 B.H1 p c g1 (.inl hf)
  ·exact @aI.frame F μ h w B.H b c e3
theorem a2U {fl:Bool} {new:Nat} {r v:V} {u:Upd} {x:Value} (W:Way h ids bor blks) (H: @aI F μ h w) (hp:wa fl h new ids bor r blks'=some (v,u))
 (H1: @aI (ln F μ ids bor) μ1 (aN blks') w') (C1: @Chg (ln F μ ids bor) (kJ μ ids) (aN blks) w μ1 (aN blks') w')
 (hv: @an (ln F μ ids bor) μ1 (aN blks') w' r x) (ho:okR r=true) (hok: ∀k∈blks',okB k):
 ∃μ', @aI F μ' (dz h u) w'∧ @Chg F μ h w μ' (dz h u) w'∧ @an F μ' (dz h u) w' v x:=by
 unfold wa at hp
 split at hp
 ·rename_i hlen
  cases hp
  generalize hkb:(if (bor.isEmpty||(pz r&&blks'.all (oj fl)))=true then ([]:List Nat) else bor)=kb
  have hdrop:(if (bor.isEmpty||(pz r&&blks'.all (oj fl)))=true then ([]:Upd) else fm bor)=fm kb:=by
   rw [←hkb];split<;>rfl
  rw [hdrop]
  have hcov:(∀b∈bor,b∈kb)∨(pz r=true∧blks'.all (oj fl)=true):=by
   rw [←hkb]
   split
   ·rename_i hc
    simp only [Bool.or_eq_true,Bool.and_eq_true,List.isEmpty_iff] at hc
    rcases hc with hc|hc
    ·left;rw [hc];intro b hb;cases hb
    ·exact .inr hc
   ·exact .inl fun b hb=>hb
  have hkbs: ∀b∈kb,b∈bor:=by
   rw [←hkb]
   intro b hb
   split at hb
   ·cases hb
   ·exact hb
  obtain ⟨hge,hfr⟩:=hlen
  generalize hns:dD ids blks' new=ns at hfr ⊢
  have hnl:ns.length+ids.length=blks'.length:=by rw [←hns];exact wD hge
  have hfr': ∀b∈ns,h b=none:=fun b hb=>by simpa using List.all_eq_true.1 hfr b hb
  let idx:=ids++ns
  have hil:idx.length=blks'.length:=by simp only [idx,List.length_append];omega
  have hle:blks'.length≤(ids++ns).length:=by rw [List.length_append];omega
  have hnew: ∀b∈idx,b∈ids∨h b=none:=by
   intro b hb
   rcases List.mem_append.1 hb with h2|h2
   ·exact .inl h2
   ·exact .inr (hfr' b h2)
  have hnd:idx.Nodup:=by
   refine List.nodup_append.2 ⟨W.nd,by rw [←hns];exact Fx ids blks' new,fun a ha b hb e=> ?_⟩
   subst e
   obtain ⟨i,hi,hia⟩:=List.getElem_of_mem ha
   obtain ⟨k,k0,g1,_⟩:=W.at_ i a (by rw [List.getElem?_eq_getElem hi,hia])
   rw [hfr' a hb] at g1;cases g1
  have hat: ∀(p b:Nat),idx[p]? =some b→(ids++ns)[p]? =some b:=fun p b hb=>hb
  have hpre: ∀(p b:Nat),ids[p]? =some b→idx[p]? =some b:=by
   intro p b hb
   simp only [idx]
   rw [List.getElem?_append_left (bT hb)]
   exact hb
  have htk:(ids++ns).take blks'.length=ids++ns:=List.take_of_length_le (by rw [List.length_append];omega)
  let L:=blks'.map (hQ (ids++ns))
  have hLl:L.length=blks'.length:=by simp [L]
  have hz:=Xg (ids++ns) L h (by rw [hLl,htk];exact hnd) (by rw [hLl];exact hle)
  have hd:=Rk kb (dz h (kU (ids++ns) L))
  rw [nT]
  have hkn: ∀b∈kb,b∉idx:=by
   intro b hb hm
   have hbor:=hkbs b hb
   rcases hnew b hm with h1|h2
   ·exact W.dis b hbor h1
   ·obtain ⟨k,hk⟩:=W.has b hbor
    rw [h2] at hk;cases hk
  have B:Js F μ h w ids bor blks μ1 blks' w' idx kb (ids++ns) (dz (dz h (kU (ids++ns) L)) (fm kb)):=by
   refine ⟨W,H,H1,C1,hnd,hil,fun b hb=> ?_,hpre,fun b hb=> ?_,fun p b hb=> ?_,hkbs,fun p b k hb hk=> ?_,fun b hb=>hd.1 b hb,fun b hb hk=> ?_⟩
   ·obtain ⟨i,hi,hib⟩:=List.getElem_of_mem hb
    exact List.mem_of_getElem? (hpre i b (by rw [List.getElem?_eq_getElem hi,hib]))
   ·exact hnew b hb
   ·rw [List.getD_eq_getElem?_getD,hat p b hb];rfl
   ·rw [hd.2 b (fun h1=>hkn b h1 (List.mem_of_getElem? hb))]
    exact hz.1 p b _ (hat p b hb) (by simp [L,hk])
   ·rw [hd.2 b hk]
    exact hz.2 b (by rw [hLl,htk];exact hb)
  exact ⟨_,a6z B hok (hcov.imp id (fun h1=>h1.2)),a1O B,b5b B ho (hcov.imp id (fun h1=>h1.1)) hv⟩
 ·cases hp
end
end Go.AI
set_option linter.unusedVariables false
set_option linter.unusedSimpArgs false
namespace Go.AI
def ja (F:Frame) (μ:Mu) (h:au) (w:World) (r:V) (blks':List Blk) (x:Value) (w':World):Prop:=
 ∃μ', @aI F μ' (aN blks') w'∧ @Chg F μ h w μ' (aN blks') w'∧ @an F μ' (aN blks') w' r x∧okR r=true∧ ∀k∈blks',okB k
def Reach (P:Program) (f:FuncId) (xs:Array Value) (w:World) (R:Value→World→Prop):Prop:=
 (∃x w',(callFunc f xs).run P w= .ok (.value x) w'∧R x w')∨
 ((callFunc f xs).run P w= .ok (.enter f xs) w∧Calls P f xs w (fun| .returned v,w'=>R v w'|_,_=>False))
theorem Reach.mono {P:Program} {f:FuncId} {xs:Array Value} {w:World} {R R':Value→World→Prop} (h:Reach P f xs w R) (hr: ∀x w',R x w'→R' x w'):Reach P f xs w R':=by
 rcases h with ⟨x,w',h1,h2⟩|⟨h1,h2⟩
 ·exact .inl ⟨x,w',h1,hr _ _ h2⟩
 ·refine .inr ⟨h1,h2.mono (fun e w' he=> ?_)⟩
  cases e with
  |returned v=>exact hr _ _ he
  |_=>exact he
def iR (P:Program) (C:aY):Prop:= ∀(f:FuncId) (args:List V) (blks:List Blk) (r:V) (blks':List Blk),C f args blks=some (r,blks')→
 ∀(F:Frame) (μ:Mu) (w:World) (xs:Array Value), @aI F μ (aN blks) w→xs.size=args.length→(∀(i:Nat) (v:V),args[i]? =some v→ @an F μ (aN blks) w v (xs.getD i undef))→
 Reach P f xs w (ja F μ (aN blks) w r blks')
theorem an.czA [Frame] {μ:Mu} {h:au} {w:World} {v:V} {x:Value} (hv:an μ h w v x):an μ h w v.czA x:=by
 cases v with
 |agg cs=>
  cases hv with
  |agg _ xs hl hcell hc=>
   refine .agg _ xs (by simp [hl]) (fun v hv=> ?_) (fun i v hi=> ?_)
   ·obtain ⟨u,hu,rfl⟩:=List.mem_map.1 hv
    exact GC (hcell u hu)
   ·rw [List.getElem?_map] at hi
    cases hu:cs[i]? with
    |none=>rw [hu] at hi;cases hi
    |some u=>rw [hu] at hi;cases hi;exact (hc i u hu).cz
 |_=>exact hv.cz
theorem an.czR [Frame] {μ:Mu} {h:au} {w:World} {v:V} {x:Value} (hv:an μ h w v x):an μ h w v.czR x:=by
 cases v with
 |tup vs=>
  cases hv with
  |tup _ xs hl hc=>
   refine .tup _ xs (by simp [hl]) (fun i v hi=> ?_)
   rw [List.getElem?_map] at hi
   cases hu:vs[i]? with
   |none=>rw [hu] at hi;cases hi
   |some u=>rw [hu] at hi;cases hi;exact (hc i u hu).czA
 |_=>exact hv.czA
theorem b8y {v:V} (h:okC v=true):okC v.cz=true:=by
 rcases v.cz_or with h1|⟨_,h1⟩|⟨e,_,h1⟩
 ·rw [h1];exact h
 ·rw [h1];rfl
 ·rw [h1];rfl
theorem a1D {v:V} (h:okA v=true):okA v.czA=true:=by
 cases v with
 |agg cs=>
  simp only [okA,V.czA,List.all_map,List.all_eq_true] at h ⊢
  exact fun v hv=>b8y (h v hv)
 |tup cs=>simp [okA,okC] at h
 |lit v=>
  show okA (V.cz (.lit v))=true
  rcases V.cz_or (.lit v) with h1|⟨_,h1⟩|⟨e,_,h1⟩<;>rw [h1]<;>first|exact h|rfl
 |imm e r=>
  show okA (V.cz (.imm e r))=true
  rcases V.cz_or (.imm e r) with h1|⟨_,h1⟩|⟨e,_,h1⟩<;>rw [h1]<;>first|exact h|rfl
 |_=>exact h
theorem b6d {v:V} (h:okR v=true):okR v.czR=true:=by
 cases v with
 |tup vs=>
  simp only [okR,V.czR,List.all_map,List.all_eq_true] at h ⊢
  exact fun v hv=>a1D (h v hv)
 |agg cs=>exact a1D (v:= .agg cs) h
 |lit v=>
  show okR (V.cz (.lit v))=true
  rcases V.cz_or (.lit v) with h1|⟨_,h1⟩|⟨e,_,h1⟩<;>rw [h1]<;>first|exact h|rfl
 |imm e r=>
  show okR (V.cz (.imm e r))=true
  rcases V.cz_or (.imm e r) with h1|⟨_,h1⟩|⟨e,_,h1⟩<;>rw [h1]<;>first|exact h|rfl
 |_=>exact h
theorem Jb (k:Blk):k.cz.esz=k.esz:=by unfold Blk.cz;split<;>rfl
theorem UF (k:Blk):k.cz.op=k.op:=by unfold Blk.cz;split<;>rfl
theorem a9Z (k:Blk):k.cz.rows.length=k.rows.length:=by unfold Blk.cz;split<;>simp
theorem b8V {v:V} (h:okD v=true):okD v.cz=true:=by
 rcases V.cz_or v with h1|⟨_,h1⟩|⟨e,_,h1⟩
 ·rw [h1];exact h
 ·rw [h1];rfl
 ·rw [h1];rfl
theorem b7Z {k:Blk} (h:okB k):okB k.cz:=by
 intro hop row hrow v hv
 rw [UF] at hop
 unfold Blk.cz at hrow
 rw [if_pos hop] at hrow
 obtain ⟨r0,hr0,rfl⟩:=List.mem_map.1 hrow
 obtain ⟨u,hu,rfl⟩:=List.mem_map.1 hv
 exact b8V (h hop r0 hr0 u hu)
theorem No (blks:List Blk) (b:Nat):aN (blks.map Blk.cz) b=(aN blks b).map Blk.cz:=by simp [aN]
theorem Mx {F:Frame} {μ:Mu} {w:World} (blks:List Blk): @Chg F μ (aN blks) w μ (aN (blks.map Blk.cz)) w:=
 @Chg.mk F _ _ _ _ _ _ (@jV.refl F _ _) (fun b k hk=>⟨k.cz,by rw [No,hk];rfl,.inr (.inr ⟨Jb k,fun _=>UF k,a9Z k,rfl,fun _ _=>rfl⟩)⟩)
theorem a2q {F:Frame} {μ:Mu} {w:World} {blks:List Blk} (H: @aI F μ (aN blks) w): @aI F μ (aN (blks.map Blk.cz)) w:=by
 have inv: ∀b k',aN (blks.map Blk.cz) b=some k'→ ∃k,aN blks b=some k∧k'=k.cz:=by
  intro b k' hk
  rw [No] at hk
  cases hb:aN blks b with
  |none=>rw [hb] at hk;cases hk
  |some k=>rw [hb] at hk;cases hk;exact ⟨k,rfl,rfl⟩
 refine @aI.mk F _ _ _ (b8B H) (fun b c h1=> ?_) (fun b k' hk'=> ?_) (fun b k' hk'=> ?_) (T6 H) (b72 H)
 ·obtain ⟨k,h2,h3⟩:=b9e H b c h1
  exact ⟨k.cz,by rw [No,h2];rfl,by unfold Blk.lies;rw [Jb,UF];exact h3⟩
 ·obtain ⟨k,hk,rfl⟩:=inv b k' hk'
  rcases b3S H b k hk with ⟨g1,g2,g3⟩|⟨g0,c,arr,t,lo,hi,gm,gh,gf,gl,gv⟩|⟨g0,go,c,gm,gb⟩
  ·exact .inl ⟨by unfold Blk.cz;rw [if_neg (by simp [g2])];exact g1,by rw [UF];exact g2,g3⟩
  rotate_left
  ·refine .inr (.inr ⟨by rw [Jb];exact g0,by rw [UF];exact go,c,gm, ?_⟩)
   unfold Blk.cz
   rw [if_pos go]
   show oN w c (k.rows.map (·.map V.cz))
   rw [gb.map (fun n=>rfl)]
   exact gb
  ·refine .inr (.inl ⟨by rw [Jb];exact g0,c,arr,t,lo,hi,gm,gh,gf,by rw [Jb,a9Z];exact gl,fun i row j v hi hj=> ?_⟩)
   rw [Jb]
   have old: ∃row0 v0,k.rows[i]? =some row0∧row0[j]? =some v0∧(v=v0∨v=v0.cz):=by
    unfold Blk.cz at hi
    split at hi
    ·simp only [List.getElem?_map] at hi
     cases hr:k.rows[i]? with
     |none=>rw [hr] at hi;cases hi
     |some row0=>
      rw [hr] at hi;cases hi
      rw [List.getElem?_map] at hj
      cases hv0:row0[j]? with
      |none=>rw [hv0] at hj;cases hj
      |some v0=>rw [hv0] at hj;cases hj;exact ⟨row0,v0,rfl,hv0,.inr rfl⟩
    ·exact ⟨row,v,hi,hj,.inl rfl⟩
   obtain ⟨row0,v0,h1,h2,h3⟩:=old
   have h4:=(gv i row0 j v0 h1 h2).chg (Mx blks)
   rcases h3 with rfl|rfl
   ·exact h4
   ·exact h4.cz
 ·obtain ⟨k,hk,rfl⟩:=inv b k' hk'
  intro row hrow
  have:=a1F H b k hk
  unfold Blk.cz at hrow ⊢
  split at hrow
  ·rename_i hop
   rw [if_pos hop]
   obtain ⟨r0,hr0,rfl⟩:=List.mem_map.1 hrow
   refine ⟨by simpa using (this r0 hr0).1,fun v hv=> ?_⟩
   obtain ⟨u,hu,rfl⟩:=List.mem_map.1 hv
   exact ⟨GC ((this r0 hr0).2 u hu).1,fun h=>a1s (((this r0 hr0).2 u hu).2 h)⟩
  ·rename_i hop
   rw [if_neg hop]
   exact this row hrow
theorem ja.base {F:Frame} {μ:Mu} {blks:List Blk} {w:World} {r:V} {blks':List Blk} {x:Value} {w':World} (h:ja F μ (aN (blks.map Blk.cz)) w r blks' x w'):ja F μ (aN blks) w r blks' x w':=by
 obtain ⟨μ',h1,h2,h3⟩:=h
 exact ⟨μ',h1, @Chg.trans _ _ _ F _ _ _ _ _ _ (Mx blks) h2,h3⟩
theorem ja.czR {F:Frame} {μ:Mu} {h:au} {w:World} {r:V} {blks':List Blk} {x:Value} {w':World} (p:ja F μ h w r blks' x w'):ja F μ h w r.czR blks' x w':=by
 obtain ⟨μ',h1,h2,h3,h4,h5⟩:=p
 exact ⟨μ',h1,h2, @an.czR F _ _ _ _ _ h3,b6d h4,h5⟩
theorem ja.czB {F:Frame} {μ:Mu} {h:au} {w:World} {r:V} {blks':List Blk} {x:Value} {w':World} (p:ja F μ h w r blks' x w'):ja F μ h w r (blks'.map Blk.cz) x w':=by
 obtain ⟨μ',h1,h2,h3,h4,h5⟩:=p
 exact ⟨μ',a2q h1, @Chg.trans _ _ _ F _ _ _ _ _ _ h2 (Mx blks'),h3.chg (Mx blks'),h4,fun k hk=>by
  obtain ⟨k0,hk0,rfl⟩:=List.mem_map.1 hk
  exact b7Z (h5 k0 hk0)⟩
section
variable {F:Frame} {P:Program} {C:aY} {μ:Mu} {h:au} {w:World}
theorem TG (hC:iR P C) {owns:FuncId→List Nat} {new:Nat} {f:FuncId} {args:List V} {v:V} {u:Upd} {xs:Array Value} (H: @aI F μ h w) (hl:xs.size=args.length)
 (hv: ∀(i:Nat) (v:V),args[i]? =some v→ @an F μ h w v (xs.getD i undef)) (hs:kx C owns h new f args=some (v,u)):
 Reach P f xs w (fun x w'=> ∃μ', @aI F μ' (dz h u) w'∧ @Chg F μ h w μ' (dz h u) w'∧ @an F μ' (dz h u) w' v x):=by
 unfold kx at hs
 split at hs
 ·cases hs
 ·rename_i args' blks ids bor hp
  split at hs
  ·cases hs
  ·rename_i r blks' hc
   obtain ⟨W,hal,hloc⟩:=b0B hp
   have hrel: ∀(i:Nat) (v':V),args'[i]? =some v'→ @an (ln F μ ids bor) (kJ μ ids) (aN blks) w v' (xs.getD i undef):=fun i v' hi=>by
    obtain ⟨v0,h0⟩:=cD (l:=args) (i:=i) (by rw [←hal];exact bT hi)
    exact T7 W H (hloc i v0 v' h0 hi) (hv i v0 h0)
   have key:Reach P f xs w (ja (ln F μ ids bor) (kJ μ ids) (aN blks) w r blks'):=by
    unfold ra qZ at hc
    cases hraw:(owns f).contains 1000 with
    |true=>
     rw [hraw] at hc
     exact hC f args' blks r blks' hc (ln F μ ids bor) (kJ μ ids) w xs (SM W H) (by omega) hrel
    |false=>
     rw [hraw] at hc
     simp only [Bool.false_eq_true,if_false] at hc
     refine (hC f _ _ r blks' hc (ln F μ ids bor) (kJ μ ids) w xs (a2q (SM W H)) (by simp;omega) (fun i v hi=> ?_)).mono (fun x w' hp=>hp.base)
     rw [List.getElem?_map] at hi
     cases hu:args'[i]? with
     |none=>rw [hu] at hi;cases hi
     |some u=>rw [hu] at hi;cases hi;exact @an.czA (ln F μ ids bor) _ _ _ _ _ (@an.chg (ln F μ ids bor) _ _ _ _ _ _ (Mx blks) _ _ (hrel i u hu))
   refine key.mono (fun x w' hpost=> ?_)
   ·obtain ⟨μ1,H1,C1,V1,ho,hok⟩:=hpost
    obtain ⟨u0,hs0,hu, -, -⟩:=a1Z hs
    rw [hu]
    exact a2U W H hs0 H1 C1 V1 ho hok
end
section
variable {P:Program} {C:aY} {μ:Mu} {h:au} {w:World} {f:Nat→V} {a:Act}
theorem XK [Frame] (E:dF μ h w f a): ∀{l:List Operand} {l':List Opd},iK l=some l'→l'.length=l.length∧ ∀(i:Nat) (v:V),(l'.map (Opd.ev f))[i]? =some v→an μ h w v ((l.map a.eval).getD i undef)
 |[],l',hl=>by
  simp [iK] at hl;subst hl
  exact ⟨rfl,fun i v hi=>by simp at hi⟩
 |x::r,l',hl=>by
  simp only [iK] at hl
  split at hl
  ·rename_i y r' h1 h2
   cases hl
   obtain ⟨i1,i2⟩:=XK E h2
   refine ⟨by simp [i1],fun i v hi=> ?_⟩
   cases i with
   |zero=>simp at hi;subst hi;exact aS E h1
   |succ i=>exact i2 i v (by simpa using hi)
  ·cases hl
theorem a9j {o:Oper} {g:FuncId} {xs:Array Value} {next:Act→World→Prop} {Q:Exit→Act→World→Prop} (hrun:(execOp a.eval o).run P w=(callFunc g xs).run P w)
 (hr:Reach P g xs w (fun x w'=>next (a.put o.dst x) w')):o.wp P a w next Q:=by
 unfold Oper.wp
 rw [hrun]
 rcases hr with ⟨x,w',h1,h2⟩|⟨h1,h2⟩
 ·rw [h1];exact h2
 ·rw [h1,Oper.upon_enter]
  refine h2.mono (fun e w' he=> ?_)
  cases e with
  |returned v=>exact he
  |panicked c=>exact he.elim
  |outgrown=>exact he.elim
theorem O4 [Frame] (hC:iR P C) (H:aI μ h w) (E:dF μ h w f a) {ow:FuncId→List Nat} {o:Oper} {ao:AOp} (hc:cr P o.op=some ao) {new:Nat} {v:V} {u:Upd}
 (hs:aj C ow ao (Opd.ev f) h new=some (v,u)) {next:Act→World→Prop} {Q:Exit→Act→World→Prop}
 (K: ∀x w' μ',aI μ' (dz h u) w'→Chg μ h w μ' (dz h u) w'→an μ' (dz h u) w' v x→next (a.put o.dst x) w'):o.wp P a w next Q:=by
 cases hn:jz ao with
 |false=>
  obtain ⟨x,w',μ',hr,H',C',V'⟩:=b0s H E hc hn hs
  unfold Oper.wp
  rcases hr with hr|⟨hr,rfl⟩
  ·rw [hr,Oper.upon_value];exact K x w' μ' H' C' V'
  ·rw [hr,Oper.upon_skip];exact K undef w' μ' H' C' V'
 |true=>
  generalize hop:o.op=op at hc
  cases op with
  |call c=>
   have key: ∀(g:FuncId) (args:List Opd) (caps:List V) (xs:Array Value),iK c.args.toList=some args→(execOp a.eval o).run P w=(callFunc g (c.args.map a.eval++xs)).run P w→xs.size=caps.length→
    (∀(i:Nat) (v:V),caps[i]? =some v→an μ h w v (xs.getD i undef))→kx C ow h new g (args.map (Opd.ev f)++caps)=some (v,u)→o.wp P a w next Q:=by
    intro g args caps xs hargs hrun hxs hcaps hcall
    obtain ⟨i1,i2⟩:=XK E hargs
    refine a9j hrun ((TG hC H (by simp [i1,hxs]) (fun i v hi=> ?_) hcall).mono (fun x w' ⟨μ',H',C',V'⟩=>K x w' μ' H' C' V'))
    rcases Nat.lt_or_ge i args.length with hlt|hge
    ·rw [List.getElem?_append_left (by simpa using hlt)] at hi
     have:=i2 i v hi
     rw [List.getD_eq_getElem?_getD] at this
     rw [Array.getD_eq_getD_getElem?,Array.getElem?_append_left (by simpa [i1] using hlt), ←Array.getElem?_toList]
     simpa using this
    ·rw [List.getElem?_append_right (by simpa using hge)] at hi
     rw [Array.getD_eq_getD_getElem?,Array.getElem?_append_right (by simpa [i1] using hge), ←Array.getD_eq_getD_getElem?]
     simp only [List.length_map,Array.size_map] at hi ⊢
     have:=hcaps _ v hi
     rw [i1,Array.length_toList] at this
     exact this
   have hcc:=hc
   simp only [cr] at hc
   split at hc
   ·rename_i g args hca hargs
    cases hc
    simp only [aj] at hs
    refine key g args [] #[] hargs ?_ rfl (fun i v hi=>by simp at hi) (by simpa using hs)
    simp [execOp,hop,resolve,hca,Deferred.ofValue,invoke,Act.eval]
   ·rename_i fv args hnf hca hargs
    split at hc
    ·rename_i fo hfo
     cases hc
     have hvf:=aS E hfo
     simp only [aj] at hs
     split at hs
     ·rename_i g caps hev
      rw [hev] at hvf
      obtain ⟨xs,hx,hxl,hxv⟩:=a7J hvf
      refine key g args caps xs hargs ?_ hxl hxv hs
      simp [execOp,hop,resolve,hca,hx,Deferred.ofValue,invoke]
     ·cases hs
    ·cases hc
   ·exfalso
    repeat' (first|contradiction| (cases hc;simp [jz] at hn;done)| (split at hc))
   ·exfalso
    repeat' (first|contradiction| (cases hc;simp [jz] at hn;done)| (split at hc))
   ·exfalso
    repeat' (first|contradiction| (cases hc;simp [jz] at hn;done)| (split at hc))
   ·cases hc;simp [jz] at hn
   ·cases hc;simp [jz] at hn
   ·cases hc
  |_=>
   exfalso
   simp only [cr] at hc
   repeat' (first|contradiction| (obtain ⟨_,_,rfl⟩:=map_some hc;simp [jz] at hn;done)| (cases hc;simp [jz] at hn;done)| (split at hc))
end
end Go.AI
set_option linter.unusedVariables false
set_option linter.unusedSimpArgs false
namespace Go.AI
theorem uK {α:Type} (b:Nat) (k:α): ∀(m:List (Nat×α)) (b':Nat),cj (fx b k m) b'=if b'=b then some k else cj m b'
 |[],b'=>by
  simp only [fx,cj]
  by_cases e:b=b'
  ·simp [e]
  ·rw [if_neg e,if_neg (Ne.symm e)]
 | (j,u)::r,b'=>by
   simp only [fx]
   by_cases e:j=b
   ·rw [if_pos e]
    simp only [cj]
    by_cases e2:j=b'
    ·rw [if_pos e2,if_pos (by omega)]
    ·rw [if_neg e2,if_neg e2,if_neg (by omega)]
   ·rw [if_neg e]
    simp only [cj]
    by_cases e2:j=b'
    ·rw [if_pos e2,if_pos e2,if_neg (by omega)]
    ·rw [if_neg e2,if_neg e2,uK b k r b']
theorem QS: ∀(u:Upd) (m:List (Nat×Blk)),cj (Xb m u)=dz (cj m) u
 |[],m=>rfl
 | (b,k)::r,m=>by
   show cj (Xb (fx b k m) r)=dz (aW (cj m) b k) r
   rw [QS r (fx b k m)]
   congr 1
   funext b'
   rw [uK]
   rfl
theorem St.upd_heap (s:St) (u:Upd):(s.upd u).heap=dz s.heap u:=QS u s.m
theorem St.upd_get (s:St) (u:Upd):(s.upd u).get=s.get:=rfl
theorem St.put_heap (s:St) (d:Option Nat) (v:V):(s.put d v).heap=s.heap:=by cases d<;>rfl
theorem St.put_get (s:St) (d:Option Nat) (v:V) (t:Nat):(s.put d v).get t=if d=some t then v else s.get t:=by
 cases d with
 |none=>rfl
 |some d=>
  show (cj ((d,v)::s.e) t).getD .undef=_
  simp only [cj]
  by_cases e:d=t
  ·simp [e]
  ·rw [if_neg e,if_neg (by simpa using e)];rfl
theorem a8w (live:List Nat) (s:St) (t:Nat):(trim live s).get t=if t∈live then s.get t else .undef:=by
 show (cj (live.map fun t=>(t,s.get t)) t).getD .undef=_
 have: ∀l:List Nat,cj (l.map fun t=>(t,s.get t)) t=if t∈l then some (s.get t) else none:=by
  intro l
  induction l with
  |nil=>rfl
  |cons x r ih=>
   simp only [List.map_cons,cj]
   by_cases e:x=t
   ·rw [if_pos e,if_pos (by simp [e]),e]
   ·rw [if_neg e,ih]
    by_cases h2:t∈r
    ·rw [if_pos h2,if_pos (by simp [h2])]
    ·rw [if_neg h2,if_neg (by simp [h2];exact fun h=>e h.symm)]
 rw [this live]
 split<;>rfl
section
structure Inv [Frame] (n:Nat) (f:Nat→V) (h:au) (μ:Mu) (a:Act) (w:World):Prop where
 H:aI μ h w
 E:dF μ h w f a
 sz:n≤a.tmps.size
 df:a.defers=[]
structure iT [Frame] (μ0:Mu) (h0:au) (w0:World) (μ:Mu) (h:au) (w:World):Prop where
 C:Chg μ0 h0 w0 μ h w
 lo: ∀b k,h0 b=some k→b<1000
theorem z6 {a:Act} {d:Option Nat} {x:Value} {t:Nat} (h: ∀e,d=some e→e<a.tmps.size):(a.put d x).tmps.getD t undef=if d=some t then x else a.tmps.getD t undef:=by
 cases d with
 |none=>rfl
 |some e=>
  have:=h e rfl
  show (a.tmps.setIfInBounds e x).getD t undef=_
  rw [Array.getD_eq_getD_getElem?,Array.getElem?_setIfInBounds]
  by_cases he:e=t
  ·subst he;simp [this]
  ·rw [if_neg he,if_neg (by simpa using he),Array.getD_eq_getD_getElem?]
variable {P:Program} {μ:Mu} {w:World} {a:Act}
theorem dF.put [Frame] {h:au} {f:Nat→V} (E:dF μ h w f a) {d:Option Nat} {v:V} {x:Value} (hd: ∀e,d=some e→e<a.tmps.size) (hv:an μ h w v x):dF μ h w (fun t=>if d=some t then v else f t) (a.put d x):=by
 intro t
 rw [z6 hd]
 show an μ h w (if d=some t then v else f t) _
 split
 ·exact hv
 ·exact E t
theorem Act.put_size (a:Act) (d:Option Nat) (x:Value):(a.put d x).tmps.size=a.tmps.size:=by
 cases d with
 |none=>rfl
 |some d=>show (a.tmps.setIfInBounds d x).size=_;simp
theorem Act.put_def (a:Act) (d:Option Nat) (x:Value):(a.put d x).defers=a.defers:=by cases d<;>rfl
structure c03 (P:Program) (n:Nat) (ops:Array Oper) (o:Oper) (s:bf):Prop where
 op:cr P o.op=some s.op
 dst:s.dst=o.dst
 lt: ∀d,o.dst=some d→d<n
 gd:match o.guard with
  |none=>s.guard=none
  |some (j,b)=> ∃t,(ops[j]?).bind (·.dst)=some t∧s.guard=some (t,b)
theorem Ev {n:Nat} {ops:Array Oper} {o:Oper} {s:bf} (h:GT P n ops o=some s):c03 P n ops o s:=by
 unfold GT at h
 split at h
 ·cases h
 ·rename_i op hop
  by_cases hd:a6v n o.dst=true
  ·rw [if_pos hd] at h
   have hlt: ∀d,o.dst=some d→d<n:=fun d hd'=>by rw [hd'] at hd;simpa [a6v] using hd
   cases hg:o.guard with
   |none=>
    rw [hg] at h
    simp only [Option.some.injEq] at h
    subst h
    exact ⟨hop,rfl,hlt,by rw [hg]⟩
   |some p=>
    obtain ⟨j,b⟩:=p
    rw [hg] at h
    dsimp only at h
    cases ht:(ops[j]?).bind (·.dst) with
    |none=>rw [ht] at h;cases h
    |some t=>
     rw [ht] at h
     simp only [Option.some.injEq] at h
     subst h
     exact ⟨hop,rfl,hlt,by rw [hg];exact ⟨t,ht,rfl⟩⟩
  ·rw [if_neg hd] at h;cases h
theorem JL [Frame] {n:Nat} {ops:Array Oper} {o:Oper} {s:bf} (C:c03 P n ops o s) {st:St} {h:au} (E:dF μ h w st.get a) {b:Bool} (hw:st.want s.guard=some b):
 Region.wanted o (yielded ops a.tmps)=b:=by
 have hg:=C.gd
 unfold Region.wanted
 cases hog:o.guard with
 |none=>
  rw [hog] at hg
  simp only at hg
  rw [hg] at hw
  simp [St.want] at hw
  simp [hw]
 |some p=>
  obtain ⟨j,bb⟩:=p
  rw [hog] at hg
  obtain ⟨t,ht,hsg⟩:=hg
  rw [hsg] at hw
  have hE:=E t
  simp only [St.want] at hw
  simp only [yielded,ht,Option.bind_some]
  split at hw
  ·rename_i c hc
   cases hw
   rw [hc] at hE
   generalize hX:a.tmps.getD t undef=X at hE
   cases hE
   rw [Array.getD_eq_getD_getElem?] at hX
   cases hT:a.tmps[t]? with
   |none=>rw [hT] at hX;cases hX
   |some y=>
    rw [hT] at hX;cases hX
    rfl
  ·rename_i c hc
   cases hw
   rw [hc] at hE
   generalize hX:a.tmps.getD t undef=X at hE
   cases hE
   rw [Array.getD_eq_getD_getElem?] at hX
   cases hT:a.tmps[t]? with
   |none=>rfl
   |some y=>
    rw [hT] at hX;cases hX
    rfl
  ·cases hw
theorem Inv.put_skip [Frame] {n:Nat} {f:Nat→V} {h:au} (I:Inv n f h μ a w) {d:Option Nat} (hd: ∀e,d=some e→e<n) {x:Value} {v:V} (hv:an μ h w v x):Inv n (fun t=>if d=some t then v else f t) h μ (a.put d x) w:=
 ⟨I.H,I.E.put (fun e he=>Nat.lt_of_lt_of_le (hd e he) I.sz) hv,by rw [Act.put_size];exact I.sz,by rw [Act.put_def];exact I.df⟩
theorem C4 [Frame] {C:aY} (hC:iR P C) {ow:cy} {n:Nat} {ops:Array Oper} {Q:Exit→Act→World→Prop} {μ0:Mu} {h0:au} {w0:World}: ∀(l:List Oper) (steps:List bf) (i k:Nat) (st st':St) (μ:Mu) (a:Act) (w:World),
 (∀j,j<l.length→ops[i+j]? =l[j]?)→gN P n ops l=some steps→g8 C ow steps k st=some st'→Inv n st.get st.heap μ a w→iT μ0 h0 w0 μ st.heap w→
 (∀μ' a' w',Inv n st'.get st'.heap μ' a' w'→iT μ0 h0 w0 μ' st'.heap w'→Q .normal a' w')→wpOps P ops Q (List.range' i l.length) a w
 |[],steps,i,k,st,st',μ,a,w,hl,hc,hs,I,S,K=>by
  simp [gN] at hc;subst hc
  simp [g8] at hs;subst hs
  exact K μ a w I S
 |o::l,steps,i,k,st,st',μ,a,w,hl,hc,hs,I,S,K=>by
  simp only [gN] at hc
  split at hc
  ·rename_i s r h1 h2
   cases hc
   simp only [g8] at hs
   split at hs
   ·rename_i st1 hst1
    have CS:=Ev h1
    have hoi:ops[i]? =some o:=by have:=hl 0 (by simp);simpa using this
    have hl': ∀j,j<l.length→ops[i+1+j]? =l[j]? :=fun j hj=>by
     have:=hl (j+1) (by simpa using hj)
     rw [show i+1+j=i+(j+1) by omega,this];simp
    simp only [List.length_cons,List.range'_succ,wpOps,hoi]
    have next: ∀μ' a' w',Inv n st1.get st1.heap μ' a' w'→iT μ0 h0 w0 μ' st1.heap w'→wpOps P ops Q (List.range' (i+1) l.length) a' w':=
     fun μ' a' w' I' S'=>C4 hC l r (i+1) (k+1) st1 st' μ' a' w' hl' h2 hs I' S' K
    unfold zg at hst1
    cases hwant:st.want s.guard with
    |none=>rw [hwant] at hst1;cases hst1
    |some b=>
     rw [hwant] at hst1
     rw [JL CS I.E hwant]
     cases b with
     |false=>
      simp only [Option.some.injEq] at hst1
      subst hst1
      simp only [Bool.false_eq_true,if_false]
      refine next μ _ w ?_ (by rw [St.put_heap];exact S)
      rw [St.put_heap]
      have:=I.put_skip (d:=o.dst) (x:=undef) (v:= .lit (.tuple #[])) CS.lt (.lit _)
      have e:(st.put s.dst (.lit (.tuple #[]))).get=fun t=>if o.dst=some t then .lit (.tuple #[]) else st.get t:=by
       funext t;rw [St.put_get,CS.dst]
      rw [e];exact this
     |true=>
      simp only at hst1
      split at hst1
      ·rename_i v u hop
       cases hst1
       simp only [if_true]
       refine .inl (O4 hC I.H I.E CS.op hop (fun x w' μ' H' C' V'=> ?_))
       have hh:((st.upd u).put s.dst v).heap=dz st.heap u:=by rw [St.put_heap,St.upd_heap]
       refine next μ' _ w' ?_ (by rw [hh];exact ⟨S.C.trans C',S.lo⟩)
       rw [hh]
       have E':dF μ' (dz st.heap u) w' st.get a:=fun t=>(I.E t).chg C'
       have:=(Inv.mk H' E' I.sz I.df).put_skip (d:=o.dst) CS.lt V'
       have e:((st.upd u).put s.dst v).get=fun t=>if o.dst=some t then v else st.get t:=by
        funext t;rw [St.put_get,CS.dst,St.upd_get]
       rw [e];exact this
      ·cases hst1
   ·cases hs
  ·cases hc
theorem Inv.trim [Frame] {n:Nat} {st:St} (I:Inv n st.get st.heap μ a w) (live:List Nat):Inv n (trim live st).get (AI.trim live st).heap μ a w:=by
 refine ⟨I.H,fun t=> ?_,I.sz,I.df⟩
 rw [a8w]
 split
 ·exact I.E t
 ·exact .unk _
theorem RK [Frame] {C:aY} (hC:iR P C) {ow:cy} {n id base:Nat} {ops:Array Oper} {steps:List bf} {live:List Nat} {Q:Exit→Act→World→Prop} {μ0:Mu} {h0:au} {w0:World} {st st':St} {e:aw}
 (hc:gN P n ops ops.toList=some steps) (hs:oO C ow base steps live st=some (e,st')) (I:Inv n st.get st.heap μ a w) (S:iT μ0 h0 w0 μ st.heap w)
 (K: ∀μ' a' w',Inv n st'.get st'.heap μ' a' w'→iT μ0 h0 w0 μ' st'.heap w'→Q .normal a' w'):e= .normal∧(Code.region id ops false).wp P Q a w:=by
 unfold oO at hs
 split at hs
 ·rename_i st1 h1
  cases hs
  refine ⟨rfl,wp_region ?_⟩
  have:=C4 (Q:=Q) hC ops.toList steps 0 base st st1 μ a w (fun j hj=>by simp) hc h1 I S (fun μ' a' w' I' S'=>K μ' a' w' (I'.trim live) S')
  rwa [Array.length_toList, ←List.range_eq_range'] at this
 ·cases hs
end
end Go.AI
