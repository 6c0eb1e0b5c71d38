/- What a callee is handed stands to memory as it did for the caller. -/
import Derived.Test.YtdmhkkcihecndaaGreatAiCall
set_option linter.unusedVariables false
set_option linter.unusedSimpArgs false
namespace Go.AI
section
variable {G:Frame} {μ μ':Mu} {h h':ak} {w w':World}
theorem LK (C: @Chg G μ h w μ' h' w'): @jc G μ w μ' w':= @Chg.ev G _ _ _ _ _ _ C
theorem a5r (C: @Chg G μ h w μ' h' w'):TS μ h w μ' h' w':= @Chg.refs G _ _ _ _ _ _ C
theorem b5r (C: @jc G μ w μ' w'):w'.os=w.os:= @jc.os G _ _ _ _ C
theorem a4F (C: @jc G μ w μ' w'):w'.tape=w.tape:= @jc.tape G _ _ _ _ C
theorem b1x (C: @jc G μ w μ' w'):w'.output=w.output:= @jc.output G _ _ _ _ C
theorem Xy (C: @jc G μ w μ' w'):w.heap.size≤w'.heap.size:= @jc.size G _ _ _ _ C
theorem YU (C: @jc G μ w μ' w'): ∀c,c<w.heap.size→ @kX G μ c→w'.heap[c]? =w.heap[c]? ∧ @kX G μ' c:= @jc.keep G _ _ _ _ C
theorem ZW (C: @jc G μ w μ' w'): ∀c,G.fr c→w'.heap[c]? =w.heap[c]? := @jc.keepF G _ _ _ _ C
theorem b3P (H: @aE G μ h w): ∀b b' c,μ b=some c→μ b'=some c→b=b':= @aE.inj G _ _ _ H
theorem b3j (H: @aE G μ h w): ∀b c,μ b=some c→ ∃k,h b=some k∧0<k.esz:= @aE.dom G _ _ _ H
theorem b25 (H: @aE G μ h w): ∀b k,h b=some k→ @b6b G μ h w b k:= @aE.blk G _ _ _ H
theorem a05 (H: @aE G μ h w): ∀b k,h b=some k→ ∀row∈k.rows,row.length=k.esz∧ ∀v∈row,v.cell=true∧(k.op=false→v.cl=true):= @aE.rows G _ _ _ H
theorem TA (H: @aE G μ h w): ∀b c,μ b=some c→ ¬G.fr c:= @aE.frame G _ _ _ H
theorem b1z (H: @aE G μ h w): ∀c,G.fr c→c<w.heap.size:= @aE.frlt G _ _ _ H
end
theorem cH {α:Type} {l:List α} {i:Nat} (h:i<l.length): ∃x,l[i]? =some x:=⟨l[i],List.getElem?_eq_getElem h⟩
structure Way (h:ak) (ids bor:List Nat) (blks:List Blk):Prop where
 nd:ids.Nodup
 len:ids.length=blks.length
 at_: ∀(i b:Nat),ids[i]? =some b→ ∃k k0,h b=some k∧blks[i]? =some k0∧VO h ids bor k k0
 dis: ∀b∈bor,b∉ids
 has: ∀b∈bor, ∃k,h b=some k
@[reducible] def jC (F:Frame) (μ:Mu) (ids bor:List Nat):Frame:=⟨fun c=>F.fr c∨ ∃b,μ b=some c∧b∉ids∧b∉bor⟩
def jW (μ:Mu) (ids:List Nat):Mu:=fun i=>(ids[i]?).bind μ
section
variable {F:Frame} {μ:Mu} {h:ak} {w:World} {ids bor:List Nat} {blks:List Blk}
theorem wX {i c:Nat} (hi:jW μ ids i=some c): ∃b,ids[i]? =some b∧μ b=some c:=by
 unfold jW at hi
 cases hb:ids[i]? with
 |none=>rw [hb] at hi;cases hi
 |some b=>rw [hb] at hi;exact ⟨b,rfl,hi⟩
theorem Bo (W:Way h ids bor blks) {c:Nat} (h1: ¬F.fr c) (h2: ∀b,b∉bor→μ b≠some c): @kX (jC F μ ids bor) (jW μ ids) c:=by
 refine ⟨fun i hi=> ?_,fun hf=> ?_⟩
 ·obtain ⟨b,hb,hm⟩:=wX hi
  exact h2 b (fun hbor=>W.dis b hbor (List.mem_of_getElem? hb)) hm
 ·rcases hf with hf|⟨b,hb,_,hnb⟩
  ·exact h1 hf
  ·exact h2 b hnb hb
theorem Ev (W:Way h ids bor blks) {v:V} {x:Value} (hv: @aj F μ h w v x) (hcl:v.cl=true): @aj (jC F μ ids bor) (jW μ ids) (bf blks) w v x:=
 aj.move (F:=F) _ (fun c hc hs=>⟨hc,rfl,Bo W hs.2 (fun b _=>hs.1 b)⟩) hv hcl
theorem SX (W:Way h ids bor blks) (H: @aE F μ h w) {v v':V} {x:Value} (hl:uQ h ids bor v v') (hv: @aj F μ h w v x): @aj (jC F μ ids bor) (jW μ ids) (bf blks) w v' x:=by
 cases hl with
 |lit y=>exact Ev W hv rfl
 |imm e r=>exact Ev W hv rfl
 |iptr r o=>exact Ev W hv rfl
 |undef=>exact @aj.unk (jC F μ ids bor) (jW μ ids) (bf blks) w x
 |fn f=>exact Ev W hv rfl
 |ptr b i o n p hp=>
  cases hv with
  |ptr _ _ _ _ _ k hk hn' hx hpp=>
   obtain ⟨k1,k0,h1,h2,L⟩:=W.at_ p b hp
   rw [hk] at h1;cases h1
   refine @aj.ptr (jC F μ ids bor) (jW μ ids) (bf blks) w p i o n x k0 h2 (by rw [L.len,L.esz];exact hn') hx (fun g1 g2 g3=> ?_)
   rw [L.esz] at g1 ⊢
   obtain ⟨c,c1,c2⟩:=hpp g1 (by rw [←L.len];exact g2) g3
   exact ⟨c,by simp [jW,hp,c1],c2⟩
 |sl b s n p hp=>
  cases hv with
  |sl _ _ _ _ k hk hn' hx hpp=>
   obtain ⟨k1,k0,h1,h2,L⟩:=W.at_ p b hp
   rw [hk] at h1;cases h1
   refine @aj.sl (jC F μ ids bor) (jW μ ids) (bf blks) w p s n x k0 h2 (by rw [L.len,L.esz];exact hn') hx (fun g1 g2=> ?_)
   rw [L.esz] at g1 ⊢
   obtain ⟨a,cap,c1,c2⟩:=hpp g1 (by rw [←L.len];exact g2)
   refine ⟨a,cap,c1, ?_⟩
   rcases c2 with c2|⟨c,d1,d2,d3,d4⟩
   ·exact .inl c2
   ·exact .inr ⟨c,by simp [jW,hp,d1],d2,d3,d4⟩
 |bor b s n k hb hk ho h0 hn=>
  have h1:= @Ge μ h w F H b s n k x hk ho h0 hn hv (bO μ b none) h (by simp [bO]) (fun b' c hm=>by
   unfold bO at hm
   split at hm
   ·cases hm
   ·exact hm)
  refine aj.move (F:=F) _ (fun c hc hs=>⟨hc,rfl,Bo W hs.2 (fun b' hb'=> ?_)⟩) h1 rfl
  have hne:b'≠b:=fun e=>hb' (e▸hb)
  have:=hs.1 b'
  simpa [bO,hne] using this
theorem uQ.cellOf {v v':V} (hl:uQ h ids bor v v') (hc:v.cell=true):v'.cell=true:=by
 cases hl<;>first|exact hc|rfl
theorem QO (W:Way h ids bor blks) (H: @aE F μ h w) {v v':V} {x:Value} (hl:sY h ids bor v v') (hv: @aj F μ h w v x): @aj (jC F μ ids bor) (jW μ ids) (bf blks) w v' x:=by
 cases hl with
 |cell _ _ hl=>exact SX W H hl hv
 |agg cs cs' hlen hcs=>
  cases hv with
  |agg _ xs hl hcell hc=>
   refine @aj.agg (jC F μ ids bor) (jW μ ids) (bf blks) w cs' xs (by rw [hl,hlen]) (fun v hv=> ?_) (fun i v hi=> ?_)
   ·obtain ⟨i,hi,rfl⟩:=List.getElem_of_mem hv
    have h1:cs[i]? =some cs[i]:=List.getElem?_eq_getElem (by omega)
    exact (hcs i _ _ h1 (List.getElem?_eq_getElem hi)).cellOf (hcell _ (List.mem_of_getElem? h1))
   ·have hi':=cu hi
    have h1:cs[i]? =some cs[i]:=List.getElem?_eq_getElem (by omega)
    exact SX W H (hcs i _ _ h1 hi) (hc i _ h1)
 |fn f cs cs' hlen hcs=>
  cases hv with
  |fn _ _ xs hl hc=>
   refine @aj.fn (jC F μ ids bor) (jW μ ids) (bf blks) w f cs' xs (by rw [hl,hlen]) (fun i v hi=> ?_)
   have hi':=cu hi
   have h1:cs[i]? =some cs[i]:=List.getElem?_eq_getElem (by omega)
   exact SX W H (hcs i _ _ h1 hi) (hc i _ h1)
theorem sY.cellOf {v v':V} (hl:sY h ids bor v v') (hc:v.cell=true):v'.cell=true:=by
 cases hl with
 |cell _ _ h=>exact h.cellOf hc
 |agg=>simp [V.cell] at hc
 |fn=>rfl
theorem Way.back (W:Way h ids bor blks) {i:Nat} {k0:Blk} (hk:bf blks i=some k0): ∃b k,ids[i]? =some b∧h b=some k∧VO h ids bor k k0:=by
 have hlt:=cu hk
 obtain ⟨b,hi⟩:=cH (l:=ids) (i:=i) (by rw [W.len];exact hlt)
 obtain ⟨k,k1,h1,h2,L⟩:=W.at_ i _ hi
 have:blks[i]? =some k0:=hk
 rw [h2] at this;cases this
 exact ⟨_,k,hi,h1,L⟩
theorem TE (W:Way h ids bor blks) (H: @aE F μ h w): @aE (jC F μ ids bor) (jW μ ids) (bf blks) w:=by
 refine @aE.mk (jC F μ ids bor) (jW μ ids) (bf blks) w (fun i i' c h1 h2=> ?_) (fun i c h1=> ?_) (fun i k0 hk=> ?_) (fun i k0 hk=> ?_) (fun i c h1=> ?_) (fun c hc=> ?_)
 ·obtain ⟨b,hb,hm⟩:=wX h1
  obtain ⟨b',hb',hm'⟩:=wX h2
  have:= @aE.inj F μ h w H _ _ _ hm hm'
  subst this
  exact (List.getElem?_inj (cu hb) W.nd).1 (by rw [hb,hb'])
 ·obtain ⟨b,hb,hm⟩:=wX h1
  obtain ⟨k,k0,g1,g2,L⟩:=W.at_ i b hb
  obtain ⟨k',hk',h0⟩:= @aE.dom F μ h w H b c hm
  rw [g1] at hk';cases hk'
  exact ⟨k0,g2,by rw [L.esz];exact h0⟩
 ·obtain ⟨b,k,hb,hkb,L⟩:=W.back hk
  rcases @aE.blk F μ h w H b k hkb with ⟨g1,g2,g3⟩|⟨g0,c,arr,t,lo,hi,gm,gh,gf,gl,gv⟩
  ·left
   rw [L.same g2]
   exact ⟨g1,g2,by simp [jW,hb,g3]⟩
  ·right
   refine ⟨by rw [L.esz];exact g0,c,arr,t,lo,hi,by simp [jW,hb,gm],gh,gf,by rw [L.len,L.esz];exact gl,fun i2 row' j v' h1 h2=> ?_⟩
   rw [L.esz]
   cases hop:k.op with
   |false=>
    rw [L.same hop] at h1
    exact Ev W (gv i2 row' j v' h1 h2) ((@aE.rows F μ h w H b k hkb row' (List.mem_of_getElem? h1)).2 v' (List.mem_of_getElem? h2)|>.2 hop)
   |true=>
    obtain ⟨row,h3⟩:=cH (l:=k.rows) (i:=i2) (by rw [←L.len];exact cu h1)
    obtain ⟨r1,r2⟩:=L.row hop i2 _ _ h3 h1
    obtain ⟨v,h4⟩:=cH (l:=row) (i:=j) (by rw [←r1];exact cu h2)
    exact QO W H (r2 j _ _ h4 h2) (gv i2 row j v h3 h4)
 ·obtain ⟨b,k,hb,hkb,L⟩:=W.back hk
  intro row' hrow
  obtain ⟨i2,hi2,rfl⟩:=List.getElem_of_mem hrow
  have h1:k0.rows[i2]? =some k0.rows[i2]:=List.getElem?_eq_getElem hi2
  cases hop:k.op with
  |false=>
   have:=L.same hop
   subst this
   have hr:= @aE.rows F μ h w H b k0 hkb _ (List.mem_of_getElem? h1)
   exact ⟨hr.1,fun v hv=>⟨(hr.2 v hv).1,fun _=>(hr.2 v hv).2 hop⟩⟩
  |true=>
   obtain ⟨row,h3⟩:=cH (l:=k.rows) (i:=i2) (by rw [←L.len];exact hi2)
   obtain ⟨r1,r2⟩:=L.row hop i2 _ _ h3 h1
   have hr:= @aE.rows F μ h w H b k hkb _ (List.mem_of_getElem? h3)
   refine ⟨by rw [r1,hr.1,L.esz],fun v hv=> ?_⟩
   obtain ⟨j,hj,rfl⟩:=List.getElem_of_mem hv
   obtain ⟨v,h4⟩:=cH (l:=row) (i:=j) (by omega)
   refine ⟨(r2 j _ _ h4 (List.getElem?_eq_getElem hj)).cellOf (hr.2 _ (List.mem_of_getElem? h4)).1,fun h5=> ?_⟩
   rw [L.op,hop] at h5;cases h5
 ·obtain ⟨b,hb,hm⟩:=wX h1
  intro hf
  rcases hf with hf|⟨b',hb',hn,_⟩
  ·exact @aE.frame F μ h w H b c hm hf
  ·have:= @aE.inj F μ h w H _ _ _ hm hb'
   subst this
   exact hn (List.mem_of_getElem? hb)
 ·rcases hc with hf|⟨b,hb,_⟩
  ·exact @aE.frlt F μ h w H c hf
  ·exact @aE.lt F μ h w H b c hb
theorem a3F {owns:FuncId→List Nat} {f:FuncId} {args args':List V} (hp:cK owns h f args=some (args',blks,ids,bor)):
 Way h ids bor blks∧args'.length=args.length∧ ∀(i:Nat) (v v':V),args[i]? =some v→args'[i]? =some v'→sY h ids bor v v':=by
 unfold cK at hp
 split at hp
 ·cases hp
 ·rename_i a1 ids0 bor1 h1
  split at hp
  ·cases hp
  ·rename_i bl ids1 h2
   split at hp
   ·cases hp
   ·rename_i hany
    cases hp
    obtain ⟨x1,x2,x3,x4⟩:=Fc h1
    obtain ⟨y1,y2,y3⟩:=yu h2 (Nat.zero_le _)
    refine ⟨⟨y1.2.1 (x1.2.1 List.nodup_nil),by rw [y2];omega,(fun i b hb=>by obtain ⟨k,k0,g1,g2,g3⟩:=y3 i b (by simpa using hb);exact ⟨k,k0,g1,g2,g3.mono (fun p b hp=>hp) (fun b hb=>by simp at hb)⟩),fun b hb hm=>hany ?_,x4⟩,x2,fun i v v' g1 g2=>(x3 i v v' g1 g2).mono (fun p b hp=>y1.at hp) (fun b hb=>hb)⟩
    rw [List.any_eq_true]
    exact ⟨b,hb,by simpa using hm⟩
end
end Go.AI
