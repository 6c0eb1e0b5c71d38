/- What a callee is handed stands to memory as it did for the caller. -/
import Derived.Test.YtdmhkkcihecndaaGreatAiCall
set_option linter.unusedVariables false
set_option linter.unusedSimpArgs false
namespace Go.AI
section
variable {G:Frame} {μ μ':Mu} {h h':aw} {w w':World}
theorem ML (C: @Chg G μ h w μ' h' w'): @kn G μ w μ' w':= @Chg.ev G _ _ _ _ _ _ C
theorem a8x (C: @Chg G μ h w μ' h' w'):TD μ h w μ' h' w':= @Chg.refs G _ _ _ _ _ _ C
theorem b6a (C: @kn G μ w μ' w'):w'.os=w.os:= @kn.os G _ _ _ _ C
theorem a72 (C: @kn G μ w μ' w'):w'.tape=w.tape:= @kn.tape G _ _ _ _ C
theorem b2x (C: @kn G μ w μ' w'):w'.output=w.output:= @kn.output G _ _ _ _ C
theorem a0o (C: @kn G μ w μ' w'):w.heap.size≤w'.heap.size:= @kn.size G _ _ _ _ C
theorem a0q (C: @kn G μ w μ' w'): ∀c,c<w.heap.size→ @lT G μ c→w'.heap[c]? =w.heap[c]? ∧ @lT G μ' c:= @kn.keep G _ _ _ _ C
theorem a0V (C: @kn G μ w μ' w'): ∀c,G.fr c→w'.heap[c]? =w.heap[c]? := @kn.keepF G _ _ _ _ C
theorem b3L (H: @aI G μ h w): ∀b b' c,μ b=some c→μ b'=some c→b=b':= @aI.inj G _ _ _ H
theorem b3i (H: @aI G μ h w): ∀b c,μ b=some c→ ∃k,h b=some k∧0<k.esz:= @aI.dom G _ _ _ H
theorem b46 (H: @aI G μ h w): ∀b k,h b=some k→ @b60 G μ h w b k:= @aI.blk G _ _ _ H
theorem a1m (H: @aI G μ h w): ∀b k,h b=some k→ ∀row∈k.rows,row.length=k.esz∧ ∀v∈row,v.cell=true∧(k.op=false→v.cl=true):= @aI.rows G _ _ _ H
theorem S4 (H: @aI G μ h w): ∀b c,μ b=some c→ ¬G.fr c:= @aI.frame G _ _ _ H
theorem b2b (H: @aI G μ h w): ∀c,G.fr c→c<w.heap.size:= @aI.frlt G _ _ _ H
end
theorem cC {α:Type} {l:List α} {i:Nat} (h:i<l.length): ∃x,l[i]? =some x:=⟨l[i],List.getElem?_eq_getElem h⟩
structure Way (h:aw) (ids bor:List Nat) (blks:List Blk):Prop where
 nd:ids.Nodup
 len:ids.length=blks.length
 at_: ∀(i b:Nat),ids[i]? =some b→ ∃k k0,h b=some k∧blks[i]? =some k0∧WH h ids bor k k0
 dis: ∀b∈bor,b∉ids
 has: ∀b∈bor, ∃k,h b=some k
@[reducible] def kI (F:Frame) (μ:Mu) (ids bor:List Nat):Frame:=⟨fun c=>F.fr c∨ ∃b,μ b=some c∧b∉ids∧b∉bor⟩
def lb (μ:Mu) (ids:List Nat):Mu:=fun i=>(ids[i]?).bind μ
section
variable {F:Frame} {μ:Mu} {h:aw} {w:World} {ids bor:List Nat} {blks:List Blk}
theorem xr {i c:Nat} (hi:lb μ ids i=some c): ∃b,ids[i]? =some b∧μ b=some c:=by
 unfold lb at hi
 cases hb:ids[i]? with
 |none=>rw [hb] at hi;cases hi
 |some b=>rw [hb] at hi;exact ⟨b,rfl,hi⟩
theorem BV (W:Way h ids bor blks) {c:Nat} (h1: ¬F.fr c) (h2: ∀b,b∉bor→μ b≠some c): @lT (kI F μ ids bor) (lb μ ids) c:=by
 refine ⟨fun i hi=> ?_,fun hf=> ?_⟩
 ·obtain ⟨b,hb,hm⟩:=xr hi
  exact h2 b (fun hbor=>W.dis b hbor (List.mem_of_getElem? hb)) hm
 ·rcases hf with hf|⟨b,hb,_,hnb⟩
  ·exact h1 hf
  ·exact h2 b hnb hb
theorem GR (W:Way h ids bor blks) {v:V} {x:Value} (hv: @au F μ h w v x) (hcl:v.cl=true): @au (kI F μ ids bor) (lb μ ids) (bn blks) w v x:=
 au.move (F:=F) _ (fun c hc hs=>⟨hc,rfl,BV W hs.2 (fun b _=>hs.1 b)⟩) hv hcl
theorem U7 (W:Way h ids bor blks) (H: @aI F μ h w) {v v':V} {x:Value} (hl:vU h ids bor v v') (hv: @au F μ h w v x): @au (kI F μ ids bor) (lb μ ids) (bn blks) w v' x:=by
 cases hl with
 |lit y=>exact GR W hv rfl
 |imm e r=>exact GR W hv rfl
 |iptr r o=>exact GR W hv rfl
 |undef=>exact @au.unk (kI F μ ids bor) (lb μ ids) (bn blks) w x
 |fn f=>exact GR W hv rfl
 |ptr b i o n p hp=>
  cases hv with
  |ptr _ _ _ _ _ k hk hn' hx hpp=>
   obtain ⟨k1,k0,h1,h2,L⟩:=W.at_ p b hp
   rw [hk] at h1;cases h1
   refine @au.ptr (kI F μ ids bor) (lb μ ids) (bn blks) w p i o n x k0 h2 (by rw [L.len,L.esz];exact hn') hx (fun g1 g2 g3=> ?_)
   rw [L.esz] at g1 ⊢
   obtain ⟨c,c1,c2⟩:=hpp g1 (by rw [←L.len];exact g2) g3
   exact ⟨c,by simp [lb,hp,c1],c2⟩
 |sl b s n p hp=>
  cases hv with
  |sl _ _ _ _ k hk hn' hx hpp=>
   obtain ⟨k1,k0,h1,h2,L⟩:=W.at_ p b hp
   rw [hk] at h1;cases h1
   refine @au.sl (kI F μ ids bor) (lb μ ids) (bn blks) w p s n x k0 h2 (by rw [L.len,L.esz];exact hn') hx (fun g1 g2=> ?_)
   rw [L.esz] at g1 ⊢
   obtain ⟨a,cap,c1,c2⟩:=hpp g1 (by rw [←L.len];exact g2)
   refine ⟨a,cap,c1, ?_⟩
   rcases c2 with c2|⟨c,d1,d2,d3,d4⟩
   ·exact .inl c2
   ·exact .inr ⟨c,by simp [lb,hp,d1],d2,d3,d4⟩
 |bor b s n k hb hk ho h0 hn=>
  have h1:= @FJ μ h w F H b s n k x hk ho h0 hn hv (bP μ b none) h (by simp [bP]) (fun b' c hm=>by
   unfold bP at hm
   split at hm
   ·cases hm
   ·exact hm)
  refine au.move (F:=F) _ (fun c hc hs=>⟨hc,rfl,BV W hs.2 (fun b' hb'=> ?_)⟩) h1 rfl
  have hne:b'≠b:=fun e=>hb' (e▸hb)
  have:=hs.1 b'
  simpa [bP,hne] using this
theorem vU.cellOf {v v':V} (hl:vU h ids bor v v') (hc:v.cell=true):v'.cell=true:=by
 cases hl<;>first|exact hc|rfl
theorem Uw (W:Way h ids bor blks) (H: @aI F μ h w) {v v':V} {x:Value} (hl:tC h ids bor v v') (hv: @au F μ h w v x): @au (kI F μ ids bor) (lb μ ids) (bn blks) w v' x:=by
 cases hl with
 |cell _ _ hl=>exact U7 W H hl hv
 |agg cs cs' hlen hcs=>
  cases hv with
  |agg _ xs hl hcell hc=>
   refine @au.agg (kI F μ ids bor) (lb μ ids) (bn blks) w cs' xs (by rw [hl,hlen]) (fun v hv=> ?_) (fun i v hi=> ?_)
   ·obtain ⟨i,hi,rfl⟩:=List.getElem_of_mem hv
    have h1:cs[i]? =some cs[i]:=List.getElem?_eq_getElem (by omega)
    exact (hcs i _ _ h1 (List.getElem?_eq_getElem hi)).cellOf (hcell _ (List.mem_of_getElem? h1))
   ·have hi':=cu hi
    have h1:cs[i]? =some cs[i]:=List.getElem?_eq_getElem (by omega)
    exact U7 W H (hcs i _ _ h1 hi) (hc i _ h1)
 |fn f cs cs' hlen hcs=>
  cases hv with
  |fn _ _ xs hl hc=>
   refine @au.fn (kI F μ ids bor) (lb μ ids) (bn blks) w f cs' xs (by rw [hl,hlen]) (fun i v hi=> ?_)
   have hi':=cu hi
   have h1:cs[i]? =some cs[i]:=List.getElem?_eq_getElem (by omega)
   exact U7 W H (hcs i _ _ h1 hi) (hc i _ h1)
theorem tC.cellOf {v v':V} (hl:tC h ids bor v v') (hc:v.cell=true):v'.cell=true:=by
 cases hl with
 |cell _ _ h=>exact h.cellOf hc
 |agg=>simp [V.cell] at hc
 |fn=>rfl
theorem Way.back (W:Way h ids bor blks) {i:Nat} {k0:Blk} (hk:bn blks i=some k0): ∃b k,ids[i]? =some b∧h b=some k∧WH h ids bor k k0:=by
 have hlt:=cu hk
 obtain ⟨b,hi⟩:=cC (l:=ids) (i:=i) (by rw [W.len];exact hlt)
 obtain ⟨k,k1,h1,h2,L⟩:=W.at_ i _ hi
 have:blks[i]? =some k0:=hk
 rw [h2] at this;cases this
 exact ⟨_,k,hi,h1,L⟩
theorem RO (W:Way h ids bor blks) (H: @aI F μ h w): @aI (kI F μ ids bor) (lb μ ids) (bn blks) w:=by
 refine @aI.mk (kI F μ ids bor) (lb μ ids) (bn blks) w (fun i i' c h1 h2=> ?_) (fun i c h1=> ?_) (fun i k0 hk=> ?_) (fun i k0 hk=> ?_) (fun i c h1=> ?_) (fun c hc=> ?_)
 ·obtain ⟨b,hb,hm⟩:=xr h1
  obtain ⟨b',hb',hm'⟩:=xr h2
  have:= @aI.inj F μ h w H _ _ _ hm hm'
  subst this
  exact (List.getElem?_inj (cu hb) W.nd).1 (by rw [hb,hb'])
 ·obtain ⟨b,hb,hm⟩:=xr h1
  obtain ⟨k,k0,g1,g2,L⟩:=W.at_ i b hb
  obtain ⟨k',hk',h0⟩:= @aI.dom F μ h w H b c hm
  rw [g1] at hk';cases hk'
  exact ⟨k0,g2,by rw [L.esz];exact h0⟩
 ·obtain ⟨b,k,hb,hkb,L⟩:=W.back hk
  rcases @aI.blk F μ h w H b k hkb with ⟨g1,g2,g3⟩|⟨g0,c,arr,t,lo,hi,gm,gh,gf,gl,gv⟩
  ·left
   rw [L.same g2]
   exact ⟨g1,g2,by simp [lb,hb,g3]⟩
  ·right
   refine ⟨by rw [L.esz];exact g0,c,arr,t,lo,hi,by simp [lb,hb,gm],gh,gf,by rw [L.len,L.esz];exact gl,fun i2 row' j v' h1 h2=> ?_⟩
   rw [L.esz]
   cases hop:k.op with
   |false=>
    rw [L.same hop] at h1
    exact GR W (gv i2 row' j v' h1 h2) ((@aI.rows F μ h w H b k hkb row' (List.mem_of_getElem? h1)).2 v' (List.mem_of_getElem? h2)|>.2 hop)
   |true=>
    obtain ⟨row,h3⟩:=cC (l:=k.rows) (i:=i2) (by rw [←L.len];exact cu h1)
    obtain ⟨r1,r2⟩:=L.row hop i2 _ _ h3 h1
    obtain ⟨v,h4⟩:=cC (l:=row) (i:=j) (by rw [←r1];exact cu h2)
    exact Uw W H (r2 j _ _ h4 h2) (gv i2 row j v h3 h4)
 ·obtain ⟨b,k,hb,hkb,L⟩:=W.back hk
  intro row' hrow
  obtain ⟨i2,hi2,rfl⟩:=List.getElem_of_mem hrow
  have h1:k0.rows[i2]? =some k0.rows[i2]:=List.getElem?_eq_getElem hi2
  cases hop:k.op with
  |false=>
   have:=L.same hop
   subst this
   have hr:= @aI.rows F μ h w H b k0 hkb _ (List.mem_of_getElem? h1)
   exact ⟨hr.1,fun v hv=>⟨(hr.2 v hv).1,fun _=>(hr.2 v hv).2 hop⟩⟩
  |true=>
   obtain ⟨row,h3⟩:=cC (l:=k.rows) (i:=i2) (by rw [←L.len];exact hi2)
   obtain ⟨r1,r2⟩:=L.row hop i2 _ _ h3 h1
   have hr:= @aI.rows F μ h w H b k hkb _ (List.mem_of_getElem? h3)
   refine ⟨by rw [r1,hr.1,L.esz],fun v hv=> ?_⟩
   obtain ⟨j,hj,rfl⟩:=List.getElem_of_mem hv
   obtain ⟨v,h4⟩:=cC (l:=row) (i:=j) (by omega)
   refine ⟨(r2 j _ _ h4 (List.getElem?_eq_getElem hj)).cellOf (hr.2 _ (List.mem_of_getElem? h4)).1,fun h5=> ?_⟩
   rw [L.op,hop] at h5;cases h5
 ·obtain ⟨b,hb,hm⟩:=xr h1
  intro hf
  rcases hf with hf|⟨b',hb',hn,_⟩
  ·exact @aI.frame F μ h w H b c hm hf
  ·have:= @aI.inj F μ h w H _ _ _ hm hb'
   subst this
   exact hn (List.mem_of_getElem? hb)
 ·rcases hc with hf|⟨b,hb,_⟩
  ·exact @aI.frlt F μ h w H c hf
  ·exact @aI.lt F μ h w H b c hb
theorem a61 {owns:FuncId→List Nat} {f:FuncId} {args args':List V} (hp:cI owns h f args=some (args',blks,ids,bor)):
 Way h ids bor blks∧args'.length=args.length∧ ∀(i:Nat) (v v':V),args[i]? =some v→args'[i]? =some v'→tC h ids bor v v':=by
 unfold cI at hp
 split at hp
 ·cases hp
 ·rename_i a1 ids0 bor1 h1
  split at hp
  ·cases hp
  ·rename_i bl ids1 h2
   split at hp
   ·cases hp
   ·rename_i hany
    cases hp
    obtain ⟨x1,x2,x3,x4⟩:=Fu h1
    obtain ⟨y1,y2,y3⟩:=yn h2 (Nat.zero_le _)
    refine ⟨⟨y1.2.1 (x1.2.1 List.nodup_nil),by rw [y2];omega,(fun i b hb=>by obtain ⟨k,k0,g1,g2,g3⟩:=y3 i b (by simpa using hb);exact ⟨k,k0,g1,g2,g3.mono (fun p b hp=>hp) (fun b hb=>by simp at hb)⟩),fun b hb hm=>hany ?_,x4⟩,x2,fun i v v' g1 g2=>(x3 i v v' g1 g2).mono (fun p b hp=>y1.at hp) (fun b hb=>hb)⟩
    rw [List.any_eq_true]
    exact ⟨b,hb,by simpa using hm⟩
end
end Go.AI
