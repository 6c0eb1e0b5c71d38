/- The way into a call: what is handed over, under its new numbers. -/
import Derived.Test.YtdmhkkcihecndaaGreatAiOp
set_option linter.unusedVariables false
set_option linter.unusedSimpArgs false
namespace Go.AI
theorem cu {α:Type} {l:List α} {i:Nat} {x:α} (h:l[i]? =some x):i<l.length:=by
 rcases Nat.lt_or_ge i l.length with h1|h1
 ·exact h1
 ·rw [List.getElem?_eq_none h1] at h;cases h
def bf (blks:List Blk):ak:=fun i=>blks[i]?
theorem aj.move {F F':Frame} {μ μ':Mu} {h:ak} (h':ak) {w w':World}
 (hst: ∀c,c<w.heap.size→ @kX F μ c→c<w'.heap.size∧w'.heap[c]? =w.heap[c]? ∧ @kX F' μ' c) {v:V} {x:Value} (hv: @aj F μ h w v x) (hcl:v.cl=true): @aj F' μ' h' w' v x:=by
 induction hv with
 |lit v=>exact @aj.lit F' μ' h' w' v
 |agg cs xs hl hcell hc ih=>simp [V.cl] at hcl
 |tup vs xs hl hc ih=>simp [V.cl] at hcl
 |ptr b i o n x k hk hn hx hp=>simp [V.cl] at hcl
 |sl b s n x k hk hn hx hp=>simp [V.cl] at hcl
 |emp a=>exact @aj.emp F' μ' h' w' a
 |imm0 e a cap he=>exact @aj.imm0 F' μ' h' w' e a cap he
 |imm e rows c off cap ys he hr hcap hc hs hrow hcell hv ih=>
  obtain ⟨h0,h1,h2⟩:=hst c hc hs
  exact @aj.imm F' μ' h' w' e rows c off cap ys he hr hcap h0 h2 hrow (fun i j hi hj=>by rw [rW h1];exact hcell i j hi hj)
   (fun i row j v hi hj=>ih i row j v hi hj ((hrow row (List.mem_of_getElem? hi)).2 v (List.mem_of_getElem? hj)).1)
 |iptr row o c off ys hc hs hrow hcell hv ih=>
  obtain ⟨h0,h1,h2⟩:=hst c hc hs
  exact @aj.iptr F' μ' h' w' row o c off ys h0 h2 hrow (fun j hj=>by rw [rW h1];exact hcell j hj) (fun j v hj=>ih j v hj (hrow v (List.mem_of_getElem? hj)).1)
 |fn f caps xs hl hc ih=>
  cases caps with
  |nil=>exact @aj.fn F' μ' h' w' f [] xs hl (fun i v h=>by simp at h)
  |cons a b=>simp [V.cl] at hcl
 |unk x=>simp [V.cl] at hcl
inductive uQ (h:ak) (ids bor:List Nat):V→V→Prop
 |lit (v:Value):uQ h ids bor (.lit v) (.lit v)
 |imm (e:Nat) (r:List (List V)):uQ h ids bor (.imm e r) (.imm e r)
 |iptr (r:List V) (o:Nat):uQ h ids bor (.iptr r o) (.iptr r o)
 |undef:uQ h ids bor .undef .undef
 |fn (f:FuncId):uQ h ids bor (.fn f []) (.fn f [])
 |ptr (b i o n p:Nat) (hp:ids[p]? =some b):uQ h ids bor (.ptr b i o n) (.ptr p i o n)
 |sl (b s n p:Nat) (hp:ids[p]? =some b):uQ h ids bor (.sl b s n) (.sl p s n)
 |bor (b s n:Nat) (k:Blk) (hb:b∈bor) (hk:h b=some k) (ho:k.op=false) (h0:0<k.esz) (hn:s+n=k.rows.length):uQ h ids bor (.sl b s n) (.imm k.esz (k.rows.drop s))
def Ext (h:ak) (ids ids':List Nat):Prop:=(∃e,ids'=ids++e)∧(ids.Nodup→ids'.Nodup)∧ ∀b∈ids',b∈ids∨ ∃k,h b=some k
theorem Ext.refl (h:ak) (ids:List Nat):Ext h ids ids:=⟨⟨[],by simp⟩,id,fun b hb=> .inl hb⟩
theorem Ext.trans {h:ak} {a b c:List Nat} (x:Ext h a b) (y:Ext h b c):Ext h a c:=by
 obtain ⟨⟨e,rfl⟩,n1,m1⟩:=x
 obtain ⟨⟨e',rfl⟩,n2,m2⟩:=y
 exact ⟨⟨e++e',by simp⟩,fun hn=>n2 (n1 hn),fun b hb=>(m2 b hb).elim (fun h1=>m1 b h1) .inr⟩
theorem Ext.at {h:ak} {a b:List Nat} (x:Ext h a b) {p i:Nat} (hp:a[p]? =some i):b[p]? =some i:=by
 obtain ⟨⟨e,rfl⟩,_⟩:=x
 rw [List.getElem?_append_left (cu hp)];exact hp
theorem uQ.mono {h:ak} {ids ids' bor bor':List Nat} {v v':V} (x:uQ h ids bor v v') (hi: ∀(p b:Nat),ids[p]? =some b→ids'[p]? =some b) (hb: ∀b∈bor,b∈bor'):uQ h ids' bor' v v':=by
 cases x with
 |lit v=>exact .lit v
 |imm e r=>exact .imm e r
 |iptr r o=>exact .iptr r o
 |undef=>exact .undef
 |fn f=>exact .fn f
 |ptr b i o n p hp=>exact .ptr b i o n p (hi _ _ hp)
 |sl b s n p hp=>exact .sl b s n p (hi _ _ hp)
 |bor b s n k h1 hk ho h0 hn=>exact .bor b s n k (hb b h1) hk ho h0 hn
theorem lL {b:Nat}: ∀{ids:List Nat},b∈ids→ids[jV b ids]? =some b
 |[],h=>by simp at h
 |x::r,h=>by
  simp only [jV]
  by_cases e:x=b
  ·rw [if_pos e];simp [e]
  ·rw [if_neg e]
   have:b∈r:=by
    rcases List.mem_cons.1 h with h1|h1
    ·exact absurd h1.symm e
    ·exact h1
   simpa using lL this
theorem Hq {h:ak} {ids:List Nat} {b:Nat} {k:Blk} (hk:h b=some k):Ext h ids (ft ids b)∧(ft ids b)[jV b (ft ids b)]? =some b:=by
 unfold ft
 split
 ·rename_i hm;exact ⟨Ext.refl _ _,lL hm⟩
 ·rename_i hm
  refine ⟨⟨⟨[b],rfl⟩,fun hn=> ?_,fun b' hb'=> ?_⟩,lL (by simp)⟩
  ·rw [List.nodup_append]
   exact ⟨hn,by simp,fun x hx y hy=>by simp at hy;subst hy;intro e;exact hm (e▸hx)⟩
  ·rcases List.mem_append.1 hb' with h1|h1
   ·exact .inl h1
   ·simp at h1;subst h1;exact .inr ⟨k,hk⟩
theorem xy {h:ak} {own:Bool} {ids ids' bs:List Nat} {v v':V} (hl:bY h own ids v=some (v',ids',bs)):Ext h ids ids'∧uQ h ids' bs v v'∧(own=true→bs=[])∧ ∀b∈bs, ∃k,h b=some k:=by
 cases v with
 |lit v=>simp [bY] at hl;obtain ⟨rfl,rfl,rfl⟩:=hl;exact ⟨Ext.refl _ _,.lit v,fun _=>rfl,fun b hb=>by simp at hb⟩
 |imm e r=>simp [bY] at hl;obtain ⟨rfl,rfl,rfl⟩:=hl;exact ⟨Ext.refl _ _,.imm e r,fun _=>rfl,fun b hb=>by simp at hb⟩
 |iptr r o=>simp [bY] at hl;obtain ⟨rfl,rfl,rfl⟩:=hl;exact ⟨Ext.refl _ _,.iptr r o,fun _=>rfl,fun b hb=>by simp at hb⟩
 |undef=>simp [bY] at hl;obtain ⟨rfl,rfl,rfl⟩:=hl;exact ⟨Ext.refl _ _,.undef,fun _=>rfl,fun b hb=>by simp at hb⟩
 |ptr b i o n=>
  simp only [bY] at hl
  split at hl
  ·rename_i k hk
   split at hl
   ·rename_i hn
    cases hl
    obtain ⟨h1,h2⟩:=Hq (ids:=ids) hk
    exact ⟨h1,.ptr b i o n _ h2,fun _=>rfl,fun b hb=>by simp at hb⟩
   ·cases hl
  ·cases hl
 |sl b s n=>
  simp only [bY] at hl
  split at hl
  ·rename_i k hk
   split at hl
   ·rename_i hn
    cases own with
    |true=>
     simp at hl
     obtain ⟨rfl,rfl,rfl⟩:=hl
     obtain ⟨h1,h2⟩:=Hq (ids:=ids) hk
     exact ⟨h1,.sl b s n _ h2,fun _=>rfl,fun b hb=>by simp at hb⟩
    |false=>
     simp only [Bool.false_eq_true,if_false] at hl
     split at hl
     ·rename_i hc
      cases hl
      exact ⟨Ext.refl _ _,.bor b s n k (by simp) hk hc.1 hc.2 hn,fun h=>(by cases h),fun b' hb'=>by simp at hb';subst hb';exact ⟨k,hk⟩⟩
     ·cases hl
   ·cases hl
  ·cases hl
 |fn f cs=>
  cases cs with
  |nil=>simp [bY] at hl;obtain ⟨rfl,rfl,rfl⟩:=hl;exact ⟨Ext.refl _ _,.fn f,fun _=>rfl,fun b hb=>by simp at hb⟩
  |cons a b=>simp [bY] at hl
 |_=>simp [bY] at hl
theorem kh {h:ak} {own:Bool}: ∀{cs cs':List V} {ids ids' bs:List Nat},cy h own ids cs=some (cs',ids',bs)→
 Ext h ids ids'∧cs'.length=cs.length∧(∀(i:Nat) (v v':V),cs[i]? =some v→cs'[i]? =some v'→uQ h ids' bs v v')∧(own=true→bs=[])∧ ∀b∈bs, ∃k,h b=some k
 |[],cs',ids,ids',bs,hl=>by
  simp [cy] at hl
  obtain ⟨rfl,rfl,rfl⟩:=hl
  exact ⟨Ext.refl _ _,rfl,(fun i v v' h=>by simp at h),fun _=>rfl,fun b hb=>by simp at hb⟩
 |v::r,cs',ids,ids',bs,hl=>by
  simp only [cy] at hl
  split at hl
  ·rename_i v1 ids1 bs1 h1
   split at hl
   ·rename_i r2 ids2 bs2 h2
    cases hl
    obtain ⟨a1,a2,a3,a4⟩:=xy h1
    obtain ⟨b1,b2,b3,b4,b5⟩:=kh h2
    refine ⟨a1.trans b1,by simp [b2],fun i u u' hu hu'=> ?_,fun ho=>by rw [a3 ho,b4 ho];rfl,fun b hb=> ?_⟩
    ·cases i with
     |zero=>simp at hu hu';subst hu;subst hu';exact a2.mono (fun p b hp=>b1.at hp) (fun b hb=>List.mem_append.2 (.inl hb))
     |succ i=>exact (b3 i u u' (by simpa using hu) (by simpa using hu')).mono (fun p b hp=>hp) (fun b hb=>List.mem_append.2 (.inr hb))
    ·rcases List.mem_append.1 hb with hb|hb
     ·exact a4 b hb
     ·exact b5 b hb
   ·cases hl
  ·cases hl
inductive sY (h:ak) (ids bor:List Nat):V→V→Prop
 |cell (v v':V) (hv:uQ h ids bor v v'):sY h ids bor v v'
 |agg (cs cs':List V) (hl:cs'.length=cs.length) (hc: ∀(i:Nat) (v v':V),cs[i]? =some v→cs'[i]? =some v'→uQ h ids bor v v'):sY h ids bor (.agg cs) (.agg cs')
 |fn (f:FuncId) (cs cs':List V) (hl:cs'.length=cs.length) (hc: ∀(i:Nat) (v v':V),cs[i]? =some v→cs'[i]? =some v'→uQ h ids bor v v'):sY h ids bor (.fn f cs) (.fn f cs')
theorem sY.mono {h:ak} {ids ids' bor bor':List Nat} {v v':V} (x:sY h ids bor v v') (hi: ∀(p b:Nat),ids[p]? =some b→ids'[p]? =some b) (hb: ∀b∈bor,b∈bor'):sY h ids' bor' v v':=by
 cases x with
 |cell v v' hv=>exact .cell _ _ (hv.mono hi hb)
 |agg cs cs' hl hc=>exact .agg cs cs' hl (fun i v v' h1 h2=>(hc i v v' h1 h2).mono hi hb)
 |fn f cs cs' hl hc=>exact .fn f cs cs' hl (fun i v v' h1 h2=>(hc i v v' h1 h2).mono hi hb)
theorem If {h:ak} {own:Bool} {ids ids' bs:List Nat} {v v':V} (hl:cW h own ids v=some (v',ids',bs)):Ext h ids ids'∧sY h ids' bs v v'∧ ∀b∈bs, ∃k,h b=some k:=by
 have other:bY h own ids v=some (v',ids',bs)→Ext h ids ids'∧sY h ids' bs v v'∧ ∀b∈bs, ∃k,h b=some k:=fun h1=>by
  obtain ⟨a,b,c,d⟩:=xy h1
  exact ⟨a,.cell _ _ b,d⟩
 cases v with
 |agg cs=>
  simp only [cW] at hl
  split at hl
  ·rename_i h1;cases hl
   obtain ⟨a,b,c,d,e⟩:=kh h1
   exact ⟨a,.agg _ _ b c,e⟩
  ·cases hl
 |fn f cs=>
  simp only [cW] at hl
  split at hl
  ·rename_i h1;cases hl
   obtain ⟨a,b,c,d,e⟩:=kh h1
   exact ⟨a,.fn f _ _ b c,e⟩
  ·cases hl
 |_=>exact other hl
theorem Fc {h:ak} {owns:List Nat}: ∀{vs vs':List V} {j:Nat} {ids ids' bs:List Nat},fA h owns j ids vs=some (vs',ids',bs)→
 Ext h ids ids'∧vs'.length=vs.length∧(∀(i:Nat) (v v':V),vs[i]? =some v→vs'[i]? =some v'→sY h ids' bs v v')∧ ∀b∈bs, ∃k,h b=some k
 |[],vs',j,ids,ids',bs,hl=>by
  simp [fA] at hl
  obtain ⟨rfl,rfl,rfl⟩:=hl
  exact ⟨Ext.refl _ _,rfl,(fun i v v' h=>by simp at h),fun b hb=>by simp at hb⟩
 |v::r,vs',j,ids,ids',bs,hl=>by
  simp only [fA] at hl
  split at hl
  ·rename_i v1 ids1 bs1 h1
   split at hl
   ·rename_i r2 ids2 bs2 h2
    cases hl
    obtain ⟨a1,a2,a4⟩:=If h1
    obtain ⟨b1,b2,b3,b5⟩:=Fc h2
    refine ⟨a1.trans b1,by simp [b2],fun i u u' hu hu'=> ?_,fun b hb=> ?_⟩
    ·cases i with
     |zero=>simp at hu hu';subst hu;subst hu';exact a2.mono (fun p b hp=>b1.at hp) (fun b hb=>List.mem_append.2 (.inl hb))
     |succ i=>exact (b3 i u u' (by simpa using hu) (by simpa using hu')).mono (fun p b hp=>hp) (fun b hb=>List.mem_append.2 (.inr hb))
    ·rcases List.mem_append.1 hb with hb|hb
     ·exact a4 b hb
     ·exact b5 b hb
   ·cases hl
  ·cases hl
theorem Xl {h:ak} {ids ids' bs:List Nat} {v v':V} (hl:cW h true ids v=some (v',ids',bs)):bs=[]:=by
 have other:bY h true ids v=some (v',ids',bs)→bs=[]:=fun h1=>(xy h1).2.2.1 rfl
 cases v with
 |agg cs=>
  simp only [cW] at hl
  split at hl
  ·rename_i h1;cases hl;exact (kh h1).2.2.2.1 rfl
  ·cases hl
 |fn f cs=>
  simp only [cW] at hl
  split at hl
  ·rename_i h1;cases hl;exact (kh h1).2.2.2.1 rfl
  ·cases hl
 |_=>exact other hl
theorem Kv {h:ak}: ∀{cs cs':List V} {ids ids':List Nat},lK h ids cs=some (cs',ids')→
 Ext h ids ids'∧cs'.length=cs.length∧ ∀(i:Nat) (v v':V),cs[i]? =some v→cs'[i]? =some v'→sY h ids' [] v v'
 |[],cs',ids,ids',hl=>by
  simp [lK] at hl
  obtain ⟨rfl,rfl⟩:=hl
  exact ⟨Ext.refl _ _,rfl,fun i v v' h=>by simp at h⟩
 |v::r,cs',ids,ids',hl=>by
  simp only [lK] at hl
  split at hl
  ·rename_i v1 ids1 bs1 h1
   split at hl
   ·rename_i r2 ids2 h2
    cases hl
    obtain ⟨a1,a2,_⟩:=If h1
    rw [Xl h1] at a2
    obtain ⟨b1,b2,b3⟩:=Kv h2
    refine ⟨a1.trans b1,by simp [b2],fun i u u' hu hu'=> ?_⟩
    cases i with
    |zero=>simp at hu hu';subst hu;subst hu';exact a2.mono (fun p b hp=>b1.at hp) (fun b hb=>hb)
    |succ i=>exact b3 i u u' (by simpa using hu) (by simpa using hu')
   ·cases hl
  ·cases hl
theorem Fk {h:ak}: ∀{rs rs':List (List V)} {ids ids':List Nat},jh h ids rs=some (rs',ids')→
 Ext h ids ids'∧rs'.length=rs.length∧ ∀(i:Nat) (row row':List V),rs[i]? =some row→rs'[i]? =some row'→row'.length=row.length∧ ∀(j:Nat) (v v':V),row[j]? =some v→row'[j]? =some v'→sY h ids' [] v v'
 |[],rs',ids,ids',hl=>by
  simp [jh] at hl
  obtain ⟨rfl,rfl⟩:=hl
  exact ⟨Ext.refl _ _,rfl,fun i v v' h=>by simp at h⟩
 |x::r,rs',ids,ids',hl=>by
  simp only [jh] at hl
  split at hl
  ·rename_i x1 ids1 h1
   split at hl
   ·rename_i r2 ids2 h2
    cases hl
    obtain ⟨a1,a2,a3⟩:=Kv h1
    obtain ⟨b1,b2,b3⟩:=Fk h2
    refine ⟨a1.trans b1,by simp [b2],fun i u u' hu hu'=> ?_⟩
    cases i with
    |zero=>simp at hu hu';subst hu;subst hu';exact ⟨a2,fun j v v' h1 h2=>(a3 j v v' h1 h2).mono (fun p b hp=>b1.at hp) (fun b hb=>hb)⟩
    |succ i=>exact b3 i u u' (by simpa using hu) (by simpa using hu')
   ·cases hl
  ·cases hl
structure VO (h:ak) (ids bor:List Nat) (k k0:Blk):Prop where
 esz:k0.esz=k.esz
 op:k0.op=k.op
 len:k0.rows.length=k.rows.length
 same:k.op=false→k0=k
 row:k.op=true→ ∀(i:Nat) (row row':List V),k.rows[i]? =some row→k0.rows[i]? =some row'→row'.length=row.length∧ ∀(j:Nat) (v v':V),row[j]? =some v→row'[j]? =some v'→sY h ids bor v v'
theorem VO.mono {h:ak} {ids ids' bor bor':List Nat} {k k0:Blk} (x:VO h ids bor k k0) (hi: ∀(p b:Nat),ids[p]? =some b→ids'[p]? =some b) (hb: ∀b∈bor,b∈bor'):VO h ids' bor' k k0:=
 ⟨x.esz,x.op,x.len,x.same,fun ho i row row' h1 h2=>⟨(x.row ho i row row' h1 h2).1,fun j v v' h3 h4=>((x.row ho i row row' h1 h2).2 j v v' h3 h4).mono hi hb⟩⟩
theorem yu {h:ak}: ∀{fuel pos:Nat} {ids ids':List Nat} {blks:List Blk},cY h fuel pos ids=some (blks,ids')→pos≤ids.length→
 Ext h ids ids'∧ids'.length=pos+blks.length∧ ∀(i b:Nat),ids'[pos+i]? =some b→ ∃k k0,h b=some k∧blks[i]? =some k0∧VO h ids' [] k k0
 |0,pos,ids,ids',blks,hl,hp=>by simp [cY] at hl
 |fuel+1,pos,ids,ids',blks,hl,hp=>by
  simp only [cY] at hl
  split at hl
  ·rename_i hn
   cases hl
   have:ids.length≤pos:=by simpa using hn
   exact ⟨Ext.refl _ _,by simp;omega,fun i b hb=>by have:=cu hb;omega⟩
  ·rename_i b0 hb0
   have hlt:=cu hb0
   split at hl
   ·cases hl
   ·rename_i k hk
    split at hl
    ·rename_i ho
     split at hl
     ·rename_i r ids1 h1
      cases hl
      obtain ⟨a1,a2,a3⟩:=yu h1 (by omega)
      refine ⟨a1,by simp [a2];omega,fun i b hb=> ?_⟩
      cases i with
      |zero=>
       have:=a1.at hb0
       simp only [Nat.add_zero] at hb
       rw [this] at hb;cases hb
       exact ⟨k,k,hk,by simp,⟨rfl,rfl,rfl,(fun _=>rfl),(fun h1=>by rw [ho] at h1;cases h1)⟩⟩
      |succ i=>simpa using a3 i b (by rw [←hb];congr 1;omega)
     ·cases hl
    ·rename_i ho
     have ho':k.op=true:=by cases hop:k.op with|true=>rfl|false=>exact absurd hop ho
     split at hl
     ·cases hl
     ·rename_i rows ids1 h1
      split at hl
      ·rename_i r ids2 h2
       cases hl
       obtain ⟨b1,b2,b3⟩:=Fk h1
       have hlen:ids.length≤ids1.length:=by obtain ⟨⟨e,rfl⟩,_⟩:=b1;simp
       obtain ⟨a1,a2,a3⟩:=yu h2 (by omega)
       refine ⟨b1.trans a1,by simp [a2];omega,fun i b hb=> ?_⟩
       cases i with
       |zero=>
        have:=a1.at (b1.at hb0)
        simp only [Nat.add_zero] at hb
        rw [this] at hb;cases hb
        refine ⟨k,{ k with rows:=rows },hk,by simp,⟨rfl,rfl,b2,(fun h1=>by rw [ho'] at h1;cases h1),fun _ i row row' g1 g2=> ?_⟩⟩
        obtain ⟨c1,c2⟩:=b3 i row row' g1 g2
        exact ⟨c1,fun j v v' g3 g4=>(c2 j v v' g3 g4).mono (fun p b hp=>a1.at hp) (fun b hb=>hb)⟩
       |succ i=>simpa using a3 i b (by rw [←hb];congr 1;omega)
      ·cases hl
end Go.AI
