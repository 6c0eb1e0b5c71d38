/- Each operation of the abstract machine's other than a call is sound. -/
import Derived.Test.YtdnkignjanfikaaGreatAiOps9
import Derived.Test.YtdnkignjanfikaaGreatAiOps7N
import Derived.Test.YtdnkignjanfikaaGreatAiMap
set_option linter.unusedVariables false
set_option linter.unusedSimpArgs false
namespace Go.AI
def jz:AOp→Bool
 | .call .. | .dyn .. =>true
 |_=>false
section
variable {P:Program} {μ:Mu} {h:au} {w:World} {f:Nat→V} {a:Act}
theorem map_some {α β:Type} {x:Option α} {g:α→β} {y:β} (h:x.map g=some y): ∃z,x=some z∧y=g z:=by
 cases x with
 |none=>cases h
 |some z=>cases h;exact ⟨z,rfl,rfl⟩
theorem Dv {l:List Operand} {x' y':Opd} (h:iK l=some [x',y']): ∃x y,l=[x,y]∧aJ x=some x'∧aJ y=some y':=by
 match l with
 |[]=>simp [iK] at h
 |[x]=>
  simp only [iK] at h
  split at h
  ·cases h;rename_i h2;cases h2
  ·cases h
 |[x,y]=>
  simp only [iK] at h
  split at h
  ·rename_i a b h1 h2
   cases h
   split at h2
   ·rename_i c d h3 h4;cases h2;exact ⟨x,y,rfl,h1,h3⟩
   ·cases h2
  ·cases h
 |x::y::z::r=>
  simp only [iK] at h
  split at h
  ·rename_i a b h1 h2
   cases h
   split at h2
   ·rename_i c d h3 h4
    cases h2
    split at h4
    ·cases h4
    ·cases h4
   ·cases h2
  ·cases h
theorem a56 {l:List Operand} {x':Opd} (h:iK l=some [x']): ∃x,l=[x]∧aJ x=some x':=by
 match l with
 |[]=>simp [iK] at h
 |[x]=>
  simp only [iK] at h
  split at h
  ·cases h;rename_i a b h1 h2;exact ⟨x,rfl,h1⟩
  ·cases h
 |x::y::r=>
  simp only [iK] at h
  split at h
  ·rename_i a b h1 h2
   cases h
   split at h2
   ·cases h2
   ·cases h2
  ·cases h
theorem Yq [Frame] (H:aI μ h w) (E:dF μ h w f a) {C:aY} {ow:FuncId→List Nat} {o:Oper} {c:Call} {ao:AOp} (hop:o.op= .call c) (hc:cr P (.call c)=some ao) (hn:jz ao=false) {new:Nat} {v:V} {u:Upd}
 (hs:aj C ow ao (Opd.ev f) h new=some (v,u)):eV P o a μ h w v u:=by
 simp only [cr] at hc
 split at hc
 ·cases hc;simp [jz] at hn
 ·split at hc
  ·cases hc;simp [jz] at hn
  ·cases hc
 ·rename_i x' hca hargs
  obtain ⟨x,hl,hx⟩:=a56 hargs
  split at hc
  ·rename_i t ht
   split at hc
   ·rename_i hu;cases hc;exact b25 H E hop hca hl hx ht hu hs
   ·rename_i hu;cases hc;exact a95 H E hop hca hl hx ht hu hs
   ·rename_i hu;cases hc;exact a0t H E hop hca hl hx ht hu hs
   ·cases hc
  ·cases hc
 ·rename_i x' y' hca hargs
  obtain ⟨x,y,hl,hx,hy⟩:=Dv hargs
  split at hc
  ·rename_i t u' ht hu'
   split at hc
   ·rename_i e d he hd
    split at hc
    ·rename_i i z hi hz
     split at hc
     ·cases hc
      exact Wb H E hop hca hl hx hy ht hu' hd (nG he) hi hz hs
     ·rename_i hnd
      cases hc
      exact Z7 H E hop hca hl hx hy ht hu' hd (fun k hk=>hnd k hk) (nG he) hi hz hs
    ·cases hc
   ·cases hc
  ·cases hc
 ·rename_i x' y' hca hargs
  obtain ⟨x,y,hl,hx,hy⟩:=Dv hargs
  split at hc
  ·rename_i t ht
   split at hc
   ·rename_i e he
    split at hc
    ·rename_i s hsz
     cases hc
     exact a9o H E hop hca hl hx hy ht (nG he) hsz hs
    ·cases hc
   ·cases hc
  ·cases hc
 ·rename_i x' y' hca hargs
  obtain ⟨x,y,hl,hx,hy⟩:=Dv hargs
  cases hc
  exact a6J H E hop hca hl hx hy hs
 ·rename_i x' y' hca hargs
  obtain ⟨x,y,hl,hx,hy⟩:=Dv hargs
  cases hc
  exact a9q H E hop hca hl hx hy hs
 ·cases hc
theorem b0s [Frame] (H:aI μ h w) (E:dF μ h w f a) {C:aY} {ow:FuncId→List Nat} {o:Oper} {ao:AOp} (hc:cr P o.op=some ao) (hn:jz ao=false) {new:Nat} {v:V} {u:Upd}
 (hs:aj C ow ao (Opd.ev f) h new=some (v,u)):eV P o a μ h w v u:=by
 generalize hop:o.op=op at hc
 cases op with
 |move x=>
  simp only [cr] at hc
  obtain ⟨x',hx,rfl⟩:=map_some hc
  simp only [aj] at hs;cases hs
  exact a6I H E (.inl hop) hx
 |assign x=>
  simp only [cr] at hc
  obtain ⟨x',hx,rfl⟩:=map_some hc
  simp only [aj] at hs;cases hs
  exact a6I H E (.inr hop) hx
 |pick c x y=>
  simp only [cr] at hc
  split at hc
  ·rename_i h1 h2 h3;cases hc;exact a8o H E hop h1 h2 h3 hs
  ·cases hc
 |alloc t=>
  simp only [cr] at hc
  obtain ⟨z,hz,rfl⟩:=map_some hc
  simp only [aj] at hs
  exact a3w H hop hz hs
 |box t x=>
  simp only [cr] at hc
  split at hc
  ·rename_i h1 h2;cases hc;simp only [aj] at hs;exact b5d H E hop h2 hs
  ·cases hc
 |build t ps=>exact a5N H E hop hc hs
 |buildSlice t len ps=>
  simp only [cr] at hc
  split at hc
  ·rename_i e he
   split at hc
   ·rename_i h1 h2 h3
    split at hc
    ·split at hc
     ·cases hc;simp only [aj] at hs;exact Sc H E hop (nG he) h1 h2 h3 hs
     ·cases hc;exact Cm H E hop (nG he) h1 h2 h3 hs
    ·cases hc;exact Cm H E hop (nG he) h1 h2 h3 hs
   ·cases hc
  ·cases hc
 |load t x=>
  simp only [cr] at hc
  split at hc
  ·rename_i h1 h2
   cases hc
   simp only [aj] at hs
   split at hs
   ·rename_i hr;cases hs;exact a8Y H E hop h2 h1 hr
   ·cases hs
  ·cases hc
 |store t x y=>
  simp only [cr] at hc
  split at hc
  ·rename_i h1 h2 h3;cases hc;exact Rj H E hop h2 h3 h1 hs
  ·cases hc
 |nilCheck x=>
  simp only [cr] at hc
  obtain ⟨x',hx,rfl⟩:=map_some hc
  exact Ur H E hop hx hs
 |binOp op t x y ty=>
  simp only [cr] at hc
  split at hc
  ·rename_i h1 h2
   split at hc
   ·rename_i fs hu
    split at hc
    ·rename_i hg
     simp only [Bool.and_eq_true,Bool.not_eq_true'] at hg
     split at hc
     ·rename_i hk;cases hc;exact Qr H E hop h1 h2 hu hg.1 hg.2 hk rfl hs
     ·rename_i hk;cases hc;exact Qr H E hop h1 h2 hu hg.1 hg.2 hk rfl hs
     ·cases hc
    ·cases hc
   ·rename_i hu
    split at hc
    ·cases hc;exact a1w H E hop h1 h2 hu rfl hs
    ·cases hc;exact a1w H E hop h1 h2 hu rfl hs
    ·cases hc
   ·cases hc;exact a1H H E hop h1 h2 hs
   ·cases hc;exact a1H H E hop h1 h2 hs
   ·rename_i hu
    split at hc
    ·cases hc;exact QB H E hop h1 h2 hu rfl hs
    ·cases hc;exact QB H E hop h1 h2 hu rfl hs
    ·cases hc
   ·cases hc
  ·cases hc
 |unOp op t x=>
  simp only [cr] at hc
  obtain ⟨x',hx,rfl⟩:=map_some hc
  exact b81 H E hop hx hs
 |convert s d x=>
  simp only [cr] at hc
  split at hc
  ·rename_i h1 h2 h3;cases hc;exact a9s H E hop h3 h1 h2 hs
  ·rename_i h1 h2 h3;cases hc;exact a7F H E hop h3 h1 h2 hs
  ·rename_i h1 h2 h3
   split at hc
   ·rename_i h4;cases hc;exact Vm H E hop h3 h1 h2 h4 hs
   ·cases hc
  ·rename_i h1 h2 h3
   split at hc
   ·rename_i h4 h5;cases hc;exact a4t H E hop h3 h1 h2 h4 hs
   ·cases hc
  ·rename_i h1 h2 h3
   split at hc
   ·rename_i h4
    split at hc
    ·rename_i h5;cases hc;exact RU H E hop h3 h1 h2 h4 h5 hs
    ·cases hc
   ·cases hc
  ·cases hc
 |sliceToArrayPointer t x=>
  simp only [cr] at hc
  split at hc
  ·rename_i h1 h2;cases hc;exact a3e H E hop h2 h1 hs
  ·cases hc
 |makeFunc c fst caps=>
  cases c with
  |func g=>
   simp only [cr] at hc
   split at hc
   ·rename_i h1 h2;cases hc;exact TF H E hop h1 h2 hs
   ·cases hc
  |_=>simp [cr] at hc
 |makeSlice t l c=>
  simp only [cr] at hc
  split at hc
  ·rename_i e he
   split at hc
   ·rename_i h1 h2 h3 h4;cases hc;exact Qf H E hop h3 h4 (nG he) h1 h2 hs
   ·cases hc
  ·cases hc
 |slice t x lo hi mx=>
  simp only [cr] at hc
  split at hc
  ·rename_i h1 h2 h3 h4 h5
   cases hc
   cases mx with
   |none=>exact Sb H E hop h2 h3 h4 h1 hs
   |some m=>
    simp only [mw] at h5
    split at h5
    ·cases h5
    ·cases h5
  ·rename_i h1 h2 h3 h4 h5
   split at hc
   ·rename_i hsz;cases hc;exact a3M H E hop h2 h3 h4 h5 h1 hsz hs
   ·cases hc
  ·cases hc
 |fieldAddr t x n=>
  simp only [cr] at hc
  split at hc
  ·rename_i h1 h2
   split at hc
   ·rename_i fd hf
    split at hc
    ·rename_i hsz;cases hc;exact b6h H E hop h2 h1 hf hsz hs
    ·cases hc
   ·cases hc
  ·cases hc
 |field t x n=>
  simp only [cr] at hc
  split at hc
  ·rename_i h1 h2
   split at hc
   ·rename_i fd hf
    split at hc
    ·rename_i hg;cases hc;exact a5p H E hop h2 h1 hf hg hs
    ·cases hc
   ·cases hc
  ·cases hc
 |indexAddr t x i=>
  simp only [cr] at hc
  split at hc
  ·rename_i h1 h2 h3
   split at hc
   ·rename_i hsz;cases hc;exact b34 H E hop h2 h3 h1 hsz hs
   ·cases hc
  ·rename_i h1 h2 h3
   split at hc
   ·rename_i hsz;cases hc;exact a0n H E hop h2 h3 h1 hsz hs
   ·cases hc
  ·cases hc
 |index t x i=>
  simp only [cr] at hc
  split at hc
  ·rename_i h1 h2 h3;cases hc;exact a2P H E hop h2 h3 h1 hs
  ·rename_i h1 h2 h3
   split at hc
   ·rename_i hsz hg;cases hc;exact a5X H E hop h2 h3 h1 hsz hg hs
   ·cases hc
  ·cases hc
 |makeMap t r=>
  simp only [cr] at hc
  split at hc
  ·split at hc
   ·cases hc;exact a4a H hop hs
   ·cases hc
  ·cases hc
 |lookup t m k ok=>
  simp only [cr] at hc
  split at hc
  ·rename_i h1 h2
   split at hc
   ·rename_i hg;cases hc;obtain ⟨hg,rfl⟩:=hg;exact Zz H E hop h1 h2 hg hs
   ·cases hc
  ·cases hc
 |mapUpdate t m k x=>
  simp only [cr] at hc
  split at hc
  ·rename_i h1 h2 h3
   split at hc
   ·rename_i hg;cases hc;exact a1d H E hop h1 h2 h3 hg hs
   ·cases hc
  ·cases hc
 |mapEntry t m k=>
  simp only [cr] at hc
  split at hc
  ·rename_i h1 h2
   split at hc
   ·rename_i hg;cases hc;exact Yy H E hop h1 h2 hg hs
   ·cases hc
  ·cases hc
 |entryStore t m k x=>
  simp only [cr] at hc
  split at hc
  ·rename_i h1 h2 h3;cases hc;exact YR H E hop h1 h2 h3 hs
  ·cases hc
 |extract x i=>
  simp only [cr] at hc
  split at hc
  ·rename_i hx;cases hc;exact b58 H E hop hx hs
  ·cases hc
 |call c=>exact Yq H E hop hc hn hs
 |_=>simp [cr] at hc
end
end Go.AI
set_option linter.unusedVariables false
set_option linter.unusedSimpArgs false
namespace Go.AI
theorem bT {α:Type} {l:List α} {i:Nat} {x:α} (h:l[i]? =some x):i<l.length:=by
 rcases Nat.lt_or_ge i l.length with h1|h1
 ·exact h1
 ·rw [List.getElem?_eq_none h1] at h;cases h
def aN (blks:List Blk):au:=fun i=>blks[i]?
theorem an.move {F F':Frame} {μ μ':Mu} {h:au} (h':au) {w w':World}
 (hst: ∀c,c<w.heap.size→ @mi F μ c→c<w'.heap.size∧w'.heap[c]? =w.heap[c]? ∧ @mi F' μ' c) {v:V} {x:Value} (hv: @an F μ h w v x) (hcl:v.cl=true): @an F' μ' h' w' v x:=by
 induction hv with
 |lit v=>exact @an.lit F' μ' h' w' v
 |agg cs xs hl hcell hc ih=>simp [V.cl] at hcl
 |tup vs xs hl hc ih=>simp [V.cl] at hcl
 |ptr b i o n x k hk hn hx hp=>simp [V.cl] at hcl
 |mp b x k hk hx hp=>simp [V.cl] at hcl
 |sl b s n x k hk hn hx hp=>simp [V.cl] at hcl
 |emp a=>exact @an.emp F' μ' h' w' a
 |imm0 e a cap he=>exact @an.imm0 F' μ' h' w' e a cap he
 |imm e rows c off cap ys he hr hcap hc hs hrow hcell hv ih=>
  obtain ⟨h0,h1,h2⟩:=hst c hc hs
  exact @an.imm F' μ' h' w' e rows c off cap ys he hr hcap h0 h2 hrow (fun i j hi hj=>by rw [qJ h1];exact hcell i j hi hj)
   (fun i row j v hi hj=>ih i row j v hi hj ((hrow row (List.mem_of_getElem? hi)).2 v (List.mem_of_getElem? hj)).1)
 |iptr row o c off ys hc hs hrow hcell hv ih=>
  obtain ⟨h0,h1,h2⟩:=hst c hc hs
  exact @an.iptr F' μ' h' w' row o c off ys h0 h2 hrow (fun j hj=>by rw [qJ h1];exact hcell j hj) (fun j v hj=>ih j v hj (hrow v (List.mem_of_getElem? hj)).1)
 |fn f caps xs hl hc ih=>
  cases caps with
  |nil=>exact @an.fn F' μ' h' w' f [] xs hl (fun i v h=>by simp at h)
  |cons a b=>simp [V.cl] at hcl
 |unk x=>simp [V.cl] at hcl
inductive wm (h:au) (ids bor:List Nat):V→V→Prop
 |lit (v:Value):wm h ids bor (.lit v) (.lit v)
 |imm (e:Nat) (r:List (List V)):wm h ids bor (.imm e r) (.imm e r)
 |iptr (r:List V) (o:Nat):wm h ids bor (.iptr r o) (.iptr r o)
 |undef:wm h ids bor .undef .undef
 |fn (f:FuncId):wm h ids bor (.fn f []) (.fn f [])
 |ptr (b i o n p:Nat) (hp:ids[p]? =some b):wm h ids bor (.ptr b i o n) (.ptr p i o n)
 |sl (b s n p:Nat) (hp:ids[p]? =some b):wm h ids bor (.sl b s n) (.sl p s n)
 |mp (b p:Nat) (hp:ids[p]? =some b):wm h ids bor (.mp b) (.mp p)
 |bor (b s n:Nat) (k:Blk) (hb:b∈bor) (hk:h b=some k) (ho:k.op=false) (h0:0<k.esz) (hn:s+n=k.rows.length):wm h ids bor (.sl b s n) (.imm k.esz (k.rows.drop s))
def Ext (h:au) (ids ids':List Nat):Prop:=(∃e,ids'=ids++e)∧(ids.Nodup→ids'.Nodup)∧ ∀b∈ids',b∈ids∨ ∃k,h b=some k
theorem Ext.refl (h:au) (ids:List Nat):Ext h ids ids:=⟨⟨[],by simp⟩,id,fun b hb=> .inl hb⟩
theorem Ext.trans {h:au} {a b c:List Nat} (x:Ext h a b) (y:Ext h b c):Ext h a c:=by
 obtain ⟨⟨e,rfl⟩,n1,m1⟩:=x
 obtain ⟨⟨e',rfl⟩,n2,m2⟩:=y
 exact ⟨⟨e++e',by simp⟩,fun hn=>n2 (n1 hn),fun b hb=>(m2 b hb).elim (fun h1=>m1 b h1) .inr⟩
theorem Ext.at {h:au} {a b:List Nat} (x:Ext h a b) {p i:Nat} (hp:a[p]? =some i):b[p]? =some i:=by
 obtain ⟨⟨e,rfl⟩,_⟩:=x
 rw [List.getElem?_append_left (bT hp)];exact hp
theorem wm.mono {h:au} {ids ids' bor bor':List Nat} {v v':V} (x:wm h ids bor v v') (hi: ∀(p b:Nat),ids[p]? =some b→ids'[p]? =some b) (hb: ∀b∈bor,b∈bor'):wm h ids' bor' v v':=by
 cases x with
 |lit v=>exact .lit v
 |imm e r=>exact .imm e r
 |iptr r o=>exact .iptr r o
 |undef=>exact .undef
 |fn f=>exact .fn f
 |ptr b i o n p hp=>exact .ptr b i o n p (hi _ _ hp)
 |sl b s n p hp=>exact .sl b s n p (hi _ _ hp)
 |mp b p hp=>exact .mp b p (hi _ _ hp)
 |bor b s n k h1 hk ho h0 hn=>exact .bor b s n k (hb b h1) hk ho h0 hn
theorem pg {b:Nat}: ∀{ids:List Nat},b∈ids→ids[im b ids]? =some b
 |[],h=>by simp at h
 |x::r,h=>by
  simp only [im]
  by_cases e:x=b
  ·rw [if_pos e];simp [e]
  ·rw [if_neg e]
   have:b∈r:=by
    rcases List.mem_cons.1 h with h1|h1
    ·exact absurd h1.symm e
    ·exact h1
   simpa using pg this
theorem BL {h:au} {ids:List Nat} {b:Nat} {k:Blk} (hk:h b=some k):Ext h ids (dH ids b)∧(dH ids b)[im b (dH ids b)]? =some b:=by
 unfold dH
 split
 ·rename_i hm;exact ⟨Ext.refl _ _,pg hm⟩
 ·rename_i hm
  refine ⟨⟨⟨[b],rfl⟩,fun hn=> ?_,fun b' hb'=> ?_⟩,pg (by simp)⟩
  ·rw [List.nodup_append]
   exact ⟨hn,by simp,fun x hx y hy=>by simp at hy;subst hy;intro e;exact hm (e▸hx)⟩
  ·rcases List.mem_append.1 hb' with h1|h1
   ·exact .inl h1
   ·simp at h1;subst h1;exact .inr ⟨k,hk⟩
theorem A4 {h:au} {own:Bool} {ids ids' bs:List Nat} {v v':V} (hl:bU h own ids v=some (v',ids',bs)):Ext h ids ids'∧wm h ids' bs v v'∧(own=true→bs=[])∧ ∀b∈bs, ∃k,h b=some k:=by
 cases v with
 |lit v=>simp [bU] at hl;obtain ⟨rfl,rfl,rfl⟩:=hl;exact ⟨Ext.refl _ _,.lit v,fun _=>rfl,fun b hb=>by simp at hb⟩
 |imm e r=>simp [bU] at hl;obtain ⟨rfl,rfl,rfl⟩:=hl;exact ⟨Ext.refl _ _,.imm e r,fun _=>rfl,fun b hb=>by simp at hb⟩
 |iptr r o=>simp [bU] at hl;obtain ⟨rfl,rfl,rfl⟩:=hl;exact ⟨Ext.refl _ _,.iptr r o,fun _=>rfl,fun b hb=>by simp at hb⟩
 |undef=>simp [bU] at hl;obtain ⟨rfl,rfl,rfl⟩:=hl;exact ⟨Ext.refl _ _,.undef,fun _=>rfl,fun b hb=>by simp at hb⟩
 |ptr b i o n=>
  simp only [bU] at hl
  split at hl
  ·rename_i k hk
   split at hl
   ·rename_i hn
    cases hl
    obtain ⟨h1,h2⟩:=BL (ids:=ids) hk
    exact ⟨h1,.ptr b i o n _ h2,fun _=>rfl,fun b hb=>by simp at hb⟩
   ·cases hl
  ·cases hl
 |mp b=>
  simp only [bU] at hl
  split at hl
  ·rename_i k hk
   cases hl
   obtain ⟨h1,h2⟩:=BL (ids:=ids) hk
   exact ⟨h1,.mp b _ h2,fun _=>rfl,fun b hb=>by simp at hb⟩
  ·cases hl
 |sl b s n=>
  simp only [bU] at hl
  split at hl
  ·rename_i k hk
   split at hl
   ·rename_i hn
    cases own with
    |true=>
     simp at hl
     obtain ⟨rfl,rfl,rfl⟩:=hl
     obtain ⟨h1,h2⟩:=BL (ids:=ids) hk
     exact ⟨h1,.sl b s n _ h2,fun _=>rfl,fun b hb=>by simp at hb⟩
    |false=>
     simp only [Bool.false_eq_true,if_false] at hl
     split at hl
     ·rename_i hc
      cases hl
      exact ⟨Ext.refl _ _,.bor b s n k (by simp) hk hc.1 hc.2 hn,fun h=>(by cases h),fun b' hb'=>by simp at hb';subst hb';exact ⟨k,hk⟩⟩
     ·cases hl
   ·cases hl
  ·cases hl
 |fn f cs=>
  cases cs with
  |nil=>simp [bU] at hl;obtain ⟨rfl,rfl,rfl⟩:=hl;exact ⟨Ext.refl _ _,.fn f,fun _=>rfl,fun b hb=>by simp at hb⟩
  |cons a b=>simp [bU] at hl
 |_=>simp [bU] at hl
theorem mJ {h:au} {own:Bool}: ∀{cs cs':List V} {ids ids' bs:List Nat},cL h own ids cs=some (cs',ids',bs)→
 Ext h ids ids'∧cs'.length=cs.length∧(∀(i:Nat) (v v':V),cs[i]? =some v→cs'[i]? =some v'→wm h ids' bs v v')∧(own=true→bs=[])∧ ∀b∈bs, ∃k,h b=some k
 |[],cs',ids,ids',bs,hl=>by
  simp [cL] at hl
  obtain ⟨rfl,rfl,rfl⟩:=hl
  exact ⟨Ext.refl _ _,rfl,(fun i v v' h=>by simp at h),fun _=>rfl,fun b hb=>by simp at hb⟩
 |v::r,cs',ids,ids',bs,hl=>by
  simp only [cL] at hl
  split at hl
  ·rename_i v1 ids1 bs1 h1
   split at hl
   ·rename_i r2 ids2 bs2 h2
    cases hl
    obtain ⟨a1,a2,a3,a4⟩:=A4 h1
    obtain ⟨b1,b2,b3,b4,b5⟩:=mJ h2
    refine ⟨a1.trans b1,by simp [b2],fun i u u' hu hu'=> ?_,fun ho=>by rw [a3 ho,b4 ho];rfl,fun b hb=> ?_⟩
    ·cases i with
     |zero=>simp at hu hu';subst hu;subst hu';exact a2.mono (fun p b hp=>b1.at hp) (fun b hb=>List.mem_append.2 (.inl hb))
     |succ i=>exact (b3 i u u' (by simpa using hu) (by simpa using hu')).mono (fun p b hp=>hp) (fun b hb=>List.mem_append.2 (.inr hb))
    ·rcases List.mem_append.1 hb with hb|hb
     ·exact a4 b hb
     ·exact b5 b hb
   ·cases hl
  ·cases hl
inductive wg (h:au) (ids bor:List Nat):V→V→Prop
 |cell (v v':V) (hv:wm h ids bor v v'):wg h ids bor v v'
 |agg (cs cs':List V) (hl:cs'.length=cs.length) (hc: ∀(i:Nat) (v v':V),cs[i]? =some v→cs'[i]? =some v'→wm h ids bor v v'):wg h ids bor (.agg cs) (.agg cs')
 |fn (f:FuncId) (cs cs':List V) (hl:cs'.length=cs.length) (hc: ∀(i:Nat) (v v':V),cs[i]? =some v→cs'[i]? =some v'→wm h ids bor v v'):wg h ids bor (.fn f cs) (.fn f cs')
theorem wg.mono {h:au} {ids ids' bor bor':List Nat} {v v':V} (x:wg h ids bor v v') (hi: ∀(p b:Nat),ids[p]? =some b→ids'[p]? =some b) (hb: ∀b∈bor,b∈bor'):wg h ids' bor' v v':=by
 cases x with
 |cell v v' hv=>exact .cell _ _ (hv.mono hi hb)
 |agg cs cs' hl hc=>exact .agg cs cs' hl (fun i v v' h1 h2=>(hc i v v' h1 h2).mono hi hb)
 |fn f cs cs' hl hc=>exact .fn f cs cs' hl (fun i v v' h1 h2=>(hc i v v' h1 h2).mono hi hb)
theorem L5 {h:au} {own:Bool} {ids ids' bs:List Nat} {v v':V} (hl:cW h own ids v=some (v',ids',bs)):Ext h ids ids'∧wg h ids' bs v v'∧ ∀b∈bs, ∃k,h b=some k:=by
 have other:bU h own ids v=some (v',ids',bs)→Ext h ids ids'∧wg h ids' bs v v'∧ ∀b∈bs, ∃k,h b=some k:=fun h1=>by
  obtain ⟨a,b,c,d⟩:=A4 h1
  exact ⟨a,.cell _ _ b,d⟩
 cases v with
 |agg cs=>
  simp only [cW] at hl
  split at hl
  ·rename_i h1;cases hl
   obtain ⟨a,b,c,d,e⟩:=mJ h1
   exact ⟨a,.agg _ _ b c,e⟩
  ·cases hl
 |fn f cs=>
  simp only [cW] at hl
  split at hl
  ·rename_i h1;cases hl
   obtain ⟨a,b,c,d,e⟩:=mJ h1
   exact ⟨a,.fn f _ _ b c,e⟩
  ·cases hl
 |_=>exact other hl
theorem HX {h:au} {owns:List Nat}: ∀{vs vs':List V} {j:Nat} {ids ids' bs:List Nat},gx h owns j ids vs=some (vs',ids',bs)→
 Ext h ids ids'∧vs'.length=vs.length∧(∀(i:Nat) (v v':V),vs[i]? =some v→vs'[i]? =some v'→wg h ids' bs v v')∧ ∀b∈bs, ∃k,h b=some k
 |[],vs',j,ids,ids',bs,hl=>by
  simp [gx] at hl
  obtain ⟨rfl,rfl,rfl⟩:=hl
  exact ⟨Ext.refl _ _,rfl,(fun i v v' h=>by simp at h),fun b hb=>by simp at hb⟩
 |v::r,vs',j,ids,ids',bs,hl=>by
  simp only [gx] at hl
  split at hl
  ·rename_i v1 ids1 bs1 h1
   split at hl
   ·rename_i r2 ids2 bs2 h2
    cases hl
    obtain ⟨a1,a2,a4⟩:=L5 h1
    obtain ⟨b1,b2,b3,b5⟩:=HX h2
    refine ⟨a1.trans b1,by simp [b2],fun i u u' hu hu'=> ?_,fun b hb=> ?_⟩
    ·cases i with
     |zero=>simp at hu hu';subst hu;subst hu';exact a2.mono (fun p b hp=>b1.at hp) (fun b hb=>List.mem_append.2 (.inl hb))
     |succ i=>exact (b3 i u u' (by simpa using hu) (by simpa using hu')).mono (fun p b hp=>hp) (fun b hb=>List.mem_append.2 (.inr hb))
    ·rcases List.mem_append.1 hb with hb|hb
     ·exact a4 b hb
     ·exact b5 b hb
   ·cases hl
  ·cases hl
theorem YX {h:au} {ids ids' bs:List Nat} {v v':V} (hl:cW h true ids v=some (v',ids',bs)):bs=[]:=by
 have other:bU h true ids v=some (v',ids',bs)→bs=[]:=fun h1=>(A4 h1).2.2.1 rfl
 cases v with
 |agg cs=>
  simp only [cW] at hl
  split at hl
  ·rename_i h1;cases hl;exact (mJ h1).2.2.2.1 rfl
  ·cases hl
 |fn f cs=>
  simp only [cW] at hl
  split at hl
  ·rename_i h1;cases hl;exact (mJ h1).2.2.2.1 rfl
  ·cases hl
 |_=>exact other hl
theorem OG {h:au}: ∀{cs cs':List V} {ids ids':List Nat},od h ids cs=some (cs',ids')→
 Ext h ids ids'∧cs'.length=cs.length∧ ∀(i:Nat) (v v':V),cs[i]? =some v→cs'[i]? =some v'→wg h ids' [] v v'
 |[],cs',ids,ids',hl=>by
  simp [od] at hl
  obtain ⟨rfl,rfl⟩:=hl
  exact ⟨Ext.refl _ _,rfl,fun i v v' h=>by simp at h⟩
 |v::r,cs',ids,ids',hl=>by
  simp only [od] at hl
  split at hl
  ·rename_i v1 ids1 bs1 h1
   split at hl
   ·rename_i r2 ids2 h2
    cases hl
    obtain ⟨a1,a2,_⟩:=L5 h1
    rw [YX h1] at a2
    obtain ⟨b1,b2,b3⟩:=OG h2
    refine ⟨a1.trans b1,by simp [b2],fun i u u' hu hu'=> ?_⟩
    cases i with
    |zero=>simp at hu hu';subst hu;subst hu';exact a2.mono (fun p b hp=>b1.at hp) (fun b hb=>hb)
    |succ i=>exact b3 i u u' (by simpa using hu) (by simpa using hu')
   ·cases hl
  ·cases hl
theorem GI {h:au}: ∀{rs rs':List (List V)} {ids ids':List Nat},lK h ids rs=some (rs',ids')→
 Ext h ids ids'∧rs'.length=rs.length∧ ∀(i:Nat) (row row':List V),rs[i]? =some row→rs'[i]? =some row'→row'.length=row.length∧ ∀(j:Nat) (v v':V),row[j]? =some v→row'[j]? =some v'→wg h ids' [] v v'
 |[],rs',ids,ids',hl=>by
  simp [lK] at hl
  obtain ⟨rfl,rfl⟩:=hl
  exact ⟨Ext.refl _ _,rfl,fun i v v' h=>by simp at h⟩
 |x::r,rs',ids,ids',hl=>by
  simp only [lK] at hl
  split at hl
  ·rename_i x1 ids1 h1
   split at hl
   ·rename_i r2 ids2 h2
    cases hl
    obtain ⟨a1,a2,a3⟩:=OG h1
    obtain ⟨b1,b2,b3⟩:=GI h2
    refine ⟨a1.trans b1,by simp [b2],fun i u u' hu hu'=> ?_⟩
    cases i with
    |zero=>simp at hu hu';subst hu;subst hu';exact ⟨a2,fun j v v' h1 h2=>(a3 j v v' h1 h2).mono (fun p b hp=>b1.at hp) (fun b hb=>hb)⟩
    |succ i=>exact b3 i u u' (by simpa using hu) (by simpa using hu')
   ·cases hl
  ·cases hl
structure WP (h:au) (ids bor:List Nat) (k k0:Blk):Prop where
 esz:k0.esz=k.esz
 op:k0.op=k.op
 len:k0.rows.length=k.rows.length
 same:k.op=false→k0=k
 row:k.op=true→ ∀(i:Nat) (row row':List V),k.rows[i]? =some row→k0.rows[i]? =some row'→row'.length=row.length∧ ∀(j:Nat) (v v':V),row[j]? =some v→row'[j]? =some v'→wg h ids bor v v'
theorem WP.mono {h:au} {ids ids' bor bor':List Nat} {k k0:Blk} (x:WP h ids bor k k0) (hi: ∀(p b:Nat),ids[p]? =some b→ids'[p]? =some b) (hb: ∀b∈bor,b∈bor'):WP h ids' bor' k k0:=
 ⟨x.esz,x.op,x.len,x.same,fun ho i row row' h1 h2=>⟨(x.row ho i row row' h1 h2).1,fun j v v' h3 h4=>((x.row ho i row row' h1 h2).2 j v v' h3 h4).mono hi hb⟩⟩
theorem zH {h:au}: ∀{fuel pos:Nat} {ids ids':List Nat} {blks:List Blk},dq h fuel pos ids=some (blks,ids')→pos≤ids.length→
 Ext h ids ids'∧ids'.length=pos+blks.length∧ ∀(i b:Nat),ids'[pos+i]? =some b→ ∃k k0,h b=some k∧blks[i]? =some k0∧WP h ids' [] k k0
 |0,pos,ids,ids',blks,hl,hp=>by simp [dq] at hl
 |fuel+1,pos,ids,ids',blks,hl,hp=>by
  simp only [dq] at hl
  split at hl
  ·rename_i hn
   cases hl
   have:ids.length≤pos:=by simpa using hn
   exact ⟨Ext.refl _ _,by simp;omega,fun i b hb=>by have:=bT hb;omega⟩
  ·rename_i b0 hb0
   have hlt:=bT hb0
   split at hl
   ·cases hl
   ·rename_i k hk
    split at hl
    ·rename_i ho
     split at hl
     ·rename_i r ids1 h1
      cases hl
      obtain ⟨a1,a2,a3⟩:=zH h1 (by omega)
      refine ⟨a1,by simp [a2];omega,fun i b hb=> ?_⟩
      cases i with
      |zero=>
       have:=a1.at hb0
       simp only [Nat.add_zero] at hb
       rw [this] at hb;cases hb
       exact ⟨k,k,hk,by simp,⟨rfl,rfl,rfl,(fun _=>rfl),(fun h1=>by rw [ho] at h1;cases h1)⟩⟩
      |succ i=>simpa using a3 i b (by rw [←hb];congr 1;omega)
     ·cases hl
    ·rename_i ho
     have ho':k.op=true:=by cases hop:k.op with|true=>rfl|false=>exact absurd hop ho
     split at hl
     ·cases hl
     ·rename_i rows ids1 h1
      split at hl
      ·rename_i r ids2 h2
       cases hl
       obtain ⟨b1,b2,b3⟩:=GI h1
       have hlen:ids.length≤ids1.length:=by obtain ⟨⟨e,rfl⟩,_⟩:=b1;simp
       obtain ⟨a1,a2,a3⟩:=zH h2 (by omega)
       refine ⟨b1.trans a1,by simp [a2];omega,fun i b hb=> ?_⟩
       cases i with
       |zero=>
        have:=a1.at (b1.at hb0)
        simp only [Nat.add_zero] at hb
        rw [this] at hb;cases hb
        refine ⟨k,{ k with rows:=rows },hk,by simp,⟨rfl,rfl,b2,(fun h1=>by rw [ho'] at h1;cases h1),fun _ i row row' g1 g2=> ?_⟩⟩
        obtain ⟨c1,c2⟩:=b3 i row row' g1 g2
        exact ⟨c1,fun j v v' g3 g4=>(c2 j v v' g3 g4).mono (fun p b hp=>a1.at hp) (fun b hb=>hb)⟩
       |succ i=>simpa using a3 i b (by rw [←hb];congr 1;omega)
      ·cases hl
end Go.AI
set_option linter.unusedVariables false
set_option linter.unusedSimpArgs false
namespace Go.AI
section
variable {G:Frame} {μ μ':Mu} {h h':au} {w w':World}
theorem JN (C: @Chg G μ h w μ' h' w'): @jV G μ w μ' w':= @Chg.ev G _ _ _ _ _ _ C
theorem a9n (C: @Chg G μ h w μ' h' w'):RC μ h w μ' h' w':= @Chg.refs G _ _ _ _ _ _ C
theorem b8r (C: @jV G μ w μ' w'):w'.os=w.os:= @jV.os G _ _ _ _ C
theorem Zs (C: @jV G μ w μ' w'):w'.tape=w.tape:= @jV.tape G _ _ _ _ C
theorem b1Z (C: @jV G μ w μ' w'):w'.output=w.output:= @jV.output G _ _ _ _ C
theorem a2o (C: @jV G μ w μ' w'):w.drawn≤w'.drawn:= @jV.drawn G _ _ _ _ C
theorem Rx (C: @jV G μ w μ' w'):w.heap.size≤w'.heap.size:= @jV.size G _ _ _ _ C
theorem ZD (C: @jV G μ w μ' w'): ∀c,c<w.heap.size→ @mi G μ c→w'.heap[c]? =w.heap[c]? ∧ @mi G μ' c:= @jV.keep G _ _ _ _ C
theorem TQ (C: @jV G μ w μ' w'): ∀c,G.fr c→w'.heap[c]? =w.heap[c]? := @jV.keepF G _ _ _ _ C
theorem b8B (H: @aI G μ h w): ∀b b' c,μ b=some c→μ b'=some c→b=b':= @aI.inj G _ _ _ H
theorem b9e (H: @aI G μ h w): ∀b c,μ b=some c→ ∃k,h b=some k∧k.lies:= @aI.dom G _ _ _ H
theorem b3S (H: @aI G μ h w): ∀b k,h b=some k→ @c1L G μ h w b k:= @aI.blk G _ _ _ H
theorem a1F (H: @aI G μ h w): ∀b k,h b=some k→ ∀row∈k.rows,(0<k.esz→row.length=k.esz)∧ ∀v∈row,v.cell=true∧(k.op=false→v.cl=true):= @aI.rows G _ _ _ H
theorem T6 (H: @aI G μ h w): ∀b c,μ b=some c→ ¬G.fr c:= @aI.frame G _ _ _ H
theorem b72 (H: @aI G μ h w): ∀c,G.fr c→c<w.heap.size:= @aI.frlt G _ _ _ H
theorem hLt (H: @aI G μ h w) {b c:Nat} (hb:μ b=some c):c<w.heap.size:= @aI.lt G _ _ _ H b c hb
end
theorem cD {α:Type} {l:List α} {i:Nat} (h:i<l.length): ∃x,l[i]? =some x:=⟨l[i],List.getElem?_eq_getElem h⟩
structure Way (h:au) (ids bor:List Nat) (blks:List Blk):Prop where
 nd:ids.Nodup
 len:ids.length=blks.length
 at_: ∀(i b:Nat),ids[i]? =some b→ ∃k k0,h b=some k∧blks[i]? =some k0∧WP h ids bor k k0
 dis: ∀b∈bor,b∉ids
 has: ∀b∈bor, ∃k,h b=some k
@[reducible] def ln (F:Frame) (μ:Mu) (ids bor:List Nat):Frame:=⟨fun c=>F.fr c∨ ∃b,μ b=some c∧b∉ids∧b∉bor⟩
def kJ (μ:Mu) (ids:List Nat):Mu:=fun i=>(ids[i]?).bind μ
section
variable {F:Frame} {μ:Mu} {h:au} {w:World} {ids bor:List Nat} {blks:List Blk}
theorem yr {i c:Nat} (hi:kJ μ ids i=some c): ∃b,ids[i]? =some b∧μ b=some c:=by
 unfold kJ at hi
 cases hb:ids[i]? with
 |none=>rw [hb] at hi;cases hi
 |some b=>rw [hb] at hi;exact ⟨b,rfl,hi⟩
theorem Dn (W:Way h ids bor blks) {c:Nat} (h1: ¬F.fr c) (h2: ∀b,b∉bor→μ b≠some c): @mi (ln F μ ids bor) (kJ μ ids) c:=by
 refine ⟨fun i hi=> ?_,fun hf=> ?_⟩
 ·obtain ⟨b,hb,hm⟩:=yr hi
  exact h2 b (fun hbor=>W.dis b hbor (List.mem_of_getElem? hb)) hm
 ·rcases hf with hf|⟨b,hb,_,hnb⟩
  ·exact h1 hf
  ·exact h2 b hnb hb
theorem IP (W:Way h ids bor blks) {v:V} {x:Value} (hv: @an F μ h w v x) (hcl:v.cl=true): @an (ln F μ ids bor) (kJ μ ids) (aN blks) w v x:=
 an.move (F:=F) _ (fun c hc hs=>⟨hc,rfl,Dn W hs.2 (fun b _=>hs.1 b)⟩) hv hcl
theorem SH (W:Way h ids bor blks) (H: @aI F μ h w) {v v':V} {x:Value} (hl:wm h ids bor v v') (hv: @an F μ h w v x): @an (ln F μ ids bor) (kJ μ ids) (aN blks) w v' x:=by
 cases hl with
 |lit y=>exact IP W hv rfl
 |imm e r=>exact IP W hv rfl
 |iptr r o=>exact IP W hv rfl
 |undef=>exact @an.unk (ln F μ ids bor) (kJ μ ids) (aN blks) w x
 |fn f=>exact IP W hv rfl
 |ptr b i o n p hp=>
  cases hv with
  |ptr _ _ _ _ _ k hk hn' hx hpp hd=>
   obtain ⟨k1,k0,h1,h2,L⟩:=W.at_ p b hp
   rw [hk] at h1;cases h1
   refine @an.ptr (ln F μ ids bor) (kJ μ ids) (aN blks) w p i o n x k0 h2 (by rw [L.len,L.esz];exact hn') hx (fun g1 g2 g3=> ?_) (fun g=>by rw [L.op];exact hd (by rw [←L.esz];exact g))
   rw [L.esz] at g1 ⊢
   obtain ⟨c,c1,c2⟩:=hpp g1 (by rw [←L.len];exact g2) g3
   exact ⟨c,by simp [kJ,hp,c1],c2⟩
 |sl b s n p hp=>
  cases hv with
  |sl _ _ _ _ k hk hn' hx hpp=>
   obtain ⟨k1,k0,h1,h2,L⟩:=W.at_ p b hp
   rw [hk] at h1;cases h1
   refine @an.sl (ln F μ ids bor) (kJ μ ids) (aN blks) w p s n x k0 h2 (by rw [L.len,L.esz];exact hn') hx (fun g1 g2=> ?_)
   rw [L.esz] at g1 ⊢
   obtain ⟨a,cap,c1,c2⟩:=hpp g1 (by rw [←L.len];exact g2)
   refine ⟨a,cap,c1, ?_⟩
   rcases c2 with c2|⟨c,d1,d2,d3,d4⟩
   ·exact .inl c2
   ·exact .inr ⟨c,by simp [kJ,hp,d1],d2,d3,d4⟩
 |mp b p hp=>
  cases hv with
  |mp _ _ k hk hx hmm=>
   obtain ⟨k1,k0,h1,h2,L⟩:=W.at_ p b hp
   rw [hk] at h1;cases h1
   refine @an.mp (ln F μ ids bor) (kJ μ ids) (aN blks) w p x k0 h2 hx (fun g1 g2=> ?_)
   rw [L.esz] at g1
   rw [L.op] at g2
   obtain ⟨c,c1,c2⟩:=hmm g1 g2
   exact ⟨c,by simp [kJ,hp,c1],c2⟩
 |bor b s n k hb hk ho h0 hn=>
  have h1:= @HL μ h w F H b s n k x hk ho h0 hn hv (bk μ b none) h (by simp [bk]) (fun b' c hm=>by
   unfold bk at hm
   split at hm
   ·cases hm
   ·exact hm)
  refine an.move (F:=F) _ (fun c hc hs=>⟨hc,rfl,Dn W hs.2 (fun b' hb'=> ?_)⟩) h1 rfl
  have hne:b'≠b:=fun e=>hb' (e▸hb)
  have:=hs.1 b'
  simpa [bk,hne] using this
theorem wm.cellOf {v v':V} (hl:wm h ids bor v v') (hc:v.cell=true):v'.cell=true:=by
 cases hl<;>first|exact hc|rfl
theorem T7 (W:Way h ids bor blks) (H: @aI F μ h w) {v v':V} {x:Value} (hl:wg h ids bor v v') (hv: @an F μ h w v x): @an (ln F μ ids bor) (kJ μ ids) (aN blks) w v' x:=by
 cases hl with
 |cell _ _ hl=>exact SH W H hl hv
 |agg cs cs' hlen hcs=>
  cases hv with
  |agg _ xs hl hcell hc=>
   refine @an.agg (ln F μ ids bor) (kJ μ ids) (aN blks) w cs' xs (by rw [hl,hlen]) (fun v hv=> ?_) (fun i v hi=> ?_)
   ·obtain ⟨i,hi,rfl⟩:=List.getElem_of_mem hv
    have h1:cs[i]? =some cs[i]:=List.getElem?_eq_getElem (by omega)
    exact (hcs i _ _ h1 (List.getElem?_eq_getElem hi)).cellOf (hcell _ (List.mem_of_getElem? h1))
   ·have hi':=bT hi
    have h1:cs[i]? =some cs[i]:=List.getElem?_eq_getElem (by omega)
    exact SH W H (hcs i _ _ h1 hi) (hc i _ h1)
 |fn f cs cs' hlen hcs=>
  cases hv with
  |fn _ _ xs hl hc=>
   refine @an.fn (ln F μ ids bor) (kJ μ ids) (aN blks) w f cs' xs (by rw [hl,hlen]) (fun i v hi=> ?_)
   have hi':=bT hi
   have h1:cs[i]? =some cs[i]:=List.getElem?_eq_getElem (by omega)
   exact SH W H (hcs i _ _ h1 hi) (hc i _ h1)
theorem wg.cellOf {v v':V} (hl:wg h ids bor v v') (hc:v.cell=true):v'.cell=true:=by
 cases hl with
 |cell _ _ h=>exact h.cellOf hc
 |agg=>simp [V.cell] at hc
 |fn=>rfl
theorem Way.back (W:Way h ids bor blks) {i:Nat} {k0:Blk} (hk:aN blks i=some k0): ∃b k,ids[i]? =some b∧h b=some k∧WP h ids bor k k0:=by
 have hlt:=bT hk
 obtain ⟨b,hi⟩:=cD (l:=ids) (i:=i) (by rw [W.len];exact hlt)
 obtain ⟨k,k1,h1,h2,L⟩:=W.at_ i _ hi
 have:blks[i]? =some k0:=hk
 rw [h2] at this;cases this
 exact ⟨_,k,hi,h1,L⟩
theorem SM (W:Way h ids bor blks) (H: @aI F μ h w): @aI (ln F μ ids bor) (kJ μ ids) (aN blks) w:=by
 refine @aI.mk (ln F μ ids bor) (kJ μ ids) (aN blks) w (fun i i' c h1 h2=> ?_) (fun i c h1=> ?_) (fun i k0 hk=> ?_) (fun i k0 hk=> ?_) (fun i c h1=> ?_) (fun c hc=> ?_)
 ·obtain ⟨b,hb,hm⟩:=yr h1
  obtain ⟨b',hb',hm'⟩:=yr h2
  have:= @aI.inj F μ h w H _ _ _ hm hm'
  subst this
  exact (List.getElem?_inj (bT hb) W.nd).1 (by rw [hb,hb'])
 ·obtain ⟨b,hb,hm⟩:=yr h1
  obtain ⟨k,k0,g1,g2,L⟩:=W.at_ i b hb
  obtain ⟨k',hk',h0⟩:= @aI.dom F μ h w H b c hm
  rw [g1] at hk';cases hk'
  exact ⟨k0,g2,by unfold Blk.lies;rw [L.esz,L.op];exact h0⟩
 ·obtain ⟨b,k,hb,hkb,L⟩:=W.back hk
  rcases @aI.blk F μ h w H b k hkb with ⟨g1,g2,g3⟩|⟨g0,c,arr,t,lo,hi,gm,gh,gf,gl,gv⟩|⟨g0,go,c,gm,gb⟩
  ·left
   rw [L.same g2]
   exact ⟨g1,g2,by simp [kJ,hb,g3]⟩
  rotate_left
  ·right;right
   refine ⟨by rw [L.esz];exact g0,by rw [L.op];exact go,c,by simp [kJ,hb,gm], ?_⟩
   have:k0.rows=k.rows:=by
    refine List.ext_getElem L.len (fun i2 h1 h2=> ?_)
    have e1:k0.rows[i2]? =some k0.rows[i2]:=List.getElem?_eq_getElem h1
    have e2:k.rows[i2]? =some k.rows[i2]:=List.getElem?_eq_getElem h2
    obtain ⟨r1,r2⟩:=L.row go i2 _ _ e2 e1
    refine List.ext_getElem r1 (fun j h3 h4=> ?_)
    have h5:=r2 j _ _ (List.getElem?_eq_getElem h4) (List.getElem?_eq_getElem h3)
    obtain ⟨n,hn⟩:=gb.lit (List.getElem_mem h2) (List.getElem_mem h4)
    rw [hn] at h5
    cases h5 with
    |cell _ _ h6=>generalize k0.rows[i2][j]=u at h6;cases h6;exact hn.symm
   rw [this];exact gb
  ·right;left
   refine ⟨by rw [L.esz];exact g0,c,arr,t,lo,hi,by simp [kJ,hb,gm],gh,gf,by rw [L.len,L.esz];exact gl,fun i2 row' j v' h1 h2=> ?_⟩
   rw [L.esz]
   cases hop:k.op with
   |false=>
    rw [L.same hop] at h1
    exact IP W (gv i2 row' j v' h1 h2) ((@aI.rows F μ h w H b k hkb row' (List.mem_of_getElem? h1)).2 v' (List.mem_of_getElem? h2)|>.2 hop)
   |true=>
    obtain ⟨row,h3⟩:=cD (l:=k.rows) (i:=i2) (by rw [←L.len];exact bT h1)
    obtain ⟨r1,r2⟩:=L.row hop i2 _ _ h3 h1
    obtain ⟨v,h4⟩:=cD (l:=row) (i:=j) (by rw [←r1];exact bT h2)
    exact T7 W H (r2 j _ _ h4 h2) (gv i2 row j v h3 h4)
 ·obtain ⟨b,k,hb,hkb,L⟩:=W.back hk
  intro row' hrow
  obtain ⟨i2,hi2,rfl⟩:=List.getElem_of_mem hrow
  have h1:k0.rows[i2]? =some k0.rows[i2]:=List.getElem?_eq_getElem hi2
  cases hop:k.op with
  |false=>
   have:=L.same hop
   subst this
   have hr:= @aI.rows F μ h w H b k0 hkb _ (List.mem_of_getElem? h1)
   exact ⟨hr.1,fun v hv=>⟨(hr.2 v hv).1,fun _=>(hr.2 v hv).2 hop⟩⟩
  |true=>
   obtain ⟨row,h3⟩:=cD (l:=k.rows) (i:=i2) (by rw [←L.len];exact hi2)
   obtain ⟨r1,r2⟩:=L.row hop i2 _ _ h3 h1
   have hr:= @aI.rows F μ h w H b k hkb _ (List.mem_of_getElem? h3)
   refine ⟨fun h0=>by rw [L.esz] at h0;rw [r1,hr.1 h0,L.esz],fun v hv=> ?_⟩
   obtain ⟨j,hj,rfl⟩:=List.getElem_of_mem hv
   obtain ⟨v,h4⟩:=cD (l:=row) (i:=j) (by omega)
   refine ⟨(r2 j _ _ h4 (List.getElem?_eq_getElem hj)).cellOf (hr.2 _ (List.mem_of_getElem? h4)).1,fun h5=> ?_⟩
   rw [L.op,hop] at h5;cases h5
 ·obtain ⟨b,hb,hm⟩:=yr h1
  intro hf
  rcases hf with hf|⟨b',hb',hn,_⟩
  ·exact @aI.frame F μ h w H b c hm hf
  ·have:= @aI.inj F μ h w H _ _ _ hm hb'
   subst this
   exact hn (List.mem_of_getElem? hb)
 ·rcases hc with hf|⟨b,hb,_⟩
  ·exact @aI.frlt F μ h w H c hf
  ·exact @aI.lt F μ h w H b c hb
theorem b0B {owns:FuncId→List Nat} {f:FuncId} {args args':List V} (hp:cV owns h f args=some (args',blks,ids,bor)):
 Way h ids bor blks∧args'.length=args.length∧ ∀(i:Nat) (v v':V),args[i]? =some v→args'[i]? =some v'→wg h ids bor v v':=by
 unfold cV at hp
 split at hp
 ·cases hp
 ·rename_i a1 ids0 bor1 h1
  split at hp
  ·cases hp
  ·rename_i bl ids1 h2
   split at hp
   ·cases hp
   ·rename_i hany
    cases hp
    obtain ⟨x1,x2,x3,x4⟩:=HX h1
    obtain ⟨y1,y2,y3⟩:=zH h2 (Nat.zero_le _)
    refine ⟨⟨y1.2.1 (x1.2.1 List.nodup_nil),by rw [y2];omega,(fun i b hb=>by obtain ⟨k,k0,g1,g2,g3⟩:=y3 i b (by simpa using hb);exact ⟨k,k0,g1,g2,g3.mono (fun p b hp=>hp) (fun b hb=>by simp at hb)⟩),fun b hb hm=>hany ?_,x4⟩,x2,fun i v v' g1 g2=>(x3 i v v' g1 g2).mono (fun p b hp=>y1.at hp) (fun b hb=>hb)⟩
    rw [List.any_eq_true]
    exact ⟨b,hb,by simpa using hm⟩
end
end Go.AI
