/- Each operation of the abstract machine's other than a call is sound. -/
import Derived.Test.YtgjlndaebhaciaaAiOps9
import Derived.Test.YtgjlndaebhaciaaAiOps7N
import Derived.Test.YtgjlndaebhaciaaAiMap
set_option linter.unusedVariables false
set_option linter.unusedSimpArgs false
namespace Go.AI
def dp:AOp→Bool
 | .call .. | .dyn .. =>true
 |_=>false
section
variable {P:Program} {μ:Mu} {h:ah} {w:World} {f:Nat→V} {a:Act}
theorem map_some {α β:Type} {x:Option α} {g:α→β} {y:β} (h:x.map g=some y): ∃z,x=some z∧y=g z:=by
 cases x with
 |none=>cases h
 |some z=>cases h;exact ⟨z,rfl,rfl⟩
theorem nk {l:List Operand} {x' y':Opd} (h:cV l=some [x',y']): ∃x y,l=[x,y]∧am x=some x'∧am y=some y':=by
 match l with
 |[]=>simp [cV] at h
 |[x]=>
  simp only [cV] at h
  split at h
  ·cases h;rename_i h2;cases h2
  ·cases h
 |[x,y]=>
  simp only [cV] at h
  split at h
  ·rename_i a b h1 h2
   cases h
   split at h2
   ·rename_i c d h3 h4;cases h2;exact ⟨x,y,rfl,h1,h3⟩
   ·cases h2
  ·cases h
 |x::y::z::r=>
  simp only [cV] at h
  split at h
  ·rename_i a b h1 h2
   cases h
   split at h2
   ·rename_i c d h3 h4
    cases h2
    split at h4
    ·cases h4
    ·cases h4
   ·cases h2
  ·cases h
theorem Co {l:List Operand} {x':Opd} (h:cV l=some [x']): ∃x,l=[x]∧am x=some x':=by
 match l with
 |[]=>simp [cV] at h
 |[x]=>
  simp only [cV] at h
  split at h
  ·cases h;rename_i a b h1 h2;exact ⟨x,rfl,h1⟩
  ·cases h
 |x::y::r=>
  simp only [cV] at h
  split at h
  ·rename_i a b h1 h2
   cases h
   split at h2
   ·cases h2
   ·cases h2
  ·cases h
theorem zN [Frame] (H:al μ h w) (E:bJ μ h w f a) {C:aB} {ow:FuncId→List Nat} {o:Oper} {c:Call} {ao:AOp} (hop:o.op= .call c) (hc:b9 P (.call c)=some ao) (hn:dp ao=false) {new:Nat} {v:V} {u:Upd}
 (hs:ae C ow ao (Opd.ev f) h new=some (v,u)):bY P o a μ h w v u:=by
 simp only [b9] at hc
 split at hc
 ·cases hc;simp [dp] at hn
 ·split at hc
  ·cases hc;simp [dp] at hn
  ·cases hc
 ·rename_i x' hca hargs
  obtain ⟨x,hl,hx⟩:=Co hargs
  split at hc
  ·rename_i t ht
   split at hc
   ·rename_i hu;cases hc;exact H4 H E hop hca hl hx ht hu hs
   ·rename_i hu;cases hc;exact Gv H E hop hca hl hx ht hu hs
   ·rename_i hu;cases hc;exact zK H E hop hca hl hx ht hu hs
   ·cases hc
  ·cases hc
 ·rename_i x' y' hca hargs
  obtain ⟨x,y,hl,hx,hy⟩:=nk hargs
  split at hc
  ·rename_i t u' ht hu'
   split at hc
   ·rename_i e d he hd
    split at hc
    ·rename_i i z hi hz
     split at hc
     ·cases hc
      exact yK H E hop hca hl hx hy ht hu' hd (eZ he) hi hz hs
     ·rename_i hnd
      cases hc
      exact zR H E hop hca hl hx hy ht hu' hd (fun k hk=>hnd k hk) (eZ he) hi hz hs
    ·cases hc
   ·cases hc
  ·cases hc
 ·rename_i x' y' hca hargs
  obtain ⟨x,y,hl,hx,hy⟩:=nk hargs
  split at hc
  ·rename_i t ht
   split at hc
   ·rename_i e he
    split at hc
    ·rename_i s hsz
     cases hc
     exact Is H E hop hca hl hx hy ht (eZ he) hsz hs
    ·cases hc
   ·cases hc
  ·cases hc
 ·rename_i x' y' hca hargs
  obtain ⟨x,y,hl,hx,hy⟩:=nk hargs
  cases hc
  exact Hh H E hop hca hl hx hy hs
 ·rename_i x' y' hca hargs
  obtain ⟨x,y,hl,hx,hy⟩:=nk hargs
  cases hc
  exact Fo H E hop hca hl hx hy hs
 ·cases hc
theorem FB [Frame] (H:al μ h w) (E:bJ μ h w f a) {C:aB} {ow:FuncId→List Nat} {o:Oper} {ao:AOp} (hc:b9 P o.op=some ao) (hn:dp ao=false) {new:Nat} {v:V} {u:Upd}
 (hs:ae C ow ao (Opd.ev f) h new=some (v,u)):bY P o a μ h w v u:=by
 generalize hop:o.op=op at hc
 cases op with
 |move x=>
  simp only [b9] at hc
  obtain ⟨x',hx,rfl⟩:=map_some hc
  simp only [ae] at hs;cases hs
  exact GZ H E (.inl hop) hx
 |assign x=>
  simp only [b9] at hc
  obtain ⟨x',hx,rfl⟩:=map_some hc
  simp only [ae] at hs;cases hs
  exact GZ H E (.inr hop) hx
 |pick c x y=>
  simp only [b9] at hc
  split at hc
  ·rename_i h1 h2 h3;cases hc;exact Gp H E hop h1 h2 h3 hs
  ·cases hc
 |alloc t=>
  simp only [b9] at hc
  obtain ⟨z,hz,rfl⟩:=map_some hc
  simp only [ae] at hs
  exact E3 H hop hz hs
 |box t x=>
  simp only [b9] at hc
  split at hc
  ·rename_i h1 h2;cases hc;simp only [ae] at hs;exact MG H E hop h2 hs
  ·cases hc
 |build t ps=>exact BL H E hop hc hs
 |buildSlice t len ps=>
  simp only [b9] at hc
  split at hc
  ·rename_i e he
   split at hc
   ·rename_i h1 h2 h3
    split at hc
    ·split at hc
     ·cases hc;simp only [ae] at hs;exact uP H E hop (eZ he) h1 h2 h3 hs
     ·cases hc;exact mz H E hop (eZ he) h1 h2 h3 hs
    ·cases hc;exact mz H E hop (eZ he) h1 h2 h3 hs
   ·cases hc
  ·cases hc
 |load t x=>
  simp only [b9] at hc
  split at hc
  ·rename_i h1 h2
   cases hc
   simp only [ae] at hs
   split at hs
   ·rename_i hr;cases hs;exact Eu H E hop h2 h1 hr
   ·cases hs
  ·cases hc
 |store t x y=>
  simp only [b9] at hc
  split at hc
  ·rename_i h1 h2 h3;cases hc;exact uy H E hop h2 h3 h1 hs
  ·cases hc
 |nilCheck x=>
  simp only [b9] at hc
  obtain ⟨x',hx,rfl⟩:=map_some hc
  exact vE H E hop hx hs
 |binOp op t x y ty=>
  simp only [b9] at hc
  split at hc
  ·rename_i h1 h2
   split at hc
   ·rename_i fs hu
    split at hc
    ·rename_i hg
     simp only [Bool.and_eq_true,Bool.not_eq_true'] at hg
     split at hc
     ·rename_i hk;cases hc;exact uB H E hop h1 h2 hu hg.1 hg.2 hk rfl hs
     ·rename_i hk;cases hc;exact uB H E hop h1 h2 hu hg.1 hg.2 hk rfl hs
     ·cases hc
    ·cases hc
   ·rename_i hu
    split at hc
    ·cases hc;exact BF H E hop h1 h2 hu rfl hs
    ·cases hc;exact BF H E hop h1 h2 hu rfl hs
    ·cases hc
   ·cases hc;exact Bn H E hop h1 h2 hs
   ·cases hc;exact Bn H E hop h1 h2 hs
   ·rename_i hu
    split at hc
    ·cases hc;exact uc H E hop h1 h2 hu rfl hs
    ·cases hc;exact uc H E hop h1 h2 hu rfl hs
    ·cases hc
   ·cases hc
  ·cases hc
 |unOp op t x=>
  simp only [b9] at hc
  obtain ⟨x',hx,rfl⟩:=map_some hc
  exact Qd H E hop hx hs
 |convert s d x=>
  simp only [b9] at hc
  split at hc
  ·rename_i h1 h2 h3;cases hc;exact FE H E hop h3 h1 h2 hs
  ·rename_i h1 h2 h3;cases hc;exact G0 H E hop h3 h1 h2 hs
  ·rename_i h1 h2 h3
   split at hc
   ·rename_i h4;cases hc;exact xb H E hop h3 h1 h2 h4 hs
   ·cases hc
  ·rename_i h1 h2 h3
   split at hc
   ·rename_i h4 h5;cases hc;exact Dv H E hop h3 h1 h2 h4 hs
   ·cases hc
  ·rename_i h1 h2 h3
   split at hc
   ·rename_i h4
    split at hc
    ·rename_i h5;cases hc;exact w7 H E hop h3 h1 h2 h4 h5 hs
    ·cases hc
   ·cases hc
  ·cases hc
 |sliceToArrayPointer t x=>
  simp only [b9] at hc
  split at hc
  ·rename_i h1 h2;cases hc;exact Dw H E hop h2 h1 hs
  ·cases hc
 |makeFunc c fst caps=>
  cases c with
  |func g=>
   simp only [b9] at hc
   split at hc
   ·rename_i h1 h2;cases hc;exact uF H E hop h1 h2 hs
   ·cases hc
  |_=>simp [b9] at hc
 |makeSlice t l c=>
  simp only [b9] at hc
  split at hc
  ·rename_i e he
   split at hc
   ·rename_i h1 h2 h3 h4;cases hc;exact tN H E hop h3 h4 (eZ he) h1 h2 hs
   ·cases hc
  ·cases hc
 |slice t x lo hi mx=>
  simp only [b9] at hc
  split at hc
  ·rename_i h1 h2 h3 h4 h5
   cases hc
   cases mx with
   |none=>exact wa H E hop h2 h3 h4 h1 hs
   |some m=>
    simp only [ei] at h5
    split at h5
    ·cases h5
    ·cases h5
  ·rename_i h1 h2 h3 h4 h5
   split at hc
   ·rename_i hsz;cases hc;exact BO H E hop h2 h3 h4 h5 h1 hsz hs
   ·cases hc
  ·cases hc
 |fieldAddr t x n=>
  simp only [b9] at hc
  split at hc
  ·rename_i h1 h2
   split at hc
   ·rename_i fd hf
    split at hc
    ·rename_i hsz;cases hc;exact Mg H E hop h2 h1 hf hsz hs
    ·cases hc
   ·cases hc
  ·cases hc
 |field t x n=>
  simp only [b9] at hc
  split at hc
  ·rename_i h1 h2
   split at hc
   ·rename_i fd hf
    split at hc
    ·rename_i hg;cases hc;exact D0 H E hop h2 h1 hf hg hs
    ·cases hc
   ·cases hc
  ·cases hc
 |indexAddr t x i=>
  simp only [b9] at hc
  split at hc
  ·rename_i h1 h2 h3
   split at hc
   ·rename_i hsz;cases hc;exact Jt H E hop h2 h3 h1 hsz hs
   ·cases hc
  ·rename_i h1 h2 h3
   split at hc
   ·rename_i hsz;cases hc;exact AR H E hop h2 h3 h1 hsz hs
   ·cases hc
  ·cases hc
 |index t x i=>
  simp only [b9] at hc
  split at hc
  ·rename_i h1 h2 h3;cases hc;exact D2 H E hop h2 h3 h1 hs
  ·rename_i h1 h2 h3
   split at hc
   ·rename_i hsz hg;cases hc;exact Cf H E hop h2 h3 h1 hsz hg hs
   ·cases hc
  ·cases hc
 |makeMap t r=>
  simp only [b9] at hc
  split at hc
  ·split at hc
   ·cases hc;exact CE H hop hs
   ·cases hc
  ·cases hc
 |lookup t m k ok=>
  simp only [b9] at hc
  split at hc
  ·rename_i h1 h2
   split at hc
   ·rename_i hg;cases hc;obtain ⟨hg,rfl⟩:=hg;exact zq H E hop h1 h2 hg hs
   ·cases hc
  ·cases hc
 |mapUpdate t m k x=>
  simp only [b9] at hc
  split at hc
  ·rename_i h1 h2 h3
   split at hc
   ·rename_i hg;cases hc;exact Af H E hop h1 h2 h3 hg hs
   ·cases hc
  ·cases hc
 |mapEntry t m k=>
  simp only [b9] at hc
  split at hc
  ·rename_i h1 h2
   split at hc
   ·rename_i hg;cases hc;exact zo H E hop h1 h2 hg hs
   ·cases hc
  ·cases hc
 |entryStore t m k x=>
  simp only [b9] at hc
  split at hc
  ·rename_i h1 h2 h3;cases hc;exact Ao H E hop h1 h2 h3 hs
  ·cases hc
 |extract x i=>
  simp only [b9] at hc
  split at hc
  ·rename_i hx;cases hc;exact Ly H E hop hx hs
  ·cases hc
 |call c=>exact zN H E hop hc hn hs
 |_=>simp [b9] at hc
end
end Go.AI
set_option linter.unusedVariables false
set_option linter.unusedSimpArgs false
namespace Go.AI
theorem aS {α:Type} {l:List α} {i:Nat} {x:α} (h:l[i]? =some x):i<l.length:=by
 rcases Nat.lt_or_ge i l.length with h1|h1
 ·exact h1
 ·rw [List.getElem?_eq_none h1] at h;cases h
def an (blks:List Blk):ah:=fun i=>blks[i]?
theorem ag.move {F F':Frame} {μ μ':Mu} {h:ah} (h':ah) {w w':World}
 (hst: ∀c,c<w.heap.size→ @en F μ c→c<w'.heap.size∧w'.heap[c]? =w.heap[c]? ∧ @en F' μ' c) {v:V} {x:Value} (hv: @ag F μ h w v x) (hcl:v.cl=true): @ag F' μ' h' w' v x:=by
 induction hv with
 |lit v=>exact @ag.lit F' μ' h' w' v
 |agg cs xs hl hcell hc ih=>simp [V.cl] at hcl
 |tup vs xs hl hc ih=>simp [V.cl] at hcl
 |ptr b i o n x k hk hn hx hp=>simp [V.cl] at hcl
 |mp b x k hk hx hp=>simp [V.cl] at hcl
 |sl b s n x k hk hn hx hp=>simp [V.cl] at hcl
 |emp a=>exact @ag.emp F' μ' h' w' a
 |imm0 e a cap he=>exact @ag.imm0 F' μ' h' w' e a cap he
 |imm e rows c off cap ys he hr hcap hc hs hrow hcell hv ih=>
  obtain ⟨h0,h1,h2⟩:=hst c hc hs
  exact @ag.imm F' μ' h' w' e rows c off cap ys he hr hcap h0 h2 hrow (fun i j hi hj=>by rw [gq h1];exact hcell i j hi hj)
   (fun i row j v hi hj=>ih i row j v hi hj ((hrow row (List.mem_of_getElem? hi)).2 v (List.mem_of_getElem? hj)).1)
 |iptr row o c off ys hc hs hrow hcell hv ih=>
  obtain ⟨h0,h1,h2⟩:=hst c hc hs
  exact @ag.iptr F' μ' h' w' row o c off ys h0 h2 hrow (fun j hj=>by rw [gq h1];exact hcell j hj) (fun j v hj=>ih j v hj (hrow v (List.mem_of_getElem? hj)).1)
 |fn f caps xs hl hc ih=>
  cases caps with
  |nil=>exact @ag.fn F' μ' h' w' f [] xs hl (fun i v h=>by simp at h)
  |cons a b=>simp [V.cl] at hcl
 |unk x=>simp [V.cl] at hcl
inductive j8 (h:ah) (ids bor:List Nat):V→V→Prop
 |lit (v:Value):j8 h ids bor (.lit v) (.lit v)
 |imm (e:Nat) (r:List (List V)):j8 h ids bor (.imm e r) (.imm e r)
 |iptr (r:List V) (o:Nat):j8 h ids bor (.iptr r o) (.iptr r o)
 |undef:j8 h ids bor .undef .undef
 |fn (f:FuncId):j8 h ids bor (.fn f []) (.fn f [])
 |ptr (b i o n p:Nat) (hp:ids[p]? =some b):j8 h ids bor (.ptr b i o n) (.ptr p i o n)
 |sl (b s n p:Nat) (hp:ids[p]? =some b):j8 h ids bor (.sl b s n) (.sl p s n)
 |mp (b p:Nat) (hp:ids[p]? =some b):j8 h ids bor (.mp b) (.mp p)
 |bor (b s n:Nat) (k:Blk) (hb:b∈bor) (hk:h b=some k) (ho:k.op=false) (h0:0<k.esz) (hn:s+n=k.rows.length):j8 h ids bor (.sl b s n) (.imm k.esz (k.rows.drop s))
def Ext (h:ah) (ids ids':List Nat):Prop:=(∃e,ids'=ids++e)∧(ids.Nodup→ids'.Nodup)∧ ∀b∈ids',b∈ids∨ ∃k,h b=some k
theorem Ext.refl (h:ah) (ids:List Nat):Ext h ids ids:=⟨⟨[],by simp⟩,id,fun b hb=> .inl hb⟩
theorem Ext.trans {h:ah} {a b c:List Nat} (x:Ext h a b) (y:Ext h b c):Ext h a c:=by
 obtain ⟨⟨e,rfl⟩,n1,m1⟩:=x
 obtain ⟨⟨e',rfl⟩,n2,m2⟩:=y
 exact ⟨⟨e++e',by simp⟩,fun hn=>n2 (n1 hn),fun b hb=>(m2 b hb).elim (fun h1=>m1 b h1) .inr⟩
theorem Ext.at {h:ah} {a b:List Nat} (x:Ext h a b) {p i:Nat} (hp:a[p]? =some i):b[p]? =some i:=by
 obtain ⟨⟨e,rfl⟩,_⟩:=x
 rw [List.getElem?_append_left (aS hp)];exact hp
theorem j8.mono {h:ah} {ids ids' bor bor':List Nat} {v v':V} (x:j8 h ids bor v v') (hi: ∀(p b:Nat),ids[p]? =some b→ids'[p]? =some b) (hb: ∀b∈bor,b∈bor'):j8 h ids' bor' v v':=by
 cases x with
 |lit v=>exact .lit v
 |imm e r=>exact .imm e r
 |iptr r o=>exact .iptr r o
 |undef=>exact .undef
 |fn f=>exact .fn f
 |ptr b i o n p hp=>exact .ptr b i o n p (hi _ _ hp)
 |sl b s n p hp=>exact .sl b s n p (hi _ _ hp)
 |mp b p hp=>exact .mp b p (hi _ _ hp)
 |bor b s n k h1 hk ho h0 hn=>exact .bor b s n k (hb b h1) hk ho h0 hn
theorem fO {b:Nat}: ∀{ids:List Nat},b∈ids→ids[cM b ids]? =some b
 |[],h=>by simp at h
 |x::r,h=>by
  simp only [cM]
  by_cases e:x=b
  ·rw [if_pos e];simp [e]
  ·rw [if_neg e]
   have:b∈r:=by
    rcases List.mem_cons.1 h with h1|h1
    ·exact absurd h1.symm e
    ·exact h1
   simpa using fO this
theorem lT {h:ah} {ids:List Nat} {b:Nat} {k:Blk} (hk:h b=some k):Ext h ids (bK ids b)∧(bK ids b)[cM b (bK ids b)]? =some b:=by
 unfold bK
 split
 ·rename_i hm;exact ⟨Ext.refl _ _,fO hm⟩
 ·rename_i hm
  refine ⟨⟨⟨[b],rfl⟩,fun hn=> ?_,fun b' hb'=> ?_⟩,fO (by simp)⟩
  ·rw [List.nodup_append]
   exact ⟨hn,by simp,fun x hx y hy=>by simp at hy;subst hy;intro e;exact hm (e▸hx)⟩
  ·rcases List.mem_append.1 hb' with h1|h1
   ·exact .inl h1
   ·simp at h1;subst h1;exact .inr ⟨k,hk⟩
theorem kQ {h:ah} {own:Bool} {ids ids' bs:List Nat} {v v':V} (hl:aU h own ids v=some (v',ids',bs)):Ext h ids ids'∧j8 h ids' bs v v'∧(own=true→bs=[])∧ ∀b∈bs, ∃k,h b=some k:=by
 cases v with
 |lit v=>simp [aU] at hl;obtain ⟨rfl,rfl,rfl⟩:=hl;exact ⟨Ext.refl _ _,.lit v,fun _=>rfl,fun b hb=>by simp at hb⟩
 |imm e r=>simp [aU] at hl;obtain ⟨rfl,rfl,rfl⟩:=hl;exact ⟨Ext.refl _ _,.imm e r,fun _=>rfl,fun b hb=>by simp at hb⟩
 |iptr r o=>simp [aU] at hl;obtain ⟨rfl,rfl,rfl⟩:=hl;exact ⟨Ext.refl _ _,.iptr r o,fun _=>rfl,fun b hb=>by simp at hb⟩
 |undef=>simp [aU] at hl;obtain ⟨rfl,rfl,rfl⟩:=hl;exact ⟨Ext.refl _ _,.undef,fun _=>rfl,fun b hb=>by simp at hb⟩
 |ptr b i o n=>
  simp only [aU] at hl
  split at hl
  ·rename_i k hk
   split at hl
   ·rename_i hn
    cases hl
    obtain ⟨h1,h2⟩:=lT (ids:=ids) hk
    exact ⟨h1,.ptr b i o n _ h2,fun _=>rfl,fun b hb=>by simp at hb⟩
   ·cases hl
  ·cases hl
 |mp b=>
  simp only [aU] at hl
  split at hl
  ·rename_i k hk
   cases hl
   obtain ⟨h1,h2⟩:=lT (ids:=ids) hk
   exact ⟨h1,.mp b _ h2,fun _=>rfl,fun b hb=>by simp at hb⟩
  ·cases hl
 |sl b s n=>
  simp only [aU] at hl
  split at hl
  ·rename_i k hk
   split at hl
   ·rename_i hn
    cases own with
    |true=>
     simp at hl
     obtain ⟨rfl,rfl,rfl⟩:=hl
     obtain ⟨h1,h2⟩:=lT (ids:=ids) hk
     exact ⟨h1,.sl b s n _ h2,fun _=>rfl,fun b hb=>by simp at hb⟩
    |false=>
     simp only [Bool.false_eq_true,if_false] at hl
     split at hl
     ·rename_i hc
      cases hl
      exact ⟨Ext.refl _ _,.bor b s n k (by simp) hk hc.1 hc.2 hn,fun h=>(by cases h),fun b' hb'=>by simp at hb';subst hb';exact ⟨k,hk⟩⟩
     ·cases hl
   ·cases hl
  ·cases hl
 |fn f cs=>
  cases cs with
  |nil=>simp [aU] at hl;obtain ⟨rfl,rfl,rfl⟩:=hl;exact ⟨Ext.refl _ _,.fn f,fun _=>rfl,fun b hb=>by simp at hb⟩
  |cons a b=>simp [aU] at hl
 |_=>simp [aU] at hl
theorem ez {h:ah} {own:Bool}: ∀{cs cs':List V} {ids ids' bs:List Nat},bm h own ids cs=some (cs',ids',bs)→
 Ext h ids ids'∧cs'.length=cs.length∧(∀(i:Nat) (v v':V),cs[i]? =some v→cs'[i]? =some v'→j8 h ids' bs v v')∧(own=true→bs=[])∧ ∀b∈bs, ∃k,h b=some k
 |[],cs',ids,ids',bs,hl=>by
  simp [bm] at hl
  obtain ⟨rfl,rfl,rfl⟩:=hl
  exact ⟨Ext.refl _ _,rfl,(fun i v v' h=>by simp at h),fun _=>rfl,fun b hb=>by simp at hb⟩
 |v::r,cs',ids,ids',bs,hl=>by
  simp only [bm] at hl
  split at hl
  ·rename_i v1 ids1 bs1 h1
   split at hl
   ·rename_i r2 ids2 bs2 h2
    cases hl
    obtain ⟨a1,a2,a3,a4⟩:=kQ h1
    obtain ⟨b1,b2,b3,b4,b5⟩:=ez h2
    refine ⟨a1.trans b1,by simp [b2],fun i u u' hu hu'=> ?_,fun ho=>by rw [a3 ho,b4 ho];rfl,fun b hb=> ?_⟩
    ·cases i with
     |zero=>simp at hu hu';subst hu;subst hu';exact a2.mono (fun p b hp=>b1.at hp) (fun b hb=>List.mem_append.2 (.inl hb))
     |succ i=>exact (b3 i u u' (by simpa using hu) (by simpa using hu')).mono (fun p b hp=>hp) (fun b hb=>List.mem_append.2 (.inr hb))
    ·rcases List.mem_append.1 hb with hb|hb
     ·exact a4 b hb
     ·exact b5 b hb
   ·cases hl
  ·cases hl
inductive j5 (h:ah) (ids bor:List Nat):V→V→Prop
 |cell (v v':V) (hv:j8 h ids bor v v'):j5 h ids bor v v'
 |agg (cs cs':List V) (hl:cs'.length=cs.length) (hc: ∀(i:Nat) (v v':V),cs[i]? =some v→cs'[i]? =some v'→j8 h ids bor v v'):j5 h ids bor (.agg cs) (.agg cs')
 |fn (f:FuncId) (cs cs':List V) (hl:cs'.length=cs.length) (hc: ∀(i:Nat) (v v':V),cs[i]? =some v→cs'[i]? =some v'→j8 h ids bor v v'):j5 h ids bor (.fn f cs) (.fn f cs')
theorem j5.mono {h:ah} {ids ids' bor bor':List Nat} {v v':V} (x:j5 h ids bor v v') (hi: ∀(p b:Nat),ids[p]? =some b→ids'[p]? =some b) (hb: ∀b∈bor,b∈bor'):j5 h ids' bor' v v':=by
 cases x with
 |cell v v' hv=>exact .cell _ _ (hv.mono hi hb)
 |agg cs cs' hl hc=>exact .agg cs cs' hl (fun i v v' h1 h2=>(hc i v v' h1 h2).mono hi hb)
 |fn f cs cs' hl hc=>exact .fn f cs cs' hl (fun i v v' h1 h2=>(hc i v v' h1 h2).mono hi hb)
theorem qr {h:ah} {own:Bool} {ids ids' bs:List Nat} {v v':V} (hl:bp h own ids v=some (v',ids',bs)):Ext h ids ids'∧j5 h ids' bs v v'∧ ∀b∈bs, ∃k,h b=some k:=by
 have other:aU h own ids v=some (v',ids',bs)→Ext h ids ids'∧j5 h ids' bs v v'∧ ∀b∈bs, ∃k,h b=some k:=fun h1=>by
  obtain ⟨a,b,c,d⟩:=kQ h1
  exact ⟨a,.cell _ _ b,d⟩
 cases v with
 |agg cs=>
  simp only [bp] at hl
  split at hl
  ·rename_i h1;cases hl
   obtain ⟨a,b,c,d,e⟩:=ez h1
   exact ⟨a,.agg _ _ b c,e⟩
  ·cases hl
 |fn f cs=>
  simp only [bp] at hl
  split at hl
  ·rename_i h1;cases hl
   obtain ⟨a,b,c,d,e⟩:=ez h1
   exact ⟨a,.fn f _ _ b c,e⟩
  ·cases hl
 |_=>exact other hl
theorem p5 {h:ah} {owns:List Nat}: ∀{vs vs':List V} {j:Nat} {ids ids' bs:List Nat},ct h owns j ids vs=some (vs',ids',bs)→
 Ext h ids ids'∧vs'.length=vs.length∧(∀(i:Nat) (v v':V),vs[i]? =some v→vs'[i]? =some v'→j5 h ids' bs v v')∧ ∀b∈bs, ∃k,h b=some k
 |[],vs',j,ids,ids',bs,hl=>by
  simp [ct] at hl
  obtain ⟨rfl,rfl,rfl⟩:=hl
  exact ⟨Ext.refl _ _,rfl,(fun i v v' h=>by simp at h),fun b hb=>by simp at hb⟩
 |v::r,vs',j,ids,ids',bs,hl=>by
  simp only [ct] at hl
  split at hl
  ·rename_i v1 ids1 bs1 h1
   split at hl
   ·rename_i r2 ids2 bs2 h2
    cases hl
    obtain ⟨a1,a2,a4⟩:=qr h1
    obtain ⟨b1,b2,b3,b5⟩:=p5 h2
    refine ⟨a1.trans b1,by simp [b2],fun i u u' hu hu'=> ?_,fun b hb=> ?_⟩
    ·cases i with
     |zero=>simp at hu hu';subst hu;subst hu';exact a2.mono (fun p b hp=>b1.at hp) (fun b hb=>List.mem_append.2 (.inl hb))
     |succ i=>exact (b3 i u u' (by simpa using hu) (by simpa using hu')).mono (fun p b hp=>hp) (fun b hb=>List.mem_append.2 (.inr hb))
    ·rcases List.mem_append.1 hb with hb|hb
     ·exact a4 b hb
     ·exact b5 b hb
   ·cases hl
  ·cases hl
theorem Ac {h:ah} {ids ids' bs:List Nat} {v v':V} (hl:bp h true ids v=some (v',ids',bs)):bs=[]:=by
 have other:aU h true ids v=some (v',ids',bs)→bs=[]:=fun h1=>(kQ h1).2.2.1 rfl
 cases v with
 |agg cs=>
  simp only [bp] at hl
  split at hl
  ·rename_i h1;cases hl;exact (ez h1).2.2.2.1 rfl
  ·cases hl
 |fn f cs=>
  simp only [bp] at hl
  split at hl
  ·rename_i h1;cases hl;exact (ez h1).2.2.2.1 rfl
  ·cases hl
 |_=>exact other hl
theorem sS {h:ah}: ∀{cs cs':List V} {ids ids':List Nat},fk h ids cs=some (cs',ids')→
 Ext h ids ids'∧cs'.length=cs.length∧ ∀(i:Nat) (v v':V),cs[i]? =some v→cs'[i]? =some v'→j5 h ids' [] v v'
 |[],cs',ids,ids',hl=>by
  simp [fk] at hl
  obtain ⟨rfl,rfl⟩:=hl
  exact ⟨Ext.refl _ _,rfl,fun i v v' h=>by simp at h⟩
 |v::r,cs',ids,ids',hl=>by
  simp only [fk] at hl
  split at hl
  ·rename_i v1 ids1 bs1 h1
   split at hl
   ·rename_i r2 ids2 h2
    cases hl
    obtain ⟨a1,a2,_⟩:=qr h1
    rw [Ac h1] at a2
    obtain ⟨b1,b2,b3⟩:=sS h2
    refine ⟨a1.trans b1,by simp [b2],fun i u u' hu hu'=> ?_⟩
    cases i with
    |zero=>simp at hu hu';subst hu;subst hu';exact a2.mono (fun p b hp=>b1.at hp) (fun b hb=>hb)
    |succ i=>exact b3 i u u' (by simpa using hu) (by simpa using hu')
   ·cases hl
  ·cases hl
theorem oK {h:ah}: ∀{rs rs':List (List V)} {ids ids':List Nat},dW h ids rs=some (rs',ids')→
 Ext h ids ids'∧rs'.length=rs.length∧ ∀(i:Nat) (row row':List V),rs[i]? =some row→rs'[i]? =some row'→row'.length=row.length∧ ∀(j:Nat) (v v':V),row[j]? =some v→row'[j]? =some v'→j5 h ids' [] v v'
 |[],rs',ids,ids',hl=>by
  simp [dW] at hl
  obtain ⟨rfl,rfl⟩:=hl
  exact ⟨Ext.refl _ _,rfl,fun i v v' h=>by simp at h⟩
 |x::r,rs',ids,ids',hl=>by
  simp only [dW] at hl
  split at hl
  ·rename_i x1 ids1 h1
   split at hl
   ·rename_i r2 ids2 h2
    cases hl
    obtain ⟨a1,a2,a3⟩:=sS h1
    obtain ⟨b1,b2,b3⟩:=oK h2
    refine ⟨a1.trans b1,by simp [b2],fun i u u' hu hu'=> ?_⟩
    cases i with
    |zero=>simp at hu hu';subst hu;subst hu';exact ⟨a2,fun j v v' h1 h2=>(a3 j v v' h1 h2).mono (fun p b hp=>b1.at hp) (fun b hb=>hb)⟩
    |succ i=>exact b3 i u u' (by simpa using hu) (by simpa using hu')
   ·cases hl
  ·cases hl
structure xE (h:ah) (ids bor:List Nat) (k k0:Blk):Prop where
 esz:k0.esz=k.esz
 op:k0.op=k.op
 len:k0.rows.length=k.rows.length
 same:k.op=false→k0=k
 row:k.op=true→ ∀(i:Nat) (row row':List V),k.rows[i]? =some row→k0.rows[i]? =some row'→row'.length=row.length∧ ∀(j:Nat) (v v':V),row[j]? =some v→row'[j]? =some v'→j5 h ids bor v v'
theorem xE.mono {h:ah} {ids ids' bor bor':List Nat} {k k0:Blk} (x:xE h ids bor k k0) (hi: ∀(p b:Nat),ids[p]? =some b→ids'[p]? =some b) (hb: ∀b∈bor,b∈bor'):xE h ids' bor' k k0:=
 ⟨x.esz,x.op,x.len,x.same,fun ho i row row' h1 h2=>⟨(x.row ho i row row' h1 h2).1,fun j v v' h3 h4=>((x.row ho i row row' h1 h2).2 j v v' h3 h4).mono hi hb⟩⟩
theorem kx {h:ah}: ∀{fuel pos:Nat} {ids ids':List Nat} {blks:List Blk},bz h fuel pos ids=some (blks,ids')→pos≤ids.length→
 Ext h ids ids'∧ids'.length=pos+blks.length∧ ∀(i b:Nat),ids'[pos+i]? =some b→ ∃k k0,h b=some k∧blks[i]? =some k0∧xE h ids' [] k k0
 |0,pos,ids,ids',blks,hl,hp=>by simp [bz] at hl
 |fuel+1,pos,ids,ids',blks,hl,hp=>by
  simp only [bz] at hl
  split at hl
  ·rename_i hn
   cases hl
   have:ids.length≤pos:=by simpa using hn
   exact ⟨Ext.refl _ _,by simp;omega,fun i b hb=>by have:=aS hb;omega⟩
  ·rename_i b0 hb0
   have hlt:=aS hb0
   split at hl
   ·cases hl
   ·rename_i k hk
    split at hl
    ·rename_i ho
     split at hl
     ·rename_i r ids1 h1
      cases hl
      obtain ⟨a1,a2,a3⟩:=kx h1 (by omega)
      refine ⟨a1,by simp [a2];omega,fun i b hb=> ?_⟩
      cases i with
      |zero=>
       have:=a1.at hb0
       simp only [Nat.add_zero] at hb
       rw [this] at hb;cases hb
       exact ⟨k,k,hk,by simp,⟨rfl,rfl,rfl,(fun _=>rfl),(fun h1=>by rw [ho] at h1;cases h1)⟩⟩
      |succ i=>simpa using a3 i b (by rw [←hb];congr 1;omega)
     ·cases hl
    ·rename_i ho
     have ho':k.op=true:=by cases hop:k.op with|true=>rfl|false=>exact absurd hop ho
     split at hl
     ·cases hl
     ·rename_i rows ids1 h1
      split at hl
      ·rename_i r ids2 h2
       cases hl
       obtain ⟨b1,b2,b3⟩:=oK h1
       have hlen:ids.length≤ids1.length:=by obtain ⟨⟨e,rfl⟩,_⟩:=b1;simp
       obtain ⟨a1,a2,a3⟩:=kx h2 (by omega)
       refine ⟨b1.trans a1,by simp [a2];omega,fun i b hb=> ?_⟩
       cases i with
       |zero=>
        have:=a1.at (b1.at hb0)
        simp only [Nat.add_zero] at hb
        rw [this] at hb;cases hb
        refine ⟨k,{ k with rows:=rows },hk,by simp,⟨rfl,rfl,b2,(fun h1=>by rw [ho'] at h1;cases h1),fun _ i row row' g1 g2=> ?_⟩⟩
        obtain ⟨c1,c2⟩:=b3 i row row' g1 g2
        exact ⟨c1,fun j v v' g3 g4=>(c2 j v v' g3 g4).mono (fun p b hp=>a1.at hp) (fun b hb=>hb)⟩
       |succ i=>simpa using a3 i b (by rw [←hb];congr 1;omega)
      ·cases hl
end Go.AI
set_option linter.unusedVariables false
set_option linter.unusedSimpArgs false
namespace Go.AI
section
variable {G:Frame} {μ μ':Mu} {h h':ah} {w w':World}
theorem pr (C: @Chg G μ h w μ' h' w'): @dx G μ w μ' w':= @Chg.ev G _ _ _ _ _ _ C
theorem ES (C: @Chg G μ h w μ' h' w'):w6 μ h w μ' h' w':= @Chg.refs G _ _ _ _ _ _ C
theorem Nn (C: @dx G μ w μ' w'):w'.os=w.os:= @dx.os G _ _ _ _ C
theorem zf (C: @dx G μ w μ' w'):w'.tape=w.tape:= @dx.tape G _ _ _ _ C
theorem Iv (C: @dx G μ w μ' w'):w'.output=w.output:= @dx.output G _ _ _ _ C
theorem B6 (C: @dx G μ w μ' w'):w.drawn≤w'.drawn:= @dx.drawn G _ _ _ _ C
theorem vj (C: @dx G μ w μ' w'):w.heap.size≤w'.heap.size:= @dx.size G _ _ _ _ C
theorem Ab (C: @dx G μ w μ' w'): ∀c,c<w.heap.size→ @en G μ c→w'.heap[c]? =w.heap[c]? ∧ @en G μ' c:= @dx.keep G _ _ _ _ C
theorem wo (C: @dx G μ w μ' w'): ∀c,G.fr c→w'.heap[c]? =w.heap[c]? := @dx.keepF G _ _ _ _ C
theorem NR (H: @al G μ h w): ∀b b' c,μ b=some c→μ b'=some c→b=b':= @al.inj G _ _ _ H
theorem OV (H: @al G μ h w): ∀b c,μ b=some c→ ∃k,h b=some k∧k.lies:= @al.dom G _ _ _ H
theorem Kk (H: @al G μ h w): ∀b k,h b=some k→ @Sp G μ h w b k:= @al.blk G _ _ _ H
theorem Bu (H: @al G μ h w): ∀b k,h b=some k→ ∀row∈k.rows,(0<k.esz→row.length=k.esz)∧ ∀v∈row,v.cell=true∧(k.op=false→v.cl=true):= @al.rows G _ _ _ H
theorem vW (H: @al G μ h w): ∀b c,μ b=some c→ ¬G.fr c:= @al.frame G _ _ _ H
theorem MP (H: @al G μ h w): ∀c,G.fr c→c<w.heap.size:= @al.frlt G _ _ _ H
theorem hLt (H: @al G μ h w) {b c:Nat} (hb:μ b=some c):c<w.heap.size:= @al.lt G _ _ _ H b c hb
end
theorem bh {α:Type} {l:List α} {i:Nat} (h:i<l.length): ∃x,l[i]? =some x:=⟨l[i],List.getElem?_eq_getElem h⟩
structure Way (h:ah) (ids bor:List Nat) (blks:List Blk):Prop where
 nd:ids.Nodup
 len:ids.length=blks.length
 at_: ∀(i b:Nat),ids[i]? =some b→ ∃k k0,h b=some k∧blks[i]? =some k0∧xE h ids bor k k0
 dis: ∀b∈bor,b∉ids
 has: ∀b∈bor, ∃k,h b=some k
@[reducible] def dV (F:Frame) (μ:Mu) (ids bor:List Nat):Frame:=⟨fun c=>F.fr c∨ ∃b,μ b=some c∧b∉ids∧b∉bor⟩
def dM (μ:Mu) (ids:List Nat):Mu:=fun i=>(ids[i]?).bind μ
section
variable {F:Frame} {μ:Mu} {h:ah} {w:World} {ids bor:List Nat} {blks:List Blk}
theorem jZ {i c:Nat} (hi:dM μ ids i=some c): ∃b,ids[i]? =some b∧μ b=some c:=by
 unfold dM at hi
 cases hb:ids[i]? with
 |none=>rw [hb] at hi;cases hi
 |some b=>rw [hb] at hi;exact ⟨b,rfl,hi⟩
theorem mY (W:Way h ids bor blks) {c:Nat} (h1: ¬F.fr c) (h2: ∀b,b∉bor→μ b≠some c): @en (dV F μ ids bor) (dM μ ids) c:=by
 refine ⟨fun i hi=> ?_,fun hf=> ?_⟩
 ·obtain ⟨b,hb,hm⟩:=jZ hi
  exact h2 b (fun hbor=>W.dis b hbor (List.mem_of_getElem? hb)) hm
 ·rcases hf with hf|⟨b,hb,_,hnb⟩
  ·exact h1 hf
  ·exact h2 b hnb hb
theorem oH (W:Way h ids bor blks) {v:V} {x:Value} (hv: @ag F μ h w v x) (hcl:v.cl=true): @ag (dV F μ ids bor) (dM μ ids) (an blks) w v x:=
 ag.move (F:=F) _ (fun c hc hs=>⟨hc,rfl,mY W hs.2 (fun b _=>hs.1 b)⟩) hv hcl
theorem uM (W:Way h ids bor blks) (H: @al F μ h w) {v v':V} {x:Value} (hl:j8 h ids bor v v') (hv: @ag F μ h w v x): @ag (dV F μ ids bor) (dM μ ids) (an blks) w v' x:=by
 cases hl with
 |lit y=>exact oH W hv rfl
 |imm e r=>exact oH W hv rfl
 |iptr r o=>exact oH W hv rfl
 |undef=>exact @ag.unk (dV F μ ids bor) (dM μ ids) (an blks) w x
 |fn f=>exact oH W hv rfl
 |ptr b i o n p hp=>
  cases hv with
  |ptr _ _ _ _ _ k hk hn' hx hpp hd=>
   obtain ⟨k1,k0,h1,h2,L⟩:=W.at_ p b hp
   rw [hk] at h1;cases h1
   refine @ag.ptr (dV F μ ids bor) (dM μ ids) (an blks) w p i o n x k0 h2 (by rw [L.len,L.esz];exact hn') hx (fun g1 g2 g3=> ?_) (fun g=>by rw [L.op];exact hd (by rw [←L.esz];exact g))
   rw [L.esz] at g1 ⊢
   obtain ⟨c,c1,c2⟩:=hpp g1 (by rw [←L.len];exact g2) g3
   exact ⟨c,by simp [dM,hp,c1],c2⟩
 |sl b s n p hp=>
  cases hv with
  |sl _ _ _ _ k hk hn' hx hpp=>
   obtain ⟨k1,k0,h1,h2,L⟩:=W.at_ p b hp
   rw [hk] at h1;cases h1
   refine @ag.sl (dV F μ ids bor) (dM μ ids) (an blks) w p s n x k0 h2 (by rw [L.len,L.esz];exact hn') hx (fun g1 g2=> ?_)
   rw [L.esz] at g1 ⊢
   obtain ⟨a,cap,c1,c2⟩:=hpp g1 (by rw [←L.len];exact g2)
   refine ⟨a,cap,c1, ?_⟩
   rcases c2 with c2|⟨c,d1,d2,d3,d4⟩
   ·exact .inl c2
   ·exact .inr ⟨c,by simp [dM,hp,d1],d2,d3,d4⟩
 |mp b p hp=>
  cases hv with
  |mp _ _ k hk hx hmm=>
   obtain ⟨k1,k0,h1,h2,L⟩:=W.at_ p b hp
   rw [hk] at h1;cases h1
   refine @ag.mp (dV F μ ids bor) (dM μ ids) (an blks) w p x k0 h2 hx (fun g1 g2=> ?_)
   rw [L.esz] at g1
   rw [L.op] at g2
   obtain ⟨c,c1,c2⟩:=hmm g1 g2
   exact ⟨c,by simp [dM,hp,c1],c2⟩
 |bor b s n k hb hk ho h0 hn=>
  have h1:= @oL μ h w F H b s n k x hk ho h0 hn hv (aG μ b none) h (by simp [aG]) (fun b' c hm=>by
   unfold aG at hm
   split at hm
   ·cases hm
   ·exact hm)
  refine ag.move (F:=F) _ (fun c hc hs=>⟨hc,rfl,mY W hs.2 (fun b' hb'=> ?_)⟩) h1 rfl
  have hne:b'≠b:=fun e=>hb' (e▸hb)
  have:=hs.1 b'
  simpa [aG,hne] using this
theorem j8.cellOf {v v':V} (hl:j8 h ids bor v v') (hc:v.cell=true):v'.cell=true:=by
 cases hl<;>first|exact hc|rfl
theorem vV (W:Way h ids bor blks) (H: @al F μ h w) {v v':V} {x:Value} (hl:j5 h ids bor v v') (hv: @ag F μ h w v x): @ag (dV F μ ids bor) (dM μ ids) (an blks) w v' x:=by
 cases hl with
 |cell _ _ hl=>exact uM W H hl hv
 |agg cs cs' hlen hcs=>
  cases hv with
  |agg _ xs hl hcell hc=>
   refine @ag.agg (dV F μ ids bor) (dM μ ids) (an blks) w cs' xs (by rw [hl,hlen]) (fun v hv=> ?_) (fun i v hi=> ?_)
   ·obtain ⟨i,hi,rfl⟩:=List.getElem_of_mem hv
    have h1:cs[i]? =some cs[i]:=List.getElem?_eq_getElem (by omega)
    exact (hcs i _ _ h1 (List.getElem?_eq_getElem hi)).cellOf (hcell _ (List.mem_of_getElem? h1))
   ·have hi':=aS hi
    have h1:cs[i]? =some cs[i]:=List.getElem?_eq_getElem (by omega)
    exact uM W H (hcs i _ _ h1 hi) (hc i _ h1)
 |fn f cs cs' hlen hcs=>
  cases hv with
  |fn _ _ xs hl hc=>
   refine @ag.fn (dV F μ ids bor) (dM μ ids) (an blks) w f cs' xs (by rw [hl,hlen]) (fun i v hi=> ?_)
   have hi':=aS hi
   have h1:cs[i]? =some cs[i]:=List.getElem?_eq_getElem (by omega)
   exact uM W H (hcs i _ _ h1 hi) (hc i _ h1)
theorem j5.cellOf {v v':V} (hl:j5 h ids bor v v') (hc:v.cell=true):v'.cell=true:=by
 cases hl with
 |cell _ _ h=>exact h.cellOf hc
 |agg=>simp [V.cell] at hc
 |fn=>rfl
theorem Way.back (W:Way h ids bor blks) {i:Nat} {k0:Blk} (hk:an blks i=some k0): ∃b k,ids[i]? =some b∧h b=some k∧xE h ids bor k k0:=by
 have hlt:=aS hk
 obtain ⟨b,hi⟩:=bh (l:=ids) (i:=i) (by rw [W.len];exact hlt)
 obtain ⟨k,k1,h1,h2,L⟩:=W.at_ i _ hi
 have:blks[i]? =some k0:=hk
 rw [h2] at this;cases this
 exact ⟨_,k,hi,h1,L⟩
theorem uH (W:Way h ids bor blks) (H: @al F μ h w): @al (dV F μ ids bor) (dM μ ids) (an blks) w:=by
 refine @al.mk (dV F μ ids bor) (dM μ ids) (an blks) w (fun i i' c h1 h2=> ?_) (fun i c h1=> ?_) (fun i k0 hk=> ?_) (fun i k0 hk=> ?_) (fun i c h1=> ?_) (fun c hc=> ?_)
 ·obtain ⟨b,hb,hm⟩:=jZ h1
  obtain ⟨b',hb',hm'⟩:=jZ h2
  have:= @al.inj F μ h w H _ _ _ hm hm'
  subst this
  exact (List.getElem?_inj (aS hb) W.nd).1 (by rw [hb,hb'])
 ·obtain ⟨b,hb,hm⟩:=jZ h1
  obtain ⟨k,k0,g1,g2,L⟩:=W.at_ i b hb
  obtain ⟨k',hk',h0⟩:= @al.dom F μ h w H b c hm
  rw [g1] at hk';cases hk'
  exact ⟨k0,g2,by unfold Blk.lies;rw [L.esz,L.op];exact h0⟩
 ·obtain ⟨b,k,hb,hkb,L⟩:=W.back hk
  rcases @al.blk F μ h w H b k hkb with ⟨g1,g2,g3⟩|⟨g0,c,arr,t,lo,hi,gm,gh,gf,gl,gv⟩|⟨g0,go,c,gm,gb⟩
  ·left
   rw [L.same g2]
   exact ⟨g1,g2,by simp [dM,hb,g3]⟩
  rotate_left
  ·right;right
   refine ⟨by rw [L.esz];exact g0,by rw [L.op];exact go,c,by simp [dM,hb,gm], ?_⟩
   have:k0.rows=k.rows:=by
    refine List.ext_getElem L.len (fun i2 h1 h2=> ?_)
    have e1:k0.rows[i2]? =some k0.rows[i2]:=List.getElem?_eq_getElem h1
    have e2:k.rows[i2]? =some k.rows[i2]:=List.getElem?_eq_getElem h2
    obtain ⟨r1,r2⟩:=L.row go i2 _ _ e2 e1
    refine List.ext_getElem r1 (fun j h3 h4=> ?_)
    have h5:=r2 j _ _ (List.getElem?_eq_getElem h4) (List.getElem?_eq_getElem h3)
    obtain ⟨n,hn⟩:=gb.lit (List.getElem_mem h2) (List.getElem_mem h4)
    rw [hn] at h5
    cases h5 with
    |cell _ _ h6=>generalize k0.rows[i2][j]=u at h6;cases h6;exact hn.symm
   rw [this];exact gb
  ·right;left
   refine ⟨by rw [L.esz];exact g0,c,arr,t,lo,hi,by simp [dM,hb,gm],gh,gf,by rw [L.len,L.esz];exact gl,fun i2 row' j v' h1 h2=> ?_⟩
   rw [L.esz]
   cases hop:k.op with
   |false=>
    rw [L.same hop] at h1
    exact oH W (gv i2 row' j v' h1 h2) ((@al.rows F μ h w H b k hkb row' (List.mem_of_getElem? h1)).2 v' (List.mem_of_getElem? h2)|>.2 hop)
   |true=>
    obtain ⟨row,h3⟩:=bh (l:=k.rows) (i:=i2) (by rw [←L.len];exact aS h1)
    obtain ⟨r1,r2⟩:=L.row hop i2 _ _ h3 h1
    obtain ⟨v,h4⟩:=bh (l:=row) (i:=j) (by rw [←r1];exact aS h2)
    exact vV W H (r2 j _ _ h4 h2) (gv i2 row j v h3 h4)
 ·obtain ⟨b,k,hb,hkb,L⟩:=W.back hk
  intro row' hrow
  obtain ⟨i2,hi2,rfl⟩:=List.getElem_of_mem hrow
  have h1:k0.rows[i2]? =some k0.rows[i2]:=List.getElem?_eq_getElem hi2
  cases hop:k.op with
  |false=>
   have:=L.same hop
   subst this
   have hr:= @al.rows F μ h w H b k0 hkb _ (List.mem_of_getElem? h1)
   exact ⟨hr.1,fun v hv=>⟨(hr.2 v hv).1,fun _=>(hr.2 v hv).2 hop⟩⟩
  |true=>
   obtain ⟨row,h3⟩:=bh (l:=k.rows) (i:=i2) (by rw [←L.len];exact hi2)
   obtain ⟨r1,r2⟩:=L.row hop i2 _ _ h3 h1
   have hr:= @al.rows F μ h w H b k hkb _ (List.mem_of_getElem? h3)
   refine ⟨fun h0=>by rw [L.esz] at h0;rw [r1,hr.1 h0,L.esz],fun v hv=> ?_⟩
   obtain ⟨j,hj,rfl⟩:=List.getElem_of_mem hv
   obtain ⟨v,h4⟩:=bh (l:=row) (i:=j) (by omega)
   refine ⟨(r2 j _ _ h4 (List.getElem?_eq_getElem hj)).cellOf (hr.2 _ (List.mem_of_getElem? h4)).1,fun h5=> ?_⟩
   rw [L.op,hop] at h5;cases h5
 ·obtain ⟨b,hb,hm⟩:=jZ h1
  intro hf
  rcases hf with hf|⟨b',hb',hn,_⟩
  ·exact @al.frame F μ h w H b c hm hf
  ·have:= @al.inj F μ h w H _ _ _ hm hb'
   subst this
   exact hn (List.mem_of_getElem? hb)
 ·rcases hc with hf|⟨b,hb,_⟩
  ·exact @al.frlt F μ h w H c hf
  ·exact @al.lt F μ h w H b c hb
theorem F0 {owns:FuncId→List Nat} {f:FuncId} {args args':List V} (hp:bo owns h f args=some (args',blks,ids,bor)):
 Way h ids bor blks∧args'.length=args.length∧ ∀(i:Nat) (v v':V),args[i]? =some v→args'[i]? =some v'→j5 h ids bor v v':=by
 unfold bo at hp
 split at hp
 ·cases hp
 ·rename_i a1 ids0 bor1 h1
  split at hp
  ·cases hp
  ·rename_i bl ids1 h2
   split at hp
   ·cases hp
   ·rename_i hany
    cases hp
    obtain ⟨x1,x2,x3,x4⟩:=p5 h1
    obtain ⟨y1,y2,y3⟩:=kx h2 (Nat.zero_le _)
    refine ⟨⟨y1.2.1 (x1.2.1 List.nodup_nil),by rw [y2];omega,(fun i b hb=>by obtain ⟨k,k0,g1,g2,g3⟩:=y3 i b (by simpa using hb);exact ⟨k,k0,g1,g2,g3.mono (fun p b hp=>hp) (fun b hb=>by simp at hb)⟩),fun b hb hm=>hany ?_,x4⟩,x2,fun i v v' g1 g2=>(x3 i v v' g1 g2).mono (fun p b hp=>y1.at hp) (fun b hb=>hb)⟩
    rw [List.any_eq_true]
    exact ⟨b,hb,by simpa using hm⟩
end
end Go.AI
