/- Each operation of the abstract machine's other than a call is sound. -/
import Derived.Test.YtdnkignjanfikaaGreatAiOps9
import Derived.Test.YtdnkignjanfikaaGreatAiOps7N
import Derived.Test.YtdnkignjanfikaaGreatAiMap
set_option linter.unusedVariables false
set_option linter.unusedSimpArgs false
namespace Go.AI
section
def mX:AOp->Bool
 | .call .. | .dyn .. =>true
 |_=>false
section
variable {P:Program} {μ:Mu} {h:aZ} {w:World} {f:Nat->V} {a:Act}
theorem sI {α β:Type} {x:Option α} {g:α->β} {y:β} (h:x.map g=some y): ∃z,x=some z/\y=g z:=by
 cases x with
 |none=>cases h
 |some z=>cases h;exact ⟨z,rfl,rfl⟩
theorem Hk {l:List Operand} {x' y':Opd} (h:lD l=some [x',y']): ∃x y,l=[x,y]/\bC x=some x'/\bC y=some y':=by
 match l with
 |[]=>simp [lD] at h
 |[x]=>
  simp only [lD] at h
  split at h
  ·cases h;rename_i h2;cases h2
  ·cases h
 |[x,y]=>
  simp only [lD] at h
  split at h
  ·rename_i a b h1 h2
   cases h
   split at h2
   ·rename_i c d h3 h4;cases h2;exact ⟨x,y,rfl,h1,h3⟩
   ·cases h2
  ·cases h
 |x::y::z::r=>
  simp only [lD] at h
  split at h
  ·rename_i a b h1 h2
   cases h
   split at h2
   ·rename_i c d h3 h4
    cases h2
    split at h4
    ·cases h4
    ·cases h4
   ·cases h2
  ·cases h
theorem a9q {l:List Operand} {x':Opd} (h:lD l=some [x']): ∃x,l=[x]/\bC x=some x':=by
 match l with
 |[]=>simp [lD] at h
 |[x]=>
  simp only [lD] at h
  split at h
  ·cases h;rename_i a b h1 h2;exact ⟨x,rfl,h1⟩
  ·cases h
 |x::y::r=>
  simp only [lD] at h
  split at h
  ·rename_i a b h1 h2
   cases h
   split at h2
   ·cases h2
   ·cases h2
  ·cases h
theorem a7f [Frame] (H:bD μ h w) (E:gj μ h w f a) {C:cg} {ow:FuncId->List Nat} {o:Oper} {c:Call} {ao:AOp} (hop:o.op= .call c) (hc:dW P (.call c)=some ao) (hn:mX ao=false) {new:Nat} {v:V} {u:Upd}
 (hs:aN C ow ao (Opd.ev f) h new=some (v,u)):iC P o a μ h w v u:=by
 simp only [dW] at hc
 split at hc
 ·cases hc;simp [mX] at hn
 ·split at hc
  ·cases hc;simp [mX] at hn
  ·cases hc
 ·rename_i x' hca hargs
  obtain ⟨x,hl,hx⟩:=a9q hargs
  split at hc
  ·rename_i t ht
   split at hc
   ·rename_i hu;cases hc;exact b4W H E hop hca hl hx ht hu hs
   ·rename_i hu;cases hc;exact b5d H E hop hca hl hx ht hu hs
   ·rename_i hu;cases hc;exact a6R H E hop hca hl hx ht hu hs
   ·cases hc
  ·cases hc
 ·rename_i x' y' hca hargs
  obtain ⟨x,y,hl,hx,hy⟩:=Hk hargs
  split at hc
  ·rename_i t u' ht hu'
   split at hc
   ·rename_i e d he hd
    split at hc
    ·rename_i i z hi hz
     split at hc
     ·cases hc
      exact a3e H E hop hca hl hx hy ht hu' hd (rB he) hi hz hs
     ·rename_i hnd
      cases hc
      exact a6q H E hop hca hl hx hy ht hu' hd (fun k hk=>hnd k hk) (rB he) hi hz hs
    ·cases hc
   ·cases hc
  ·cases hc
 ·rename_i x' y' hca hargs
  obtain ⟨x,y,hl,hx,hy⟩:=Hk hargs
  split at hc
  ·rename_i t ht
   split at hc
   ·rename_i e he
    split at hc
    ·rename_i s hsz
     cases hc
     exact b2Z H E hop hca hl hx hy ht (rB he) hsz hs
    ·cases hc
   ·cases hc
  ·cases hc
 ·rename_i x' y' hca hargs
  obtain ⟨x,y,hl,hx,hy⟩:=Hk hargs
  cases hc
  exact b4z H E hop hca hl hx hy hs
 ·rename_i x' y' hca hargs
  obtain ⟨x,y,hl,hx,hy⟩:=Hk hargs
  cases hc
  exact b2w H E hop hca hl hx hy hs
 ·cases hc
theorem b4p [Frame] (H:bD μ h w) (E:gj μ h w f a) {C:cg} {ow:FuncId->List Nat} {o:Oper} {ao:AOp} (hc:dW P o.op=some ao) (hn:mX ao=false) {new:Nat} {v:V} {u:Upd}
 (hs:aN C ow ao (Opd.ev f) h new=some (v,u)):iC P o a μ h w v u:=by
 generalize hop:o.op=op at hc
 cases op with
 |move x=>
  simp only [dW] at hc
  obtain ⟨x',hx,rfl⟩:=sI hc
  simp only [aN] at hs;cases hs
  exact b57 H E (.inl hop) hx
 |assign x=>
  simp only [dW] at hc
  obtain ⟨x',hx,rfl⟩:=sI hc
  simp only [aN] at hs;cases hs
  exact b57 H E (.inr hop) hx
 |pick c x y=>
  simp only [dW] at hc
  split at hc
  ·rename_i h1 h2 h3;cases hc;exact b2u H E hop h1 h2 h3 hs
  ·cases hc
 |alloc t=>
  simp only [dW] at hc
  obtain ⟨z,hz,rfl⟩:=sI hc
  simp only [aN] at hs
  exact b0q H hop hz hs
 |box t x=>
  simp only [dW] at hc
  split at hc
  ·rename_i h1 h2;cases hc;simp only [aN] at hs;exact b7z H E hop h2 hs
  ·cases hc
 |build t ps=>exact b1E H E hop hc hs
 |buildSlice t len ps=>
  simp only [dW] at hc
  split at hc
  ·rename_i e he
   split at hc
   ·rename_i h1 h2 h3
    split at hc
    ·split at hc
     ·cases hc;simp only [aN] at hs;exact Zs H E hop (rB he) h1 h2 h3 hs
     ·cases hc;exact GW H E hop (rB he) h1 h2 h3 hs
    ·cases hc;exact GW H E hop (rB he) h1 h2 h3 hs
   ·cases hc
  ·cases hc
 |load t x=>
  simp only [dW] at hc
  split at hc
  ·rename_i h1 h2
   cases hc
   simp only [aN] at hs
   split at hs
   ·rename_i hr;cases hs;exact b6i H E hop h2 h1 hr
   ·cases hs
  ·cases hc
 |store t x y=>
  simp only [dW] at hc
  split at hc
  ·rename_i h1 h2 h3;cases hc;exact Xl H E hop h2 h3 h1 hs
  ·cases hc
 |nilCheck x=>
  simp only [dW] at hc
  obtain ⟨x',hx,rfl⟩:=sI hc
  exact Yr H E hop hx hs
 |binOp op t x y ty=>
  simp only [dW] at hc
  split at hc
  ·rename_i h1 h2
   split at hc
   ·rename_i fs hu
    split at hc
    ·rename_i hg
     simp only [aC,ic] at hg
     split at hc
     ·rename_i hk;cases hc;exact XJ H E hop h1 h2 hu hg.1 hg.2 hk rfl hs
     ·rename_i hk;cases hc;exact XJ H E hop h1 h2 hu hg.1 hg.2 hk rfl hs
     ·cases hc
    ·cases hc
   ·rename_i hu
    split at hc
    ·cases hc;exact a87 H E hop h1 h2 hu rfl hs
    ·cases hc;exact a87 H E hop h1 h2 hu rfl hs
    ·cases hc
   ·cases hc;exact a8o H E hop h1 h2 hs
   ·cases hc;exact a8o H E hop h1 h2 hs
   ·rename_i hu
    split at hc
    ·cases hc;exact Xf H E hop h1 h2 hu rfl hs
    ·cases hc;exact Xf H E hop h1 h2 hu rfl hs
    ·cases hc
   ·cases hc
  ·cases hc
 |unOp op t x=>
  simp only [dW] at hc
  obtain ⟨x',hx,rfl⟩:=sI hc
  exact c2G H E hop hx hs
 |convert s d x=>
  simp only [dW] at hc
  split at hc
  ·rename_i h1 h2 h3;cases hc;exact b2b H E hop h3 h1 h2 hs
  ·rename_i h1 h2 h3;cases hc;exact b42 H E hop h3 h1 h2 hs
  ·rename_i h1 h2 h3
   split at hc
   ·rename_i h4;cases hc;exact a4g H E hop h3 h1 h2 h4 hs
   ·cases hc
  ·rename_i h1 h2 h3
   split at hc
   ·rename_i h4 h5;cases hc;exact b1W H E hop h3 h1 h2 h4 hs
   ·cases hc
  ·rename_i h1 h2 h3
   split at hc
   ·rename_i h4
    split at hc
    ·rename_i h5;cases hc;exact Zd H E hop h3 h1 h2 h4 h5 hs
    ·cases hc
   ·cases hc
  ·cases hc
 |sliceToArrayPointer t x=>
  simp only [dW] at hc
  split at hc
  ·rename_i h1 h2;cases hc;exact b0k H E hop h2 h1 hs
  ·cases hc
 |makeFunc c fst caps=>
  cases c with
  |func g=>
   simp only [dW] at hc
   split at hc
   ·rename_i h1 h2;cases hc;exact a0T H E hop h1 h2 hs
   ·cases hc
  |_=>simp [dW] at hc
 |makeSlice t l c=>
  simp only [dW] at hc
  split at hc
  ·rename_i e he
   split at hc
   ·rename_i h1 h2 h3 h4;cases hc;exact Ws H E hop h3 h4 (rB he) h1 h2 hs
   ·cases hc
  ·cases hc
 |slice t x lo hi mx=>
  simp only [dW] at hc
  split at hc
  ·rename_i h1 h2 h3 h4 h5
   cases hc
   cases mx with
   |none=>exact Yf H E hop h2 h3 h4 h1 hs
   |some m=>
    simp only [pI] at h5
    split at h5
    ·cases h5
    ·cases h5
  ·rename_i h1 h2 h3 h4 h5
   split at hc
   ·rename_i hsz;cases hc;exact b0f H E hop h2 h3 h4 h5 h1 hsz hs
   ·cases hc
  ·cases hc
 |fieldAddr t x n=>
  simp only [dW] at hc
  split at hc
  ·rename_i h1 h2
   split at hc
   ·rename_i fd hf
    split at hc
    ·rename_i hsz;cases hc;exact b8N H E hop h2 h1 hf hsz hs
    ·cases hc
   ·cases hc
  ·cases hc
 |field t x n=>
  simp only [dW] at hc
  split at hc
  ·rename_i h1 h2
   split at hc
   ·rename_i fd hf
    split at hc
    ·rename_i hg;cases hc;exact a94 H E hop h2 h1 hf hg hs
    ·cases hc
   ·cases hc
  ·cases hc
 |indexAddr t x i=>
  simp only [dW] at hc
  split at hc
  ·rename_i h1 h2 h3
   split at hc
   ·rename_i hsz;cases hc;exact b9I H E hop h2 h3 h1 hsz hs
   ·cases hc
  ·rename_i h1 h2 h3
   split at hc
   ·rename_i hsz;cases hc;exact a5X H E hop h2 h3 h1 hsz hs
   ·cases hc
  ·cases hc
 |index t x i=>
  simp only [dW] at hc
  split at hc
  ·rename_i h1 h2 h3;cases hc;exact b1g H E hop h2 h3 h1 hs
  ·rename_i h1 h2 h3
   split at hc
   ·rename_i hsz hg;cases hc;exact a9Q H E hop h2 h3 h1 hsz hg hs
   ·cases hc
  ·cases hc
 |makeMap t r=>
  simp only [dW] at hc
  split at hc
  ·split at hc
   ·cases hc;exact b0g H hop hs
   ·cases hc
  ·cases hc
 |lookup t m k ok=>
  simp only [dW] at hc
  split at hc
  ·rename_i h1 h2
   split at hc
   ·rename_i hg;cases hc;obtain ⟨hg,rfl⟩:=hg;exact a6I H E hop h1 h2 hg hs
   ·cases hc
  ·cases hc
 |mapUpdate t m k x=>
  simp only [dW] at hc
  split at hc
  ·rename_i h1 h2 h3
   split at hc
   ·rename_i hg;cases hc;exact a7t H E hop h1 h2 h3 hg hs
   ·cases hc
  ·cases hc
 |mapEntry t m k=>
  simp only [dW] at hc
  split at hc
  ·rename_i h1 h2
   split at hc
   ·rename_i hg;cases hc;exact a7A H E hop h1 h2 hg hs
   ·cases hc
  ·cases hc
 |entryStore t m k x=>
  simp only [dW] at hc
  split at hc
  ·rename_i h1 h2 h3;cases hc;exact a6P H E hop h1 h2 h3 hs
  ·cases hc
 |extract x i=>
  simp only [dW] at hc
  split at hc
  ·rename_i hx;cases hc;exact b7Q H E hop hx hs
  ·cases hc
 |call c=>exact a7f H E hop hc hn hs
 |_=>simp [dW] at hc
end
end
section
theorem dw {α:Type} {l:List α} {i:Nat} {x:α} (h:l[i]? =some x):i<l.length:=by
 rcases cA i l.length with h1|h1
 ·exact h1
 ·rw [bF h1] at h;cases h
def bL (blks:List Blk):aZ:=fun i=>blks[i]?
theorem aX.move {F F':Frame} {μ μ':Mu} {h:aZ} (h':aZ) {w w':World}
 (hst: ∀c,c<w.heap.size-> @pS F μ c->c<w'.heap.size/\w'.heap[c]? =w.heap[c]? /\ @pS F' μ' c) {v:V} {x:Value} (hv: @aX F μ h w v x) (hcl:v.cl=true): @aX F' μ' h' w' v x:=by
 induction hv with
 |lit v=>exact @aX.lit F' μ' h' w' v
 |agg cs xs hl hcell hc ih=>simp [V.cl] at hcl
 |tup vs xs hl hc ih=>simp [V.cl] at hcl
 |ptr b i o n x k hk hn hx hp=>simp [V.cl] at hcl
 |mp b x k hk hx hp=>simp [V.cl] at hcl
 |sl b s n x k hk hn hx hp=>simp [V.cl] at hcl
 |emp a=>exact @aX.emp F' μ' h' w' a
 |imm0 e a cap he=>exact @aX.imm0 F' μ' h' w' e a cap he
 |imm e rows c off cap ys he hr hcap hc hs hrow hcell hv ih=>
  obtain ⟨h0,h1,h2⟩:=hst c hc hs
  exact @aX.imm F' μ' h' w' e rows c off cap ys he hr hcap h0 h2 hrow (fun i j hi hj=>by rw [uf h1];exact hcell i j hi hj)
   (fun i row j v hi hj=>ih i row j v hi hj ((hrow row (an hi)).2 v (an hj)).1)
 |iptr row o c off ys hc hs hrow hcell hv ih=>
  obtain ⟨h0,h1,h2⟩:=hst c hc hs
  exact @aX.iptr F' μ' h' w' row o c off ys h0 h2 hrow (fun j hj=>by rw [uf h1];exact hcell j hj) (fun j v hj=>ih j v hj (hrow v (an hj)).1)
 |fn f caps xs hl hc ih=>
  cases caps with
  |nil=>exact @aX.fn F' μ' h' w' f [] xs hl (fun i v h=>by simp at h)
  |cons a b=>simp [V.cl] at hcl
 |unk x=>simp [V.cl] at hcl
inductive zL (h:aZ) (ids bor:List Nat):V->V->Prop
 |lit (v:Value):zL h ids bor (.lit v) (.lit v)
 |imm (e:Nat) (r:List (List V)):zL h ids bor (.imm e r) (.imm e r)
 |iptr (r:List V) (o:Nat):zL h ids bor (.iptr r o) (.iptr r o)
 |undef:zL h ids bor .undef .undef
 |fn (f:FuncId):zL h ids bor (.fn f []) (.fn f [])
 |ptr (b i o n p:Nat) (hp:ids[p]? =some b):zL h ids bor (.ptr b i o n) (.ptr p i o n)
 |sl (b s n p:Nat) (hp:ids[p]? =some b):zL h ids bor (.sl b s n) (.sl p s n)
 |mp (b p:Nat) (hp:ids[p]? =some b):zL h ids bor (.mp b) (.mp p)
 |bor (b s n:Nat) (k:Blk) (hb:b∈bor) (hk:h b=some k) (ho:k.op=false) (h0:0<k.esz) (hn:s+n=k.rows.length):zL h ids bor (.sl b s n) (.imm k.esz (k.rows.drop s))
def Ext (h:aZ) (ids ids':List Nat):Prop:=(∃e,ids'=ids++e)/\(ids.Nodup->ids'.Nodup)/\ ∀b∈ids',b∈ids\/ ∃k,h b=some k
theorem Ext.refl (h:aZ) (ids:List Nat):Ext h ids ids:=⟨⟨[],by simp⟩,id,fun b hb=> .inl hb⟩
theorem Ext.trans {h:aZ} {a b c:List Nat} (x:Ext h a b) (y:Ext h b c):Ext h a c:=by
 obtain ⟨⟨e,rfl⟩,n1,m1⟩:=x
 obtain ⟨⟨e',rfl⟩,n2,m2⟩:=y
 exact ⟨⟨e++e',by simp⟩,fun hn=>n2 (n1 hn),fun b hb=>(m2 b hb).elim (fun h1=>m1 b h1) .inr⟩
theorem Ext.at {h:aZ} {a b:List Nat} (x:Ext h a b) {p i:Nat} (hp:a[p]? =some i):b[p]? =some i:=by
 obtain ⟨⟨e,rfl⟩,_⟩:=x
 rw [bI (dw hp)];exact hp
theorem zL.mono {h:aZ} {ids ids' bor bor':List Nat} {v v':V} (x:zL h ids bor v v') (hi: ∀(p b:Nat),ids[p]? =some b->ids'[p]? =some b) (hb: ∀b∈bor,b∈bor'):zL h ids' bor' v v':=by
 cases x with
 |lit v=>exact .lit v
 |imm e r=>exact .imm e r
 |iptr r o=>exact .iptr r o
 |undef=>exact .undef
 |fn f=>exact .fn f
 |ptr b i o n p hp=>exact .ptr b i o n p (hi _ _ hp)
 |sl b s n p hp=>exact .sl b s n p (hi _ _ hp)
 |mp b p hp=>exact .mp b p (hi _ _ hp)
 |bor b s n k h1 hk ho h0 hn=>exact .bor b s n k (hb b h1) hk ho h0 hn
theorem sE {b:Nat}: ∀{ids:List Nat},b∈ids->ids[kV b ids]? =some b
 |[],h=>by simp at h
 |x::r,h=>by
  simp only [kV]
  by_cases e:x=b
  ·rw [ae e];simp [e]
  ·rw [aa e]
   have:b∈r:=by
    rcases bc.1 h with h1|h1
    ·exact absurd h1.symm e
    ·exact h1
   simpa using sE this
theorem Gp {h:aZ} {ids:List Nat} {b:Nat} {k:Blk} (hk:h b=some k):Ext h ids (gx ids b)/\(gx ids b)[kV b (gx ids b)]? =some b:=by
 unfold gx
 split
 ·rename_i hm;exact ⟨Ext.refl _ _,sE hm⟩
 ·rename_i hm
  refine ⟨⟨⟨[b],rfl⟩,fun hn=> ?_,fun b' hb'=> ?_⟩,sE (by simp)⟩
  ·rw [jV]
   exact ⟨hn,by simp,fun x hx y hy=>by simp at hy;subst hy;intro e;exact hm (e▸hx)⟩
  ·rcases aW.1 hb' with h1|h1
   ·exact .inl h1
   ·simp at h1;subst h1;exact .inr ⟨k,hk⟩
theorem D1 {h:aZ} {own:Bool} {ids ids' bs:List Nat} {v v':V} (hl:dZ h own ids v=some (v',ids',bs)):Ext h ids ids'/\zL h ids' bs v v'/\(own=true->bs=[])/\ ∀b∈bs, ∃k,h b=some k:=by
 cases v with
 |lit v=>simp [dZ] at hl;obtain ⟨rfl,rfl,rfl⟩:=hl;exact ⟨Ext.refl _ _,.lit v,fun _=>rfl,fun b hb=>by simp at hb⟩
 |imm e r=>simp [dZ] at hl;obtain ⟨rfl,rfl,rfl⟩:=hl;exact ⟨Ext.refl _ _,.imm e r,fun _=>rfl,fun b hb=>by simp at hb⟩
 |iptr r o=>simp [dZ] at hl;obtain ⟨rfl,rfl,rfl⟩:=hl;exact ⟨Ext.refl _ _,.iptr r o,fun _=>rfl,fun b hb=>by simp at hb⟩
 |undef=>simp [dZ] at hl;obtain ⟨rfl,rfl,rfl⟩:=hl;exact ⟨Ext.refl _ _,.undef,fun _=>rfl,fun b hb=>by simp at hb⟩
 |ptr b i o n=>
  simp only [dZ] at hl
  split at hl
  ·rename_i k hk
   split at hl
   ·rename_i hn
    cases hl
    obtain ⟨h1,h2⟩:=Gp (ids:=ids) hk
    exact ⟨h1,.ptr b i o n _ h2,fun _=>rfl,fun b hb=>by simp at hb⟩
   ·cases hl
  ·cases hl
 |mp b=>
  simp only [dZ] at hl
  split at hl
  ·rename_i k hk
   cases hl
   obtain ⟨h1,h2⟩:=Gp (ids:=ids) hk
   exact ⟨h1,.mp b _ h2,fun _=>rfl,fun b hb=>by simp at hb⟩
  ·cases hl
 |sl b s n=>
  simp only [dZ] at hl
  split at hl
  ·rename_i k hk
   split at hl
   ·rename_i hn
    cases own with
    |true=>
     simp at hl
     obtain ⟨rfl,rfl,rfl⟩:=hl
     obtain ⟨h1,h2⟩:=Gp (ids:=ids) hk
     exact ⟨h1,.sl b s n _ h2,fun _=>rfl,fun b hb=>by simp at hb⟩
    |false=>
     simp only [bA,if_false] at hl
     split at hl
     ·rename_i hc
      cases hl
      exact ⟨Ext.refl _ _,.bor b s n k (by simp) hk hc.1 hc.2 hn,fun h=>(by cases h),fun b' hb'=>by simp at hb';subst hb';exact ⟨k,hk⟩⟩
     ·cases hl
   ·cases hl
  ·cases hl
 |fn f cs=>
  cases cs with
  |nil=>simp [dZ] at hl;obtain ⟨rfl,rfl,rfl⟩:=hl;exact ⟨Ext.refl _ _,.fn f,fun _=>rfl,fun b hb=>by simp at hb⟩
  |cons a b=>simp [dZ] at hl
 |_=>simp [dZ] at hl
theorem pT {h:aZ} {own:Bool}: ∀{cs cs':List V} {ids ids' bs:List Nat},eP h own ids cs=some (cs',ids',bs)->
 Ext h ids ids'/\cs'.length=cs.length/\(∀(i:Nat) (v v':V),cs[i]? =some v->cs'[i]? =some v'->zL h ids' bs v v')/\(own=true->bs=[])/\ ∀b∈bs, ∃k,h b=some k
 |[],cs',ids,ids',bs,hl=>by
  simp [eP] at hl
  obtain ⟨rfl,rfl,rfl⟩:=hl
  exact ⟨Ext.refl _ _,rfl,(fun i v v' h=>by simp at h),fun _=>rfl,fun b hb=>by simp at hb⟩
 |v::r,cs',ids,ids',bs,hl=>by
  simp only [eP] at hl
  split at hl
  ·rename_i v1 ids1 bs1 h1
   split at hl
   ·rename_i r2 ids2 bs2 h2
    cases hl
    obtain ⟨a1,a2,a3,a4⟩:=D1 h1
    obtain ⟨b1,b2,b3,b4,b5⟩:=pT h2
    refine ⟨a1.trans b1,by simp [b2],fun i u u' hu hu'=> ?_,fun ho=>by rw [a3 ho,b4 ho];rfl,fun b hb=> ?_⟩
    ·cases i with
     |zero=>simp at hu hu';subst hu;subst hu';exact a2.mono (fun p b hp=>b1.at hp) (fun b hb=>aW.2 (.inl hb))
     |succ i=>exact (b3 i u u' (by simpa using hu) (by simpa using hu')).mono (fun p b hp=>hp) (fun b hb=>aW.2 (.inr hb))
    ·rcases aW.1 hb with hb|hb
     ·exact a4 b hb
     ·exact b5 b hb
   ·cases hl
  ·cases hl
inductive yK (h:aZ) (ids bor:List Nat):V->V->Prop
 |cell (v v':V) (hv:zL h ids bor v v'):yK h ids bor v v'
 |agg (cs cs':List V) (hl:cs'.length=cs.length) (hc: ∀(i:Nat) (v v':V),cs[i]? =some v->cs'[i]? =some v'->zL h ids bor v v'):yK h ids bor (.agg cs) (.agg cs')
 |fn (f:FuncId) (cs cs':List V) (hl:cs'.length=cs.length) (hc: ∀(i:Nat) (v v':V),cs[i]? =some v->cs'[i]? =some v'->zL h ids bor v v'):yK h ids bor (.fn f cs) (.fn f cs')
theorem yK.mono {h:aZ} {ids ids' bor bor':List Nat} {v v':V} (x:yK h ids bor v v') (hi: ∀(p b:Nat),ids[p]? =some b->ids'[p]? =some b) (hb: ∀b∈bor,b∈bor'):yK h ids' bor' v v':=by
 cases x with
 |cell v v' hv=>exact .cell _ _ (hv.mono hi hb)
 |agg cs cs' hl hc=>exact .agg cs cs' hl (fun i v v' h1 h2=>(hc i v v' h1 h2).mono hi hb)
 |fn f cs cs' hl hc=>exact .fn f cs cs' hl (fun i v v' h1 h2=>(hc i v v' h1 h2).mono hi hb)
theorem O4 {h:aZ} {own:Bool} {ids ids' bs:List Nat} {v v':V} (hl:fU h own ids v=some (v',ids',bs)):Ext h ids ids'/\yK h ids' bs v v'/\ ∀b∈bs, ∃k,h b=some k:=by
 have other:dZ h own ids v=some (v',ids',bs)->Ext h ids ids'/\yK h ids' bs v v'/\ ∀b∈bs, ∃k,h b=some k:=fun h1=>by
  obtain ⟨a,b,c,d⟩:=D1 h1
  exact ⟨a,.cell _ _ b,d⟩
 cases v with
 |agg cs=>
  simp only [fU] at hl
  split at hl
  ·rename_i h1;cases hl
   obtain ⟨a,b,c,d,e⟩:=pT h1
   exact ⟨a,.agg _ _ b c,e⟩
  ·cases hl
 |fn f cs=>
  simp only [fU] at hl
  split at hl
  ·rename_i h1;cases hl
   obtain ⟨a,b,c,d,e⟩:=pT h1
   exact ⟨a,.fn f _ _ b c,e⟩
  ·cases hl
 |_=>exact other hl
theorem LJ {h:aZ} {owns:List Nat}: ∀{vs vs':List V} {j:Nat} {ids ids' bs:List Nat},jR h owns j ids vs=some (vs',ids',bs)->
 Ext h ids ids'/\vs'.length=vs.length/\(∀(i:Nat) (v v':V),vs[i]? =some v->vs'[i]? =some v'->yK h ids' bs v v')/\ ∀b∈bs, ∃k,h b=some k
 |[],vs',j,ids,ids',bs,hl=>by
  simp [jR] at hl
  obtain ⟨rfl,rfl,rfl⟩:=hl
  exact ⟨Ext.refl _ _,rfl,(fun i v v' h=>by simp at h),fun b hb=>by simp at hb⟩
 |v::r,vs',j,ids,ids',bs,hl=>by
  simp only [jR] at hl
  split at hl
  ·rename_i v1 ids1 bs1 h1
   split at hl
   ·rename_i r2 ids2 bs2 h2
    cases hl
    obtain ⟨a1,a2,a4⟩:=O4 h1
    obtain ⟨b1,b2,b3,b5⟩:=LJ h2
    refine ⟨a1.trans b1,by simp [b2],fun i u u' hu hu'=> ?_,fun b hb=> ?_⟩
    ·cases i with
     |zero=>simp at hu hu';subst hu;subst hu';exact a2.mono (fun p b hp=>b1.at hp) (fun b hb=>aW.2 (.inl hb))
     |succ i=>exact (b3 i u u' (by simpa using hu) (by simpa using hu')).mono (fun p b hp=>hp) (fun b hb=>aW.2 (.inr hb))
    ·rcases aW.1 hb with hb|hb
     ·exact a4 b hb
     ·exact b5 b hb
   ·cases hl
  ·cases hl
theorem a5E {h:aZ} {ids ids' bs:List Nat} {v v':V} (hl:fU h true ids v=some (v',ids',bs)):bs=[]:=by
 have other:dZ h true ids v=some (v',ids',bs)->bs=[]:=fun h1=>(D1 h1).2.2.1 rfl
 cases v with
 |agg cs=>
  simp only [fU] at hl
  split at hl
  ·rename_i h1;cases hl;exact (pT h1).2.2.2.1 rfl
  ·cases hl
 |fn f cs=>
  simp only [fU] at hl
  split at hl
  ·rename_i h1;cases hl;exact (pT h1).2.2.2.1 rfl
  ·cases hl
 |_=>exact other hl
theorem Qu {h:aZ}: ∀{cs cs':List V} {ids ids':List Nat},rL h ids cs=some (cs',ids')->
 Ext h ids ids'/\cs'.length=cs.length/\ ∀(i:Nat) (v v':V),cs[i]? =some v->cs'[i]? =some v'->yK h ids' [] v v'
 |[],cs',ids,ids',hl=>by
  simp [rL] at hl
  obtain ⟨rfl,rfl⟩:=hl
  exact ⟨Ext.refl _ _,rfl,fun i v v' h=>by simp at h⟩
 |v::r,cs',ids,ids',hl=>by
  simp only [rL] at hl
  split at hl
  ·rename_i v1 ids1 bs1 h1
   split at hl
   ·rename_i r2 ids2 h2
    cases hl
    obtain ⟨a1,a2,_⟩:=O4 h1
    rw [a5E h1] at a2
    obtain ⟨b1,b2,b3⟩:=Qu h2
    refine ⟨a1.trans b1,by simp [b2],fun i u u' hu hu'=> ?_⟩
    cases i with
    |zero=>simp at hu hu';subst hu;subst hu';exact a2.mono (fun p b hp=>b1.at hp) (fun b hb=>hb)
    |succ i=>exact b3 i u u' (by simpa using hu) (by simpa using hu')
   ·cases hl
  ·cases hl
theorem KF {h:aZ}: ∀{rs rs':List (List V)} {ids ids':List Nat},pa h ids rs=some (rs',ids')->
 Ext h ids ids'/\rs'.length=rs.length/\ ∀(i:Nat) (row row':List V),rs[i]? =some row->rs'[i]? =some row'->row'.length=row.length/\ ∀(j:Nat) (v v':V),row[j]? =some v->row'[j]? =some v'->yK h ids' [] v v'
 |[],rs',ids,ids',hl=>by
  simp [pa] at hl
  obtain ⟨rfl,rfl⟩:=hl
  exact ⟨Ext.refl _ _,rfl,fun i v v' h=>by simp at h⟩
 |x::r,rs',ids,ids',hl=>by
  simp only [pa] at hl
  split at hl
  ·rename_i x1 ids1 h1
   split at hl
   ·rename_i r2 ids2 h2
    cases hl
    obtain ⟨a1,a2,a3⟩:=Qu h1
    obtain ⟨b1,b2,b3⟩:=KF h2
    refine ⟨a1.trans b1,by simp [b2],fun i u u' hu hu'=> ?_⟩
    cases i with
    |zero=>simp at hu hu';subst hu;subst hu';exact ⟨a2,fun j v v' h1 h2=>(a3 j v v' h1 h2).mono (fun p b hp=>b1.at hp) (fun b hb=>hb)⟩
    |succ i=>exact b3 i u u' (by simpa using hu) (by simpa using hu')
   ·cases hl
  ·cases hl
structure a3g (h:aZ) (ids bor:List Nat) (k k0:Blk):Prop where
 esz:k0.esz=k.esz
 op:k0.op=k.op
 len:k0.rows.length=k.rows.length
 same:k.op=false->k0=k
 row:k.op=true-> ∀(i:Nat) (row row':List V),k.rows[i]? =some row->k0.rows[i]? =some row'->row'.length=row.length/\ ∀(j:Nat) (v v':V),row[j]? =some v->row'[j]? =some v'->yK h ids bor v v'
theorem a3g.mono {h:aZ} {ids ids' bor bor':List Nat} {k k0:Blk} (x:a3g h ids bor k k0) (hi: ∀(p b:Nat),ids[p]? =some b->ids'[p]? =some b) (hb: ∀b∈bor,b∈bor'):a3g h ids' bor' k k0:=
 ⟨x.esz,x.op,x.len,x.same,fun ho i row row' h1 h2=>⟨(x.row ho i row row' h1 h2).1,fun j v v' h3 h4=>((x.row ho i row row' h1 h2).2 j v v' h3 h4).mono hi hb⟩⟩
theorem DY {h:aZ}: ∀{fuel pos:Nat} {ids ids':List Nat} {blks:List Blk},fM h fuel pos ids=some (blks,ids')->pos<=ids.length->
 Ext h ids ids'/\ids'.length=pos+blks.length/\ ∀(i b:Nat),ids'[pos+i]? =some b-> ∃k k0,h b=some k/\blks[i]? =some k0/\a3g h ids' [] k k0
 |0,pos,ids,ids',blks,hl,hp=>by simp [fM] at hl
 |fuel+1,pos,ids,ids',blks,hl,hp=>by
  simp only [fM] at hl
  split at hl
  ·rename_i hn
   cases hl
   have:ids.length<=pos:=by simpa using hn
   exact ⟨Ext.refl _ _,by simp;omega,fun i b hb=>by have:=dw hb;omega⟩
  ·rename_i b0 hb0
   have hlt:=dw hb0
   split at hl
   ·cases hl
   ·rename_i k hk
    split at hl
    ·rename_i ho
     split at hl
     ·rename_i r ids1 h1
      cases hl
      obtain ⟨a1,a2,a3⟩:=DY h1 (by omega)
      refine ⟨a1,by simp [a2];omega,fun i b hb=> ?_⟩
      cases i with
      |zero=>
       have:=a1.at hb0
       simp only [cQ] at hb
       rw [this] at hb;cases hb
       exact ⟨k,k,hk,by simp,⟨rfl,rfl,rfl,(fun _=>rfl),(fun h1=>by rw [ho] at h1;cases h1)⟩⟩
      |succ i=>simpa using a3 i b (by rw [<-hb];congr 1;omega)
     ·cases hl
    ·rename_i ho
     have ho':k.op=true:=by cases hop:k.op with|true=>rfl|false=>exact absurd hop ho
     split at hl
     ·cases hl
     ·rename_i rows ids1 h1
      split at hl
      ·rename_i r ids2 h2
       cases hl
       obtain ⟨b1,b2,b3⟩:=KF h1
       have hlen:ids.length<=ids1.length:=by obtain ⟨⟨e,rfl⟩,_⟩:=b1;simp
       obtain ⟨a1,a2,a3⟩:=DY h2 (by omega)
       refine ⟨b1.trans a1,by simp [a2];omega,fun i b hb=> ?_⟩
       cases i with
       |zero=>
        have:=a1.at (b1.at hb0)
        simp only [cQ] at hb
        rw [this] at hb;cases hb
        refine ⟨k,{ k with rows:=rows },hk,by simp,⟨rfl,rfl,b2,(fun h1=>by rw [ho'] at h1;cases h1),fun _ i row row' g1 g2=> ?_⟩⟩
        obtain ⟨c1,c2⟩:=b3 i row row' g1 g2
        exact ⟨c1,fun j v v' g3 g4=>(c2 j v v' g3 g4).mono (fun p b hp=>a1.at hp) (fun b hb=>hb)⟩
       |succ i=>simpa using a3 i b (by rw [<-hb];congr 1;omega)
      ·cases hl
end
section
section
variable {G:Frame} {μ μ':Mu} {h h':aZ} {w w':World}
theorem Nl (C: @Chg G μ h w μ' h' w'): @nv G μ w μ' w':= @Chg.ev G _ _ _ _ _ _ C
theorem b4Y (C: @Chg G μ h w μ' h' w'):Yx μ h w μ' h' w':= @Chg.refs G _ _ _ _ _ _ C
theorem c2E (C: @nv G μ w μ' w'):w'.os=w.os:= @nv.os G _ _ _ _ C
theorem a6C (C: @nv G μ w μ' w'):w'.tape=w.tape:= @nv.tape G _ _ _ _ C
theorem b6v (C: @nv G μ w μ' w'):w'.output=w.output:= @nv.output G _ _ _ _ C
theorem a8b (C: @nv G μ w μ' w'):w.drawn<=w'.drawn:= @nv.drawn G _ _ _ _ C
theorem YY (C: @nv G μ w μ' w'):w.heap.size<=w'.heap.size:= @nv.size G _ _ _ _ C
theorem a7r (C: @nv G μ w μ' w'): ∀c,c<w.heap.size-> @pS G μ c->w'.heap[c]? =w.heap[c]? /\ @pS G μ' c:= @nv.keep G _ _ _ _ C
theorem Yh (C: @nv G μ w μ' w'): ∀c,G.fr c->w'.heap[c]? =w.heap[c]? := @nv.keepF G _ _ _ _ C
theorem c1J (H: @bD G μ h w): ∀b b' c,μ b=some c->μ b'=some c->b=b':= @bD.inj G _ _ _ H
theorem c1V (H: @bD G μ h w): ∀b c,μ b=some c-> ∃k,h b=some k/\k.lies:= @bD.dom G _ _ _ H
theorem b7I (H: @bD G μ h w): ∀b k,h b=some k-> @c4g G μ h w b k:= @bD.blk G _ _ _ H
theorem a88 (H: @bD G μ h w): ∀b k,h b=some k-> ∀row∈k.rows,(0<k.esz->row.length=k.esz)/\ ∀v∈row,v.cell=true/\(k.op=false->v.cl=true):= @bD.rows G _ _ _ H
theorem YW (H: @bD G μ h w): ∀b c,μ b=some c-> ¬G.fr c:= @bD.frame G _ _ _ H
theorem c0j (H: @bD G μ h w): ∀c,G.fr c->c<w.heap.size:= @bD.frlt G _ _ _ H
end
theorem ey {α:Type} {l:List α} {i:Nat} (h:i<l.length): ∃x,l[i]? =some x:=⟨l[i],aq h⟩
structure Way (h:aZ) (ids bor:List Nat) (blks:List Blk):Prop where
 nd:ids.Nodup
 len:ids.length=blks.length
 at_: ∀(i b:Nat),ids[i]? =some b-> ∃k k0,h b=some k/\blks[i]? =some k0/\a3g h ids bor k k0
 dis: ∀b∈bor,b∉ids
 has: ∀b∈bor, ∃k,h b=some k
@[reducible] def ph (F:Frame) (μ:Mu) (ids bor:List Nat):Frame:=⟨fun c=>F.fr c\/ ∃b,μ b=some c/\b∉ids/\b∉bor⟩
def oa (μ:Mu) (ids:List Nat):Mu:=fun i=>(ids[i]?).bind μ
section
variable {F:Frame} {μ:Mu} {h:aZ} {w:World} {ids bor:List Nat} {blks:List Blk}
theorem Ci {i c:Nat} (hi:oa μ ids i=some c): ∃b,ids[i]? =some b/\μ b=some c:=by
 unfold oa at hi
 cases hb:ids[i]? with
 |none=>rw [hb] at hi;cases hi
 |some b=>rw [hb] at hi;exact ⟨b,rfl,hi⟩
theorem HS (W:Way h ids bor blks) {c:Nat} (h1: ¬F.fr c) (h2: ∀b,b∉bor->μ b≠some c): @pS (ph F μ ids bor) (oa μ ids) c:=by
 refine ⟨fun i hi=> ?_,fun hf=> ?_⟩
 ·obtain ⟨b,hb,hm⟩:=Ci hi
  exact h2 b (fun hbor=>W.dis b hbor (an hb)) hm
 ·rcases hf with hf|⟨b,hb,_,hnb⟩
  ·exact h1 hf
  ·exact h2 b hnb hb
theorem Lk (W:Way h ids bor blks) {v:V} {x:Value} (hv: @aX F μ h w v x) (hcl:v.cl=true): @aX (ph F μ ids bor) (oa μ ids) (bL blks) w v x:=
 aX.move (F:=F) _ (fun c hc hs=>⟨hc,rfl,HS W hs.2 (fun b _=>hs.1 b)⟩) hv hcl
theorem ZL (W:Way h ids bor blks) (H: @bD F μ h w) {v v':V} {x:Value} (hl:zL h ids bor v v') (hv: @aX F μ h w v x): @aX (ph F μ ids bor) (oa μ ids) (bL blks) w v' x:=by
 cases hl with
 |lit y=>exact Lk W hv rfl
 |imm e r=>exact Lk W hv rfl
 |iptr r o=>exact Lk W hv rfl
 |undef=>exact @aX.unk (ph F μ ids bor) (oa μ ids) (bL blks) w x
 |fn f=>exact Lk W hv rfl
 |ptr b i o n p hp=>
  cases hv with
  |ptr _ _ _ _ _ k hk hn' hx hpp hd=>
   obtain ⟨k1,k0,h1,h2,L⟩:=W.at_ p b hp
   rw [hk] at h1;cases h1
   refine @aX.ptr (ph F μ ids bor) (oa μ ids) (bL blks) w p i o n x k0 h2 (by rw [L.len,L.esz];exact hn') hx (fun g1 g2 g3=> ?_) (fun g=>by rw [L.op];exact hd (by rw [<-L.esz];exact g))
   rw [L.esz] at g1 ⊢
   obtain ⟨c,c1,c2⟩:=hpp g1 (by rw [<-L.len];exact g2) g3
   exact ⟨c,by simp [oa,hp,c1],c2⟩
 |sl b s n p hp=>
  cases hv with
  |sl _ _ _ _ k hk hn' hx hpp=>
   obtain ⟨k1,k0,h1,h2,L⟩:=W.at_ p b hp
   rw [hk] at h1;cases h1
   refine @aX.sl (ph F μ ids bor) (oa μ ids) (bL blks) w p s n x k0 h2 (by rw [L.len,L.esz];exact hn') hx (fun g1 g2=> ?_)
   rw [L.esz] at g1 ⊢
   obtain ⟨a,cap,c1,c2⟩:=hpp g1 (by rw [<-L.len];exact g2)
   refine ⟨a,cap,c1, ?_⟩
   rcases c2 with c2|⟨c,d1,d2,d3,d4⟩
   ·exact .inl c2
   ·exact .inr ⟨c,by simp [oa,hp,d1],d2,d3,d4⟩
 |mp b p hp=>
  cases hv with
  |mp _ _ k hk hx hmm=>
   obtain ⟨k1,k0,h1,h2,L⟩:=W.at_ p b hp
   rw [hk] at h1;cases h1
   refine @aX.mp (ph F μ ids bor) (oa μ ids) (bL blks) w p x k0 h2 hx (fun g1 g2=> ?_)
   rw [L.esz] at g1
   rw [L.op] at g2
   obtain ⟨c,c1,c2⟩:=hmm g1 g2
   exact ⟨c,by simp [oa,hp,c1],c2⟩
 |bor b s n k hb hk ho h0 hn=>
  have h1:= @M3 μ h w F H b s n k x hk ho h0 hn hv (cE μ b none) h (by simp [cE]) (fun b' c hm=>by
   unfold cE at hm
   split at hm
   ·cases hm
   ·exact hm)
  refine aX.move (F:=F) _ (fun c hc hs=>⟨hc,rfl,HS W hs.2 (fun b' hb'=> ?_)⟩) h1 rfl
  have hne:b'≠b:=fun e=>hb' (e▸hb)
  have:=hs.1 b'
  simpa [cE,hne] using this
theorem zL.cellOf {v v':V} (hl:zL h ids bor v v') (hc:v.cell=true):v'.cell=true:=by
 cases hl<;>first|exact hc|rfl
theorem a1q (W:Way h ids bor blks) (H: @bD F μ h w) {v v':V} {x:Value} (hl:yK h ids bor v v') (hv: @aX F μ h w v x): @aX (ph F μ ids bor) (oa μ ids) (bL blks) w v' x:=by
 cases hl with
 |cell _ _ hl=>exact ZL W H hl hv
 |agg cs cs' hlen hcs=>
  cases hv with
  |agg _ xs hl hcell hc=>
   refine @aX.agg (ph F μ ids bor) (oa μ ids) (bL blks) w cs' xs (by rw [hl,hlen]) (fun v hv=> ?_) (fun i v hi=> ?_)
   ·obtain ⟨i,hi,rfl⟩:=bq hv
    have h1:cs[i]? =some cs[i]:=aq (by omega)
    exact (hcs i _ _ h1 (aq hi)).cellOf (hcell _ (an h1))
   ·have hi':=dw hi
    have h1:cs[i]? =some cs[i]:=aq (by omega)
    exact ZL W H (hcs i _ _ h1 hi) (hc i _ h1)
 |fn f cs cs' hlen hcs=>
  cases hv with
  |fn _ _ xs hl hc=>
   refine @aX.fn (ph F μ ids bor) (oa μ ids) (bL blks) w f cs' xs (by rw [hl,hlen]) (fun i v hi=> ?_)
   have hi':=dw hi
   have h1:cs[i]? =some cs[i]:=aq (by omega)
   exact ZL W H (hcs i _ _ h1 hi) (hc i _ h1)
theorem yK.cellOf {v v':V} (hl:yK h ids bor v v') (hc:v.cell=true):v'.cell=true:=by
 cases hl with
 |cell _ _ h=>exact h.cellOf hc
 |agg=>simp [V.cell] at hc
 |fn=>rfl
theorem Way.back (W:Way h ids bor blks) {i:Nat} {k0:Blk} (hk:bL blks i=some k0): ∃b k,ids[i]? =some b/\h b=some k/\a3g h ids bor k k0:=by
 have hlt:=dw hk
 obtain ⟨b,hi⟩:=ey (l:=ids) (i:=i) (by rw [W.len];exact hlt)
 obtain ⟨k,k1,h1,h2,L⟩:=W.at_ i _ hi
 have:blks[i]? =some k0:=hk
 rw [h2] at this;cases this
 exact ⟨_,k,hi,h1,L⟩
theorem ZO (W:Way h ids bor blks) (H: @bD F μ h w): @bD (ph F μ ids bor) (oa μ ids) (bL blks) w:=by
 refine @bD.mk (ph F μ ids bor) (oa μ ids) (bL blks) w (fun i i' c h1 h2=> ?_) (fun i c h1=> ?_) (fun i k0 hk=> ?_) (fun i k0 hk=> ?_) (fun i c h1=> ?_) (fun c hc=> ?_)
 ·obtain ⟨b,hb,hm⟩:=Ci h1
  obtain ⟨b',hb',hm'⟩:=Ci h2
  have:= @bD.inj F μ h w H _ _ _ hm hm'
  subst this
  exact (List.getElem?_inj (dw hb) W.nd).1 (by rw [hb,hb'])
 ·obtain ⟨b,hb,hm⟩:=Ci h1
  obtain ⟨k,k0,g1,g2,L⟩:=W.at_ i b hb
  obtain ⟨k',hk',h0⟩:= @bD.dom F μ h w H b c hm
  rw [g1] at hk';cases hk'
  exact ⟨k0,g2,by unfold Blk.lies;rw [L.esz,L.op];exact h0⟩
 ·obtain ⟨b,k,hb,hkb,L⟩:=W.back hk
  rcases @bD.blk F μ h w H b k hkb with ⟨g1,g2,g3⟩|⟨g0,c,arr,t,lo,hi,gm,gh,gf,gl,gv⟩|⟨g0,go,c,gm,gb⟩
  ·left
   rw [L.same g2]
   exact ⟨g1,g2,by simp [oa,hb,g3]⟩
  rotate_left
  ·right;right
   refine ⟨by rw [L.esz];exact g0,by rw [L.op];exact go,c,by simp [oa,hb,gm], ?_⟩
   have:k0.rows=k.rows:=by
    refine List.ext_getElem L.len (fun i2 h1 h2=> ?_)
    have e1:k0.rows[i2]? =some k0.rows[i2]:=aq h1
    have e2:k.rows[i2]? =some k.rows[i2]:=aq h2
    obtain ⟨r1,r2⟩:=L.row go i2 _ _ e2 e1
    refine List.ext_getElem r1 (fun j h3 h4=> ?_)
    have h5:=r2 j _ _ (aq h4) (aq h3)
    obtain ⟨n,hn⟩:=gb.lit (aY h2) (aY h4)
    rw [hn] at h5
    cases h5 with
    |cell _ _ h6=>generalize k0.rows[i2][j]=u at h6;cases h6;exact hn.symm
   rw [this];exact gb
  ·right;left
   refine ⟨by rw [L.esz];exact g0,c,arr,t,lo,hi,by simp [oa,hb,gm],gh,gf,by rw [L.len,L.esz];exact gl,fun i2 row' j v' h1 h2=> ?_⟩
   rw [L.esz]
   cases hop:k.op with
   |false=>
    rw [L.same hop] at h1
    exact Lk W (gv i2 row' j v' h1 h2) ((@bD.rows F μ h w H b k hkb row' (an h1)).2 v' (an h2)|>.2 hop)
   |true=>
    obtain ⟨row,h3⟩:=ey (l:=k.rows) (i:=i2) (by rw [<-L.len];exact dw h1)
    obtain ⟨r1,r2⟩:=L.row hop i2 _ _ h3 h1
    obtain ⟨v,h4⟩:=ey (l:=row) (i:=j) (by rw [<-r1];exact dw h2)
    exact a1q W H (r2 j _ _ h4 h2) (gv i2 row j v h3 h4)
 ·obtain ⟨b,k,hb,hkb,L⟩:=W.back hk
  intro row' hrow
  obtain ⟨i2,hi2,rfl⟩:=bq hrow
  have h1:k0.rows[i2]? =some k0.rows[i2]:=aq hi2
  cases hop:k.op with
  |false=>
   have:=L.same hop
   subst this
   have hr:= @bD.rows F μ h w H b k0 hkb _ (an h1)
   exact ⟨hr.1,fun v hv=>⟨(hr.2 v hv).1,fun _=>(hr.2 v hv).2 hop⟩⟩
  |true=>
   obtain ⟨row,h3⟩:=ey (l:=k.rows) (i:=i2) (by rw [<-L.len];exact hi2)
   obtain ⟨r1,r2⟩:=L.row hop i2 _ _ h3 h1
   have hr:= @bD.rows F μ h w H b k hkb _ (an h3)
   refine ⟨fun h0=>by rw [L.esz] at h0;rw [r1,hr.1 h0,L.esz],fun v hv=> ?_⟩
   obtain ⟨j,hj,rfl⟩:=bq hv
   obtain ⟨v,h4⟩:=ey (l:=row) (i:=j) (by omega)
   refine ⟨(r2 j _ _ h4 (aq hj)).cellOf (hr.2 _ (an h4)).1,fun h5=> ?_⟩
   rw [L.op,hop] at h5;cases h5
 ·obtain ⟨b,hb,hm⟩:=Ci h1
  intro hf
  rcases hf with hf|⟨b',hb',hn,_⟩
  ·exact @bD.frame F μ h w H b c hm hf
  ·have:= @bD.inj F μ h w H _ _ _ hm hb'
   subst this
   exact hn (an hb)
 ·rcases hc with hf|⟨b,hb,_⟩
  ·exact @bD.frlt F μ h w H c hf
  ·exact @bD.lt F μ h w H b c hb
theorem b3e {owns:FuncId->List Nat} {f:FuncId} {args args':List V} (hp:ft owns h f args=some (args',blks,ids,bor)):
 Way h ids bor blks/\args'.length=args.length/\ ∀(i:Nat) (v v':V),args[i]? =some v->args'[i]? =some v'->yK h ids bor v v':=by
 unfold ft at hp
 split at hp
 ·cases hp
 ·rename_i a1 ids0 bor1 h1
  split at hp
  ·cases hp
  ·rename_i bl ids1 h2
   split at hp
   ·cases hp
   ·rename_i hany
    cases hp
    obtain ⟨x1,x2,x3,x4⟩:=LJ h1
    obtain ⟨y1,y2,y3⟩:=DY h2 (qH _)
    refine ⟨⟨y1.2.1 (x1.2.1 jG),by rw [y2];omega,(fun i b hb=>by obtain ⟨k,k0,g1,g2,g3⟩:=y3 i b (by simpa using hb);exact ⟨k,k0,g1,g2,g3.mono (fun p b hp=>hp) (fun b hb=>by simp at hb)⟩),fun b hb hm=>hany ?_,x4⟩,x2,fun i v v' g1 g2=>(x3 i v v' g1 g2).mono (fun p b hp=>y1.at hp) (fun b hb=>hb)⟩
    rw [ix]
    exact ⟨b,hb,by simpa using hm⟩
end
end
end Go.AI
