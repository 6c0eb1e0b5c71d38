/- Each operation of the abstract machine's other than a call is sound. -/
import Derived.Test.YtdmhkkcihecndaaGreatAiOps9
import Derived.Test.YtdmhkkcihecndaaGreatAiOps7N
set_option linter.unusedVariables false
set_option linter.unusedSimpArgs false
namespace Go.AI
def ia:AOp→Bool
 | .call .. | .dyn .. =>true
 |_=>false
section
variable {P:Program} {μ:Mu} {h:ak} {w:World} {f:Nat→V} {a:Act}
theorem map_some {α β:Type} {x:Option α} {g:α→β} {y:β} (h:x.map g=some y): ∃z,x=some z∧y=g z:=by
 cases x with
 |none=>cases h
 |some z=>cases h;exact ⟨z,rfl,rfl⟩
theorem Br {l:List Operand} {x' y':Opd} (h:gu l=some [x',y']): ∃x y,l=[x,y]∧aI x=some x'∧aI y=some y':=by
 match l with
 |[]=>simp [gu] at h
 |[x]=>
  simp only [gu] at h
  split at h
  ·cases h;rename_i h2;cases h2
  ·cases h
 |[x,y]=>
  simp only [gu] at h
  split at h
  ·rename_i a b h1 h2
   cases h
   split at h2
   ·rename_i c d h3 h4;cases h2;exact ⟨x,y,rfl,h1,h3⟩
   ·cases h2
  ·cases h
 |x::y::z::r=>
  simp only [gu] at h
  split at h
  ·rename_i a b h1 h2
   cases h
   split at h2
   ·rename_i c d h3 h4
    cases h2
    split at h4
    ·cases h4
    ·cases h4
   ·cases h2
  ·cases h
theorem a0H {l:List Operand} {x':Opd} (h:gu l=some [x']): ∃x,l=[x]∧aI x=some x':=by
 match l with
 |[]=>simp [gu] at h
 |[x]=>
  simp only [gu] at h
  split at h
  ·cases h;rename_i a b h1 h2;exact ⟨x,rfl,h1⟩
  ·cases h
 |x::y::r=>
  simp only [gu] at h
  split at h
  ·rename_i a b h1 h2
   cases h
   split at h2
   ·cases h2
   ·cases h2
  ·cases h
theorem Yq [Frame] (H:aE μ h w) (E:dN μ h w f a) {C:aU} {ow:FuncId→List Nat} {o:Oper} {c:Call} {ao:AOp} (hop:o.op= .call c) (hc:cN P (.call c)=some ao) (hn:ia ao=false) {new:Nat} {v:V} {u:Upd}
 (hs:ai C ow ao (Opd.ev f) h new=some (v,u)):fC P o a μ h w v u:=by
 simp only [cN] at hc
 split at hc
 ·cases hc;simp [ia] at hn
 ·split at hc
  ·cases hc;simp [ia] at hn
  ·cases hc
 ·rename_i x' hca hargs
  obtain ⟨x,hl,hx⟩:=a0H hargs
  split at hc
  ·rename_i t ht
   split at hc
   ·rename_i hu;cases hc;exact a6S H E hop hca hl hx ht hu hs
   ·rename_i hu;cases hc;exact a4a H E hop hca hl hx ht hu hs
   ·rename_i hu;cases hc;exact YT H E hop hca hl hx ht hu hs
   ·cases hc
  ·cases hc
 ·rename_i x' y' hca hargs
  obtain ⟨x,y,hl,hx,hy⟩:=Br hargs
  split at hc
  ·rename_i t u' ht hu'
   split at hc
   ·rename_i e d he hd
    split at hc
    ·rename_i i z hi hz
     split at hc
     ·cases hc
      exact WY H E hop hca hl hx hy ht hu' hd (to he) hi hz hs
     ·rename_i hnd
      cases hc
      exact XU H E hop hca hl hx hy ht hu' hd (fun k hk=>hnd k hk) (to he) hi hz hs
    ·cases hc
   ·cases hc
  ·cases hc
 ·rename_i x' y' hca hargs
  obtain ⟨x,y,hl,hx,hy⟩:=Br hargs
  split at hc
  ·rename_i t ht
   split at hc
   ·rename_i e he
    split at hc
    ·rename_i s hsz
     cases hc
     exact a5d H E hop hca hl hx hy ht (to he) hsz hs
    ·cases hc
   ·cases hc
  ·cases hc
 ·rename_i x' y' hca hargs
  obtain ⟨x,y,hl,hx,hy⟩:=Br hargs
  cases hc
  exact a6R H E hop hca hl hx hy hs
 ·rename_i x' y' hca hargs
  obtain ⟨x,y,hl,hx,hy⟩:=Br hargs
  cases hc
  exact a7F H E hop hca hl hx hy hs
 ·cases hc
theorem a6s [Frame] (H:aE μ h w) (E:dN μ h w f a) {C:aU} {ow:FuncId→List Nat} {o:Oper} {ao:AOp} (hc:cN P o.op=some ao) (hn:ia ao=false) {new:Nat} {v:V} {u:Upd}
 (hs:ai C ow ao (Opd.ev f) h new=some (v,u)):fC P o a μ h w v u:=by
 generalize hop:o.op=op at hc
 cases op with
 |move x=>
  simp only [cN] at hc
  obtain ⟨x',hx,rfl⟩:=map_some hc
  simp only [ai] at hs;cases hs
  exact a5C H E (.inl hop) hx
 |assign x=>
  simp only [cN] at hc
  obtain ⟨x',hx,rfl⟩:=map_some hc
  simp only [ai] at hs;cases hs
  exact a5C H E (.inr hop) hx
 |pick c x y=>
  simp only [cN] at hc
  split at hc
  ·rename_i h1 h2 h3;cases hc;exact a3P H E hop h1 h2 h3 hs
  ·cases hc
 |alloc t=>
  simp only [cN] at hc
  obtain ⟨z,hz,rfl⟩:=map_some hc
  simp only [ai] at hs
  exact a2Z H hop hz hs
 |box t x=>
  simp only [cN] at hc
  split at hc
  ·rename_i h1 h2;cases hc;simp only [ai] at hs;exact b07 H E hop h2 hs
  ·cases hc
 |build t ps=>exact a1s H E hop hc hs
 |buildSlice t len ps=>
  simp only [cN] at hc
  split at hc
  ·rename_i e he
   split at hc
   ·rename_i h1 h2 h3;cases hc;exact Nv H E hop (to he) h1 h2 h3 hs
   ·cases hc
  ·cases hc
 |load t x=>
  simp only [cN] at hc
  split at hc
  ·rename_i h1 h2
   cases hc
   simp only [ai] at hs
   split at hs
   ·rename_i hr;cases hs;exact a3s H E hop h2 h1 hr
   ·cases hs
  ·cases hc
 |store t x y=>
  simp only [cN] at hc
  split at hc
  ·rename_i h1 h2 h3;cases hc;exact Qy H E hop h2 h3 h1 hs
  ·cases hc
 |nilCheck x=>
  simp only [cN] at hc
  obtain ⟨x',hx,rfl⟩:=map_some hc
  exact Tf H E hop hx hs
 |binOp op t x y ty=>
  simp only [cN] at hc
  split at hc
  ·rename_i h1 h2
   split at hc
   ·rename_i fs hu
    split at hc
    ·rename_i hg
     simp only [Bool.and_eq_true,Bool.not_eq_true'] at hg
     split at hc
     ·rename_i hk;cases hc;exact PT H E hop h1 h2 hu hg.1 hg.2 hk rfl hs
     ·rename_i hk;cases hc;exact PT H E hop h1 h2 hu hg.1 hg.2 hk rfl hs
     ·cases hc
    ·cases hc
   ·rename_i hu
    split at hc
    ·cases hc;exact ZX H E hop h1 h2 hu rfl hs
    ·cases hc;exact ZX H E hop h1 h2 hu rfl hs
    ·cases hc
   ·cases hc;exact Zt H E hop h1 h2 hs
   ·cases hc;exact Zt H E hop h1 h2 hs
   ·rename_i hu
    split at hc
    ·cases hc;exact PH H E hop h1 h2 hu rfl hs
    ·cases hc;exact PH H E hop h1 h2 hu rfl hs
    ·cases hc
   ·cases hc
  ·cases hc
 |unOp op t x=>
  simp only [cN] at hc
  obtain ⟨x',hx,rfl⟩:=map_some hc
  exact b4b H E hop hx hs
 |convert s d x=>
  simp only [cN] at hc
  split at hc
  ·rename_i h1 h2 h3;cases hc;exact a40 H E hop h3 h1 h2 hs
  ·rename_i h1 h2 h3;cases hc;exact a4i H E hop h3 h1 h2 hs
  ·rename_i h1 h2 h3
   split at hc
   ·rename_i h4;cases hc;exact Vi H E hop h3 h1 h2 h4 hs
   ·cases hc
  ·rename_i h1 h2 h3
   split at hc
   ·rename_i h4 h5;cases hc;exact a1V H E hop h3 h1 h2 h4 hs
   ·cases hc
  ·rename_i h1 h2 h3
   split at hc
   ·rename_i h4
    split at hc
    ·rename_i h5;cases hc;exact SS H E hop h3 h1 h2 h4 h5 hs
    ·cases hc
   ·cases hc
  ·cases hc
 |sliceToArrayPointer t x=>
  simp only [cN] at hc
  split at hc
  ·rename_i h1 h2;cases hc;exact a2n H E hop h2 h1 hs
  ·cases hc
 |makeFunc c fst caps=>
  cases c with
  |func g=>
   simp only [cN] at hc
   split at hc
   ·rename_i h1 h2;cases hc;exact QY H E hop h1 h2 hs
   ·cases hc
  |_=>simp [cN] at hc
 |makeSlice t l c=>
  simp only [cN] at hc
  split at hc
  ·rename_i e he
   split at hc
   ·rename_i h1 h2 h3 h4;cases hc;exact OJ H E hop h3 h4 (to he) h1 h2 hs
   ·cases hc
  ·cases hc
 |slice t x lo hi mx=>
  simp only [cN] at hc
  split at hc
  ·rename_i h1 h2 h3 h4 h5
   cases hc
   cases mx with
   |none=>exact So H E hop h2 h3 h4 h1 hs
   |some m=>
    simp only [jH] at h5
    split at h5
    ·cases h5
    ·cases h5
  ·rename_i h1 h2 h3 h4 h5
   split at hc
   ·rename_i hsz;cases hc;exact a2Y H E hop h2 h3 h4 h5 h1 hsz hs
   ·cases hc
  ·cases hc
 |fieldAddr t x n=>
  simp only [cN] at hc
  split at hc
  ·rename_i h1 h2
   split at hc
   ·rename_i fd hf
    split at hc
    ·rename_i hsz;cases hc;exact a8Y H E hop h2 h1 hf hsz hs
    ·cases hc
   ·cases hc
  ·cases hc
 |field t x n=>
  simp only [cN] at hc
  split at hc
  ·rename_i h1 h2
   split at hc
   ·rename_i fd hf
    split at hc
    ·rename_i hg;cases hc;exact a2H H E hop h2 h1 hf hg hs
    ·cases hc
   ·cases hc
  ·cases hc
 |indexAddr t x i=>
  simp only [cN] at hc
  split at hc
  ·rename_i h1 h2 h3
   split at hc
   ·rename_i hsz;cases hc;exact a9F H E hop h2 h3 h1 hsz hs
   ·cases hc
  ·rename_i h1 h2 h3
   split at hc
   ·rename_i hsz;cases hc;exact Yn H E hop h2 h3 h1 hsz hs
   ·cases hc
  ·cases hc
 |index t x i=>
  simp only [cN] at hc
  split at hc
  ·rename_i h1 h2 h3;cases hc;exact a3i H E hop h2 h3 h1 hs
  ·rename_i h1 h2 h3
   split at hc
   ·rename_i hsz hg;cases hc;exact a2j H E hop h2 h3 h1 hsz hg hs
   ·cases hc
  ·cases hc
 |extract x i=>
  simp only [cN] at hc
  split at hc
  ·rename_i hx;cases hc;exact a88 H E hop hx hs
  ·cases hc
 |call c=>exact Yq H E hop hc hn hs
 |_=>simp [cN] at hc
end
end Go.AI
