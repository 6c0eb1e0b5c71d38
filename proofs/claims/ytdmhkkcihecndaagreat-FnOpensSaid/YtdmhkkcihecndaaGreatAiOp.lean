/- Each operation of the abstract machine's other than a call is sound. -/
import Derived.Test.YtdmhkkcihecndaaGreatAiOps9
import Derived.Test.YtdmhkkcihecndaaGreatAiOps7N
set_option linter.unusedVariables false
set_option linter.unusedSimpArgs false
namespace Go.AI
def iH:AOp→Bool
 | .call .. | .dyn .. =>true
 |_=>false
section
variable {P:Program} {μ:Mu} {h:aw} {w:World} {f:Nat→V} {a:Act}
theorem map_some {α β:Type} {x:Option α} {g:α→β} {y:β} (h:x.map g=some y): ∃z,x=some z∧y=g z:=by
 cases x with
 |none=>cases h
 |some z=>cases h;exact ⟨z,rfl,rfl⟩
theorem Cj {l:List Operand} {x' y':Opd} (h:gV l=some [x',y']): ∃x y,l=[x,y]∧aL x=some x'∧aL y=some y':=by
 match l with
 |[]=>simp [gV] at h
 |[x]=>
  simp only [gV] at h
  split at h
  ·cases h;rename_i h2;cases h2
  ·cases h
 |[x,y]=>
  simp only [gV] at h
  split at h
  ·rename_i a b h1 h2
   cases h
   split at h2
   ·rename_i c d h3 h4;cases h2;exact ⟨x,y,rfl,h1,h3⟩
   ·cases h2
  ·cases h
 |x::y::z::r=>
  simp only [gV] at h
  split at h
  ·rename_i a b h1 h2
   cases h
   split at h2
   ·rename_i c d h3 h4
    cases h2
    split at h4
    ·cases h4
    ·cases h4
   ·cases h2
  ·cases h
theorem a1V {l:List Operand} {x':Opd} (h:gV l=some [x']): ∃x,l=[x]∧aL x=some x':=by
 match l with
 |[]=>simp [gV] at h
 |[x]=>
  simp only [gV] at h
  split at h
  ·cases h;rename_i a b h1 h2;exact ⟨x,rfl,h1⟩
  ·cases h
 |x::y::r=>
  simp only [gV] at h
  split at h
  ·rename_i a b h1 h2
   cases h
   split at h2
   ·cases h2
   ·cases h2
  ·cases h
theorem a00 [Frame] (H:aI μ h w) (E:dM μ h w f a) {C:ba} {ow:FuncId→List Nat} {o:Oper} {c:Call} {ao:AOp} (hop:o.op= .call c) (hc:cK P (.call c)=some ao) (hn:iH ao=false) {new:Nat} {v:V} {u:Upd}
 (hs:aj C ow ao (Opd.ev f) h new=some (v,u)):fP P o a μ h w v u:=by
 simp only [cK] at hc
 split at hc
 ·cases hc;simp [iH] at hn
 ·split at hc
  ·cases hc;simp [iH] at hn
  ·cases hc
 ·rename_i x' hca hargs
  obtain ⟨x,hl,hx⟩:=a1V hargs
  split at hc
  ·rename_i t ht
   split at hc
   ·rename_i hu;cases hc;exact a4O H E hop hca hl hx ht hu hs
   ·rename_i hu;cases hc;exact a4Q H E hop hca hl hx ht hu hs
   ·rename_i hu;cases hc;exact a0m H E hop hca hl hx ht hu hs
   ·cases hc
  ·cases hc
 ·rename_i x' y' hca hargs
  obtain ⟨x,y,hl,hx,hy⟩:=Cj hargs
  split at hc
  ·rename_i t u' ht hu'
   split at hc
   ·rename_i e d he hd
    split at hc
    ·rename_i i z hi hz
     split at hc
     ·cases hc
      exact VJ H E hop hca hl hx hy ht hu' hd (tq he) hi hz hs
     ·rename_i hnd
      cases hc
      exact Yx H E hop hca hl hx hy ht hu' hd (fun k hk=>hnd k hk) (tq he) hi hz hs
    ·cases hc
   ·cases hc
  ·cases hc
 ·rename_i x' y' hca hargs
  obtain ⟨x,y,hl,hx,hy⟩:=Cj hargs
  split at hc
  ·rename_i t ht
   split at hc
   ·rename_i e he
    split at hc
    ·rename_i s hsz
     cases hc
     exact a4F H E hop hca hl hx hy ht (tq he) hsz hs
    ·cases hc
   ·cases hc
  ·cases hc
 ·rename_i x' y' hca hargs
  obtain ⟨x,y,hl,hx,hy⟩:=Cj hargs
  cases hc
  exact a6E H E hop hca hl hx hy hs
 ·rename_i x' y' hca hargs
  obtain ⟨x,y,hl,hx,hy⟩:=Cj hargs
  cases hc
  exact a83 H E hop hca hl hx hy hs
 ·cases hc
theorem a4q [Frame] (H:aI μ h w) (E:dM μ h w f a) {C:ba} {ow:FuncId→List Nat} {o:Oper} {ao:AOp} (hc:cK P o.op=some ao) (hn:iH ao=false) {new:Nat} {v:V} {u:Upd}
 (hs:aj C ow ao (Opd.ev f) h new=some (v,u)):fP P o a μ h w v u:=by
 generalize hop:o.op=op at hc
 cases op with
 |move x=>
  simp only [cK] at hc
  obtain ⟨x',hx,rfl⟩:=map_some hc
  simp only [aj] at hs;cases hs
  exact a6R H E (.inl hop) hx
 |assign x=>
  simp only [cK] at hc
  obtain ⟨x',hx,rfl⟩:=map_some hc
  simp only [aj] at hs;cases hs
  exact a6R H E (.inr hop) hx
 |pick c x y=>
  simp only [cK] at hc
  split at hc
  ·rename_i h1 h2 h3;cases hc;exact a6w H E hop h1 h2 h3 hs
  ·cases hc
 |alloc t=>
  simp only [cK] at hc
  obtain ⟨z,hz,rfl⟩:=map_some hc
  simp only [aj] at hs
  exact a30 H hop hz hs
 |box t x=>
  simp only [cK] at hc
  split at hc
  ·rename_i h1 h2;cases hc;simp only [aj] at hs;exact b0X H E hop h2 hs
  ·cases hc
 |build t ps=>exact a2b H E hop hc hs
 |buildSlice t len ps=>
  simp only [cK] at hc
  split at hc
  ·rename_i e he
   split at hc
   ·rename_i h1 h2 h3;cases hc;exact Mc H E hop (tq he) h1 h2 h3 hs
   ·cases hc
  ·cases hc
 |load t x=>
  simp only [cK] at hc
  split at hc
  ·rename_i h1 h2
   cases hc
   simp only [aj] at hs
   split at hs
   ·rename_i hr;cases hs;exact a7A H E hop h2 h1 hr
   ·cases hs
  ·cases hc
 |store t x y=>
  simp only [cK] at hc
  split at hc
  ·rename_i h1 h2 h3;cases hc;exact QU H E hop h2 h3 h1 hs
  ·cases hc
 |nilCheck x=>
  simp only [cK] at hc
  obtain ⟨x',hx,rfl⟩:=map_some hc
  exact Tu H E hop hx hs
 |binOp op t x y ty=>
  simp only [cK] at hc
  split at hc
  ·rename_i h1 h2
   split at hc
   ·rename_i fs hu
    split at hc
    ·rename_i hg
     simp only [Bool.and_eq_true,Bool.not_eq_true'] at hg
     split at hc
     ·rename_i hk;cases hc;exact Ry H E hop h1 h2 hu hg.1 hg.2 hk rfl hs
     ·rename_i hk;cases hc;exact Ry H E hop h1 h2 hu hg.1 hg.2 hk rfl hs
     ·cases hc
    ·cases hc
   ·rename_i hu
    split at hc
    ·cases hc;exact a1d H E hop h1 h2 hu rfl hs
    ·cases hc;exact a1d H E hop h1 h2 hu rfl hs
    ·cases hc
   ·cases hc;exact a1l H E hop h1 h2 hs
   ·cases hc;exact a1l H E hop h1 h2 hs
   ·rename_i hu
    split at hc
    ·cases hc;exact QC H E hop h1 h2 hu rfl hs
    ·cases hc;exact QC H E hop h1 h2 hu rfl hs
    ·cases hc
   ·cases hc
  ·cases hc
 |unOp op t x=>
  simp only [cK] at hc
  obtain ⟨x',hx,rfl⟩:=map_some hc
  exact b4Q H E hop hx hs
 |convert s d x=>
  simp only [cK] at hc
  split at hc
  ·rename_i h1 h2 h3;cases hc;exact a5S H E hop h3 h1 h2 hs
  ·rename_i h1 h2 h3;cases hc;exact a8g H E hop h3 h1 h2 hs
  ·rename_i h1 h2 h3
   split at hc
   ·rename_i h4;cases hc;exact VF H E hop h3 h1 h2 h4 hs
   ·cases hc
  ·rename_i h1 h2 h3
   split at hc
   ·rename_i h4 h5;cases hc;exact a3l H E hop h3 h1 h2 h4 hs
   ·cases hc
  ·rename_i h1 h2 h3
   split at hc
   ·rename_i h4
    split at hc
    ·rename_i h5;cases hc;exact Tk H E hop h3 h1 h2 h4 h5 hs
    ·cases hc
   ·cases hc
  ·cases hc
 |sliceToArrayPointer t x=>
  simp only [cK] at hc
  split at hc
  ·rename_i h1 h2;cases hc;exact a2n H E hop h2 h1 hs
  ·cases hc
 |makeFunc c fst caps=>
  cases c with
  |func g=>
   simp only [cK] at hc
   split at hc
   ·rename_i h1 h2;cases hc;exact Sz H E hop h1 h2 hs
   ·cases hc
  |_=>simp [cK] at hc
 |makeSlice t l c=>
  simp only [cK] at hc
  split at hc
  ·rename_i e he
   split at hc
   ·rename_i h1 h2 h3 h4;cases hc;exact Ql H E hop h3 h4 (tq he) h1 h2 hs
   ·cases hc
  ·cases hc
 |slice t x lo hi mx=>
  simp only [cK] at hc
  split at hc
  ·rename_i h1 h2 h3 h4 h5
   cases hc
   cases mx with
   |none=>exact Sk H E hop h2 h3 h4 h1 hs
   |some m=>
    simp only [kA] at h5
    split at h5
    ·cases h5
    ·cases h5
  ·rename_i h1 h2 h3 h4 h5
   split at hc
   ·rename_i hsz;cases hc;exact a2M H E hop h2 h3 h4 h5 h1 hsz hs
   ·cases hc
  ·cases hc
 |fieldAddr t x n=>
  simp only [cK] at hc
  split at hc
  ·rename_i h1 h2
   split at hc
   ·rename_i fd hf
    split at hc
    ·rename_i hsz;cases hc;exact b27 H E hop h2 h1 hf hsz hs
    ·cases hc
   ·cases hc
  ·cases hc
 |field t x n=>
  simp only [cK] at hc
  split at hc
  ·rename_i h1 h2
   split at hc
   ·rename_i fd hf
    split at hc
    ·rename_i hg;cases hc;exact a2Q H E hop h2 h1 hf hg hs
    ·cases hc
   ·cases hc
  ·cases hc
 |indexAddr t x i=>
  simp only [cK] at hc
  split at hc
  ·rename_i h1 h2 h3
   split at hc
   ·rename_i hsz;cases hc;exact b0f H E hop h2 h3 h1 hsz hs
   ·cases hc
  ·rename_i h1 h2 h3
   split at hc
   ·rename_i hsz;cases hc;exact a02 H E hop h2 h3 h1 hsz hs
   ·cases hc
  ·cases hc
 |index t x i=>
  simp only [cK] at hc
  split at hc
  ·rename_i h1 h2 h3;cases hc;exact a3J H E hop h2 h3 h1 hs
  ·rename_i h1 h2 h3
   split at hc
   ·rename_i hsz hg;cases hc;exact a2j H E hop h2 h3 h1 hsz hg hs
   ·cases hc
  ·cases hc
 |extract x i=>
  simp only [cK] at hc
  split at hc
  ·rename_i hx;cases hc;exact b01 H E hop hx hs
  ·cases hc
 |call c=>exact a00 H E hop hc hn hs
 |_=>simp [cK] at hc
end
end Go.AI
