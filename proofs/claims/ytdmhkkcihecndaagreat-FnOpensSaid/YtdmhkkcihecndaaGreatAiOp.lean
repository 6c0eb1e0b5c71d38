/- Each operation of the abstract machine's other than a call is sound. -/
import Derived.Test.YtdmhkkcihecndaaGreatAiOps9
import Derived.Test.YtdmhkkcihecndaaGreatAiOps7N
set_option linter.unusedVariables false
set_option linter.unusedSimpArgs false
namespace Go.AI
def iy:AOp→Bool
 | .call .. | .dyn .. =>true
 |_=>false
section
variable {P:Program} {μ:Mu} {h:au} {w:World} {f:Nat→V} {a:Act}
theorem map_some {α β:Type} {x:Option α} {g:α→β} {y:β} (h:x.map g=some y): ∃z,x=some z∧y=g z:=by
 cases x with
 |none=>cases h
 |some z=>cases h;exact ⟨z,rfl,rfl⟩
theorem Au {l:List Operand} {x' y':Opd} (h:gQ l=some [x',y']): ∃x y,l=[x,y]∧aK x=some x'∧aK y=some y':=by
 match l with
 |[]=>simp [gQ] at h
 |[x]=>
  simp only [gQ] at h
  split at h
  ·cases h;rename_i h2;cases h2
  ·cases h
 |[x,y]=>
  simp only [gQ] at h
  split at h
  ·rename_i a b h1 h2
   cases h
   split at h2
   ·rename_i c d h3 h4;cases h2;exact ⟨x,y,rfl,h1,h3⟩
   ·cases h2
  ·cases h
 |x::y::z::r=>
  simp only [gQ] at h
  split at h
  ·rename_i a b h1 h2
   cases h
   split at h2
   ·rename_i c d h3 h4
    cases h2
    split at h4
    ·cases h4
    ·cases h4
   ·cases h2
  ·cases h
theorem XI {l:List Operand} {x':Opd} (h:gQ l=some [x']): ∃x,l=[x]∧aK x=some x':=by
 match l with
 |[]=>simp [gQ] at h
 |[x]=>
  simp only [gQ] at h
  split at h
  ·cases h;rename_i a b h1 h2;exact ⟨x,rfl,h1⟩
  ·cases h
 |x::y::r=>
  simp only [gQ] at h
  split at h
  ·rename_i a b h1 h2
   cases h
   split at h2
   ·cases h2
   ·cases h2
  ·cases h
theorem Uy [Frame] (H:aH μ h w) (E:dF μ h w f a) {C:aY} {ow:FuncId→List Nat} {o:Oper} {c:Call} {ao:AOp} (hop:o.op= .call c) (hc:cH P (.call c)=some ao) (hn:iy ao=false) {new:Nat} {v:V} {u:Upd}
 (hs:an C ow ao (Opd.ev f) h new=some (v,u)):fF P o a μ h w v u:=by
 simp only [cH] at hc
 split at hc
 ·cases hc;simp [iy] at hn
 ·split at hc
  ·cases hc;simp [iy] at hn
  ·cases hc
 ·rename_i x' hca hargs
  obtain ⟨x,hl,hx⟩:=XI hargs
  split at hc
  ·rename_i t ht
   split at hc
   ·rename_i hu;cases hc;exact Zq H E hop hca hl hx ht hu hs
   ·rename_i hu;cases hc;exact ZT H E hop hca hl hx ht hu hs
   ·rename_i hu;cases hc;exact VO H E hop hca hl hx ht hu hs
   ·cases hc
  ·cases hc
 ·rename_i x' y' hca hargs
  obtain ⟨x,y,hl,hx,hy⟩:=Au hargs
  split at hc
  ·rename_i t u' ht hu'
   split at hc
   ·rename_i e d he hd
    split at hc
    ·rename_i i z hi hz
     split at hc
     ·cases hc
      exact SW H E hop hca hl hx hy ht hu' hd (sk he) hi hz hs
     ·rename_i hnd
      cases hc
      exact W5 H E hop hca hl hx hy ht hu' hd (fun k hk=>hnd k hk) (sk he) hi hz hs
    ·cases hc
   ·cases hc
  ·cases hc
 ·rename_i x' y' hca hargs
  obtain ⟨x,y,hl,hx,hy⟩:=Au hargs
  split at hc
  ·rename_i t ht
   split at hc
   ·rename_i e he
    split at hc
    ·rename_i s hsz
     cases hc
     exact ZD H E hop hca hl hx hy ht (sk he) hsz hs
    ·cases hc
   ·cases hc
  ·cases hc
 ·rename_i x' y' hca hargs
  obtain ⟨x,y,hl,hx,hy⟩:=Au hargs
  cases hc
  exact a0m H E hop hca hl hx hy hs
 ·rename_i x' y' hca hargs
  obtain ⟨x,y,hl,hx,hy⟩:=Au hargs
  cases hc
  exact a01 H E hop hca hl hx hy hs
 ·cases hc
theorem a0f [Frame] (H:aH μ h w) (E:dF μ h w f a) {C:aY} {ow:FuncId→List Nat} {o:Oper} {ao:AOp} (hc:cH P o.op=some ao) (hn:iy ao=false) {new:Nat} {v:V} {u:Upd}
 (hs:an C ow ao (Opd.ev f) h new=some (v,u)):fF P o a μ h w v u:=by
 generalize hop:o.op=op at hc
 cases op with
 |move x=>
  simp only [cH] at hc
  obtain ⟨x',hx,rfl⟩:=map_some hc
  simp only [an] at hs;cases hs
  exact Zp H E (.inl hop) hx
 |assign x=>
  simp only [cH] at hc
  obtain ⟨x',hx,rfl⟩:=map_some hc
  simp only [an] at hs;cases hs
  exact Zp H E (.inr hop) hx
 |pick c x y=>
  simp only [cH] at hc
  split at hc
  ·rename_i h1 h2 h3;cases hc;exact Zc H E hop h1 h2 h3 hs
  ·cases hc
 |alloc t=>
  simp only [cH] at hc
  obtain ⟨z,hz,rfl⟩:=map_some hc
  simp only [an] at hs
  exact XU H hop hz hs
 |box t x=>
  simp only [cH] at hc
  split at hc
  ·rename_i h1 h2;cases hc;simp only [an] at hs;exact a1M H E hop h2 hs
  ·cases hc
 |build t ps=>exact XC H E hop hc hs
 |buildSlice t len ps=>
  simp only [cH] at hc
  split at hc
  ·rename_i e he
   split at hc
   ·rename_i h1 h2 h3;cases hc;exact Km H E hop (sk he) h1 h2 h3 hs
   ·cases hc
  ·cases hc
 |load t x=>
  simp only [cH] at hc
  split at hc
  ·rename_i h1 h2
   cases hc
   simp only [an] at hs
   split at hs
   ·rename_i hr;cases hs;exact a1f H E hop h2 h1 hr
   ·cases hs
  ·cases hc
 |store t x y=>
  simp only [cH] at hc
  split at hc
  ·rename_i h1 h2 h3;cases hc;exact Of H E hop h2 h3 h1 hs
  ·cases hc
 |nilCheck x=>
  simp only [cH] at hc
  obtain ⟨x',hx,rfl⟩:=map_some hc
  exact Qo H E hop hx hs
 |binOp op t x y ty=>
  simp only [cH] at hc
  split at hc
  ·rename_i h1 h2
   split at hc
   ·rename_i fs hu
    split at hc
    ·rename_i hg
     simp only [Bool.and_eq_true,Bool.not_eq_true'] at hg
     split at hc
     ·rename_i hk;cases hc;exact OA H E hop h1 h2 hu hg.1 hg.2 hk rfl hs
     ·rename_i hk;cases hc;exact OA H E hop h1 h2 hu hg.1 hg.2 hk rfl hs
     ·cases hc
    ·cases hc
   ·rename_i hu
    split at hc
    ·cases hc;exact WA H E hop h1 h2 hu rfl hs
    ·cases hc;exact WA H E hop h1 h2 hu rfl hs
    ·cases hc
   ·cases hc;exact Wr H E hop h1 h2 hs
   ·cases hc;exact Wr H E hop h1 h2 hs
   ·rename_i hu
    split at hc
    ·cases hc;exact OF H E hop h1 h2 hu rfl hs
    ·cases hc;exact OF H E hop h1 h2 hu rfl hs
    ·cases hc
   ·cases hc
  ·cases hc
 |unOp op t x=>
  simp only [cH] at hc
  obtain ⟨x',hx,rfl⟩:=map_some hc
  exact a61 H E hop hx hs
 |convert s d x=>
  simp only [cH] at hc
  split at hc
  ·rename_i h1 h2 h3;cases hc;exact a08 H E hop h3 h1 h2 hs
  ·rename_i h1 h2 h3;cases hc;exact a0z H E hop h3 h1 h2 hs
  ·rename_i h1 h2 h3
   split at hc
   ·rename_i h4;cases hc;exact T9 H E hop h3 h1 h2 h4 hs
   ·cases hc
  ·rename_i h1 h2 h3
   split at hc
   ·rename_i h4 h5;cases hc;exact Yl H E hop h3 h1 h2 h4 hs
   ·cases hc
  ·rename_i h1 h2 h3
   split at hc
   ·rename_i h4
    split at hc
    ·rename_i h5;cases hc;exact P5 H E hop h3 h1 h2 h4 h5 hs
    ·cases hc
   ·cases hc
  ·cases hc
 |sliceToArrayPointer t x=>
  simp only [cH] at hc
  split at hc
  ·rename_i h1 h2;cases hc;exact XJ H E hop h2 h1 hs
  ·cases hc
 |makeFunc c fst caps=>
  cases c with
  |func g=>
   simp only [cH] at hc
   split at hc
   ·rename_i h1 h2;cases hc;exact PR H E hop h1 h2 hs
   ·cases hc
  |_=>simp [cH] at hc
 |makeSlice t l c=>
  simp only [cH] at hc
  split at hc
  ·rename_i e he
   split at hc
   ·rename_i h1 h2 h3 h4;cases hc;exact No H E hop h3 h4 (sk he) h1 h2 hs
   ·cases hc
  ·cases hc
 |slice t x lo hi mx=>
  simp only [cH] at hc
  split at hc
  ·rename_i h1 h2 h3 h4 h5
   cases hc
   cases mx with
   |none=>exact Rq H E hop h2 h3 h4 h1 hs
   |some m=>
    simp only [kn] at h5
    split at h5
    ·cases h5
    ·cases h5
  ·rename_i h1 h2 h3 h4 h5
   split at hc
   ·rename_i hsz;cases hc;exact XE H E hop h2 h3 h4 h5 h1 hsz hs
   ·cases hc
  ·cases hc
 |fieldAddr t x n=>
  simp only [cH] at hc
  split at hc
  ·rename_i h1 h2
   split at hc
   ·rename_i fd hf
    split at hc
    ·rename_i hsz;cases hc;exact a3o H E hop h2 h1 hf hsz hs
    ·cases hc
   ·cases hc
  ·cases hc
 |field t x n=>
  simp only [cH] at hc
  split at hc
  ·rename_i h1 h2
   split at hc
   ·rename_i fd hf
    split at hc
    ·rename_i hg;cases hc;exact Yy H E hop h2 h1 hf hg hs
    ·cases hc
   ·cases hc
  ·cases hc
 |indexAddr t x i=>
  simp only [cH] at hc
  split at hc
  ·rename_i h1 h2 h3
   split at hc
   ·rename_i hsz;cases hc;exact a3J H E hop h2 h3 h1 hsz hs
   ·cases hc
  ·rename_i h1 h2 h3
   split at hc
   ·rename_i hsz;cases hc;exact UU H E hop h2 h3 h1 hsz hs
   ·cases hc
  ·cases hc
 |index t x i=>
  simp only [cH] at hc
  split at hc
  ·rename_i h1 h2 h3;cases hc;exact XB H E hop h2 h3 h1 hs
  ·rename_i h1 h2 h3
   split at hc
   ·rename_i hsz hg;cases hc;exact YP H E hop h2 h3 h1 hsz hg hs
   ·cases hc
  ·cases hc
 |extract x i=>
  simp only [cH] at hc
  split at hc
  ·rename_i hx;cases hc;exact a3D H E hop hx hs
  ·cases hc
 |call c=>exact Uy H E hop hc hn hs
 |_=>simp [cH] at hc
end
end Go.AI
