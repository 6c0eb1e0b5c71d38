/- What an argument can be, told by its type. -/
import Derived.Test.YtdmhkkcihecndaaAiTop
set_option linter.unusedVariables false
namespace Go.AI
section
variable {H:Type} {P:Program}
theorem nE {n:Nat} {t:TypeId} {d:DataW H} {vs:List V} {k:IntKind} (hu:P.underlying t=some (.int k)) (h:aK P (n+1) t d=some vs): ∃m,vs=[.lit (.int k m)]∧(Lit.int k m).wf=true∧d= .lit (.int k m):=by
 cases d with
 |lit l=>
  cases l with
  |int k' m=>
   simp [aK,hu] at h
   obtain ⟨⟨rfl,hw⟩,rfl⟩:=h
   exact ⟨m,rfl,hw,rfl⟩
  |_=>simp [aK,hu] at h
 |_=>simp [aK,hu] at h
theorem ka {g:TypeId→DataW H→Option (List V)} {ds:List (DataW H)} {vs:List V} (h:dS g [] ds=some vs):ds=[]∧vs=[]:=by
 cases ds with
 |nil=>simp [dS] at h;exact ⟨rfl,h⟩
 |cons a b=>simp [dS] at h
theorem bp {g:TypeId→DataW H→Option (List V)} {f:Field} {fs:List Field} {ds:List (DataW H)} {vs:List V} (h:dS g (f::fs) ds=some vs):
 ∃d ds' a b,ds=d::ds'∧g f.type d=some a∧dS g fs ds'=some b∧vs=a++b:=by
 cases ds with
 |nil=>simp [dS] at h
 |cons d ds'=>
  simp only [dS] at h
  split at h
  ·rename_i a b h1 h2
   cases h
   exact ⟨d,ds',a,b,rfl,h1,h2,rfl⟩
  ·cases h
theorem j5 {n:Nat} {t:TypeId} {d:DataW H} {vs:List V} {fs:Array Field} (hu:P.underlying t=some (.struct fs)) (h:aK P (n+1) t d=some vs): ∃ps,d= .agg ps∧dS (aK P n) fs.toList ps=some vs:=by
 cases d with
 |agg ps=>
  simp [aK,hu] at h
  exact ⟨ps,rfl,h⟩
 |_=>simp [aK,hu] at h
theorem xn {n:Nat} {t:TypeId} {d:DataW H} {v:V} {fs:Array Field} (hu:P.underlying t=some (.struct fs)) (h:nX P n t d=some v): ∃vs,v= .agg vs∧aK P n t d=some vs:=by
 unfold nX at h
 split at h
 ·rename_i vs hd
  rw [hu] at h
  cases h
  exact ⟨vs,rfl,hd⟩
 ·cases h
theorem ON {n:Nat} {t:TypeId} {d:DataW H} {v:V} {k:IntKind} (hu:P.underlying t=some (.int k)) (h:nX P (n+1) t d=some v): ∃m,v= .lit (.int k m)∧(Lit.int k m).wf=true∧d= .lit (.int k m):=by
 unfold nX at h
 split at h
 ·rename_i vs hd
  rw [hu] at h
  obtain ⟨m,rfl,h1,h2⟩:=nE hu hd
  cases h
  exact ⟨m,rfl,h1,h2⟩
 ·cases h
theorem B5 {n:Nat} {ds:List (DataW H)} {vs:List V} (h:jz P n [] ds=some vs):ds=[]∧vs=[]:=by
 cases ds with
 |nil=>simp [jz] at h;exact ⟨rfl,h⟩
 |cons a b=>simp [jz] at h
theorem gN {n:Nat} {t:TypeId} {ts:List TypeId} {ds:List (DataW H)} {vs:List V} (h:jz P n (t::ts) ds=some vs):
 ∃d ds' a b,ds=d::ds'∧nX P n t d=some a∧jz P n ts ds'=some b∧vs=a::b:=by
 cases ds with
 |nil=>simp [jz] at h
 |cons d ds'=>
  simp only [jz] at h
  split at h
  ·rename_i a b h1 h2
   cases h
   exact ⟨d,ds',a,b,rfl,h1,h2,rfl⟩
  ·cases h
end
end Go.AI
