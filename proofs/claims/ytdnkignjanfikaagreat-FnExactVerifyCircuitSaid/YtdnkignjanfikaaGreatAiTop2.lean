/- What an argument can be, told by its type. -/
import Derived.Test.YtdnkignjanfikaaGreatAiTop
set_option linter.unusedVariables false
namespace Go.AI
section
variable {H:Type} {P:Program}
theorem b04 {n:Nat} {t:TypeId} {d:DataW H} {vs:List V} {k:IntKind} (hu:P.underlying t=some (.int k)) (h:dE P (n+1) t d=some vs): ∃m,vs=[.lit (.int k m)]/\(Lit.int k m).wf=true/\d= .lit (.int k m):=by
 cases d with
 |lit l=>
  cases l with
  |int k' m=>
   simp [dE,hu] at h
   obtain ⟨⟨rfl,hw⟩,rfl⟩:=h
   exact ⟨m,rfl,hw,rfl⟩
  |_=>simp [dE,hu] at h
 |_=>simp [dE,hu] at h
theorem mg {g:TypeId->DataW H->Option (List V)} {ds:List (DataW H)} {vs:List V} (h:qN g [] ds=some vs):ds=[]/\vs=[]:=by
 cases ds with
 |nil=>simp [qN] at h;exact ⟨rfl,h⟩
 |cons a b=>simp [qN] at h
theorem bN {g:TypeId->DataW H->Option (List V)} {f:Field} {fs:List Field} {ds:List (DataW H)} {vs:List V} (h:qN g (f::fs) ds=some vs):
 ∃d ds' a b,ds=d::ds'/\g f.type d=some a/\qN g fs ds'=some b/\vs=a++b:=by
 cases ds with
 |nil=>simp [qN] at h
 |cons d ds'=>
  simp only [qN] at h
  split at h
  ·rename_i a b h1 h2
   cases h
   exact ⟨d,ds',a,b,rfl,h1,h2,rfl⟩
  ·cases h
theorem kD {n:Nat} {t:TypeId} {d:DataW H} {vs:List V} {fs:Array Field} (hu:P.underlying t=some (.struct fs)) (h:dE P (n+1) t d=some vs): ∃ps,d= .agg ps/\qN (dE P n) fs.toList ps=some vs:=by
 cases d with
 |agg ps=>
  simp [dE,hu] at h
  exact ⟨ps,rfl,h⟩
 |_=>simp [dE,hu] at h
theorem a1K {n:Nat} {t:TypeId} {d:DataW H} {v:V} {fs:Array Field} (hu:P.underlying t=some (.struct fs)) (h:a1x P n t d=some v): ∃vs,v= .agg vs/\dE P n t d=some vs:=by
 unfold a1x at h
 split at h
 ·rename_i vs hd
  rw [hu] at h
  cases h
  exact ⟨vs,rfl,hd⟩
 ·cases h
theorem b0C {n:Nat} {ds:List (DataW H)} {vs:List V} (h:Ex P n [] ds=some vs):ds=[]/\vs=[]:=by
 cases ds with
 |nil=>simp [Ex] at h;exact ⟨rfl,h⟩
 |cons a b=>simp [Ex] at h
theorem ze {n:Nat} {t:TypeId} {ts:List TypeId} {ds:List (DataW H)} {vs:List V} (h:Ex P n (t::ts) ds=some vs):
 ∃d ds' a b,ds=d::ds'/\a1x P n t d=some a/\Ex P n ts ds'=some b/\vs=a::b:=by
 cases ds with
 |nil=>simp [Ex] at h
 |cons d ds'=>
  simp only [Ex] at h
  split at h
  ·rename_i a b h1 h2
   cases h
   exact ⟨d,ds',a,b,rfl,h1,h2,rfl⟩
  ·cases h
end
end Go.AI
