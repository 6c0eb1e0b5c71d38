/- What an argument can be, told by its type. -/
import Derived.Test.YtdmhkkcihecndaaGreatAiTop
set_option linter.unusedVariables false
namespace Go.AI
section
variable {H:Type} {P:Program}
theorem QY {n:Nat} {t:TypeId} {d:DataW H} {vs:List V} {k:IntKind} (hu:P.underlying t=some (.int k)) (h:cm P (n+1) t d=some vs): ∃m,vs=[.lit (.int k m)]∧(Lit.int k m).wf=true∧d= .lit (.int k m):=by
 cases d with
 |lit l=>
  cases l with
  |int k' m=>
   simp [cm,hu] at h
   obtain ⟨⟨rfl,hw⟩,rfl⟩:=h
   exact ⟨m,rfl,hw,rfl⟩
  |_=>simp [cm,hu] at h
 |_=>simp [cm,hu] at h
theorem Ye {n:Nat} {t:TypeId} {d:DataW H} {v:V} {fs:Array Field} (hu:P.underlying t=some (.struct fs)) (h:M6 P n t d=some v): ∃vs,v= .agg vs∧cm P n t d=some vs:=by
 unfold M6 at h
 split at h
 ·rename_i vs hd
  rw [hu] at h
  cases h
  exact ⟨vs,rfl,hd⟩
 ·cases h
theorem a25 {n:Nat} {ds:List (DataW H)} {vs:List V} (h:zo P n [] ds=some vs):ds=[]∧vs=[]:=by
 cases ds with
 |nil=>simp [zo] at h;exact ⟨rfl,h⟩
 |cons a b=>simp [zo] at h
theorem MP {n:Nat} {t:TypeId} {ts:List TypeId} {ds:List (DataW H)} {vs:List V} (h:zo P n (t::ts) ds=some vs):
 ∃d ds' a b,ds=d::ds'∧M6 P n t d=some a∧zo P n ts ds'=some b∧vs=a::b:=by
 cases ds with
 |nil=>simp [zo] at h
 |cons d ds'=>
  simp only [zo] at h
  split at h
  ·rename_i a b h1 h2
   cases h
   exact ⟨d,ds',a,b,rfl,h1,h2,rfl⟩
  ·cases h
end
end Go.AI
