/- What an argument can be, told by its type. -/
import Derived.Test.YtdmhkkcihecndaaGreatAiTop
set_option linter.unusedVariables false
namespace Go.AI
section
variable {H:Type} {P:Program}
theorem NT {n:Nat} {t:TypeId} {d:DataW H} {vs:List V} {k:IntKind} (hu:P.underlying t=some (.int k)) (h:cm P (n+1) t d=some vs): ∃m,vs=[.lit (.int k m)]∧(Lit.int k m).wf=true∧d= .lit (.int k m):=by
 cases d with
 |lit l=>
  cases l with
  |int k' m=>
   simp [cm,hu] at h
   obtain ⟨⟨rfl,hw⟩,rfl⟩:=h
   exact ⟨m,rfl,hw,rfl⟩
  |_=>simp [cm,hu] at h
 |_=>simp [cm,hu] at h
theorem Ue {n:Nat} {t:TypeId} {d:DataW H} {v:V} {fs:Array Field} (hu:P.underlying t=some (.struct fs)) (h:Kl P n t d=some v): ∃vs,v= .agg vs∧cm P n t d=some vs:=by
 unfold Kl at h
 split at h
 ·rename_i vs hd
  rw [hu] at h
  cases h
  exact ⟨vs,rfl,hd⟩
 ·cases h
theorem Ye {n:Nat} {ds:List (DataW H)} {vs:List V} (h:yn P n [] ds=some vs):ds=[]∧vs=[]:=by
 cases ds with
 |nil=>simp [yn] at h;exact ⟨rfl,h⟩
 |cons a b=>simp [yn] at h
theorem Mc {n:Nat} {t:TypeId} {ts:List TypeId} {ds:List (DataW H)} {vs:List V} (h:yn P n (t::ts) ds=some vs):
 ∃d ds' a b,ds=d::ds'∧Kl P n t d=some a∧yn P n ts ds'=some b∧vs=a::b:=by
 cases ds with
 |nil=>simp [yn] at h
 |cons d ds'=>
  simp only [yn] at h
  split at h
  ·rename_i a b h1 h2
   cases h
   exact ⟨d,ds',a,b,rfl,h1,h2,rfl⟩
  ·cases h
end
end Go.AI
