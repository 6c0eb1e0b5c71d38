/- What an argument can be, told by its type. -/
import Derived.Test.YtdmhkkcihecndaaGreatAiTop
set_option linter.unusedVariables false
namespace Go.AI
section
variable {H:Type} {P:Program}
theorem PV {n:Nat} {t:TypeId} {d:DataW H} {vs:List V} {k:IntKind} (hu:P.underlying t=some (.int k)) (h:bx P (n+1) t d=some vs): ∃m,vs=[.lit (.int k m)]∧(Lit.int k m).wf=true∧d= .lit (.int k m):=by
 cases d with
 |lit l=>
  cases l with
  |int k' m=>
   simp [bx,hu] at h
   obtain ⟨⟨rfl,hw⟩,rfl⟩:=h
   exact ⟨m,rfl,hw,rfl⟩
  |_=>simp [bx,hu] at h
 |_=>simp [bx,hu] at h
theorem X7 {n:Nat} {t:TypeId} {d:DataW H} {v:V} {fs:Array Field} (hu:P.underlying t=some (.struct fs)) (h:Pk P n t d=some v): ∃vs,v= .agg vs∧bx P n t d=some vs:=by
 unfold Pk at h
 split at h
 ·rename_i vs hd
  rw [hu] at h
  cases h
  exact ⟨vs,rfl,hd⟩
 ·cases h
end
end Go.AI
