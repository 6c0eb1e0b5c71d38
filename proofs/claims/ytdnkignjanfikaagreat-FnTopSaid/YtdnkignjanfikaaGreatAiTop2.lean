/- Part. -/
import Derived.Test.YtdnkignjanfikaaGreatAiTop
set_option linter.unusedVariables false
namespace Go.AI
section
variable {H:Type} {P:Program}
theorem a8P {n:Nat} {t:TypeId} {d:DataW H} {vs:List V} {k:IntKind} (a:P.underlying t=some (.int k)) (h:kD P (n+1) t d=some vs): ∃m,vs=[.lit (.int k m)]/\(Lit.int k m).wf=true/\d= .lit (.int k m):=by
 cases d with
 |lit l=>
  cases l with
  |int k' m=>
   simp [kD,a] at h
   obtain ⟨⟨rfl,b⟩,rfl⟩:=h
   exact ⟨m,rfl,b,rfl⟩
  |_=>simp [kD,a] at h
 |_=>simp [kD,a] at h
theorem a7o {n:Nat} {ds:List (DataW H)} {vs:List V} (h:F8 P n [] ds=some vs):ds=[]/\vs=[]:=by
 cases ds with
 |nil=>simp [F8] at h;exact ⟨rfl,h⟩
 |cons a b=>simp [F8] at h
theorem Ry {n:Nat} {t:TypeId} {ts:List TypeId} {ds:List (DataW H)} {vs:List V} (h:F8 P n (t::ts) ds=some vs):
 ∃d ds' a b,ds=d::ds'/\a7h P n t d=some a/\F8 P n ts ds'=some b/\vs=a::b:=by
 cases ds with
 |nil=>simp [F8] at h
 |cons d ds'=>
  simp only [F8] at h
  split at h
  ·rename_i a b c e
   cases h
   exact ⟨d,ds',a,b,rfl,c,e,rfl⟩
  ·cases h
end
end Go.AI
