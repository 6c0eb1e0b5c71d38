/- Part. -/
import Derived.Test.YtdnkignjanfikaaGreatAiTop
set_option linter.unusedVariables false
namespace Go.AI
section
variable {H:Type} {P:Program}
theorem a8E {n:Nat} {t:TypeId} {d:DataW H} {vs:List V} {k:IntKind} (a:P.underlying t=some (.int k)) (h:kE P (n+1) t d=some vs): ∃m,vs=[.lit (.int k m)]/\(Lit.int k m).wf=true/\d= .lit (.int k m):=by
 cases d with
 |lit l=>
  cases l with
  |int k' m=>
   simp [kE,a] at h
   obtain ⟨⟨rfl,b⟩,rfl⟩:=h
   exact ⟨m,rfl,b,rfl⟩
  |_=>simp [kE,a] at h
 |_=>simp [kE,a] at h
theorem a9u {n:Nat} {ds:List (DataW H)} {vs:List V} (h:F4 P n [] ds=some vs):ds=[]/\vs=[]:=by
 cases ds with
 |nil=>simp [F4] at h;exact ⟨rfl,h⟩
 |cons a b=>simp [F4] at h
theorem Sf {n:Nat} {t:TypeId} {ts:List TypeId} {ds:List (DataW H)} {vs:List V} (h:F4 P n (t::ts) ds=some vs):
 ∃d ds' a b,ds=d::ds'/\a8f P n t d=some a/\F4 P n ts ds'=some b/\vs=a::b:=by
 cases ds with
 |nil=>simp [F4] at h
 |cons d ds'=>
  simp only [F4] at h
  split at h
  ·rename_i a b c e
   cases h
   exact ⟨d,ds',a,b,rfl,c,e,rfl⟩
  ·cases h
end
end Go.AI
