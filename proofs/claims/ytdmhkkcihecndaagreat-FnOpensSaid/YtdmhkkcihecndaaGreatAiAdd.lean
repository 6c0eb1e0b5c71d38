/- Arrays out of slices: the machine's word on lists. -/
import Derived.Test.YtdmhkkcihecndaaGreatAiW
set_option linter.unusedVariables false
set_option linter.unusedSimpArgs false
namespace Go.AI
theorem obs {α β:Type} (a:α) (f:α→Option β):(some a).bind f=f a:=rfl
def b7N {α:Type}:List α→Option (α×α×α)
 |a::b::c::_=>some (a,b,c)
 |_=>none
def arS (m:Nat) (h:aw) (v:V):Option (V×Upd):=match nu h v with
 |some (.imm _ rows,bs)=>if 0<m∧m≤rows.length then some (.iptr rows.flatten 0,f8 bs) else none
 |_=>none
section
variable {C:ba} {ow:dg} {ev:Opd→V} {h:aw} {n:Nat} {α:Type} {e:En α} {l:List α}
end
attribute [go_sem] implies_true
end Go.AI
