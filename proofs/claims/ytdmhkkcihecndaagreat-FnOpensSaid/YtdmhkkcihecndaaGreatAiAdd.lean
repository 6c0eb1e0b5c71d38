/- Arrays out of slices: the machine's word on lists. -/
import Derived.Test.YtdmhkkcihecndaaGreatAiW
set_option linter.unusedVariables false
set_option linter.unusedSimpArgs false
namespace Go.AI
def a8p {α:Type}:List α→Option (α×α×α)
 |a::b::c::_=>some (a,b,c)
 |_=>none
def arS (m:Nat) (h:au) (v:V):Option (V×Upd):=match pL h v with
 |some (.imm _ rows,bs)=>if 0<m∧m≤rows.length then some (.iptr rows.flatten 0,gJ bs) else none
 |_=>none
section
variable {C:aY} {ow:cY} {ev:Opd→V} {h:au} {n:Nat} {α:Type} {e:En α} {l:List α}
end
attribute [go_sem] implies_true
end Go.AI
