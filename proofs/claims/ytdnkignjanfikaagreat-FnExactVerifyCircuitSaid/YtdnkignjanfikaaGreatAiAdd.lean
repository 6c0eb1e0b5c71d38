/- Arrays out of slices: the machine's word on lists. -/
import Derived.Test.YtdnkignjanfikaaGreatAiW
set_option linter.unusedVariables false
set_option linter.unusedSimpArgs false
namespace Go.AI
theorem obs {α β:Type} (a:α) (f:α->Option β):(some a).bind f=f a:=rfl
theorem om {P:Prop} (p:P:=by omega):P:=p
def c4r {α:Type}:List α->Option (α×α×α)
 |a::b::c::_=>some (a,b,c)
 |_=>none
def arS (m:Nat) (h:aZ) (v:V):Option (V×Upd):=match rZ h v with
 |some (.imm _ rows,bs)=>if 0<m/\m<=rows.length then some (.iptr rows.flatten 0,jo bs) else none
 |_=>none
section
variable {C:cg} {ow:en} {ev:Opd->V} {h:aZ} {n:Nat} {α:Type} {e:En α} {l:List α}
def b2S (h:aZ) (n:Nat) (x y:V):Option (V×Upd):=br (x.cell&&y.cell) (frO (h n) n ⟨1,true,[[x],[y]]⟩ (.sl n 0 2)) none
end
attribute [go_sem] implies_true
section
variable {C:cg} {ow:en} {h:aZ} {n:Nat} {α:Type} {e:En α} {l:List α}
end
end Go.AI
