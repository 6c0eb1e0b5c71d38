/- The table is right. -/
import Derived.Test.YtgjlndaebhaciaaSo2
set_option maxRecDepth 100000
namespace Go.AI.So
def rG:List (Nat×AK)→Prop
 |[]=>True
 |p::r=>((∃a,p.2= .code a∧OkF p.1 a)∨(∃g,p.2= .ext g∧pU Proofs.Try.prog p.1 g))∧rG r
theorem z2:rG EL:=⟨.inl ⟨_,rfl,pG⟩,.inl ⟨_,rfl,tX⟩,.inl ⟨_,rfl,o8⟩,.inl ⟨_,rfl,pA⟩,trivial⟩
theorem okL: ∀{l:List (Nat×AK)},rG l→ ∀p∈l,(∃a,p.2= .code a∧OkF p.1 a)∨(∃g,p.2= .ext g∧pU Proofs.Try.prog p.1 g)
 |[],_,p,hp=>by cases hp
 |q::r,h,p,hp=>by
  rcases List.mem_cons.1 hp with rfl|hp
  ·exact h.1
  ·exact okL h.2 p hp
theorem kn {α:Type}: ∀{l:List (Nat×α)} {k:Nat} {v:α},b7 l k=some v→(k,v)∈l
 |[],_,_,h=>by cases h
 | (j,u)::r,k,v,h=>by
   simp only [b7] at h
   split at h
   ·rename_i e;cases h;subst e;simp
   ·exact List.mem_cons_of_mem _ (kn h)
theorem tabOK:jn Proofs.Try.prog tab:=by
 refine ⟨fun f af h=> ?_,fun f g h=> ?_⟩
 ·obtain ⟨a,h1,h2⟩|⟨a,h1,h2⟩:=okL z2 _ (kn h)
  ·cases h1;exact h2
  ·cases h1
 ·obtain ⟨a,h1,h2⟩|⟨a,h1,h2⟩:=okL z2 _ (kn h)
  ·cases h1
  ·cases h1;exact h2
end Go.AI.So
