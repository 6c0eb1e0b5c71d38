/- The table is right. -/
import Derived.Test.YtgjlndaebhaciaaSo2
set_option maxRecDepth 100000
namespace Go.AI.So
def xi:List (Nat×ED)→Prop
 |[]=>True
 |p::r=>((∃a,p.2= .code a∧OkF p.1 a)∨(∃g,p.2= .ext g∧vv Proofs.Try.prog p.1 g))∧xi r
theorem Ep:xi KM:=⟨.inl ⟨_,rfl,jj⟩,.inl ⟨_,rfl,nG⟩,.inl ⟨_,rfl,ip⟩,.inl ⟨_,rfl,jm⟩,trivial⟩
theorem okL: ∀{l:List (Nat×ED)},xi l→ ∀p∈l,(∃a,p.2= .code a∧OkF p.1 a)∨(∃g,p.2= .ext g∧vv Proofs.Try.prog p.1 g)
 |[],_,p,hp=>by cases hp
 |q::r,h,p,hp=>by
  rcases List.mem_cons.1 hp with rfl|hp
  ·exact h.1
  ·exact okL h.2 p hp
theorem oe {α:Type}: ∀{l:List (Nat×α)} {k:Nat} {v:α},bt l k=some v→(k,v)∈l
 |[],_,_,h=>by cases h
 | (j,u)::r,k,v,h=>by
   simp only [bt] at h
   split at h
   ·rename_i e;cases h;subst e;simp
   ·exact List.mem_cons_of_mem _ (oe h)
theorem tabOK:mO Proofs.Try.prog tab:=by
 refine ⟨fun f af h=> ?_,fun f g h=> ?_⟩
 ·obtain ⟨a,h1,h2⟩|⟨a,h1,h2⟩:=okL Ep _ (oe h)
  ·cases h1;exact h2
  ·cases h1
 ·obtain ⟨a,h1,h2⟩|⟨a,h1,h2⟩:=okL Ep _ (oe h)
  ·cases h1
  ·cases h1;exact h2
end Go.AI.So
