/- The table is right. -/
import Derived.Test.YtgjlndaebhaciaaSo2
set_option maxRecDepth 100000
namespace Go.AI.So
def zK:List (Nat×Ih)→Prop
 |[]=>True
 |p::r=>((∃a,p.2= .code a∧OkF p.1 a)∨(∃g,p.2= .ext g∧xK Proofs.Try.prog p.1 g))∧zK r
theorem E3:zK NC:=⟨.inl ⟨_,rfl,kf⟩,.inl ⟨_,rfl,oA⟩,.inl ⟨_,rfl,iN⟩,.inl ⟨_,rfl,ke⟩,trivial⟩
theorem okL: ∀{l:List (Nat×Ih)},zK l→ ∀p∈l,(∃a,p.2= .code a∧OkF p.1 a)∨(∃g,p.2= .ext g∧xK Proofs.Try.prog p.1 g)
 |[],_,p,hp=>by cases hp
 |q::r,h,p,hp=>by
  rcases List.mem_cons.1 hp with rfl|hp
  ·exact h.1
  ·exact okL h.2 p hp
theorem pR {α:Type}: ∀{l:List (Nat×α)} {k:Nat} {v:α},bC l k=some v→(k,v)∈l
 |[],_,_,h=>by cases h
 | (j,u)::r,k,v,h=>by
   simp only [bC] at h
   split at h
   ·rename_i e;cases h;subst e;simp
   ·exact List.mem_cons_of_mem _ (pR h)
theorem tabOK:nX Proofs.Try.prog tab:=by
 refine ⟨fun f af h=> ?_,fun f g h=> ?_⟩
 ·obtain ⟨a,h1,h2⟩|⟨a,h1,h2⟩:=okL E3 _ (pR h)
  ·cases h1;exact h2
  ·cases h1
 ·obtain ⟨a,h1,h2⟩|⟨a,h1,h2⟩:=okL E3 _ (pR h)
  ·cases h1
  ·cases h1;exact h2
end Go.AI.So
