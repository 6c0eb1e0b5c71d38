/- The table is right. -/
import Derived.Test.YtgjlndaebhaciaaTb1
import Derived.Test.YtgjlndaebhaciaaSo6
set_option maxRecDepth 100000
namespace Go.AI.Fn
def rE:List (Nat×A2)→Prop
 |[]=>True
 |p::r=>((∃a,p.2= .code a∧OkF p.1 a)∨(∃g,p.2= .ext g∧qp Proofs.Try.prog p.1 g))∧rE r
theorem xN:rE Gf:=⟨.inl ⟨_,rfl,lS⟩,.inl ⟨_,rfl,rm⟩,.inl ⟨_,rfl,tR⟩,.inl ⟨_,rfl,qE⟩,.inl ⟨_,rfl,sJ⟩,.inl ⟨_,rfl,to⟩,.inl ⟨_,rfl,tc⟩,.inl ⟨_,rfl,pj⟩,.inl ⟨_,rfl,qv⟩,.inl ⟨_,rfl,qt⟩,.inl ⟨_,rfl,rT⟩,.inl ⟨_,rfl,vm⟩,.inl ⟨_,rfl,rO⟩,.inl ⟨_,rfl,sj⟩,.inl ⟨_,rfl,vZ⟩,.inl ⟨_,rfl,lY⟩,.inl ⟨_,rfl,tL⟩,.inl ⟨_,rfl,vL⟩,.inl ⟨_,rfl,rt⟩,.inl ⟨_,rfl,qF⟩,.inl ⟨_,rfl,qP⟩,.inl ⟨_,rfl,LH⟩,.inl ⟨_,rfl,mb⟩,.inl ⟨_,rfl,yH⟩,.inl ⟨_,rfl,pC⟩,.inl ⟨_,rfl,wa⟩,.inl ⟨_,rfl,FP⟩,.inl ⟨_,rfl,AS⟩,.inl ⟨_,rfl,w6⟩,.inl ⟨_,rfl,tB⟩,.inl ⟨_,rfl,vY⟩,.inl ⟨_,rfl,tV⟩,.inl ⟨_,rfl,wX⟩,.inl ⟨_,rfl,qM⟩,.inr ⟨_,rfl,So.entOK true⟩,.inl ⟨_,rfl,vX⟩,.inl ⟨_,rfl,xc⟩,.inl ⟨_,rfl,vc⟩,.inl ⟨_,rfl,yx⟩,.inl ⟨_,rfl,w5⟩,.inl ⟨_,rfl,yg⟩,.inl ⟨_,rfl,yX⟩,.inl ⟨_,rfl,oP⟩,.inl ⟨_,rfl,sF⟩,trivial⟩
theorem okL: ∀{l:List (Nat×A2)},rE l→ ∀p∈l,(∃a,p.2= .code a∧OkF p.1 a)∨(∃g,p.2= .ext g∧qp Proofs.Try.prog p.1 g)
 |[],_,p,hp=>by cases hp
 |q::r,h,p,hp=>by
  rcases List.mem_cons.1 hp with rfl|hp
  ·exact h.1
  ·exact okL h.2 p hp
theorem kG {α:Type}: ∀{l:List (Nat×α)} {k:Nat} {v:α},b7 l k=some v→(k,v)∈l
 |[],_,_,h=>by cases h
 | (j,u)::r,k,v,h=>by
   simp only [b7] at h
   split at h
   ·rename_i e;cases h;subst e;simp
   ·exact List.mem_cons_of_mem _ (kG h)
theorem tabOK:je Proofs.Try.prog tab:=by
 refine ⟨fun f af h=> ?_,fun f g h=> ?_⟩
 ·obtain ⟨a,h1,h2⟩|⟨a,h1,h2⟩:=okL xN _ (kG h)
  ·cases h1;exact h2
  ·cases h1
 ·obtain ⟨a,h1,h2⟩|⟨a,h1,h2⟩:=okL xN _ (kG h)
  ·cases h1
  ·cases h1;exact h2
end Go.AI.Fn
