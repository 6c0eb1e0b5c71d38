/- The table is right. -/
import Derived.Test.YtgjlndaebhaciaaTb1
import Derived.Test.YtgjlndaebhaciaaSo6
set_option maxRecDepth 100000
namespace Go.AI.Fn
def sk:List (Nat×zT)→Prop
 |[]=>True
 |p::r=>((∃a,p.2= .code a∧OkF p.1 a)∨(∃g,p.2= .ext g∧q5 Proofs.Try.prog p.1 g))∧sk r
theorem xQ:sk Fu:=⟨.inl ⟨_,rfl,mc⟩,.inl ⟨_,rfl,tg⟩,.inl ⟨_,rfl,tP⟩,.inl ⟨_,rfl,qy⟩,.inl ⟨_,rfl,ta⟩,.inl ⟨_,rfl,tT⟩,.inl ⟨_,rfl,sD⟩,.inl ⟨_,rfl,pi⟩,.inl ⟨_,rfl,qr⟩,.inl ⟨_,rfl,qE⟩,.inl ⟨_,rfl,sL⟩,.inl ⟨_,rfl,wi⟩,.inl ⟨_,rfl,sd⟩,.inl ⟨_,rfl,sH⟩,.inl ⟨_,rfl,vK⟩,.inl ⟨_,rfl,lY⟩,.inl ⟨_,rfl,tA⟩,.inl ⟨_,rfl,uT⟩,.inl ⟨_,rfl,sc⟩,.inl ⟨_,rfl,qN⟩,.inl ⟨_,rfl,qP⟩,.inl ⟨_,rfl,LZ⟩,.inl ⟨_,rfl,mz⟩,.inl ⟨_,rfl,yA⟩,.inl ⟨_,rfl,pq⟩,.inl ⟨_,rfl,we⟩,.inl ⟨_,rfl,G5⟩,.inl ⟨_,rfl,zG⟩,.inl ⟨_,rfl,uG⟩,.inl ⟨_,rfl,to⟩,.inl ⟨_,rfl,vP⟩,.inl ⟨_,rfl,tN⟩,.inl ⟨_,rfl,xu⟩,.inl ⟨_,rfl,qH⟩,.inr ⟨_,rfl,So.entOK true⟩,.inl ⟨_,rfl,vI⟩,.inl ⟨_,rfl,yv⟩,.inl ⟨_,rfl,w8⟩,.inl ⟨_,rfl,xO⟩,.inl ⟨_,rfl,wh⟩,.inl ⟨_,rfl,wW⟩,.inl ⟨_,rfl,xP⟩,.inl ⟨_,rfl,oV⟩,.inl ⟨_,rfl,sV⟩,trivial⟩
theorem okL: ∀{l:List (Nat×zT)},sk l→ ∀p∈l,(∃a,p.2= .code a∧OkF p.1 a)∨(∃g,p.2= .ext g∧q5 Proofs.Try.prog p.1 g)
 |[],_,p,hp=>by cases hp
 |q::r,h,p,hp=>by
  rcases List.mem_cons.1 hp with rfl|hp
  ·exact h.1
  ·exact okL h.2 p hp
theorem ku {α:Type}: ∀{l:List (Nat×α)} {k:Nat} {v:α},b7 l k=some v→(k,v)∈l
 |[],_,_,h=>by cases h
 | (j,u)::r,k,v,h=>by
   simp only [b7] at h
   split at h
   ·rename_i e;cases h;subst e;simp
   ·exact List.mem_cons_of_mem _ (ku h)
theorem tabOK:jb Proofs.Try.prog tab:=by
 refine ⟨fun f af h=> ?_,fun f g h=> ?_⟩
 ·obtain ⟨a,h1,h2⟩|⟨a,h1,h2⟩:=okL xQ _ (ku h)
  ·cases h1;exact h2
  ·cases h1
 ·obtain ⟨a,h1,h2⟩|⟨a,h1,h2⟩:=okL xQ _ (ku h)
  ·cases h1
  ·cases h1;exact h2
end Go.AI.Fn
