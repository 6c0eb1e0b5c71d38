/- The table is right. -/
import Derived.Test.YtgjlndaebhaciaaTb1
import Derived.Test.YtgjlndaebhaciaaSo6
set_option maxRecDepth 100000
namespace Go.AI.Fn
def rA:List (Nat×zT)→Prop
 |[]=>True
 |p::r=>((∃a,p.2= .code a∧OkF p.1 a)∨(∃g,p.2= .ext g∧q7 Proofs.Try.prog p.1 g))∧rA r
theorem wP:rA In:=⟨.inl ⟨_,rfl,mi⟩,.inl ⟨_,rfl,sG⟩,.inl ⟨_,rfl,tp⟩,.inl ⟨_,rfl,qM⟩,.inl ⟨_,rfl,sm⟩,.inl ⟨_,rfl,tL⟩,.inl ⟨_,rfl,sg⟩,.inl ⟨_,rfl,pk⟩,.inl ⟨_,rfl,qE⟩,.inl ⟨_,rfl,qO⟩,.inl ⟨_,rfl,tf⟩,.inl ⟨_,rfl,va⟩,.inl ⟨_,rfl,s7⟩,.inl ⟨_,rfl,rU⟩,.inl ⟨_,rfl,v8⟩,.inl ⟨_,rfl,mm⟩,.inl ⟨_,rfl,tD⟩,.inl ⟨_,rfl,vp⟩,.inl ⟨_,rfl,rX⟩,.inl ⟨_,rfl,qv⟩,.inl ⟨_,rfl,qC⟩,.inl ⟨_,rfl,M7⟩,.inl ⟨_,rfl,mO⟩,.inl ⟨_,rfl,yz⟩,.inl ⟨_,rfl,pm⟩,.inl ⟨_,rfl,vK⟩,.inl ⟨_,rfl,IS⟩,.inl ⟨_,rfl,zV⟩,.inl ⟨_,rfl,uH⟩,.inl ⟨_,rfl,tY⟩,.inl ⟨_,rfl,w7⟩,.inl ⟨_,rfl,to⟩,.inl ⟨_,rfl,wZ⟩,.inl ⟨_,rfl,qU⟩,.inr ⟨_,rfl,So.entOK true⟩,.inl ⟨_,rfl,wu⟩,.inl ⟨_,rfl,yy⟩,.inl ⟨_,rfl,uX⟩,.inl ⟨_,rfl,yr⟩,.inl ⟨_,rfl,wk⟩,.inl ⟨_,rfl,xq⟩,.inl ⟨_,rfl,wN⟩,.inl ⟨_,rfl,oV⟩,.inl ⟨_,rfl,sF⟩,trivial⟩
theorem okL: ∀{l:List (Nat×zT)},rA l→ ∀p∈l,(∃a,p.2= .code a∧OkF p.1 a)∨(∃g,p.2= .ext g∧q7 Proofs.Try.prog p.1 g)
 |[],_,p,hp=>by cases hp
 |q::r,h,p,hp=>by
  rcases List.mem_cons.1 hp with rfl|hp
  ·exact h.1
  ·exact okL h.2 p hp
theorem kA {α:Type}: ∀{l:List (Nat×α)} {k:Nat} {v:α},b7 l k=some v→(k,v)∈l
 |[],_,_,h=>by cases h
 | (j,u)::r,k,v,h=>by
   simp only [b7] at h
   split at h
   ·rename_i e;cases h;subst e;simp
   ·exact List.mem_cons_of_mem _ (kA h)
theorem tabOK:jk Proofs.Try.prog tab:=by
 refine ⟨fun f af h=> ?_,fun f g h=> ?_⟩
 ·obtain ⟨a,h1,h2⟩|⟨a,h1,h2⟩:=okL wP _ (kA h)
  ·cases h1;exact h2
  ·cases h1
 ·obtain ⟨a,h1,h2⟩|⟨a,h1,h2⟩:=okL wP _ (kA h)
  ·cases h1
  ·cases h1;exact h2
end Go.AI.Fn
