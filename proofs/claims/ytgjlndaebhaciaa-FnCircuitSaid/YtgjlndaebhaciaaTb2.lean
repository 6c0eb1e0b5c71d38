/- The table is right. -/
import Derived.Test.YtgjlndaebhaciaaTb1
import Derived.Test.YtgjlndaebhaciaaSo6
set_option maxRecDepth 100000
namespace Go.AI.Fn
def xi:List (Nat×ED)→Prop
 |[]=>True
 |p::r=>((∃a,p.2= .code a∧OkF p.1 a)∨(∃g,p.2= .ext g∧vv Proofs.Try.prog p.1 g))∧xi r
theorem Ep:xi KM:=⟨.inl ⟨_,rfl,xu⟩,.inl ⟨_,rfl,zs⟩,.inl ⟨_,rfl,yW⟩,.inl ⟨_,rfl,xl⟩,.inl ⟨_,rfl,yS⟩,.inl ⟨_,rfl,w8⟩,.inl ⟨_,rfl,vZ⟩,.inl ⟨_,rfl,wG⟩,.inl ⟨_,rfl,BE⟩,.inl ⟨_,rfl,xA⟩,.inl ⟨_,rfl,z7⟩,.inl ⟨_,rfl,z6⟩,.inl ⟨_,rfl,v6⟩,.inl ⟨_,rfl,zx⟩,.inl ⟨_,rfl,xn⟩,.inl ⟨_,rfl,wx⟩,.inl ⟨_,rfl,wH⟩,.inl ⟨_,rfl,rC⟩,.inl ⟨_,rfl,wO⟩,.inl ⟨_,rfl,rB⟩,.inl ⟨_,rfl,sW⟩,.inl ⟨_,rfl,Bc⟩,.inl ⟨_,rfl,uJ⟩,.inl ⟨_,rfl,Da⟩,.inl ⟨_,rfl,CB⟩,.inl ⟨_,rfl,C6⟩,.inr ⟨_,rfl,NU nI nJ⟩,.inl ⟨_,rfl,rM⟩,.inl ⟨_,rfl,RG⟩,.inl ⟨_,rfl,r6⟩,.inl ⟨_,rfl,Eg⟩,.inl ⟨_,rfl,uz⟩,.inl ⟨_,rfl,pL⟩,.inl ⟨_,rfl,zh⟩,.inl ⟨_,rfl,Bn⟩,.inl ⟨_,rfl,B9⟩,.inl ⟨_,rfl,sE⟩,.inl ⟨_,rfl,uQ⟩,.inl ⟨_,rfl,sQ⟩,.inl ⟨_,rfl,OF⟩,.inl ⟨_,rfl,EF⟩,.inl ⟨_,rfl,Al⟩,.inl ⟨_,rfl,yZ⟩,.inl ⟨_,rfl,Bx⟩,.inl ⟨_,rfl,ze⟩,.inl ⟨_,rfl,vN⟩,.inr ⟨_,rfl,So.entOK false⟩,.inl ⟨_,rfl,uE⟩,.inl ⟨_,rfl,sM⟩,.inl ⟨_,rfl,Br⟩,.inl ⟨_,rfl,ui⟩,.inl ⟨_,rfl,Nf⟩,.inl ⟨_,rfl,Lg⟩,.inl ⟨_,rfl,wT⟩,.inl ⟨_,rfl,DT⟩,.inl ⟨_,rfl,Dz⟩,.inl ⟨_,rfl,Cm⟩,.inl ⟨_,rfl,jj⟩,.inl ⟨_,rfl,j2⟩,.inl ⟨_,rfl,wy⟩,.inl ⟨_,rfl,C0⟩,.inl ⟨_,rfl,AB⟩,.inl ⟨_,rfl,CA⟩,.inl ⟨_,rfl,D7⟩,.inl ⟨_,rfl,tZ⟩,.inl ⟨_,rfl,xF⟩,.inl ⟨_,rfl,uH⟩,.inl ⟨_,rfl,nG⟩,.inl ⟨_,rfl,ip⟩,.inl ⟨_,rfl,kC⟩,.inl ⟨_,rfl,jm⟩,trivial⟩
theorem okL: ∀{l:List (Nat×ED)},xi l→ ∀p∈l,(∃a,p.2= .code a∧OkF p.1 a)∨(∃g,p.2= .ext g∧vv Proofs.Try.prog p.1 g)
 |[],_,p,hp=>by cases hp
 |q::r,h,p,hp=>by
  rcases List.mem_cons.1 hp with rfl|hp
  ·exact h.1
  ·exact okL h.2 p hp
theorem oe {α:Type}: ∀{l:List (Nat×α)} {k:Nat} {v:α},bt l k=some v→(k,v)∈l
 |[],_,_,h=>by cases h
 | (j,u)::r,k,v,h=>by
   simp only [bt] at h
   split at h
   ·rename_i e;cases h;subst e;simp
   ·exact List.mem_cons_of_mem _ (oe h)
theorem tabOK:mO Proofs.Try.prog tab:=by
 refine ⟨fun f af h=> ?_,fun f g h=> ?_⟩
 ·obtain ⟨a,h1,h2⟩|⟨a,h1,h2⟩:=okL Ep _ (oe h)
  ·cases h1;exact h2
  ·cases h1
 ·obtain ⟨a,h1,h2⟩|⟨a,h1,h2⟩:=okL Ep _ (oe h)
  ·cases h1
  ·cases h1;exact h2
end Go.AI.Fn
