/- The table is right. -/
import Derived.Test.YtgjlndaebhaciaaTb1
import Derived.Test.YtgjlndaebhaciaaSo6
set_option maxRecDepth 100000
namespace Go.AI.Fn
def rG:List (Nat×AK)→Prop
 |[]=>True
 |p::r=>((∃a,p.2= .code a∧OkF p.1 a)∨(∃g,p.2= .ext g∧pU Proofs.Try.prog p.1 g))∧rG r
theorem z2:rG EL:=⟨.inl ⟨_,rfl,mU⟩,.inl ⟨_,rfl,tk⟩,.inl ⟨_,rfl,tz⟩,.inl ⟨_,rfl,qC⟩,.inl ⟨_,rfl,tl⟩,.inl ⟨_,rfl,tx⟩,.inl ⟨_,rfl,rn⟩,.inl ⟨_,rfl,pt⟩,.inl ⟨_,rfl,qV⟩,.inl ⟨_,rfl,qE⟩,.inl ⟨_,rfl,rO⟩,.inl ⟨_,rfl,vA⟩,.inl ⟨_,rfl,sX⟩,.inl ⟨_,rfl,sh⟩,.inl ⟨_,rfl,vf⟩,.inl ⟨_,rfl,mm⟩,.inl ⟨_,rfl,tu⟩,.inl ⟨_,rfl,vR⟩,.inl ⟨_,rfl,tm⟩,.inl ⟨_,rfl,qP⟩,.inl ⟨_,rfl,qt⟩,.inl ⟨_,rfl,KS⟩,.inl ⟨_,rfl,mr⟩,.inl ⟨_,rfl,y0⟩,.inl ⟨_,rfl,pF⟩,.inl ⟨_,rfl,vP⟩,.inl ⟨_,rfl,H7⟩,.inl ⟨_,rfl,zV⟩,.inl ⟨_,rfl,vD⟩,.inl ⟨_,rfl,tF⟩,.inl ⟨_,rfl,wc⟩,.inl ⟨_,rfl,tD⟩,.inl ⟨_,rfl,xF⟩,.inl ⟨_,rfl,qA⟩,.inr ⟨_,rfl,So.entOK true⟩,.inl ⟨_,rfl,wy⟩,.inl ⟨_,rfl,yW⟩,.inl ⟨_,rfl,wd⟩,.inl ⟨_,rfl,ym⟩,.inl ⟨_,rfl,vd⟩,.inl ⟨_,rfl,xl⟩,.inl ⟨_,rfl,xN⟩,.inl ⟨_,rfl,oP⟩,.inl ⟨_,rfl,sq⟩,trivial⟩
theorem okL: ∀{l:List (Nat×AK)},rG l→ ∀p∈l,(∃a,p.2= .code a∧OkF p.1 a)∨(∃g,p.2= .ext g∧pU Proofs.Try.prog p.1 g)
 |[],_,p,hp=>by cases hp
 |q::r,h,p,hp=>by
  rcases List.mem_cons.1 hp with rfl|hp
  ·exact h.1
  ·exact okL h.2 p hp
theorem kn {α:Type}: ∀{l:List (Nat×α)} {k:Nat} {v:α},b7 l k=some v→(k,v)∈l
 |[],_,_,h=>by cases h
 | (j,u)::r,k,v,h=>by
   simp only [b7] at h
   split at h
   ·rename_i e;cases h;subst e;simp
   ·exact List.mem_cons_of_mem _ (kn h)
theorem tabOK:jn Proofs.Try.prog tab:=by
 refine ⟨fun f af h=> ?_,fun f g h=> ?_⟩
 ·obtain ⟨a,h1,h2⟩|⟨a,h1,h2⟩:=okL z2 _ (kn h)
  ·cases h1;exact h2
  ·cases h1
 ·obtain ⟨a,h1,h2⟩|⟨a,h1,h2⟩:=okL z2 _ (kn h)
  ·cases h1
  ·cases h1;exact h2
end Go.AI.Fn
