/- The table is right. -/
import Derived.Test.YtgjlndaebhaciaaTb1
import Derived.Test.YtgjlndaebhaciaaSo6
set_option maxRecDepth 100000
namespace Go.AI.Fn
def zK:List (Nat×Ih)→Prop
 |[]=>True
 |p::r=>((∃a,p.2= .code a∧OkF p.1 a)∨(∃g,p.2= .ext g∧xK Proofs.Try.prog p.1 g))∧zK r
theorem E3:zK NC:=⟨.inl ⟨_,rfl,CP⟩,.inl ⟨_,rfl,AA⟩,.inl ⟨_,rfl,xZ⟩,.inl ⟨_,rfl,yE⟩,.inl ⟨_,rfl,zC⟩,.inl ⟨_,rfl,AN⟩,.inl ⟨_,rfl,AS⟩,.inl ⟨_,rfl,yw⟩,.inl ⟨_,rfl,AG⟩,.inl ⟨_,rfl,UV⟩,.inl ⟨_,rfl,Qw⟩,.inl ⟨_,rfl,to⟩,.inl ⟨_,rfl,Ah⟩,.inl ⟨_,rfl,tq⟩,.inl ⟨_,rfl,uD⟩,.inl ⟨_,rfl,DQ⟩,.inl ⟨_,rfl,wL⟩,.inl ⟨_,rfl,El⟩,.inl ⟨_,rfl,CX⟩,.inr ⟨_,rfl,OV oB pq⟩,.inl ⟨_,rfl,tu⟩,.inl ⟨_,rfl,Sq⟩,.inl ⟨_,rfl,sy⟩,.inl ⟨_,rfl,EO⟩,.inl ⟨_,rfl,wR⟩,.inl ⟨_,rfl,sG⟩,.inl ⟨_,rfl,B4⟩,.inl ⟨_,rfl,CG⟩,.inl ⟨_,rfl,Cc⟩,.inl ⟨_,rfl,uV⟩,.inl ⟨_,rfl,xb⟩,.inl ⟨_,rfl,uH⟩,.inl ⟨_,rfl,uq⟩,.inl ⟨_,rfl,Oj⟩,.inl ⟨_,rfl,PQ⟩,.inl ⟨_,rfl,wO⟩,.inl ⟨_,rfl,GR⟩,.inl ⟨_,rfl,B2⟩,.inl ⟨_,rfl,y6⟩,.inr ⟨_,rfl,So.entOK false⟩,.inl ⟨_,rfl,wq⟩,.inl ⟨_,rfl,uo⟩,.inl ⟨_,rfl,DB⟩,.inl ⟨_,rfl,vw⟩,.inl ⟨_,rfl,PH⟩,.inl ⟨_,rfl,Pw⟩,.inl ⟨_,rfl,Fm⟩,.inl ⟨_,rfl,EU⟩,.inl ⟨_,rfl,EE⟩,.inl ⟨_,rfl,kf⟩,.inl ⟨_,rfl,jB⟩,.inl ⟨_,rfl,zB⟩,.inl ⟨_,rfl,Dd⟩,.inl ⟨_,rfl,tn⟩,.inl ⟨_,rfl,uU⟩,.inl ⟨_,rfl,xW⟩,.inl ⟨_,rfl,EA⟩,.inl ⟨_,rfl,vY⟩,.inl ⟨_,rfl,zy⟩,.inl ⟨_,rfl,wY⟩,.inl ⟨_,rfl,oA⟩,.inl ⟨_,rfl,iN⟩,.inl ⟨_,rfl,lJ⟩,.inl ⟨_,rfl,Ec⟩,.inl ⟨_,rfl,wv⟩,.inl ⟨_,rfl,zm⟩,.inl ⟨_,rfl,Cv⟩,.inl ⟨_,rfl,FM⟩,.inl ⟨_,rfl,ke⟩,.inl ⟨_,rfl,Dn⟩,.inl ⟨_,rfl,zt⟩,.inl ⟨_,rfl,AP⟩,.inl ⟨_,rfl,AX⟩,.inl ⟨_,rfl,xY⟩,.inl ⟨_,rfl,Do⟩,.inl ⟨_,rfl,Ag⟩,.inl ⟨_,rfl,yQ⟩,.inl ⟨_,rfl,Dj⟩,trivial⟩
theorem okL: ∀{l:List (Nat×Ih)},zK l→ ∀p∈l,(∃a,p.2= .code a∧OkF p.1 a)∨(∃g,p.2= .ext g∧xK Proofs.Try.prog p.1 g)
 |[],_,p,hp=>by cases hp
 |q::r,h,p,hp=>by
  rcases List.mem_cons.1 hp with rfl|hp
  ·exact h.1
  ·exact okL h.2 p hp
theorem pR {α:Type}: ∀{l:List (Nat×α)} {k:Nat} {v:α},bC l k=some v→(k,v)∈l
 |[],_,_,h=>by cases h
 | (j,u)::r,k,v,h=>by
   simp only [bC] at h
   split at h
   ·rename_i e;cases h;subst e;simp
   ·exact List.mem_cons_of_mem _ (pR h)
theorem tabOK:nX Proofs.Try.prog tab:=by
 refine ⟨fun f af h=> ?_,fun f g h=> ?_⟩
 ·obtain ⟨a,h1,h2⟩|⟨a,h1,h2⟩:=okL E3 _ (pR h)
  ·cases h1;exact h2
  ·cases h1
 ·obtain ⟨a,h1,h2⟩|⟨a,h1,h2⟩:=okL E3 _ (pR h)
  ·cases h1
  ·cases h1;exact h2
end Go.AI.Fn
