/- The table is right. -/
import Derived.Test.YtdmhkkcihecndaaTb1
set_option maxRecDepth 100000
namespace Go.AI.Fn
def E1:List (Nat×Jr)→Prop
 |[]=>True
 |p::r=>((∃a,p.2= .code a∧OkF p.1 a)∨(∃g,p.2= .ext g∧Ki Proofs.Try.prog p.1 g))∧E1 r
theorem Kk:E1 P2:=⟨.inl ⟨_,rfl,jf⟩,.inl ⟨_,rfl,sa⟩,.inl ⟨_,rfl,vK⟩,.inl ⟨_,rfl,oY⟩,.inl ⟨_,rfl,qC⟩,.inl ⟨_,rfl,vv⟩,.inl ⟨_,rfl,yO⟩,.inl ⟨_,rfl,nP⟩,.inl ⟨_,rfl,xe⟩,.inl ⟨_,rfl,rG⟩,.inl ⟨_,rfl,oJ⟩,.inl ⟨_,rfl,s9⟩,.inl ⟨_,rfl,s3⟩,.inl ⟨_,rfl,Hv⟩,.inl ⟨_,rfl,ug⟩,.inl ⟨_,rfl,pS⟩,.inl ⟨_,rfl,yb⟩,.inl ⟨_,rfl,rq⟩,.inl ⟨_,rfl,rE⟩,.inl ⟨_,rfl,xC⟩,.inl ⟨_,rfl,yy⟩,.inl ⟨_,rfl,sf⟩,.inl ⟨_,rfl,rW⟩,.inl ⟨_,rfl,tH⟩,.inl ⟨_,rfl,rQ⟩,.inl ⟨_,rfl,sg⟩,.inl ⟨_,rfl,sh⟩,.inl ⟨_,rfl,p6⟩,.inl ⟨_,rfl,sn⟩,.inl ⟨_,rfl,oP⟩,.inl ⟨_,rfl,vy⟩,.inl ⟨_,rfl,vx⟩,.inl ⟨_,rfl,ye⟩,.inl ⟨_,rfl,wo⟩,.inl ⟨_,rfl,xl⟩,.inl ⟨_,rfl,oZ⟩,.inl ⟨_,rfl,Ga⟩,.inl ⟨_,rfl,dJ⟩,.inl ⟨_,rfl,nV⟩,.inl ⟨_,rfl,Cu⟩,.inl ⟨_,rfl,yg⟩,.inl ⟨_,rfl,tR⟩,.inl ⟨_,rfl,ze⟩,.inl ⟨_,rfl,tl⟩,.inl ⟨_,rfl,nT⟩,.inl ⟨_,rfl,jJ⟩,.inl ⟨_,rfl,rA⟩,.inl ⟨_,rfl,uA⟩,.inl ⟨_,rfl,u7⟩,.inl ⟨_,rfl,r4⟩,.inl ⟨_,rfl,wD⟩,.inl ⟨_,rfl,w8⟩,.inl ⟨_,rfl,eQ⟩,.inl ⟨_,rfl,ti⟩,.inl ⟨_,rfl,v7⟩,.inl ⟨_,rfl,uC⟩,.inl ⟨_,rfl,nJ⟩,.inl ⟨_,rfl,DP⟩,.inl ⟨_,rfl,Fy⟩,.inl ⟨_,rfl,rP⟩,.inl ⟨_,rfl,mf⟩,.inl ⟨_,rfl,nY⟩,trivial⟩
theorem okL: ∀{l:List (Nat×Jr)},E1 l→ ∀p∈l,(∃a,p.2= .code a∧OkF p.1 a)∨(∃g,p.2= .ext g∧Ki Proofs.Try.prog p.1 g)
 |[],_,p,hp=>by cases hp
 |q::r,h,p,hp=>by
  rcases List.mem_cons.1 hp with rfl|hp
  ·exact h.1
  ·exact okL h.2 p hp
theorem ub {α:Type}: ∀{l:List (Nat×α)} {k:Nat} {v:α},bq l k=some v→(k,v)∈l
 |[],_,_,h=>by cases h
 | (j,u)::r,k,v,h=>by
   simp only [bq] at h
   split at h
   ·rename_i e;cases h;subst e;simp
   ·exact List.mem_cons_of_mem _ (ub h)
theorem tabOK:sW Proofs.Try.prog tab:=by
 refine ⟨fun f af h=> ?_,fun f g h=> ?_⟩
 ·obtain ⟨a,h1,h2⟩|⟨a,h1,h2⟩:=okL Kk _ (ub h)
  ·cases h1;exact h2
  ·cases h1
 ·obtain ⟨a,h1,h2⟩|⟨a,h1,h2⟩:=okL Kk _ (ub h)
  ·cases h1
  ·cases h1;exact h2
end Go.AI.Fn
