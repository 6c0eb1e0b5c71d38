/- The table is right. -/
import Derived.Test.YtdmhkkcihecndaaTb1
set_option maxRecDepth 100000
namespace Go.AI.Fn
def Lk:List (Nat×Nt)→Prop
 |[]=>True
 |p::r=>((∃a,p.2= .code a∧OkF p.1 a)∨(∃g,p.2= .ext g∧R0 Proofs.Try.prog p.1 g))∧Lk r
theorem QZ:Lk V8:=⟨.inl ⟨_,rfl,tI⟩,.inl ⟨_,rfl,xT⟩,.inl ⟨_,rfl,yH⟩,.inl ⟨_,rfl,CQ⟩,.inl ⟨_,rfl,wD⟩,.inl ⟨_,rfl,DS⟩,.inl ⟨_,rfl,EJ⟩,.inl ⟨_,rfl,BZ⟩,.inl ⟨_,rfl,yc⟩,.inl ⟨_,rfl,ve⟩,.inl ⟨_,rfl,yb⟩,.inl ⟨_,rfl,z2⟩,.inl ⟨_,rfl,yq⟩,.inl ⟨_,rfl,Ff⟩,.inl ⟨_,rfl,BN⟩,.inl ⟨_,rfl,xH⟩,.inl ⟨_,rfl,Cm⟩,.inl ⟨_,rfl,yU⟩,.inl ⟨_,rfl,Cp⟩,.inl ⟨_,rfl,y7⟩,.inl ⟨_,rfl,vi⟩,.inl ⟨_,rfl,uZ⟩,.inl ⟨_,rfl,Oa⟩,.inl ⟨_,rfl,zW⟩,.inl ⟨_,rfl,xD⟩,.inl ⟨_,rfl,E1⟩,.inl ⟨_,rfl,xL⟩,.inl ⟨_,rfl,G3⟩,.inl ⟨_,rfl,Fx⟩,.inl ⟨_,rfl,yu⟩,.inl ⟨_,rfl,yv⟩,.inl ⟨_,rfl,AM⟩,.inl ⟨_,rfl,ye⟩,.inl ⟨_,rfl,yW⟩,.inl ⟨_,rfl,yE⟩,.inl ⟨_,rfl,vf⟩,.inl ⟨_,rfl,CD⟩,.inl ⟨_,rfl,Cd⟩,.inl ⟨_,rfl,yk⟩,.inl ⟨_,rfl,xC⟩,.inl ⟨_,rfl,qv⟩,.inl ⟨_,rfl,qr⟩,.inl ⟨_,rfl,xb⟩,.inl ⟨_,rfl,fK⟩,.inl ⟨_,rfl,um⟩,.inl ⟨_,rfl,Ev⟩,.inl ⟨_,rfl,xJ⟩,.inl ⟨_,rfl,CJ⟩,.inl ⟨_,rfl,AL⟩,.inl ⟨_,rfl,Bm⟩,.inl ⟨_,rfl,u9⟩,.inl ⟨_,rfl,oM⟩,.inl ⟨_,rfl,y4⟩,.inl ⟨_,rfl,A3⟩,.inl ⟨_,rfl,xA⟩,.inl ⟨_,rfl,J8⟩,.inl ⟨_,rfl,xd⟩,.inl ⟨_,rfl,yt⟩,.inl ⟨_,rfl,yR⟩,.inl ⟨_,rfl,xq⟩,.inl ⟨_,rfl,xf⟩,.inl ⟨_,rfl,zR⟩,.inl ⟨_,rfl,xX⟩,.inl ⟨_,rfl,tN⟩,.inr ⟨_,rfl,J1 jh jF jT⟩,.inl ⟨_,rfl,Cc⟩,.inl ⟨_,rfl,nh⟩,.inl ⟨_,rfl,gH⟩,.inl ⟨_,rfl,A2⟩,.inl ⟨_,rfl,tX⟩,.inl ⟨_,rfl,AA⟩,.inl ⟨_,rfl,i5⟩,.inl ⟨_,rfl,wO⟩,.inl ⟨_,rfl,Bg⟩,.inl ⟨_,rfl,sf⟩,.inl ⟨_,rfl,vj⟩,.inl ⟨_,rfl,y8⟩,.inl ⟨_,rfl,rL⟩,.inl ⟨_,rfl,y6⟩,.inl ⟨_,rfl,v8⟩,.inl ⟨_,rfl,B2⟩,.inl ⟨_,rfl,jl⟩,.inl ⟨_,rfl,l9⟩,.inl ⟨_,rfl,u6⟩,.inl ⟨_,rfl,vQ⟩,.inl ⟨_,rfl,vJ⟩,.inl ⟨_,rfl,A5⟩,trivial⟩
theorem okL: ∀{l:List (Nat×Nt)},Lk l→ ∀p∈l,(∃a,p.2= .code a∧OkF p.1 a)∨(∃g,p.2= .ext g∧R0 Proofs.Try.prog p.1 g)
 |[],_,p,hp=>by cases hp
 |q::r,h,p,hp=>by
  rcases List.mem_cons.1 hp with rfl|hp
  ·exact h.1
  ·exact okL h.2 p hp
theorem Ay {α:Type}: ∀{l:List (Nat×α)} {k:Nat} {v:α},bT l k=some v→(k,v)∈l
 |[],_,_,h=>by cases h
 | (j,u)::r,k,v,h=>by
   simp only [bT] at h
   split at h
   ·rename_i e;cases h;subst e;simp
   ·exact List.mem_cons_of_mem _ (Ay h)
theorem tabOK:zh Proofs.Try.prog tab:=by
 refine ⟨fun f af h=> ?_,fun f g h=> ?_⟩
 ·obtain ⟨a,h1,h2⟩|⟨a,h1,h2⟩:=okL QZ _ (Ay h)
  ·cases h1;exact h2
  ·cases h1
 ·obtain ⟨a,h1,h2⟩|⟨a,h1,h2⟩:=okL QZ _ (Ay h)
  ·cases h1
  ·cases h1;exact h2
end Go.AI.Fn
