/- The table is right. -/
import Derived.Test.YtdmhkkcihecndaaGreatTb1
set_option maxRecDepth 100000
namespace Go.AI.Fn
def a5X:List (Nat×b02)→Prop
 |[]=>True
 |p::r=>((∃a,p.2= .code a∧OkF p.1 a)∨(∃g,p.2= .ext g∧b2t Proofs.Tryz.prog p.1 g))∧a5X r
theorem b2u:a5X b5N:=⟨.inl ⟨_,rfl,Uy⟩,.inl ⟨_,rfl,a8I⟩,.inl ⟨_,rfl,Xo⟩,.inl ⟨_,rfl,LL⟩,.inl ⟨_,rfl,Qw⟩,.inl ⟨_,rfl,Im⟩,.inl ⟨_,rfl,Ih⟩,.inl ⟨_,rfl,Oe⟩,.inl ⟨_,rfl,Nk⟩,.inl ⟨_,rfl,In⟩,.inl ⟨_,rfl,Kv⟩,.inl ⟨_,rfl,RZ⟩,.inl ⟨_,rfl,FW⟩,.inl ⟨_,rfl,Vt⟩,.inl ⟨_,rfl,a5R⟩,.inl ⟨_,rfl,LX⟩,.inl ⟨_,rfl,Gf⟩,.inl ⟨_,rfl,MI⟩,.inl ⟨_,rfl,Ok⟩,.inl ⟨_,rfl,Np⟩,.inl ⟨_,rfl,LU⟩,.inl ⟨_,rfl,Iq⟩,.inl ⟨_,rfl,Cr⟩,.inl ⟨_,rfl,Ei⟩,.inl ⟨_,rfl,SK⟩,.inl ⟨_,rfl,a9p⟩,.inl ⟨_,rfl,Va⟩,.inl ⟨_,rfl,Yc⟩,.inl ⟨_,rfl,Ue⟩,.inl ⟨_,rfl,SJ⟩,.inl ⟨_,rfl,Ua⟩,.inl ⟨_,rfl,Tv⟩,.inl ⟨_,rfl,ZZ⟩,.inl ⟨_,rfl,SD⟩,.inl ⟨_,rfl,LD⟩,.inl ⟨_,rfl,Ti⟩,.inl ⟨_,rfl,US⟩,.inl ⟨_,rfl,Pu⟩,.inl ⟨_,rfl,Ii⟩,.inl ⟨_,rfl,E6⟩,.inl ⟨_,rfl,HG⟩,.inl ⟨_,rfl,PH⟩,.inl ⟨_,rfl,N6⟩,.inl ⟨_,rfl,PZ⟩,.inl ⟨_,rfl,Qf⟩,.inl ⟨_,rfl,TH⟩,.inl ⟨_,rfl,V6⟩,.inl ⟨_,rfl,KQ⟩,.inl ⟨_,rfl,NA⟩,.inl ⟨_,rfl,Pa⟩,.inl ⟨_,rfl,a6V⟩,.inl ⟨_,rfl,SV⟩,.inl ⟨_,rfl,Xl⟩,.inl ⟨_,rfl,OP⟩,.inl ⟨_,rfl,ZD⟩,.inl ⟨_,rfl,F9⟩,.inl ⟨_,rfl,Xw⟩,.inl ⟨_,rfl,Qc⟩,.inl ⟨_,rfl,Vd⟩,.inl ⟨_,rfl,Yl⟩,.inl ⟨_,rfl,Qy⟩,.inl ⟨_,rfl,LY⟩,.inl ⟨_,rfl,L1⟩,.inl ⟨_,rfl,UZ⟩,.inl ⟨_,rfl,I9⟩,.inl ⟨_,rfl,Ix⟩,.inl ⟨_,rfl,Tw⟩,.inl ⟨_,rfl,RW⟩,.inl ⟨_,rfl,L4⟩,.inl ⟨_,rfl,Ie⟩,.inl ⟨_,rfl,VD⟩,.inl ⟨_,rfl,Iz⟩,.inl ⟨_,rfl,Ej⟩,.inl ⟨_,rfl,Nw⟩,.inl ⟨_,rfl,SA⟩,.inl ⟨_,rfl,Sj⟩,.inl ⟨_,rfl,Xm⟩,.inl ⟨_,rfl,P6⟩,.inl ⟨_,rfl,a5L⟩,.inl ⟨_,rfl,Wv⟩,.inl ⟨_,rfl,LG⟩,.inl ⟨_,rfl,Pw⟩,.inl ⟨_,rfl,PU⟩,.inl ⟨_,rfl,LN⟩,.inl ⟨_,rfl,PW⟩,.inl ⟨_,rfl,Oa⟩,.inl ⟨_,rfl,Pj⟩,.inr ⟨_,rfl,a2D pX rG qN⟩,.inl ⟨_,rfl,Bf⟩,.inl ⟨_,rfl,Ev⟩,.inl ⟨_,rfl,Qj⟩,.inl ⟨_,rfl,Ed⟩,.inl ⟨_,rfl,y8⟩,.inl ⟨_,rfl,EP⟩,.inl ⟨_,rfl,a36⟩,.inl ⟨_,rfl,Ve⟩,.inl ⟨_,rfl,G9⟩,.inl ⟨_,rfl,V5⟩,.inl ⟨_,rfl,Zh⟩,.inl ⟨_,rfl,Qp⟩,.inl ⟨_,rfl,SU⟩,.inl ⟨_,rfl,T8⟩,.inl ⟨_,rfl,SG⟩,.inl ⟨_,rfl,Qt⟩,.inl ⟨_,rfl,Mp⟩,.inl ⟨_,rfl,O9⟩,.inl ⟨_,rfl,Uf⟩,.inl ⟨_,rfl,Of⟩,.inl ⟨_,rfl,a6W⟩,.inl ⟨_,rfl,kV⟩,.inl ⟨_,rfl,HI⟩,.inl ⟨_,rfl,SS⟩,.inl ⟨_,rfl,A6⟩,.inl ⟨_,rfl,Ct⟩,.inl ⟨_,rfl,a2K⟩,.inl ⟨_,rfl,I2⟩,.inl ⟨_,rfl,KR⟩,.inl ⟨_,rfl,a66⟩,.inl ⟨_,rfl,Uj⟩,.inl ⟨_,rfl,Ew⟩,.inl ⟨_,rfl,L8⟩,.inl ⟨_,rfl,Uq⟩,.inl ⟨_,rfl,VM⟩,.inl ⟨_,rfl,S3⟩,.inl ⟨_,rfl,X5⟩,.inl ⟨_,rfl,TZ⟩,.inl ⟨_,rfl,TU⟩,.inl ⟨_,rfl,Qx⟩,.inl ⟨_,rfl,kq⟩,.inl ⟨_,rfl,Iw⟩,.inl ⟨_,rfl,jX⟩,.inl ⟨_,rfl,FV⟩,.inl ⟨_,rfl,jn⟩,.inl ⟨_,rfl,EH⟩,.inl ⟨_,rfl,UP⟩,.inl ⟨_,rfl,Sv⟩,.inl ⟨_,rfl,Kw⟩,.inl ⟨_,rfl,Tp⟩,.inl ⟨_,rfl,Hi⟩,.inl ⟨_,rfl,Y3⟩,.inl ⟨_,rfl,Vf⟩,.inl ⟨_,rfl,X6⟩,.inl ⟨_,rfl,Io⟩,.inl ⟨_,rfl,PT⟩,.inl ⟨_,rfl,Wi⟩,.inl ⟨_,rfl,PS⟩,.inl ⟨_,rfl,PN⟩,.inl ⟨_,rfl,PC⟩,.inl ⟨_,rfl,Xx⟩,.inl ⟨_,rfl,a46⟩,.inl ⟨_,rfl,YS⟩,.inl ⟨_,rfl,a7d⟩,.inl ⟨_,rfl,T7⟩,.inl ⟨_,rfl,U8⟩,.inl ⟨_,rfl,Vy⟩,.inl ⟨_,rfl,Ux⟩,.inl ⟨_,rfl,UT⟩,.inl ⟨_,rfl,XU⟩,.inl ⟨_,rfl,Sw⟩,.inl ⟨_,rfl,Hv⟩,.inl ⟨_,rfl,ZO⟩,.inl ⟨_,rfl,Pf⟩,.inl ⟨_,rfl,Xa⟩,.inl ⟨_,rfl,Mj⟩,.inl ⟨_,rfl,Xk⟩,.inl ⟨_,rfl,YJ⟩,.inl ⟨_,rfl,Uz⟩,.inl ⟨_,rfl,Sl⟩,.inl ⟨_,rfl,a6O⟩,.inl ⟨_,rfl,mV⟩,.inl ⟨_,rfl,PL⟩,.inl ⟨_,rfl,X3⟩,.inl ⟨_,rfl,Xz⟩,.inl ⟨_,rfl,Yz⟩,.inl ⟨_,rfl,tX⟩,.inl ⟨_,rfl,L9⟩,.inl ⟨_,rfl,Ph⟩,.inl ⟨_,rfl,mc⟩,.inl ⟨_,rfl,lH⟩,.inl ⟨_,rfl,kw⟩,.inl ⟨_,rfl,Q6⟩,.inl ⟨_,rfl,Kr⟩,.inl ⟨_,rfl,T5⟩,.inl ⟨_,rfl,UQ⟩,.inl ⟨_,rfl,T4⟩,.inl ⟨_,rfl,L0⟩,.inl ⟨_,rfl,a6v⟩,.inl ⟨_,rfl,Hu⟩,.inl ⟨_,rfl,W8⟩,.inl ⟨_,rfl,ZY⟩,.inl ⟨_,rfl,Yg⟩,.inl ⟨_,rfl,OJ⟩,.inl ⟨_,rfl,Uh⟩,.inl ⟨_,rfl,Zm⟩,.inl ⟨_,rfl,Ts⟩,.inl ⟨_,rfl,Ys⟩,.inl ⟨_,rfl,Yn⟩,.inl ⟨_,rfl,ND⟩,.inl ⟨_,rfl,Mm⟩,.inl ⟨_,rfl,Tn⟩,.inl ⟨_,rfl,EC⟩,trivial⟩
theorem okL: ∀{l:List (Nat×b02)},a5X l→ ∀p∈l,(∃a,p.2= .code a∧OkF p.1 a)∨(∃g,p.2= .ext g∧b2t Proofs.Tryz.prog p.1 g)
 |[],_,p,hp=>by cases hp
 |q::r,h,p,hp=>by
  rcases List.mem_cons.1 hp with rfl|hp
  ·exact h.1
  ·exact okL h.2 p hp
theorem Tc {α:Type}: ∀{l:List (Nat×α)} {k:Nat} {v:α},dn l k=some v→(k,v)∈l
 |[],_,_,h=>by cases h
 | (j,u)::r,k,v,h=>by
   simp only [dn] at h
   split at h
   ·rename_i e;cases h;subst e;simp
   ·exact List.mem_cons_of_mem _ (Tc h)
theorem tabOK:QV Proofs.Tryz.prog tab:=by
 refine ⟨fun f af h=> ?_,fun f g h=> ?_⟩
 ·obtain ⟨a,h1,h2⟩|⟨a,h1,h2⟩:=okL b2u _ (Tc h)
  ·cases h1;exact h2
  ·cases h1
 ·obtain ⟨a,h1,h2⟩|⟨a,h1,h2⟩:=okL b2u _ (Tc h)
  ·cases h1
  ·cases h1;exact h2
end Go.AI.Fn
