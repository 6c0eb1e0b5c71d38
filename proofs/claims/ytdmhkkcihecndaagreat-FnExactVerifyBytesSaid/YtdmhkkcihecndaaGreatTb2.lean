/- The table is right. -/
import Derived.Test.YtdmhkkcihecndaaGreatTb1
set_option maxRecDepth 100000
namespace Go.AI.Fn
def b0k:List (Nat×b3F)→Prop
 |[]=>True
 |p::r=>((∃a,p.2= .code a∧OkF p.1 a)∨(∃g,p.2= .ext g∧b5o Proofs.Tryz.prog p.1 g))∧b0k r
theorem b5A:b0k b9A:=⟨.inl ⟨_,rfl,xD⟩,.inl ⟨_,rfl,OV⟩,.inl ⟨_,rfl,PT⟩,.inl ⟨_,rfl,Nc⟩,.inl ⟨_,rfl,Rz⟩,.inl ⟨_,rfl,R6⟩,.inl ⟨_,rfl,RA⟩,.inl ⟨_,rfl,OF⟩,.inl ⟨_,rfl,YO⟩,.inl ⟨_,rfl,RN⟩,.inl ⟨_,rfl,R2⟩,.inl ⟨_,rfl,XA⟩,.inl ⟨_,rfl,Rb⟩,.inl ⟨_,rfl,Kd⟩,.inl ⟨_,rfl,V3⟩,.inl ⟨_,rfl,JV⟩,.inl ⟨_,rfl,U8⟩,.inl ⟨_,rfl,b34⟩,.inl ⟨_,rfl,a2L⟩,.inl ⟨_,rfl,QB⟩,.inl ⟨_,rfl,Kc⟩,.inl ⟨_,rfl,GP⟩,.inl ⟨_,rfl,Np⟩,.inl ⟨_,rfl,R5⟩,.inl ⟨_,rfl,RJ⟩,.inl ⟨_,rfl,b1n⟩,.inl ⟨_,rfl,VI⟩,.inl ⟨_,rfl,Py⟩,.inl ⟨_,rfl,a1Y⟩,.inl ⟨_,rfl,IP⟩,.inl ⟨_,rfl,Sy⟩,.inl ⟨_,rfl,a05⟩,.inl ⟨_,rfl,a2U⟩,.inl ⟨_,rfl,QQ⟩,.inl ⟨_,rfl,OK⟩,.inl ⟨_,rfl,M8⟩,.inl ⟨_,rfl,YR⟩,.inl ⟨_,rfl,JO⟩,.inl ⟨_,rfl,Kv⟩,.inl ⟨_,rfl,Um⟩,.inl ⟨_,rfl,X1⟩,.inl ⟨_,rfl,S8⟩,.inl ⟨_,rfl,ZI⟩,.inl ⟨_,rfl,ZL⟩,.inl ⟨_,rfl,Wq⟩,.inl ⟨_,rfl,Ow⟩,.inl ⟨_,rfl,QD⟩,.inl ⟨_,rfl,a0Q⟩,.inl ⟨_,rfl,Ze⟩,.inl ⟨_,rfl,Pd⟩,.inl ⟨_,rfl,Rr⟩,.inl ⟨_,rfl,S4⟩,.inl ⟨_,rfl,a2w⟩,.inl ⟨_,rfl,Z3⟩,.inl ⟨_,rfl,U7⟩,.inl ⟨_,rfl,N9⟩,.inl ⟨_,rfl,Sb⟩,.inl ⟨_,rfl,Rs⟩,.inl ⟨_,rfl,Pa⟩,.inl ⟨_,rfl,Xk⟩,.inl ⟨_,rfl,Ol⟩,.inl ⟨_,rfl,Ss⟩,.inr ⟨_,rfl,a4M rZ tw sL⟩,.inl ⟨_,rfl,H4⟩,.inl ⟨_,rfl,zZ⟩,.inl ⟨_,rfl,a5W⟩,.inl ⟨_,rfl,YA⟩,.inl ⟨_,rfl,Ie⟩,.inl ⟨_,rfl,a2i⟩,.inl ⟨_,rfl,VG⟩,.inl ⟨_,rfl,N8⟩,.inl ⟨_,rfl,NZ⟩,.inl ⟨_,rfl,P4⟩,.inl ⟨_,rfl,a7C⟩,.inl ⟨_,rfl,lM⟩,.inl ⟨_,rfl,KH⟩,.inl ⟨_,rfl,Xa⟩,.inl ⟨_,rfl,Bj⟩,.inl ⟨_,rfl,Ef⟩,.inl ⟨_,rfl,a5B⟩,.inl ⟨_,rfl,Kh⟩,.inl ⟨_,rfl,Mr⟩,.inl ⟨_,rfl,a8o⟩,.inl ⟨_,rfl,Xr⟩,.inl ⟨_,rfl,H6⟩,.inl ⟨_,rfl,Mm⟩,.inl ⟨_,rfl,VU⟩,.inl ⟨_,rfl,Yh⟩,.inl ⟨_,rfl,Xj⟩,.inl ⟨_,rfl,a0a⟩,.inl ⟨_,rfl,UB⟩,.inl ⟨_,rfl,US⟩,.inl ⟨_,rfl,QJ⟩,.inl ⟨_,rfl,kW⟩,.inl ⟨_,rfl,K2⟩,.inl ⟨_,rfl,kX⟩,.inl ⟨_,rfl,HJ⟩,.inl ⟨_,rfl,kf⟩,.inl ⟨_,rfl,GG⟩,.inl ⟨_,rfl,Vj⟩,.inl ⟨_,rfl,Ov⟩,.inl ⟨_,rfl,QG⟩,.inl ⟨_,rfl,Uo⟩,.inl ⟨_,rfl,PG⟩,.inl ⟨_,rfl,MA⟩,.inl ⟨_,rfl,UQ⟩,.inl ⟨_,rfl,NK⟩,.inl ⟨_,rfl,a0q⟩,.inl ⟨_,rfl,SF⟩,.inl ⟨_,rfl,Wh⟩,.inl ⟨_,rfl,Ww⟩,.inl ⟨_,rfl,Uq⟩,.inl ⟨_,rfl,Hh⟩,.inl ⟨_,rfl,UW⟩,.inl ⟨_,rfl,JL⟩,.inl ⟨_,rfl,Ka⟩,.inl ⟨_,rfl,LZ⟩,.inl ⟨_,rfl,Wc⟩,.inl ⟨_,rfl,OS⟩,.inl ⟨_,rfl,BQ⟩,.inl ⟨_,rfl,yV⟩,.inl ⟨_,rfl,BT⟩,.inl ⟨_,rfl,xl⟩,.inl ⟨_,rfl,Yp⟩,.inl ⟨_,rfl,Yk⟩,.inl ⟨_,rfl,Zz⟩,.inl ⟨_,rfl,X2⟩,.inl ⟨_,rfl,Pk⟩,.inl ⟨_,rfl,VN⟩,.inl ⟨_,rfl,Kb⟩,.inl ⟨_,rfl,CY⟩,.inl ⟨_,rfl,RY⟩,.inl ⟨_,rfl,Ra⟩,.inl ⟨_,rfl,YZ⟩,.inl ⟨_,rfl,Sg⟩,.inl ⟨_,rfl,QM⟩,.inl ⟨_,rfl,QF⟩,.inl ⟨_,rfl,a4t⟩,.inl ⟨_,rfl,a1o⟩,.inl ⟨_,rfl,a7w⟩,.inl ⟨_,rfl,UR⟩,.inl ⟨_,rfl,UZ⟩,.inl ⟨_,rfl,UM⟩,.inl ⟨_,rfl,Xx⟩,.inl ⟨_,rfl,Kk⟩,.inl ⟨_,rfl,Rl⟩,.inl ⟨_,rfl,YT⟩,.inl ⟨_,rfl,Qe⟩,.inl ⟨_,rfl,a2Z⟩,.inl ⟨_,rfl,Vl⟩,.inl ⟨_,rfl,b0Z⟩,.inl ⟨_,rfl,o9⟩,.inl ⟨_,rfl,QE⟩,.inl ⟨_,rfl,ZE⟩,.inl ⟨_,rfl,YX⟩,.inl ⟨_,rfl,a0J⟩,.inl ⟨_,rfl,uU⟩,.inl ⟨_,rfl,MG⟩,.inl ⟨_,rfl,Sj⟩,.inl ⟨_,rfl,nw⟩,.inl ⟨_,rfl,np⟩,.inl ⟨_,rfl,lB⟩,.inl ⟨_,rfl,QR⟩,.inl ⟨_,rfl,Mt⟩,.inl ⟨_,rfl,Uu⟩,.inl ⟨_,rfl,NM⟩,.inl ⟨_,rfl,oD⟩,.inl ⟨_,rfl,Qv⟩,.inl ⟨_,rfl,Ns⟩,.inl ⟨_,rfl,WN⟩,.inl ⟨_,rfl,WO⟩,.inl ⟨_,rfl,Ms⟩,.inl ⟨_,rfl,VK⟩,.inl ⟨_,rfl,SL⟩,.inl ⟨_,rfl,Xl⟩,.inl ⟨_,rfl,VH⟩,.inl ⟨_,rfl,K8⟩,.inl ⟨_,rfl,Cx⟩,.inl ⟨_,rfl,Sl⟩,.inl ⟨_,rfl,JX⟩,.inl ⟨_,rfl,Mi⟩,.inl ⟨_,rfl,b0X⟩,.inl ⟨_,rfl,Km⟩,.inl ⟨_,rfl,a03⟩,.inl ⟨_,rfl,Yc⟩,.inl ⟨_,rfl,Wx⟩,.inl ⟨_,rfl,WY⟩,.inl ⟨_,rfl,a2o⟩,.inl ⟨_,rfl,a1y⟩,.inl ⟨_,rfl,No⟩,.inl ⟨_,rfl,Oh⟩,.inl ⟨_,rfl,WU⟩,.inl ⟨_,rfl,s4⟩,.inl ⟨_,rfl,z5⟩,.inl ⟨_,rfl,a5L⟩,.inl ⟨_,rfl,Hb⟩,.inl ⟨_,rfl,RV⟩,.inl ⟨_,rfl,He⟩,.inl ⟨_,rfl,GB⟩,.inl ⟨_,rfl,JN⟩,trivial⟩
theorem okL: ∀{l:List (Nat×b3F)},b0k l→ ∀p∈l,(∃a,p.2= .code a∧OkF p.1 a)∨(∃g,p.2= .ext g∧b5o Proofs.Tryz.prog p.1 g)
 |[],_,p,hp=>by cases hp
 |q::r,h,p,hp=>by
  rcases List.mem_cons.1 hp with rfl|hp
  ·exact h.1
  ·exact okL h.2 p hp
theorem UF {α:Type}: ∀{l:List (Nat×α)} {k:Nat} {v:α},dR l k=some v→(k,v)∈l
 |[],_,_,h=>by cases h
 | (j,u)::r,k,v,h=>by
   simp only [dR] at h
   split at h
   ·rename_i e;cases h;subst e;simp
   ·exact List.mem_cons_of_mem _ (UF h)
theorem tabOK:TW Proofs.Tryz.prog tab:=by
 refine ⟨fun f af h=> ?_,fun f g h=> ?_⟩
 ·obtain ⟨a,h1,h2⟩|⟨a,h1,h2⟩:=okL b5A _ (UF h)
  ·cases h1;exact h2
  ·cases h1
 ·obtain ⟨a,h1,h2⟩|⟨a,h1,h2⟩:=okL b5A _ (UF h)
  ·cases h1
  ·cases h1;exact h2
end Go.AI.Fn
