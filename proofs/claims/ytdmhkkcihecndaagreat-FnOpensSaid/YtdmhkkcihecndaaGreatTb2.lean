/- The table is right. -/
import Derived.Test.YtdmhkkcihecndaaGreatTb1
set_option maxRecDepth 100000
namespace Go.AI.Fn
def a0a:List (Nat×a3y)→Prop
 |[]=>True
 |p::r=>((∃a,p.2= .code a∧OkF p.1 a)∨(∃g,p.2= .ext g∧a4e Proofs.Tryz.prog p.1 g))∧a0a r
theorem a42:a0a a7g:=⟨.inl ⟨_,rfl,Ri⟩,.inl ⟨_,rfl,a2p⟩,.inl ⟨_,rfl,SS⟩,.inl ⟨_,rfl,KJ⟩,.inl ⟨_,rfl,MR⟩,.inl ⟨_,rfl,G7⟩,.inl ⟨_,rfl,Gk⟩,.inl ⟨_,rfl,JH⟩,.inl ⟨_,rfl,Lu⟩,.inl ⟨_,rfl,GB⟩,.inl ⟨_,rfl,IL⟩,.inl ⟨_,rfl,Qf⟩,.inl ⟨_,rfl,E9⟩,.inl ⟨_,rfl,T4⟩,.inl ⟨_,rfl,a0t⟩,.inl ⟨_,rfl,JQ⟩,.inl ⟨_,rfl,Ee⟩,.inl ⟨_,rfl,JO⟩,.inl ⟨_,rfl,JM⟩,.inl ⟨_,rfl,LZ⟩,.inl ⟨_,rfl,KT⟩,.inl ⟨_,rfl,G3⟩,.inl ⟨_,rfl,AY⟩,.inl ⟨_,rfl,CI⟩,.inl ⟨_,rfl,Py⟩,.inl ⟨_,rfl,a1Z⟩,.inl ⟨_,rfl,Td⟩,.inl ⟨_,rfl,TR⟩,.inl ⟨_,rfl,QE⟩,.inl ⟨_,rfl,PY⟩,.inl ⟨_,rfl,Q5⟩,.inl ⟨_,rfl,PT⟩,.inl ⟨_,rfl,Um⟩,.inl ⟨_,rfl,Rf⟩,.inl ⟨_,rfl,Lf⟩,.inl ⟨_,rfl,QQ⟩,.inl ⟨_,rfl,R9⟩,.inl ⟨_,rfl,ND⟩,.inl ⟨_,rfl,FE⟩,.inl ⟨_,rfl,CT⟩,.inl ⟨_,rfl,Gd⟩,.inl ⟨_,rfl,Ng⟩,.inl ⟨_,rfl,Mx⟩,.inl ⟨_,rfl,MW⟩,.inl ⟨_,rfl,Nj⟩,.inl ⟨_,rfl,Rw⟩,.inl ⟨_,rfl,T7⟩,.inl ⟨_,rfl,Ix⟩,.inl ⟨_,rfl,M1⟩,.inl ⟨_,rfl,NL⟩,.inl ⟨_,rfl,a1s⟩,.inl ⟨_,rfl,QL⟩,.inl ⟨_,rfl,RI⟩,.inl ⟨_,rfl,JV⟩,.inl ⟨_,rfl,VN⟩,.inl ⟨_,rfl,DL⟩,.inl ⟨_,rfl,U6⟩,.inl ⟨_,rfl,MU⟩,.inl ⟨_,rfl,TC⟩,.inl ⟨_,rfl,Ut⟩,.inl ⟨_,rfl,MJ⟩,.inl ⟨_,rfl,LY⟩,.inl ⟨_,rfl,IZ⟩,.inl ⟨_,rfl,Sb⟩,.inl ⟨_,rfl,Gi⟩,.inl ⟨_,rfl,G1⟩,.inl ⟨_,rfl,Qt⟩,.inl ⟨_,rfl,Pt⟩,.inl ⟨_,rfl,IJ⟩,.inl ⟨_,rfl,Gl⟩,.inl ⟨_,rfl,SY⟩,.inl ⟨_,rfl,Gc⟩,.inl ⟨_,rfl,D1⟩,.inl ⟨_,rfl,LA⟩,.inl ⟨_,rfl,QJ⟩,.inl ⟨_,rfl,Rj⟩,.inl ⟨_,rfl,Sx⟩,.inl ⟨_,rfl,NB⟩,.inl ⟨_,rfl,a0h⟩,.inl ⟨_,rfl,RD⟩,.inl ⟨_,rfl,M6⟩,.inl ⟨_,rfl,Na⟩,.inl ⟨_,rfl,Ns⟩,.inl ⟨_,rfl,LV⟩,.inl ⟨_,rfl,MM⟩,.inl ⟨_,rfl,Kn⟩,.inl ⟨_,rfl,MY⟩,.inr ⟨_,rfl,YC oL qr pu⟩,.inl ⟨_,rfl,A4⟩,.inl ⟨_,rfl,Cv⟩,.inl ⟨_,rfl,Nr⟩,.inl ⟨_,rfl,CR⟩,.inl ⟨_,rfl,wW⟩,.inl ⟨_,rfl,DJ⟩,.inl ⟨_,rfl,YG⟩,.inl ⟨_,rfl,TD⟩,.inl ⟨_,rfl,EJ⟩,.inl ⟨_,rfl,U9⟩,.inl ⟨_,rfl,VQ⟩,.inl ⟨_,rfl,N0⟩,.inl ⟨_,rfl,Q4⟩,.inl ⟨_,rfl,Qg⟩,.inl ⟨_,rfl,PC⟩,.inl ⟨_,rfl,Nk⟩,.inl ⟨_,rfl,Lb⟩,.inl ⟨_,rfl,LI⟩,.inl ⟨_,rfl,Rc⟩,.inl ⟨_,rfl,L2⟩,.inl ⟨_,rfl,a0o⟩,.inl ⟨_,rfl,ku⟩,.inl ⟨_,rfl,FK⟩,.inl ⟨_,rfl,Pl⟩,.inl ⟨_,rfl,yB⟩,.inl ⟨_,rfl,AZ⟩,.inl ⟨_,rfl,Y7⟩,.inl ⟨_,rfl,FJ⟩,.inl ⟨_,rfl,IY⟩,.inl ⟨_,rfl,ZJ⟩,.inl ⟨_,rfl,Q3⟩,.inl ⟨_,rfl,D4⟩,.inl ⟨_,rfl,IC⟩,.inl ⟨_,rfl,PZ⟩,.inl ⟨_,rfl,TA⟩,.inl ⟨_,rfl,PJ⟩,.inl ⟨_,rfl,SL⟩,.inl ⟨_,rfl,Ru⟩,.inl ⟨_,rfl,PA⟩,.inl ⟨_,rfl,Nx⟩,.inl ⟨_,rfl,jX⟩,.inl ⟨_,rfl,FT⟩,.inl ⟨_,rfl,jG⟩,.inl ⟨_,rfl,D6⟩,.inl ⟨_,rfl,jd⟩,.inl ⟨_,rfl,Ct⟩,.inl ⟨_,rfl,Q8⟩,.inl ⟨_,rfl,Pq⟩,.inl ⟨_,rfl,Jb⟩,.inl ⟨_,rfl,PF⟩,.inl ⟨_,rfl,Dm⟩,.inl ⟨_,rfl,TE⟩,.inl ⟨_,rfl,Tv⟩,.inl ⟨_,rfl,T8⟩,.inl ⟨_,rfl,Gr⟩,.inl ⟨_,rfl,Nm⟩,.inl ⟨_,rfl,Sn⟩,.inl ⟨_,rfl,NF⟩,.inl ⟨_,rfl,ML⟩,.inl ⟨_,rfl,NA⟩,.inl ⟨_,rfl,RC⟩,.inl ⟨_,rfl,YH⟩,.inl ⟨_,rfl,UH⟩,.inl ⟨_,rfl,a1g⟩,.inl ⟨_,rfl,Pr⟩,.inl ⟨_,rfl,Qn⟩,.inl ⟨_,rfl,SU⟩,.inl ⟨_,rfl,Qq⟩,.inl ⟨_,rfl,R0⟩,.inl ⟨_,rfl,Te⟩,.inl ⟨_,rfl,QY⟩,.inl ⟨_,rfl,Gv⟩,.inl ⟨_,rfl,Vf⟩,.inl ⟨_,rfl,N5⟩,.inl ⟨_,rfl,Ui⟩,.inl ⟨_,rfl,Lz⟩,.inl ⟨_,rfl,Tw⟩,.inl ⟨_,rfl,V9⟩,.inl ⟨_,rfl,Rb⟩,.inl ⟨_,rfl,P7⟩,.inl ⟨_,rfl,ZP⟩,.inl ⟨_,rfl,mE⟩,.inl ⟨_,rfl,N3⟩,.inl ⟨_,rfl,Sf⟩,.inl ⟨_,rfl,SO⟩,.inl ⟨_,rfl,Up⟩,.inl ⟨_,rfl,sL⟩,.inl ⟨_,rfl,IP⟩,.inl ⟨_,rfl,MV⟩,.inl ⟨_,rfl,lz⟩,.inl ⟨_,rfl,lk⟩,.inl ⟨_,rfl,kq⟩,.inl ⟨_,rfl,Nt⟩,.inl ⟨_,rfl,IE⟩,.inl ⟨_,rfl,Re⟩,.inl ⟨_,rfl,QG⟩,.inl ⟨_,rfl,Rh⟩,.inl ⟨_,rfl,ID⟩,.inl ⟨_,rfl,a0U⟩,.inl ⟨_,rfl,Gg⟩,.inl ⟨_,rfl,RQ⟩,.inl ⟨_,rfl,Vy⟩,.inl ⟨_,rfl,Ud⟩,.inl ⟨_,rfl,K2⟩,.inl ⟨_,rfl,Qj⟩,.inl ⟨_,rfl,Vs⟩,.inl ⟨_,rfl,R6⟩,.inl ⟨_,rfl,VI⟩,.inl ⟨_,rfl,VD⟩,.inl ⟨_,rfl,MG⟩,.inl ⟨_,rfl,JJ⟩,.inl ⟨_,rfl,R3⟩,.inl ⟨_,rfl,Cu⟩,trivial⟩
theorem okL: ∀{l:List (Nat×a3y)},a0a l→ ∀p∈l,(∃a,p.2= .code a∧OkF p.1 a)∨(∃g,p.2= .ext g∧a4e Proofs.Tryz.prog p.1 g)
 |[],_,p,hp=>by cases hp
 |q::r,h,p,hp=>by
  rcases List.mem_cons.1 hp with rfl|hp
  ·exact h.1
  ·exact okL h.2 p hp
theorem PE {α:Type}: ∀{l:List (Nat×α)} {k:Nat} {v:α},dg l k=some v→(k,v)∈l
 |[],_,_,h=>by cases h
 | (j,u)::r,k,v,h=>by
   simp only [dg] at h
   split at h
   ·rename_i e;cases h;subst e;simp
   ·exact List.mem_cons_of_mem _ (PE h)
theorem tabOK:OY Proofs.Tryz.prog tab:=by
 refine ⟨fun f af h=> ?_,fun f g h=> ?_⟩
 ·obtain ⟨a,h1,h2⟩|⟨a,h1,h2⟩:=okL a42 _ (PE h)
  ·cases h1;exact h2
  ·cases h1
 ·obtain ⟨a,h1,h2⟩|⟨a,h1,h2⟩:=okL a42 _ (PE h)
  ·cases h1
  ·cases h1;exact h2
end Go.AI.Fn
