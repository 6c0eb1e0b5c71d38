/- The table is right. -/
import Derived.Test.YtdnkignjanfikaaGreatTb1
import Derived.Test.YtdnkignjanfikaaGreatSo6
set_option maxRecDepth 100000
namespace Go.AI.Fn
def NK:List (Nat×ZP)→Prop
 |[]=>True
 |p::r=>((∃a,p.2= .code a∧OkF p.1 a)∨(∃g,p.2= .ext g∧Kg Proofs.Tryz.prog p.1 g))∧NK r
theorem Vl:NK b0j:=⟨.inl ⟨_,rfl,FX⟩,.inl ⟨_,rfl,GX⟩,.inl ⟨_,rfl,N3⟩,.inl ⟨_,rfl,Qi⟩,.inl ⟨_,rfl,LL⟩,.inl ⟨_,rfl,Pd⟩,.inl ⟨_,rfl,PF⟩,.inl ⟨_,rfl,LK⟩,.inl ⟨_,rfl,Ok⟩,.inl ⟨_,rfl,JX⟩,.inl ⟨_,rfl,P6⟩,.inl ⟨_,rfl,PT⟩,.inl ⟨_,rfl,O5⟩,.inl ⟨_,rfl,a0w⟩,.inl ⟨_,rfl,MP⟩,.inl ⟨_,rfl,b2C⟩,.inl ⟨_,rfl,Ny⟩,.inl ⟨_,rfl,Yn⟩,.inr ⟨_,rfl,a68 sW uo uC⟩,.inl ⟨_,rfl,Jj⟩,.inl ⟨_,rfl,Ui⟩,.inl ⟨_,rfl,NV⟩,.inl ⟨_,rfl,Pn⟩,.inl ⟨_,rfl,JC⟩,.inl ⟨_,rfl,JI⟩,.inl ⟨_,rfl,DD⟩,.inl ⟨_,rfl,UJ⟩,.inl ⟨_,rfl,FH⟩,.inl ⟨_,rfl,DJ⟩,.inl ⟨_,rfl,PA⟩,.inl ⟨_,rfl,MN⟩,.inl ⟨_,rfl,DY⟩,.inl ⟨_,rfl,Fl⟩,.inl ⟨_,rfl,Dy⟩,.inl ⟨_,rfl,Fb⟩,.inl ⟨_,rfl,WS⟩,.inl ⟨_,rfl,WT⟩,.inl ⟨_,rfl,RP⟩,.inl ⟨_,rfl,Uw⟩,.inl ⟨_,rfl,a6V⟩,.inl ⟨_,rfl,Ti⟩,.inl ⟨_,rfl,VZ⟩,.inl ⟨_,rfl,Fm⟩,.inl ⟨_,rfl,ZA⟩,.inl ⟨_,rfl,WX⟩,.inl ⟨_,rfl,W5⟩,.inl ⟨_,rfl,Wd⟩,.inl ⟨_,rfl,Ry⟩,.inl ⟨_,rfl,WE⟩,.inl ⟨_,rfl,CV⟩,.inl ⟨_,rfl,FC⟩,.inl ⟨_,rfl,Fi⟩,.inl ⟨_,rfl,Uq⟩,.inl ⟨_,rfl,Uo⟩,.inl ⟨_,rfl,JG⟩,.inl ⟨_,rfl,Jo⟩,.inl ⟨_,rfl,FA⟩,.inl ⟨_,rfl,OX⟩,.inl ⟨_,rfl,a9w⟩,.inl ⟨_,rfl,IM⟩,.inl ⟨_,rfl,mP⟩,.inl ⟨_,rfl,JM⟩,.inl ⟨_,rfl,Vg⟩,.inl ⟨_,rfl,LC⟩,.inl ⟨_,rfl,a9P⟩,.inl ⟨_,rfl,a9Y⟩,.inl ⟨_,rfl,LF⟩,.inr ⟨_,rfl,So.entOK false⟩,.inl ⟨_,rfl,GF⟩,.inl ⟨_,rfl,Qj⟩,.inl ⟨_,rfl,C7⟩,.inl ⟨_,rfl,Pm⟩,.inl ⟨_,rfl,K8⟩,.inl ⟨_,rfl,G6⟩,.inl ⟨_,rfl,Py⟩,.inl ⟨_,rfl,SP⟩,.inl ⟨_,rfl,X6⟩,.inl ⟨_,rfl,Jg⟩,.inl ⟨_,rfl,P5⟩,.inl ⟨_,rfl,Se⟩,.inl ⟨_,rfl,WF⟩,.inl ⟨_,rfl,Qb⟩,.inl ⟨_,rfl,b1m⟩,.inl ⟨_,rfl,Ww⟩,.inl ⟨_,rfl,Nu⟩,.inl ⟨_,rfl,PD⟩,.inl ⟨_,rfl,OO⟩,.inl ⟨_,rfl,a7w⟩,.inl ⟨_,rfl,O9⟩,.inl ⟨_,rfl,U8⟩,.inl ⟨_,rfl,Fo⟩,.inl ⟨_,rfl,Ab⟩,.inl ⟨_,rfl,IW⟩,.inl ⟨_,rfl,a3E⟩,.inl ⟨_,rfl,Yd⟩,.inl ⟨_,rfl,Gh⟩,.inl ⟨_,rfl,Sa⟩,.inl ⟨_,rfl,N9⟩,.inl ⟨_,rfl,Wk⟩,.inl ⟨_,rfl,XF⟩,.inl ⟨_,rfl,V9⟩,.inl ⟨_,rfl,DV⟩,.inl ⟨_,rfl,pv⟩,.inl ⟨_,rfl,Nw⟩,.inl ⟨_,rfl,Sg⟩,.inl ⟨_,rfl,RY⟩,.inl ⟨_,rfl,oV⟩,.inl ⟨_,rfl,XZ⟩,.inl ⟨_,rfl,IS⟩,.inl ⟨_,rfl,Nv⟩,.inl ⟨_,rfl,qV⟩,.inl ⟨_,rfl,a3l⟩,.inl ⟨_,rfl,Nh⟩,.inl ⟨_,rfl,D1⟩,.inl ⟨_,rfl,RL⟩,.inl ⟨_,rfl,LD⟩,.inl ⟨_,rfl,JY⟩,.inl ⟨_,rfl,Xu⟩,.inl ⟨_,rfl,RV⟩,.inl ⟨_,rfl,Um⟩,.inl ⟨_,rfl,Jz⟩,.inl ⟨_,rfl,Xk⟩,.inl ⟨_,rfl,Ph⟩,.inl ⟨_,rfl,Pv⟩,.inl ⟨_,rfl,PG⟩,.inl ⟨_,rfl,VQ⟩,.inl ⟨_,rfl,a2S⟩,.inl ⟨_,rfl,a1b⟩,.inl ⟨_,rfl,PP⟩,.inl ⟨_,rfl,Ll⟩,.inl ⟨_,rfl,Tq⟩,.inl ⟨_,rfl,Qk⟩,.inl ⟨_,rfl,JA⟩,.inl ⟨_,rfl,PK⟩,.inl ⟨_,rfl,sZ⟩,.inl ⟨_,rfl,Tn⟩,.inl ⟨_,rfl,Fp⟩,.inl ⟨_,rfl,Lp⟩,.inl ⟨_,rfl,K2⟩,.inl ⟨_,rfl,xO⟩,.inl ⟨_,rfl,nu⟩,.inl ⟨_,rfl,Ag⟩,.inl ⟨_,rfl,RE⟩,.inl ⟨_,rfl,Yt⟩,.inl ⟨_,rfl,LQ⟩,.inl ⟨_,rfl,FM⟩,.inl ⟨_,rfl,Pw⟩,.inl ⟨_,rfl,GZ⟩,.inl ⟨_,rfl,Vc⟩,.inl ⟨_,rfl,a7k⟩,.inl ⟨_,rfl,MX⟩,.inl ⟨_,rfl,OS⟩,.inl ⟨_,rfl,U4⟩,.inl ⟨_,rfl,Vn⟩,.inl ⟨_,rfl,Tv⟩,.inl ⟨_,rfl,wq⟩,.inl ⟨_,rfl,Fh⟩,.inl ⟨_,rfl,qh⟩,.inl ⟨_,rfl,ZT⟩,.inl ⟨_,rfl,Oj⟩,trivial⟩
theorem okL: ∀{l:List (Nat×ZP)},NK l→ ∀p∈l,(∃a,p.2= .code a∧OkF p.1 a)∨(∃g,p.2= .ext g∧Kg Proofs.Tryz.prog p.1 g)
 |[],_,p,hp=>by cases hp
 |q::r,h,p,hp=>by
  rcases List.mem_cons.1 hp with rfl|hp
  ·exact h.1
  ·exact okL h.2 p hp
theorem zD {α:Type}: ∀{l:List (Nat×α)} {k:Nat} {v:α},cj l k=some v→(k,v)∈l
 |[],_,_,h=>by cases h
 | (j,u)::r,k,v,h=>by
   simp only [cj] at h
   split at h
   ·rename_i e;cases h;subst e;simp
   ·exact List.mem_cons_of_mem _ (zD h)
theorem tabOK:xv Proofs.Tryz.prog tab:=by
 refine ⟨fun f af h=> ?_,fun f g h=> ?_⟩
 ·obtain ⟨a,h1,h2⟩|⟨a,h1,h2⟩:=okL Vl _ (zD h)
  ·cases h1;exact h2
  ·cases h1
 ·obtain ⟨a,h1,h2⟩|⟨a,h1,h2⟩:=okL Vl _ (zD h)
  ·cases h1
  ·cases h1;exact h2
end Go.AI.Fn
