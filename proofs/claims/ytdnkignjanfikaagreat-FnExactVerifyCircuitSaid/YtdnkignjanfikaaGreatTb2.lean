/- Part. -/
import Derived.Test.YtdnkignjanfikaaGreatTb1
import Derived.Test.YtdnkignjanfikaaGreatSo6
set_option maxRecDepth 100000
namespace Go.AI.Fn
def Tj:List (Nat×a5a)→Prop
 |[]=>True
 |p::r=>((∃a,p.2= .code a∧OkF p.1 a)∨(∃g,p.2= .ext g∧NN Proofs.Tryz.prog p.1 g))∧Tj r
theorem a33:Tj b51:=⟨.inl ⟨_,rfl,ze⟩,.inl ⟨_,rfl,Rz⟩,.inl ⟨_,rfl,PT⟩,.inl ⟨_,rfl,SP⟩,.inl ⟨_,rfl,S5⟩,.inl ⟨_,rfl,WX⟩,.inl ⟨_,rfl,TS⟩,.inl ⟨_,rfl,JK⟩,.inl ⟨_,rfl,Qm⟩,.inl ⟨_,rfl,Rh⟩,.inl ⟨_,rfl,a0v⟩,.inl ⟨_,rfl,YG⟩,.inl ⟨_,rfl,Um⟩,.inl ⟨_,rfl,Jq⟩,.inl ⟨_,rfl,Ry⟩,.inl ⟨_,rfl,a30⟩,.inl ⟨_,rfl,ZF⟩,.inl ⟨_,rfl,TZ⟩,.inl ⟨_,rfl,a0q⟩,.inl ⟨_,rfl,Zm⟩,.inl ⟨_,rfl,c0o⟩,.inl ⟨_,rfl,Sd⟩,.inl ⟨_,rfl,a4V⟩,.inr ⟨_,rfl,a9Q w6 xC xw⟩,.inl ⟨_,rfl,Qx⟩,.inl ⟨_,rfl,UX⟩,.inl ⟨_,rfl,M2⟩,.inl ⟨_,rfl,Hq⟩,.inl ⟨_,rfl,JW⟩,.inl ⟨_,rfl,UR⟩,.inl ⟨_,rfl,S9⟩,.inl ⟨_,rfl,UA⟩,.inl ⟨_,rfl,b4u⟩,.inl ⟨_,rfl,Y6⟩,.inl ⟨_,rfl,R5⟩,.inl ⟨_,rfl,UL⟩,.inl ⟨_,rfl,UF⟩,.inl ⟨_,rfl,Jh⟩,.inl ⟨_,rfl,KJ⟩,.inl ⟨_,rfl,a3O⟩,.inl ⟨_,rfl,a6d⟩,.inl ⟨_,rfl,Tq⟩,.inl ⟨_,rfl,Sz⟩,.inl ⟨_,rfl,Oj⟩,.inl ⟨_,rfl,a2z⟩,.inl ⟨_,rfl,M9⟩,.inl ⟨_,rfl,Mn⟩,.inl ⟨_,rfl,Wq⟩,.inl ⟨_,rfl,WJ⟩,.inl ⟨_,rfl,a3j⟩,.inl ⟨_,rfl,GB⟩,.inl ⟨_,rfl,ZO⟩,.inl ⟨_,rfl,Yw⟩,.inl ⟨_,rfl,MI⟩,.inl ⟨_,rfl,SH⟩,.inl ⟨_,rfl,SM⟩,.inl ⟨_,rfl,YC⟩,.inl ⟨_,rfl,a2n⟩,.inl ⟨_,rfl,RP⟩,.inl ⟨_,rfl,YR⟩,.inl ⟨_,rfl,XT⟩,.inl ⟨_,rfl,Sw⟩,.inl ⟨_,rfl,a3a⟩,.inl ⟨_,rfl,a0e⟩,.inl ⟨_,rfl,YP⟩,.inl ⟨_,rfl,ZT⟩,.inl ⟨_,rfl,a6u⟩,.inl ⟨_,rfl,Rk⟩,.inl ⟨_,rfl,a1b⟩,.inl ⟨_,rfl,Y8⟩,.inl ⟨_,rfl,Xj⟩,.inl ⟨_,rfl,a6q⟩,.inl ⟨_,rfl,RN⟩,.inl ⟨_,rfl,a3w⟩,.inl ⟨_,rfl,b4m⟩,.inl ⟨_,rfl,pA⟩,.inl ⟨_,rfl,ME⟩,.inl ⟨_,rfl,a3t⟩,.inl ⟨_,rfl,b1X⟩,.inl ⟨_,rfl,b3d⟩,.inl ⟨_,rfl,P0⟩,.inr ⟨_,rfl,So.entOK false⟩,.inl ⟨_,rfl,TY⟩,.inl ⟨_,rfl,FU⟩,.inl ⟨_,rfl,TU⟩,.inl ⟨_,rfl,JJ⟩,.inl ⟨_,rfl,UY⟩,.inl ⟨_,rfl,YV⟩,.inl ⟨_,rfl,Ss⟩,.inl ⟨_,rfl,Yq⟩,.inl ⟨_,rfl,QB⟩,.inl ⟨_,rfl,TO⟩,.inl ⟨_,rfl,Tb⟩,.inl ⟨_,rfl,b3i⟩,.inl ⟨_,rfl,a5I⟩,.inl ⟨_,rfl,WA⟩,.inl ⟨_,rfl,Rf⟩,.inl ⟨_,rfl,Sa⟩,.inl ⟨_,rfl,Wt⟩,.inl ⟨_,rfl,ES⟩,.inl ⟨_,rfl,Hz⟩,.inl ⟨_,rfl,Jz⟩,.inl ⟨_,rfl,b05⟩,.inl ⟨_,rfl,Cx⟩,.inl ⟨_,rfl,MX⟩,.inl ⟨_,rfl,a9r⟩,.inl ⟨_,rfl,a03⟩,.inl ⟨_,rfl,KI⟩,.inl ⟨_,rfl,OL⟩,.inl ⟨_,rfl,XR⟩,.inl ⟨_,rfl,a2T⟩,.inl ⟨_,rfl,Yv⟩,.inl ⟨_,rfl,a1d⟩,.inl ⟨_,rfl,YJ⟩,.inl ⟨_,rfl,WB⟩,.inl ⟨_,rfl,U3⟩,.inl ⟨_,rfl,oj⟩,.inl ⟨_,rfl,M4⟩,.inl ⟨_,rfl,oS⟩,.inl ⟨_,rfl,KZ⟩,.inl ⟨_,rfl,ny⟩,.inl ⟨_,rfl,JH⟩,.inl ⟨_,rfl,QE⟩,.inl ⟨_,rfl,a29⟩,.inl ⟨_,rfl,a2W⟩,.inl ⟨_,rfl,a1T⟩,.inl ⟨_,rfl,sH⟩,.inl ⟨_,rfl,RO⟩,.inl ⟨_,rfl,Uv⟩,.inl ⟨_,rfl,Yg⟩,.inl ⟨_,rfl,Sb⟩,.inl ⟨_,rfl,Xg⟩,.inl ⟨_,rfl,U7⟩,.inl ⟨_,rfl,a6h⟩,.inl ⟨_,rfl,WY⟩,.inl ⟨_,rfl,TG⟩,.inl ⟨_,rfl,ZB⟩,.inl ⟨_,rfl,Ul⟩,.inl ⟨_,rfl,UV⟩,.inl ⟨_,rfl,PS⟩,.inl ⟨_,rfl,OB⟩,.inl ⟨_,rfl,Yo⟩,.inl ⟨_,rfl,QY⟩,.inl ⟨_,rfl,RA⟩,.inl ⟨_,rfl,UI⟩,.inl ⟨_,rfl,a3D⟩,.inl ⟨_,rfl,Rb⟩,.inl ⟨_,rfl,TE⟩,.inl ⟨_,rfl,a1v⟩,.inl ⟨_,rfl,Ra⟩,.inl ⟨_,rfl,Uh⟩,.inl ⟨_,rfl,sA⟩,.inl ⟨_,rfl,a0n⟩,.inl ⟨_,rfl,Ke⟩,.inl ⟨_,rfl,Py⟩,.inl ⟨_,rfl,tO⟩,.inl ⟨_,rfl,a81⟩,.inl ⟨_,rfl,PY⟩,.inl ⟨_,rfl,OF⟩,.inl ⟨_,rfl,a0M⟩,.inl ⟨_,rfl,Y3⟩,.inl ⟨_,rfl,XV⟩,.inl ⟨_,rfl,Xo⟩,.inl ⟨_,rfl,U6⟩,.inl ⟨_,rfl,a32⟩,.inl ⟨_,rfl,UM⟩,.inl ⟨_,rfl,TR⟩,.inl ⟨_,rfl,Ue⟩,.inl ⟨_,rfl,a9P⟩,.inl ⟨_,rfl,a5f⟩,.inl ⟨_,rfl,a01⟩,.inl ⟨_,rfl,R1⟩,.inl ⟨_,rfl,a4P⟩,.inl ⟨_,rfl,Yy⟩,.inl ⟨_,rfl,ZJ⟩,.inl ⟨_,rfl,TL⟩,.inl ⟨_,rfl,OS⟩,.inl ⟨_,rfl,XL⟩,.inl ⟨_,rfl,Uc⟩,.inl ⟨_,rfl,MW⟩,.inl ⟨_,rfl,a2Z⟩,.inl ⟨_,rfl,a4L⟩,.inl ⟨_,rfl,UG⟩,.inl ⟨_,rfl,a3h⟩,.inl ⟨_,rfl,OD⟩,.inl ⟨_,rfl,Us⟩,.inl ⟨_,rfl,qW⟩,.inl ⟨_,rfl,qP⟩,.inl ⟨_,rfl,p9⟩,.inl ⟨_,rfl,w5⟩,.inl ⟨_,rfl,SN⟩,.inl ⟨_,rfl,a2v⟩,.inl ⟨_,rfl,XM⟩,.inl ⟨_,rfl,Zs⟩,.inl ⟨_,rfl,Yx⟩,.inl ⟨_,rfl,WG⟩,.inl ⟨_,rfl,WR⟩,.inl ⟨_,rfl,Jl⟩,.inl ⟨_,rfl,P2⟩,.inl ⟨_,rfl,Ml⟩,.inl ⟨_,rfl,B4⟩,.inl ⟨_,rfl,qU⟩,.inl ⟨_,rfl,Df⟩,.inl ⟨_,rfl,OR⟩,.inl ⟨_,rfl,b2m⟩,.inl ⟨_,rfl,Wr⟩,.inl ⟨_,rfl,Zr⟩,.inl ⟨_,rfl,a1m⟩,.inl ⟨_,rfl,PR⟩,.inl ⟨_,rfl,RD⟩,.inl ⟨_,rfl,Zy⟩,.inl ⟨_,rfl,a3v⟩,.inl ⟨_,rfl,Z9⟩,.inl ⟨_,rfl,Z0⟩,.inl ⟨_,rfl,a4O⟩,.inl ⟨_,rfl,a56⟩,.inl ⟨_,rfl,P4⟩,.inl ⟨_,rfl,P1⟩,.inl ⟨_,rfl,OQ⟩,.inl ⟨_,rfl,zf⟩,.inl ⟨_,rfl,Jc⟩,.inl ⟨_,rfl,to⟩,trivial⟩
theorem okL: ∀{l:List (Nat×a5a)},Tj l→ ∀p∈l,(∃a,p.2= .code a∧OkF p.1 a)∨(∃g,p.2= .ext g∧NN Proofs.Tryz.prog p.1 g)
 |[],_,p,hp=>by cases hp
 |q::r,h,p,hp=>by
  rcases List.mem_cons.1 hp with rfl|hp
  ·exact h.1
  ·exact okL h.2 p hp
theorem Dd {α:Type}: ∀{l:List (Nat×α)} {k:Nat} {v:α},dP l k=some v→(k,v)∈l
 |[],_,_,h=>by cases h
 | (j,u)::r,k,v,h=>by
   simp only [dP] at h
   split at h
   ·rename_i e;cases h;subst e;simp
   ·exact List.mem_cons_of_mem _ (Dd h)
theorem tabOK:Ad Proofs.Tryz.prog tab:=by
 refine ⟨fun f af h=> ?_,fun f g h=> ?_⟩
 ·obtain ⟨a,h1,h2⟩|⟨a,h1,h2⟩:=okL a33 _ (Dd h)
  ·cases h1;exact h2
  ·cases h1
 ·obtain ⟨a,h1,h2⟩|⟨a,h1,h2⟩:=okL a33 _ (Dd h)
  ·cases h1
  ·cases h1;exact h2
end Go.AI.Fn
