/- The table is right. -/
import Derived.Test.YtdmhkkcihecndaaGreatTb1
set_option maxRecDepth 100000
namespace Go.AI.Fn
def a3x:List (Nat×a84)→Prop
 |[]=>True
 |p::r=>((∃a,p.2= .code a∧OkF p.1 a)∨(∃g,p.2= .ext g∧b1M Proofs.Tryz.prog p.1 g))∧a3x r
theorem b1B:a3x b5R:=⟨.inl ⟨_,rfl,E6⟩,.inl ⟨_,rfl,Mj⟩,.inl ⟨_,rfl,N8⟩,.inl ⟨_,rfl,Lx⟩,.inl ⟨_,rfl,PC⟩,.inl ⟨_,rfl,Su⟩,.inl ⟨_,rfl,Og⟩,.inl ⟨_,rfl,Ub⟩,.inl ⟨_,rfl,NU⟩,.inl ⟨_,rfl,Nz⟩,.inl ⟨_,rfl,Wc⟩,.inl ⟨_,rfl,Tg⟩,.inl ⟨_,rfl,NT⟩,.inl ⟨_,rfl,Wg⟩,.inl ⟨_,rfl,Ol⟩,.inl ⟨_,rfl,Vn⟩,.inl ⟨_,rfl,R6⟩,.inl ⟨_,rfl,O2⟩,.inl ⟨_,rfl,b0R⟩,.inl ⟨_,rfl,Yk⟩,.inl ⟨_,rfl,NV⟩,.inl ⟨_,rfl,GY⟩,.inl ⟨_,rfl,DK⟩,.inl ⟨_,rfl,Mg⟩,.inl ⟨_,rfl,O0⟩,.inl ⟨_,rfl,P0⟩,.inl ⟨_,rfl,a4u⟩,.inl ⟨_,rfl,Ry⟩,.inl ⟨_,rfl,L5⟩,.inl ⟨_,rfl,Yh⟩,.inl ⟨_,rfl,G8⟩,.inl ⟨_,rfl,Pc⟩,.inl ⟨_,rfl,WL⟩,.inl ⟨_,rfl,Z8⟩,.inl ⟨_,rfl,O5⟩,.inl ⟨_,rfl,MM⟩,.inl ⟨_,rfl,Jf⟩,.inl ⟨_,rfl,U9⟩,.inl ⟨_,rfl,Hj⟩,.inl ⟨_,rfl,GM⟩,.inl ⟨_,rfl,Rp⟩,.inl ⟨_,rfl,Ty⟩,.inl ⟨_,rfl,Pb⟩,.inl ⟨_,rfl,Rg⟩,.inl ⟨_,rfl,NB⟩,.inl ⟨_,rfl,X6⟩,.inl ⟨_,rfl,Uo⟩,.inl ⟨_,rfl,RJ⟩,.inl ⟨_,rfl,Lc⟩,.inl ⟨_,rfl,Pz⟩,.inl ⟨_,rfl,Re⟩,.inl ⟨_,rfl,Zp⟩,.inl ⟨_,rfl,Lr⟩,.inl ⟨_,rfl,Ws⟩,.inl ⟨_,rfl,KO⟩,.inl ⟨_,rfl,NI⟩,.inl ⟨_,rfl,OM⟩,.inl ⟨_,rfl,SH⟩,.inl ⟨_,rfl,Ys⟩,.inl ⟨_,rfl,M6⟩,.inl ⟨_,rfl,VG⟩,.inl ⟨_,rfl,P3⟩,.inl ⟨_,rfl,P7⟩,.inl ⟨_,rfl,N3⟩,.inl ⟨_,rfl,S5⟩,.inl ⟨_,rfl,MB⟩,.inl ⟨_,rfl,Om⟩,.inr ⟨_,rfl,a2L py rp qR⟩,.inl ⟨_,rfl,DW⟩,.inl ⟨_,rfl,xX⟩,.inl ⟨_,rfl,a3n⟩,.inl ⟨_,rfl,UR⟩,.inl ⟨_,rfl,EI⟩,.inl ⟨_,rfl,XW⟩,.inl ⟨_,rfl,RH⟩,.inl ⟨_,rfl,Mo⟩,.inl ⟨_,rfl,Nk⟩,.inl ⟨_,rfl,Lb⟩,.inl ⟨_,rfl,a5z⟩,.inl ⟨_,rfl,jU⟩,.inl ⟨_,rfl,GV⟩,.inl ⟨_,rfl,TQ⟩,.inl ⟨_,rfl,zw⟩,.inl ⟨_,rfl,BH⟩,.inl ⟨_,rfl,a3q⟩,.inl ⟨_,rfl,Hg⟩,.inl ⟨_,rfl,J6⟩,.inl ⟨_,rfl,a7B⟩,.inl ⟨_,rfl,RC⟩,.inl ⟨_,rfl,Dq⟩,.inl ⟨_,rfl,Jp⟩,.inl ⟨_,rfl,R8⟩,.inl ⟨_,rfl,VN⟩,.inl ⟨_,rfl,QI⟩,.inl ⟨_,rfl,WO⟩,.inl ⟨_,rfl,Ri⟩,.inl ⟨_,rfl,Tz⟩,.inl ⟨_,rfl,Oy⟩,.inl ⟨_,rfl,jw⟩,.inl ⟨_,rfl,Gt⟩,.inl ⟨_,rfl,jk⟩,.inl ⟨_,rfl,Fy⟩,.inl ⟨_,rfl,iH⟩,.inl ⟨_,rfl,DX⟩,.inl ⟨_,rfl,Tr⟩,.inl ⟨_,rfl,Ke⟩,.inl ⟨_,rfl,P6⟩,.inl ⟨_,rfl,Mk⟩,.inl ⟨_,rfl,Oc⟩,.inl ⟨_,rfl,Ra⟩,.inl ⟨_,rfl,Kq⟩,.inl ⟨_,rfl,J8⟩,.inl ⟨_,rfl,Sy⟩,.inl ⟨_,rfl,Lu⟩,.inl ⟨_,rfl,YS⟩,.inl ⟨_,rfl,OB⟩,.inl ⟨_,rfl,TG⟩,.inl ⟨_,rfl,LL⟩,.inl ⟨_,rfl,OF⟩,.inl ⟨_,rfl,QQ⟩,.inl ⟨_,rfl,Rm⟩,.inl ⟨_,rfl,Di⟩,.inl ⟨_,rfl,Ts⟩,.inl ⟨_,rfl,N1⟩,.inl ⟨_,rfl,P1⟩,.inl ⟨_,rfl,Xb⟩,.inl ⟨_,rfl,Uh⟩,.inl ⟨_,rfl,Wi⟩,.inl ⟨_,rfl,S9⟩,.inl ⟨_,rfl,MR⟩,.inl ⟨_,rfl,RI⟩,.inl ⟨_,rfl,Gr⟩,.inl ⟨_,rfl,B7⟩,.inl ⟨_,rfl,OO⟩,.inl ⟨_,rfl,Oj⟩,.inl ⟨_,rfl,Uw⟩,.inl ⟨_,rfl,P8⟩,.inl ⟨_,rfl,NE⟩,.inl ⟨_,rfl,Oi⟩,.inl ⟨_,rfl,a2a⟩,.inl ⟨_,rfl,Zo⟩,.inl ⟨_,rfl,a5Q⟩,.inl ⟨_,rfl,R4⟩,.inl ⟨_,rfl,Ti⟩,.inl ⟨_,rfl,Te⟩,.inl ⟨_,rfl,VT⟩,.inl ⟨_,rfl,GI⟩,.inl ⟨_,rfl,OP⟩,.inl ⟨_,rfl,UW⟩,.inl ⟨_,rfl,Kw⟩,.inl ⟨_,rfl,Zg⟩,.inl ⟨_,rfl,RS⟩,.inl ⟨_,rfl,a5j⟩,.inl ⟨_,rfl,lP⟩,.inl ⟨_,rfl,P4⟩,.inl ⟨_,rfl,VX⟩,.inl ⟨_,rfl,UJ⟩,.inl ⟨_,rfl,YM⟩,.inl ⟨_,rfl,tH⟩,.inl ⟨_,rfl,Jx⟩,.inl ⟨_,rfl,OQ⟩,.inl ⟨_,rfl,kU⟩,.inl ⟨_,rfl,kM⟩,.inl ⟨_,rfl,jQ⟩,.inl ⟨_,rfl,NW⟩,.inl ⟨_,rfl,Jv⟩,.inl ⟨_,rfl,RW⟩,.inl ⟨_,rfl,RU⟩,.inl ⟨_,rfl,KH⟩,.inl ⟨_,rfl,Rv⟩,.inl ⟨_,rfl,ml⟩,.inl ⟨_,rfl,ME⟩,.inl ⟨_,rfl,L6⟩,.inl ⟨_,rfl,T4⟩,.inl ⟨_,rfl,Td⟩,.inl ⟨_,rfl,J7⟩,.inl ⟨_,rfl,TP⟩,.inl ⟨_,rfl,Ou⟩,.inl ⟨_,rfl,R3⟩,.inl ⟨_,rfl,GU⟩,.inl ⟨_,rfl,J2⟩,.inl ⟨_,rfl,a3R⟩,.inl ⟨_,rfl,Hf⟩,.inl ⟨_,rfl,US⟩,.inl ⟨_,rfl,Uy⟩,.inl ⟨_,rfl,Sk⟩,.inl ⟨_,rfl,Tb⟩,.inl ⟨_,rfl,Y4⟩,.inl ⟨_,rfl,YY⟩,.inl ⟨_,rfl,KM⟩,.inl ⟨_,rfl,Mi⟩,.inl ⟨_,rfl,R0⟩,.inl ⟨_,rfl,JK⟩,.inl ⟨_,rfl,J9⟩,.inl ⟨_,rfl,pz⟩,.inl ⟨_,rfl,yq⟩,.inl ⟨_,rfl,a2v⟩,.inl ⟨_,rfl,E3⟩,.inl ⟨_,rfl,JE⟩,.inl ⟨_,rfl,Pf⟩,.inl ⟨_,rfl,Dx⟩,.inl ⟨_,rfl,DL⟩,.inl ⟨_,rfl,H9⟩,trivial⟩
theorem okL: ∀{l:List (Nat×a84)},a3x l→ ∀p∈l,(∃a,p.2= .code a∧OkF p.1 a)∨(∃g,p.2= .ext g∧b1M Proofs.Tryz.prog p.1 g)
 |[],_,p,hp=>by cases hp
 |q::r,h,p,hp=>by
  rcases List.mem_cons.1 hp with rfl|hp
  ·exact h.1
  ·exact okL h.2 p hp
theorem Tu {α:Type}: ∀{l:List (Nat×α)} {k:Nat} {v:α},dv l k=some v→(k,v)∈l
 |[],_,_,h=>by cases h
 | (j,u)::r,k,v,h=>by
   simp only [dv] at h
   split at h
   ·rename_i e;cases h;subst e;simp
   ·exact List.mem_cons_of_mem _ (Tu h)
theorem tabOK:Qj Proofs.Tryz.prog tab:=by
 refine ⟨fun f af h=> ?_,fun f g h=> ?_⟩
 ·obtain ⟨a,h1,h2⟩|⟨a,h1,h2⟩:=okL b1B _ (Tu h)
  ·cases h1;exact h2
  ·cases h1
 ·obtain ⟨a,h1,h2⟩|⟨a,h1,h2⟩:=okL b1B _ (Tu h)
  ·cases h1
  ·cases h1;exact h2
end Go.AI.Fn
