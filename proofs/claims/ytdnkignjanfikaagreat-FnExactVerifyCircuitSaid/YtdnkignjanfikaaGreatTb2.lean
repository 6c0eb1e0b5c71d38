/- The table is right. -/
import Derived.Test.YtdnkignjanfikaaGreatTb1
import Derived.Test.YtdnkignjanfikaaGreatSo6
set_option maxRecDepth 100000
namespace Go.AI.Fn
def Qw:List (Nat×a7E)→Prop
 |[]=>True
 |p::r=>((∃a,p.2= .code a∧OkF p.1 a)∨(∃g,p.2= .ext g∧NO Proofs.Tryz.prog p.1 g))∧Qw r
theorem a1U:Qw b3v:=⟨.inl ⟨_,rfl,zI⟩,.inl ⟨_,rfl,QB⟩,.inl ⟨_,rfl,TX⟩,.inl ⟨_,rfl,Sa⟩,.inl ⟨_,rfl,RW⟩,.inl ⟨_,rfl,a0B⟩,.inl ⟨_,rfl,VP⟩,.inl ⟨_,rfl,JI⟩,.inl ⟨_,rfl,Qq⟩,.inl ⟨_,rfl,SK⟩,.inl ⟨_,rfl,a4f⟩,.inl ⟨_,rfl,YX⟩,.inl ⟨_,rfl,Wu⟩,.inl ⟨_,rfl,JE⟩,.inl ⟨_,rfl,T3⟩,.inl ⟨_,rfl,a4J⟩,.inl ⟨_,rfl,YB⟩,.inl ⟨_,rfl,UA⟩,.inl ⟨_,rfl,a2O⟩,.inl ⟨_,rfl,a0y⟩,.inl ⟨_,rfl,b9h⟩,.inl ⟨_,rfl,Rq⟩,.inl ⟨_,rfl,a6a⟩,.inr ⟨_,rfl,a9g wW xL xE⟩,.inl ⟨_,rfl,Qx⟩,.inl ⟨_,rfl,Vv⟩,.inl ⟨_,rfl,ML⟩,.inl ⟨_,rfl,HV⟩,.inl ⟨_,rfl,Kh⟩,.inl ⟨_,rfl,Wh⟩,.inl ⟨_,rfl,TQ⟩,.inl ⟨_,rfl,UB⟩,.inl ⟨_,rfl,b2I⟩,.inl ⟨_,rfl,Z2⟩,.inl ⟨_,rfl,Rg⟩,.inl ⟨_,rfl,VY⟩,.inl ⟨_,rfl,W3⟩,.inl ⟨_,rfl,K8⟩,.inl ⟨_,rfl,Ls⟩,.inl ⟨_,rfl,a5s⟩,.inl ⟨_,rfl,a5I⟩,.inl ⟨_,rfl,Wy⟩,.inl ⟨_,rfl,Ti⟩,.inl ⟨_,rfl,PG⟩,.inl ⟨_,rfl,a3F⟩,.inl ⟨_,rfl,MD⟩,.inl ⟨_,rfl,Nk⟩,.inl ⟨_,rfl,a0I⟩,.inl ⟨_,rfl,a0i⟩,.inl ⟨_,rfl,a4Z⟩,.inl ⟨_,rfl,H0⟩,.inl ⟨_,rfl,a0q⟩,.inl ⟨_,rfl,YU⟩,.inl ⟨_,rfl,Nx⟩,.inl ⟨_,rfl,RC⟩,.inl ⟨_,rfl,Rx⟩,.inl ⟨_,rfl,ZF⟩,.inl ⟨_,rfl,a4O⟩,.inl ⟨_,rfl,Ul⟩,.inl ⟨_,rfl,Zi⟩,.inl ⟨_,rfl,Yg⟩,.inl ⟨_,rfl,QR⟩,.inl ⟨_,rfl,a2i⟩,.inl ⟨_,rfl,a2t⟩,.inl ⟨_,rfl,a0c⟩,.inl ⟨_,rfl,a0v⟩,.inl ⟨_,rfl,a60⟩,.inl ⟨_,rfl,QK⟩,.inl ⟨_,rfl,a2f⟩,.inl ⟨_,rfl,Zg⟩,.inl ⟨_,rfl,a0p⟩,.inl ⟨_,rfl,a7J⟩,.inl ⟨_,rfl,R1⟩,.inl ⟨_,rfl,a2W⟩,.inl ⟨_,rfl,b3y⟩,.inl ⟨_,rfl,pZ⟩,.inl ⟨_,rfl,MR⟩,.inl ⟨_,rfl,a4N⟩,.inl ⟨_,rfl,b6D⟩,.inl ⟨_,rfl,b2f⟩,.inl ⟨_,rfl,Pz⟩,.inr ⟨_,rfl,So.entOK false⟩,.inl ⟨_,rfl,V6⟩,.inl ⟨_,rfl,H8⟩,.inl ⟨_,rfl,W9⟩,.inl ⟨_,rfl,Kk⟩,.inl ⟨_,rfl,Ve⟩,.inl ⟨_,rfl,Zq⟩,.inl ⟨_,rfl,Ss⟩,.inl ⟨_,rfl,YZ⟩,.inl ⟨_,rfl,Sg⟩,.inl ⟨_,rfl,VJ⟩,.inl ⟨_,rfl,Rl⟩,.inl ⟨_,rfl,b2t⟩,.inl ⟨_,rfl,a5Y⟩,.inl ⟨_,rfl,a1b⟩,.inl ⟨_,rfl,RY⟩,.inl ⟨_,rfl,SD⟩,.inl ⟨_,rfl,YI⟩,.inl ⟨_,rfl,Fj⟩,.inl ⟨_,rfl,I6⟩,.inl ⟨_,rfl,JK⟩,.inl ⟨_,rfl,b1R⟩,.inl ⟨_,rfl,Ed⟩,.inl ⟨_,rfl,Ny⟩,.inl ⟨_,rfl,a9G⟩,.inl ⟨_,rfl,a2w⟩,.inl ⟨_,rfl,KC⟩,.inl ⟨_,rfl,Pb⟩,.inl ⟨_,rfl,YS⟩,.inl ⟨_,rfl,a3M⟩,.inl ⟨_,rfl,ZN⟩,.inl ⟨_,rfl,a3C⟩,.inl ⟨_,rfl,a0a⟩,.inl ⟨_,rfl,a1d⟩,.inl ⟨_,rfl,Wx⟩,.inl ⟨_,rfl,oO⟩,.inl ⟨_,rfl,MV⟩,.inl ⟨_,rfl,oS⟩,.inl ⟨_,rfl,KP⟩,.inl ⟨_,rfl,nX⟩,.inl ⟨_,rfl,JO⟩,.inl ⟨_,rfl,RP⟩,.inl ⟨_,rfl,a2v⟩,.inl ⟨_,rfl,a4K⟩,.inl ⟨_,rfl,a3L⟩,.inl ⟨_,rfl,tg⟩,.inl ⟨_,rfl,Ur⟩,.inl ⟨_,rfl,Vq⟩,.inl ⟨_,rfl,ZP⟩,.inl ⟨_,rfl,U7⟩,.inl ⟨_,rfl,Zy⟩,.inl ⟨_,rfl,Vl⟩,.inl ⟨_,rfl,a6o⟩,.inl ⟨_,rfl,ZX⟩,.inl ⟨_,rfl,Vo⟩,.inl ⟨_,rfl,a1g⟩,.inl ⟨_,rfl,VH⟩,.inl ⟨_,rfl,Vr⟩,.inl ⟨_,rfl,RH⟩,.inl ⟨_,rfl,Pp⟩,.inl ⟨_,rfl,Y8⟩,.inl ⟨_,rfl,Tq⟩,.inl ⟨_,rfl,Ui⟩,.inl ⟨_,rfl,VI⟩,.inl ⟨_,rfl,a3q⟩,.inl ⟨_,rfl,T6⟩,.inl ⟨_,rfl,VG⟩,.inl ⟨_,rfl,a3k⟩,.inl ⟨_,rfl,Ub⟩,.inl ⟨_,rfl,Vf⟩,.inl ⟨_,rfl,sR⟩,.inl ⟨_,rfl,a2x⟩,.inl ⟨_,rfl,Mo⟩,.inl ⟨_,rfl,S7⟩,.inl ⟨_,rfl,tU⟩,.inl ⟨_,rfl,a9M⟩,.inl ⟨_,rfl,Re⟩,.inl ⟨_,rfl,Pr⟩,.inl ⟨_,rfl,a5k⟩,.inl ⟨_,rfl,Z8⟩,.inl ⟨_,rfl,YM⟩,.inl ⟨_,rfl,a0u⟩,.inl ⟨_,rfl,UC⟩,.inl ⟨_,rfl,a32⟩,.inl ⟨_,rfl,VZ⟩,.inl ⟨_,rfl,Ux⟩,.inl ⟨_,rfl,Vu⟩,.inl ⟨_,rfl,b0a⟩,.inl ⟨_,rfl,a6K⟩,.inl ⟨_,rfl,a4E⟩,.inl ⟨_,rfl,SL⟩,.inl ⟨_,rfl,a7B⟩,.inl ⟨_,rfl,Yp⟩,.inl ⟨_,rfl,Zk⟩,.inl ⟨_,rfl,WE⟩,.inl ⟨_,rfl,PS⟩,.inl ⟨_,rfl,Zb⟩,.inl ⟨_,rfl,WH⟩,.inl ⟨_,rfl,Nf⟩,.inl ⟨_,rfl,a2Q⟩,.inl ⟨_,rfl,a6w⟩,.inl ⟨_,rfl,Vs⟩,.inl ⟨_,rfl,a3R⟩,.inl ⟨_,rfl,Pw⟩,.inl ⟨_,rfl,VD⟩,.inl ⟨_,rfl,rv⟩,.inl ⟨_,rfl,rz⟩,.inl ⟨_,rfl,pw⟩,.inl ⟨_,rfl,wS⟩,.inl ⟨_,rfl,Rw⟩,.inl ⟨_,rfl,a5f⟩,.inl ⟨_,rfl,a1B⟩,.inl ⟨_,rfl,Zu⟩,.inl ⟨_,rfl,Yo⟩,.inl ⟨_,rfl,a0t⟩,.inl ⟨_,rfl,a03⟩,.inl ⟨_,rfl,JM⟩,.inl ⟨_,rfl,Pi⟩,.inl ⟨_,rfl,MP⟩,.inl ⟨_,rfl,Bq⟩,.inl ⟨_,rfl,rA⟩,.inl ⟨_,rfl,DB⟩,.inl ⟨_,rfl,Ph⟩,.inl ⟨_,rfl,b4D⟩,.inl ⟨_,rfl,Z9⟩,.inl ⟨_,rfl,a1f⟩,.inl ⟨_,rfl,a3l⟩,.inl ⟨_,rfl,Qp⟩,.inl ⟨_,rfl,QI⟩,.inl ⟨_,rfl,Zz⟩,.inl ⟨_,rfl,a4Q⟩,.inl ⟨_,rfl,XZ⟩,.inl ⟨_,rfl,ZD⟩,.inl ⟨_,rfl,a6y⟩,.inl ⟨_,rfl,a78⟩,.inl ⟨_,rfl,P0⟩,.inl ⟨_,rfl,Pd⟩,.inl ⟨_,rfl,P3⟩,.inl ⟨_,rfl,zK⟩,.inl ⟨_,rfl,JX⟩,.inl ⟨_,rfl,tP⟩,trivial⟩
theorem okL: ∀{l:List (Nat×a7E)},Qw l→ ∀p∈l,(∃a,p.2= .code a∧OkF p.1 a)∨(∃g,p.2= .ext g∧NO Proofs.Tryz.prog p.1 g)
 |[],_,p,hp=>by cases hp
 |q::r,h,p,hp=>by
  rcases List.mem_cons.1 hp with rfl|hp
  ·exact h.1
  ·exact okL h.2 p hp
theorem Dv {α:Type}: ∀{l:List (Nat×α)} {k:Nat} {v:α},dO l k=some v→(k,v)∈l
 |[],_,_,h=>by cases h
 | (j,u)::r,k,v,h=>by
   simp only [dO] at h
   split at h
   ·rename_i e;cases h;subst e;simp
   ·exact List.mem_cons_of_mem _ (Dv h)
theorem tabOK:A9 Proofs.Tryz.prog tab:=by
 refine ⟨fun f af h=> ?_,fun f g h=> ?_⟩
 ·obtain ⟨a,h1,h2⟩|⟨a,h1,h2⟩:=okL a1U _ (Dv h)
  ·cases h1;exact h2
  ·cases h1
 ·obtain ⟨a,h1,h2⟩|⟨a,h1,h2⟩:=okL a1U _ (Dv h)
  ·cases h1
  ·cases h1;exact h2
end Go.AI.Fn
