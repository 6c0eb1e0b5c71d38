/- Part. -/
import Derived.Test.YtdnkignjanfikaaGreatTb1
import Derived.Test.YtdnkignjanfikaaGreatSo6
set_option maxRecDepth 100000
namespace Go.AI.Fn
def PH:List (Nat×a5F)→Prop
 |[]=>True
 |p::r=>((∃a,p.2= .code a∧OkF p.1 a)∨(∃g,p.2= .ext g∧Na Proofs.Tryz.prog p.1 g))∧PH r
theorem a2f:PH b4H:=⟨.inl ⟨_,rfl,zg⟩,.inl ⟨_,rfl,PC⟩,.inl ⟨_,rfl,RV⟩,.inl ⟨_,rfl,Q9⟩,.inl ⟨_,rfl,Rw⟩,.inl ⟨_,rfl,Xd⟩,.inl ⟨_,rfl,TR⟩,.inl ⟨_,rfl,Js⟩,.inl ⟨_,rfl,Q3⟩,.inl ⟨_,rfl,PO⟩,.inl ⟨_,rfl,a1y⟩,.inl ⟨_,rfl,ZA⟩,.inl ⟨_,rfl,Ue⟩,.inl ⟨_,rfl,Jr⟩,.inl ⟨_,rfl,Q4⟩,.inl ⟨_,rfl,a0t⟩,.inl ⟨_,rfl,Zu⟩,.inl ⟨_,rfl,U1⟩,.inl ⟨_,rfl,a1i⟩,.inl ⟨_,rfl,Xw⟩,.inl ⟨_,rfl,b9Y⟩,.inl ⟨_,rfl,Rf⟩,.inl ⟨_,rfl,a5x⟩,.inr ⟨_,rfl,a9L wh xE xw⟩,.inl ⟨_,rfl,PB⟩,.inl ⟨_,rfl,V8⟩,.inl ⟨_,rfl,MZ⟩,.inl ⟨_,rfl,Hx⟩,.inl ⟨_,rfl,JH⟩,.inl ⟨_,rfl,Ur⟩,.inl ⟨_,rfl,SG⟩,.inl ⟨_,rfl,V0⟩,.inl ⟨_,rfl,b3G⟩,.inl ⟨_,rfl,WF⟩,.inl ⟨_,rfl,T7⟩,.inl ⟨_,rfl,U6⟩,.inl ⟨_,rfl,Tp⟩,.inl ⟨_,rfl,JE⟩,.inl ⟨_,rfl,KO⟩,.inl ⟨_,rfl,a3X⟩,.inl ⟨_,rfl,a4k⟩,.inl ⟨_,rfl,Tu⟩,.inl ⟨_,rfl,PP⟩,.inl ⟨_,rfl,OS⟩,.inl ⟨_,rfl,a2Y⟩,.inl ⟨_,rfl,MM⟩,.inl ⟨_,rfl,M0⟩,.inl ⟨_,rfl,Y3⟩,.inl ⟨_,rfl,Wu⟩,.inl ⟨_,rfl,a3b⟩,.inl ⟨_,rfl,GJ⟩,.inl ⟨_,rfl,X9⟩,.inl ⟨_,rfl,XL⟩,.inl ⟨_,rfl,MF⟩,.inl ⟨_,rfl,Sz⟩,.inl ⟨_,rfl,Td⟩,.inl ⟨_,rfl,Zb⟩,.inl ⟨_,rfl,a3g⟩,.inl ⟨_,rfl,PN⟩,.inl ⟨_,rfl,WI⟩,.inl ⟨_,rfl,Ys⟩,.inl ⟨_,rfl,Sn⟩,.inl ⟨_,rfl,a2N⟩,.inl ⟨_,rfl,a1f⟩,.inl ⟨_,rfl,YL⟩,.inl ⟨_,rfl,XO⟩,.inl ⟨_,rfl,a62⟩,.inl ⟨_,rfl,Qo⟩,.inl ⟨_,rfl,a3G⟩,.inl ⟨_,rfl,Yi⟩,.inl ⟨_,rfl,Y8⟩,.inl ⟨_,rfl,a4I⟩,.inl ⟨_,rfl,PR⟩,.inl ⟨_,rfl,a2P⟩,.inl ⟨_,rfl,b2k⟩,.inl ⟨_,rfl,px⟩,.inl ⟨_,rfl,Ma⟩,.inl ⟨_,rfl,a26⟩,.inl ⟨_,rfl,b65⟩,.inl ⟨_,rfl,b5t⟩,.inl ⟨_,rfl,Ol⟩,.inr ⟨_,rfl,So.entOK false⟩,.inl ⟨_,rfl,Tv⟩,.inl ⟨_,rfl,Gq⟩,.inl ⟨_,rfl,U2⟩,.inl ⟨_,rfl,JU⟩,.inl ⟨_,rfl,Vd⟩,.inl ⟨_,rfl,ZR⟩,.inl ⟨_,rfl,Sm⟩,.inl ⟨_,rfl,Ym⟩,.inl ⟨_,rfl,RE⟩,.inl ⟨_,rfl,Un⟩,.inl ⟨_,rfl,SD⟩,.inl ⟨_,rfl,b2f⟩,.inl ⟨_,rfl,a3U⟩,.inl ⟨_,rfl,XZ⟩,.inl ⟨_,rfl,RT⟩,.inl ⟨_,rfl,QW⟩,.inl ⟨_,rfl,YX⟩,.inl ⟨_,rfl,EW⟩,.inl ⟨_,rfl,Hz⟩,.inl ⟨_,rfl,JM⟩,.inl ⟨_,rfl,a8E⟩,.inl ⟨_,rfl,DL⟩,.inl ⟨_,rfl,Ml⟩,.inl ⟨_,rfl,a8B⟩,.inl ⟨_,rfl,a1R⟩,.inl ⟨_,rfl,K8⟩,.inl ⟨_,rfl,Og⟩,.inl ⟨_,rfl,ZD⟩,.inl ⟨_,rfl,a0s⟩,.inl ⟨_,rfl,X8⟩,.inl ⟨_,rfl,a2l⟩,.inl ⟨_,rfl,Zz⟩,.inl ⟨_,rfl,Zj⟩,.inl ⟨_,rfl,TC⟩,.inl ⟨_,rfl,oj⟩,.inl ⟨_,rfl,Mc⟩,.inl ⟨_,rfl,ov⟩,.inl ⟨_,rfl,KA⟩,.inl ⟨_,rfl,nD⟩,.inl ⟨_,rfl,Jw⟩,.inl ⟨_,rfl,Rk⟩,.inl ⟨_,rfl,a3z⟩,.inl ⟨_,rfl,a1m⟩,.inl ⟨_,rfl,a0A⟩,.inl ⟨_,rfl,sI⟩,.inl ⟨_,rfl,Sk⟩,.inl ⟨_,rfl,Tr⟩,.inl ⟨_,rfl,Zr⟩,.inl ⟨_,rfl,Rp⟩,.inl ⟨_,rfl,Xg⟩,.inl ⟨_,rfl,Up⟩,.inl ⟨_,rfl,a6o⟩,.inl ⟨_,rfl,WR⟩,.inl ⟨_,rfl,UH⟩,.inl ⟨_,rfl,Y7⟩,.inl ⟨_,rfl,Us⟩,.inl ⟨_,rfl,TO⟩,.inl ⟨_,rfl,Rb⟩,.inl ⟨_,rfl,On⟩,.inl ⟨_,rfl,WD⟩,.inl ⟨_,rfl,Rz⟩,.inl ⟨_,rfl,Qt⟩,.inl ⟨_,rfl,UB⟩,.inl ⟨_,rfl,a1a⟩,.inl ⟨_,rfl,R2⟩,.inl ⟨_,rfl,V5⟩,.inl ⟨_,rfl,a1Q⟩,.inl ⟨_,rfl,R6⟩,.inl ⟨_,rfl,TF⟩,.inl ⟨_,rfl,rO⟩,.inl ⟨_,rfl,a2b⟩,.inl ⟨_,rfl,Kh⟩,.inl ⟨_,rfl,QD⟩,.inl ⟨_,rfl,tg⟩,.inl ⟨_,rfl,a8A⟩,.inl ⟨_,rfl,T4⟩,.inl ⟨_,rfl,OR⟩,.inl ⟨_,rfl,a2W⟩,.inl ⟨_,rfl,Xz⟩,.inl ⟨_,rfl,XI⟩,.inl ⟨_,rfl,Zt⟩,.inl ⟨_,rfl,Uw⟩,.inl ⟨_,rfl,a1l⟩,.inl ⟨_,rfl,Ve⟩,.inl ⟨_,rfl,Ui⟩,.inl ⟨_,rfl,Ts⟩,.inl ⟨_,rfl,a91⟩,.inl ⟨_,rfl,a44⟩,.inl ⟨_,rfl,a1k⟩,.inl ⟨_,rfl,Pv⟩,.inl ⟨_,rfl,a6f⟩,.inl ⟨_,rfl,Yb⟩,.inl ⟨_,rfl,XP⟩,.inl ⟨_,rfl,Ut⟩,.inl ⟨_,rfl,OQ⟩,.inl ⟨_,rfl,YB⟩,.inl ⟨_,rfl,Tz⟩,.inl ⟨_,rfl,ML⟩,.inl ⟨_,rfl,a1S⟩,.inl ⟨_,rfl,a5r⟩,.inl ⟨_,rfl,V3⟩,.inl ⟨_,rfl,a33⟩,.inl ⟨_,rfl,Oy⟩,.inl ⟨_,rfl,Uv⟩,.inl ⟨_,rfl,qZ⟩,.inl ⟨_,rfl,qP⟩,.inl ⟨_,rfl,p5⟩,.inl ⟨_,rfl,wu⟩,.inl ⟨_,rfl,Tj⟩,.inl ⟨_,rfl,a0W⟩,.inl ⟨_,rfl,YJ⟩,.inl ⟨_,rfl,Xj⟩,.inl ⟨_,rfl,Xc⟩,.inl ⟨_,rfl,YD⟩,.inl ⟨_,rfl,Z8⟩,.inl ⟨_,rfl,JP⟩,.inl ⟨_,rfl,P5⟩,.inl ⟨_,rfl,Mh⟩,.inl ⟨_,rfl,AV⟩,.inl ⟨_,rfl,qH⟩,.inl ⟨_,rfl,DO⟩,.inl ⟨_,rfl,P3⟩,.inl ⟨_,rfl,b6p⟩,.inl ⟨_,rfl,Wp⟩,.inl ⟨_,rfl,ZB⟩,.inl ⟨_,rfl,a2y⟩,.inl ⟨_,rfl,Q7⟩,.inl ⟨_,rfl,Ro⟩,.inl ⟨_,rfl,ZM⟩,.inl ⟨_,rfl,a2h⟩,.inl ⟨_,rfl,Xo⟩,.inl ⟨_,rfl,XF⟩,.inl ⟨_,rfl,a52⟩,.inl ⟨_,rfl,a5d⟩,.inl ⟨_,rfl,Oq⟩,.inl ⟨_,rfl,Ov⟩,.inl ⟨_,rfl,ON⟩,.inl ⟨_,rfl,zi⟩,.inl ⟨_,rfl,JA⟩,.inl ⟨_,rfl,th⟩,trivial⟩
theorem okL: ∀{l:List (Nat×a5F)},PH l→ ∀p∈l,(∃a,p.2= .code a∧OkF p.1 a)∨(∃g,p.2= .ext g∧Na Proofs.Tryz.prog p.1 g)
 |[],_,p,hp=>by cases hp
 |q::r,h,p,hp=>by
  rcases List.mem_cons.1 hp with rfl|hp
  ·exact h.1
  ·exact okL h.2 p hp
theorem Di {α:Type}: ∀{l:List (Nat×α)} {k:Nat} {v:α},dP l k=some v→(k,v)∈l
 |[],_,_,h=>by cases h
 | (j,u)::r,k,v,h=>by
   simp only [dP] at h
   split at h
   ·rename_i e;cases h;subst e;simp
   ·exact List.mem_cons_of_mem _ (Di h)
theorem tabOK:zY Proofs.Tryz.prog tab:=by
 refine ⟨fun f af h=> ?_,fun f g h=> ?_⟩
 ·obtain ⟨a,h1,h2⟩|⟨a,h1,h2⟩:=okL a2f _ (Di h)
  ·cases h1;exact h2
  ·cases h1
 ·obtain ⟨a,h1,h2⟩|⟨a,h1,h2⟩:=okL a2f _ (Di h)
  ·cases h1
  ·cases h1;exact h2
end Go.AI.Fn
