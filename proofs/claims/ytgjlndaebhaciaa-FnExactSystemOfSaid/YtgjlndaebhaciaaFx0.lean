/- Walks through the program, with open values. -/
import Derived.Test.YtgjlndaebhaciaaStr
set_option linter.unusedVariables false
set_option linter.unusedSimpArgs false
set_option maxRecDepth 100000
set_option maxHeartbeats 1000000
namespace Go.AI.Fn
noncomputable section
open IntKind (wrap)
def jV (a:(List Gate)) (left:Int):Option (Int):=
 br (decide ((wrap .i64 (left-((a.length:Nat):Int)))<0)) (
 some (-1:Int)) (
 some (wrap .i64 (left-((a.length:Nat):Int))))
theorem yL {a left r} (h:jV a left=some r):Call tab ow 39 [sl eGate a,I left] []=some (I r,[]):=by
 rw [au (af:=jl) rfl]
 unfold jV at h
 simp only [jl,pP]
 exact go2
def i5 (a:Circuit) (left:Int):Option (Int):=
 (jV a.Gates left).bind fun r_=>
 br (decide (r_<0)) (
 some (-1:Int)) (
 some r_)
theorem tE {a left r} (h:i5 a left=some r):Call tab ow 7 [.agg [sl eGate a.Gates],I left] []=some (I r,[]):=by
 rw [au (af:=gG) rfl]
 unfold i5 at h
 simp only [gG,nI]
 have d1:= @yL
 exact go2
def oJ (a:Gate):Option (Gate):=
 some a
theorem zM {a r} (h:oJ a=some r):Call tab ow 93 [.agg [I a.Op,I a.A,I a.B,I a.K]] []=some (.agg [I r.Op,I r.A,I r.B,I r.K],[]):=by
 rw [au (af:=kS) rfl]
 unfold oJ at h
 simp only [kS,sk]
 exact go2
section
theorem uY: ∀k,yF 2002 k [I (0:Int),I (0:Int),I (0:Int),I (0:Int)]=rws eGate (List.replicate k (Gate.mk (0:Int) (0:Int) (0:Int) (0:Int))):=fun _=>SQ eGate (Gate.mk (0:Int) (0:Int) (0:Int) (0:Int)) _ _
attribute [local go_sem] uY
def eG (a2:List Gate):(List Gate)×Int→Option (((List Gate)×Int)⊕(((List Gate)×Int×Bool)))
 | (l,i)=>
   br (decide (i<((a2.length:Nat):Int))) (
   (atL a2 i).bind fun x=>
   (oJ x).bind fun r_=>
   br (decide (0≤i)) (
   br (decide (i.toNat<l.length)) (
   (l[i.toNat]?).bind fun x2=>
   some (.inl ((l.set i.toNat r_),(wrap .i64 (i+1))))) none) none) (
   some (.inr (l,i,decide (i<((a2.length:Nat):Int)))))
abbrev nu (a2:List Gate) (s:(List Gate)×Int):St:=⟨[(0,sl eGate a2),(3,.sl 2002 0 s.1.length),(4,I s.2)],[(2002,⟨4,false,rws eGate s.1⟩)]⟩
abbrev nF (a2:List Gate):((List Gate)×Int×Bool)→aH×St:=fun e=>(.exit 0,⟨[(0,sl eGate a2),(3,.sl 2002 0 e.1.length),(4,I e.2.1),(11,B e.2.2)],[(2002,⟨4,false,rws eGate e.1⟩)]⟩)
theorem tp {a2 s e} (h:Loop (eG a2) s=some e):cw tab ow (.close [6006]) nK (nu a2 s)=some (nF a2 e):=by
 refine lrG (fun s o h=> ?_) h
 obtain ⟨_,_⟩:=s
 simp only [eG] at h
 simp only [nu,nF,nK,nR]
 have d1:= @zM
 exact go2
def k9 (a:(List Gate)):Option ((List Gate)):=
 br (Ay ((a.length:Nat):Int) ((a.length:Nat):Int) 32) (
 (Loop (eG a) ((List.replicate (((a.length:Nat):Int).toNat) (Gate.mk (0:Int) (0:Int) (0:Int) (0:Int))),(0:Int))).bind fun e_=>
 some e_.1) none
theorem yE {a r} (h:k9 a=some r):Call tab ow 42 [sl eGate a] []=some (.sl 0 0 r.length,[⟨4,false,rws eGate r⟩]):=by
 rw [au (af:=jk) rfl]
 unfold k9 at h
 simp only [jk,m9]
 have d1:= @tp
 exact go2
end
def cE (a:Circuit):Option ((List Gate)):=
 (k9 a.Gates).bind fun r_=>
 some r_
theorem rX {a r} (h:cE a=some r):Call tab ow 9 [.agg [sl eGate a.Gates]] []=some (.agg [.sl 0 0 r.length],[⟨4,false,rws eGate r⟩]):=by
 rw [au (af:=fK) rfl]
 unfold cE at h
 simp only [fK,mV]
 have d1:= @yE
 exact go2
def di (n low high:Int):Option (Bool):=
 br (decide (low≤n)) (
 some (decide (n≤high))) (
 some false)
theorem nh {n low high r} (h:di n low high=some r):Call tab ow 88 [I n,I low,I high] []=some (B r,[]):=by
 rw [au (af:=nf) rfl]
 unfold di at h
 simp only [nf,u7]
 exact go2
def k8 (op:Int):Option (Int):=
 (di op 4 7).bind fun r_=>
 br r_ (
 some 2) (
 br (op==8) (
 some 1) (
 some 0))
theorem xK {op r} (h:k8 op=some r):Call tab ow 100 [I op] []=some (I r,[]):=by
 rw [au (af:=je) rfl]
 unfold k8 at h
 simp only [je,pN]
 have d1:= @nh
 exact go2
def bi (a:Int):Option (Bool):=
 (di a 0 2130706432).bind fun r_=>
 some r_
theorem xe {a r} (h:bi a=some r):Call tab ow 130 [I a] []=some (B r,[]):=by
 rw [au (af:=jf) rfl]
 unfold bi at h
 simp only [jf,qf]
 have d1:= @nh
 exact go2
def jY (g:Gate) (k:Int):Option (Bool):=
 (di g.Op 1 8).bind fun r_=>
 br (!r_) (
 some false) (
 (k8 g.Op).bind fun r_2=>
 br (decide (r_2>0)) (
 (di g.A 0 (wrap .i64 (k-1))).bind fun r_3=>
 br (!r_3) (
 some false) (
 br (r_2==0) (
 br (g.A !=0) (
 some false) (
 br (decide (r_2>1)) (
 (di g.B 0 (wrap .i64 (k-1))).bind fun r_4=>
 br (!r_4) (
 some false) (
 br (decide (r_2<2)) (
 br (g.B !=0) (
 some false) (
 br (g.Op==3) (
 (bi g.K).bind fun r_5=>
 some r_5) (
 some (g.K==0)))) (
 br (g.Op==3) (
 (bi g.K).bind fun r_6=>
 some r_6) (
 some (g.K==0))))) (
 br (decide (r_2<2)) (
 br (g.B !=0) (
 some false) (
 br (g.Op==3) (
 (bi g.K).bind fun r_7=>
 some r_7) (
 some (g.K==0)))) (
 br (g.Op==3) (
 (bi g.K).bind fun r_8=>
 some r_8) (
 some (g.K==0)))))) (
 br (decide (r_2>1)) (
 (di g.B 0 (wrap .i64 (k-1))).bind fun r_9=>
 br (!r_9) (
 some false) (
 br (decide (r_2<2)) (
 br (g.B !=0) (
 some false) (
 br (g.Op==3) (
 (bi g.K).bind fun r_10=>
 some r_10) (
 some (g.K==0)))) (
 br (g.Op==3) (
 (bi g.K).bind fun r_11=>
 some r_11) (
 some (g.K==0))))) (
 br (decide (r_2<2)) (
 br (g.B !=0) (
 some false) (
 br (g.Op==3) (
 (bi g.K).bind fun r_12=>
 some r_12) (
 some (g.K==0)))) (
 br (g.Op==3) (
 (bi g.K).bind fun r_13=>
 some r_13) (
 some (g.K==0))))))) (
 br (r_2==0) (
 br (g.A !=0) (
 some false) (
 br (decide (r_2>1)) (
 (di g.B 0 (wrap .i64 (k-1))).bind fun r_14=>
 br (!r_14) (
 some false) (
 br (decide (r_2<2)) (
 br (g.B !=0) (
 some false) (
 br (g.Op==3) (
 (bi g.K).bind fun r_15=>
 some r_15) (
 some (g.K==0)))) (
 br (g.Op==3) (
 (bi g.K).bind fun r_16=>
 some r_16) (
 some (g.K==0))))) (
 br (decide (r_2<2)) (
 br (g.B !=0) (
 some false) (
 br (g.Op==3) (
 (bi g.K).bind fun r_17=>
 some r_17) (
 some (g.K==0)))) (
 br (g.Op==3) (
 (bi g.K).bind fun r_18=>
 some r_18) (
 some (g.K==0)))))) (
 br (decide (r_2>1)) (
 (di g.B 0 (wrap .i64 (k-1))).bind fun r_19=>
 br (!r_19) (
 some false) (
 br (decide (r_2<2)) (
 br (g.B !=0) (
 some false) (
 br (g.Op==3) (
 (bi g.K).bind fun r_20=>
 some r_20) (
 some (g.K==0)))) (
 br (g.Op==3) (
 (bi g.K).bind fun r_21=>
 some r_21) (
 some (g.K==0))))) (
 br (decide (r_2<2)) (
 br (g.B !=0) (
 some false) (
 br (g.Op==3) (
 (bi g.K).bind fun r_22=>
 some r_22) (
 some (g.K==0)))) (
 br (g.Op==3) (
 (bi g.K).bind fun r_23=>
 some r_23) (
 some (g.K==0)))))))
theorem xU {g k r} (h:jY g k=some r):Call tab ow 89 [.agg [I g.Op,I g.A,I g.B,I g.K],I k] []=some (B r,[]):=by
 rw [au (af:=jg) rfl]
 unfold jY at h
 simp only [jg,pX]
 have d1:= @nh
 have d2:= @xK
 have d3:= @xe
 exact go2
def oS (b:Bool):Option (Int):=
 br b (
 some 1) (
 some 0)
theorem AM {b r} (h:oS b=some r):Call tab ow 131 [B b] []=some (I r,[]):=by
 rw [au (af:=kD) rfl]
 unfold oS at h
 simp only [kD,rz]
 exact go2
def cQ (op2:Int) (c2:List Gate):Int×Int→Option ((Int×Int)⊕((Int×Int×Bool)))
 | (n,k)=>
   br (decide (k<((c2.length:Nat):Int))) (
   (atL c2 k).bind fun x=>
   (oS (x.Op==op2)).bind fun r_=>
   some (.inl ((wrap .i64 (n+r_)),(wrap .i64 (k+1))))) (
   some (.inr (n,k,decide (k<((c2.length:Nat):Int)))))
abbrev lZ (op2:Int) (c2:List Gate) (s:Int×Int):St:=⟨[(1,I op2),(2,.ptr 1000 0 0 1),(5,I s.1),(6,I s.2)],[(1000,⟨1,true,[[sl eGate c2]]⟩)]⟩
abbrev mh (op2:Int) (c2:List Gate):(Int×Int×Bool)→aH×St:=fun e=>(.exit 0,⟨[(1,I op2),(2,.ptr 1000 0 0 1),(5,I e.1),(6,I e.2.1),(11,B e.2.2)],[(1000,⟨1,true,[[sl eGate c2]]⟩)]⟩)
theorem sa {op2 c2 s e} (h:Loop (cQ op2 c2) s=some e):cw tab ow (.close [6009]) lY (lZ op2 c2 s)=some (mh op2 c2 e):=by
 refine lrG (fun s o h=> ?_) h
 obtain ⟨_,_⟩:=s
 simp only [cQ] at h
 simp only [lZ,mh,lY,mo]
 have d1:= @AM
 exact go2
def fb (c:Circuit) (op:Int):Option (Int):=
 (Loop (cQ op c.Gates) (0,0)).bind fun e_=>
 some e_.1
theorem kP {c op r} (h:fb c op=some r):Call tab ow 90 [.agg [sl eGate c.Gates],I op] []=some (I r,[]):=by
 rw [au (af:=iy) rfl]
 unfold fb at h
 simp only [iy,kA]
 have d1:= @sa
 exact go2
def bB (c2:List Gate):Int→Option ((Int)⊕(Unit⊕(Int×Bool)))
 |k=>
  br (decide (k<((c2.length:Nat):Int))) (
  (atL c2 k).bind fun x=>
  (jY x k).bind fun r_2=>
  br (!r_2) (
  some (.inr (.inl ()))) (
  some (.inl (wrap .i64 (k+1))))) (
  some (.inr (.inr (k,decide (k<((c2.length:Nat):Int))))))
abbrev lh (c2:List Gate) (s:Int):St:=⟨[(1,.ptr 1000 0 0 1),(3,I s)],[(1000,⟨1,true,[[sl eGate c2]]⟩)]⟩
abbrev ll (c2:List Gate):(Unit⊕(Int×Bool))→aH×St:=alt (fun e=>((.ret,⟨[(2,B false)],[(1000,⟨1,true,[[sl eGate c2]]⟩)]⟩):aH×St)) (fun e=>(.exit 0,⟨[(1,.ptr 1000 0 0 1),(3,I e.1),(13,B e.2)],[(1000,⟨1,true,[[sl eGate c2]]⟩)]⟩))
theorem qv {c2 s e} (h:Loop (bB c2) s=some e):cw tab ow (.close [7006]) lz (lh c2 s)=some (ll c2 e):=by
 refine lrG (fun s o h=> ?_) h
 simp only [bB] at h
 simp only [lh,ll,lz,l0]
 have d1:= @xU
 exact go2
def gZ (c:Circuit):Option (Bool):=
 (di ((c.Gates.length:Nat):Int) 1 15).bind fun r_=>
 br (!r_) (
 some false) (
 (Loop (bB c.Gates) 0).bind (alt (fun e_2=>
 some false) (fun e_3=>
 (fb c 2).bind fun r_3=>
 some (decide (r_3≤7)))))
theorem tZ {c r} (h:gZ c=some r):Call tab ow 40 [.agg [sl eGate c.Gates]] []=some (B r,[]):=by
 rw [au (af:=gL) rfl]
 unfold gZ at h
 simp only [gL,jE]
 have d1:= @nh
 have d2:= @qv
 have d3:= @kP
 exact go2
def dX (p w_:Int) (c2:List Gate):Int→Option ((Int)⊕((Int×Bool)))
 |k=>
  br (decide (0≤(wrap .u64 (wrap .i64 (k-1))))) (
  br (decide ((da .i64 1 (wrap .u64 (wrap .i64 (k-1))))<(mx (wrap .i64 (p+1)) w_))) (
  some (.inl (wrap .i64 (k+1)))) (
  some (.inr (k,decide ((da .i64 1 (wrap .u64 (wrap .i64 (k-1))))<(mx (wrap .i64 (p+1)) w_)))))) none
abbrev pb (p w_:Int) (c2:List Gate) (s:Int):St:=⟨[(3,I p),(4,I w_),(5,I s)],[(1000,⟨1,true,[[sl eGate c2]]⟩)]⟩
abbrev oW (p w_:Int) (c2:List Gate):(Int×Bool)→aH×St:=fun e=>(.exit 0,⟨[(3,I p),(4,I w_),(5,I e.1),(21,B e.2)],[(1000,⟨1,true,[[sl eGate c2]]⟩)]⟩)
theorem vC {p w_ c2 s e} (h:Loop (dX p w_ c2) s=some e):cw tab ow (.close []) oq (pb p w_ c2 s)=some (oW p w_ c2 e):=by
 refine lrG (fun s o h=> ?_) h
 simp only [dX] at h
 simp only [pb,oW,oq,pd]
 exact go2
def mJ (c:Circuit):Option (Int):=
 (fb c 2).bind fun r_=>
 (Loop (dX r_ (wrap .i64 (((c.Gates.length:Nat):Int)-r_)) c.Gates) 2).bind fun e_=>
 some e_.1
theorem AB {c r} (h:mJ c=some r):Call tab ow 132 [.agg [sl eGate c.Gates]] []=some (I r,[]):=by
 rw [au (af:=kz) rfl]
 unfold mJ at h
 simp only [kz,o5]
 have d1:= @kP
 have d2:= @vC
 exact go2
section
theorem vF:mkR 4000 []=rws eI []:=rfl
attribute [local go_sem] vF
theorem ws:mkR 12002 []=rws eI []:=rfl
attribute [local go_sem] ws
theorem vy:mkR 13004 []=rws eI []:=rfl
attribute [local go_sem] vy
def dw (cols half:Int) (c2:List Gate):(List Int)×Int×Int×Int→Option (((List Int)×Int×Int×Int)⊕(((List Int)×Int×Int×Int×Bool)))
 | (l,p,w_,k)=>
   br (decide (k<((c2.length:Nat):Int))) (
   (atL c2 k).bind fun x=>
   br (x.Op==2) (
   br (dP ((l++([(wrap .i64 (p+1))]:List Int)).length) 8) (
   some (.inl ((l++([(wrap .i64 (p+1))]:List Int)),(wrap .i64 (p+1)),w_,(wrap .i64 (k+1))))) none) (
   br (dP ((l++([(wrap .i64 (half+w_))]:List Int)).length) 8) (
   some (.inl ((l++([(wrap .i64 (half+w_))]:List Int)),p,(wrap .i64 (w_+1)),(wrap .i64 (k+1))))) none)) (
   some (.inr (l,p,w_,k,decide (k<((c2.length:Nat):Int)))))
abbrev jx (c2:List Gate) (l:List Int):List (Nat×Blk):=[(1000,⟨1,true,[[sl eGate c2]]⟩),(4000,⟨1,false,rws eI l⟩)]
abbrev nM (cols half:Int) (c2:List Gate) (s:(List Int)×Int×Int×Int):St:=⟨[(1,.ptr 1000 0 0 1),(4,I cols),(5,I half),(6,.sl 4000 0 s.1.length),(7,I s.2.1),(8,I s.2.2.1),(9,I s.2.2.2)],jx c2 s.1⟩
abbrev nv (cols half:Int) (c2:List Gate):((List Int)×Int×Int×Int×Bool)→aH×St:=fun e=>(.exit 0,⟨[(1,.ptr 1000 0 0 1),(4,I cols),(5,I half),(6,.sl 4000 0 e.1.length),(7,I e.2.1),(8,I e.2.2.1),(9,I e.2.2.2.1),(21,B e.2.2.2.2)],jx c2 e.1⟩)
theorem tB {cols half c2 s e} (h:Loop (dw cols half c2) s=some e):cw tab ow (.close [12002,12003,13004,13005]) nT (nM cols half c2 s)=some (nv cols half c2 e):=by
 refine lrG (fun s o h=> ?_) h
 obtain ⟨_,_,_,_⟩:=s
 simp only [dw] at h
 simp only [nM,nv,jx,nT,nL]
 exact go2
def jW (c:Circuit):Option ((List Int)×Int):=
 (mJ c).bind fun r_=>
 br (decide (0≤(wrap .u64 (wrap .i64 (r_-1))))) (
 (Loop (dw r_ (da .i64 1 (wrap .u64 (wrap .i64 (r_-1)))) c.Gates) (([]:List Int),0,0,0)).bind fun e_=>
 some (e_.1,r_)) none
theorem yx {c r} (h:jW c=some r):Call tab ow 91 [.agg [sl eGate c.Gates]] []=some (.tup [sl eI r.1,I r.2],[]):=by
 rw [au (af:=jc) rfl]
 unfold jW at h
 simp only [jc,mT]
 have d1:= @AB
 have d2:= @tB
 exact go2
end
def lO (a b:Int):Option (Int):=
 some ((wrap .i64 (a+b)).tmod 2130706433)
theorem ze {a b r} (h:lO a b=some r):Call tab ow 105 [I a,I b] []=some (I r,[]):=by
 rw [au (af:=kq) rfl]
 unfold lO at h
 simp only [kq,sj]
 exact go2
section
theorem tL:mkR 7000 []=rws ai []:=rfl
attribute [local go_sem] tL
theorem tU:mkR 9005 []=rws ai []:=rfl
attribute [local go_sem] tU
theorem tP:mkR 11000 []=rws ai []:=rfl
attribute [local go_sem] tP
theorem tY:mkR 11009 []=rws ai []:=rfl
attribute [local go_sem] tY
def cn (ListtoArray2:List ab) (t t2 t3:Int):Int→Option ((Int)⊕((Int×Bool)))
 |t4=>
  br (decide (t4>0)) (
  (atL ListtoArray2 (wrap .i64 (t4-1))).bind fun x=>
  br (x.Row==t) (
  (atL ListtoArray2 (wrap .i64 (t4-1))).bind fun x2=>
  br (decide (x2.Col>t2)) (
  some (.inl (wrap .i64 (t4-1)))) (
  some (.inr (t4,decide (x2.Col>t2))))) (
  some (.inr (t4,false)))) (
  some (.inr (t4,false)))
abbrev mD (ListtoArray2:List ab) (t t2 t3 s:Int):St:=⟨[(0,sl ai ListtoArray2),(1,I t),(2,I t2),(3,I t3),(9,I s)],[]⟩
abbrev mj (ListtoArray2:List ab) (t t2 t3:Int):(Int×Bool)→aH×St:=fun e=>(.exit 0,⟨[(0,sl ai ListtoArray2),(1,I t),(2,I t2),(3,I t3),(9,I e.1),(35,B e.2)],[]⟩)
theorem sF {ListtoArray2 t t2 t3 s e} (h:Loop (cn ListtoArray2 t t2 t3) s=some e):cw tab ow (.close []) mG (mD ListtoArray2 t t2 t3 s)=some (mj ListtoArray2 t t2 t3 e):=by
 refine lrG (fun s o h=> ?_) h
 simp only [cn] at h
 simp only [mD,mj,mG,mH]
 exact go2
def aa (ListtoArray:(List ab)) (a a2 a3:Int):Option ((List ab)):=
 (Loop (cn ListtoArray a a2 a3) ((ListtoArray.length:Nat):Int)).bind fun e_=>
 br (decide (e_.1>0)) (
 (atL ListtoArray (wrap .i64 (e_.1-1))).bind fun x3=>
 br (x3.Row==a) (
 (atL ListtoArray (wrap .i64 (e_.1-1))).bind fun x4=>
 br (x4.Col==a2) (
 (atL ListtoArray (wrap .i64 (e_.1-1))).bind fun x5=>
 (lO x5.Value a3).bind fun r_=>
 (fT ListtoArray 0 (wrap .i64 (e_.1-1))).bind fun y=>
 br (dP ((([]:List ab)++y).length) 24) (
 br (r_ !=0) (
 br (dP (((([]:List ab)++y)++([(ab.mk a a2 r_)]:List ab)).length) 24) (
 (fT ListtoArray e_.1 ((ListtoArray.length:Nat):Int)).bind fun y2=>
 br (dP ((((([]:List ab)++y)++([(ab.mk a a2 r_)]:List ab))++y2).length) 24) (
 some (((([]:List ab)++y)++([(ab.mk a a2 r_)]:List ab))++y2)) none) none) (
 (fT ListtoArray e_.1 ((ListtoArray.length:Nat):Int)).bind fun y3=>
 br (dP (((([]:List ab)++y)++y3).length) 24) (
 some ((([]:List ab)++y)++y3)) none)) none) (
 (fT ListtoArray 0 e_.1).bind fun y4=>
 br (dP ((([]:List ab)++y4).length) 24) (
 br (dP (((([]:List ab)++y4)++([(ab.mk a a2 a3)]:List ab)).length) 24) (
 (fT ListtoArray e_.1 ((ListtoArray.length:Nat):Int)).bind fun y5=>
 br (dP ((((([]:List ab)++y4)++([(ab.mk a a2 a3)]:List ab))++y5).length) 24) (
 some (((([]:List ab)++y4)++([(ab.mk a a2 a3)]:List ab))++y5)) none) none) none)) (
 (fT ListtoArray 0 e_.1).bind fun y6=>
 br (dP ((([]:List ab)++y6).length) 24) (
 br (dP (((([]:List ab)++y6)++([(ab.mk a a2 a3)]:List ab)).length) 24) (
 (fT ListtoArray e_.1 ((ListtoArray.length:Nat):Int)).bind fun y7=>
 br (dP ((((([]:List ab)++y6)++([(ab.mk a a2 a3)]:List ab))++y7).length) 24) (
 some (((([]:List ab)++y6)++([(ab.mk a a2 a3)]:List ab))++y7)) none) none) none)) (
 (fT ListtoArray 0 e_.1).bind fun y8=>
 br (dP ((([]:List ab)++y8).length) 24) (
 br (dP (((([]:List ab)++y8)++([(ab.mk a a2 a3)]:List ab)).length) 24) (
 (fT ListtoArray e_.1 ((ListtoArray.length:Nat):Int)).bind fun y9=>
 br (dP ((((([]:List ab)++y8)++([(ab.mk a a2 a3)]:List ab))++y9).length) 24) (
 some (((([]:List ab)++y8)++([(ab.mk a a2 a3)]:List ab))++y9)) none) none) none)
theorem vp {ListtoArray a a2 a3 r} (h:aa ListtoArray a a2 a3=some r):Call tab ow 92 [sl ai ListtoArray,I a,I a2,I a3] []=some (sl ai r,[]):=by
 rw [au (af:=ip) rfl]
 unfold aa at h
 simp only [ip,kv]
 have d1:= @sF
 have d2:= @ze
 exact go2
end
section
theorem rk:mkR 3003 []=rws ai []:=rfl
attribute [local go_sem] rk
theorem s6:mkR 3004 []=rws ai []:=rfl
attribute [local go_sem] s6
theorem rr:mkR 3005 []=rws ai []:=rfl
attribute [local go_sem] rr
def bP (t:List Int) (c:List Gate) (c2 c3 c4 c5 c6 c7:Int):Int×Int×(List ab)×(List ab)×(List ab)→Option ((Int×Int×(List ab)×(List ab)×(List ab))⊕((Int×Int×Bool×(List ab)×(List ab)×(List ab))))
 | (t2,t3,c8,c9,c10)=>
   br (decide (t3<((c.length:Nat):Int))) (
   (atL c t3).bind fun x=>
   br (x.Op==1) (
   br (x.Op==1) (
   some (.inl (t2,(wrap .i64 (t3+1)),c8,c9,c10))) (
   br (x.Op==6) (
   (atL t x.A).bind fun x2=>
   (aa c8 t2 x2 1).bind fun r_3=>
   (atL t x.B).bind fun x3=>
   (aa c9 t2 x3 1).bind fun r_4=>
   (atL t t3).bind fun x4=>
   (aa c10 t2 x4 1).bind fun r_5=>
   some (.inl ((wrap .i64 (t2+1)),(wrap .i64 (t3+1)),r_3,r_4,r_5))) (
   br (x.Op==4) (
   br (x.Op==4) (
   (atL t x.A).bind fun x5=>
   (aa c8 t2 x5 1).bind fun r_6=>
   br (x.Op==5) (
   (atL t x.B).bind fun x6=>
   (aa r_6 t2 x6 2130706432).bind fun r_7=>
   (aa c9 t2 0 1).bind fun r_8=>
   (atL t t3).bind fun x7=>
   (aa c10 t2 x7 1).bind fun r_9=>
   some (.inl ((wrap .i64 (t2+1)),(wrap .i64 (t3+1)),r_7,r_8,r_9))) (
   (atL t x.B).bind fun x8=>
   (aa r_6 t2 x8 1).bind fun r_10=>
   (aa c9 t2 0 1).bind fun r_11=>
   (atL t t3).bind fun x9=>
   (aa c10 t2 x9 1).bind fun r_12=>
   some (.inl ((wrap .i64 (t2+1)),(wrap .i64 (t3+1)),r_10,r_11,r_12)))) (
   br (x.Op==3) (
   br (decide (x.K>0)) (
   (aa c8 t2 0 x.K).bind fun r_13=>
   (aa c9 t2 0 1).bind fun r_14=>
   (atL t t3).bind fun x10=>
   (aa c10 t2 x10 1).bind fun r_15=>
   some (.inl ((wrap .i64 (t2+1)),(wrap .i64 (t3+1)),r_13,r_14,r_15))) (
   (aa c9 t2 0 1).bind fun r_16=>
   (atL t t3).bind fun x11=>
   (aa c10 t2 x11 1).bind fun r_17=>
   some (.inl ((wrap .i64 (t2+1)),(wrap .i64 (t3+1)),c8,r_16,r_17)))) (
   br (x.Op==7) (
   (atL t x.B).bind fun x12=>
   (aa c8 t2 x12 1).bind fun r_18=>
   (aa c9 t2 0 1).bind fun r_19=>
   (atL t t3).bind fun x13=>
   (aa c10 t2 x13 1).bind fun r_20=>
   (atL t x.A).bind fun x14=>
   (aa r_18 (wrap .i64 (t2+1)) x14 1).bind fun r_21=>
   (aa r_19 (wrap .i64 (t2+1)) 0 1).bind fun r_22=>
   (atL t t3).bind fun x15=>
   (aa r_20 (wrap .i64 (t2+1)) x15 1).bind fun r_23=>
   some (.inl ((wrap .i64 ((wrap .i64 (t2+1))+1)),(wrap .i64 (t3+1)),r_21,r_22,r_23))) (
   br (x.Op==8) (
   (atL t x.A).bind fun x16=>
   (aa c8 t2 x16 1).bind fun r_24=>
   (atL t x.A).bind fun x17=>
   (aa c9 t2 x17 1).bind fun r_25=>
   (atL t t3).bind fun x18=>
   (aa c10 t2 x18 1).bind fun r_26=>
   (atL t x.A).bind fun x19=>
   (aa r_24 (wrap .i64 (t2+1)) x19 1).bind fun r_27=>
   (aa r_25 (wrap .i64 (t2+1)) 0 1).bind fun r_28=>
   (atL t t3).bind fun x20=>
   (aa r_26 (wrap .i64 (t2+1)) x20 1).bind fun r_29=>
   some (.inl ((wrap .i64 ((wrap .i64 (t2+1))+1)),(wrap .i64 (t3+1)),r_27,r_28,r_29))) (
   (atL t t3).bind fun x21=>
   (aa c10 t2 x21 1).bind fun r_30=>
   some (.inl ((wrap .i64 (t2+1)),(wrap .i64 (t3+1)),c8,c9,r_30))))))) (
   br (x.Op==5) (
   (atL t x.A).bind fun x22=>
   (aa c8 t2 x22 1).bind fun r_31=>
   br (x.Op==5) (
   (atL t x.B).bind fun x23=>
   (aa r_31 t2 x23 2130706432).bind fun r_32=>
   (aa c9 t2 0 1).bind fun r_33=>
   (atL t t3).bind fun x24=>
   (aa c10 t2 x24 1).bind fun r_34=>
   some (.inl ((wrap .i64 (t2+1)),(wrap .i64 (t3+1)),r_32,r_33,r_34))) (
   (atL t x.B).bind fun x25=>
   (aa r_31 t2 x25 1).bind fun r_35=>
   (aa c9 t2 0 1).bind fun r_36=>
   (atL t t3).bind fun x26=>
   (aa c10 t2 x26 1).bind fun r_37=>
   some (.inl ((wrap .i64 (t2+1)),(wrap .i64 (t3+1)),r_35,r_36,r_37)))) (
   br (x.Op==3) (
   br (decide (x.K>0)) (
   (aa c8 t2 0 x.K).bind fun r_38=>
   (aa c9 t2 0 1).bind fun r_39=>
   (atL t t3).bind fun x27=>
   (aa c10 t2 x27 1).bind fun r_40=>
   some (.inl ((wrap .i64 (t2+1)),(wrap .i64 (t3+1)),r_38,r_39,r_40))) (
   (aa c9 t2 0 1).bind fun r_41=>
   (atL t t3).bind fun x28=>
   (aa c10 t2 x28 1).bind fun r_42=>
   some (.inl ((wrap .i64 (t2+1)),(wrap .i64 (t3+1)),c8,r_41,r_42)))) (
   br (x.Op==7) (
   (atL t x.B).bind fun x29=>
   (aa c8 t2 x29 1).bind fun r_43=>
   (aa c9 t2 0 1).bind fun r_44=>
   (atL t t3).bind fun x30=>
   (aa c10 t2 x30 1).bind fun r_45=>
   (atL t x.A).bind fun x31=>
   (aa r_43 (wrap .i64 (t2+1)) x31 1).bind fun r_46=>
   (aa r_44 (wrap .i64 (t2+1)) 0 1).bind fun r_47=>
   (atL t t3).bind fun x32=>
   (aa r_45 (wrap .i64 (t2+1)) x32 1).bind fun r_48=>
   some (.inl ((wrap .i64 ((wrap .i64 (t2+1))+1)),(wrap .i64 (t3+1)),r_46,r_47,r_48))) (
   br (x.Op==8) (
   (atL t x.A).bind fun x33=>
   (aa c8 t2 x33 1).bind fun r_49=>
   (atL t x.A).bind fun x34=>
   (aa c9 t2 x34 1).bind fun r_50=>
   (atL t t3).bind fun x35=>
   (aa c10 t2 x35 1).bind fun r_51=>
   (atL t x.A).bind fun x36=>
   (aa r_49 (wrap .i64 (t2+1)) x36 1).bind fun r_52=>
   (aa r_50 (wrap .i64 (t2+1)) 0 1).bind fun r_53=>
   (atL t t3).bind fun x37=>
   (aa r_51 (wrap .i64 (t2+1)) x37 1).bind fun r_54=>
   some (.inl ((wrap .i64 ((wrap .i64 (t2+1))+1)),(wrap .i64 (t3+1)),r_52,r_53,r_54))) (
   (atL t t3).bind fun x38=>
   (aa c10 t2 x38 1).bind fun r_55=>
   some (.inl ((wrap .i64 (t2+1)),(wrap .i64 (t3+1)),c8,c9,r_55)))))))))) (
   br (x.Op==2) (
   some (.inl (t2,(wrap .i64 (t3+1)),c8,c9,c10))) (
   br (x.Op==6) (
   (atL t x.A).bind fun x39=>
   (aa c8 t2 x39 1).bind fun r_56=>
   (atL t x.B).bind fun x40=>
   (aa c9 t2 x40 1).bind fun r_57=>
   (atL t t3).bind fun x41=>
   (aa c10 t2 x41 1).bind fun r_58=>
   some (.inl ((wrap .i64 (t2+1)),(wrap .i64 (t3+1)),r_56,r_57,r_58))) (
   br (x.Op==4) (
   br (x.Op==4) (
   (atL t x.A).bind fun x42=>
   (aa c8 t2 x42 1).bind fun r_59=>
   br (x.Op==5) (
   (atL t x.B).bind fun x43=>
   (aa r_59 t2 x43 2130706432).bind fun r_60=>
   (aa c9 t2 0 1).bind fun r_61=>
   (atL t t3).bind fun x44=>
   (aa c10 t2 x44 1).bind fun r_62=>
   some (.inl ((wrap .i64 (t2+1)),(wrap .i64 (t3+1)),r_60,r_61,r_62))) (
   (atL t x.B).bind fun x45=>
   (aa r_59 t2 x45 1).bind fun r_63=>
   (aa c9 t2 0 1).bind fun r_64=>
   (atL t t3).bind fun x46=>
   (aa c10 t2 x46 1).bind fun r_65=>
   some (.inl ((wrap .i64 (t2+1)),(wrap .i64 (t3+1)),r_63,r_64,r_65)))) (
   br (x.Op==3) (
   br (decide (x.K>0)) (
   (aa c8 t2 0 x.K).bind fun r_66=>
   (aa c9 t2 0 1).bind fun r_67=>
   (atL t t3).bind fun x47=>
   (aa c10 t2 x47 1).bind fun r_68=>
   some (.inl ((wrap .i64 (t2+1)),(wrap .i64 (t3+1)),r_66,r_67,r_68))) (
   (aa c9 t2 0 1).bind fun r_69=>
   (atL t t3).bind fun x48=>
   (aa c10 t2 x48 1).bind fun r_70=>
   some (.inl ((wrap .i64 (t2+1)),(wrap .i64 (t3+1)),c8,r_69,r_70)))) (
   br (x.Op==7) (
   (atL t x.B).bind fun x49=>
   (aa c8 t2 x49 1).bind fun r_71=>
   (aa c9 t2 0 1).bind fun r_72=>
   (atL t t3).bind fun x50=>
   (aa c10 t2 x50 1).bind fun r_73=>
   (atL t x.A).bind fun x51=>
   (aa r_71 (wrap .i64 (t2+1)) x51 1).bind fun r_74=>
   (aa r_72 (wrap .i64 (t2+1)) 0 1).bind fun r_75=>
   (atL t t3).bind fun x52=>
   (aa r_73 (wrap .i64 (t2+1)) x52 1).bind fun r_76=>
   some (.inl ((wrap .i64 ((wrap .i64 (t2+1))+1)),(wrap .i64 (t3+1)),r_74,r_75,r_76))) (
   br (x.Op==8) (
   (atL t x.A).bind fun x53=>
   (aa c8 t2 x53 1).bind fun r_77=>
   (atL t x.A).bind fun x54=>
   (aa c9 t2 x54 1).bind fun r_78=>
   (atL t t3).bind fun x55=>
   (aa c10 t2 x55 1).bind fun r_79=>
   (atL t x.A).bind fun x56=>
   (aa r_77 (wrap .i64 (t2+1)) x56 1).bind fun r_80=>
   (aa r_78 (wrap .i64 (t2+1)) 0 1).bind fun r_81=>
   (atL t t3).bind fun x57=>
   (aa r_79 (wrap .i64 (t2+1)) x57 1).bind fun r_82=>
   some (.inl ((wrap .i64 ((wrap .i64 (t2+1))+1)),(wrap .i64 (t3+1)),r_80,r_81,r_82))) (
   (atL t t3).bind fun x58=>
   (aa c10 t2 x58 1).bind fun r_83=>
   some (.inl ((wrap .i64 (t2+1)),(wrap .i64 (t3+1)),c8,c9,r_83))))))) (
   br (x.Op==5) (
   (atL t x.A).bind fun x59=>
   (aa c8 t2 x59 1).bind fun r_84=>
   br (x.Op==5) (
   (atL t x.B).bind fun x60=>
   (aa r_84 t2 x60 2130706432).bind fun r_85=>
   (aa c9 t2 0 1).bind fun r_86=>
   (atL t t3).bind fun x61=>
   (aa c10 t2 x61 1).bind fun r_87=>
   some (.inl ((wrap .i64 (t2+1)),(wrap .i64 (t3+1)),r_85,r_86,r_87))) (
   (atL t x.B).bind fun x62=>
   (aa r_84 t2 x62 1).bind fun r_88=>
   (aa c9 t2 0 1).bind fun r_89=>
   (atL t t3).bind fun x63=>
   (aa c10 t2 x63 1).bind fun r_90=>
   some (.inl ((wrap .i64 (t2+1)),(wrap .i64 (t3+1)),r_88,r_89,r_90)))) (
   br (x.Op==3) (
   br (decide (x.K>0)) (
   (aa c8 t2 0 x.K).bind fun r_91=>
   (aa c9 t2 0 1).bind fun r_92=>
   (atL t t3).bind fun x64=>
   (aa c10 t2 x64 1).bind fun r_93=>
   some (.inl ((wrap .i64 (t2+1)),(wrap .i64 (t3+1)),r_91,r_92,r_93))) (
   (aa c9 t2 0 1).bind fun r_94=>
   (atL t t3).bind fun x65=>
   (aa c10 t2 x65 1).bind fun r_95=>
   some (.inl ((wrap .i64 (t2+1)),(wrap .i64 (t3+1)),c8,r_94,r_95)))) (
   br (x.Op==7) (
   (atL t x.B).bind fun x66=>
   (aa c8 t2 x66 1).bind fun r_96=>
   (aa c9 t2 0 1).bind fun r_97=>
   (atL t t3).bind fun x67=>
   (aa c10 t2 x67 1).bind fun r_98=>
   (atL t x.A).bind fun x68=>
   (aa r_96 (wrap .i64 (t2+1)) x68 1).bind fun r_99=>
   (aa r_97 (wrap .i64 (t2+1)) 0 1).bind fun r_100=>
   (atL t t3).bind fun x69=>
   (aa r_98 (wrap .i64 (t2+1)) x69 1).bind fun r_101=>
   some (.inl ((wrap .i64 ((wrap .i64 (t2+1))+1)),(wrap .i64 (t3+1)),r_99,r_100,r_101))) (
   br (x.Op==8) (
   (atL t x.A).bind fun x70=>
   (aa c8 t2 x70 1).bind fun r_102=>
   (atL t x.A).bind fun x71=>
   (aa c9 t2 x71 1).bind fun r_103=>
   (atL t t3).bind fun x72=>
   (aa c10 t2 x72 1).bind fun r_104=>
   (atL t x.A).bind fun x73=>
   (aa r_102 (wrap .i64 (t2+1)) x73 1).bind fun r_105=>
   (aa r_103 (wrap .i64 (t2+1)) 0 1).bind fun r_106=>
   (atL t t3).bind fun x74=>
   (aa r_104 (wrap .i64 (t2+1)) x74 1).bind fun r_107=>
   some (.inl ((wrap .i64 ((wrap .i64 (t2+1))+1)),(wrap .i64 (t3+1)),r_105,r_106,r_107))) (
   (atL t t3).bind fun x75=>
   (aa c10 t2 x75 1).bind fun r_108=>
   some (.inl ((wrap .i64 (t2+1)),(wrap .i64 (t3+1)),c8,c9,r_108))))))))))) (
   some (.inr (t2,t3,decide (t3<((c.length:Nat):Int)),c8,c9,c10)))
abbrev ij (c:List Gate) (c2 c3 c4 c5 c6 c7:Int) (c8 c9 c10:List ab):List (Nat×Blk):=[(1000,⟨1,true,[[sl eGate c]]⟩),(1001,⟨6,true,[[I c2,I c3,I c4,.lit (.slice none 0 0),.lit (.slice none 0 0),.lit (.slice none 0 0)]]⟩),(3007,⟨6,true,[[I c5,I c6,I c7,sl ai c8,sl ai c9,sl ai c10]]⟩)]
abbrev lf (t:List Int) (c:List Gate) (c2 c3 c4 c5 c6 c7:Int) (s:Int×Int×(List ab)×(List ab)×(List ab)):St:=⟨[(1,.ptr 1000 0 0 1),(2,.ptr 1001 0 0 1),(3,sl eI t),(5,.ptr 3007 0 0 1),(6,I s.1),(7,I s.2.1)],ij c c2 c3 c4 c5 c6 c7 s.2.2.1 s.2.2.2.1 s.2.2.2.2⟩
abbrev ly (t:List Int) (c:List Gate) (c2 c3 c4 c5 c6 c7:Int):(Int×Int×Bool×(List ab)×(List ab)×(List ab))→aH×St:=fun e=>(.exit 0,⟨[(1,.ptr 1000 0 0 1),(2,.ptr 1001 0 0 1),(3,sl eI t),(5,.ptr 3007 0 0 1),(6,I e.1),(7,I e.2.1),(26,B e.2.2.1)],ij c c2 c3 c4 c5 c6 c7 e.2.2.2.1 e.2.2.2.2.1 e.2.2.2.2.2⟩)
theorem qN {t c c2 c3 c4 c5 c6 c7 s e} (h:Loop (bP t c c2 c3 c4 c5 c6 c7) s=some e):cw tab ow (.close [8005,13008,14008,17008,21009,22003,25005,26003,28008,29003,30007,32008,33003,35008,36008,37007,39008,40003,41007,3003,3004,3005]) kX (lf t c c2 c3 c4 c5 c6 c7 s)=some (ly t c c2 c3 c4 c5 c6 c7 e):=by
 refine lrG (fun s o h=> ?_) h
 obtain ⟨_,_,_,_,_⟩:=s
 simp only [bP] at h
 simp only [lf,ly,ij,kX,lx]
 have d1:= @vp
 exact go2
def eP (t4:Int) (c11:List Gate) (c12 c13 c14 c16 c17:Int) (c18 c19 c20:List ab):Int→Option ((Int)⊕((Bool×Int)))
 |c15=>
  br (decide (0≤(wrap .u64 c15))) (
  br (decide ((da .i64 1 (wrap .u64 c15))<t4)) (
  some (.inl (wrap .i64 (c15+1)))) (
  some (.inr (decide ((da .i64 1 (wrap .u64 c15))<t4),c15)))) none
abbrev ic (c11:List Gate) (c12 c13 c14 c16 c17:Int) (c18 c19 c20:List ab) (c15:Int):List (Nat×Blk):=[(1000,⟨1,true,[[sl eGate c11]]⟩),(1001,⟨6,true,[[I c12,I c13,I c14,.lit (.slice none 0 0),.lit (.slice none 0 0),.lit (.slice none 0 0)]]⟩),(3007,⟨6,true,[[I c15,I c16,I c17,sl ai c18,sl ai c19,sl ai c20]]⟩)]
abbrev lv (t4:Int) (c11:List Gate) (c12 c13 c14 c16 c17:Int) (c18 c19 c20:List ab) (s:Int):St:=⟨[(2,.ptr 1001 0 0 1),(5,.ptr 3007 0 0 1),(6,I t4)],ic c11 c12 c13 c14 c16 c17 c18 c19 c20 s⟩
abbrev lD (t4:Int) (c11:List Gate) (c12 c13 c14 c16 c17:Int) (c18 c19 c20:List ab):(Bool×Int)→aH×St:=fun e=>(.exit 3,⟨[(2,.ptr 1001 0 0 1),(5,.ptr 3007 0 0 1),(6,I t4),(218,B e.1)],ic c11 c12 c13 c14 c16 c17 c18 c19 c20 e.2⟩)
theorem qF {t4 c11 c12 c13 c14 c16 c17 c18 c19 c20 s e} (h:Loop (eP t4 c11 c12 c13 c14 c16 c17 c18 c19 c20) s=some e):cw tab ow (.close []) ka (lv t4 c11 c12 c13 c14 c16 c17 c18 c19 c20 s)=some (lD t4 c11 c12 c13 c14 c16 c17 c18 c19 c20 e):=by
 refine lrG (fun s o h=> ?_) h
 simp only [eP] at h
 simp only [lv,lD,ic,ka,jK]
 exact go2
def hO (ListtoArray:Circuit):Option (aQ):=
 (jW ListtoArray).bind fun r_=>
 (fb ListtoArray 2).bind fun r_2=>
 (Loop (bP r_.1 ListtoArray.Gates 0 0 0 0 r_.2 r_2) (0,0,([]:List ab),([]:List ab),([]:List ab))).bind fun e_=>
 (Loop (eP e_.1 ListtoArray.Gates 0 0 0 r_.2 r_2 e_.2.2.2.1 e_.2.2.2.2.1 e_.2.2.2.2.2) 1).bind fun e_2=>
 some (aQ.mk e_2.2 r_.2 r_2 e_.2.2.2.1 e_.2.2.2.2.1 e_.2.2.2.2.2)
theorem tR {ListtoArray r} (h:hO ListtoArray=some r):Call tab ow 41 [.agg [sl eGate ListtoArray.Gates]] []=some (.agg [I r.Rows,I r.Cols,I r.Publics,sl ai r.A,sl ai r.B,sl ai r.C],[]):=by
 rw [au (af:=gU) rfl]
 unfold hO at h
 simp only [gU,gJ]
 have d1:= @yx
 have d2:= @kP
 have d3:= @qN
 have d4:= @qF
 exact go2
end
def gr (c:Circuit):Option (aQ×Int):=
 (gZ c).bind fun r_=>
 br (!r_) (
 some ((aQ.mk 0 0 0 ([]:List ab) ([]:List ab) ([]:List ab)),19)) (
 (hO c).bind fun r_2=>
 some (r_2,0))
theorem uV {c r} (h:gr c=some r):Call tab ow 8 [.agg [sl eGate c.Gates]] []=some (.tup [.agg [I r.1.Rows,I r.1.Cols,I r.1.Publics,sl ai r.1.A,sl ai r.1.B,sl ai r.1.C],I r.2],[]):=by
 rw [au (af:=iw) rfl]
 unfold gr at h
 simp only [iw,p6]
 have d1:= @tZ
 have d2:= @tR
 exact go2
def eo (n low high:Int):Option (Bool):=
 br (decide (low≤n)) (
 some (decide (n≤high))) (
 some false)
theorem zB {n low high r} (h:eo n low high=some r):Call tab ow 59 [I n,I low,I high] []=some (B r,[]):=by
 rw [au (af:=uT) rfl]
 unfold eo at h
 simp only [uT,EX]
 exact go2
def ki (a:Int):Option (Bool):=
 (eo a 0 2130706432).bind fun r_=>
 some r_
theorem wQ {a r} (h:ki a=some r):Call tab ow 66 [I a] []=some (B r,[]):=by
 rw [au (af:=ja) rfl]
 unfold ki at h
 simp only [ja,qq]
 have d1:= @zB
 exact go2
def mi (g:Gate) (below:Int):Option (Bool):=
 br (g.Op==3) (
 (ki g.K).bind fun r_=>
 (eo g.Op 1 8).bind fun r_2=>
 br r_2 (
 br (g.A==0) (
 br (g.B==0) (
 some r_) (
 some false)) (
 some false)) (
 some false)) (
 br (g.Op==4) (
 br (g.Op==4) (
 (eo g.A 0 (wrap .i64 (below-1))).bind fun r_3=>
 (eo g.B 0 (wrap .i64 (below-1))).bind fun r_4=>
 (eo g.Op 1 8).bind fun r_5=>
 br r_5 (
 br r_3 (
 br r_4 (
 some (g.K==0)) (
 some false)) (
 some false)) (
 some false)) (
 br (g.Op==8) (
 (eo g.A 0 (wrap .i64 (below-1))).bind fun r_6=>
 (eo g.Op 1 8).bind fun r_7=>
 br r_7 (
 br r_6 (
 br (g.B==0) (
 some (g.K==0)) (
 some false)) (
 some false)) (
 some false)) (
 (eo g.Op 1 8).bind fun r_8=>
 br r_8 (
 br (g.A==0) (
 br (g.B==0) (
 some (g.K==0)) (
 some false)) (
 some false)) (
 some false)))) (
 br (g.Op==5) (
 br (g.Op==5) (
 (eo g.A 0 (wrap .i64 (below-1))).bind fun r_9=>
 (eo g.B 0 (wrap .i64 (below-1))).bind fun r_10=>
 (eo g.Op 1 8).bind fun r_11=>
 br r_11 (
 br r_9 (
 br r_10 (
 some (g.K==0)) (
 some false)) (
 some false)) (
 some false)) (
 br (g.Op==8) (
 (eo g.A 0 (wrap .i64 (below-1))).bind fun r_12=>
 (eo g.Op 1 8).bind fun r_13=>
 br r_13 (
 br r_12 (
 br (g.B==0) (
 some (g.K==0)) (
 some false)) (
 some false)) (
 some false)) (
 (eo g.Op 1 8).bind fun r_14=>
 br r_14 (
 br (g.A==0) (
 br (g.B==0) (
 some (g.K==0)) (
 some false)) (
 some false)) (
 some false)))) (
 br (g.Op==6) (
 br (g.Op==6) (
 (eo g.A 0 (wrap .i64 (below-1))).bind fun r_15=>
 (eo g.B 0 (wrap .i64 (below-1))).bind fun r_16=>
 (eo g.Op 1 8).bind fun r_17=>
 br r_17 (
 br r_15 (
 br r_16 (
 some (g.K==0)) (
 some false)) (
 some false)) (
 some false)) (
 br (g.Op==8) (
 (eo g.A 0 (wrap .i64 (below-1))).bind fun r_18=>
 (eo g.Op 1 8).bind fun r_19=>
 br r_19 (
 br r_18 (
 br (g.B==0) (
 some (g.K==0)) (
 some false)) (
 some false)) (
 some false)) (
 (eo g.Op 1 8).bind fun r_20=>
 br r_20 (
 br (g.A==0) (
 br (g.B==0) (
 some (g.K==0)) (
 some false)) (
 some false)) (
 some false)))) (
 br (g.Op==7) (
 (eo g.A 0 (wrap .i64 (below-1))).bind fun r_21=>
 (eo g.B 0 (wrap .i64 (below-1))).bind fun r_22=>
 (eo g.Op 1 8).bind fun r_23=>
 br r_23 (
 br r_21 (
 br r_22 (
 some (g.K==0)) (
 some false)) (
 some false)) (
 some false)) (
 br (g.Op==8) (
 (eo g.A 0 (wrap .i64 (below-1))).bind fun r_24=>
 (eo g.Op 1 8).bind fun r_25=>
 br r_25 (
 br r_24 (
 br (g.B==0) (
 some (g.K==0)) (
 some false)) (
 some false)) (
 some false)) (
 (eo g.Op 1 8).bind fun r_26=>
 br r_26 (
 br (g.A==0) (
 br (g.B==0) (
 some (g.K==0)) (
 some false)) (
 some false)) (
 some false)))))))
theorem AL {g below r} (h:mi g below=some r):Call tab ow 61 [.agg [I g.Op,I g.A,I g.B,I g.K],I below] []=some (B r,[]):=by
 rw [au (af:=ko) rfl]
 unfold mi at h
 simp only [ko,rF]
 have d1:= @wQ
 have d2:= @zB
 exact go2
def bw (op2:Int) (t:List Gate) (t2:Int) (c2:List Gate):Int×Int→Option ((Int×Int)⊕((Int×Int×Bool)))
 | (count,t3)=>
   br (decide (t3<t2)) (
   (atL t t3).bind fun x=>
   br (x.Op==op2) (
   some (.inl ((wrap .i64 (count+1)),(wrap .i64 (t3+1))))) (
   some (.inl (count,(wrap .i64 (t3+1)))))) (
   some (.inr (count,t3,decide (t3<t2))))
abbrev ga (op2:Int) (t:List Gate) (t2:Int) (c2:List Gate) (s:Int×Int):St:=⟨[(1,I op2),(5,I s.1),(9,sl eGate t),(10,I t2),(11,I s.2)],[(1000,⟨1,true,[[sl eGate c2]]⟩)]⟩
abbrev g8 (op2:Int) (t:List Gate) (t2:Int) (c2:List Gate):(Int×Int×Bool)→aH×St:=fun e=>(.exit 0,⟨[(1,I op2),(5,I e.1),(9,sl eGate t),(10,I t2),(11,I e.2.1),(12,B e.2.2)],[(1000,⟨1,true,[[sl eGate c2]]⟩)]⟩)
theorem lM {op2 t t2 c2 s e} (h:Loop (bw op2 t t2 c2) s=some e):cw tab ow (.close [5002]) fW (ga op2 t t2 c2 s)=some (g8 op2 t t2 c2 e):=by
 refine lrG (fun s o h=> ?_) h
 obtain ⟨_,_⟩:=s
 simp only [bw] at h
 simp only [ga,g8,fW,gg]
 exact go2
def bZ (c:Circuit) (op:Int):Option (Int):=
 (Loop (bw op c.Gates ((c.Gates.length:Nat):Int) c.Gates) (0,0)).bind fun e_=>
 some e_.1
theorem io {c op r} (h:bZ c op=some r):Call tab ow 60 [.agg [sl eGate c.Gates],I op] []=some (I r,[]):=by
 rw [au (af:=cO) rfl]
 unfold bZ at h
 simp only [cO,ed]
 have d1:= @lM
 exact go2
def bA (t:List Gate) (t2:Int) (c2:List Gate):Int→Option ((Int)⊕((Int×Int×Int×Int)⊕(Int×Bool)))
 |t3=>
  br (decide (t3<t2)) (
  (atL t t3).bind fun x=>
  (mi x t3).bind fun r_2=>
  br (!r_2) (
  some (.inr (.inl (x.Op,x.A,x.B,x.K)))) (
  some (.inl (wrap .i64 (t3+1))))) (
  some (.inr (.inr (t3,decide (t3<t2)))))
abbrev ln (t:List Gate) (t2:Int) (c2:List Gate) (s:Int):St:=⟨[(1,.ptr 1000 0 0 1),(11,sl eGate t),(12,I t2),(13,I s)],[(1000,⟨1,true,[[sl eGate c2]]⟩)]⟩
abbrev lu (t:List Gate) (t2:Int) (c2:List Gate):((Int×Int×Int×Int)⊕(Int×Bool))→aH×St:=alt (fun e=>((.ret,⟨[(2,B false)],[(1000,⟨1,true,[[sl eGate c2]]⟩),(6003,⟨4,true,[[I e.1,I e.2.1,I e.2.2.1,I e.2.2.2]]⟩)]⟩):aH×St)) (fun e=>(.exit 0,⟨[(1,.ptr 1000 0 0 1),(11,sl eGate t),(12,I t2),(13,I e.1),(14,B e.2)],[(1000,⟨1,true,[[sl eGate c2]]⟩)]⟩))
theorem qz {t t2 c2 s e} (h:Loop (bA t t2 c2) s=some e):cw tab ow (.close [6003,7002]) lr (ln t t2 c2 s)=some (lu t t2 c2 e):=by
 refine lrG (fun s o h=> ?_) h
 simp only [bA] at h
 simp only [ln,lu,lr,lm]
 have d1:= @AL
 exact go2
def hU (c:Circuit):Option (Bool):=
 (eo ((c.Gates.length:Nat):Int) 1 15).bind fun r_=>
 br (!r_) (
 some false) (
 (Loop (bA c.Gates ((c.Gates.length:Nat):Int) c.Gates) 0).bind (alt (fun e_2=>
 some false) (fun e_3=>
 (bZ c 2).bind fun r_3=>
 some (decide (r_3≤7)))))
theorem tW {c r} (h:hU c=some r):Call tab ow 22 [.agg [sl eGate c.Gates]] []=some (B r,[]):=by
 rw [au (af:=gV) rfl]
 unfold hU at h
 simp only [gV,jG]
 have d1:= @zB
 have d2:= @qz
 have d3:= @io
 exact go2
def dv (s:aQ):Option (Int):=
 br (decide (0≤(wrap .i64 (s.Cols-1)))) (
 some (da .i64 1 (wrap .i64 (s.Cols-1)))) none
theorem l7 {s r} (h:dv s=some r):Call tab ow 62 [.agg [I s.Rows,I s.Cols,I s.Publics,sl ai s.A,sl ai s.B,sl ai s.C]] []=some (I r,[]):=by
 rw [au (af:=eQ) rfl]
 unfold dv at h
 simp only [eQ,lk]
 exact go2
def wW (a b:Int):Option (Int):=
 some ((wrap .i64 (a+b)).tmod 2130706433)
theorem Kl {a b r} (h:wW a b=some r):Call tab ow 72 [I a,I b] []=some (I r,[]):=by
 rw [au (af:=rg) rfl]
 unfold wW at h
 simp only [rg,Bv]
 exact go2
def aO (m6 m7:List Tri) (t t2:Int) (t3:List (Int×Int)) (t4 c:Int):(List Tri)×Int→Option (((List Tri)×Int)⊕(((List Tri)×Int×Bool)))
 | (m5,t5)=>
   br (decide (t5<t4)) (
   (atL t3 t5).bind fun x=>
   (wW (bU c x.1 m5) x.2).bind fun r_=>
   some (.inl ((bW c x.1 r_ m5),(wrap .i64 (t5+1))))) (
   some (.inr (m5,t5,decide (t5<t4))))
abbrev ib (m6 m7:List Tri) (c:Int) (m5:List Tri):List (Nat×Blk):=[(0,⟨4,true,[[I c,.mp 1,.mp 2,.mp 3]]⟩),(1,⟨0,true,[ak m5]⟩),(2,⟨0,true,[ak m6]⟩),(3,⟨0,true,[ak m7]⟩)]
abbrev kV (m6 m7:List Tri) (t t2:Int) (t3:List (Int×Int)) (t4 c:Int) (s:(List Tri)×Int):St:=⟨[(0,.ptr 0 0 0 1),(2,I t),(3,I t2),(11,sl (eA2 eI) t3),(12,I t4),(13,I s.2)],ib m6 m7 c s.1⟩
abbrev lG (m6 m7:List Tri) (t t2:Int) (t3:List (Int×Int)) (t4 c:Int):((List Tri)×Int×Bool)→aH×St:=fun e=>(.exit 0,⟨[(0,.ptr 0 0 0 1),(2,I t),(3,I t2),(11,sl (eA2 eI) t3),(12,I t4),(13,I e.2.1),(14,B e.2.2)],ib m6 m7 c e.1⟩)
theorem qQ {m6 m7 t t2 t3 t4 c s e} (h:Loop (aO m6 m7 t t2 t3 t4 c) s=some e):cw tab ow (.close [3002,4007,5013]) ld (kV m6 m7 t t2 t3 t4 c s)=some (lG m6 m7 t t2 t3 t4 c e):=by
 refine lrG (fun s o h=> ?_) h
 obtain ⟨_,_⟩:=s
 simp only [aO] at h
 simp only [kV,lG,ib,ld,l5]
 have d1:= @Kl
 exact go2
def b8 (a:(List (Int×Int))) (a2 a3 m:Int) (m2 m3 m4:List Tri):Option (Int×(List Tri)×(List Tri)×(List Tri)):=
 (Loop (aO m3 m4 a2 a3 a ((a.length:Nat):Int) m) (m2,0)).bind fun e_=>
 some ((wrap .i64 (m+1)),e_.1,(bW m a2 1 m3),(bW m a3 1 m4))
theorem tG {a a2 a3 m m2 m3 m4 r} (h:b8 a a2 a3 m m2 m3 m4=some r):Call tab ow 134 [.ptr 0 0 0 1,sl (eA2 eI) a,I a2,I a3] [⟨4,true,[[I m,.mp 1,.mp 2,.mp 3]]⟩,⟨0,true,[ak m2]⟩,⟨0,true,[ak m3]⟩,⟨0,true,[ak m4]⟩]=some (.tup [],[⟨4,true,[[I r.1,.mp 1,.mp 2,.mp 3]]⟩,⟨0,true,[ak r.2.1]⟩,⟨0,true,[ak r.2.2.1]⟩,⟨0,true,[ak r.2.2.2]⟩]):=by
 rw [au (af:=gR) rfl]
 unfold b8 at h
 simp only [gR,jC]
 have d1:= @qQ
 exact go2
section
theorem ov:mkR 2006 []=rws (eA2 eI) []:=rfl
attribute [local go_sem] ov
def b6 (place value:Int) (m:(List Int)):Option ((List (Int×Int))):=
 (atL m place).bind fun x=>
 some ([(x,value)]:List (Int×Int))
theorem pB {place value m r} (h:b6 place value m=some r):Call tab ow 133 [I place,I value,.ptr 0 0 0 1] [⟨1,true,[[sl eI m]]⟩]=some (.sl 1 0 r.length,[⟨1,true,[[sl eI m]]⟩,⟨2,false,rws (eA2 eI) r⟩]):=by
 rw [au (af:=dY) rfl]
 unfold b6 at h
 simp only [dY,jN]
 exact go2
end
section
theorem qy:mkR 5004 []=rws (eA2 eI) []:=rfl
attribute [local go_sem] qy
def fQ (a:Gate) (a2:Int) (a3:(List Int)) (m:Int) (m2 m3 m4:List Tri):Option (Int×(List Tri)×(List Tri)×(List Tri)):=
 br (a.Op==3) (
 (b8 ([(0,a.K)]:List (Int×Int)) 0 a2 m m2 m3 m4).bind fun r_=>
 some (r_.1,r_.2.1,r_.2.2.1,r_.2.2.2)) (
 br (a.Op==4) (
 (b6 a.A 1 a3).bind fun r_2=>
 (b6 a.B 1 a3).bind fun r_3=>
 br (dP ((r_2++r_3).length) 16) (
 (b8 (r_2++r_3) 0 a2 m m2 m3 m4).bind fun r_4=>
 some (r_4.1,r_4.2.1,r_4.2.2.1,r_4.2.2.2)) none) (
 br (a.Op==5) (
 (b6 a.A 1 a3).bind fun r_5=>
 (b6 a.B 2130706432 a3).bind fun r_6=>
 br (dP ((r_5++r_6).length) 16) (
 (b8 (r_5++r_6) 0 a2 m m2 m3 m4).bind fun r_7=>
 some (r_7.1,r_7.2.1,r_7.2.2.1,r_7.2.2.2)) none) (
 br (a.Op==6) (
 (b6 a.A 1 a3).bind fun r_8=>
 (atL a3 a.B).bind fun x=>
 (b8 r_8 x a2 m m2 m3 m4).bind fun r_9=>
 some (r_9.1,r_9.2.1,r_9.2.2.1,r_9.2.2.2)) (
 br (a.Op==7) (
 (b6 a.B 1 a3).bind fun r_10=>
 (b8 r_10 0 a2 m m2 m3 m4).bind fun r_11=>
 (b6 a.A 1 a3).bind fun r_12=>
 (b8 r_12 0 a2 r_11.1 r_11.2.1 r_11.2.2.1 r_11.2.2.2).bind fun r_13=>
 some (r_13.1,r_13.2.1,r_13.2.2.1,r_13.2.2.2)) (
 br (a.Op==8) (
 (b6 a.A 1 a3).bind fun r_14=>
 (atL a3 a.A).bind fun x2=>
 (b8 r_14 x2 a2 m m2 m3 m4).bind fun r_15=>
 (b6 a.A 1 a3).bind fun r_16=>
 (b8 r_16 0 a2 r_15.1 r_15.2.1 r_15.2.2.1 r_15.2.2.2).bind fun r_17=>
 some (r_17.1,r_17.2.1,r_17.2.2.1,r_17.2.2.2)) (
 some (m,m2,m3,m4)))))))
theorem rA {a a2 a3 m m2 m3 m4 r} (h:fQ a a2 a3 m m2 m3 m4=some r):Call tab ow 94 [.ptr 0 0 0 1,.agg [I a.Op,I a.A,I a.B,I a.K],I a2,sl eI a3] [⟨4,true,[[I m,.mp 1,.mp 2,.mp 3]]⟩,⟨0,true,[ak m2]⟩,⟨0,true,[ak m3]⟩,⟨0,true,[ak m4]⟩]=some (.tup [],[⟨4,true,[[I r.1,.mp 1,.mp 2,.mp 3]]⟩,⟨0,true,[ak r.2.1]⟩,⟨0,true,[ak r.2.2.1]⟩,⟨0,true,[ak r.2.2.2]⟩]):=by
 rw [au (af:=fF) rfl]
 unfold fQ at h
 simp only [fF,mM]
 have d1:= @tG
 have d2:= @pB
 exact go2
end
end
end Go.AI.Fn
set_option linter.unusedVariables false
set_option linter.unusedSimpArgs false
set_option maxRecDepth 100000
set_option maxHeartbeats 1000000
namespace Go.AI.Fn
noncomputable section
open IntKind (wrap)
def jo (t:Tri):ab:=⟨t.1,t.2.1,t.2.2⟩
def gy (m:List Tri):Option (List ab×List Tri):=
 br (db m&&decide (m.length<1073741824)) (
 some ((bk (m.filter nzT)).map jo,m)) none
theorem yg {m r} (h:gy m=some r):Call tab ow 95 [.mp 0] [⟨0,true,[ak m]⟩]=some (.sl 1 0 r.1.length,[⟨0,true,[ak r.2]⟩,⟨3,false,rws ai r.1⟩]):=by
 unfold gy at h
 obtain ⟨hb,h⟩:=brg h
 cases h
 rw [yU (g:=vY true) rfl]
 exact LO ai jo rfl (fun _=>rfl) hb
section
theorem mL:mkR 6000 []=rws eI []:=rfl
attribute [local go_sem] mL
theorem mg:mkR 11002 []=rws eI []:=rfl
attribute [local go_sem] mg
theorem mE:mkR 12002 []=rws eI []:=rfl
attribute [local go_sem] mE
def ba (t:Int) (c:List Gate) (c2 c3 c4 c5 c7:Int):Int→Option ((Int)⊕((Bool×Int)))
 |c6=>
  (dv (aQ.mk c5 c6 c7 ([]:List ab) ([]:List ab) ([]:List ab))).bind fun r_2=>
  br (decide (r_2<(mx (wrap .i64 (c7+1)) t))) (
  some (.inl (wrap .i64 (c6+1)))) (
  some (.inr (decide (r_2<(mx (wrap .i64 (c7+1)) t)),c6)))
abbrev dE (c:List Gate) (c2 c3 c4 c5 c7 c6:Int):List (Nat×Blk):=[(1000,⟨1,true,[[sl eGate c]]⟩),(1001,⟨6,true,[[I c2,I c3,I c4,.lit (.slice none 0 0),.lit (.slice none 0 0),.lit (.slice none 0 0)]]⟩),(2003,⟨6,true,[[I c5,I c6,I c7,.lit (.slice none 0 0),.lit (.slice none 0 0),.lit (.slice none 0 0)]]⟩)]
abbrev fY (t:Int) (c:List Gate) (c2 c3 c4 c5 c7 s:Int):St:=⟨[(1,.ptr 1000 0 0 1),(2,.ptr 1001 0 0 1),(3,.ptr 2003 0 0 1),(4,I t)],dE c c2 c3 c4 c5 c7 s⟩
abbrev g9 (t:Int) (c:List Gate) (c2 c3 c4 c5 c7:Int):(Bool×Int)→aH×St:=fun e=>(.exit 0,⟨[(1,.ptr 1000 0 0 1),(2,.ptr 1001 0 0 1),(3,.ptr 2003 0 0 1),(4,I t),(29,B e.1)],dE c c2 c3 c4 c5 c7 e.2⟩)
theorem lH {t c c2 c3 c4 c5 c7 s e} (h:Loop (ba t c c2 c3 c4 c5 c7) s=some e):cw tab ow (.close [4001]) fX (fY t c c2 c3 c4 c5 c7 s)=some (g9 t c c2 c3 c4 c5 c7 e):=by
 refine lrG (fun s o h=> ?_) h
 simp only [ba] at h
 simp only [fY,g9,dE,fX,gp]
 have d1:= @l7
 exact go2
def bc (t4:List Gate) (t5:Int) (c8:List Gate) (c9 c10 c11 c12 c13 c14:Int):(List Int)×Int×Int×Int→Option (((List Int)×Int×Int×Int)⊕(((List Int)×Int×Int×Int×Bool)))
 | (l,t2,t3,t6)=>
   br (decide (t6<t5)) (
   (atL t4 t6).bind fun x=>
   br (x.Op==2) (
   br (dP ((l++([t2]:List Int)).length) 8) (
   some (.inl ((l++([t2]:List Int)),(wrap .i64 (t2+1)),t3,(wrap .i64 (t6+1))))) none) (
   br (dP ((l++([t3]:List Int)).length) 8) (
   some (.inl ((l++([t3]:List Int)),t2,(wrap .i64 (t3+1)),(wrap .i64 (t6+1))))) none)) (
   some (.inr (l,t2,t3,t6,decide (t6<t5))))
abbrev dy (c8:List Gate) (c9 c10 c11 c12 c13 c14:Int) (l:List Int):List (Nat×Blk):=[(1000,⟨1,true,[[sl eGate c8]]⟩),(1001,⟨6,true,[[I c9,I c10,I c11,.lit (.slice none 0 0),.lit (.slice none 0 0),.lit (.slice none 0 0)]]⟩),(2003,⟨6,true,[[I c12,I c13,I c14,.lit (.slice none 0 0),.lit (.slice none 0 0),.lit (.slice none 0 0)]]⟩),(6000,⟨1,false,rws eI l⟩)]
abbrev fZ (t4:List Gate) (t5:Int) (c8:List Gate) (c9 c10 c11 c12 c13 c14:Int) (s:(List Int)×Int×Int×Int):St:=⟨[(1,.ptr 1000 0 0 1),(2,.ptr 1001 0 0 1),(3,.ptr 2003 0 0 1),(5,.sl 6000 0 s.1.length),(6,I s.2.1),(7,I s.2.2.1),(38,sl eGate t4),(39,I t5),(40,I s.2.2.2)],dy c8 c9 c10 c11 c12 c13 c14 s.1⟩
abbrev gc (t4:List Gate) (t5:Int) (c8:List Gate) (c9 c10 c11 c12 c13 c14:Int):((List Int)×Int×Int×Int×Bool)→aH×St:=fun e=>(.exit 2,⟨[(1,.ptr 1000 0 0 1),(2,.ptr 1001 0 0 1),(3,.ptr 2003 0 0 1),(5,.sl 6000 0 e.1.length),(6,I e.2.1),(7,I e.2.2.1),(38,sl eGate t4),(39,I t5),(40,I e.2.2.2.1),(41,B e.2.2.2.2)],dy c8 c9 c10 c11 c12 c13 c14 e.1⟩)
theorem lJ {t4 t5 c8 c9 c10 c11 c12 c13 c14 s e} (h:Loop (bc t4 t5 c8 c9 c10 c11 c12 c13 c14) s=some e):cw tab ow (.close [9002,11002,11003,12002,12003]) ge (fZ t4 t5 c8 c9 c10 c11 c12 c13 c14 s)=some (gc t4 t5 c8 c9 c10 c11 c12 c13 c14 e):=by
 refine lrG (fun s o h=> ?_) h
 obtain ⟨_,_,_,_⟩:=s
 simp only [bc] at h
 simp only [fZ,gc,dy,ge,gn]
 exact go2
def bv (l2:List Int) (t7:List Gate) (t8:Int) (c15:List Gate) (c16 c17 c18 c19 c20 c21:Int):(List Tri)×(List Tri)×(List Tri)×Int×Int→Option (((List Tri)×(List Tri)×(List Tri)×Int×Int)⊕(((List Tri)×(List Tri)×(List Tri)×Int×Bool×Int)))
 | (m,m2,m3,t9,c22)=>
   br (decide (t9<t8)) (
   (atL t7 t9).bind fun x2=>
   br (decide (0≤t9)) (
   br (decide (t9.toNat<l2.length)) (
   (l2[t9.toNat]?).bind fun x3=>
   (fQ x2 x3 l2 c22 m m2 m3).bind fun r_4=>
   some (.inl (r_4.2.1,r_4.2.2.1,r_4.2.2.2,(wrap .i64 (t9+1)),r_4.1))) none) none) (
   some (.inr (m,m2,m3,t9,decide (t9<t8),c22)))
abbrev dz (l2:List Int) (c15:List Gate) (c16 c17 c18 c19 c20 c21:Int) (m m2 m3:List Tri) (c22:Int):List (Nat×Blk):=[(1000,⟨1,true,[[sl eGate c15]]⟩),(1001,⟨6,true,[[I c16,I c17,I c18,.lit (.slice none 0 0),.lit (.slice none 0 0),.lit (.slice none 0 0)]]⟩),(2003,⟨6,true,[[I c19,I c20,I c21,.lit (.slice none 0 0),.lit (.slice none 0 0),.lit (.slice none 0 0)]]⟩),(6000,⟨1,false,rws eI l2⟩),(14000,⟨0,true,[ak m]⟩),(14001,⟨0,true,[ak m2]⟩),(14002,⟨0,true,[ak m3]⟩),(14004,⟨4,true,[[I c22,.mp 14000,.mp 14001,.mp 14002]]⟩)]
abbrev fU (l2:List Int) (t7:List Gate) (t8:Int) (c15:List Gate) (c16 c17 c18 c19 c20 c21:Int) (s:(List Tri)×(List Tri)×(List Tri)×Int×Int):St:=⟨[(2,.ptr 1001 0 0 1),(3,.ptr 2003 0 0 1),(5,.sl 6000 0 l2.length),(10,.ptr 14004 0 0 1),(66,sl eGate t7),(67,I t8),(68,I s.2.2.2.1)],dz l2 c15 c16 c17 c18 c19 c20 c21 s.1 s.2.1 s.2.2.1 s.2.2.2.2⟩
abbrev gk (l2:List Int) (t7:List Gate) (t8:Int) (c15:List Gate) (c16 c17 c18 c19 c20 c21:Int):((List Tri)×(List Tri)×(List Tri)×Int×Bool×Int)→aH×St:=fun e=>(.exit 4,⟨[(2,.ptr 1001 0 0 1),(3,.ptr 2003 0 0 1),(5,.sl 6000 0 l2.length),(10,.ptr 14004 0 0 1),(66,sl eGate t7),(67,I t8),(68,I e.2.2.2.1),(69,B e.2.2.2.2.1)],dz l2 c15 c16 c17 c18 c19 c20 c21 e.1 e.2.1 e.2.2.1 e.2.2.2.2.2⟩)
theorem lL {l2 t7 t8 c15 c16 c17 c18 c19 c20 c21 s e} (h:Loop (bv l2 t7 t8 c15 c16 c17 c18 c19 c20 c21) s=some e):cw tab ow (.close [17003,18007]) fR (fU l2 t7 t8 c15 c16 c17 c18 c19 c20 c21 s)=some (gk l2 t7 t8 c15 c16 c17 c18 c19 c20 c21 e):=by
 refine lrG (fun s o h=> ?_) h
 obtain ⟨_,_,_,_,_⟩:=s
 simp only [bv] at h
 simp only [fU,gk,dz,fR,fB]
 have d1:= @rA
 exact go2
def cu (l3:List Int) (m4 m5 m6:List Tri) (t10:List Gate) (t11 t12:Int) (t13:Bool) (c23:List Gate) (c24 c25 c26 c28 c29 c30:Int):Int→Option ((Int)⊕((Bool×Int)))
 |c27=>
  br (decide (0≤c27)) (
  br (decide ((da .i64 1 c27)<c30)) (
  some (.inl (wrap .i64 (c27+1)))) (
  some (.inr (decide ((da .i64 1 c27)<c30),c27)))) none
abbrev dD (l3:List Int) (m4 m5 m6:List Tri) (c23:List Gate) (c24 c25 c26 c28 c29 c30 c27:Int):List (Nat×Blk):=[(1000,⟨1,true,[[sl eGate c23]]⟩),(1001,⟨6,true,[[I c24,I c25,I c26,.lit (.slice none 0 0),.lit (.slice none 0 0),.lit (.slice none 0 0)]]⟩),(2003,⟨6,true,[[I c27,I c28,I c29,.lit (.slice none 0 0),.lit (.slice none 0 0),.lit (.slice none 0 0)]]⟩),(6000,⟨1,false,rws eI l3⟩),(14000,⟨0,true,[ak m4]⟩),(14001,⟨0,true,[ak m5]⟩),(14002,⟨0,true,[ak m6]⟩),(14004,⟨4,true,[[I c30,.mp 14000,.mp 14001,.mp 14002]]⟩)]
abbrev g6 (l3:List Int) (m4 m5 m6:List Tri) (t10:List Gate) (t11 t12:Int) (t13:Bool) (c23:List Gate) (c24 c25 c26 c28 c29 c30 s:Int):St:=⟨[(2,.ptr 1001 0 0 1),(3,.ptr 2003 0 0 1),(5,.sl 6000 0 l3.length),(10,.ptr 14004 0 0 1),(66,sl eGate t10),(67,I t11),(68,I t12),(69,B t13)],dD l3 m4 m5 m6 c23 c24 c25 c26 c28 c29 c30 s⟩
abbrev fV (l3:List Int) (m4 m5 m6:List Tri) (t10:List Gate) (t11 t12:Int) (t13:Bool) (c23:List Gate) (c24 c25 c26 c28 c29 c30:Int):(Bool×Int)→aH×St:=fun e=>(.exit 6,⟨[(2,.ptr 1001 0 0 1),(3,.ptr 2003 0 0 1),(5,.sl 6000 0 l3.length),(10,.ptr 14004 0 0 1),(66,sl eGate t10),(67,I t11),(68,I t12),(69,B t13),(89,B e.1)],dD l3 m4 m5 m6 c23 c24 c25 c26 c28 c29 c30 e.2⟩)
theorem lN {l3 m4 m5 m6 t10 t11 t12 t13 c23 c24 c25 c26 c28 c29 c30 s e} (h:Loop (cu l3 m4 m5 m6 t10 t11 t12 t13 c23 c24 c25 c26 c28 c29 c30) s=some e):cw tab ow (.close []) fP (g6 l3 m4 m5 m6 t10 t11 t12 t13 c23 c24 c25 c26 c28 c29 c30 s)=some (fV l3 m4 m5 m6 t10 t11 t12 t13 c23 c24 c25 c26 c28 c29 c30 e):=by
 refine lrG (fun s o h=> ?_) h
 simp only [cu] at h
 simp only [g6,fV,dD,fP,fH]
 exact go2
def cB (ListtoArray:Circuit):Option (Int×Int×Int×(List ab)×(List ab)×(List ab)):=
 (bZ ListtoArray 2).bind fun r_=>
 (Loop (ba (wrap .i64 (((ListtoArray.Gates.length:Nat):Int)-r_)) ListtoArray.Gates 0 0 0 1 r_) 2).bind fun e_=>
 (dv (aQ.mk 1 e_.2 r_ ([]:List ab) ([]:List ab) ([]:List ab))).bind fun r_3=>
 (Loop (bc ListtoArray.Gates ((ListtoArray.Gates.length:Nat):Int) ListtoArray.Gates 0 0 0 1 e_.2 r_) (([]:List Int),1,r_3,0)).bind fun e_2=>
 (Loop (bv e_2.1 ListtoArray.Gates ((ListtoArray.Gates.length:Nat):Int) ListtoArray.Gates 0 0 0 1 e_.2 r_) (([]:List Tri),([]:List Tri),([]:List Tri),0,0)).bind fun e_3=>
 (Loop (cu e_2.1 e_3.1 e_3.2.1 e_3.2.2.1 ListtoArray.Gates ((ListtoArray.Gates.length:Nat):Int) e_3.2.2.2.1 e_3.2.2.2.2.1 ListtoArray.Gates 0 0 0 e_.2 r_ e_3.2.2.2.2.2) 1).bind fun e_4=>
 (gy e_3.1).bind fun r_5=>
 (gy e_3.2.1).bind fun r_6=>
 (gy e_3.2.2.1).bind fun r_7=>
 some (e_4.2,e_.2,r_,r_5.1,r_6.1,r_7.1)
theorem np {ListtoArray r} (h:cB ListtoArray=some r):Call tab ow 43 [.agg [sl eGate ListtoArray.Gates]] []=some (.agg [I r.1,I r.2.1,I r.2.2.1,.sl 0 0 r.2.2.2.1.length,.sl 1 0 r.2.2.2.2.1.length,.sl 2 0 r.2.2.2.2.2.length],[⟨3,false,rws ai r.2.2.2.1⟩,⟨3,false,rws ai r.2.2.2.2.1⟩,⟨3,false,rws ai r.2.2.2.2.2⟩]):=by
 rw [au (af:=cN) rfl]
 unfold cB at h
 simp only [cN,bN]
 have d1:= @io
 have d2:= @lH
 have d3:= @l7
 have d4:= @lJ
 have d5:= @lL
 have d6:= @lN
 have d7:= @yg
 exact go2
end
def dO (c:Circuit):Option (Int×Int×Int×Int×(List ab)×(List ab)×(List ab)):=
 (hU c).bind fun r_=>
 br (!r_) (
 some (0,0,0,19,([]:List ab),([]:List ab),([]:List ab))) (
 (cB c).bind fun r_2=>
 some (r_2.1,r_2.2.1,r_2.2.2.1,0,r_2.2.2.2.1,r_2.2.2.2.2.1,r_2.2.2.2.2.2))
theorem tS {c r} (h:dO c=some r):Call tab ow 10 [.agg [sl eGate c.Gates]] []=some (.tup [.agg [I r.1,I r.2.1,I r.2.2.1,.sl 0 0 r.2.2.2.2.1.length,.sl 1 0 r.2.2.2.2.2.1.length,.sl 2 0 r.2.2.2.2.2.2.length],I r.2.2.2.1],[⟨3,false,rws ai r.2.2.2.2.1⟩,⟨3,false,rws ai r.2.2.2.2.2.1⟩,⟨3,false,rws ai r.2.2.2.2.2.2⟩]):=by
 rw [au (af:=gz) rfl]
 unfold dO at h
 simp only [gz,nP]
 have d1:= @tW
 have d2:= @np
 exact go2
def n9 (a b:ab):Option (Bool):=
 br (a.Row !=b.Row) (
 some false) (
 br (a.Col !=b.Col) (
 some false) (
 br (a.Value !=b.Value) (
 some false) (
 some true)))
theorem wZ {a b r} (h:n9 a b=some r):Call tab ow 96 [.agg [I a.Row,I a.Col,I a.Value],.agg [I b.Row,I b.Col,I b.Value]] []=some (B r,[]):=by
 rw [au (af:=ji) rfl]
 unfold n9 at h
 simp only [ji,qa]
 exact go2
def dK (a2 b2:List ab):Int→Option ((Int)⊕(Unit⊕(Int×Bool)))
 |i=>
  br (decide (i<((a2.length:Nat):Int))) (
  (atL a2 i).bind fun x=>
  (atL b2 i).bind fun x2=>
  (n9 x x2).bind fun r_=>
  br (!r_) (
  some (.inr (.inl ()))) (
  some (.inl (wrap .i64 (i+1))))) (
  some (.inr (.inr (i,decide (i<((a2.length:Nat):Int))))))
abbrev mc (a2 b2:List ab) (s:Int):St:=⟨[(0,sl ai a2),(1,sl ai b2),(5,I s)],[]⟩
abbrev mS (a2 b2:List ab):(Unit⊕(Int×Bool))→aH×St:=alt (fun e=>((.ret,⟨[(4,B false)],[]⟩):aH×St)) (fun e=>(.exit 0,⟨[(0,sl ai a2),(1,sl ai b2),(5,I e.1),(14,B e.2)],[]⟩))
theorem so {a2 b2 s e} (h:Loop (dK a2 b2) s=some e):cw tab ow (.close [7008]) lX (mc a2 b2 s)=some (mS a2 b2 e):=by
 refine lrG (fun s o h=> ?_) h
 simp only [dK] at h
 simp only [mc,mS,lX,mP]
 have d1:= @wZ
 exact go2
def eY (a b:(List ab)):Option (Bool):=
 br (((a.length:Nat):Int) !=((b.length:Nat):Int)) (
 some false) (
 (Loop (dK a b) 0).bind (alt (fun e_2=>
 some false) (fun e_3=>
 some true)))
theorem vi {a b r} (h:eY a b=some r):Call tab ow 44 [sl ai a,sl ai b] []=some (B r,[]):=by
 rw [au (af:=ir) rfl]
 unfold eY at h
 simp only [ir,kN]
 have d1:= @so
 exact go2
def fa (a b:aQ):Option (Bool):=
 br (a.Rows !=b.Rows) (
 some false) (
 br (a.Cols !=b.Cols) (
 some false) (
 br (a.Publics !=b.Publics) (
 some false) (
 (eY a.A b.A).bind fun r_=>
 br (!r_) (
 some false) (
 (eY a.B b.B).bind fun r_2=>
 br (!r_2) (
 some false) (
 (eY a.C b.C).bind fun r_3=>
 br (!r_3) (
 some false) (
 some true))))))
theorem vX {a b r} (h:fa a b=some r):Call tab ow 11 [.agg [I a.Rows,I a.Cols,I a.Publics,sl ai a.A,sl ai a.B,sl ai a.C],.agg [I b.Rows,I b.Cols,I b.Publics,sl ai b.A,sl ai b.B,sl ai b.C]] []=some (B r,[]):=by
 rw [au (af:=is) rfl]
 unfold fa at h
 simp only [is,oz]
 have d1:= @vi
 exact go2
def oR (a b:Gate):Option (Bool):=
 br (a.Op !=b.Op) (
 some false) (
 br (a.A !=b.A) (
 some false) (
 br (a.B !=b.B) (
 some false) (
 br (a.K !=b.K) (
 some false) (
 some true))))
theorem AG {a b r} (h:oR a b=some r):Call tab ow 97 [.agg [I a.Op,I a.A,I a.B,I a.K],.agg [I b.Op,I b.A,I b.B,I b.K]] []=some (B r,[]):=by
 rw [au (af:=ky) rfl]
 unfold oR at h
 simp only [ky,sw]
 exact go2
def eC (a2 b2:List Gate):Int→Option ((Int)⊕(Unit⊕(Int×Bool)))
 |i=>
  br (decide (i<((a2.length:Nat):Int))) (
  (atL a2 i).bind fun x=>
  (atL b2 i).bind fun x2=>
  (oR x x2).bind fun r_=>
  br (!r_) (
  some (.inr (.inl ()))) (
  some (.inl (wrap .i64 (i+1))))) (
  some (.inr (.inr (i,decide (i<((a2.length:Nat):Int))))))
abbrev nJ (a2 b2:List Gate) (s:Int):St:=⟨[(0,sl eGate a2),(1,sl eGate b2),(5,I s)],[]⟩
abbrev nD (a2 b2:List Gate):(Unit⊕(Int×Bool))→aH×St:=alt (fun e=>((.ret,⟨[(4,B false)],[]⟩):aH×St)) (fun e=>(.exit 0,⟨[(0,sl eGate a2),(1,sl eGate b2),(5,I e.1),(14,B e.2)],[]⟩))
theorem tT {a2 b2 s e} (h:Loop (eC a2 b2) s=some e):cw tab ow (.close [7008]) nQ (nJ a2 b2 s)=some (nD a2 b2 e):=by
 refine lrG (fun s o h=> ?_) h
 simp only [eC] at h
 simp only [nJ,nD,nQ,nr]
 have d1:= @AG
 exact go2
def km (a b:(List Gate)):Option (Bool):=
 br (((a.length:Nat):Int) !=((b.length:Nat):Int)) (
 some false) (
 (Loop (eC a b) 0).bind (alt (fun e_2=>
 some false) (fun e_3=>
 some true)))
theorem yw {a b r} (h:km a b=some r):Call tab ow 45 [sl eGate a,sl eGate b] []=some (B r,[]):=by
 rw [au (af:=jp) rfl]
 unfold km at h
 simp only [jp,lU]
 have d1:= @tT
 exact go2
def hG (a b:Circuit):Option (Bool):=
 (km a.Gates b.Gates).bind fun r_=>
 br (!r_) (
 some false) (
 some true)
theorem tK {a b r} (h:hG a b=some r):Call tab ow 12 [.agg [sl eGate a.Gates],.agg [sl eGate b.Gates]] []=some (B r,[]):=by
 rw [au (af:=gH) rfl]
 unfold hG at h
 simp only [gH,nO]
 have d1:= @yw
 exact go2
def bM:(List Gate)×Int×Int→Option (((List Gate)×Int×Int)⊕(((List Gate)×Int×Int×Bool)))
 | (l2,k2,i)=>
   br (decide (i<((l2.length:Nat):Int))) (
   br (decide (0≤i)) (
   br (decide (i.toNat<l2.length)) (
   (l2[i.toNat]?).bind fun x=>
   br (decide (0≤i)) (
   br (decide (i.toNat<l2.length)) (
   ((l2.set i.toNat (Gate.mk k2 x.A x.B x.K))[i.toNat]?).bind fun x2=>
   br (decide (0≤i)) (
   br (decide (i.toNat<l2.length)) (
   (((l2.set i.toNat (Gate.mk k2 x.A x.B x.K)).set i.toNat (Gate.mk x2.Op (wrap .i64 (k2+1)) x2.B x2.K))[i.toNat]?).bind fun x3=>
   br (decide (0≤i)) (
   br (decide (i.toNat<l2.length)) (
   ((((l2.set i.toNat (Gate.mk k2 x.A x.B x.K)).set i.toNat (Gate.mk x2.Op (wrap .i64 (k2+1)) x2.B x2.K)).set i.toNat (Gate.mk x3.Op x3.A (wrap .i64 ((wrap .i64 (k2+1))+1)) x3.K))[i.toNat]?).bind fun x4=>
   some (.inl (((((l2.set i.toNat (Gate.mk k2 x.A x.B x.K)).set i.toNat (Gate.mk x2.Op (wrap .i64 (k2+1)) x2.B x2.K)).set i.toNat (Gate.mk x3.Op x3.A (wrap .i64 ((wrap .i64 (k2+1))+1)) x3.K)).set i.toNat (Gate.mk x4.Op x4.A x4.B (wrap .i64 ((wrap .i64 ((wrap .i64 (k2+1))+1))+1)))),(wrap .i64 ((wrap .i64 ((wrap .i64 ((wrap .i64 (k2+1))+1))+1))+1)),(wrap .i64 (i+1))))) none) none) none) none) none) none) none) none) (
   some (.inr (l2,k2,i,decide (i<((l2.length:Nat):Int)))))
abbrev jd (s:(List Gate)×Int×Int):St:=⟨[(0,.sl 0 0 s.1.length),(1,I s.2.1),(5,I s.2.2)],[(0,⟨4,false,rws eGate s.1⟩)]⟩
abbrev jr:((List Gate)×Int×Int×Bool)→aH×St:=fun e=>(.exit 0,⟨[(0,.sl 0 0 e.1.length),(1,I e.2.1),(5,I e.2.2.1),(9,B e.2.2.2)],[(0,⟨4,false,rws eGate e.1⟩)]⟩)
theorem p9 { s e} (h:Loop (bM) s=some e):cw tab ow (.close []) kY (jd s)=some (jr e):=by
 refine lrG (fun s o h=> ?_) h
 obtain ⟨_,_,_⟩:=s
 simp only [bM] at h
 simp only [jd,jr,kY,lF]
 exact go2
def ey (k:Int) (l:List Gate):Option (Int×(List Gate)):=
 (Loop (bM) (l,k,0)).bind fun e_=>
 some (e_.2.1,e_.1)
theorem qM {k l r} (h:ey k l=some r):Call tab ow 46 [.sl 0 0 l.length,I k] [⟨4,false,rws eGate l⟩]=some (I r.1,[⟨4,false,rws eGate r.2⟩]):=by
 rw [au (af:=gB) rfl]
 unfold ey at h
 simp only [gB,jz]
 have d1:= @p9
 exact go2
def eH (k:Int) (l:List Gate):Option (Int×(List Gate)):=
 (ey k l).bind fun r_=>
 some (r_.1,r_.2)
theorem qU {k l r} (h:eH k l=some r):Call tab ow 13 [.agg [.sl 0 0 l.length],I k] [⟨4,false,rws eGate l⟩]=some (I r.1,[⟨4,false,rws eGate r.2⟩]):=by
 rw [au (af:=eV) rfl]
 unfold eH at h
 simp only [eV,kW]
 have d1:= @qM
 exact go2
def bC:(List ab)×Int×Int→Option (((List ab)×Int×Int)⊕(((List ab)×Int×Int×Bool)))
 | (l2,k2,i)=>
   br (decide (i<((l2.length:Nat):Int))) (
   br (decide (0≤i)) (
   br (decide (i.toNat<l2.length)) (
   (l2[i.toNat]?).bind fun x=>
   br (decide (0≤i)) (
   br (decide (i.toNat<l2.length)) (
   ((l2.set i.toNat (ab.mk k2 x.Col x.Value))[i.toNat]?).bind fun x2=>
   br (decide (0≤i)) (
   br (decide (i.toNat<l2.length)) (
   (((l2.set i.toNat (ab.mk k2 x.Col x.Value)).set i.toNat (ab.mk x2.Row (wrap .i64 (k2+1)) x2.Value))[i.toNat]?).bind fun x3=>
   some (.inl ((((l2.set i.toNat (ab.mk k2 x.Col x.Value)).set i.toNat (ab.mk x2.Row (wrap .i64 (k2+1)) x2.Value)).set i.toNat (ab.mk x3.Row x3.Col (wrap .i64 ((wrap .i64 (k2+1))+1)))),(wrap .i64 ((wrap .i64 ((wrap .i64 (k2+1))+1))+1)),(wrap .i64 (i+1))))) none) none) none) none) none) none) (
   some (.inr (l2,k2,i,decide (i<((l2.length:Nat):Int)))))
abbrev j2 (s:(List ab)×Int×Int):St:=⟨[(0,.sl 0 0 s.1.length),(1,I s.2.1),(5,I s.2.2)],[(0,⟨3,false,rws ai s.1⟩)]⟩
abbrev iL:((List ab)×Int×Int×Bool)→aH×St:=fun e=>(.exit 0,⟨[(0,.sl 0 0 e.1.length),(1,I e.2.1),(5,I e.2.2.1),(9,B e.2.2.2)],[(0,⟨3,false,rws ai e.1⟩)]⟩)
theorem nW { s e} (h:Loop (bC) s=some e):cw tab ow (.close []) ke (j2 s)=some (iL e):=by
 refine lrG (fun s o h=> ?_) h
 obtain ⟨_,_,_⟩:=s
 simp only [bC] at h
 simp only [j2,iL,ke,jL]
 exact go2
def cr (k:Int) (l:List ab):Option (Int×(List ab)):=
 (Loop (bC) (l,k,0)).bind fun e_=>
 some (e_.2.1,e_.1)
theorem pH {k l r} (h:cr k l=some r):Call tab ow 47 [.sl 0 0 l.length,I k] [⟨3,false,rws ai l⟩]=some (I r.1,[⟨3,false,rws ai r.2⟩]):=by
 rw [au (af:=fL) rfl]
 unfold cr at h
 simp only [fL,iX]
 have d1:= @nW
 exact go2
def fD (a a2 a3 k:Int) (l l2 l3:List ab):Option (Int×(List ab)×(List ab)×(List ab)):=
 (cr k l).bind fun r_=>
 (cr r_.1 l2).bind fun r_2=>
 (cr r_2.1 l3).bind fun r_3=>
 some (r_3.1,r_.2,r_2.2,r_3.2)
theorem rV {a a2 a3 k l l2 l3 r} (h:fD a a2 a3 k l l2 l3=some r):Call tab ow 14 [.agg [I a,I a2,I a3,.sl 0 0 l.length,.sl 1 0 l2.length,.sl 2 0 l3.length],I k] [⟨3,false,rws ai l⟩,⟨3,false,rws ai l2⟩,⟨3,false,rws ai l3⟩]=some (I r.1,[⟨3,false,rws ai r.2.1⟩,⟨3,false,rws ai r.2.2.1⟩,⟨3,false,rws ai r.2.2.2⟩]):=by
 rw [au (af:=fG) rfl]
 unfold fD at h
 simp only [fG,mK]
 have d1:= @pH
 exact go2
def bV (a2:List ab):Int×Int→Option ((Int×Int)⊕(Unit⊕(Int×Int×Bool)))
 | (k2,i)=>
   br (decide (i<((a2.length:Nat):Int))) (
   (atL a2 i).bind fun x=>
   br (x.Row !=k2) (
   some (.inr (.inl ()))) (
   (atL a2 i).bind fun x2=>
   br (x2.Col !=(wrap .i64 (k2+1))) (
   some (.inr (.inl ()))) (
   (atL a2 i).bind fun x3=>
   br (x3.Value !=(wrap .i64 ((wrap .i64 (k2+1))+1))) (
   some (.inr (.inl ()))) (
   some (.inl ((wrap .i64 ((wrap .i64 ((wrap .i64 (k2+1))+1))+1)),(wrap .i64 (i+1)))))))) (
   some (.inr (.inr (k2,i,decide (i<((a2.length:Nat):Int))))))
abbrev jM (a2:List ab) (s:Int×Int):St:=⟨[(0,sl ai a2),(1,I s.1),(5,I s.2)],[]⟩
abbrev jS (a2:List ab):(Unit⊕(Int×Int×Bool))→aH×St:=alt (fun e=>((.ret,⟨[(4,I (-1:Int))],[]⟩):aH×St)) (fun e=>(.exit 0,⟨[(0,sl ai a2),(1,I e.1),(5,I e.2.1),(9,B e.2.2)],[]⟩))
theorem pp {a2 s e} (h:Loop (bV a2) s=some e):cw tab ow (.close []) jQ (jM a2 s)=some (jS a2 e):=by
 refine lrG (fun s o h=> ?_) h
 obtain ⟨_,_⟩:=s
 simp only [bV] at h
 simp only [jM,jS,jQ,kh]
 exact go2
def dm (a:(List ab)) (k:Int):Option (Int):=
 (Loop (bV a) (k,0)).bind (alt (fun e_2=>
 some (-1:Int)) (fun e_3=>
 some e_3.1))
theorem te {a k r} (h:dm a k=some r):Call tab ow 48 [sl ai a,I k] []=some (I r,[]):=by
 rw [au (af:=fI) rfl]
 unfold dm at h
 simp only [fI,iS]
 have d1:= @pp
 exact go2
def ea (a:aQ) (k:Int):Option (Int):=
 (dm a.A k).bind fun r_=>
 br (decide (r_<0)) (
 some (-1:Int)) (
 (dm a.B r_).bind fun r_2=>
 br (decide (r_2<0)) (
 some (-1:Int)) (
 (dm a.C r_2).bind fun r_3=>
 br (decide (r_3<0)) (
 some (-1:Int)) (
 some r_3)))
theorem sK {a k r} (h:ea a k=some r):Call tab ow 15 [.agg [I a.Rows,I a.Cols,I a.Publics,sl ai a.A,sl ai a.B,sl ai a.C],I k] []=some (I r,[]):=by
 rw [au (af:=fA) rfl]
 unfold ea at h
 simp only [fA,lR]
 have d1:= @te
 exact go2
def dG (ListtoArray:Circuit):Option (Bool):=
 (i5 ListtoArray 1048576).bind fun r_=>
 br (decide (r_<0)) (
 some true) (
 (cE ListtoArray).bind fun r_2=>
 (gr (Circuit.mk r_2)).bind fun r_3=>
 (cE ListtoArray).bind fun r_4=>
 (dO (Circuit.mk r_4)).bind fun r_5=>
 (fa (aQ.mk r_5.1 r_5.2.1 r_5.2.2.1 r_5.2.2.2.2.1 r_5.2.2.2.2.2.1 r_5.2.2.2.2.2.2) r_3.1).bind fun r_6=>
 br (!r_6) (
 some false) (
 br (r_5.2.2.2.1 !=r_3.2) (
 some false) (
 (cE ListtoArray).bind fun r_7=>
 (hG (Circuit.mk r_4) (Circuit.mk r_7)).bind fun r_8=>
 br (!r_8) (
 some false) (
 (eH 1 r_4).bind fun r_9=>
 br (decide (r_9.1<0)) (
 some false) (
 (fa (aQ.mk r_5.1 r_5.2.1 r_5.2.2.1 r_5.2.2.2.2.1 r_5.2.2.2.2.2.1 r_5.2.2.2.2.2.2) r_3.1).bind fun r_10=>
 br (!r_10) (
 some false) (
 br (r_5.2.2.2.1 !=r_3.2) (
 some false) (
 (fD r_5.1 r_5.2.1 r_5.2.2.1 1 r_5.2.2.2.2.1 r_5.2.2.2.2.2.1 r_5.2.2.2.2.2.2).bind fun r_11=>
 br (decide (r_11.2.1.length=r_5.2.2.2.2.1.length)) (
 br (decide (r_11.2.2.1.length=r_5.2.2.2.2.2.1.length)) (
 br (decide (r_11.2.2.2.length=r_5.2.2.2.2.2.2.length)) (
 (ea (aQ.mk r_5.1 r_5.2.1 r_5.2.2.1 r_11.2.1 r_11.2.2.1 r_11.2.2.2) 1).bind fun r_12=>
 br (decide (r_12<0)) (
 some false) (
 br (r_12 !=r_11.1) (
 some false) (
 (cE ListtoArray).bind fun r_13=>
 (dO (Circuit.mk r_13)).bind fun r_14=>
 (fa (aQ.mk r_14.1 r_14.2.1 r_14.2.2.1 r_14.2.2.2.2.1 r_14.2.2.2.2.2.1 r_14.2.2.2.2.2.2) r_3.1).bind fun r_15=>
 br (!r_15) (
 some false) (
 br (r_14.2.2.2.1 !=r_3.2) (
 some false) (
 br (decide (r_11.2.1.length=r_5.2.2.2.2.1.length)) (
 br (decide (r_11.2.2.1.length=r_5.2.2.2.2.2.1.length)) (
 br (decide (r_11.2.2.2.length=r_5.2.2.2.2.2.2.length)) (
 (ea (aQ.mk r_5.1 r_5.2.1 r_5.2.2.1 r_11.2.1 r_11.2.2.1 r_11.2.2.2) 1).bind fun r_16=>
 br (decide (r_16<0)) (
 some false) (
 br (r_16 !=r_11.1) (
 some false) (
 some true))) none) none) none))))) none) none) none)))))))
theorem w_FnExactSystemOf_c {ListtoArray r} (h:dG ListtoArray=some r):Call tab ow 3 [.agg [sl eGate ListtoArray.Gates]] []=some (B r,[]):=by
 rw [au (af:=a_w_FnExactSystemOf) rfl]
 unfold dG at h
 simp only [a_w_FnExactSystemOf,im]
 have d1:= @tE
 have d2:= @rX
 have d3:= @uV
 have d4:= @tS
 have d5:= @vX
 have d6:= @tK
 have d7:= @qU
 have d8:= @rV
 have d9:= @sK
 exact go2
end
end Go.AI.Fn
