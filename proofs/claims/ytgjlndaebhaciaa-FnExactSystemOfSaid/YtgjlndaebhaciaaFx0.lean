/- Walks through the program, with open values. -/
import Derived.Test.YtgjlndaebhaciaaStr
import Derived.Test.YtgjlndaebhaciaaTb2
set_option linter.unusedVariables false
set_option linter.unusedSimpArgs false
set_option maxRecDepth 100000
set_option maxHeartbeats 1000000
namespace Go.AI.Fn
noncomputable section
open IntKind (wrap)
def jO (a:(List Gate)) (left:Int):Option (Int):=
 br (decide ((wrap .i64 (left-((a.length:Nat):Int)))<0)) (
 some (-1:Int)) (
 some (wrap .i64 (left-((a.length:Nat):Int))))
theorem yc {a left r} (h:jO a left=some r):Call tab ow 39 [sl eGate a,I left] []=some (I r,[]):=by
 rw [aq (af:=ja) rfl]
 unfold jO at h
 simp only [ja,pP]
 exact go2
def gY (a:Circuit) (left:Int):Option (Int):=
 (jO a.Gates left).bind fun r_=>
 br (decide (r_<0)) (
 some (-1:Int)) (
 some r_)
theorem tR {a left r} (h:gY a left=some r):Call tab ow 7 [.agg [sl eGate a.Gates],I left] []=some (I r,[]):=by
 rw [aq (af:=gL) rfl]
 unfold gY at h
 simp only [gL,nN]
 have d1:= @yc
 exact go2
def pf (a:Gate):Option (Gate):=
 some a
theorem zQ {a r} (h:pf a=some r):Call tab ow 93 [.agg [I a.Op,I a.A,I a.B,I a.K]] []=some (.agg [I r.Op,I r.A,I r.B,I r.K],[]):=by
 rw [aq (af:=ku) rfl]
 unfold pf at h
 simp only [ku,rq]
 exact go2
section
theorem uI: ∀k,xb 2002 k [I (0:Int),I (0:Int),I (0:Int),I (0:Int)]=rws eGate (List.replicate k (Gate.mk (0:Int) (0:Int) (0:Int) (0:Int))):=fun _=>SP eGate (Gate.mk (0:Int) (0:Int) (0:Int) (0:Int)) _ _
attribute [local go_sem] uI
def ez (a2:List Gate):(List Gate)×Int→Option (((List Gate)×Int)⊕(((List Gate)×Int×Bool)))
 | (l,i)=>
   br (decide (i<((a2.length:Nat):Int))) (
   (atL a2 i).bind fun x=>
   (pf x).bind fun r_=>
   br (decide (0≤i)) (
   br (decide (i.toNat<l.length)) (
   (l[i.toNat]?).bind fun x2=>
   some (.inl ((l.set i.toNat r_),(wrap .i64 (i+1))))) none) none) (
   some (.inr (l,i,decide (i<((a2.length:Nat):Int)))))
abbrev nL (a2:List Gate) (s:(List Gate)×Int):St:=⟨[(0,sl eGate a2),(3,.sl 2002 0 s.1.length),(4,I s.2)],[(2002,⟨4,false,rws eGate s.1⟩)]⟩
abbrev nq (a2:List Gate):((List Gate)×Int×Bool)→aH×St:=fun e=>(.exit 0,⟨[(0,sl eGate a2),(3,.sl 2002 0 e.1.length),(4,I e.2.1),(11,B e.2.2)],[(2002,⟨4,false,rws eGate e.1⟩)]⟩)
theorem tx {a2 s e} (h:Loop (ez a2) s=some e):cw tab ow (.close [6006]) nS (nL a2 s)=some (nq a2 e):=by
 refine lrG (fun s o h=> ?_) h
 obtain ⟨_,_⟩:=s
 simp only [ez] at h
 simp only [nL,nq,nS,nF]
 have d1:= @zQ
 exact go2
def jJ (a:(List Gate)):Option ((List Gate)):=
 br (zw ((a.length:Nat):Int) ((a.length:Nat):Int) 32) (
 (Loop (ez a) ((List.replicate (((a.length:Nat):Int).toNat) (Gate.mk (0:Int) (0:Int) (0:Int) (0:Int))),(0:Int))).bind fun e_=>
 some e_.1) none
theorem xB {a r} (h:jJ a=some r):Call tab ow 42 [sl eGate a] []=some (.sl 0 0 r.length,[⟨4,false,rws eGate r⟩]):=by
 rw [aq (af:=jr) rfl]
 unfold jJ at h
 simp only [jr,m9]
 have d1:= @tx
 exact go2
end
def cE (a:Circuit):Option ((List Gate)):=
 (jJ a.Gates).bind fun r_=>
 some r_
theorem rt {a r} (h:cE a=some r):Call tab ow 9 [.agg [sl eGate a.Gates]] []=some (.agg [.sl 0 0 r.length],[⟨4,false,rws eGate r⟩]):=by
 rw [aq (af:=fA) rfl]
 unfold cE at h
 simp only [fA,mz]
 have d1:= @xB
 exact go2
def dh (n low high:Int):Option (Bool):=
 br (decide (low≤n)) (
 some (decide (n≤high))) (
 some false)
theorem nh {n low high r} (h:dh n low high=some r):Call tab ow 88 [I n,I low,I high] []=some (B r,[]):=by
 rw [aq (af:=mY) rfl]
 unfold dh at h
 simp only [mY,uw]
 exact go2
def jP (op:Int):Option (Int):=
 (dh op 4 7).bind fun r_=>
 br r_ (
 some 2) (
 br (op==8) (
 some 1) (
 some 0))
theorem wY {op r} (h:jP op=some r):Call tab ow 100 [I op] []=some (I r,[]):=by
 rw [aq (af:=jg) rfl]
 unfold jP at h
 simp only [jg,pZ]
 have d1:= @nh
 exact go2
def bj (a:Int):Option (Bool):=
 (dh a 0 2130706432).bind fun r_=>
 some r_
theorem xt {a r} (h:bj a=some r):Call tab ow 130 [I a] []=some (B r,[]):=by
 rw [aq (af:=jn) rfl]
 unfold bj at h
 simp only [jn,qf]
 have d1:= @nh
 exact go2
def k8 (g:Gate) (k:Int):Option (Bool):=
 (dh g.Op 1 8).bind fun r_=>
 br (!r_) (
 some false) (
 (jP g.Op).bind fun r_2=>
 br (decide (r_2>0)) (
 (dh g.A 0 (wrap .i64 (k-1))).bind fun r_3=>
 br (!r_3) (
 some false) (
 br (r_2==0) (
 br (g.A !=0) (
 some false) (
 br (decide (r_2>1)) (
 (dh g.B 0 (wrap .i64 (k-1))).bind fun r_4=>
 br (!r_4) (
 some false) (
 br (decide (r_2<2)) (
 br (g.B !=0) (
 some false) (
 br (g.Op==3) (
 (bj g.K).bind fun r_5=>
 some r_5) (
 some (g.K==0)))) (
 br (g.Op==3) (
 (bj g.K).bind fun r_6=>
 some r_6) (
 some (g.K==0))))) (
 br (decide (r_2<2)) (
 br (g.B !=0) (
 some false) (
 br (g.Op==3) (
 (bj g.K).bind fun r_7=>
 some r_7) (
 some (g.K==0)))) (
 br (g.Op==3) (
 (bj g.K).bind fun r_8=>
 some r_8) (
 some (g.K==0)))))) (
 br (decide (r_2>1)) (
 (dh g.B 0 (wrap .i64 (k-1))).bind fun r_9=>
 br (!r_9) (
 some false) (
 br (decide (r_2<2)) (
 br (g.B !=0) (
 some false) (
 br (g.Op==3) (
 (bj g.K).bind fun r_10=>
 some r_10) (
 some (g.K==0)))) (
 br (g.Op==3) (
 (bj g.K).bind fun r_11=>
 some r_11) (
 some (g.K==0))))) (
 br (decide (r_2<2)) (
 br (g.B !=0) (
 some false) (
 br (g.Op==3) (
 (bj g.K).bind fun r_12=>
 some r_12) (
 some (g.K==0)))) (
 br (g.Op==3) (
 (bj g.K).bind fun r_13=>
 some r_13) (
 some (g.K==0))))))) (
 br (r_2==0) (
 br (g.A !=0) (
 some false) (
 br (decide (r_2>1)) (
 (dh g.B 0 (wrap .i64 (k-1))).bind fun r_14=>
 br (!r_14) (
 some false) (
 br (decide (r_2<2)) (
 br (g.B !=0) (
 some false) (
 br (g.Op==3) (
 (bj g.K).bind fun r_15=>
 some r_15) (
 some (g.K==0)))) (
 br (g.Op==3) (
 (bj g.K).bind fun r_16=>
 some r_16) (
 some (g.K==0))))) (
 br (decide (r_2<2)) (
 br (g.B !=0) (
 some false) (
 br (g.Op==3) (
 (bj g.K).bind fun r_17=>
 some r_17) (
 some (g.K==0)))) (
 br (g.Op==3) (
 (bj g.K).bind fun r_18=>
 some r_18) (
 some (g.K==0)))))) (
 br (decide (r_2>1)) (
 (dh g.B 0 (wrap .i64 (k-1))).bind fun r_19=>
 br (!r_19) (
 some false) (
 br (decide (r_2<2)) (
 br (g.B !=0) (
 some false) (
 br (g.Op==3) (
 (bj g.K).bind fun r_20=>
 some r_20) (
 some (g.K==0)))) (
 br (g.Op==3) (
 (bj g.K).bind fun r_21=>
 some r_21) (
 some (g.K==0))))) (
 br (decide (r_2<2)) (
 br (g.B !=0) (
 some false) (
 br (g.Op==3) (
 (bj g.K).bind fun r_22=>
 some r_22) (
 some (g.K==0)))) (
 br (g.Op==3) (
 (bj g.K).bind fun r_23=>
 some r_23) (
 some (g.K==0)))))))
theorem xm {g k r} (h:k8 g k=some r):Call tab ow 89 [.agg [I g.Op,I g.A,I g.B,I g.K],I k] []=some (B r,[]):=by
 rw [aq (af:=je) rfl]
 unfold k8 at h
 simp only [je,pQ]
 have d1:= @nh
 have d2:= @wY
 have d3:= @xt
 exact go2
def pc (b:Bool):Option (Int):=
 br b (
 some 1) (
 some 0)
theorem AG {b r} (h:pc b=some r):Call tab ow 131 [B b] []=some (I r,[]):=by
 rw [aq (af:=kN) rfl]
 unfold pc at h
 simp only [kN,rQ]
 exact go2
def cS (op2:Int) (c2:List Gate):Int×Int→Option ((Int×Int)⊕((Int×Int×Bool)))
 | (n,k)=>
   br (decide (k<((c2.length:Nat):Int))) (
   (atL c2 k).bind fun x=>
   (pc (x.Op==op2)).bind fun r_=>
   some (.inl ((wrap .i64 (n+r_)),(wrap .i64 (k+1))))) (
   some (.inr (n,k,decide (k<((c2.length:Nat):Int)))))
abbrev mP (op2:Int) (c2:List Gate) (s:Int×Int):St:=⟨[(1,I op2),(2,.ptr 1000 0 0 1),(5,I s.1),(6,I s.2)],[(1000,⟨1,true,[[sl eGate c2]]⟩)]⟩
abbrev mr (op2:Int) (c2:List Gate):(Int×Int×Bool)→aH×St:=fun e=>(.exit 0,⟨[(1,I op2),(2,.ptr 1000 0 0 1),(5,I e.1),(6,I e.2.1),(11,B e.2.2)],[(1000,⟨1,true,[[sl eGate c2]]⟩)]⟩)
theorem sD {op2 c2 s e} (h:Loop (cS op2 c2) s=some e):cw tab ow (.close [6009]) m8 (mP op2 c2 s)=some (mr op2 c2 e):=by
 refine lrG (fun s o h=> ?_) h
 obtain ⟨_,_⟩:=s
 simp only [cS] at h
 simp only [mP,mr,m8,lS]
 have d1:= @AG
 exact go2
def fa (c:Circuit) (op:Int):Option (Int):=
 (Loop (cS op c.Gates) (0,0)).bind fun e_=>
 some e_.1
theorem kG {c op r} (h:fa c op=some r):Call tab ow 90 [.agg [sl eGate c.Gates],I op] []=some (I r,[]):=by
 rw [aq (af:=is) rfl]
 unfold fa at h
 simp only [is,kC]
 have d1:= @sD
 exact go2
def bz (c2:List Gate):Int→Option ((Int)⊕(Unit⊕(Int×Bool)))
 |k=>
  br (decide (k<((c2.length:Nat):Int))) (
  (atL c2 k).bind fun x=>
  (k8 x k).bind fun r_2=>
  br (!r_2) (
  some (.inr (.inl ()))) (
  some (.inl (wrap .i64 (k+1))))) (
  some (.inr (.inr (k,decide (k<((c2.length:Nat):Int))))))
abbrev lz (c2:List Gate) (s:Int):St:=⟨[(1,.ptr 1000 0 0 1),(3,I s)],[(1000,⟨1,true,[[sl eGate c2]]⟩)]⟩
abbrev lD (c2:List Gate):(Unit⊕(Int×Bool))→aH×St:=alt (fun e=>((.ret,⟨[(2,B false)],[(1000,⟨1,true,[[sl eGate c2]]⟩)]⟩):aH×St)) (fun e=>(.exit 0,⟨[(1,.ptr 1000 0 0 1),(3,I e.1),(13,B e.2)],[(1000,⟨1,true,[[sl eGate c2]]⟩)]⟩))
theorem qy {c2 s e} (h:Loop (bz c2) s=some e):cw tab ow (.close [7006]) lj (lz c2 s)=some (lD c2 e):=by
 refine lrG (fun s o h=> ?_) h
 simp only [bz] at h
 simp only [lz,lD,lj,kZ]
 have d1:= @xm
 exact go2
def gZ (c:Circuit):Option (Bool):=
 (dh ((c.Gates.length:Nat):Int) 1 15).bind fun r_=>
 br (!r_) (
 some false) (
 (Loop (bz c.Gates) 0).bind (alt (fun e_2=>
 some false) (fun e_3=>
 (fa c 2).bind fun r_3=>
 some (decide (r_3≤7)))))
theorem tS {c r} (h:gZ c=some r):Call tab ow 40 [.agg [sl eGate c.Gates]] []=some (B r,[]):=by
 rw [aq (af:=gz) rfl]
 unfold gZ at h
 simp only [gz,jI]
 have d1:= @nh
 have d2:= @qy
 have d3:= @kG
 exact go2
def dZ (p w_:Int) (c2:List Gate):Int→Option ((Int)⊕((Int×Bool)))
 |k=>
  br (decide (0≤(wrap .u64 (wrap .i64 (k-1))))) (
  br (decide ((cZ .i64 1 (wrap .u64 (wrap .i64 (k-1))))<(mx (wrap .i64 (p+1)) w_))) (
  some (.inl (wrap .i64 (k+1)))) (
  some (.inr (k,decide ((cZ .i64 1 (wrap .u64 (wrap .i64 (k-1))))<(mx (wrap .i64 (p+1)) w_)))))) none
abbrev oQ (p w_:Int) (c2:List Gate) (s:Int):St:=⟨[(3,I p),(4,I w_),(5,I s)],[(1000,⟨1,true,[[sl eGate c2]]⟩)]⟩
abbrev oE (p w_:Int) (c2:List Gate):(Int×Bool)→aH×St:=fun e=>(.exit 0,⟨[(3,I p),(4,I w_),(5,I e.1),(21,B e.2)],[(1000,⟨1,true,[[sl eGate c2]]⟩)]⟩)
theorem vB {p w_ c2 s e} (h:Loop (dZ p w_ c2) s=some e):cw tab ow (.close []) oq (oQ p w_ c2 s)=some (oE p w_ c2 e):=by
 refine lrG (fun s o h=> ?_) h
 simp only [dZ] at h
 simp only [oQ,oE,oq,oA]
 exact go2
def lT (c:Circuit):Option (Int):=
 (fa c 2).bind fun r_=>
 (Loop (dZ r_ (wrap .i64 (((c.Gates.length:Nat):Int)-r_)) c.Gates) 2).bind fun e_=>
 some e_.1
theorem zj {c r} (h:lT c=some r):Call tab ow 132 [.agg [sl eGate c.Gates]] []=some (I r,[]):=by
 rw [aq (af:=kB) rfl]
 unfold lT at h
 simp only [kB,og]
 have d1:= @kG
 have d2:= @vB
 exact go2
section
theorem vb:mkR 4000 []=rws eI []:=rfl
attribute [local go_sem] vb
theorem vw:mkR 12002 []=rws eI []:=rfl
attribute [local go_sem] vw
theorem wg:mkR 13004 []=rws eI []:=rfl
attribute [local go_sem] wg
def dw (cols half:Int) (c2:List Gate):(List Int)×Int×Int×Int→Option (((List Int)×Int×Int×Int)⊕(((List Int)×Int×Int×Int×Bool)))
 | (l,p,w_,k)=>
   br (decide (k<((c2.length:Nat):Int))) (
   (atL c2 k).bind fun x=>
   br (x.Op==2) (
   br (dM ((l++([(wrap .i64 (p+1))]:List Int)).length) 8) (
   some (.inl ((l++([(wrap .i64 (p+1))]:List Int)),(wrap .i64 (p+1)),w_,(wrap .i64 (k+1))))) none) (
   br (dM ((l++([(wrap .i64 (half+w_))]:List Int)).length) 8) (
   some (.inl ((l++([(wrap .i64 (half+w_))]:List Int)),p,(wrap .i64 (w_+1)),(wrap .i64 (k+1))))) none)) (
   some (.inr (l,p,w_,k,decide (k<((c2.length:Nat):Int)))))
abbrev jv (c2:List Gate) (l:List Int):List (Nat×Blk):=[(1000,⟨1,true,[[sl eGate c2]]⟩),(4000,⟨1,false,rws eI l⟩)]
abbrev nE (cols half:Int) (c2:List Gate) (s:(List Int)×Int×Int×Int):St:=⟨[(1,.ptr 1000 0 0 1),(4,I cols),(5,I half),(6,.sl 4000 0 s.1.length),(7,I s.2.1),(8,I s.2.2.1),(9,I s.2.2.2)],jv c2 s.1⟩
abbrev nH (cols half:Int) (c2:List Gate):((List Int)×Int×Int×Int×Bool)→aH×St:=fun e=>(.exit 0,⟨[(1,.ptr 1000 0 0 1),(4,I cols),(5,I half),(6,.sl 4000 0 e.1.length),(7,I e.2.1),(8,I e.2.2.1),(9,I e.2.2.2.1),(21,B e.2.2.2.2)],jv c2 e.1⟩)
theorem tK {cols half c2 s e} (h:Loop (dw cols half c2) s=some e):cw tab ow (.close [12002,12003,13004,13005]) nO (nE cols half c2 s)=some (nH cols half c2 e):=by
 refine lrG (fun s o h=> ?_) h
 obtain ⟨_,_,_,_⟩:=s
 simp only [dw] at h
 simp only [nE,nH,jv,nO,nw]
 exact go2
def jR (c:Circuit):Option ((List Int)×Int):=
 (lT c).bind fun r_=>
 br (decide (0≤(wrap .u64 (wrap .i64 (r_-1))))) (
 (Loop (dw r_ (cZ .i64 1 (wrap .u64 (wrap .i64 (r_-1)))) c.Gates) (([]:List Int),0,0,0)).bind fun e_=>
 some (e_.1,r_)) none
theorem xp {c r} (h:jR c=some r):Call tab ow 91 [.agg [sl eGate c.Gates]] []=some (.tup [sl eI r.1,I r.2],[]):=by
 rw [aq (af:=js) rfl]
 unfold jR at h
 simp only [js,mg]
 have d1:= @zj
 have d2:= @tK
 exact go2
end
def mh (a b:Int):Option (Int):=
 some ((wrap .i64 (a+b)).tmod 2130706433)
theorem zf {a b r} (h:mh a b=some r):Call tab ow 105 [I a,I b] []=some (I r,[]):=by
 rw [aq (af:=kF) rfl]
 unfold mh at h
 simp only [kF,ti]
 exact go2
section
theorem tP:mkR 7000 []=rws ai []:=rfl
attribute [local go_sem] tP
theorem tq:mkR 9005 []=rws ai []:=rfl
attribute [local go_sem] tq
theorem tB:mkR 11000 []=rws ai []:=rfl
attribute [local go_sem] tB
theorem tN:mkR 11009 []=rws ai []:=rfl
attribute [local go_sem] tN
def cp (ListtoArray2:List ab) (t t2 t3:Int):Int→Option ((Int)⊕((Int×Bool)))
 |t4=>
  br (decide (t4>0)) (
  (atL ListtoArray2 (wrap .i64 (t4-1))).bind fun x=>
  br (x.Row==t) (
  (atL ListtoArray2 (wrap .i64 (t4-1))).bind fun x2=>
  br (decide (x2.Col>t2)) (
  some (.inl (wrap .i64 (t4-1)))) (
  some (.inr (t4,decide (x2.Col>t2))))) (
  some (.inr (t4,false)))) (
  some (.inr (t4,false)))
abbrev mM (ListtoArray2:List ab) (t t2 t3 s:Int):St:=⟨[(0,sl ai ListtoArray2),(1,I t),(2,I t2),(3,I t3),(9,I s)],[]⟩
abbrev mT (ListtoArray2:List ab) (t t2 t3:Int):(Int×Bool)→aH×St:=fun e=>(.exit 0,⟨[(0,sl ai ListtoArray2),(1,I t),(2,I t2),(3,I t3),(9,I e.1),(35,B e.2)],[]⟩)
theorem rO {ListtoArray2 t t2 t3 s e} (h:Loop (cp ListtoArray2 t t2 t3) s=some e):cw tab ow (.close []) lP (mM ListtoArray2 t t2 t3 s)=some (mT ListtoArray2 t t2 t3 e):=by
 refine lrG (fun s o h=> ?_) h
 simp only [cp] at h
 simp only [mM,mT,lP,lQ]
 exact go2
def aa (ListtoArray:(List ab)) (a a2 a3:Int):Option ((List ab)):=
 (Loop (cp ListtoArray a a2 a3) ((ListtoArray.length:Nat):Int)).bind fun e_=>
 br (decide (e_.1>0)) (
 (atL ListtoArray (wrap .i64 (e_.1-1))).bind fun x3=>
 br (x3.Row==a) (
 (atL ListtoArray (wrap .i64 (e_.1-1))).bind fun x4=>
 br (x4.Col==a2) (
 (atL ListtoArray (wrap .i64 (e_.1-1))).bind fun x5=>
 (mh x5.Value a3).bind fun r_=>
 (fT ListtoArray 0 (wrap .i64 (e_.1-1))).bind fun y=>
 br (dM ((([]:List ab)++y).length) 24) (
 br (r_ !=0) (
 br (dM (((([]:List ab)++y)++([(ab.mk a a2 r_)]:List ab)).length) 24) (
 (fT ListtoArray e_.1 ((ListtoArray.length:Nat):Int)).bind fun y2=>
 br (dM ((((([]:List ab)++y)++([(ab.mk a a2 r_)]:List ab))++y2).length) 24) (
 some (((([]:List ab)++y)++([(ab.mk a a2 r_)]:List ab))++y2)) none) none) (
 (fT ListtoArray e_.1 ((ListtoArray.length:Nat):Int)).bind fun y3=>
 br (dM (((([]:List ab)++y)++y3).length) 24) (
 some ((([]:List ab)++y)++y3)) none)) none) (
 (fT ListtoArray 0 e_.1).bind fun y4=>
 br (dM ((([]:List ab)++y4).length) 24) (
 br (dM (((([]:List ab)++y4)++([(ab.mk a a2 a3)]:List ab)).length) 24) (
 (fT ListtoArray e_.1 ((ListtoArray.length:Nat):Int)).bind fun y5=>
 br (dM ((((([]:List ab)++y4)++([(ab.mk a a2 a3)]:List ab))++y5).length) 24) (
 some (((([]:List ab)++y4)++([(ab.mk a a2 a3)]:List ab))++y5)) none) none) none)) (
 (fT ListtoArray 0 e_.1).bind fun y6=>
 br (dM ((([]:List ab)++y6).length) 24) (
 br (dM (((([]:List ab)++y6)++([(ab.mk a a2 a3)]:List ab)).length) 24) (
 (fT ListtoArray e_.1 ((ListtoArray.length:Nat):Int)).bind fun y7=>
 br (dM ((((([]:List ab)++y6)++([(ab.mk a a2 a3)]:List ab))++y7).length) 24) (
 some (((([]:List ab)++y6)++([(ab.mk a a2 a3)]:List ab))++y7)) none) none) none)) (
 (fT ListtoArray 0 e_.1).bind fun y8=>
 br (dM ((([]:List ab)++y8).length) 24) (
 br (dM (((([]:List ab)++y8)++([(ab.mk a a2 a3)]:List ab)).length) 24) (
 (fT ListtoArray e_.1 ((ListtoArray.length:Nat):Int)).bind fun y9=>
 br (dM ((((([]:List ab)++y8)++([(ab.mk a a2 a3)]:List ab))++y9).length) 24) (
 some (((([]:List ab)++y8)++([(ab.mk a a2 a3)]:List ab))++y9)) none) none) none)
theorem w6 {ListtoArray a a2 a3 r} (h:aa ListtoArray a a2 a3=some r):Call tab ow 92 [sl ai ListtoArray,I a,I a2,I a3] []=some (sl ai r,[]):=by
 rw [aq (af:=iv) rfl]
 unfold aa at h
 simp only [iv,kJ]
 have d1:= @rO
 have d2:= @zf
 exact go2
end
section
theorem sN:mkR 3003 []=rws ai []:=rfl
attribute [local go_sem] sN
theorem sW:mkR 3004 []=rws ai []:=rfl
attribute [local go_sem] sW
theorem te:mkR 3005 []=rws ai []:=rfl
attribute [local go_sem] te
def bP (t:List Int) (c:List Gate) (c2 c3 c4 c5 c6 c7:Int):Int×Int×(List ab)×(List ab)×(List ab)→Option ((Int×Int×(List ab)×(List ab)×(List ab))⊕((Int×Int×Bool×(List ab)×(List ab)×(List ab))))
 | (t2,t3,c8,c9,c10)=>
   br (decide (t3<((c.length:Nat):Int))) (
   (atL c t3).bind fun x=>
   br (x.Op==1) (
   br (x.Op==1) (
   some (.inl (t2,(wrap .i64 (t3+1)),c8,c9,c10))) (
   br (x.Op==6) (
   (atL t x.A).bind fun x2=>
   (aa c8 t2 x2 1).bind fun r_3=>
   (atL t x.B).bind fun x3=>
   (aa c9 t2 x3 1).bind fun r_4=>
   (atL t t3).bind fun x4=>
   (aa c10 t2 x4 1).bind fun r_5=>
   some (.inl ((wrap .i64 (t2+1)),(wrap .i64 (t3+1)),r_3,r_4,r_5))) (
   br (x.Op==4) (
   br (x.Op==4) (
   (atL t x.A).bind fun x5=>
   (aa c8 t2 x5 1).bind fun r_6=>
   br (x.Op==5) (
   (atL t x.B).bind fun x6=>
   (aa r_6 t2 x6 2130706432).bind fun r_7=>
   (aa c9 t2 0 1).bind fun r_8=>
   (atL t t3).bind fun x7=>
   (aa c10 t2 x7 1).bind fun r_9=>
   some (.inl ((wrap .i64 (t2+1)),(wrap .i64 (t3+1)),r_7,r_8,r_9))) (
   (atL t x.B).bind fun x8=>
   (aa r_6 t2 x8 1).bind fun r_10=>
   (aa c9 t2 0 1).bind fun r_11=>
   (atL t t3).bind fun x9=>
   (aa c10 t2 x9 1).bind fun r_12=>
   some (.inl ((wrap .i64 (t2+1)),(wrap .i64 (t3+1)),r_10,r_11,r_12)))) (
   br (x.Op==3) (
   br (decide (x.K>0)) (
   (aa c8 t2 0 x.K).bind fun r_13=>
   (aa c9 t2 0 1).bind fun r_14=>
   (atL t t3).bind fun x10=>
   (aa c10 t2 x10 1).bind fun r_15=>
   some (.inl ((wrap .i64 (t2+1)),(wrap .i64 (t3+1)),r_13,r_14,r_15))) (
   (aa c9 t2 0 1).bind fun r_16=>
   (atL t t3).bind fun x11=>
   (aa c10 t2 x11 1).bind fun r_17=>
   some (.inl ((wrap .i64 (t2+1)),(wrap .i64 (t3+1)),c8,r_16,r_17)))) (
   br (x.Op==7) (
   (atL t x.B).bind fun x12=>
   (aa c8 t2 x12 1).bind fun r_18=>
   (aa c9 t2 0 1).bind fun r_19=>
   (atL t t3).bind fun x13=>
   (aa c10 t2 x13 1).bind fun r_20=>
   (atL t x.A).bind fun x14=>
   (aa r_18 (wrap .i64 (t2+1)) x14 1).bind fun r_21=>
   (aa r_19 (wrap .i64 (t2+1)) 0 1).bind fun r_22=>
   (atL t t3).bind fun x15=>
   (aa r_20 (wrap .i64 (t2+1)) x15 1).bind fun r_23=>
   some (.inl ((wrap .i64 ((wrap .i64 (t2+1))+1)),(wrap .i64 (t3+1)),r_21,r_22,r_23))) (
   br (x.Op==8) (
   (atL t x.A).bind fun x16=>
   (aa c8 t2 x16 1).bind fun r_24=>
   (atL t x.A).bind fun x17=>
   (aa c9 t2 x17 1).bind fun r_25=>
   (atL t t3).bind fun x18=>
   (aa c10 t2 x18 1).bind fun r_26=>
   (atL t x.A).bind fun x19=>
   (aa r_24 (wrap .i64 (t2+1)) x19 1).bind fun r_27=>
   (aa r_25 (wrap .i64 (t2+1)) 0 1).bind fun r_28=>
   (atL t t3).bind fun x20=>
   (aa r_26 (wrap .i64 (t2+1)) x20 1).bind fun r_29=>
   some (.inl ((wrap .i64 ((wrap .i64 (t2+1))+1)),(wrap .i64 (t3+1)),r_27,r_28,r_29))) (
   (atL t t3).bind fun x21=>
   (aa c10 t2 x21 1).bind fun r_30=>
   some (.inl ((wrap .i64 (t2+1)),(wrap .i64 (t3+1)),c8,c9,r_30))))))) (
   br (x.Op==5) (
   (atL t x.A).bind fun x22=>
   (aa c8 t2 x22 1).bind fun r_31=>
   br (x.Op==5) (
   (atL t x.B).bind fun x23=>
   (aa r_31 t2 x23 2130706432).bind fun r_32=>
   (aa c9 t2 0 1).bind fun r_33=>
   (atL t t3).bind fun x24=>
   (aa c10 t2 x24 1).bind fun r_34=>
   some (.inl ((wrap .i64 (t2+1)),(wrap .i64 (t3+1)),r_32,r_33,r_34))) (
   (atL t x.B).bind fun x25=>
   (aa r_31 t2 x25 1).bind fun r_35=>
   (aa c9 t2 0 1).bind fun r_36=>
   (atL t t3).bind fun x26=>
   (aa c10 t2 x26 1).bind fun r_37=>
   some (.inl ((wrap .i64 (t2+1)),(wrap .i64 (t3+1)),r_35,r_36,r_37)))) (
   br (x.Op==3) (
   br (decide (x.K>0)) (
   (aa c8 t2 0 x.K).bind fun r_38=>
   (aa c9 t2 0 1).bind fun r_39=>
   (atL t t3).bind fun x27=>
   (aa c10 t2 x27 1).bind fun r_40=>
   some (.inl ((wrap .i64 (t2+1)),(wrap .i64 (t3+1)),r_38,r_39,r_40))) (
   (aa c9 t2 0 1).bind fun r_41=>
   (atL t t3).bind fun x28=>
   (aa c10 t2 x28 1).bind fun r_42=>
   some (.inl ((wrap .i64 (t2+1)),(wrap .i64 (t3+1)),c8,r_41,r_42)))) (
   br (x.Op==7) (
   (atL t x.B).bind fun x29=>
   (aa c8 t2 x29 1).bind fun r_43=>
   (aa c9 t2 0 1).bind fun r_44=>
   (atL t t3).bind fun x30=>
   (aa c10 t2 x30 1).bind fun r_45=>
   (atL t x.A).bind fun x31=>
   (aa r_43 (wrap .i64 (t2+1)) x31 1).bind fun r_46=>
   (aa r_44 (wrap .i64 (t2+1)) 0 1).bind fun r_47=>
   (atL t t3).bind fun x32=>
   (aa r_45 (wrap .i64 (t2+1)) x32 1).bind fun r_48=>
   some (.inl ((wrap .i64 ((wrap .i64 (t2+1))+1)),(wrap .i64 (t3+1)),r_46,r_47,r_48))) (
   br (x.Op==8) (
   (atL t x.A).bind fun x33=>
   (aa c8 t2 x33 1).bind fun r_49=>
   (atL t x.A).bind fun x34=>
   (aa c9 t2 x34 1).bind fun r_50=>
   (atL t t3).bind fun x35=>
   (aa c10 t2 x35 1).bind fun r_51=>
   (atL t x.A).bind fun x36=>
   (aa r_49 (wrap .i64 (t2+1)) x36 1).bind fun r_52=>
   (aa r_50 (wrap .i64 (t2+1)) 0 1).bind fun r_53=>
   (atL t t3).bind fun x37=>
   (aa r_51 (wrap .i64 (t2+1)) x37 1).bind fun r_54=>
   some (.inl ((wrap .i64 ((wrap .i64 (t2+1))+1)),(wrap .i64 (t3+1)),r_52,r_53,r_54))) (
   (atL t t3).bind fun x38=>
   (aa c10 t2 x38 1).bind fun r_55=>
   some (.inl ((wrap .i64 (t2+1)),(wrap .i64 (t3+1)),c8,c9,r_55)))))))))) (
   br (x.Op==2) (
   some (.inl (t2,(wrap .i64 (t3+1)),c8,c9,c10))) (
   br (x.Op==6) (
   (atL t x.A).bind fun x39=>
   (aa c8 t2 x39 1).bind fun r_56=>
   (atL t x.B).bind fun x40=>
   (aa c9 t2 x40 1).bind fun r_57=>
   (atL t t3).bind fun x41=>
   (aa c10 t2 x41 1).bind fun r_58=>
   some (.inl ((wrap .i64 (t2+1)),(wrap .i64 (t3+1)),r_56,r_57,r_58))) (
   br (x.Op==4) (
   br (x.Op==4) (
   (atL t x.A).bind fun x42=>
   (aa c8 t2 x42 1).bind fun r_59=>
   br (x.Op==5) (
   (atL t x.B).bind fun x43=>
   (aa r_59 t2 x43 2130706432).bind fun r_60=>
   (aa c9 t2 0 1).bind fun r_61=>
   (atL t t3).bind fun x44=>
   (aa c10 t2 x44 1).bind fun r_62=>
   some (.inl ((wrap .i64 (t2+1)),(wrap .i64 (t3+1)),r_60,r_61,r_62))) (
   (atL t x.B).bind fun x45=>
   (aa r_59 t2 x45 1).bind fun r_63=>
   (aa c9 t2 0 1).bind fun r_64=>
   (atL t t3).bind fun x46=>
   (aa c10 t2 x46 1).bind fun r_65=>
   some (.inl ((wrap .i64 (t2+1)),(wrap .i64 (t3+1)),r_63,r_64,r_65)))) (
   br (x.Op==3) (
   br (decide (x.K>0)) (
   (aa c8 t2 0 x.K).bind fun r_66=>
   (aa c9 t2 0 1).bind fun r_67=>
   (atL t t3).bind fun x47=>
   (aa c10 t2 x47 1).bind fun r_68=>
   some (.inl ((wrap .i64 (t2+1)),(wrap .i64 (t3+1)),r_66,r_67,r_68))) (
   (aa c9 t2 0 1).bind fun r_69=>
   (atL t t3).bind fun x48=>
   (aa c10 t2 x48 1).bind fun r_70=>
   some (.inl ((wrap .i64 (t2+1)),(wrap .i64 (t3+1)),c8,r_69,r_70)))) (
   br (x.Op==7) (
   (atL t x.B).bind fun x49=>
   (aa c8 t2 x49 1).bind fun r_71=>
   (aa c9 t2 0 1).bind fun r_72=>
   (atL t t3).bind fun x50=>
   (aa c10 t2 x50 1).bind fun r_73=>
   (atL t x.A).bind fun x51=>
   (aa r_71 (wrap .i64 (t2+1)) x51 1).bind fun r_74=>
   (aa r_72 (wrap .i64 (t2+1)) 0 1).bind fun r_75=>
   (atL t t3).bind fun x52=>
   (aa r_73 (wrap .i64 (t2+1)) x52 1).bind fun r_76=>
   some (.inl ((wrap .i64 ((wrap .i64 (t2+1))+1)),(wrap .i64 (t3+1)),r_74,r_75,r_76))) (
   br (x.Op==8) (
   (atL t x.A).bind fun x53=>
   (aa c8 t2 x53 1).bind fun r_77=>
   (atL t x.A).bind fun x54=>
   (aa c9 t2 x54 1).bind fun r_78=>
   (atL t t3).bind fun x55=>
   (aa c10 t2 x55 1).bind fun r_79=>
   (atL t x.A).bind fun x56=>
   (aa r_77 (wrap .i64 (t2+1)) x56 1).bind fun r_80=>
   (aa r_78 (wrap .i64 (t2+1)) 0 1).bind fun r_81=>
   (atL t t3).bind fun x57=>
   (aa r_79 (wrap .i64 (t2+1)) x57 1).bind fun r_82=>
   some (.inl ((wrap .i64 ((wrap .i64 (t2+1))+1)),(wrap .i64 (t3+1)),r_80,r_81,r_82))) (
   (atL t t3).bind fun x58=>
   (aa c10 t2 x58 1).bind fun r_83=>
   some (.inl ((wrap .i64 (t2+1)),(wrap .i64 (t3+1)),c8,c9,r_83))))))) (
   br (x.Op==5) (
   (atL t x.A).bind fun x59=>
   (aa c8 t2 x59 1).bind fun r_84=>
   br (x.Op==5) (
   (atL t x.B).bind fun x60=>
   (aa r_84 t2 x60 2130706432).bind fun r_85=>
   (aa c9 t2 0 1).bind fun r_86=>
   (atL t t3).bind fun x61=>
   (aa c10 t2 x61 1).bind fun r_87=>
   some (.inl ((wrap .i64 (t2+1)),(wrap .i64 (t3+1)),r_85,r_86,r_87))) (
   (atL t x.B).bind fun x62=>
   (aa r_84 t2 x62 1).bind fun r_88=>
   (aa c9 t2 0 1).bind fun r_89=>
   (atL t t3).bind fun x63=>
   (aa c10 t2 x63 1).bind fun r_90=>
   some (.inl ((wrap .i64 (t2+1)),(wrap .i64 (t3+1)),r_88,r_89,r_90)))) (
   br (x.Op==3) (
   br (decide (x.K>0)) (
   (aa c8 t2 0 x.K).bind fun r_91=>
   (aa c9 t2 0 1).bind fun r_92=>
   (atL t t3).bind fun x64=>
   (aa c10 t2 x64 1).bind fun r_93=>
   some (.inl ((wrap .i64 (t2+1)),(wrap .i64 (t3+1)),r_91,r_92,r_93))) (
   (aa c9 t2 0 1).bind fun r_94=>
   (atL t t3).bind fun x65=>
   (aa c10 t2 x65 1).bind fun r_95=>
   some (.inl ((wrap .i64 (t2+1)),(wrap .i64 (t3+1)),c8,r_94,r_95)))) (
   br (x.Op==7) (
   (atL t x.B).bind fun x66=>
   (aa c8 t2 x66 1).bind fun r_96=>
   (aa c9 t2 0 1).bind fun r_97=>
   (atL t t3).bind fun x67=>
   (aa c10 t2 x67 1).bind fun r_98=>
   (atL t x.A).bind fun x68=>
   (aa r_96 (wrap .i64 (t2+1)) x68 1).bind fun r_99=>
   (aa r_97 (wrap .i64 (t2+1)) 0 1).bind fun r_100=>
   (atL t t3).bind fun x69=>
   (aa r_98 (wrap .i64 (t2+1)) x69 1).bind fun r_101=>
   some (.inl ((wrap .i64 ((wrap .i64 (t2+1))+1)),(wrap .i64 (t3+1)),r_99,r_100,r_101))) (
   br (x.Op==8) (
   (atL t x.A).bind fun x70=>
   (aa c8 t2 x70 1).bind fun r_102=>
   (atL t x.A).bind fun x71=>
   (aa c9 t2 x71 1).bind fun r_103=>
   (atL t t3).bind fun x72=>
   (aa c10 t2 x72 1).bind fun r_104=>
   (atL t x.A).bind fun x73=>
   (aa r_102 (wrap .i64 (t2+1)) x73 1).bind fun r_105=>
   (aa r_103 (wrap .i64 (t2+1)) 0 1).bind fun r_106=>
   (atL t t3).bind fun x74=>
   (aa r_104 (wrap .i64 (t2+1)) x74 1).bind fun r_107=>
   some (.inl ((wrap .i64 ((wrap .i64 (t2+1))+1)),(wrap .i64 (t3+1)),r_105,r_106,r_107))) (
   (atL t t3).bind fun x75=>
   (aa c10 t2 x75 1).bind fun r_108=>
   some (.inl ((wrap .i64 (t2+1)),(wrap .i64 (t3+1)),c8,c9,r_108))))))))))) (
   some (.inr (t2,t3,decide (t3<((c.length:Nat):Int)),c8,c9,c10)))
abbrev ia (c:List Gate) (c2 c3 c4 c5 c6 c7:Int) (c8 c9 c10:List ab):List (Nat×Blk):=[(1000,⟨1,true,[[sl eGate c]]⟩),(1001,⟨6,true,[[I c2,I c3,I c4,.lit (.slice none 0 0),.lit (.slice none 0 0),.lit (.slice none 0 0)]]⟩),(3007,⟨6,true,[[I c5,I c6,I c7,sl ai c8,sl ai c9,sl ai c10]]⟩)]
abbrev li (t:List Int) (c:List Gate) (c2 c3 c4 c5 c6 c7:Int) (s:Int×Int×(List ab)×(List ab)×(List ab)):St:=⟨[(1,.ptr 1000 0 0 1),(2,.ptr 1001 0 0 1),(3,sl eI t),(5,.ptr 3007 0 0 1),(6,I s.1),(7,I s.2.1)],ia c c2 c3 c4 c5 c6 c7 s.2.2.1 s.2.2.2.1 s.2.2.2.2⟩
abbrev l8 (t:List Int) (c:List Gate) (c2 c3 c4 c5 c6 c7:Int):(Int×Int×Bool×(List ab)×(List ab)×(List ab))→aH×St:=fun e=>(.exit 0,⟨[(1,.ptr 1000 0 0 1),(2,.ptr 1001 0 0 1),(3,sl eI t),(5,.ptr 3007 0 0 1),(6,I e.1),(7,I e.2.1),(26,B e.2.2.1)],ia c c2 c3 c4 c5 c6 c7 e.2.2.2.1 e.2.2.2.2.1 e.2.2.2.2.2⟩)
theorem qF {t c c2 c3 c4 c5 c6 c7 s e} (h:Loop (bP t c c2 c3 c4 c5 c6 c7) s=some e):cw tab ow (.close [8005,13008,14008,17008,21009,22003,25005,26003,28008,29003,30007,32008,33003,35008,36008,37007,39008,40003,41007,3003,3004,3005]) lx (li t c c2 c3 c4 c5 c6 c7 s)=some (l8 t c c2 c3 c4 c5 c6 c7 e):=by
 refine lrG (fun s o h=> ?_) h
 obtain ⟨_,_,_,_,_⟩:=s
 simp only [bP] at h
 simp only [li,l8,ia,lx,kU]
 have d1:= @w6
 exact go2
def eX (t4:Int) (c11:List Gate) (c12 c13 c14 c16 c17:Int) (c18 c19 c20:List ab):Int→Option ((Int)⊕((Bool×Int)))
 |c15=>
  br (decide (0≤(wrap .u64 c15))) (
  br (decide ((cZ .i64 1 (wrap .u64 c15))<t4)) (
  some (.inl (wrap .i64 (c15+1)))) (
  some (.inr (decide ((cZ .i64 1 (wrap .u64 c15))<t4),c15)))) none
abbrev ig (c11:List Gate) (c12 c13 c14 c16 c17:Int) (c18 c19 c20:List ab) (c15:Int):List (Nat×Blk):=[(1000,⟨1,true,[[sl eGate c11]]⟩),(1001,⟨6,true,[[I c12,I c13,I c14,.lit (.slice none 0 0),.lit (.slice none 0 0),.lit (.slice none 0 0)]]⟩),(3007,⟨6,true,[[I c15,I c16,I c17,sl ai c18,sl ai c19,sl ai c20]]⟩)]
abbrev ly (t4:Int) (c11:List Gate) (c12 c13 c14 c16 c17:Int) (c18 c19 c20:List ab) (s:Int):St:=⟨[(2,.ptr 1001 0 0 1),(5,.ptr 3007 0 0 1),(6,I t4)],ig c11 c12 c13 c14 c16 c17 c18 c19 c20 s⟩
abbrev lw (t4:Int) (c11:List Gate) (c12 c13 c14 c16 c17:Int) (c18 c19 c20:List ab):(Bool×Int)→aH×St:=fun e=>(.exit 3,⟨[(2,.ptr 1001 0 0 1),(5,.ptr 3007 0 0 1),(6,I t4),(218,B e.1)],ig c11 c12 c13 c14 c16 c17 c18 c19 c20 e.2⟩)
theorem qK {t4 c11 c12 c13 c14 c16 c17 c18 c19 c20 s e} (h:Loop (eX t4 c11 c12 c13 c14 c16 c17 c18 c19 c20) s=some e):cw tab ow (.close []) ke (ly t4 c11 c12 c13 c14 c16 c17 c18 c19 c20 s)=some (lw t4 c11 c12 c13 c14 c16 c17 c18 c19 c20 e):=by
 refine lrG (fun s o h=> ?_) h
 simp only [eX] at h
 simp only [ly,lw,ig,ke,kg]
 exact go2
def hU (ListtoArray:Circuit):Option (aQ):=
 (jR ListtoArray).bind fun r_=>
 (fa ListtoArray 2).bind fun r_2=>
 (Loop (bP r_.1 ListtoArray.Gates 0 0 0 0 r_.2 r_2) (0,0,([]:List ab),([]:List ab),([]:List ab))).bind fun e_=>
 (Loop (eX e_.1 ListtoArray.Gates 0 0 0 r_.2 r_2 e_.2.2.2.1 e_.2.2.2.2.1 e_.2.2.2.2.2) 1).bind fun e_2=>
 some (aQ.mk e_2.2 r_.2 r_2 e_.2.2.2.1 e_.2.2.2.2.1 e_.2.2.2.2.2)
theorem tr {ListtoArray r} (h:hU ListtoArray=some r):Call tab ow 41 [.agg [sl eGate ListtoArray.Gates]] []=some (.agg [I r.Rows,I r.Cols,I r.Publics,sl ai r.A,sl ai r.B,sl ai r.C],[]):=by
 rw [aq (af:=gG) rfl]
 unfold hU at h
 simp only [gG,gR]
 have d1:= @xp
 have d2:= @kG
 have d3:= @qF
 have d4:= @qK
 exact go2
end
def gq (c:Circuit):Option (aQ×Int):=
 (gZ c).bind fun r_=>
 br (!r_) (
 some ((aQ.mk 0 0 0 ([]:List ab) ([]:List ab) ([]:List ab)),19)) (
 (hU c).bind fun r_2=>
 some (r_2,0))
theorem uT {c r} (h:gq c=some r):Call tab ow 8 [.agg [sl eGate c.Gates]] []=some (.tup [.agg [I r.1.Rows,I r.1.Cols,I r.1.Publics,sl ai r.1.A,sl ai r.1.B,sl ai r.1.C],I r.2],[]):=by
 rw [aq (af:=ir) rfl]
 unfold gq at h
 simp only [ir,oU]
 have d1:= @tS
 have d2:= @tr
 exact go2
def ep (n low high:Int):Option (Bool):=
 br (decide (low≤n)) (
 some (decide (n≤high))) (
 some false)
theorem Ay {n low high r} (h:ep n low high=some r):Call tab ow 59 [I n,I low,I high] []=some (B r,[]):=by
 rw [aq (af:=wl) rfl]
 unfold ep at h
 simp only [wl,IY]
 exact go2
def jS (a:Int):Option (Bool):=
 (ep a 0 2130706432).bind fun r_=>
 some r_
theorem yI {a r} (h:jS a=some r):Call tab ow 66 [I a] []=some (B r,[]):=by
 rw [aq (af:=jm) rfl]
 unfold jS at h
 simp only [jm,qh]
 have d1:= @Ay
 exact go2
def lW (g:Gate) (below:Int):Option (Bool):=
 br (g.Op==3) (
 (jS g.K).bind fun r_=>
 (ep g.Op 1 8).bind fun r_2=>
 br r_2 (
 br (g.A==0) (
 br (g.B==0) (
 some r_) (
 some false)) (
 some false)) (
 some false)) (
 br (g.Op==4) (
 br (g.Op==4) (
 (ep g.A 0 (wrap .i64 (below-1))).bind fun r_3=>
 (ep g.B 0 (wrap .i64 (below-1))).bind fun r_4=>
 (ep g.Op 1 8).bind fun r_5=>
 br r_5 (
 br r_3 (
 br r_4 (
 some (g.K==0)) (
 some false)) (
 some false)) (
 some false)) (
 br (g.Op==8) (
 (ep g.A 0 (wrap .i64 (below-1))).bind fun r_6=>
 (ep g.Op 1 8).bind fun r_7=>
 br r_7 (
 br r_6 (
 br (g.B==0) (
 some (g.K==0)) (
 some false)) (
 some false)) (
 some false)) (
 (ep g.Op 1 8).bind fun r_8=>
 br r_8 (
 br (g.A==0) (
 br (g.B==0) (
 some (g.K==0)) (
 some false)) (
 some false)) (
 some false)))) (
 br (g.Op==5) (
 br (g.Op==5) (
 (ep g.A 0 (wrap .i64 (below-1))).bind fun r_9=>
 (ep g.B 0 (wrap .i64 (below-1))).bind fun r_10=>
 (ep g.Op 1 8).bind fun r_11=>
 br r_11 (
 br r_9 (
 br r_10 (
 some (g.K==0)) (
 some false)) (
 some false)) (
 some false)) (
 br (g.Op==8) (
 (ep g.A 0 (wrap .i64 (below-1))).bind fun r_12=>
 (ep g.Op 1 8).bind fun r_13=>
 br r_13 (
 br r_12 (
 br (g.B==0) (
 some (g.K==0)) (
 some false)) (
 some false)) (
 some false)) (
 (ep g.Op 1 8).bind fun r_14=>
 br r_14 (
 br (g.A==0) (
 br (g.B==0) (
 some (g.K==0)) (
 some false)) (
 some false)) (
 some false)))) (
 br (g.Op==6) (
 br (g.Op==6) (
 (ep g.A 0 (wrap .i64 (below-1))).bind fun r_15=>
 (ep g.B 0 (wrap .i64 (below-1))).bind fun r_16=>
 (ep g.Op 1 8).bind fun r_17=>
 br r_17 (
 br r_15 (
 br r_16 (
 some (g.K==0)) (
 some false)) (
 some false)) (
 some false)) (
 br (g.Op==8) (
 (ep g.A 0 (wrap .i64 (below-1))).bind fun r_18=>
 (ep g.Op 1 8).bind fun r_19=>
 br r_19 (
 br r_18 (
 br (g.B==0) (
 some (g.K==0)) (
 some false)) (
 some false)) (
 some false)) (
 (ep g.Op 1 8).bind fun r_20=>
 br r_20 (
 br (g.A==0) (
 br (g.B==0) (
 some (g.K==0)) (
 some false)) (
 some false)) (
 some false)))) (
 br (g.Op==7) (
 (ep g.A 0 (wrap .i64 (below-1))).bind fun r_21=>
 (ep g.B 0 (wrap .i64 (below-1))).bind fun r_22=>
 (ep g.Op 1 8).bind fun r_23=>
 br r_23 (
 br r_21 (
 br r_22 (
 some (g.K==0)) (
 some false)) (
 some false)) (
 some false)) (
 br (g.Op==8) (
 (ep g.A 0 (wrap .i64 (below-1))).bind fun r_24=>
 (ep g.Op 1 8).bind fun r_25=>
 br r_25 (
 br r_24 (
 br (g.B==0) (
 some (g.K==0)) (
 some false)) (
 some false)) (
 some false)) (
 (ep g.Op 1 8).bind fun r_26=>
 br r_26 (
 br (g.A==0) (
 br (g.B==0) (
 some (g.K==0)) (
 some false)) (
 some false)) (
 some false)))))))
theorem Aj {g below r} (h:lW g below=some r):Call tab ow 61 [.agg [I g.Op,I g.A,I g.B,I g.K],I below] []=some (B r,[]):=by
 rw [aq (af:=kn) rfl]
 unfold lW at h
 simp only [kn,rJ]
 have d1:= @yI
 have d2:= @Ay
 exact go2
def bx (op2:Int) (t:List Gate) (t2:Int) (c2:List Gate):Int×Int→Option ((Int×Int)⊕((Int×Int×Bool)))
 | (count,t3)=>
   br (decide (t3<t2)) (
   (atL t t3).bind fun x=>
   br (x.Op==op2) (
   some (.inl ((wrap .i64 (count+1)),(wrap .i64 (t3+1))))) (
   some (.inl (count,(wrap .i64 (t3+1)))))) (
   some (.inr (count,t3,decide (t3<t2))))
abbrev ga (op2:Int) (t:List Gate) (t2:Int) (c2:List Gate) (s:Int×Int):St:=⟨[(1,I op2),(5,I s.1),(9,sl eGate t),(10,I t2),(11,I s.2)],[(1000,⟨1,true,[[sl eGate c2]]⟩)]⟩
abbrev g9 (op2:Int) (t:List Gate) (t2:Int) (c2:List Gate):(Int×Int×Bool)→aH×St:=fun e=>(.exit 0,⟨[(1,I op2),(5,I e.1),(9,sl eGate t),(10,I t2),(11,I e.2.1),(12,B e.2.2)],[(1000,⟨1,true,[[sl eGate c2]]⟩)]⟩)
theorem lM {op2 t t2 c2 s e} (h:Loop (bx op2 t t2 c2) s=some e):cw tab ow (.close [5002]) fU (ga op2 t t2 c2 s)=some (g9 op2 t t2 c2 e):=by
 refine lrG (fun s o h=> ?_) h
 obtain ⟨_,_⟩:=s
 simp only [bx] at h
 simp only [ga,g9,fU,g6]
 exact go2
def bZ (c:Circuit) (op:Int):Option (Int):=
 (Loop (bx op c.Gates ((c.Gates.length:Nat):Int) c.Gates) (0,0)).bind fun e_=>
 some e_.1
theorem ik {c op r} (h:bZ c op=some r):Call tab ow 60 [.agg [sl eGate c.Gates],I op] []=some (I r,[]):=by
 rw [aq (af:=cN) rfl]
 unfold bZ at h
 simp only [cN,ej]
 have d1:= @lM
 exact go2
def bA (t:List Gate) (t2:Int) (c2:List Gate):Int→Option ((Int)⊕((Int×Int×Int×Int)⊕(Int×Bool)))
 |t3=>
  br (decide (t3<t2)) (
  (atL t t3).bind fun x=>
  (lW x t3).bind fun r_2=>
  br (!r_2) (
  some (.inr (.inl (x.Op,x.A,x.B,x.K)))) (
  some (.inl (wrap .i64 (t3+1))))) (
  some (.inr (.inr (t3,decide (t3<t2)))))
abbrev l5 (t:List Gate) (t2:Int) (c2:List Gate) (s:Int):St:=⟨[(1,.ptr 1000 0 0 1),(11,sl eGate t),(12,I t2),(13,I s)],[(1000,⟨1,true,[[sl eGate c2]]⟩)]⟩
abbrev ld (t:List Gate) (t2:Int) (c2:List Gate):((Int×Int×Int×Int)⊕(Int×Bool))→aH×St:=alt (fun e=>((.ret,⟨[(2,B false)],[(1000,⟨1,true,[[sl eGate c2]]⟩),(6003,⟨4,true,[[I e.1,I e.2.1,I e.2.2.1,I e.2.2.2]]⟩)]⟩):aH×St)) (fun e=>(.exit 0,⟨[(1,.ptr 1000 0 0 1),(11,sl eGate t),(12,I t2),(13,I e.1),(14,B e.2)],[(1000,⟨1,true,[[sl eGate c2]]⟩)]⟩))
theorem qJ {t t2 c2 s e} (h:Loop (bA t t2 c2) s=some e):cw tab ow (.close [6003,7002]) lF (l5 t t2 c2 s)=some (ld t t2 c2 e):=by
 refine lrG (fun s o h=> ?_) h
 simp only [bA] at h
 simp only [l5,ld,lF,kV]
 have d1:= @Aj
 exact go2
def hG (c:Circuit):Option (Bool):=
 (ep ((c.Gates.length:Nat):Int) 1 15).bind fun r_=>
 br (!r_) (
 some false) (
 (Loop (bA c.Gates ((c.Gates.length:Nat):Int) c.Gates) 0).bind (alt (fun e_2=>
 some false) (fun e_3=>
 (bZ c 2).bind fun r_3=>
 some (decide (r_3≤7)))))
theorem tv {c r} (h:hG c=some r):Call tab ow 22 [.agg [sl eGate c.Gates]] []=some (B r,[]):=by
 rw [aq (af:=gS) rfl]
 unfold hG at h
 simp only [gS,jw]
 have d1:= @Ay
 have d2:= @qJ
 have d3:= @ik
 exact go2
def dv (s:aQ):Option (Int):=
 br (decide (0≤(wrap .i64 (s.Cols-1)))) (
 some (cZ .i64 1 (wrap .i64 (s.Cols-1)))) none
theorem lu {s r} (h:dv s=some r):Call tab ow 62 [.agg [I s.Rows,I s.Cols,I s.Publics,sl ai s.A,sl ai s.B,sl ai s.C]] []=some (I r,[]):=by
 rw [aq (af:=eQ) rfl]
 unfold dv at h
 simp only [eQ,lv]
 exact go2
def yU (a b:Int):Option (Int):=
 some ((wrap .i64 (a+b)).tmod 2130706433)
theorem LB {a b r} (h:yU a b=some r):Call tab ow 72 [I a,I b] []=some (I r,[]):=by
 rw [aq (af:=qV) rfl]
 unfold yU at h
 simp only [qV,Bl]
 exact go2
def aO (m6 m7:List Tri) (t t2:Int) (t3:List (Int×Int)) (t4 c:Int):(List Tri)×Int→Option (((List Tri)×Int)⊕(((List Tri)×Int×Bool)))
 | (m5,t5)=>
   br (decide (t5<t4)) (
   (atL t3 t5).bind fun x=>
   (yU (bU c x.1 m5) x.2).bind fun r_=>
   some (.inl ((bX c x.1 r_ m5),(wrap .i64 (t5+1))))) (
   some (.inr (m5,t5,decide (t5<t4))))
abbrev ij (m6 m7:List Tri) (c:Int) (m5:List Tri):List (Nat×Blk):=[(0,⟨4,true,[[I c,.mp 1,.mp 2,.mp 3]]⟩),(1,⟨0,true,[ak m5]⟩),(2,⟨0,true,[ak m6]⟩),(3,⟨0,true,[ak m7]⟩)]
abbrev l6 (m6 m7:List Tri) (t t2:Int) (t3:List (Int×Int)) (t4 c:Int) (s:(List Tri)×Int):St:=⟨[(0,.ptr 0 0 0 1),(2,I t),(3,I t2),(11,sl (eA2 eI) t3),(12,I t4),(13,I s.2)],ij m6 m7 c s.1⟩
abbrev lf (m6 m7:List Tri) (t t2:Int) (t3:List (Int×Int)) (t4 c:Int):((List Tri)×Int×Bool)→aH×St:=fun e=>(.exit 0,⟨[(0,.ptr 0 0 0 1),(2,I t),(3,I t2),(11,sl (eA2 eI) t3),(12,I t4),(13,I e.2.1),(14,B e.2.2)],ij m6 m7 c e.1⟩)
theorem qN {m6 m7 t t2 t3 t4 c s e} (h:Loop (aO m6 m7 t t2 t3 t4 c) s=some e):cw tab ow (.close [3002,4007,5013]) ll (l6 m6 m7 t t2 t3 t4 c s)=some (lf m6 m7 t t2 t3 t4 c e):=by
 refine lrG (fun s o h=> ?_) h
 obtain ⟨_,_⟩:=s
 simp only [aO] at h
 simp only [l6,lf,ij,ll,ln]
 have d1:= @LB
 exact go2
def b8 (a:(List (Int×Int))) (a2 a3 m:Int) (m2 m3 m4:List Tri):Option (Int×(List Tri)×(List Tri)×(List Tri)):=
 (Loop (aO m3 m4 a2 a3 a ((a.length:Nat):Int) m) (m2,0)).bind fun e_=>
 some ((wrap .i64 (m+1)),e_.1,(bX m a2 1 m3),(bX m a3 1 m4))
theorem tJ {a a2 a3 m m2 m3 m4 r} (h:b8 a a2 a3 m m2 m3 m4=some r):Call tab ow 134 [.ptr 0 0 0 1,sl (eA2 eI) a,I a2,I a3] [⟨4,true,[[I m,.mp 1,.mp 2,.mp 3]]⟩,⟨0,true,[ak m2]⟩,⟨0,true,[ak m3]⟩,⟨0,true,[ak m4]⟩]=some (.tup [],[⟨4,true,[[I r.1,.mp 1,.mp 2,.mp 3]]⟩,⟨0,true,[ak r.2.1]⟩,⟨0,true,[ak r.2.2.1]⟩,⟨0,true,[ak r.2.2.2]⟩]):=by
 rw [aq (af:=gX) rfl]
 unfold b8 at h
 simp only [gX,jz]
 have d1:= @qN
 exact go2
section
theorem ph:mkR 2006 []=rws (eA2 eI) []:=rfl
attribute [local go_sem] ph
def aW (place value:Int) (m:(List Int)):Option ((List (Int×Int))):=
 (atL m place).bind fun x=>
 some ([(x,value)]:List (Int×Int))
theorem pp {place value m r} (h:aW place value m=some r):Call tab ow 133 [I place,I value,.ptr 0 0 0 1] [⟨1,true,[[sl eI m]]⟩]=some (.sl 1 0 r.length,[⟨1,true,[[sl eI m]]⟩,⟨2,false,rws (eA2 eI) r⟩]):=by
 rw [aq (af:=dW) rfl]
 unfold aW at h
 simp only [dW,km]
 exact go2
end
section
theorem qw:mkR 5004 []=rws (eA2 eI) []:=rfl
attribute [local go_sem] qw
def fw (a:Gate) (a2:Int) (a3:(List Int)) (m:Int) (m2 m3 m4:List Tri):Option (Int×(List Tri)×(List Tri)×(List Tri)):=
 br (a.Op==3) (
 (b8 ([(0,a.K)]:List (Int×Int)) 0 a2 m m2 m3 m4).bind fun r_=>
 some (r_.1,r_.2.1,r_.2.2.1,r_.2.2.2)) (
 br (a.Op==4) (
 (aW a.A 1 a3).bind fun r_2=>
 (aW a.B 1 a3).bind fun r_3=>
 br (dM ((r_2++r_3).length) 16) (
 (b8 (r_2++r_3) 0 a2 m m2 m3 m4).bind fun r_4=>
 some (r_4.1,r_4.2.1,r_4.2.2.1,r_4.2.2.2)) none) (
 br (a.Op==5) (
 (aW a.A 1 a3).bind fun r_5=>
 (aW a.B 2130706432 a3).bind fun r_6=>
 br (dM ((r_5++r_6).length) 16) (
 (b8 (r_5++r_6) 0 a2 m m2 m3 m4).bind fun r_7=>
 some (r_7.1,r_7.2.1,r_7.2.2.1,r_7.2.2.2)) none) (
 br (a.Op==6) (
 (aW a.A 1 a3).bind fun r_8=>
 (atL a3 a.B).bind fun x=>
 (b8 r_8 x a2 m m2 m3 m4).bind fun r_9=>
 some (r_9.1,r_9.2.1,r_9.2.2.1,r_9.2.2.2)) (
 br (a.Op==7) (
 (aW a.B 1 a3).bind fun r_10=>
 (b8 r_10 0 a2 m m2 m3 m4).bind fun r_11=>
 (aW a.A 1 a3).bind fun r_12=>
 (b8 r_12 0 a2 r_11.1 r_11.2.1 r_11.2.2.1 r_11.2.2.2).bind fun r_13=>
 some (r_13.1,r_13.2.1,r_13.2.2.1,r_13.2.2.2)) (
 br (a.Op==8) (
 (aW a.A 1 a3).bind fun r_14=>
 (atL a3 a.A).bind fun x2=>
 (b8 r_14 x2 a2 m m2 m3 m4).bind fun r_15=>
 (aW a.A 1 a3).bind fun r_16=>
 (b8 r_16 0 a2 r_15.1 r_15.2.1 r_15.2.2.1 r_15.2.2.2).bind fun r_17=>
 some (r_17.1,r_17.2.1,r_17.2.2.1,r_17.2.2.2)) (
 some (m,m2,m3,m4)))))))
theorem sK {a a2 a3 m m2 m3 m4 r} (h:fw a a2 a3 m m2 m3 m4=some r):Call tab ow 94 [.ptr 0 0 0 1,.agg [I a.Op,I a.A,I a.B,I a.K],I a2,sl eI a3] [⟨4,true,[[I m,.mp 1,.mp 2,.mp 3]]⟩,⟨0,true,[ak m2]⟩,⟨0,true,[ak m3]⟩,⟨0,true,[ak m4]⟩]=some (.tup [],[⟨4,true,[[I r.1,.mp 1,.mp 2,.mp 3]]⟩,⟨0,true,[ak r.2.1]⟩,⟨0,true,[ak r.2.2.1]⟩,⟨0,true,[ak r.2.2.2]⟩]):=by
 rw [aq (af:=fE) rfl]
 unfold fw at h
 simp only [fE,mj]
 have d1:= @tJ
 have d2:= @pp
 exact go2
end
end
end Go.AI.Fn
set_option linter.unusedVariables false
set_option linter.unusedSimpArgs false
set_option maxRecDepth 100000
set_option maxHeartbeats 1000000
namespace Go.AI.Fn
noncomputable section
open IntKind (wrap)
def jj (t:Tri):ab:=⟨t.1,t.2.1,t.2.2⟩
def gx (m:List Tri):Option (List ab×List Tri):=
 br (db m&&decide (m.length<1073741824)) (
 some ((bk (m.filter nzT)).map jj,m)) none
theorem wQ {m r} (h:gx m=some r):Call tab ow 95 [.mp 0] [⟨0,true,[ak m]⟩]=some (.sl 1 0 r.1.length,[⟨0,true,[ak r.2]⟩,⟨3,false,rws ai r.1⟩]):=by
 unfold gx at h
 obtain ⟨hb,h⟩:=brg h
 cases h
 rw [xW (g:=vl true) rfl]
 exact Ja ai jj rfl (fun _=>rfl) hb
section
theorem mE:mkR 6000 []=rws eI []:=rfl
attribute [local go_sem] mE
theorem lO:mkR 11002 []=rws eI []:=rfl
attribute [local go_sem] lO
theorem mw:mkR 12002 []=rws eI []:=rfl
attribute [local go_sem] mw
def ba (t:Int) (c:List Gate) (c2 c3 c4 c5 c7:Int):Int→Option ((Int)⊕((Bool×Int)))
 |c6=>
  (dv (aQ.mk c5 c6 c7 ([]:List ab) ([]:List ab) ([]:List ab))).bind fun r_2=>
  br (decide (r_2<(mx (wrap .i64 (c7+1)) t))) (
  some (.inl (wrap .i64 (c6+1)))) (
  some (.inr (decide (r_2<(mx (wrap .i64 (c7+1)) t)),c6)))
abbrev dx (c:List Gate) (c2 c3 c4 c5 c7 c6:Int):List (Nat×Blk):=[(1000,⟨1,true,[[sl eGate c]]⟩),(1001,⟨6,true,[[I c2,I c3,I c4,.lit (.slice none 0 0),.lit (.slice none 0 0),.lit (.slice none 0 0)]]⟩),(2003,⟨6,true,[[I c5,I c6,I c7,.lit (.slice none 0 0),.lit (.slice none 0 0),.lit (.slice none 0 0)]]⟩)]
abbrev gk (t:Int) (c:List Gate) (c2 c3 c4 c5 c7 s:Int):St:=⟨[(1,.ptr 1000 0 0 1),(2,.ptr 1001 0 0 1),(3,.ptr 2003 0 0 1),(4,I t)],dx c c2 c3 c4 c5 c7 s⟩
abbrev fW (t:Int) (c:List Gate) (c2 c3 c4 c5 c7:Int):(Bool×Int)→aH×St:=fun e=>(.exit 0,⟨[(1,.ptr 1000 0 0 1),(2,.ptr 1001 0 0 1),(3,.ptr 2003 0 0 1),(4,I t),(29,B e.1)],dx c c2 c3 c4 c5 c7 e.2⟩)
theorem lJ {t c c2 c3 c4 c5 c7 s e} (h:Loop (ba t c c2 c3 c4 c5 c7) s=some e):cw tab ow (.close [4001]) gc (gk t c c2 c3 c4 c5 c7 s)=some (fW t c c2 c3 c4 c5 c7 e):=by
 refine lrG (fun s o h=> ?_) h
 simp only [ba] at h
 simp only [gk,fW,dx,gc,gj]
 have d1:= @lu
 exact go2
def bc (t4:List Gate) (t5:Int) (c8:List Gate) (c9 c10 c11 c12 c13 c14:Int):(List Int)×Int×Int×Int→Option (((List Int)×Int×Int×Int)⊕(((List Int)×Int×Int×Int×Bool)))
 | (l,t2,t3,t6)=>
   br (decide (t6<t5)) (
   (atL t4 t6).bind fun x=>
   br (x.Op==2) (
   br (dM ((l++([t2]:List Int)).length) 8) (
   some (.inl ((l++([t2]:List Int)),(wrap .i64 (t2+1)),t3,(wrap .i64 (t6+1))))) none) (
   br (dM ((l++([t3]:List Int)).length) 8) (
   some (.inl ((l++([t3]:List Int)),t2,(wrap .i64 (t3+1)),(wrap .i64 (t6+1))))) none)) (
   some (.inr (l,t2,t3,t6,decide (t6<t5))))
abbrev dz (c8:List Gate) (c9 c10 c11 c12 c13 c14:Int) (l:List Int):List (Nat×Blk):=[(1000,⟨1,true,[[sl eGate c8]]⟩),(1001,⟨6,true,[[I c9,I c10,I c11,.lit (.slice none 0 0),.lit (.slice none 0 0),.lit (.slice none 0 0)]]⟩),(2003,⟨6,true,[[I c12,I c13,I c14,.lit (.slice none 0 0),.lit (.slice none 0 0),.lit (.slice none 0 0)]]⟩),(6000,⟨1,false,rws eI l⟩)]
abbrev g8 (t4:List Gate) (t5:Int) (c8:List Gate) (c9 c10 c11 c12 c13 c14:Int) (s:(List Int)×Int×Int×Int):St:=⟨[(1,.ptr 1000 0 0 1),(2,.ptr 1001 0 0 1),(3,.ptr 2003 0 0 1),(5,.sl 6000 0 s.1.length),(6,I s.2.1),(7,I s.2.2.1),(38,sl eGate t4),(39,I t5),(40,I s.2.2.2)],dz c8 c9 c10 c11 c12 c13 c14 s.1⟩
abbrev fX (t4:List Gate) (t5:Int) (c8:List Gate) (c9 c10 c11 c12 c13 c14:Int):((List Int)×Int×Int×Int×Bool)→aH×St:=fun e=>(.exit 2,⟨[(1,.ptr 1000 0 0 1),(2,.ptr 1001 0 0 1),(3,.ptr 2003 0 0 1),(5,.sl 6000 0 e.1.length),(6,I e.2.1),(7,I e.2.2.1),(38,sl eGate t4),(39,I t5),(40,I e.2.2.2.1),(41,B e.2.2.2.2)],dz c8 c9 c10 c11 c12 c13 c14 e.1⟩)
theorem lN {t4 t5 c8 c9 c10 c11 c12 c13 c14 s e} (h:Loop (bc t4 t5 c8 c9 c10 c11 c12 c13 c14) s=some e):cw tab ow (.close [9002,11002,11003,12002,12003]) gi (g8 t4 t5 c8 c9 c10 c11 c12 c13 c14 s)=some (fX t4 t5 c8 c9 c10 c11 c12 c13 c14 e):=by
 refine lrG (fun s o h=> ?_) h
 obtain ⟨_,_,_,_⟩:=s
 simp only [bc] at h
 simp only [g8,fX,dz,gi,gg]
 exact go2
def bw (l2:List Int) (t7:List Gate) (t8:Int) (c15:List Gate) (c16 c17 c18 c19 c20 c21:Int):(List Tri)×(List Tri)×(List Tri)×Int×Int→Option (((List Tri)×(List Tri)×(List Tri)×Int×Int)⊕(((List Tri)×(List Tri)×(List Tri)×Int×Bool×Int)))
 | (m,m2,m3,t9,c22)=>
   br (decide (t9<t8)) (
   (atL t7 t9).bind fun x2=>
   br (decide (0≤t9)) (
   br (decide (t9.toNat<l2.length)) (
   (l2[t9.toNat]?).bind fun x3=>
   (fw x2 x3 l2 c22 m m2 m3).bind fun r_4=>
   some (.inl (r_4.2.1,r_4.2.2.1,r_4.2.2.2,(wrap .i64 (t9+1)),r_4.1))) none) none) (
   some (.inr (m,m2,m3,t9,decide (t9<t8),c22)))
abbrev dE (l2:List Int) (c15:List Gate) (c16 c17 c18 c19 c20 c21:Int) (m m2 m3:List Tri) (c22:Int):List (Nat×Blk):=[(1000,⟨1,true,[[sl eGate c15]]⟩),(1001,⟨6,true,[[I c16,I c17,I c18,.lit (.slice none 0 0),.lit (.slice none 0 0),.lit (.slice none 0 0)]]⟩),(2003,⟨6,true,[[I c19,I c20,I c21,.lit (.slice none 0 0),.lit (.slice none 0 0),.lit (.slice none 0 0)]]⟩),(6000,⟨1,false,rws eI l2⟩),(14000,⟨0,true,[ak m]⟩),(14001,⟨0,true,[ak m2]⟩),(14002,⟨0,true,[ak m3]⟩),(14004,⟨4,true,[[I c22,.mp 14000,.mp 14001,.mp 14002]]⟩)]
abbrev ge (l2:List Int) (t7:List Gate) (t8:Int) (c15:List Gate) (c16 c17 c18 c19 c20 c21:Int) (s:(List Tri)×(List Tri)×(List Tri)×Int×Int):St:=⟨[(2,.ptr 1001 0 0 1),(3,.ptr 2003 0 0 1),(5,.sl 6000 0 l2.length),(10,.ptr 14004 0 0 1),(66,sl eGate t7),(67,I t8),(68,I s.2.2.2.1)],dE l2 c15 c16 c17 c18 c19 c20 c21 s.1 s.2.1 s.2.2.1 s.2.2.2.2⟩
abbrev fZ (l2:List Int) (t7:List Gate) (t8:Int) (c15:List Gate) (c16 c17 c18 c19 c20 c21:Int):((List Tri)×(List Tri)×(List Tri)×Int×Bool×Int)→aH×St:=fun e=>(.exit 4,⟨[(2,.ptr 1001 0 0 1),(3,.ptr 2003 0 0 1),(5,.sl 6000 0 l2.length),(10,.ptr 14004 0 0 1),(66,sl eGate t7),(67,I t8),(68,I e.2.2.2.1),(69,B e.2.2.2.2.1)],dE l2 c15 c16 c17 c18 c19 c20 c21 e.1 e.2.1 e.2.2.1 e.2.2.2.2.2⟩)
theorem lH {l2 t7 t8 c15 c16 c17 c18 c19 c20 c21 s e} (h:Loop (bw l2 t7 t8 c15 c16 c17 c18 c19 c20 c21) s=some e):cw tab ow (.close [17003,18007]) fC (ge l2 t7 t8 c15 c16 c17 c18 c19 c20 c21 s)=some (fZ l2 t7 t8 c15 c16 c17 c18 c19 c20 c21 e):=by
 refine lrG (fun s o h=> ?_) h
 obtain ⟨_,_,_,_,_⟩:=s
 simp only [bw] at h
 simp only [ge,fZ,dE,fC,fx]
 have d1:= @sK
 exact go2
def cu (l3:List Int) (m4 m5 m6:List Tri) (t10:List Gate) (t11 t12:Int) (t13:Bool) (c23:List Gate) (c24 c25 c26 c28 c29 c30:Int):Int→Option ((Int)⊕((Bool×Int)))
 |c27=>
  br (decide (0≤c27)) (
  br (decide ((cZ .i64 1 c27)<c30)) (
  some (.inl (wrap .i64 (c27+1)))) (
  some (.inr (decide ((cZ .i64 1 c27)<c30),c27)))) none
abbrev dy (l3:List Int) (m4 m5 m6:List Tri) (c23:List Gate) (c24 c25 c26 c28 c29 c30 c27:Int):List (Nat×Blk):=[(1000,⟨1,true,[[sl eGate c23]]⟩),(1001,⟨6,true,[[I c24,I c25,I c26,.lit (.slice none 0 0),.lit (.slice none 0 0),.lit (.slice none 0 0)]]⟩),(2003,⟨6,true,[[I c27,I c28,I c29,.lit (.slice none 0 0),.lit (.slice none 0 0),.lit (.slice none 0 0)]]⟩),(6000,⟨1,false,rws eI l3⟩),(14000,⟨0,true,[ak m4]⟩),(14001,⟨0,true,[ak m5]⟩),(14002,⟨0,true,[ak m6]⟩),(14004,⟨4,true,[[I c30,.mp 14000,.mp 14001,.mp 14002]]⟩)]
abbrev gp (l3:List Int) (m4 m5 m6:List Tri) (t10:List Gate) (t11 t12:Int) (t13:Bool) (c23:List Gate) (c24 c25 c26 c28 c29 c30 s:Int):St:=⟨[(2,.ptr 1001 0 0 1),(3,.ptr 2003 0 0 1),(5,.sl 6000 0 l3.length),(10,.ptr 14004 0 0 1),(66,sl eGate t10),(67,I t11),(68,I t12),(69,B t13)],dy l3 m4 m5 m6 c23 c24 c25 c26 c28 c29 c30 s⟩
abbrev fV (l3:List Int) (m4 m5 m6:List Tri) (t10:List Gate) (t11 t12:Int) (t13:Bool) (c23:List Gate) (c24 c25 c26 c28 c29 c30:Int):(Bool×Int)→aH×St:=fun e=>(.exit 6,⟨[(2,.ptr 1001 0 0 1),(3,.ptr 2003 0 0 1),(5,.sl 6000 0 l3.length),(10,.ptr 14004 0 0 1),(66,sl eGate t10),(67,I t11),(68,I t12),(69,B t13),(89,B e.1)],dy l3 m4 m5 m6 c23 c24 c25 c26 c28 c29 c30 e.2⟩)
theorem lI {l3 m4 m5 m6 t10 t11 t12 t13 c23 c24 c25 c26 c28 c29 c30 s e} (h:Loop (cu l3 m4 m5 m6 t10 t11 t12 t13 c23 c24 c25 c26 c28 c29 c30) s=some e):cw tab ow (.close []) fR (gp l3 m4 m5 m6 t10 t11 t12 t13 c23 c24 c25 c26 c28 c29 c30 s)=some (fV l3 m4 m5 m6 t10 t11 t12 t13 c23 c24 c25 c26 c28 c29 c30 e):=by
 refine lrG (fun s o h=> ?_) h
 simp only [cu] at h
 simp only [gp,fV,dy,fR,fG]
 exact go2
def cF (ListtoArray:Circuit):Option (Int×Int×Int×(List ab)×(List ab)×(List ab)):=
 (bZ ListtoArray 2).bind fun r_=>
 (Loop (ba (wrap .i64 (((ListtoArray.Gates.length:Nat):Int)-r_)) ListtoArray.Gates 0 0 0 1 r_) 2).bind fun e_=>
 (dv (aQ.mk 1 e_.2 r_ ([]:List ab) ([]:List ab) ([]:List ab))).bind fun r_3=>
 (Loop (bc ListtoArray.Gates ((ListtoArray.Gates.length:Nat):Int) ListtoArray.Gates 0 0 0 1 e_.2 r_) (([]:List Int),1,r_3,0)).bind fun e_2=>
 (Loop (bw e_2.1 ListtoArray.Gates ((ListtoArray.Gates.length:Nat):Int) ListtoArray.Gates 0 0 0 1 e_.2 r_) (([]:List Tri),([]:List Tri),([]:List Tri),0,0)).bind fun e_3=>
 (Loop (cu e_2.1 e_3.1 e_3.2.1 e_3.2.2.1 ListtoArray.Gates ((ListtoArray.Gates.length:Nat):Int) e_3.2.2.2.1 e_3.2.2.2.2.1 ListtoArray.Gates 0 0 0 e_.2 r_ e_3.2.2.2.2.2) 1).bind fun e_4=>
 (gx e_3.1).bind fun r_5=>
 (gx e_3.2.1).bind fun r_6=>
 (gx e_3.2.2.1).bind fun r_7=>
 some (e_4.2,e_.2,r_,r_5.1,r_6.1,r_7.1)
theorem np {ListtoArray r} (h:cF ListtoArray=some r):Call tab ow 43 [.agg [sl eGate ListtoArray.Gates]] []=some (.agg [I r.1,I r.2.1,I r.2.2.1,.sl 0 0 r.2.2.2.1.length,.sl 1 0 r.2.2.2.2.1.length,.sl 2 0 r.2.2.2.2.2.length],[⟨3,false,rws ai r.2.2.2.1⟩,⟨3,false,rws ai r.2.2.2.2.1⟩,⟨3,false,rws ai r.2.2.2.2.2⟩]):=by
 rw [aq (af:=cO) rfl]
 unfold cF at h
 simp only [cO,bN]
 have d1:= @ik
 have d2:= @lJ
 have d3:= @lu
 have d4:= @lN
 have d5:= @lH
 have d6:= @lI
 have d7:= @wQ
 exact go2
end
def dL (c:Circuit):Option (Int×Int×Int×Int×(List ab)×(List ab)×(List ab)):=
 (hG c).bind fun r_=>
 br (!r_) (
 some (0,0,0,19,([]:List ab),([]:List ab),([]:List ab))) (
 (cF c).bind fun r_2=>
 some (r_2.1,r_2.2.1,r_2.2.2.1,0,r_2.2.2.2.1,r_2.2.2.2.2.1,r_2.2.2.2.2.2))
theorem tF {c r} (h:dL c=some r):Call tab ow 10 [.agg [sl eGate c.Gates]] []=some (.tup [.agg [I r.1,I r.2.1,I r.2.2.1,.sl 0 0 r.2.2.2.2.1.length,.sl 1 0 r.2.2.2.2.2.1.length,.sl 2 0 r.2.2.2.2.2.2.length],I r.2.2.2.1],[⟨3,false,rws ai r.2.2.2.2.1⟩,⟨3,false,rws ai r.2.2.2.2.2.1⟩,⟨3,false,rws ai r.2.2.2.2.2.2⟩]):=by
 rw [aq (af:=gI) rfl]
 unfold dL at h
 simp only [gI,nD]
 have d1:= @tv
 have d2:= @np
 exact go2
def mW (a b:ab):Option (Bool):=
 br (a.Row !=b.Row) (
 some false) (
 br (a.Col !=b.Col) (
 some false) (
 br (a.Value !=b.Value) (
 some false) (
 some true)))
theorem wA {a b r} (h:mW a b=some r):Call tab ow 96 [.agg [I a.Row,I a.Col,I a.Value],.agg [I b.Row,I b.Col,I b.Value]] []=some (B r,[]):=by
 rw [aq (af:=jf) rfl]
 unfold mW at h
 simp only [jf,pU]
 exact go2
def dK (a2 b2:List ab):Int→Option ((Int)⊕(Unit⊕(Int×Bool)))
 |i=>
  br (decide (i<((a2.length:Nat):Int))) (
  (atL a2 i).bind fun x=>
  (atL b2 i).bind fun x2=>
  (mW x x2).bind fun r_=>
  br (!r_) (
  some (.inr (.inl ()))) (
  some (.inl (wrap .i64 (i+1))))) (
  some (.inr (.inr (i,decide (i<((a2.length:Nat):Int))))))
abbrev mo (a2 b2:List ab) (s:Int):St:=⟨[(0,sl ai a2),(1,sl ai b2),(5,I s)],[]⟩
abbrev mc (a2 b2:List ab):(Unit⊕(Int×Bool))→aH×St:=alt (fun e=>((.ret,⟨[(4,B false)],[]⟩):aH×St)) (fun e=>(.exit 0,⟨[(0,sl ai a2),(1,sl ai b2),(5,I e.1),(14,B e.2)],[]⟩))
theorem se {a2 b2 s e} (h:Loop (dK a2 b2) s=some e):cw tab ow (.close [7008]) ms (mo a2 b2 s)=some (mc a2 b2 e):=by
 refine lrG (fun s o h=> ?_) h
 simp only [dK] at h
 simp only [mo,mc,ms,lV]
 have d1:= @wA
 exact go2
def fb (a b:(List ab)):Option (Bool):=
 br (((a.length:Nat):Int) !=((b.length:Nat):Int)) (
 some false) (
 (Loop (dK a b) 0).bind (alt (fun e_2=>
 some false) (fun e_3=>
 some true)))
theorem vo {a b r} (h:fb a b=some r):Call tab ow 44 [sl ai a,sl ai b] []=some (B r,[]):=by
 rw [aq (af:=iA) rfl]
 unfold fb at h
 simp only [iA,kI]
 have d1:= @se
 exact go2
def fe (a b:aQ):Option (Bool):=
 br (a.Rows !=b.Rows) (
 some false) (
 br (a.Cols !=b.Cols) (
 some false) (
 br (a.Publics !=b.Publics) (
 some false) (
 (fb a.A b.A).bind fun r_=>
 br (!r_) (
 some false) (
 (fb a.B b.B).bind fun r_2=>
 br (!r_2) (
 some false) (
 (fb a.C b.C).bind fun r_3=>
 br (!r_3) (
 some false) (
 some true))))))
theorem vm {a b r} (h:fe a b=some r):Call tab ow 11 [.agg [I a.Rows,I a.Cols,I a.Publics,sl ai a.A,sl ai a.B,sl ai a.C],.agg [I b.Rows,I b.Cols,I b.Publics,sl ai b.A,sl ai b.B,sl ai b.C]] []=some (B r,[]):=by
 rw [aq (af:=ix) rfl]
 unfold fe at h
 simp only [ix,oP]
 have d1:= @vo
 exact go2
def oY (a b:Gate):Option (Bool):=
 br (a.Op !=b.Op) (
 some false) (
 br (a.A !=b.A) (
 some false) (
 br (a.B !=b.B) (
 some false) (
 br (a.K !=b.K) (
 some false) (
 some true))))
theorem AE {a b r} (h:oY a b=some r):Call tab ow 97 [.agg [I a.Op,I a.A,I a.B,I a.K],.agg [I b.Op,I b.A,I b.B,I b.K]] []=some (B r,[]):=by
 rw [aq (af:=ky) rfl]
 unfold oY at h
 simp only [ky,ru]
 exact go2
def ey (a2 b2:List Gate):Int→Option ((Int)⊕(Unit⊕(Int×Bool)))
 |i=>
  br (decide (i<((a2.length:Nat):Int))) (
  (atL a2 i).bind fun x=>
  (atL b2 i).bind fun x2=>
  (oY x x2).bind fun r_=>
  br (!r_) (
  some (.inr (.inl ()))) (
  some (.inl (wrap .i64 (i+1))))) (
  some (.inr (.inr (i,decide (i<((a2.length:Nat):Int))))))
abbrev nK (a2 b2:List Gate) (s:Int):St:=⟨[(0,sl eGate a2),(1,sl eGate b2),(5,I s)],[]⟩
abbrev nU (a2 b2:List Gate):(Unit⊕(Int×Bool))→aH×St:=alt (fun e=>((.ret,⟨[(4,B false)],[]⟩):aH×St)) (fun e=>(.exit 0,⟨[(0,sl eGate a2),(1,sl eGate b2),(5,I e.1),(14,B e.2)],[]⟩))
theorem tQ {a2 b2 s e} (h:Loop (ey a2 b2) s=some e):cw tab ow (.close [7008]) nG (nK a2 b2 s)=some (nU a2 b2 e):=by
 refine lrG (fun s o h=> ?_) h
 simp only [ey] at h
 simp only [nK,nU,nG,nQ]
 have d1:= @AE
 exact go2
def jK (a b:(List Gate)):Option (Bool):=
 br (((a.length:Nat):Int) !=((b.length:Nat):Int)) (
 some false) (
 (Loop (ey a b) 0).bind (alt (fun e_2=>
 some false) (fun e_3=>
 some true)))
theorem wK {a b r} (h:jK a b=some r):Call tab ow 45 [sl eGate a,sl eGate b] []=some (B r,[]):=by
 rw [aq (af:=jp) rfl]
 unfold jK at h
 simp only [jp,mS]
 have d1:= @tQ
 exact go2
def i4 (a b:Circuit):Option (Bool):=
 (jK a.Gates b.Gates).bind fun r_=>
 br (!r_) (
 some false) (
 some true)
theorem tU {a b r} (h:i4 a b=some r):Call tab ow 12 [.agg [sl eGate a.Gates],.agg [sl eGate b.Gates]] []=some (B r,[]):=by
 rw [aq (af:=gK) rfl]
 unfold i4 at h
 simp only [gK,ny]
 have d1:= @wK
 exact go2
def bM:(List Gate)×Int×Int→Option (((List Gate)×Int×Int)⊕(((List Gate)×Int×Int×Bool)))
 | (l2,k2,i)=>
   br (decide (i<((l2.length:Nat):Int))) (
   br (decide (0≤i)) (
   br (decide (i.toNat<l2.length)) (
   (l2[i.toNat]?).bind fun x=>
   br (decide (0≤i)) (
   br (decide (i.toNat<l2.length)) (
   ((l2.set i.toNat (Gate.mk k2 x.A x.B x.K))[i.toNat]?).bind fun x2=>
   br (decide (0≤i)) (
   br (decide (i.toNat<l2.length)) (
   (((l2.set i.toNat (Gate.mk k2 x.A x.B x.K)).set i.toNat (Gate.mk x2.Op (wrap .i64 (k2+1)) x2.B x2.K))[i.toNat]?).bind fun x3=>
   br (decide (0≤i)) (
   br (decide (i.toNat<l2.length)) (
   ((((l2.set i.toNat (Gate.mk k2 x.A x.B x.K)).set i.toNat (Gate.mk x2.Op (wrap .i64 (k2+1)) x2.B x2.K)).set i.toNat (Gate.mk x3.Op x3.A (wrap .i64 ((wrap .i64 (k2+1))+1)) x3.K))[i.toNat]?).bind fun x4=>
   some (.inl (((((l2.set i.toNat (Gate.mk k2 x.A x.B x.K)).set i.toNat (Gate.mk x2.Op (wrap .i64 (k2+1)) x2.B x2.K)).set i.toNat (Gate.mk x3.Op x3.A (wrap .i64 ((wrap .i64 (k2+1))+1)) x3.K)).set i.toNat (Gate.mk x4.Op x4.A x4.B (wrap .i64 ((wrap .i64 ((wrap .i64 (k2+1))+1))+1)))),(wrap .i64 ((wrap .i64 ((wrap .i64 ((wrap .i64 (k2+1))+1))+1))+1)),(wrap .i64 (i+1))))) none) none) none) none) none) none) none) none) (
   some (.inr (l2,k2,i,decide (i<((l2.length:Nat):Int)))))
abbrev jt (s:(List Gate)×Int×Int):St:=⟨[(0,.sl 0 0 s.1.length),(1,I s.2.1),(5,I s.2.2)],[(0,⟨4,false,rws eGate s.1⟩)]⟩
abbrev jc:((List Gate)×Int×Int×Bool)→aH×St:=fun e=>(.exit 0,⟨[(0,.sl 0 0 e.1.length),(1,I e.2.1),(5,I e.2.2.1),(9,B e.2.2.2)],[(0,⟨4,false,rws eGate e.1⟩)]⟩)
theorem oK { s e} (h:Loop (bM) s=some e):cw tab ow (.close []) lh (jt s)=some (jc e):=by
 refine lrG (fun s o h=> ?_) h
 obtain ⟨_,_,_⟩:=s
 simp only [bM] at h
 simp only [jt,jc,lh,l0]
 exact go2
def eu (k:Int) (l:List Gate):Option (Int×(List Gate)):=
 (Loop (bM) (l,k,0)).bind fun e_=>
 some (e_.2.1,e_.1)
theorem qQ {k l r} (h:eu k l=some r):Call tab ow 46 [.sl 0 0 l.length,I k] [⟨4,false,rws eGate l⟩]=some (I r.1,[⟨4,false,rws eGate r.2⟩]):=by
 rw [aq (af:=gV) rfl]
 unfold eu at h
 simp only [gV,jx]
 have d1:= @oK
 exact go2
def eJ (k:Int) (l:List Gate):Option (Int×(List Gate)):=
 (eu k l).bind fun r_=>
 some (r_.1,r_.2)
theorem qA {k l r} (h:eJ k l=some r):Call tab ow 13 [.agg [.sl 0 0 l.length],I k] [⟨4,false,rws eGate l⟩]=some (I r.1,[⟨4,false,rws eGate r.2⟩]):=by
 rw [aq (af:=eV) rfl]
 unfold eJ at h
 simp only [eV,lG]
 have d1:= @qQ
 exact go2
def bC:(List ab)×Int×Int→Option (((List ab)×Int×Int)⊕(((List ab)×Int×Int×Bool)))
 | (l2,k2,i)=>
   br (decide (i<((l2.length:Nat):Int))) (
   br (decide (0≤i)) (
   br (decide (i.toNat<l2.length)) (
   (l2[i.toNat]?).bind fun x=>
   br (decide (0≤i)) (
   br (decide (i.toNat<l2.length)) (
   ((l2.set i.toNat (ab.mk k2 x.Col x.Value))[i.toNat]?).bind fun x2=>
   br (decide (0≤i)) (
   br (decide (i.toNat<l2.length)) (
   (((l2.set i.toNat (ab.mk k2 x.Col x.Value)).set i.toNat (ab.mk x2.Row (wrap .i64 (k2+1)) x2.Value))[i.toNat]?).bind fun x3=>
   some (.inl ((((l2.set i.toNat (ab.mk k2 x.Col x.Value)).set i.toNat (ab.mk x2.Row (wrap .i64 (k2+1)) x2.Value)).set i.toNat (ab.mk x3.Row x3.Col (wrap .i64 ((wrap .i64 (k2+1))+1)))),(wrap .i64 ((wrap .i64 ((wrap .i64 (k2+1))+1))+1)),(wrap .i64 (i+1))))) none) none) none) none) none) none) (
   some (.inr (l2,k2,i,decide (i<((l2.length:Nat):Int)))))
abbrev j6 (s:(List ab)×Int×Int):St:=⟨[(0,.sl 0 0 s.1.length),(1,I s.2.1),(5,I s.2.2)],[(0,⟨3,false,rws ai s.1⟩)]⟩
abbrev iP:((List ab)×Int×Int×Bool)→aH×St:=fun e=>(.exit 0,⟨[(0,.sl 0 0 e.1.length),(1,I e.2.1),(5,I e.2.2.1),(9,B e.2.2.2)],[(0,⟨3,false,rws ai e.1⟩)]⟩)
theorem oh { s e} (h:Loop (bC) s=some e):cw tab ow (.close []) jN (j6 s)=some (iP e):=by
 refine lrG (fun s o h=> ?_) h
 obtain ⟨_,_,_⟩:=s
 simp only [bC] at h
 simp only [j6,iP,jN,jV]
 exact go2
def cm (k:Int) (l:List ab):Option (Int×(List ab)):=
 (Loop (bC) (l,k,0)).bind fun e_=>
 some (e_.2.1,e_.1)
theorem pr {k l r} (h:cm k l=some r):Call tab ow 47 [.sl 0 0 l.length,I k] [⟨3,false,rws ai l⟩]=some (I r.1,[⟨3,false,rws ai r.2⟩]):=by
 rw [aq (af:=fP) rfl]
 unfold cm at h
 simp only [fP,iO]
 have d1:= @oh
 exact go2
def fB (a a2 a3 k:Int) (l l2 l3:List ab):Option (Int×(List ab)×(List ab)×(List ab)):=
 (cm k l).bind fun r_=>
 (cm r_.1 l2).bind fun r_2=>
 (cm r_2.1 l3).bind fun r_3=>
 some (r_3.1,r_.2,r_2.2,r_3.2)
theorem sk {a a2 a3 k l l2 l3 r} (h:fB a a2 a3 k l l2 l3=some r):Call tab ow 14 [.agg [I a,I a2,I a3,.sl 0 0 l.length,.sl 1 0 l2.length,.sl 2 0 l3.length],I k] [⟨3,false,rws ai l⟩,⟨3,false,rws ai l2⟩,⟨3,false,rws ai l3⟩]=some (I r.1,[⟨3,false,rws ai r.2.1⟩,⟨3,false,rws ai r.2.2.1⟩,⟨3,false,rws ai r.2.2.2⟩]):=by
 rw [aq (af:=fO) rfl]
 unfold fB at h
 simp only [fO,md]
 have d1:= @pr
 exact go2
def bV (a2:List ab):Int×Int→Option ((Int×Int)⊕(Unit⊕(Int×Int×Bool)))
 | (k2,i)=>
   br (decide (i<((a2.length:Nat):Int))) (
   (atL a2 i).bind fun x=>
   br (x.Row !=k2) (
   some (.inr (.inl ()))) (
   (atL a2 i).bind fun x2=>
   br (x2.Col !=(wrap .i64 (k2+1))) (
   some (.inr (.inl ()))) (
   (atL a2 i).bind fun x3=>
   br (x3.Value !=(wrap .i64 ((wrap .i64 (k2+1))+1))) (
   some (.inr (.inl ()))) (
   some (.inl ((wrap .i64 ((wrap .i64 ((wrap .i64 (k2+1))+1))+1)),(wrap .i64 (i+1)))))))) (
   some (.inr (.inr (k2,i,decide (i<((a2.length:Nat):Int))))))
abbrev jT (a2:List ab) (s:Int×Int):St:=⟨[(0,sl ai a2),(1,I s.1),(5,I s.2)],[]⟩
abbrev kf (a2:List ab):(Unit⊕(Int×Int×Bool))→aH×St:=alt (fun e=>((.ret,⟨[(4,I (-1:Int))],[]⟩):aH×St)) (fun e=>(.exit 0,⟨[(0,sl ai a2),(1,I e.1),(5,I e.2.1),(9,B e.2.2)],[]⟩))
theorem pE {a2 s e} (h:Loop (bV a2) s=some e):cw tab ow (.close []) jU (jT a2 s)=some (kf a2 e):=by
 refine lrG (fun s o h=> ?_) h
 obtain ⟨_,_⟩:=s
 simp only [bV] at h
 simp only [jT,kf,jU,jM]
 exact go2
def dc (a:(List ab)) (k:Int):Option (Int):=
 (Loop (bV a) (k,0)).bind (alt (fun e_2=>
 some (-1:Int)) (fun e_3=>
 some e_3.1))
theorem sx {a k r} (h:dc a k=some r):Call tab ow 48 [sl ai a,I k] []=some (I r,[]):=by
 rw [aq (af:=fL) rfl]
 unfold dc at h
 simp only [fL,iM]
 have d1:= @pE
 exact go2
def ec (a:aQ) (k:Int):Option (Int):=
 (dc a.A k).bind fun r_=>
 br (decide (r_<0)) (
 some (-1:Int)) (
 (dc a.B r_).bind fun r_2=>
 br (decide (r_2<0)) (
 some (-1:Int)) (
 (dc a.C r_2).bind fun r_3=>
 br (decide (r_3<0)) (
 some (-1:Int)) (
 some r_3)))
theorem rD {a k r} (h:ec a k=some r):Call tab ow 15 [.agg [I a.Rows,I a.Cols,I a.Publics,sl ai a.A,sl ai a.B,sl ai a.C],I k] []=some (I r,[]):=by
 rw [aq (af:=fN) rfl]
 unfold ec at h
 simp only [fN,lY]
 have d1:= @sx
 exact go2
def dG (ListtoArray:Circuit):Option (Bool):=
 (gY ListtoArray 1048576).bind fun r_=>
 br (decide (r_<0)) (
 some true) (
 (cE ListtoArray).bind fun r_2=>
 (gq (Circuit.mk r_2)).bind fun r_3=>
 (cE ListtoArray).bind fun r_4=>
 (dL (Circuit.mk r_4)).bind fun r_5=>
 (fe (aQ.mk r_5.1 r_5.2.1 r_5.2.2.1 r_5.2.2.2.2.1 r_5.2.2.2.2.2.1 r_5.2.2.2.2.2.2) r_3.1).bind fun r_6=>
 br (!r_6) (
 some false) (
 br (r_5.2.2.2.1 !=r_3.2) (
 some false) (
 (cE ListtoArray).bind fun r_7=>
 (i4 (Circuit.mk r_4) (Circuit.mk r_7)).bind fun r_8=>
 br (!r_8) (
 some false) (
 (eJ 1 r_4).bind fun r_9=>
 br (decide (r_9.1<0)) (
 some false) (
 (fe (aQ.mk r_5.1 r_5.2.1 r_5.2.2.1 r_5.2.2.2.2.1 r_5.2.2.2.2.2.1 r_5.2.2.2.2.2.2) r_3.1).bind fun r_10=>
 br (!r_10) (
 some false) (
 br (r_5.2.2.2.1 !=r_3.2) (
 some false) (
 (fB r_5.1 r_5.2.1 r_5.2.2.1 1 r_5.2.2.2.2.1 r_5.2.2.2.2.2.1 r_5.2.2.2.2.2.2).bind fun r_11=>
 br (decide (r_11.2.1.length=r_5.2.2.2.2.1.length)) (
 br (decide (r_11.2.2.1.length=r_5.2.2.2.2.2.1.length)) (
 br (decide (r_11.2.2.2.length=r_5.2.2.2.2.2.2.length)) (
 (ec (aQ.mk r_5.1 r_5.2.1 r_5.2.2.1 r_11.2.1 r_11.2.2.1 r_11.2.2.2) 1).bind fun r_12=>
 br (decide (r_12<0)) (
 some false) (
 br (r_12 !=r_11.1) (
 some false) (
 (cE ListtoArray).bind fun r_13=>
 (dL (Circuit.mk r_13)).bind fun r_14=>
 (fe (aQ.mk r_14.1 r_14.2.1 r_14.2.2.1 r_14.2.2.2.2.1 r_14.2.2.2.2.2.1 r_14.2.2.2.2.2.2) r_3.1).bind fun r_15=>
 br (!r_15) (
 some false) (
 br (r_14.2.2.2.1 !=r_3.2) (
 some false) (
 br (decide (r_11.2.1.length=r_5.2.2.2.2.1.length)) (
 br (decide (r_11.2.2.1.length=r_5.2.2.2.2.2.1.length)) (
 br (decide (r_11.2.2.2.length=r_5.2.2.2.2.2.2.length)) (
 (ec (aQ.mk r_5.1 r_5.2.1 r_5.2.2.1 r_11.2.1 r_11.2.2.1 r_11.2.2.2) 1).bind fun r_16=>
 br (decide (r_16<0)) (
 some false) (
 br (r_16 !=r_11.1) (
 some false) (
 some true))) none) none) none))))) none) none) none)))))))
theorem w_FnExactSystemOf_c {ListtoArray r} (h:dG ListtoArray=some r):Call tab ow 3 [.agg [sl eGate ListtoArray.Gates]] []=some (B r,[]):=by
 rw [aq (af:=a_w_FnExactSystemOf) rfl]
 unfold dG at h
 simp only [a_w_FnExactSystemOf,im]
 have d1:= @tR
 have d2:= @rt
 have d3:= @uT
 have d4:= @tF
 have d5:= @vm
 have d6:= @tU
 have d7:= @qA
 have d8:= @sk
 have d9:= @rD
 exact go2
end
end Go.AI.Fn
