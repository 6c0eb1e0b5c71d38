/- Walks through the program, with open values. -/
import Derived.Test.YtgjlndaebhaciaaStr
set_option linter.unusedVariables false
set_option linter.unusedSimpArgs false
set_option maxRecDepth 100000
set_option maxHeartbeats 1000000
namespace Go.AI.Fn
noncomputable section
open IntKind (wrap)
def fa (n low high:Int):Option (Bool):=
 br (decide (low≤n)) (
 some (decide (n≤high))) (
 some false)
theorem rg {n low high r} (h:fa n low high=some r):Call tab ow 88 [I n,I low,I high] []=some (B r,[]):=by
 rw [al (af:=rn) rfl]
 unfold fa at h
 simp only [rn,zF]
 exact go2
def cG (op:Int):Option (Int):=
 (fa op 4 7).bind fun r_=>
 br r_ (
 some 2) (
 br (op==8) (
 some 1) (
 some 0))
theorem vc {op r} (h:cG op=some r):Call tab ow 100 [I op] []=some (I r,[]):=by
 rw [al (af:=na) rfl]
 unfold cG at h
 simp only [na,vE]
 have d1:= @rg
 exact go2
def bw (a:Int):Option (Bool):=
 (fa a 0 2130706432).bind fun r_=>
 some r_
theorem vg {a r} (h:bw a=some r):Call tab ow 130 [I a] []=some (B r,[]):=by
 rw [al (af:=mL) rfl]
 unfold bw at h
 simp only [mL,vw]
 have d1:= @rg
 exact go2
def o8 (g:aa) (k:Int):Option (Bool):=
 (fa g.Op 1 8).bind fun r_=>
 br (!r_) (
 some false) (
 (cG g.Op).bind fun r_2=>
 br (decide (r_2>0)) (
 (fa g.A 0 (wrap .i64 (k-1))).bind fun r_3=>
 br (!r_3) (
 some false) (
 br (r_2==0) (
 br (g.A !=0) (
 some false) (
 br (decide (r_2>1)) (
 (fa g.B 0 (wrap .i64 (k-1))).bind fun r_4=>
 br (!r_4) (
 some false) (
 br (decide (r_2<2)) (
 br (g.B !=0) (
 some false) (
 br (g.Op==3) (
 (bw g.K).bind fun r_5=>
 some r_5) (
 some (g.K==0)))) (
 br (g.Op==3) (
 (bw g.K).bind fun r_6=>
 some r_6) (
 some (g.K==0))))) (
 br (decide (r_2<2)) (
 br (g.B !=0) (
 some false) (
 br (g.Op==3) (
 (bw g.K).bind fun r_7=>
 some r_7) (
 some (g.K==0)))) (
 br (g.Op==3) (
 (bw g.K).bind fun r_8=>
 some r_8) (
 some (g.K==0)))))) (
 br (decide (r_2>1)) (
 (fa g.B 0 (wrap .i64 (k-1))).bind fun r_9=>
 br (!r_9) (
 some false) (
 br (decide (r_2<2)) (
 br (g.B !=0) (
 some false) (
 br (g.Op==3) (
 (bw g.K).bind fun r_10=>
 some r_10) (
 some (g.K==0)))) (
 br (g.Op==3) (
 (bw g.K).bind fun r_11=>
 some r_11) (
 some (g.K==0))))) (
 br (decide (r_2<2)) (
 br (g.B !=0) (
 some false) (
 br (g.Op==3) (
 (bw g.K).bind fun r_12=>
 some r_12) (
 some (g.K==0)))) (
 br (g.Op==3) (
 (bw g.K).bind fun r_13=>
 some r_13) (
 some (g.K==0))))))) (
 br (r_2==0) (
 br (g.A !=0) (
 some false) (
 br (decide (r_2>1)) (
 (fa g.B 0 (wrap .i64 (k-1))).bind fun r_14=>
 br (!r_14) (
 some false) (
 br (decide (r_2<2)) (
 br (g.B !=0) (
 some false) (
 br (g.Op==3) (
 (bw g.K).bind fun r_15=>
 some r_15) (
 some (g.K==0)))) (
 br (g.Op==3) (
 (bw g.K).bind fun r_16=>
 some r_16) (
 some (g.K==0))))) (
 br (decide (r_2<2)) (
 br (g.B !=0) (
 some false) (
 br (g.Op==3) (
 (bw g.K).bind fun r_17=>
 some r_17) (
 some (g.K==0)))) (
 br (g.Op==3) (
 (bw g.K).bind fun r_18=>
 some r_18) (
 some (g.K==0)))))) (
 br (decide (r_2>1)) (
 (fa g.B 0 (wrap .i64 (k-1))).bind fun r_19=>
 br (!r_19) (
 some false) (
 br (decide (r_2<2)) (
 br (g.B !=0) (
 some false) (
 br (g.Op==3) (
 (bw g.K).bind fun r_20=>
 some r_20) (
 some (g.K==0)))) (
 br (g.Op==3) (
 (bw g.K).bind fun r_21=>
 some r_21) (
 some (g.K==0))))) (
 br (decide (r_2<2)) (
 br (g.B !=0) (
 some false) (
 br (g.Op==3) (
 (bw g.K).bind fun r_22=>
 some r_22) (
 some (g.K==0)))) (
 br (g.Op==3) (
 (bw g.K).bind fun r_23=>
 some r_23) (
 some (g.K==0)))))))
theorem Dx {g k r} (h:o8 g k=some r):Call tab ow 89 [.agg [I g.Op,I g.A,I g.B,I g.K],I k] []=some (B r,[]):=by
 rw [al (af:=mI) rfl]
 unfold o8 at h
 simp only [mI,vq]
 have d1:= @rg
 have d2:= @vc
 have d3:= @vg
 exact go2
def to (b:Bool):Option (Int):=
 br b (
 some 1) (
 some 0)
theorem EB {b r} (h:to b=some r):Call tab ow 131 [B b] []=some (I r,[]):=by
 rw [al (af:=oq) rfl]
 unfold to at h
 simp only [oq,xB]
 exact go2
def ey (op2:Int) (c2:List aa):Int×Int→Option ((Int×Int)⊕((Int×Int×Bool)))
 | (n,k)=>
   br (decide (k<((c2.length:Nat):Int))) (
   (atL c2 k).bind fun x=>
   (to (x.Op==op2)).bind fun r_=>
   some (.inl ((wrap .i64 (n+r_)),(wrap .i64 (k+1))))) (
   some (.inr (n,k,decide (k<((c2.length:Nat):Int)))))
abbrev r7 (op2:Int) (c2:List aa) (s:Int×Int):St:=⟨[(1,I op2),(2,.ptr 1000 0 0 1),(5,I s.1),(6,I s.2)],[(1000,⟨1,true,[[sl aO c2]]⟩)]⟩
abbrev qH (op2:Int) (c2:List aa):(Int×Int×Bool)→aJ×St:=fun e=>(.exit 0,⟨[(1,I op2),(2,.ptr 1000 0 0 1),(5,I e.1),(6,I e.2.1),(11,B e.2.2)],[(1000,⟨1,true,[[sl aO c2]]⟩)]⟩)
theorem xK {op2 c2 s e} (h:Loop (ey op2 c2) s=some e):cy tab ow (.close [6009]) pY (r7 op2 c2 s)=some (qH op2 c2 e):=by
 refine lrG (fun s o h=> ?_) h
 obtain ⟨_,_⟩:=s
 simp only [ey] at h
 simp only [r7,qH,pY,pI]
 have d1:= @EB
 exact go2
def ck (c:Circuit) (op:Int):Option (Int):=
 (Loop (ey op c.Gates) (0,0)).bind fun e_=>
 some e_.1
theorem ff {c op r} (h:ck c op=some r):Call tab ow 90 [.agg [sl aO c.Gates],I op] []=some (I r,[]):=by
 rw [al (af:=lh) rfl]
 unfold ck at h
 simp only [lh,oL]
 have d1:= @xK
 exact go2
def ce (c2:List aa):Int→Option ((Int)⊕(Unit⊕(Int×Bool)))
 |k=>
  br (decide (k<((c2.length:Nat):Int))) (
  (atL c2 k).bind fun x=>
  (o8 x k).bind fun r_2=>
  br (!r_2) (
  some (.inr (.inl ()))) (
  some (.inl (wrap .i64 (k+1))))) (
  some (.inr (.inr (k,decide (k<((c2.length:Nat):Int))))))
abbrev pb (c2:List aa) (s:Int):St:=⟨[(1,.ptr 1000 0 0 1),(3,I s)],[(1000,⟨1,true,[[sl aO c2]]⟩)]⟩
abbrev p5 (c2:List aa):(Unit⊕(Int×Bool))→aJ×St:=alt (fun e=>((.ret,⟨[(2,B false)],[(1000,⟨1,true,[[sl aO c2]]⟩)]⟩):aJ×St)) (fun e=>(.exit 0,⟨[(1,.ptr 1000 0 0 1),(3,I e.1),(13,B e.2)],[(1000,⟨1,true,[[sl aO c2]]⟩)]⟩))
theorem vO {c2 s e} (h:Loop (ce c2) s=some e):cy tab ow (.close [7006]) pf (pb c2 s)=some (p5 c2 e):=by
 refine lrG (fun s o h=> ?_) h
 simp only [ce] at h
 simp only [pb,p5,pf,oY]
 have d1:= @Dx
 exact go2
def iB (c:Circuit):Option (Bool):=
 (fa ((c.Gates.length:Nat):Int) 1 15).bind fun r_=>
 br (!r_) (
 some false) (
 (Loop (ce c.Gates) 0).bind (alt (fun e_2=>
 some false) (fun e_3=>
 (ck c 2).bind fun r_3=>
 some (decide (r_3≤7)))))
theorem sg {c r} (h:iB c=some r):Call tab ow 40 [.agg [sl aO c.Gates]] []=some (B r,[]):=by
 rw [al (af:=jD) rfl]
 unfold iB at h
 simp only [jD,nk]
 have d1:= @rg
 have d2:= @vO
 have d3:= @ff
 exact go2
def gG (p w_:Int) (c2:List aa):Int→Option ((Int)⊕((Int×Bool)))
 |k=>
  br (decide (0≤(wrap .u64 (wrap .i64 (k-1))))) (
  br (decide ((bc .i64 1 (wrap .u64 (wrap .i64 (k-1))))<(mx (wrap .i64 (p+1)) w_))) (
  some (.inl (wrap .i64 (k+1)))) (
  some (.inr (k,decide ((bc .i64 1 (wrap .u64 (wrap .i64 (k-1))))<(mx (wrap .i64 (p+1)) w_)))))) none
abbrev tH (p w_:Int) (c2:List aa) (s:Int):St:=⟨[(3,I p),(4,I w_),(5,I s)],[(1000,⟨1,true,[[sl aO c2]]⟩)]⟩
abbrev tY (p w_:Int) (c2:List aa):(Int×Bool)→aJ×St:=fun e=>(.exit 0,⟨[(3,I p),(4,I w_),(5,I e.1),(21,B e.2)],[(1000,⟨1,true,[[sl aO c2]]⟩)]⟩)
theorem B2 {p w_ c2 s e} (h:Loop (gG p w_ c2) s=some e):cy tab ow (.close []) tB (tH p w_ c2 s)=some (tY p w_ c2 e):=by
 refine lrG (fun s o h=> ?_) h
 simp only [gG] at h
 simp only [tH,tY,tB,ur]
 exact go2
def pK (c:Circuit):Option (Int):=
 (ck c 2).bind fun r_=>
 (Loop (gG r_ (wrap .i64 (((c.Gates.length:Nat):Int)-r_)) c.Gates) 2).bind fun e_=>
 some e_.1
theorem Fa {c r} (h:pK c=some r):Call tab ow 132 [.agg [sl aO c.Gates]] []=some (I r,[]):=by
 rw [al (af:=oh) rfl]
 unfold pK at h
 simp only [oh,sD]
 have d1:= @ff
 have d2:= @B2
 exact go2
section
theorem AW:mkR 4000 []=rws eI []:=rfl
attribute [local go_sem] AW
theorem Bk:mkR 12002 []=rws eI []:=rfl
attribute [local go_sem] Bk
theorem By:mkR 13004 []=rws eI []:=rfl
attribute [local go_sem] By
def fG (cols half:Int) (c2:List aa):(List Int)×Int×Int×Int→Option (((List Int)×Int×Int×Int)⊕(((List Int)×Int×Int×Int×Bool)))
 | (l,p,w_,k)=>
   br (decide (k<((c2.length:Nat):Int))) (
   (atL c2 k).bind fun x=>
   br (x.Op==2) (
   br (aK ((l++([(wrap .i64 (p+1))]:List Int)).length) 8) (
   some (.inl ((l++([(wrap .i64 (p+1))]:List Int)),(wrap .i64 (p+1)),w_,(wrap .i64 (k+1))))) none) (
   br (aK ((l++([(wrap .i64 (half+w_))]:List Int)).length) 8) (
   some (.inl ((l++([(wrap .i64 (half+w_))]:List Int)),p,(wrap .i64 (w_+1)),(wrap .i64 (k+1))))) none)) (
   some (.inr (l,p,w_,k,decide (k<((c2.length:Nat):Int)))))
abbrev nm (c2:List aa) (l:List Int):List (Nat×Blk):=[(1000,⟨1,true,[[sl aO c2]]⟩),(4000,⟨1,false,rws eI l⟩)]
abbrev sj (cols half:Int) (c2:List aa) (s:(List Int)×Int×Int×Int):St:=⟨[(1,.ptr 1000 0 0 1),(4,I cols),(5,I half),(6,.sl 4000 0 s.1.length),(7,I s.2.1),(8,I s.2.2.1),(9,I s.2.2.2)],nm c2 s.1⟩
abbrev sx (cols half:Int) (c2:List aa):((List Int)×Int×Int×Int×Bool)→aJ×St:=fun e=>(.exit 0,⟨[(1,.ptr 1000 0 0 1),(4,I cols),(5,I half),(6,.sl 4000 0 e.1.length),(7,I e.2.1),(8,I e.2.2.1),(9,I e.2.2.2.1),(21,B e.2.2.2.2)],nm c2 e.1⟩)
theorem zp {cols half c2 s e} (h:Loop (fG cols half c2) s=some e):cy tab ow (.close [12002,12003,13004,13005]) se (sj cols half c2 s)=some (sx cols half c2 e):=by
 refine lrG (fun s o h=> ?_) h
 obtain ⟨_,_,_,_⟩:=s
 simp only [fG] at h
 simp only [sj,sx,nm,se,s8]
 exact go2
def nK (c:Circuit):Option ((List Int)×Int):=
 (pK c).bind fun r_=>
 br (decide (0≤(wrap .u64 (wrap .i64 (r_-1))))) (
 (Loop (fG r_ (bc .i64 1 (wrap .u64 (wrap .i64 (r_-1)))) c.Gates) (([]:List Int),0,0,0)).bind fun e_=>
 some (e_.1,r_)) none
theorem DZ {c r} (h:nK c=some r):Call tab ow 91 [.agg [sl aO c.Gates]] []=some (.tup [sl eI r.1,I r.2],[]):=by
 rw [al (af:=mK) rfl]
 unfold nK at h
 simp only [mK,pX]
 have d1:= @Fa
 have d2:= @zp
 exact go2
end
def oa (a b:Int):Option (Int):=
 some ((wrap .i64 (a+b)).tmod 2130706433)
theorem wJ {a b r} (h:oa a b=some r):Call tab ow 105 [I a,I b] []=some (I r,[]):=by
 rw [al (af:=og) rfl]
 unfold oa at h
 simp only [og,xx]
 exact go2
section
theorem zn:mkR 7000 []=rws an []:=rfl
attribute [local go_sem] zn
theorem yL:mkR 9005 []=rws an []:=rfl
attribute [local go_sem] yL
theorem yR:mkR 11000 []=rws an []:=rfl
attribute [local go_sem] yR
theorem zm:mkR 11009 []=rws an []:=rfl
attribute [local go_sem] zm
def dw (ListtoArray2:List ag) (t t2 t3:Int):Int→Option ((Int)⊕((Int×Bool)))
 |t4=>
  br (decide (t4>0)) (
  (atL ListtoArray2 (wrap .i64 (t4-1))).bind fun x=>
  br (x.Row==t) (
  (atL ListtoArray2 (wrap .i64 (t4-1))).bind fun x2=>
  br (decide (x2.Col>t2)) (
  some (.inl (wrap .i64 (t4-1)))) (
  some (.inr (t4,decide (x2.Col>t2))))) (
  some (.inr (t4,false)))) (
  some (.inr (t4,false)))
abbrev ra (ListtoArray2:List ag) (t t2 t3 s:Int):St:=⟨[(0,sl an ListtoArray2),(1,I t),(2,I t2),(3,I t3),(9,I s)],[]⟩
abbrev qW (ListtoArray2:List ag) (t t2 t3:Int):(Int×Bool)→aJ×St:=fun e=>(.exit 0,⟨[(0,sl an ListtoArray2),(1,I t),(2,I t2),(3,I t3),(9,I e.1),(35,B e.2)],[]⟩)
theorem wK {ListtoArray2 t t2 t3 s e} (h:Loop (dw ListtoArray2 t t2 t3) s=some e):cy tab ow (.close []) qQ (ra ListtoArray2 t t2 t3 s)=some (qW ListtoArray2 t t2 t3 e):=by
 refine lrG (fun s o h=> ?_) h
 simp only [dw] at h
 simp only [ra,qW,qQ,qJ]
 exact go2
def ae (ListtoArray:(List ag)) (a a2 a3:Int):Option ((List ag)):=
 (Loop (dw ListtoArray a a2 a3) ((ListtoArray.length:Nat):Int)).bind fun e_=>
 br (decide (e_.1>0)) (
 (atL ListtoArray (wrap .i64 (e_.1-1))).bind fun x3=>
 br (x3.Row==a) (
 (atL ListtoArray (wrap .i64 (e_.1-1))).bind fun x4=>
 br (x4.Col==a2) (
 (atL ListtoArray (wrap .i64 (e_.1-1))).bind fun x5=>
 (oa x5.Value a3).bind fun r_=>
 (ik ListtoArray 0 (wrap .i64 (e_.1-1))).bind fun y=>
 br (aK ((([]:List ag)++y).length) 24) (
 br (r_ !=0) (
 br (aK (((([]:List ag)++y)++([(ag.mk a a2 r_)]:List ag)).length) 24) (
 (ik ListtoArray e_.1 ((ListtoArray.length:Nat):Int)).bind fun y2=>
 br (aK ((((([]:List ag)++y)++([(ag.mk a a2 r_)]:List ag))++y2).length) 24) (
 some (((([]:List ag)++y)++([(ag.mk a a2 r_)]:List ag))++y2)) none) none) (
 (ik ListtoArray e_.1 ((ListtoArray.length:Nat):Int)).bind fun y3=>
 br (aK (((([]:List ag)++y)++y3).length) 24) (
 some ((([]:List ag)++y)++y3)) none)) none) (
 (ik ListtoArray 0 e_.1).bind fun y4=>
 br (aK ((([]:List ag)++y4).length) 24) (
 br (aK (((([]:List ag)++y4)++([(ag.mk a a2 a3)]:List ag)).length) 24) (
 (ik ListtoArray e_.1 ((ListtoArray.length:Nat):Int)).bind fun y5=>
 br (aK ((((([]:List ag)++y4)++([(ag.mk a a2 a3)]:List ag))++y5).length) 24) (
 some (((([]:List ag)++y4)++([(ag.mk a a2 a3)]:List ag))++y5)) none) none) none)) (
 (ik ListtoArray 0 e_.1).bind fun y6=>
 br (aK ((([]:List ag)++y6).length) 24) (
 br (aK (((([]:List ag)++y6)++([(ag.mk a a2 a3)]:List ag)).length) 24) (
 (ik ListtoArray e_.1 ((ListtoArray.length:Nat):Int)).bind fun y7=>
 br (aK ((((([]:List ag)++y6)++([(ag.mk a a2 a3)]:List ag))++y7).length) 24) (
 some (((([]:List ag)++y6)++([(ag.mk a a2 a3)]:List ag))++y7)) none) none) none)) (
 (ik ListtoArray 0 e_.1).bind fun y8=>
 br (aK ((([]:List ag)++y8).length) 24) (
 br (aK (((([]:List ag)++y8)++([(ag.mk a a2 a3)]:List ag)).length) 24) (
 (ik ListtoArray e_.1 ((ListtoArray.length:Nat):Int)).bind fun y9=>
 br (aK ((((([]:List ag)++y8)++([(ag.mk a a2 a3)]:List ag))++y9).length) 24) (
 some (((([]:List ag)++y8)++([(ag.mk a a2 a3)]:List ag))++y9)) none) none) none)
theorem BU {ListtoArray a a2 a3 r} (h:ae ListtoArray a a2 a3=some r):Call tab ow 92 [sl an ListtoArray,I a,I a2,I a3] []=some (sl an r,[]):=by
 rw [al (af:=ll) rfl]
 unfold ae at h
 simp only [ll,ov]
 have d1:= @wK
 have d2:= @wJ
 exact go2
end
section
theorem yt:mkR 3003 []=rws an []:=rfl
attribute [local go_sem] yt
theorem yn:mkR 3004 []=rws an []:=rfl
attribute [local go_sem] yn
theorem yy:mkR 3005 []=rws an []:=rfl
attribute [local go_sem] yy
def cI (t:List Int) (c:List aa) (c2 c3 c4 c5 c6 c7:Int):Int×Int×(List ag)×(List ag)×(List ag)→Option ((Int×Int×(List ag)×(List ag)×(List ag))⊕((Int×Int×Bool×(List ag)×(List ag)×(List ag))))
 | (t2,t3,c8,c9,c10)=>
   br (decide (t3<((c.length:Nat):Int))) (
   (atL c t3).bind fun x=>
   br (x.Op==1) (
   br (x.Op==1) (
   some (.inl (t2,(wrap .i64 (t3+1)),c8,c9,c10))) (
   br (x.Op==6) (
   (atL t x.A).bind fun x2=>
   (ae c8 t2 x2 1).bind fun r_3=>
   (atL t x.B).bind fun x3=>
   (ae c9 t2 x3 1).bind fun r_4=>
   (atL t t3).bind fun x4=>
   (ae c10 t2 x4 1).bind fun r_5=>
   some (.inl ((wrap .i64 (t2+1)),(wrap .i64 (t3+1)),r_3,r_4,r_5))) (
   br (x.Op==4) (
   br (x.Op==4) (
   (atL t x.A).bind fun x5=>
   (ae c8 t2 x5 1).bind fun r_6=>
   br (x.Op==5) (
   (atL t x.B).bind fun x6=>
   (ae r_6 t2 x6 2130706432).bind fun r_7=>
   (ae c9 t2 0 1).bind fun r_8=>
   (atL t t3).bind fun x7=>
   (ae c10 t2 x7 1).bind fun r_9=>
   some (.inl ((wrap .i64 (t2+1)),(wrap .i64 (t3+1)),r_7,r_8,r_9))) (
   (atL t x.B).bind fun x8=>
   (ae r_6 t2 x8 1).bind fun r_10=>
   (ae c9 t2 0 1).bind fun r_11=>
   (atL t t3).bind fun x9=>
   (ae c10 t2 x9 1).bind fun r_12=>
   some (.inl ((wrap .i64 (t2+1)),(wrap .i64 (t3+1)),r_10,r_11,r_12)))) (
   br (x.Op==3) (
   br (decide (x.K>0)) (
   (ae c8 t2 0 x.K).bind fun r_13=>
   (ae c9 t2 0 1).bind fun r_14=>
   (atL t t3).bind fun x10=>
   (ae c10 t2 x10 1).bind fun r_15=>
   some (.inl ((wrap .i64 (t2+1)),(wrap .i64 (t3+1)),r_13,r_14,r_15))) (
   (ae c9 t2 0 1).bind fun r_16=>
   (atL t t3).bind fun x11=>
   (ae c10 t2 x11 1).bind fun r_17=>
   some (.inl ((wrap .i64 (t2+1)),(wrap .i64 (t3+1)),c8,r_16,r_17)))) (
   br (x.Op==7) (
   (atL t x.B).bind fun x12=>
   (ae c8 t2 x12 1).bind fun r_18=>
   (ae c9 t2 0 1).bind fun r_19=>
   (atL t t3).bind fun x13=>
   (ae c10 t2 x13 1).bind fun r_20=>
   (atL t x.A).bind fun x14=>
   (ae r_18 (wrap .i64 (t2+1)) x14 1).bind fun r_21=>
   (ae r_19 (wrap .i64 (t2+1)) 0 1).bind fun r_22=>
   (atL t t3).bind fun x15=>
   (ae r_20 (wrap .i64 (t2+1)) x15 1).bind fun r_23=>
   some (.inl ((wrap .i64 ((wrap .i64 (t2+1))+1)),(wrap .i64 (t3+1)),r_21,r_22,r_23))) (
   br (x.Op==8) (
   (atL t x.A).bind fun x16=>
   (ae c8 t2 x16 1).bind fun r_24=>
   (atL t x.A).bind fun x17=>
   (ae c9 t2 x17 1).bind fun r_25=>
   (atL t t3).bind fun x18=>
   (ae c10 t2 x18 1).bind fun r_26=>
   (atL t x.A).bind fun x19=>
   (ae r_24 (wrap .i64 (t2+1)) x19 1).bind fun r_27=>
   (ae r_25 (wrap .i64 (t2+1)) 0 1).bind fun r_28=>
   (atL t t3).bind fun x20=>
   (ae r_26 (wrap .i64 (t2+1)) x20 1).bind fun r_29=>
   some (.inl ((wrap .i64 ((wrap .i64 (t2+1))+1)),(wrap .i64 (t3+1)),r_27,r_28,r_29))) (
   (atL t t3).bind fun x21=>
   (ae c10 t2 x21 1).bind fun r_30=>
   some (.inl ((wrap .i64 (t2+1)),(wrap .i64 (t3+1)),c8,c9,r_30))))))) (
   br (x.Op==5) (
   (atL t x.A).bind fun x22=>
   (ae c8 t2 x22 1).bind fun r_31=>
   br (x.Op==5) (
   (atL t x.B).bind fun x23=>
   (ae r_31 t2 x23 2130706432).bind fun r_32=>
   (ae c9 t2 0 1).bind fun r_33=>
   (atL t t3).bind fun x24=>
   (ae c10 t2 x24 1).bind fun r_34=>
   some (.inl ((wrap .i64 (t2+1)),(wrap .i64 (t3+1)),r_32,r_33,r_34))) (
   (atL t x.B).bind fun x25=>
   (ae r_31 t2 x25 1).bind fun r_35=>
   (ae c9 t2 0 1).bind fun r_36=>
   (atL t t3).bind fun x26=>
   (ae c10 t2 x26 1).bind fun r_37=>
   some (.inl ((wrap .i64 (t2+1)),(wrap .i64 (t3+1)),r_35,r_36,r_37)))) (
   br (x.Op==3) (
   br (decide (x.K>0)) (
   (ae c8 t2 0 x.K).bind fun r_38=>
   (ae c9 t2 0 1).bind fun r_39=>
   (atL t t3).bind fun x27=>
   (ae c10 t2 x27 1).bind fun r_40=>
   some (.inl ((wrap .i64 (t2+1)),(wrap .i64 (t3+1)),r_38,r_39,r_40))) (
   (ae c9 t2 0 1).bind fun r_41=>
   (atL t t3).bind fun x28=>
   (ae c10 t2 x28 1).bind fun r_42=>
   some (.inl ((wrap .i64 (t2+1)),(wrap .i64 (t3+1)),c8,r_41,r_42)))) (
   br (x.Op==7) (
   (atL t x.B).bind fun x29=>
   (ae c8 t2 x29 1).bind fun r_43=>
   (ae c9 t2 0 1).bind fun r_44=>
   (atL t t3).bind fun x30=>
   (ae c10 t2 x30 1).bind fun r_45=>
   (atL t x.A).bind fun x31=>
   (ae r_43 (wrap .i64 (t2+1)) x31 1).bind fun r_46=>
   (ae r_44 (wrap .i64 (t2+1)) 0 1).bind fun r_47=>
   (atL t t3).bind fun x32=>
   (ae r_45 (wrap .i64 (t2+1)) x32 1).bind fun r_48=>
   some (.inl ((wrap .i64 ((wrap .i64 (t2+1))+1)),(wrap .i64 (t3+1)),r_46,r_47,r_48))) (
   br (x.Op==8) (
   (atL t x.A).bind fun x33=>
   (ae c8 t2 x33 1).bind fun r_49=>
   (atL t x.A).bind fun x34=>
   (ae c9 t2 x34 1).bind fun r_50=>
   (atL t t3).bind fun x35=>
   (ae c10 t2 x35 1).bind fun r_51=>
   (atL t x.A).bind fun x36=>
   (ae r_49 (wrap .i64 (t2+1)) x36 1).bind fun r_52=>
   (ae r_50 (wrap .i64 (t2+1)) 0 1).bind fun r_53=>
   (atL t t3).bind fun x37=>
   (ae r_51 (wrap .i64 (t2+1)) x37 1).bind fun r_54=>
   some (.inl ((wrap .i64 ((wrap .i64 (t2+1))+1)),(wrap .i64 (t3+1)),r_52,r_53,r_54))) (
   (atL t t3).bind fun x38=>
   (ae c10 t2 x38 1).bind fun r_55=>
   some (.inl ((wrap .i64 (t2+1)),(wrap .i64 (t3+1)),c8,c9,r_55)))))))))) (
   br (x.Op==2) (
   some (.inl (t2,(wrap .i64 (t3+1)),c8,c9,c10))) (
   br (x.Op==6) (
   (atL t x.A).bind fun x39=>
   (ae c8 t2 x39 1).bind fun r_56=>
   (atL t x.B).bind fun x40=>
   (ae c9 t2 x40 1).bind fun r_57=>
   (atL t t3).bind fun x41=>
   (ae c10 t2 x41 1).bind fun r_58=>
   some (.inl ((wrap .i64 (t2+1)),(wrap .i64 (t3+1)),r_56,r_57,r_58))) (
   br (x.Op==4) (
   br (x.Op==4) (
   (atL t x.A).bind fun x42=>
   (ae c8 t2 x42 1).bind fun r_59=>
   br (x.Op==5) (
   (atL t x.B).bind fun x43=>
   (ae r_59 t2 x43 2130706432).bind fun r_60=>
   (ae c9 t2 0 1).bind fun r_61=>
   (atL t t3).bind fun x44=>
   (ae c10 t2 x44 1).bind fun r_62=>
   some (.inl ((wrap .i64 (t2+1)),(wrap .i64 (t3+1)),r_60,r_61,r_62))) (
   (atL t x.B).bind fun x45=>
   (ae r_59 t2 x45 1).bind fun r_63=>
   (ae c9 t2 0 1).bind fun r_64=>
   (atL t t3).bind fun x46=>
   (ae c10 t2 x46 1).bind fun r_65=>
   some (.inl ((wrap .i64 (t2+1)),(wrap .i64 (t3+1)),r_63,r_64,r_65)))) (
   br (x.Op==3) (
   br (decide (x.K>0)) (
   (ae c8 t2 0 x.K).bind fun r_66=>
   (ae c9 t2 0 1).bind fun r_67=>
   (atL t t3).bind fun x47=>
   (ae c10 t2 x47 1).bind fun r_68=>
   some (.inl ((wrap .i64 (t2+1)),(wrap .i64 (t3+1)),r_66,r_67,r_68))) (
   (ae c9 t2 0 1).bind fun r_69=>
   (atL t t3).bind fun x48=>
   (ae c10 t2 x48 1).bind fun r_70=>
   some (.inl ((wrap .i64 (t2+1)),(wrap .i64 (t3+1)),c8,r_69,r_70)))) (
   br (x.Op==7) (
   (atL t x.B).bind fun x49=>
   (ae c8 t2 x49 1).bind fun r_71=>
   (ae c9 t2 0 1).bind fun r_72=>
   (atL t t3).bind fun x50=>
   (ae c10 t2 x50 1).bind fun r_73=>
   (atL t x.A).bind fun x51=>
   (ae r_71 (wrap .i64 (t2+1)) x51 1).bind fun r_74=>
   (ae r_72 (wrap .i64 (t2+1)) 0 1).bind fun r_75=>
   (atL t t3).bind fun x52=>
   (ae r_73 (wrap .i64 (t2+1)) x52 1).bind fun r_76=>
   some (.inl ((wrap .i64 ((wrap .i64 (t2+1))+1)),(wrap .i64 (t3+1)),r_74,r_75,r_76))) (
   br (x.Op==8) (
   (atL t x.A).bind fun x53=>
   (ae c8 t2 x53 1).bind fun r_77=>
   (atL t x.A).bind fun x54=>
   (ae c9 t2 x54 1).bind fun r_78=>
   (atL t t3).bind fun x55=>
   (ae c10 t2 x55 1).bind fun r_79=>
   (atL t x.A).bind fun x56=>
   (ae r_77 (wrap .i64 (t2+1)) x56 1).bind fun r_80=>
   (ae r_78 (wrap .i64 (t2+1)) 0 1).bind fun r_81=>
   (atL t t3).bind fun x57=>
   (ae r_79 (wrap .i64 (t2+1)) x57 1).bind fun r_82=>
   some (.inl ((wrap .i64 ((wrap .i64 (t2+1))+1)),(wrap .i64 (t3+1)),r_80,r_81,r_82))) (
   (atL t t3).bind fun x58=>
   (ae c10 t2 x58 1).bind fun r_83=>
   some (.inl ((wrap .i64 (t2+1)),(wrap .i64 (t3+1)),c8,c9,r_83))))))) (
   br (x.Op==5) (
   (atL t x.A).bind fun x59=>
   (ae c8 t2 x59 1).bind fun r_84=>
   br (x.Op==5) (
   (atL t x.B).bind fun x60=>
   (ae r_84 t2 x60 2130706432).bind fun r_85=>
   (ae c9 t2 0 1).bind fun r_86=>
   (atL t t3).bind fun x61=>
   (ae c10 t2 x61 1).bind fun r_87=>
   some (.inl ((wrap .i64 (t2+1)),(wrap .i64 (t3+1)),r_85,r_86,r_87))) (
   (atL t x.B).bind fun x62=>
   (ae r_84 t2 x62 1).bind fun r_88=>
   (ae c9 t2 0 1).bind fun r_89=>
   (atL t t3).bind fun x63=>
   (ae c10 t2 x63 1).bind fun r_90=>
   some (.inl ((wrap .i64 (t2+1)),(wrap .i64 (t3+1)),r_88,r_89,r_90)))) (
   br (x.Op==3) (
   br (decide (x.K>0)) (
   (ae c8 t2 0 x.K).bind fun r_91=>
   (ae c9 t2 0 1).bind fun r_92=>
   (atL t t3).bind fun x64=>
   (ae c10 t2 x64 1).bind fun r_93=>
   some (.inl ((wrap .i64 (t2+1)),(wrap .i64 (t3+1)),r_91,r_92,r_93))) (
   (ae c9 t2 0 1).bind fun r_94=>
   (atL t t3).bind fun x65=>
   (ae c10 t2 x65 1).bind fun r_95=>
   some (.inl ((wrap .i64 (t2+1)),(wrap .i64 (t3+1)),c8,r_94,r_95)))) (
   br (x.Op==7) (
   (atL t x.B).bind fun x66=>
   (ae c8 t2 x66 1).bind fun r_96=>
   (ae c9 t2 0 1).bind fun r_97=>
   (atL t t3).bind fun x67=>
   (ae c10 t2 x67 1).bind fun r_98=>
   (atL t x.A).bind fun x68=>
   (ae r_96 (wrap .i64 (t2+1)) x68 1).bind fun r_99=>
   (ae r_97 (wrap .i64 (t2+1)) 0 1).bind fun r_100=>
   (atL t t3).bind fun x69=>
   (ae r_98 (wrap .i64 (t2+1)) x69 1).bind fun r_101=>
   some (.inl ((wrap .i64 ((wrap .i64 (t2+1))+1)),(wrap .i64 (t3+1)),r_99,r_100,r_101))) (
   br (x.Op==8) (
   (atL t x.A).bind fun x70=>
   (ae c8 t2 x70 1).bind fun r_102=>
   (atL t x.A).bind fun x71=>
   (ae c9 t2 x71 1).bind fun r_103=>
   (atL t t3).bind fun x72=>
   (ae c10 t2 x72 1).bind fun r_104=>
   (atL t x.A).bind fun x73=>
   (ae r_102 (wrap .i64 (t2+1)) x73 1).bind fun r_105=>
   (ae r_103 (wrap .i64 (t2+1)) 0 1).bind fun r_106=>
   (atL t t3).bind fun x74=>
   (ae r_104 (wrap .i64 (t2+1)) x74 1).bind fun r_107=>
   some (.inl ((wrap .i64 ((wrap .i64 (t2+1))+1)),(wrap .i64 (t3+1)),r_105,r_106,r_107))) (
   (atL t t3).bind fun x75=>
   (ae c10 t2 x75 1).bind fun r_108=>
   some (.inl ((wrap .i64 (t2+1)),(wrap .i64 (t3+1)),c8,c9,r_108))))))))))) (
   some (.inr (t2,t3,decide (t3<((c.length:Nat):Int)),c8,c9,c10)))
abbrev kI (c:List aa) (c2 c3 c4 c5 c6 c7:Int) (c8 c9 c10:List ag):List (Nat×Blk):=[(1000,⟨1,true,[[sl aO c]]⟩),(1001,⟨6,true,[[I c2,I c3,I c4,.lit (.slice none 0 0),.lit (.slice none 0 0),.lit (.slice none 0 0)]]⟩),(3007,⟨6,true,[[I c5,I c6,I c7,sl an c8,sl an c9,sl an c10]]⟩)]
abbrev pe (t:List Int) (c:List aa) (c2 c3 c4 c5 c6 c7:Int) (s:Int×Int×(List ag)×(List ag)×(List ag)):St:=⟨[(1,.ptr 1000 0 0 1),(2,.ptr 1001 0 0 1),(3,sl eI t),(5,.ptr 3007 0 0 1),(6,I s.1),(7,I s.2.1)],kI c c2 c3 c4 c5 c6 c7 s.2.2.1 s.2.2.2.1 s.2.2.2.2⟩
abbrev pi (t:List Int) (c:List aa) (c2 c3 c4 c5 c6 c7:Int):(Int×Int×Bool×(List ag)×(List ag)×(List ag))→aJ×St:=fun e=>(.exit 0,⟨[(1,.ptr 1000 0 0 1),(2,.ptr 1001 0 0 1),(3,sl eI t),(5,.ptr 3007 0 0 1),(6,I e.1),(7,I e.2.1),(26,B e.2.2.1)],kI c c2 c3 c4 c5 c6 c7 e.2.2.2.1 e.2.2.2.2.1 e.2.2.2.2.2⟩)
theorem vT {t c c2 c3 c4 c5 c6 c7 s e} (h:Loop (cI t c c2 c3 c4 c5 c6 c7) s=some e):cy tab ow (.close [8005,13008,14008,17008,21009,22003,25005,26003,28008,29003,30007,32008,33003,35008,36008,37007,39008,40003,41007,3003,3004,3005]) pj (pe t c c2 c3 c4 c5 c6 c7 s)=some (pi t c c2 c3 c4 c5 c6 c7 e):=by
 refine lrG (fun s o h=> ?_) h
 obtain ⟨_,_,_,_,_⟩:=s
 simp only [cI] at h
 simp only [pe,pi,kI,pj,pk]
 have d1:= @BU
 exact go2
def i6 (t4:Int) (c11:List aa) (c12 c13 c14 c16 c17:Int) (c18 c19 c20:List ag):Int→Option ((Int)⊕((Bool×Int)))
 |c15=>
  br (decide (0≤(wrap .u64 c15))) (
  br (decide ((bc .i64 1 (wrap .u64 c15))<t4)) (
  some (.inl (wrap .i64 (c15+1)))) (
  some (.inr (decide ((bc .i64 1 (wrap .u64 c15))<t4),c15)))) none
abbrev kJ (c11:List aa) (c12 c13 c14 c16 c17:Int) (c18 c19 c20:List ag) (c15:Int):List (Nat×Blk):=[(1000,⟨1,true,[[sl aO c11]]⟩),(1001,⟨6,true,[[I c12,I c13,I c14,.lit (.slice none 0 0),.lit (.slice none 0 0),.lit (.slice none 0 0)]]⟩),(3007,⟨6,true,[[I c15,I c16,I c17,sl an c18,sl an c19,sl an c20]]⟩)]
abbrev p7 (t4:Int) (c11:List aa) (c12 c13 c14 c16 c17:Int) (c18 c19 c20:List ag) (s:Int):St:=⟨[(2,.ptr 1001 0 0 1),(5,.ptr 3007 0 0 1),(6,I t4)],kJ c11 c12 c13 c14 c16 c17 c18 c19 c20 s⟩
abbrev pv (t4:Int) (c11:List aa) (c12 c13 c14 c16 c17:Int) (c18 c19 c20:List ag):(Bool×Int)→aJ×St:=fun e=>(.exit 3,⟨[(2,.ptr 1001 0 0 1),(5,.ptr 3007 0 0 1),(6,I t4),(218,B e.1)],kJ c11 c12 c13 c14 c16 c17 c18 c19 c20 e.2⟩)
theorem vR {t4 c11 c12 c13 c14 c16 c17 c18 c19 c20 s e} (h:Loop (i6 t4 c11 c12 c13 c14 c16 c17 c18 c19 c20) s=some e):cy tab ow (.close []) o6 (p7 t4 c11 c12 c13 c14 c16 c17 c18 c19 c20 s)=some (pv t4 c11 c12 c13 c14 c16 c17 c18 c19 c20 e):=by
 refine lrG (fun s o h=> ?_) h
 simp only [i6] at h
 simp only [p7,pv,kJ,o6,o4]
 exact go2
def kg (ListtoArray:Circuit):Option (aS):=
 (nK ListtoArray).bind fun r_=>
 (ck ListtoArray 2).bind fun r_2=>
 (Loop (cI r_.1 ListtoArray.Gates 0 0 0 0 r_.2 r_2) (0,0,([]:List ag),([]:List ag),([]:List ag))).bind fun e_=>
 (Loop (i6 e_.1 ListtoArray.Gates 0 0 0 r_.2 r_2 e_.2.2.2.1 e_.2.2.2.2.1 e_.2.2.2.2.2) 1).bind fun e_2=>
 some (aS.mk e_2.2 r_.2 r_2 e_.2.2.2.1 e_.2.2.2.2.1 e_.2.2.2.2.2)
theorem yN {ListtoArray r} (h:kg ListtoArray=some r):Call tab ow 41 [.agg [sl aO ListtoArray.Gates]] []=some (.agg [I r.Rows,I r.Cols,I r.Publics,sl an r.A,sl an r.B,sl an r.C],[]):=by
 rw [al (af:=jw) rfl]
 unfold kg at h
 simp only [jw,ju]
 have d1:= @DZ
 have d2:= @ff
 have d3:= @vT
 have d4:= @vR
 exact go2
end
def mc (c:Circuit):Option (aS×Int):=
 (iB c).bind fun r_=>
 br (!r_) (
 some ((aS.mk 0 0 0 ([]:List ag) ([]:List ag) ([]:List ag)),19)) (
 (kg c).bind fun r_2=>
 some (r_2,0))
theorem AJ {c r} (h:mc c=some r):Call tab ow 8 [.agg [sl aO c.Gates]] []=some (.tup [.agg [I r.1.Rows,I r.1.Cols,I r.1.Publics,sl an r.1.A,sl an r.1.B,sl an r.1.C],I r.2],[]):=by
 rw [al (af:=l8) rfl]
 unfold mc at h
 simp only [l8,tw]
 have d1:= @sg
 have d2:= @yN
 exact go2
def eU (n low high:Int):Option (Bool):=
 br (decide (low≤n)) (
 some (decide (n≤high))) (
 some false)
theorem qY {n low high r} (h:eU n low high=some r):Call tab ow 59 [I n,I low,I high] []=some (B r,[]):=by
 rw [al (af:=Ak) rfl]
 unfold eU at h
 simp only [Ak,NZ]
 exact go2
def lF (a:Int):Option (Bool):=
 (eU a 0 2130706432).bind fun r_=>
 some r_
theorem va {a r} (h:lF a=some r):Call tab ow 66 [I a] []=some (B r,[]):=by
 rw [al (af:=mW) rfl]
 unfold lF at h
 simp only [mW,vx]
 have d1:= @qY
 exact go2
def qN (g:aa) (below:Int):Option (Bool):=
 br (g.Op==3) (
 (lF g.K).bind fun r_=>
 (eU g.Op 1 8).bind fun r_2=>
 br r_2 (
 br (g.A==0) (
 br (g.B==0) (
 some r_) (
 some false)) (
 some false)) (
 some false)) (
 br (g.Op==4) (
 br (g.Op==4) (
 (eU g.A 0 (wrap .i64 (below-1))).bind fun r_3=>
 (eU g.B 0 (wrap .i64 (below-1))).bind fun r_4=>
 (eU g.Op 1 8).bind fun r_5=>
 br r_5 (
 br r_3 (
 br r_4 (
 some (g.K==0)) (
 some false)) (
 some false)) (
 some false)) (
 br (g.Op==8) (
 (eU g.A 0 (wrap .i64 (below-1))).bind fun r_6=>
 (eU g.Op 1 8).bind fun r_7=>
 br r_7 (
 br r_6 (
 br (g.B==0) (
 some (g.K==0)) (
 some false)) (
 some false)) (
 some false)) (
 (eU g.Op 1 8).bind fun r_8=>
 br r_8 (
 br (g.A==0) (
 br (g.B==0) (
 some (g.K==0)) (
 some false)) (
 some false)) (
 some false)))) (
 br (g.Op==5) (
 br (g.Op==5) (
 (eU g.A 0 (wrap .i64 (below-1))).bind fun r_9=>
 (eU g.B 0 (wrap .i64 (below-1))).bind fun r_10=>
 (eU g.Op 1 8).bind fun r_11=>
 br r_11 (
 br r_9 (
 br r_10 (
 some (g.K==0)) (
 some false)) (
 some false)) (
 some false)) (
 br (g.Op==8) (
 (eU g.A 0 (wrap .i64 (below-1))).bind fun r_12=>
 (eU g.Op 1 8).bind fun r_13=>
 br r_13 (
 br r_12 (
 br (g.B==0) (
 some (g.K==0)) (
 some false)) (
 some false)) (
 some false)) (
 (eU g.Op 1 8).bind fun r_14=>
 br r_14 (
 br (g.A==0) (
 br (g.B==0) (
 some (g.K==0)) (
 some false)) (
 some false)) (
 some false)))) (
 br (g.Op==6) (
 br (g.Op==6) (
 (eU g.A 0 (wrap .i64 (below-1))).bind fun r_15=>
 (eU g.B 0 (wrap .i64 (below-1))).bind fun r_16=>
 (eU g.Op 1 8).bind fun r_17=>
 br r_17 (
 br r_15 (
 br r_16 (
 some (g.K==0)) (
 some false)) (
 some false)) (
 some false)) (
 br (g.Op==8) (
 (eU g.A 0 (wrap .i64 (below-1))).bind fun r_18=>
 (eU g.Op 1 8).bind fun r_19=>
 br r_19 (
 br r_18 (
 br (g.B==0) (
 some (g.K==0)) (
 some false)) (
 some false)) (
 some false)) (
 (eU g.Op 1 8).bind fun r_20=>
 br r_20 (
 br (g.A==0) (
 br (g.B==0) (
 some (g.K==0)) (
 some false)) (
 some false)) (
 some false)))) (
 br (g.Op==7) (
 (eU g.A 0 (wrap .i64 (below-1))).bind fun r_21=>
 (eU g.B 0 (wrap .i64 (below-1))).bind fun r_22=>
 (eU g.Op 1 8).bind fun r_23=>
 br r_23 (
 br r_21 (
 br r_22 (
 some (g.K==0)) (
 some false)) (
 some false)) (
 some false)) (
 br (g.Op==8) (
 (eU g.A 0 (wrap .i64 (below-1))).bind fun r_24=>
 (eU g.Op 1 8).bind fun r_25=>
 br r_25 (
 br r_24 (
 br (g.B==0) (
 some (g.K==0)) (
 some false)) (
 some false)) (
 some false)) (
 (eU g.Op 1 8).bind fun r_26=>
 br r_26 (
 br (g.A==0) (
 br (g.B==0) (
 some (g.K==0)) (
 some false)) (
 some false)) (
 some false)))))))
theorem Gh {g below r} (h:qN g below=some r):Call tab ow 61 [.agg [I g.Op,I g.A,I g.B,I g.K],I below] []=some (B r,[]):=by
 rw [al (af:=oS) rfl]
 unfold qN at h
 simp only [oS,xp]
 have d1:= @va
 have d2:= @qY
 exact go2
def bY (op2:Int) (t:List aa) (t2:Int) (c2:List aa):Int×Int→Option ((Int×Int)⊕((Int×Int×Bool)))
 | (count,t3)=>
   br (decide (t3<t2)) (
   (atL t t3).bind fun x=>
   br (x.Op==op2) (
   some (.inl ((wrap .i64 (count+1)),(wrap .i64 (t3+1))))) (
   some (.inl (count,(wrap .i64 (t3+1)))))) (
   some (.inr (count,t3,decide (t3<t2))))
abbrev j5 (op2:Int) (t:List aa) (t2:Int) (c2:List aa) (s:Int×Int):St:=⟨[(1,I op2),(5,I s.1),(9,sl aO t),(10,I t2),(11,I s.2)],[(1000,⟨1,true,[[sl aO c2]]⟩)]⟩
abbrev j8 (op2:Int) (t:List aa) (t2:Int) (c2:List aa):(Int×Int×Bool)→aJ×St:=fun e=>(.exit 0,⟨[(1,I op2),(5,I e.1),(9,sl aO t),(10,I t2),(11,I e.2.1),(12,B e.2.2)],[(1000,⟨1,true,[[sl aO c2]]⟩)]⟩)
theorem pz {op2 t t2 c2 s e} (h:Loop (bY op2 t t2 c2) s=some e):cy tab ow (.close [5002]) j6 (j5 op2 t t2 c2 s)=some (j8 op2 t t2 c2 e):=by
 refine lrG (fun s o h=> ?_) h
 obtain ⟨_,_⟩:=s
 simp only [bY] at h
 simp only [j5,j8,j6,j7]
 exact go2
def bG (c:Circuit) (op:Int):Option (Int):=
 (Loop (bY op c.Gates ((c.Gates.length:Nat):Int) c.Gates) (0,0)).bind fun e_=>
 some e_.1
theorem ee {c op r} (h:bG c op=some r):Call tab ow 60 [.agg [sl aO c.Gates],I op] []=some (I r,[]):=by
 rw [al (af:=eo) rfl]
 unfold bG at h
 simp only [eo,gL]
 have d1:= @pz
 exact go2
def cj (t:List aa) (t2:Int) (c2:List aa):Int→Option ((Int)⊕((Int×Int×Int×Int)⊕(Int×Bool)))
 |t3=>
  br (decide (t3<t2)) (
  (atL t t3).bind fun x=>
  (qN x t3).bind fun r_2=>
  br (!r_2) (
  some (.inr (.inl (x.Op,x.A,x.B,x.K)))) (
  some (.inl (wrap .i64 (t3+1))))) (
  some (.inr (.inr (t3,decide (t3<t2)))))
abbrev pm (t:List aa) (t2:Int) (c2:List aa) (s:Int):St:=⟨[(1,.ptr 1000 0 0 1),(11,sl aO t),(12,I t2),(13,I s)],[(1000,⟨1,true,[[sl aO c2]]⟩)]⟩
abbrev py (t:List aa) (t2:Int) (c2:List aa):((Int×Int×Int×Int)⊕(Int×Bool))→aJ×St:=alt (fun e=>((.ret,⟨[(2,B false)],[(1000,⟨1,true,[[sl aO c2]]⟩),(6003,⟨4,true,[[I e.1,I e.2.1,I e.2.2.1,I e.2.2.2]]⟩)]⟩):aJ×St)) (fun e=>(.exit 0,⟨[(1,.ptr 1000 0 0 1),(11,sl aO t),(12,I t2),(13,I e.1),(14,B e.2)],[(1000,⟨1,true,[[sl aO c2]]⟩)]⟩))
theorem vQ {t t2 c2 s e} (h:Loop (cj t t2 c2) s=some e):cy tab ow (.close [6003,7002]) pq (pm t t2 c2 s)=some (py t t2 c2 e):=by
 refine lrG (fun s o h=> ?_) h
 simp only [cj] at h
 simp only [pm,py,pq,p6]
 have d1:= @Gh
 exact go2
def eV (c:Circuit):Option (Bool):=
 (eU ((c.Gates.length:Nat):Int) 1 15).bind fun r_=>
 br (!r_) (
 some false) (
 (Loop (cj c.Gates ((c.Gates.length:Nat):Int) c.Gates) 0).bind (alt (fun e_2=>
 some false) (fun e_3=>
 (bG c 2).bind fun r_3=>
 some (decide (r_3≤7)))))
theorem jy {c r} (h:eV c=some r):Call tab ow 22 [.agg [sl aO c.Gates]] []=some (B r,[]):=by
 rw [al (af:=jG) rfl]
 unfold eV at h
 simp only [jG,nr]
 have d1:= @qY
 have d2:= @vQ
 have d3:= @ee
 exact go2
def bO (s:aS):Option (Int):=
 br (decide (0≤(wrap .i64 (s.Cols-1)))) (
 some (bc .i64 1 (wrap .i64 (s.Cols-1)))) none
theorem fu {s r} (h:bO s=some r):Call tab ow 62 [.agg [I s.Rows,I s.Cols,I s.Publics,sl an s.A,sl an s.B,sl an s.C]] []=some (I r,[]):=by
 rw [al (af:=ia) rfl]
 unfold bO at h
 simp only [ia,pc]
 exact go2
def yC (a b:Int):Option (Int):=
 some ((wrap .i64 (a+b)).tmod 2130706433)
theorem Bv {a b r} (h:yC a b=some r):Call tab ow 72 [I a,I b] []=some (I r,[]):=by
 rw [al (af:=wi) rfl]
 unfold yC at h
 simp only [wi,GL]
 exact go2
def bg (m6 m7:List Tri) (t t2:Int) (t3:List (Int×Int)) (t4 c:Int):(List Tri)×Int→Option (((List Tri)×Int)⊕(((List Tri)×Int×Bool)))
 | (m5,t5)=>
   br (decide (t5<t4)) (
   (atL t3 t5).bind fun x=>
   (yC (cM c x.1 m5) x.2).bind fun r_=>
   some (.inl ((cV c x.1 r_ m5),(wrap .i64 (t5+1))))) (
   some (.inr (m5,t5,decide (t5<t4))))
abbrev kF (m6 m7:List Tri) (c:Int) (m5:List Tri):List (Nat×Blk):=[(0,⟨4,true,[[I c,.mp 1,.mp 2,.mp 3]]⟩),(1,⟨0,true,[aq m5]⟩),(2,⟨0,true,[aq m6]⟩),(3,⟨0,true,[aq m7]⟩)]
abbrev oZ (m6 m7:List Tri) (t t2:Int) (t3:List (Int×Int)) (t4 c:Int) (s:(List Tri)×Int):St:=⟨[(0,.ptr 0 0 0 1),(2,I t),(3,I t2),(11,sl (eA2 eI) t3),(12,I t4),(13,I s.2)],kF m6 m7 c s.1⟩
abbrev pg (m6 m7:List Tri) (t t2:Int) (t3:List (Int×Int)) (t4 c:Int):((List Tri)×Int×Bool)→aJ×St:=fun e=>(.exit 0,⟨[(0,.ptr 0 0 0 1),(2,I t),(3,I t2),(11,sl (eA2 eI) t3),(12,I t4),(13,I e.2.1),(14,B e.2.2)],kF m6 m7 c e.1⟩)
theorem w9 {m6 m7 t t2 t3 t4 c s e} (h:Loop (bg m6 m7 t t2 t3 t4 c) s=some e):cy tab ow (.close [3002,4007,5013]) pl (oZ m6 m7 t t2 t3 t4 c s)=some (pg m6 m7 t t2 t3 t4 c e):=by
 refine lrG (fun s o h=> ?_) h
 obtain ⟨_,_⟩:=s
 simp only [bg] at h
 simp only [oZ,pg,kF,pl,pp]
 have d1:= @Bv
 exact go2
def bv (a:(List (Int×Int))) (a2 a3 m:Int) (m2 m3 m4:List Tri):Option (Int×(List Tri)×(List Tri)×(List Tri)):=
 (Loop (bg m3 m4 a2 a3 a ((a.length:Nat):Int) m) (m2,0)).bind fun e_=>
 some ((wrap .i64 (m+1)),e_.1,(cV m a2 1 m3),(cV m a3 1 m4))
theorem zg {a a2 a3 m m2 m3 m4 r} (h:bv a a2 a3 m m2 m3 m4=some r):Call tab ow 134 [.ptr 0 0 0 1,sl (eA2 eI) a,I a2,I a3] [⟨4,true,[[I m,.mp 1,.mp 2,.mp 3]]⟩,⟨0,true,[aq m2]⟩,⟨0,true,[aq m3]⟩,⟨0,true,[aq m4]⟩]=some (.tup [],[⟨4,true,[[I r.1,.mp 1,.mp 2,.mp 3]]⟩,⟨0,true,[aq r.2.1]⟩,⟨0,true,[aq r.2.2.1]⟩,⟨0,true,[aq r.2.2.2]⟩]):=by
 rw [al (af:=jv) rfl]
 unfold bv at h
 simp only [jv,nl]
 have d1:= @w9
 exact go2
section
theorem tn:mkR 2006 []=rws (eA2 eI) []:=rfl
attribute [local go_sem] tn
def bo (place value:Int) (m:(List Int)):Option ((List (Int×Int))):=
 (atL m place).bind fun x=>
 some ([(x,value)]:List (Int×Int))
theorem uN {place value m r} (h:bo place value m=some r):Call tab ow 133 [I place,I value,.ptr 0 0 0 1] [⟨1,true,[[sl eI m]]⟩]=some (.sl 1 0 r.length,[⟨1,true,[[sl eI m]]⟩,⟨2,false,rws (eA2 eI) r⟩]):=by
 rw [al (af:=gw) rfl]
 unfold bo at h
 simp only [gw,o0]
 exact go2
end
section
theorem vY:mkR 5004 []=rws (eA2 eI) []:=rfl
attribute [local go_sem] vY
def iQ (a:aa) (a2:Int) (a3:(List Int)) (m:Int) (m2 m3 m4:List Tri):Option (Int×(List Tri)×(List Tri)×(List Tri)):=
 br (a.Op==3) (
 (bv ([(0,a.K)]:List (Int×Int)) 0 a2 m m2 m3 m4).bind fun r_=>
 some (r_.1,r_.2.1,r_.2.2.1,r_.2.2.2)) (
 br (a.Op==4) (
 (bo a.A 1 a3).bind fun r_2=>
 (bo a.B 1 a3).bind fun r_3=>
 br (aK ((r_2++r_3).length) 16) (
 (bv (r_2++r_3) 0 a2 m m2 m3 m4).bind fun r_4=>
 some (r_4.1,r_4.2.1,r_4.2.2.1,r_4.2.2.2)) none) (
 br (a.Op==5) (
 (bo a.A 1 a3).bind fun r_5=>
 (bo a.B 2130706432 a3).bind fun r_6=>
 br (aK ((r_5++r_6).length) 16) (
 (bv (r_5++r_6) 0 a2 m m2 m3 m4).bind fun r_7=>
 some (r_7.1,r_7.2.1,r_7.2.2.1,r_7.2.2.2)) none) (
 br (a.Op==6) (
 (bo a.A 1 a3).bind fun r_8=>
 (atL a3 a.B).bind fun x=>
 (bv r_8 x a2 m m2 m3 m4).bind fun r_9=>
 some (r_9.1,r_9.2.1,r_9.2.2.1,r_9.2.2.2)) (
 br (a.Op==7) (
 (bo a.B 1 a3).bind fun r_10=>
 (bv r_10 0 a2 m m2 m3 m4).bind fun r_11=>
 (bo a.A 1 a3).bind fun r_12=>
 (bv r_12 0 a2 r_11.1 r_11.2.1 r_11.2.2.1 r_11.2.2.2).bind fun r_13=>
 some (r_13.1,r_13.2.1,r_13.2.2.1,r_13.2.2.2)) (
 br (a.Op==8) (
 (bo a.A 1 a3).bind fun r_14=>
 (atL a3 a.A).bind fun x2=>
 (bv r_14 x2 a2 m m2 m3 m4).bind fun r_15=>
 (bo a.A 1 a3).bind fun r_16=>
 (bv r_16 0 a2 r_15.1 r_15.2.1 r_15.2.2.1 r_15.2.2.2).bind fun r_17=>
 some (r_17.1,r_17.2.1,r_17.2.2.1,r_17.2.2.2)) (
 some (m,m2,m3,m4)))))))
theorem xH {a a2 a3 m m2 m3 m4 r} (h:iQ a a2 a3 m m2 m3 m4=some r):Call tab ow 94 [.ptr 0 0 0 1,.agg [I a.Op,I a.A,I a.B,I a.K],I a2,sl eI a3] [⟨4,true,[[I m,.mp 1,.mp 2,.mp 3]]⟩,⟨0,true,[aq m2]⟩,⟨0,true,[aq m3]⟩,⟨0,true,[aq m4]⟩]=some (.tup [],[⟨4,true,[[I r.1,.mp 1,.mp 2,.mp 3]]⟩,⟨0,true,[aq r.2.1]⟩,⟨0,true,[aq r.2.2.1]⟩,⟨0,true,[aq r.2.2.2]⟩]):=by
 rw [al (af:=iM) rfl]
 unfold iQ at h
 simp only [iM,pW]
 have d1:= @zg
 have d2:= @uN
 exact go2
end
def ng (t:Tri):ag:=⟨t.1,t.2.1,t.2.2⟩
def jr (m:List Tri):Option (List ag×List Tri):=
 br (eX m&&decide (m.length<1073741824)) (
 some ((bK (m.filter nzT)).map ng,m)) none
theorem Et {m r} (h:jr m=some r):Call tab ow 95 [.mp 0] [⟨0,true,[aq m]⟩]=some (sl an r.1,[⟨0,true,[aq r.2]⟩]):=by
 unfold jr at h
 obtain ⟨hb,h⟩:=brg h
 cases h
 rw [xZ (g:=BX false) rfl]
 exact Rj an ng rfl (fun _=>rfl) hb
end
end Go.AI.Fn
set_option linter.unusedVariables false
set_option linter.unusedSimpArgs false
set_option maxRecDepth 100000
set_option maxHeartbeats 1000000
namespace Go.AI.Fn
noncomputable section
open IntKind (wrap)
section
theorem rJ:mkR 6000 []=rws eI []:=rfl
attribute [local go_sem] rJ
theorem rN:mkR 11002 []=rws eI []:=rfl
attribute [local go_sem] rN
theorem rG:mkR 12002 []=rws eI []:=rfl
attribute [local go_sem] rG
def bM (t:Int) (c:List aa) (c2 c3 c4 c5 c7:Int):Int→Option ((Int)⊕((Bool×Int)))
 |c6=>
  (bO (aS.mk c5 c6 c7 ([]:List ag) ([]:List ag) ([]:List ag))).bind fun r_2=>
  br (decide (r_2<(mx (wrap .i64 (c7+1)) t))) (
  some (.inl (wrap .i64 (c6+1)))) (
  some (.inr (decide (r_2<(mx (wrap .i64 (c7+1)) t)),c6)))
abbrev fT (c:List aa) (c2 c3 c4 c5 c7 c6:Int):List (Nat×Blk):=[(1000,⟨1,true,[[sl aO c]]⟩),(1001,⟨6,true,[[I c2,I c3,I c4,.lit (.slice none 0 0),.lit (.slice none 0 0),.lit (.slice none 0 0)]]⟩),(2003,⟨6,true,[[I c5,I c6,I c7,.lit (.slice none 0 0),.lit (.slice none 0 0),.lit (.slice none 0 0)]]⟩)]
abbrev kw (t:Int) (c:List aa) (c2 c3 c4 c5 c7 s:Int):St:=⟨[(1,.ptr 1000 0 0 1),(2,.ptr 1001 0 0 1),(3,.ptr 2003 0 0 1),(4,I t)],fT c c2 c3 c4 c5 c7 s⟩
abbrev jW (t:Int) (c:List aa) (c2 c3 c4 c5 c7:Int):(Bool×Int)→aJ×St:=fun e=>(.exit 0,⟨[(1,.ptr 1000 0 0 1),(2,.ptr 1001 0 0 1),(3,.ptr 2003 0 0 1),(4,I t),(29,B e.1)],fT c c2 c3 c4 c5 c7 e.2⟩)
theorem rd {t c c2 c3 c4 c5 c7 s e} (h:Loop (bM t c c2 c3 c4 c5 c7) s=some e):cy tab ow (.close [4001]) jO (kw t c c2 c3 c4 c5 c7 s)=some (jW t c c2 c3 c4 c5 c7 e):=by
 refine lrG (fun s o h=> ?_) h
 simp only [bM] at h
 simp only [kw,jW,fT,jO,ke]
 have d1:= @fu
 exact go2
def bL (t4:List aa) (t5:Int) (c8:List aa) (c9 c10 c11 c12 c13 c14:Int):(List Int)×Int×Int×Int→Option (((List Int)×Int×Int×Int)⊕(((List Int)×Int×Int×Int×Bool)))
 | (l,t2,t3,t6)=>
   br (decide (t6<t5)) (
   (atL t4 t6).bind fun x=>
   br (x.Op==2) (
   br (aK ((l++([t2]:List Int)).length) 8) (
   some (.inl ((l++([t2]:List Int)),(wrap .i64 (t2+1)),t3,(wrap .i64 (t6+1))))) none) (
   br (aK ((l++([t3]:List Int)).length) 8) (
   some (.inl ((l++([t3]:List Int)),t2,(wrap .i64 (t3+1)),(wrap .i64 (t6+1))))) none)) (
   some (.inr (l,t2,t3,t6,decide (t6<t5))))
abbrev fY (c8:List aa) (c9 c10 c11 c12 c13 c14:Int) (l:List Int):List (Nat×Blk):=[(1000,⟨1,true,[[sl aO c8]]⟩),(1001,⟨6,true,[[I c9,I c10,I c11,.lit (.slice none 0 0),.lit (.slice none 0 0),.lit (.slice none 0 0)]]⟩),(2003,⟨6,true,[[I c12,I c13,I c14,.lit (.slice none 0 0),.lit (.slice none 0 0),.lit (.slice none 0 0)]]⟩),(6000,⟨1,false,rws eI l⟩)]
abbrev jJ (t4:List aa) (t5:Int) (c8:List aa) (c9 c10 c11 c12 c13 c14:Int) (s:(List Int)×Int×Int×Int):St:=⟨[(1,.ptr 1000 0 0 1),(2,.ptr 1001 0 0 1),(3,.ptr 2003 0 0 1),(5,.sl 6000 0 s.1.length),(6,I s.2.1),(7,I s.2.2.1),(38,sl aO t4),(39,I t5),(40,I s.2.2.2)],fY c8 c9 c10 c11 c12 c13 c14 s.1⟩
abbrev kx (t4:List aa) (t5:Int) (c8:List aa) (c9 c10 c11 c12 c13 c14:Int):((List Int)×Int×Int×Int×Bool)→aJ×St:=fun e=>(.exit 2,⟨[(1,.ptr 1000 0 0 1),(2,.ptr 1001 0 0 1),(3,.ptr 2003 0 0 1),(5,.sl 6000 0 e.1.length),(6,I e.2.1),(7,I e.2.2.1),(38,sl aO t4),(39,I t5),(40,I e.2.2.2.1),(41,B e.2.2.2.2)],fY c8 c9 c10 c11 c12 c13 c14 e.1⟩)
theorem rb {t4 t5 c8 c9 c10 c11 c12 c13 c14 s e} (h:Loop (bL t4 t5 c8 c9 c10 c11 c12 c13 c14) s=some e):cy tab ow (.close [9002,11002,11003,12002,12003]) ky (jJ t4 t5 c8 c9 c10 c11 c12 c13 c14 s)=some (kx t4 t5 c8 c9 c10 c11 c12 c13 c14 e):=by
 refine lrG (fun s o h=> ?_) h
 obtain ⟨_,_,_,_⟩:=s
 simp only [bL] at h
 simp only [jJ,kx,fY,ky,jM]
 exact go2
def cm (l2:List Int) (t7:List aa) (t8:Int) (c15:List aa) (c16 c17 c18 c19 c20 c21:Int):(List Tri)×(List Tri)×(List Tri)×Int×Int→Option (((List Tri)×(List Tri)×(List Tri)×Int×Int)⊕(((List Tri)×(List Tri)×(List Tri)×Int×Bool×Int)))
 | (m,m2,m3,t9,c22)=>
   br (decide (t9<t8)) (
   (atL t7 t9).bind fun x2=>
   br (decide (0≤t9)) (
   br (decide (t9.toNat<l2.length)) (
   (l2[t9.toNat]?).bind fun x3=>
   (iQ x2 x3 l2 c22 m m2 m3).bind fun r_4=>
   some (.inl (r_4.2.1,r_4.2.2.1,r_4.2.2.2,(wrap .i64 (t9+1)),r_4.1))) none) none) (
   some (.inr (m,m2,m3,t9,decide (t9<t8),c22)))
abbrev ge (l2:List Int) (c15:List aa) (c16 c17 c18 c19 c20 c21:Int) (m m2 m3:List Tri) (c22:Int):List (Nat×Blk):=[(1000,⟨1,true,[[sl aO c15]]⟩),(1001,⟨6,true,[[I c16,I c17,I c18,.lit (.slice none 0 0),.lit (.slice none 0 0),.lit (.slice none 0 0)]]⟩),(2003,⟨6,true,[[I c19,I c20,I c21,.lit (.slice none 0 0),.lit (.slice none 0 0),.lit (.slice none 0 0)]]⟩),(6000,⟨1,false,rws eI l2⟩),(14000,⟨0,true,[aq m]⟩),(14001,⟨0,true,[aq m2]⟩),(14002,⟨0,true,[aq m3]⟩),(14004,⟨4,true,[[I c22,.mp 14000,.mp 14001,.mp 14002]]⟩)]
abbrev jP (l2:List Int) (t7:List aa) (t8:Int) (c15:List aa) (c16 c17 c18 c19 c20 c21:Int) (s:(List Tri)×(List Tri)×(List Tri)×Int×Int):St:=⟨[(2,.ptr 1001 0 0 1),(3,.ptr 2003 0 0 1),(5,.sl 6000 0 l2.length),(10,.ptr 14004 0 0 1),(66,sl aO t7),(67,I t8),(68,I s.2.2.2.1)],ge l2 c15 c16 c17 c18 c19 c20 c21 s.1 s.2.1 s.2.2.1 s.2.2.2.2⟩
abbrev k8 (l2:List Int) (t7:List aa) (t8:Int) (c15:List aa) (c16 c17 c18 c19 c20 c21:Int):((List Tri)×(List Tri)×(List Tri)×Int×Bool×Int)→aJ×St:=fun e=>(.exit 4,⟨[(2,.ptr 1001 0 0 1),(3,.ptr 2003 0 0 1),(5,.sl 6000 0 l2.length),(10,.ptr 14004 0 0 1),(66,sl aO t7),(67,I t8),(68,I e.2.2.2.1),(69,B e.2.2.2.2.1)],ge l2 c15 c16 c17 c18 c19 c20 c21 e.1 e.2.1 e.2.2.1 e.2.2.2.2.2⟩)
theorem qf {l2 t7 t8 c15 c16 c17 c18 c19 c20 c21 s e} (h:Loop (cm l2 t7 t8 c15 c16 c17 c18 c19 c20 c21) s=some e):cy tab ow (.close [17003,18007]) j3 (jP l2 t7 t8 c15 c16 c17 c18 c19 c20 c21 s)=some (k8 l2 t7 t8 c15 c16 c17 c18 c19 c20 c21 e):=by
 refine lrG (fun s o h=> ?_) h
 obtain ⟨_,_,_,_,_⟩:=s
 simp only [cm] at h
 simp only [jP,k8,ge,j3,je]
 have d1:= @xH
 exact go2
def dT (l3:List Int) (m4 m5 m6:List Tri) (t10:List aa) (t11 t12:Int) (t13:Bool) (c23:List aa) (c24 c25 c26 c28 c29 c30:Int):Int→Option ((Int)⊕((Bool×Int)))
 |c27=>
  br (decide (0≤c27)) (
  br (decide ((bc .i64 1 c27)<c30)) (
  some (.inl (wrap .i64 (c27+1)))) (
  some (.inr (decide ((bc .i64 1 c27)<c30),c27)))) none
abbrev g9 (l3:List Int) (m4 m5 m6:List Tri) (c23:List aa) (c24 c25 c26 c28 c29 c30 c27:Int):List (Nat×Blk):=[(1000,⟨1,true,[[sl aO c23]]⟩),(1001,⟨6,true,[[I c24,I c25,I c26,.lit (.slice none 0 0),.lit (.slice none 0 0),.lit (.slice none 0 0)]]⟩),(2003,⟨6,true,[[I c27,I c28,I c29,.lit (.slice none 0 0),.lit (.slice none 0 0),.lit (.slice none 0 0)]]⟩),(6000,⟨1,false,rws eI l3⟩),(14000,⟨0,true,[aq m4]⟩),(14001,⟨0,true,[aq m5]⟩),(14002,⟨0,true,[aq m6]⟩),(14004,⟨4,true,[[I c30,.mp 14000,.mp 14001,.mp 14002]]⟩)]
abbrev ki (l3:List Int) (m4 m5 m6:List Tri) (t10:List aa) (t11 t12:Int) (t13:Bool) (c23:List aa) (c24 c25 c26 c28 c29 c30 s:Int):St:=⟨[(2,.ptr 1001 0 0 1),(3,.ptr 2003 0 0 1),(5,.sl 6000 0 l3.length),(10,.ptr 14004 0 0 1),(66,sl aO t10),(67,I t11),(68,I t12),(69,B t13)],g9 l3 m4 m5 m6 c23 c24 c25 c26 c28 c29 c30 s⟩
abbrev ka (l3:List Int) (m4 m5 m6:List Tri) (t10:List aa) (t11 t12:Int) (t13:Bool) (c23:List aa) (c24 c25 c26 c28 c29 c30:Int):(Bool×Int)→aJ×St:=fun e=>(.exit 6,⟨[(2,.ptr 1001 0 0 1),(3,.ptr 2003 0 0 1),(5,.sl 6000 0 l3.length),(10,.ptr 14004 0 0 1),(66,sl aO t10),(67,I t11),(68,I t12),(69,B t13),(89,B e.1)],g9 l3 m4 m5 m6 c23 c24 c25 c26 c28 c29 c30 e.2⟩)
theorem qr {l3 m4 m5 m6 t10 t11 t12 t13 c23 c24 c25 c26 c28 c29 c30 s e} (h:Loop (dT l3 m4 m5 m6 t10 t11 t12 t13 c23 c24 c25 c26 c28 c29 c30) s=some e):cy tab ow (.close []) j9 (ki l3 m4 m5 m6 t10 t11 t12 t13 c23 c24 c25 c26 c28 c29 c30 s)=some (ka l3 m4 m5 m6 t10 t11 t12 t13 c23 c24 c25 c26 c28 c29 c30 e):=by
 refine lrG (fun s o h=> ?_) h
 simp only [dT] at h
 simp only [ki,ka,g9,j9,jd]
 exact go2
def eP (ListtoArray:Circuit):Option (aS):=
 (bG ListtoArray 2).bind fun r_=>
 (Loop (bM (wrap .i64 (((ListtoArray.Gates.length:Nat):Int)-r_)) ListtoArray.Gates 0 0 0 1 r_) 2).bind fun e_=>
 (bO (aS.mk 1 e_.2 r_ ([]:List ag) ([]:List ag) ([]:List ag))).bind fun r_3=>
 (Loop (bL ListtoArray.Gates ((ListtoArray.Gates.length:Nat):Int) ListtoArray.Gates 0 0 0 1 e_.2 r_) (([]:List Int),1,r_3,0)).bind fun e_2=>
 (Loop (cm e_2.1 ListtoArray.Gates ((ListtoArray.Gates.length:Nat):Int) ListtoArray.Gates 0 0 0 1 e_.2 r_) (([]:List Tri),([]:List Tri),([]:List Tri),0,0)).bind fun e_3=>
 (Loop (dT e_2.1 e_3.1 e_3.2.1 e_3.2.2.1 ListtoArray.Gates ((ListtoArray.Gates.length:Nat):Int) e_3.2.2.2.1 e_3.2.2.2.2.1 ListtoArray.Gates 0 0 0 e_.2 r_ e_3.2.2.2.2.2) 1).bind fun e_4=>
 (jr e_3.1).bind fun r_5=>
 (jr e_3.2.1).bind fun r_6=>
 (jr e_3.2.2.1).bind fun r_7=>
 some (aS.mk e_4.2 e_.2 r_ r_5.1 r_6.1 r_7.1)
theorem sB {ListtoArray r} (h:eP ListtoArray=some r):Call tab ow 43 [.agg [sl aO ListtoArray.Gates]] []=some (.agg [I r.Rows,I r.Cols,I r.Publics,sl an r.A,sl an r.B,sl an r.C],[]):=by
 rw [al (af:=fh) rfl]
 unfold eP at h
 simp only [fh,cO]
 have d1:= @ee
 have d2:= @rd
 have d3:= @fu
 have d4:= @rb
 have d5:= @qf
 have d6:= @qr
 have d7:= @Et
 exact go2
end
def mh (c:Circuit):Option (aS×Int):=
 (eV c).bind fun r_=>
 br (!r_) (
 some ((aS.mk 0 0 0 ([]:List ag) ([]:List ag) ([]:List ag)),19)) (
 (eP c).bind fun r_2=>
 some (r_2,0))
theorem C5 {c r} (h:mh c=some r):Call tab ow 10 [.agg [sl aO c.Gates]] []=some (.tup [.agg [I r.1.Rows,I r.1.Cols,I r.1.Publics,sl an r.1.A,sl an r.1.B,sl an r.1.C],I r.2],[]):=by
 rw [al (af:=lw) rfl]
 unfold mh at h
 simp only [lw,tK]
 have d1:= @jy
 have d2:= @sB
 exact go2
def k9 (code:(List UInt8)):Option (aV):=
 some (aV.mk code 0 (((code.length:Nat):Int).tmod 1000))
theorem rU {code r} (h:k9 code=some r):Call tab ow 49 [sl eU8 code] []=some (.ptr 0 0 0 1,[⟨3,true,[[sl eU8 r.code,I r.at_,I r.seed]]⟩]):=by
 rw [al (af:=jt) rfl]
 unfold k9 at h
 simp only [jt,rX]
 exact go2
def dn (m:aV):Option (Int×aV):=
 br (decide ((wrap .i64 (m.at_+1))≤((m.code.length:Nat):Int))) (
 (atL m.code (wrap .i64 ((wrap .i64 (m.at_+1))-1))).bind fun x=>
 (atL m.code (wrap .i64 ((wrap .i64 (m.at_+1))-1))).bind fun x2=>
 some ((wrap .i64 (x2.toNat:Int)),(aV.mk m.code (wrap .i64 (m.at_+1)) ((wrap .i64 ((wrap .i64 ((wrap .i64 (m.seed*31))+(wrap .i64 (x.toNat:Int))))+7)).tmod 2147483648)))) (
 br (decide ((wrap .i64 (m.at_+1))>3000)) (
 some (0,(aV.mk m.code (wrap .i64 (m.at_+1)) m.seed))) (
 some (((wrap .i64 (((wrap .i64 ((wrap .i64 (m.seed*1103515245))+12345)).tmod 2147483648).tdiv 65536)).tmod 256),(aV.mk m.code (wrap .i64 (m.at_+1)) ((wrap .i64 ((wrap .i64 (m.seed*1103515245))+12345)).tmod 2147483648)))))
theorem vI {m r} (h:dn m=some r):Call tab ow 136 [.ptr 0 0 0 1] [⟨3,true,[[sl eU8 m.code,I m.at_,I m.seed]]⟩]=some (I r.1,[⟨3,true,[[sl eU8 r.2.code,I r.2.at_,I r.2.seed]]⟩]):=by
 rw [al (af:=hZ) rfl]
 unfold dn at h
 simp only [hZ,oV]
 exact go2
def ab (n:Int) (m:aV):Option (Int×aV):=
 br (decide (n≤1)) (
 some (0,m)) (
 br (decide (n≤256)) (
 (dn m).bind fun r_=>
 br (decide (n≠0)) (
 some ((r_.1.tmod n),r_.2)) none) (
 (dn m).bind fun r_2=>
 (dn r_2.2).bind fun r_3=>
 (dn r_3.2).bind fun r_4=>
 br (decide (n≠0)) (
 some (((wrap .i64 ((wrap .i64 ((wrap .i64 (r_2.1*65536))+(wrap .i64 (r_3.1*256))))+r_4.1)).tmod n),r_4.2)) none))
theorem db {n m r} (h:ab n m=some r):Call tab ow 98 [.ptr 0 0 0 1,I n] [⟨3,true,[[sl eU8 m.code,I m.at_,I m.seed]]⟩]=some (I r.1,[⟨3,true,[[sl eU8 r.2.code,I r.2.at_,I r.2.seed]]⟩]):=by
 rw [al (af:=ib) rfl]
 unfold ab at h
 simp only [ib,p9]
 have d1:= @vI
 exact go2
def aZ (n:Int) (m:aV):Option (Bool×aV):=
 (ab n m).bind fun r_=>
 some ((r_.1==(wrap .i64 (n-1))),r_.2)
theorem iH {n m r} (h:aZ n m=some r):Call tab ow 99 [.ptr 0 0 0 1,I n] [⟨3,true,[[sl eU8 m.code,I m.at_,I m.seed]]⟩]=some (B r.1,[⟨3,true,[[sl eU8 r.2.code,I r.2.at_,I r.2.seed]]⟩]):=by
 rw [al (af:=fM) rfl]
 unfold aZ at h
 simp only [fM,mD]
 have d1:= @db
 exact go2
def cN:Int×Int×(List UInt8)×Int×Int→Option ((Int×Int×(List UInt8)×Int×Int)⊕((Int×Int×Bool×(List UInt8)×Int×Int)))
 | (n,i,c,c2,c3)=>
   br (decide (i<5)) (
   (ab 256 (aV.mk c c2 c3)).bind fun r_4=>
   some (.inl (((wrap .i64 ((wrap .i64 (n*256))+r_4.1)).tmod 2130706433),(wrap .i64 (i+1)),r_4.2.code,r_4.2.at_,r_4.2.seed))) (
   some (.inr (n,i,decide (i<5),c,c2,c3)))
abbrev mi (s:Int×Int×(List UInt8)×Int×Int):St:=⟨[(0,.ptr 0 0 0 1),(3,I s.1),(4,I s.2.1)],[(0,⟨3,true,[[sl eU8 s.2.2.1,I s.2.2.2.1,I s.2.2.2.2]]⟩)]⟩
abbrev lS:(Int×Int×Bool×(List UInt8)×Int×Int)→aJ×St:=fun e=>(.exit 1,⟨[(0,.ptr 0 0 0 1),(3,I e.1),(4,I e.2.1),(17,B e.2.2.1)],[(0,⟨3,true,[[sl eU8 e.2.2.2.1,I e.2.2.2.2.1,I e.2.2.2.2.2]]⟩)]⟩)
theorem sJ { s e} (h:Loop (cN) s=some e):cy tab ow (.close [11003]) mf (mi s)=some (lS e):=by
 refine lrG (fun s o h=> ?_) h
 obtain ⟨_,_,_,_,_⟩:=s
 simp only [cN] at h
 simp only [mi,lS,mf,lO]
 have d1:= @db
 exact go2
def am (m:aV):Option (Int×aV):=
 (ab 5 m).bind fun r_=>
 br (r_.1==0) (
 (ab 4 r_.2).bind fun r_2=>
 some (r_2.1,r_2.2)) (
 br (r_.1==1) (
 (ab 3 r_.2).bind fun r_3=>
 some ((wrap .i64 (2130706432-r_3.1)),r_3.2)) (
 (Loop (cN) (0,0,r_.2.code,r_.2.at_,r_.2.seed)).bind fun e_=>
 some (e_.1,(aV.mk e_.2.2.2.1 e_.2.2.2.2.1 e_.2.2.2.2.2))))
theorem jq {m r} (h:am m=some r):Call tab ow 101 [.ptr 0 0 0 1] [⟨3,true,[[sl eU8 m.code,I m.at_,I m.seed]]⟩]=some (I r.1,[⟨3,true,[[sl eU8 r.2.code,I r.2.at_,I r.2.seed]]⟩]):=by
 rw [al (af:=gq) rfl]
 unfold am at h
 simp only [gq,jp]
 have d1:= @db
 have d2:= @sJ
 exact go2
section
theorem rE:mkR 2000 []=rws aO []:=rfl
attribute [local go_sem] rE
theorem rP:mkR 22003 []=rws aO []:=rfl
attribute [local go_sem] rP
theorem rI:mkR 21002 []=rws eI []:=rfl
attribute [local go_sem] rI
def cW (t:Int):(List aa)×Int×(List UInt8)×Int×Int→Option (((List aa)×Int×(List UInt8)×Int×Int)⊕(((List aa)×Int×Bool×(List UInt8)×Int×Int)))
 | (l,t2,c,c2,c3)=>
   br (decide (t2<t)) (
   (ab 8 (aV.mk c c2 c3)).bind fun r_2=>
   br (t2==0) (
   (ab 3 r_2.2).bind fun r_3=>
   br ((wrap .i64 (1+r_3.1))==2) (
   (ck (Circuit.mk l) 2).bind fun r_4=>
   br (r_4==3) (
   (cG 1).bind fun r_5=>
   br (r_5==2) (
   (ab t2 r_3.2).bind fun r_6=>
   (ab t2 r_6.2).bind fun r_7=>
   br (aK ((l++([(aa.mk 1 r_6.1 r_7.1 0)]:List aa)).length) 32) (
   some (.inl ((l++([(aa.mk 1 r_6.1 r_7.1 0)]:List aa)),(wrap .i64 (t2+1)),r_7.2.code,r_7.2.at_,r_7.2.seed))) none) (
   br (r_5==1) (
   (ab t2 r_3.2).bind fun r_8=>
   br (aK ((l++([(aa.mk 1 r_8.1 0 0)]:List aa)).length) 32) (
   some (.inl ((l++([(aa.mk 1 r_8.1 0 0)]:List aa)),(wrap .i64 (t2+1)),r_8.2.code,r_8.2.at_,r_8.2.seed))) none) (
   br (aK ((l++([(aa.mk 1 0 0 0)]:List aa)).length) 32) (
   some (.inl ((l++([(aa.mk 1 0 0 0)]:List aa)),(wrap .i64 (t2+1)),r_3.2.code,r_3.2.at_,r_3.2.seed))) none))) (
   (cG (wrap .i64 (1+r_3.1))).bind fun r_9=>
   br (r_9==2) (
   (ab t2 r_3.2).bind fun r_10=>
   (ab t2 r_10.2).bind fun r_11=>
   br ((wrap .i64 (1+r_3.1))==7) (
   (aZ 5 r_11.2).bind fun r_12=>
   br (!r_12.1) (
   br ((wrap .i64 (1+r_3.1))==3) (
   (am r_12.2).bind fun r_13=>
   (ab 3 r_13.2).bind fun r_14=>
   br (decide (0≤r_14.1)) (
   br (decide (r_14.1.toNat<([0,1,r_13.1]:List Int).length)) (
   (([0,1,r_13.1]:List Int)[r_14.1.toNat]?).bind fun x=>
   br (aK ((l++([(aa.mk (wrap .i64 (1+r_3.1)) r_10.1 r_10.1 x)]:List aa)).length) 32) (
   some (.inl ((l++([(aa.mk (wrap .i64 (1+r_3.1)) r_10.1 r_10.1 x)]:List aa)),(wrap .i64 (t2+1)),r_14.2.code,r_14.2.at_,r_14.2.seed))) none) none) none) (
   br (aK ((l++([(aa.mk (wrap .i64 (1+r_3.1)) r_10.1 r_10.1 0)]:List aa)).length) 32) (
   some (.inl ((l++([(aa.mk (wrap .i64 (1+r_3.1)) r_10.1 r_10.1 0)]:List aa)),(wrap .i64 (t2+1)),r_12.2.code,r_12.2.at_,r_12.2.seed))) none)) (
   br ((wrap .i64 (1+r_3.1))==3) (
   (am r_12.2).bind fun r_15=>
   (ab 3 r_15.2).bind fun r_16=>
   br (decide (0≤r_16.1)) (
   br (decide (r_16.1.toNat<([0,1,r_15.1]:List Int).length)) (
   (([0,1,r_15.1]:List Int)[r_16.1.toNat]?).bind fun x2=>
   br (aK ((l++([(aa.mk (wrap .i64 (1+r_3.1)) r_10.1 r_11.1 x2)]:List aa)).length) 32) (
   some (.inl ((l++([(aa.mk (wrap .i64 (1+r_3.1)) r_10.1 r_11.1 x2)]:List aa)),(wrap .i64 (t2+1)),r_16.2.code,r_16.2.at_,r_16.2.seed))) none) none) none) (
   br (aK ((l++([(aa.mk (wrap .i64 (1+r_3.1)) r_10.1 r_11.1 0)]:List aa)).length) 32) (
   some (.inl ((l++([(aa.mk (wrap .i64 (1+r_3.1)) r_10.1 r_11.1 0)]:List aa)),(wrap .i64 (t2+1)),r_12.2.code,r_12.2.at_,r_12.2.seed))) none))) (
   br ((wrap .i64 (1+r_3.1))==3) (
   (am r_11.2).bind fun r_17=>
   (ab 3 r_17.2).bind fun r_18=>
   br (decide (0≤r_18.1)) (
   br (decide (r_18.1.toNat<([0,1,r_17.1]:List Int).length)) (
   (([0,1,r_17.1]:List Int)[r_18.1.toNat]?).bind fun x3=>
   br (aK ((l++([(aa.mk (wrap .i64 (1+r_3.1)) r_10.1 r_11.1 x3)]:List aa)).length) 32) (
   some (.inl ((l++([(aa.mk (wrap .i64 (1+r_3.1)) r_10.1 r_11.1 x3)]:List aa)),(wrap .i64 (t2+1)),r_18.2.code,r_18.2.at_,r_18.2.seed))) none) none) none) (
   br (aK ((l++([(aa.mk (wrap .i64 (1+r_3.1)) r_10.1 r_11.1 0)]:List aa)).length) 32) (
   some (.inl ((l++([(aa.mk (wrap .i64 (1+r_3.1)) r_10.1 r_11.1 0)]:List aa)),(wrap .i64 (t2+1)),r_11.2.code,r_11.2.at_,r_11.2.seed))) none))) (
   br (r_9==1) (
   (ab t2 r_3.2).bind fun r_19=>
   br ((wrap .i64 (1+r_3.1))==3) (
   (am r_19.2).bind fun r_20=>
   (ab 3 r_20.2).bind fun r_21=>
   br (decide (0≤r_21.1)) (
   br (decide (r_21.1.toNat<([0,1,r_20.1]:List Int).length)) (
   (([0,1,r_20.1]:List Int)[r_21.1.toNat]?).bind fun x4=>
   br (aK ((l++([(aa.mk (wrap .i64 (1+r_3.1)) r_19.1 0 x4)]:List aa)).length) 32) (
   some (.inl ((l++([(aa.mk (wrap .i64 (1+r_3.1)) r_19.1 0 x4)]:List aa)),(wrap .i64 (t2+1)),r_21.2.code,r_21.2.at_,r_21.2.seed))) none) none) none) (
   br (aK ((l++([(aa.mk (wrap .i64 (1+r_3.1)) r_19.1 0 0)]:List aa)).length) 32) (
   some (.inl ((l++([(aa.mk (wrap .i64 (1+r_3.1)) r_19.1 0 0)]:List aa)),(wrap .i64 (t2+1)),r_19.2.code,r_19.2.at_,r_19.2.seed))) none)) (
   br ((wrap .i64 (1+r_3.1))==3) (
   (am r_3.2).bind fun r_22=>
   (ab 3 r_22.2).bind fun r_23=>
   br (decide (0≤r_23.1)) (
   br (decide (r_23.1.toNat<([0,1,r_22.1]:List Int).length)) (
   (([0,1,r_22.1]:List Int)[r_23.1.toNat]?).bind fun x5=>
   br (aK ((l++([(aa.mk (wrap .i64 (1+r_3.1)) 0 0 x5)]:List aa)).length) 32) (
   some (.inl ((l++([(aa.mk (wrap .i64 (1+r_3.1)) 0 0 x5)]:List aa)),(wrap .i64 (t2+1)),r_23.2.code,r_23.2.at_,r_23.2.seed))) none) none) none) (
   br (aK ((l++([(aa.mk (wrap .i64 (1+r_3.1)) 0 0 0)]:List aa)).length) 32) (
   some (.inl ((l++([(aa.mk (wrap .i64 (1+r_3.1)) 0 0 0)]:List aa)),(wrap .i64 (t2+1)),r_3.2.code,r_3.2.at_,r_3.2.seed))) none))))) (
   (cG (wrap .i64 (1+r_3.1))).bind fun r_24=>
   br (r_24==2) (
   (ab t2 r_3.2).bind fun r_25=>
   (ab t2 r_25.2).bind fun r_26=>
   br ((wrap .i64 (1+r_3.1))==7) (
   (aZ 5 r_26.2).bind fun r_27=>
   br (!r_27.1) (
   br ((wrap .i64 (1+r_3.1))==3) (
   (am r_27.2).bind fun r_28=>
   (ab 3 r_28.2).bind fun r_29=>
   br (decide (0≤r_29.1)) (
   br (decide (r_29.1.toNat<([0,1,r_28.1]:List Int).length)) (
   (([0,1,r_28.1]:List Int)[r_29.1.toNat]?).bind fun x6=>
   br (aK ((l++([(aa.mk (wrap .i64 (1+r_3.1)) r_25.1 r_25.1 x6)]:List aa)).length) 32) (
   some (.inl ((l++([(aa.mk (wrap .i64 (1+r_3.1)) r_25.1 r_25.1 x6)]:List aa)),(wrap .i64 (t2+1)),r_29.2.code,r_29.2.at_,r_29.2.seed))) none) none) none) (
   br (aK ((l++([(aa.mk (wrap .i64 (1+r_3.1)) r_25.1 r_25.1 0)]:List aa)).length) 32) (
   some (.inl ((l++([(aa.mk (wrap .i64 (1+r_3.1)) r_25.1 r_25.1 0)]:List aa)),(wrap .i64 (t2+1)),r_27.2.code,r_27.2.at_,r_27.2.seed))) none)) (
   br ((wrap .i64 (1+r_3.1))==3) (
   (am r_27.2).bind fun r_30=>
   (ab 3 r_30.2).bind fun r_31=>
   br (decide (0≤r_31.1)) (
   br (decide (r_31.1.toNat<([0,1,r_30.1]:List Int).length)) (
   (([0,1,r_30.1]:List Int)[r_31.1.toNat]?).bind fun x7=>
   br (aK ((l++([(aa.mk (wrap .i64 (1+r_3.1)) r_25.1 r_26.1 x7)]:List aa)).length) 32) (
   some (.inl ((l++([(aa.mk (wrap .i64 (1+r_3.1)) r_25.1 r_26.1 x7)]:List aa)),(wrap .i64 (t2+1)),r_31.2.code,r_31.2.at_,r_31.2.seed))) none) none) none) (
   br (aK ((l++([(aa.mk (wrap .i64 (1+r_3.1)) r_25.1 r_26.1 0)]:List aa)).length) 32) (
   some (.inl ((l++([(aa.mk (wrap .i64 (1+r_3.1)) r_25.1 r_26.1 0)]:List aa)),(wrap .i64 (t2+1)),r_27.2.code,r_27.2.at_,r_27.2.seed))) none))) (
   br ((wrap .i64 (1+r_3.1))==3) (
   (am r_26.2).bind fun r_32=>
   (ab 3 r_32.2).bind fun r_33=>
   br (decide (0≤r_33.1)) (
   br (decide (r_33.1.toNat<([0,1,r_32.1]:List Int).length)) (
   (([0,1,r_32.1]:List Int)[r_33.1.toNat]?).bind fun x8=>
   br (aK ((l++([(aa.mk (wrap .i64 (1+r_3.1)) r_25.1 r_26.1 x8)]:List aa)).length) 32) (
   some (.inl ((l++([(aa.mk (wrap .i64 (1+r_3.1)) r_25.1 r_26.1 x8)]:List aa)),(wrap .i64 (t2+1)),r_33.2.code,r_33.2.at_,r_33.2.seed))) none) none) none) (
   br (aK ((l++([(aa.mk (wrap .i64 (1+r_3.1)) r_25.1 r_26.1 0)]:List aa)).length) 32) (
   some (.inl ((l++([(aa.mk (wrap .i64 (1+r_3.1)) r_25.1 r_26.1 0)]:List aa)),(wrap .i64 (t2+1)),r_26.2.code,r_26.2.at_,r_26.2.seed))) none))) (
   br (r_24==1) (
   (ab t2 r_3.2).bind fun r_34=>
   br ((wrap .i64 (1+r_3.1))==3) (
   (am r_34.2).bind fun r_35=>
   (ab 3 r_35.2).bind fun r_36=>
   br (decide (0≤r_36.1)) (
   br (decide (r_36.1.toNat<([0,1,r_35.1]:List Int).length)) (
   (([0,1,r_35.1]:List Int)[r_36.1.toNat]?).bind fun x9=>
   br (aK ((l++([(aa.mk (wrap .i64 (1+r_3.1)) r_34.1 0 x9)]:List aa)).length) 32) (
   some (.inl ((l++([(aa.mk (wrap .i64 (1+r_3.1)) r_34.1 0 x9)]:List aa)),(wrap .i64 (t2+1)),r_36.2.code,r_36.2.at_,r_36.2.seed))) none) none) none) (
   br (aK ((l++([(aa.mk (wrap .i64 (1+r_3.1)) r_34.1 0 0)]:List aa)).length) 32) (
   some (.inl ((l++([(aa.mk (wrap .i64 (1+r_3.1)) r_34.1 0 0)]:List aa)),(wrap .i64 (t2+1)),r_34.2.code,r_34.2.at_,r_34.2.seed))) none)) (
   br ((wrap .i64 (1+r_3.1))==3) (
   (am r_3.2).bind fun r_37=>
   (ab 3 r_37.2).bind fun r_38=>
   br (decide (0≤r_38.1)) (
   br (decide (r_38.1.toNat<([0,1,r_37.1]:List Int).length)) (
   (([0,1,r_37.1]:List Int)[r_38.1.toNat]?).bind fun x10=>
   br (aK ((l++([(aa.mk (wrap .i64 (1+r_3.1)) 0 0 x10)]:List aa)).length) 32) (
   some (.inl ((l++([(aa.mk (wrap .i64 (1+r_3.1)) 0 0 x10)]:List aa)),(wrap .i64 (t2+1)),r_38.2.code,r_38.2.at_,r_38.2.seed))) none) none) none) (
   br (aK ((l++([(aa.mk (wrap .i64 (1+r_3.1)) 0 0 0)]:List aa)).length) 32) (
   some (.inl ((l++([(aa.mk (wrap .i64 (1+r_3.1)) 0 0 0)]:List aa)),(wrap .i64 (t2+1)),r_3.2.code,r_3.2.at_,r_3.2.seed))) none))))) (
   (aZ 3 r_2.2).bind fun r_39=>
   br r_39.1 (
   (ab 3 r_39.2).bind fun r_40=>
   br ((wrap .i64 (1+r_40.1))==2) (
   (ck (Circuit.mk l) 2).bind fun r_41=>
   br (r_41==3) (
   (cG 1).bind fun r_42=>
   br (r_42==2) (
   (ab t2 r_40.2).bind fun r_43=>
   (ab t2 r_43.2).bind fun r_44=>
   br (aK ((l++([(aa.mk 1 r_43.1 r_44.1 0)]:List aa)).length) 32) (
   some (.inl ((l++([(aa.mk 1 r_43.1 r_44.1 0)]:List aa)),(wrap .i64 (t2+1)),r_44.2.code,r_44.2.at_,r_44.2.seed))) none) (
   br (r_42==1) (
   (ab t2 r_40.2).bind fun r_45=>
   br (aK ((l++([(aa.mk 1 r_45.1 0 0)]:List aa)).length) 32) (
   some (.inl ((l++([(aa.mk 1 r_45.1 0 0)]:List aa)),(wrap .i64 (t2+1)),r_45.2.code,r_45.2.at_,r_45.2.seed))) none) (
   br (aK ((l++([(aa.mk 1 0 0 0)]:List aa)).length) 32) (
   some (.inl ((l++([(aa.mk 1 0 0 0)]:List aa)),(wrap .i64 (t2+1)),r_40.2.code,r_40.2.at_,r_40.2.seed))) none))) (
   (cG (wrap .i64 (1+r_40.1))).bind fun r_46=>
   br (r_46==2) (
   (ab t2 r_40.2).bind fun r_47=>
   (ab t2 r_47.2).bind fun r_48=>
   br ((wrap .i64 (1+r_40.1))==7) (
   (aZ 5 r_48.2).bind fun r_49=>
   br (!r_49.1) (
   br ((wrap .i64 (1+r_40.1))==3) (
   (am r_49.2).bind fun r_50=>
   (ab 3 r_50.2).bind fun r_51=>
   br (decide (0≤r_51.1)) (
   br (decide (r_51.1.toNat<([0,1,r_50.1]:List Int).length)) (
   (([0,1,r_50.1]:List Int)[r_51.1.toNat]?).bind fun x11=>
   br (aK ((l++([(aa.mk (wrap .i64 (1+r_40.1)) r_47.1 r_47.1 x11)]:List aa)).length) 32) (
   some (.inl ((l++([(aa.mk (wrap .i64 (1+r_40.1)) r_47.1 r_47.1 x11)]:List aa)),(wrap .i64 (t2+1)),r_51.2.code,r_51.2.at_,r_51.2.seed))) none) none) none) (
   br (aK ((l++([(aa.mk (wrap .i64 (1+r_40.1)) r_47.1 r_47.1 0)]:List aa)).length) 32) (
   some (.inl ((l++([(aa.mk (wrap .i64 (1+r_40.1)) r_47.1 r_47.1 0)]:List aa)),(wrap .i64 (t2+1)),r_49.2.code,r_49.2.at_,r_49.2.seed))) none)) (
   br ((wrap .i64 (1+r_40.1))==3) (
   (am r_49.2).bind fun r_52=>
   (ab 3 r_52.2).bind fun r_53=>
   br (decide (0≤r_53.1)) (
   br (decide (r_53.1.toNat<([0,1,r_52.1]:List Int).length)) (
   (([0,1,r_52.1]:List Int)[r_53.1.toNat]?).bind fun x12=>
   br (aK ((l++([(aa.mk (wrap .i64 (1+r_40.1)) r_47.1 r_48.1 x12)]:List aa)).length) 32) (
   some (.inl ((l++([(aa.mk (wrap .i64 (1+r_40.1)) r_47.1 r_48.1 x12)]:List aa)),(wrap .i64 (t2+1)),r_53.2.code,r_53.2.at_,r_53.2.seed))) none) none) none) (
   br (aK ((l++([(aa.mk (wrap .i64 (1+r_40.1)) r_47.1 r_48.1 0)]:List aa)).length) 32) (
   some (.inl ((l++([(aa.mk (wrap .i64 (1+r_40.1)) r_47.1 r_48.1 0)]:List aa)),(wrap .i64 (t2+1)),r_49.2.code,r_49.2.at_,r_49.2.seed))) none))) (
   br ((wrap .i64 (1+r_40.1))==3) (
   (am r_48.2).bind fun r_54=>
   (ab 3 r_54.2).bind fun r_55=>
   br (decide (0≤r_55.1)) (
   br (decide (r_55.1.toNat<([0,1,r_54.1]:List Int).length)) (
   (([0,1,r_54.1]:List Int)[r_55.1.toNat]?).bind fun x13=>
   br (aK ((l++([(aa.mk (wrap .i64 (1+r_40.1)) r_47.1 r_48.1 x13)]:List aa)).length) 32) (
   some (.inl ((l++([(aa.mk (wrap .i64 (1+r_40.1)) r_47.1 r_48.1 x13)]:List aa)),(wrap .i64 (t2+1)),r_55.2.code,r_55.2.at_,r_55.2.seed))) none) none) none) (
   br (aK ((l++([(aa.mk (wrap .i64 (1+r_40.1)) r_47.1 r_48.1 0)]:List aa)).length) 32) (
   some (.inl ((l++([(aa.mk (wrap .i64 (1+r_40.1)) r_47.1 r_48.1 0)]:List aa)),(wrap .i64 (t2+1)),r_48.2.code,r_48.2.at_,r_48.2.seed))) none))) (
   br (r_46==1) (
   (ab t2 r_40.2).bind fun r_56=>
   br ((wrap .i64 (1+r_40.1))==3) (
   (am r_56.2).bind fun r_57=>
   (ab 3 r_57.2).bind fun r_58=>
   br (decide (0≤r_58.1)) (
   br (decide (r_58.1.toNat<([0,1,r_57.1]:List Int).length)) (
   (([0,1,r_57.1]:List Int)[r_58.1.toNat]?).bind fun x14=>
   br (aK ((l++([(aa.mk (wrap .i64 (1+r_40.1)) r_56.1 0 x14)]:List aa)).length) 32) (
   some (.inl ((l++([(aa.mk (wrap .i64 (1+r_40.1)) r_56.1 0 x14)]:List aa)),(wrap .i64 (t2+1)),r_58.2.code,r_58.2.at_,r_58.2.seed))) none) none) none) (
   br (aK ((l++([(aa.mk (wrap .i64 (1+r_40.1)) r_56.1 0 0)]:List aa)).length) 32) (
   some (.inl ((l++([(aa.mk (wrap .i64 (1+r_40.1)) r_56.1 0 0)]:List aa)),(wrap .i64 (t2+1)),r_56.2.code,r_56.2.at_,r_56.2.seed))) none)) (
   br ((wrap .i64 (1+r_40.1))==3) (
   (am r_40.2).bind fun r_59=>
   (ab 3 r_59.2).bind fun r_60=>
   br (decide (0≤r_60.1)) (
   br (decide (r_60.1.toNat<([0,1,r_59.1]:List Int).length)) (
   (([0,1,r_59.1]:List Int)[r_60.1.toNat]?).bind fun x15=>
   br (aK ((l++([(aa.mk (wrap .i64 (1+r_40.1)) 0 0 x15)]:List aa)).length) 32) (
   some (.inl ((l++([(aa.mk (wrap .i64 (1+r_40.1)) 0 0 x15)]:List aa)),(wrap .i64 (t2+1)),r_60.2.code,r_60.2.at_,r_60.2.seed))) none) none) none) (
   br (aK ((l++([(aa.mk (wrap .i64 (1+r_40.1)) 0 0 0)]:List aa)).length) 32) (
   some (.inl ((l++([(aa.mk (wrap .i64 (1+r_40.1)) 0 0 0)]:List aa)),(wrap .i64 (t2+1)),r_40.2.code,r_40.2.at_,r_40.2.seed))) none))))) (
   (cG (wrap .i64 (1+r_40.1))).bind fun r_61=>
   br (r_61==2) (
   (ab t2 r_40.2).bind fun r_62=>
   (ab t2 r_62.2).bind fun r_63=>
   br ((wrap .i64 (1+r_40.1))==7) (
   (aZ 5 r_63.2).bind fun r_64=>
   br (!r_64.1) (
   br ((wrap .i64 (1+r_40.1))==3) (
   (am r_64.2).bind fun r_65=>
   (ab 3 r_65.2).bind fun r_66=>
   br (decide (0≤r_66.1)) (
   br (decide (r_66.1.toNat<([0,1,r_65.1]:List Int).length)) (
   (([0,1,r_65.1]:List Int)[r_66.1.toNat]?).bind fun x16=>
   br (aK ((l++([(aa.mk (wrap .i64 (1+r_40.1)) r_62.1 r_62.1 x16)]:List aa)).length) 32) (
   some (.inl ((l++([(aa.mk (wrap .i64 (1+r_40.1)) r_62.1 r_62.1 x16)]:List aa)),(wrap .i64 (t2+1)),r_66.2.code,r_66.2.at_,r_66.2.seed))) none) none) none) (
   br (aK ((l++([(aa.mk (wrap .i64 (1+r_40.1)) r_62.1 r_62.1 0)]:List aa)).length) 32) (
   some (.inl ((l++([(aa.mk (wrap .i64 (1+r_40.1)) r_62.1 r_62.1 0)]:List aa)),(wrap .i64 (t2+1)),r_64.2.code,r_64.2.at_,r_64.2.seed))) none)) (
   br ((wrap .i64 (1+r_40.1))==3) (
   (am r_64.2).bind fun r_67=>
   (ab 3 r_67.2).bind fun r_68=>
   br (decide (0≤r_68.1)) (
   br (decide (r_68.1.toNat<([0,1,r_67.1]:List Int).length)) (
   (([0,1,r_67.1]:List Int)[r_68.1.toNat]?).bind fun x17=>
   br (aK ((l++([(aa.mk (wrap .i64 (1+r_40.1)) r_62.1 r_63.1 x17)]:List aa)).length) 32) (
   some (.inl ((l++([(aa.mk (wrap .i64 (1+r_40.1)) r_62.1 r_63.1 x17)]:List aa)),(wrap .i64 (t2+1)),r_68.2.code,r_68.2.at_,r_68.2.seed))) none) none) none) (
   br (aK ((l++([(aa.mk (wrap .i64 (1+r_40.1)) r_62.1 r_63.1 0)]:List aa)).length) 32) (
   some (.inl ((l++([(aa.mk (wrap .i64 (1+r_40.1)) r_62.1 r_63.1 0)]:List aa)),(wrap .i64 (t2+1)),r_64.2.code,r_64.2.at_,r_64.2.seed))) none))) (
   br ((wrap .i64 (1+r_40.1))==3) (
   (am r_63.2).bind fun r_69=>
   (ab 3 r_69.2).bind fun r_70=>
   br (decide (0≤r_70.1)) (
   br (decide (r_70.1.toNat<([0,1,r_69.1]:List Int).length)) (
   (([0,1,r_69.1]:List Int)[r_70.1.toNat]?).bind fun x18=>
   br (aK ((l++([(aa.mk (wrap .i64 (1+r_40.1)) r_62.1 r_63.1 x18)]:List aa)).length) 32) (
   some (.inl ((l++([(aa.mk (wrap .i64 (1+r_40.1)) r_62.1 r_63.1 x18)]:List aa)),(wrap .i64 (t2+1)),r_70.2.code,r_70.2.at_,r_70.2.seed))) none) none) none) (
   br (aK ((l++([(aa.mk (wrap .i64 (1+r_40.1)) r_62.1 r_63.1 0)]:List aa)).length) 32) (
   some (.inl ((l++([(aa.mk (wrap .i64 (1+r_40.1)) r_62.1 r_63.1 0)]:List aa)),(wrap .i64 (t2+1)),r_63.2.code,r_63.2.at_,r_63.2.seed))) none))) (
   br (r_61==1) (
   (ab t2 r_40.2).bind fun r_71=>
   br ((wrap .i64 (1+r_40.1))==3) (
   (am r_71.2).bind fun r_72=>
   (ab 3 r_72.2).bind fun r_73=>
   br (decide (0≤r_73.1)) (
   br (decide (r_73.1.toNat<([0,1,r_72.1]:List Int).length)) (
   (([0,1,r_72.1]:List Int)[r_73.1.toNat]?).bind fun x19=>
   br (aK ((l++([(aa.mk (wrap .i64 (1+r_40.1)) r_71.1 0 x19)]:List aa)).length) 32) (
   some (.inl ((l++([(aa.mk (wrap .i64 (1+r_40.1)) r_71.1 0 x19)]:List aa)),(wrap .i64 (t2+1)),r_73.2.code,r_73.2.at_,r_73.2.seed))) none) none) none) (
   br (aK ((l++([(aa.mk (wrap .i64 (1+r_40.1)) r_71.1 0 0)]:List aa)).length) 32) (
   some (.inl ((l++([(aa.mk (wrap .i64 (1+r_40.1)) r_71.1 0 0)]:List aa)),(wrap .i64 (t2+1)),r_71.2.code,r_71.2.at_,r_71.2.seed))) none)) (
   br ((wrap .i64 (1+r_40.1))==3) (
   (am r_40.2).bind fun r_74=>
   (ab 3 r_74.2).bind fun r_75=>
   br (decide (0≤r_75.1)) (
   br (decide (r_75.1.toNat<([0,1,r_74.1]:List Int).length)) (
   (([0,1,r_74.1]:List Int)[r_75.1.toNat]?).bind fun x20=>
   br (aK ((l++([(aa.mk (wrap .i64 (1+r_40.1)) 0 0 x20)]:List aa)).length) 32) (
   some (.inl ((l++([(aa.mk (wrap .i64 (1+r_40.1)) 0 0 x20)]:List aa)),(wrap .i64 (t2+1)),r_75.2.code,r_75.2.at_,r_75.2.seed))) none) none) none) (
   br (aK ((l++([(aa.mk (wrap .i64 (1+r_40.1)) 0 0 0)]:List aa)).length) 32) (
   some (.inl ((l++([(aa.mk (wrap .i64 (1+r_40.1)) 0 0 0)]:List aa)),(wrap .i64 (t2+1)),r_40.2.code,r_40.2.at_,r_40.2.seed))) none))))) (
   br ((wrap .i64 (1+r_2.1))==2) (
   (ck (Circuit.mk l) 2).bind fun r_76=>
   br (r_76==3) (
   (cG 1).bind fun r_77=>
   br (r_77==2) (
   (ab t2 r_39.2).bind fun r_78=>
   (ab t2 r_78.2).bind fun r_79=>
   br (aK ((l++([(aa.mk 1 r_78.1 r_79.1 0)]:List aa)).length) 32) (
   some (.inl ((l++([(aa.mk 1 r_78.1 r_79.1 0)]:List aa)),(wrap .i64 (t2+1)),r_79.2.code,r_79.2.at_,r_79.2.seed))) none) (
   br (r_77==1) (
   (ab t2 r_39.2).bind fun r_80=>
   br (aK ((l++([(aa.mk 1 r_80.1 0 0)]:List aa)).length) 32) (
   some (.inl ((l++([(aa.mk 1 r_80.1 0 0)]:List aa)),(wrap .i64 (t2+1)),r_80.2.code,r_80.2.at_,r_80.2.seed))) none) (
   br (aK ((l++([(aa.mk 1 0 0 0)]:List aa)).length) 32) (
   some (.inl ((l++([(aa.mk 1 0 0 0)]:List aa)),(wrap .i64 (t2+1)),r_39.2.code,r_39.2.at_,r_39.2.seed))) none))) (
   (cG (wrap .i64 (1+r_2.1))).bind fun r_81=>
   br (r_81==2) (
   (ab t2 r_39.2).bind fun r_82=>
   (ab t2 r_82.2).bind fun r_83=>
   br ((wrap .i64 (1+r_2.1))==7) (
   (aZ 5 r_83.2).bind fun r_84=>
   br (!r_84.1) (
   br ((wrap .i64 (1+r_2.1))==3) (
   (am r_84.2).bind fun r_85=>
   (ab 3 r_85.2).bind fun r_86=>
   br (decide (0≤r_86.1)) (
   br (decide (r_86.1.toNat<([0,1,r_85.1]:List Int).length)) (
   (([0,1,r_85.1]:List Int)[r_86.1.toNat]?).bind fun x21=>
   br (aK ((l++([(aa.mk (wrap .i64 (1+r_2.1)) r_82.1 r_82.1 x21)]:List aa)).length) 32) (
   some (.inl ((l++([(aa.mk (wrap .i64 (1+r_2.1)) r_82.1 r_82.1 x21)]:List aa)),(wrap .i64 (t2+1)),r_86.2.code,r_86.2.at_,r_86.2.seed))) none) none) none) (
   br (aK ((l++([(aa.mk (wrap .i64 (1+r_2.1)) r_82.1 r_82.1 0)]:List aa)).length) 32) (
   some (.inl ((l++([(aa.mk (wrap .i64 (1+r_2.1)) r_82.1 r_82.1 0)]:List aa)),(wrap .i64 (t2+1)),r_84.2.code,r_84.2.at_,r_84.2.seed))) none)) (
   br ((wrap .i64 (1+r_2.1))==3) (
   (am r_84.2).bind fun r_87=>
   (ab 3 r_87.2).bind fun r_88=>
   br (decide (0≤r_88.1)) (
   br (decide (r_88.1.toNat<([0,1,r_87.1]:List Int).length)) (
   (([0,1,r_87.1]:List Int)[r_88.1.toNat]?).bind fun x22=>
   br (aK ((l++([(aa.mk (wrap .i64 (1+r_2.1)) r_82.1 r_83.1 x22)]:List aa)).length) 32) (
   some (.inl ((l++([(aa.mk (wrap .i64 (1+r_2.1)) r_82.1 r_83.1 x22)]:List aa)),(wrap .i64 (t2+1)),r_88.2.code,r_88.2.at_,r_88.2.seed))) none) none) none) (
   br (aK ((l++([(aa.mk (wrap .i64 (1+r_2.1)) r_82.1 r_83.1 0)]:List aa)).length) 32) (
   some (.inl ((l++([(aa.mk (wrap .i64 (1+r_2.1)) r_82.1 r_83.1 0)]:List aa)),(wrap .i64 (t2+1)),r_84.2.code,r_84.2.at_,r_84.2.seed))) none))) (
   br ((wrap .i64 (1+r_2.1))==3) (
   (am r_83.2).bind fun r_89=>
   (ab 3 r_89.2).bind fun r_90=>
   br (decide (0≤r_90.1)) (
   br (decide (r_90.1.toNat<([0,1,r_89.1]:List Int).length)) (
   (([0,1,r_89.1]:List Int)[r_90.1.toNat]?).bind fun x23=>
   br (aK ((l++([(aa.mk (wrap .i64 (1+r_2.1)) r_82.1 r_83.1 x23)]:List aa)).length) 32) (
   some (.inl ((l++([(aa.mk (wrap .i64 (1+r_2.1)) r_82.1 r_83.1 x23)]:List aa)),(wrap .i64 (t2+1)),r_90.2.code,r_90.2.at_,r_90.2.seed))) none) none) none) (
   br (aK ((l++([(aa.mk (wrap .i64 (1+r_2.1)) r_82.1 r_83.1 0)]:List aa)).length) 32) (
   some (.inl ((l++([(aa.mk (wrap .i64 (1+r_2.1)) r_82.1 r_83.1 0)]:List aa)),(wrap .i64 (t2+1)),r_83.2.code,r_83.2.at_,r_83.2.seed))) none))) (
   br (r_81==1) (
   (ab t2 r_39.2).bind fun r_91=>
   br ((wrap .i64 (1+r_2.1))==3) (
   (am r_91.2).bind fun r_92=>
   (ab 3 r_92.2).bind fun r_93=>
   br (decide (0≤r_93.1)) (
   br (decide (r_93.1.toNat<([0,1,r_92.1]:List Int).length)) (
   (([0,1,r_92.1]:List Int)[r_93.1.toNat]?).bind fun x24=>
   br (aK ((l++([(aa.mk (wrap .i64 (1+r_2.1)) r_91.1 0 x24)]:List aa)).length) 32) (
   some (.inl ((l++([(aa.mk (wrap .i64 (1+r_2.1)) r_91.1 0 x24)]:List aa)),(wrap .i64 (t2+1)),r_93.2.code,r_93.2.at_,r_93.2.seed))) none) none) none) (
   br (aK ((l++([(aa.mk (wrap .i64 (1+r_2.1)) r_91.1 0 0)]:List aa)).length) 32) (
   some (.inl ((l++([(aa.mk (wrap .i64 (1+r_2.1)) r_91.1 0 0)]:List aa)),(wrap .i64 (t2+1)),r_91.2.code,r_91.2.at_,r_91.2.seed))) none)) (
   br ((wrap .i64 (1+r_2.1))==3) (
   (am r_39.2).bind fun r_94=>
   (ab 3 r_94.2).bind fun r_95=>
   br (decide (0≤r_95.1)) (
   br (decide (r_95.1.toNat<([0,1,r_94.1]:List Int).length)) (
   (([0,1,r_94.1]:List Int)[r_95.1.toNat]?).bind fun x25=>
   br (aK ((l++([(aa.mk (wrap .i64 (1+r_2.1)) 0 0 x25)]:List aa)).length) 32) (
   some (.inl ((l++([(aa.mk (wrap .i64 (1+r_2.1)) 0 0 x25)]:List aa)),(wrap .i64 (t2+1)),r_95.2.code,r_95.2.at_,r_95.2.seed))) none) none) none) (
   br (aK ((l++([(aa.mk (wrap .i64 (1+r_2.1)) 0 0 0)]:List aa)).length) 32) (
   some (.inl ((l++([(aa.mk (wrap .i64 (1+r_2.1)) 0 0 0)]:List aa)),(wrap .i64 (t2+1)),r_39.2.code,r_39.2.at_,r_39.2.seed))) none))))) (
   (cG (wrap .i64 (1+r_2.1))).bind fun r_96=>
   br (r_96==2) (
   (ab t2 r_39.2).bind fun r_97=>
   (ab t2 r_97.2).bind fun r_98=>
   br ((wrap .i64 (1+r_2.1))==7) (
   (aZ 5 r_98.2).bind fun r_99=>
   br (!r_99.1) (
   br ((wrap .i64 (1+r_2.1))==3) (
   (am r_99.2).bind fun r_100=>
   (ab 3 r_100.2).bind fun r_101=>
   br (decide (0≤r_101.1)) (
   br (decide (r_101.1.toNat<([0,1,r_100.1]:List Int).length)) (
   (([0,1,r_100.1]:List Int)[r_101.1.toNat]?).bind fun x26=>
   br (aK ((l++([(aa.mk (wrap .i64 (1+r_2.1)) r_97.1 r_97.1 x26)]:List aa)).length) 32) (
   some (.inl ((l++([(aa.mk (wrap .i64 (1+r_2.1)) r_97.1 r_97.1 x26)]:List aa)),(wrap .i64 (t2+1)),r_101.2.code,r_101.2.at_,r_101.2.seed))) none) none) none) (
   br (aK ((l++([(aa.mk (wrap .i64 (1+r_2.1)) r_97.1 r_97.1 0)]:List aa)).length) 32) (
   some (.inl ((l++([(aa.mk (wrap .i64 (1+r_2.1)) r_97.1 r_97.1 0)]:List aa)),(wrap .i64 (t2+1)),r_99.2.code,r_99.2.at_,r_99.2.seed))) none)) (
   br ((wrap .i64 (1+r_2.1))==3) (
   (am r_99.2).bind fun r_102=>
   (ab 3 r_102.2).bind fun r_103=>
   br (decide (0≤r_103.1)) (
   br (decide (r_103.1.toNat<([0,1,r_102.1]:List Int).length)) (
   (([0,1,r_102.1]:List Int)[r_103.1.toNat]?).bind fun x27=>
   br (aK ((l++([(aa.mk (wrap .i64 (1+r_2.1)) r_97.1 r_98.1 x27)]:List aa)).length) 32) (
   some (.inl ((l++([(aa.mk (wrap .i64 (1+r_2.1)) r_97.1 r_98.1 x27)]:List aa)),(wrap .i64 (t2+1)),r_103.2.code,r_103.2.at_,r_103.2.seed))) none) none) none) (
   br (aK ((l++([(aa.mk (wrap .i64 (1+r_2.1)) r_97.1 r_98.1 0)]:List aa)).length) 32) (
   some (.inl ((l++([(aa.mk (wrap .i64 (1+r_2.1)) r_97.1 r_98.1 0)]:List aa)),(wrap .i64 (t2+1)),r_99.2.code,r_99.2.at_,r_99.2.seed))) none))) (
   br ((wrap .i64 (1+r_2.1))==3) (
   (am r_98.2).bind fun r_104=>
   (ab 3 r_104.2).bind fun r_105=>
   br (decide (0≤r_105.1)) (
   br (decide (r_105.1.toNat<([0,1,r_104.1]:List Int).length)) (
   (([0,1,r_104.1]:List Int)[r_105.1.toNat]?).bind fun x28=>
   br (aK ((l++([(aa.mk (wrap .i64 (1+r_2.1)) r_97.1 r_98.1 x28)]:List aa)).length) 32) (
   some (.inl ((l++([(aa.mk (wrap .i64 (1+r_2.1)) r_97.1 r_98.1 x28)]:List aa)),(wrap .i64 (t2+1)),r_105.2.code,r_105.2.at_,r_105.2.seed))) none) none) none) (
   br (aK ((l++([(aa.mk (wrap .i64 (1+r_2.1)) r_97.1 r_98.1 0)]:List aa)).length) 32) (
   some (.inl ((l++([(aa.mk (wrap .i64 (1+r_2.1)) r_97.1 r_98.1 0)]:List aa)),(wrap .i64 (t2+1)),r_98.2.code,r_98.2.at_,r_98.2.seed))) none))) (
   br (r_96==1) (
   (ab t2 r_39.2).bind fun r_106=>
   br ((wrap .i64 (1+r_2.1))==3) (
   (am r_106.2).bind fun r_107=>
   (ab 3 r_107.2).bind fun r_108=>
   br (decide (0≤r_108.1)) (
   br (decide (r_108.1.toNat<([0,1,r_107.1]:List Int).length)) (
   (([0,1,r_107.1]:List Int)[r_108.1.toNat]?).bind fun x29=>
   br (aK ((l++([(aa.mk (wrap .i64 (1+r_2.1)) r_106.1 0 x29)]:List aa)).length) 32) (
   some (.inl ((l++([(aa.mk (wrap .i64 (1+r_2.1)) r_106.1 0 x29)]:List aa)),(wrap .i64 (t2+1)),r_108.2.code,r_108.2.at_,r_108.2.seed))) none) none) none) (
   br (aK ((l++([(aa.mk (wrap .i64 (1+r_2.1)) r_106.1 0 0)]:List aa)).length) 32) (
   some (.inl ((l++([(aa.mk (wrap .i64 (1+r_2.1)) r_106.1 0 0)]:List aa)),(wrap .i64 (t2+1)),r_106.2.code,r_106.2.at_,r_106.2.seed))) none)) (
   br ((wrap .i64 (1+r_2.1))==3) (
   (am r_39.2).bind fun r_109=>
   (ab 3 r_109.2).bind fun r_110=>
   br (decide (0≤r_110.1)) (
   br (decide (r_110.1.toNat<([0,1,r_109.1]:List Int).length)) (
   (([0,1,r_109.1]:List Int)[r_110.1.toNat]?).bind fun x30=>
   br (aK ((l++([(aa.mk (wrap .i64 (1+r_2.1)) 0 0 x30)]:List aa)).length) 32) (
   some (.inl ((l++([(aa.mk (wrap .i64 (1+r_2.1)) 0 0 x30)]:List aa)),(wrap .i64 (t2+1)),r_110.2.code,r_110.2.at_,r_110.2.seed))) none) none) none) (
   br (aK ((l++([(aa.mk (wrap .i64 (1+r_2.1)) 0 0 0)]:List aa)).length) 32) (
   some (.inl ((l++([(aa.mk (wrap .i64 (1+r_2.1)) 0 0 0)]:List aa)),(wrap .i64 (t2+1)),r_39.2.code,r_39.2.at_,r_39.2.seed))) none))))))) (
   some (.inr (l,t2,decide (t2<t),c,c2,c3)))
abbrev gi (l:List aa) (c:List UInt8) (c2 c3:Int):List (Nat×Blk):=[(0,⟨3,true,[[sl eU8 c,I c2,I c3]]⟩),(1000,⟨1,true,[[.lit (.slice none 0 0)]]⟩),(2000,⟨4,false,rws aO l⟩),(2002,⟨1,true,[[.sl 2000 0 l.length]]⟩)]
abbrev jS (t:Int) (s:(List aa)×Int×(List UInt8)×Int×Int):St:=⟨[(0,.ptr 0 0 0 1),(2,.ptr 1000 0 0 1),(3,.ptr 2002 0 0 1),(4,I t),(5,I s.2.1)],gi s.1 s.2.2.1 s.2.2.2.1 s.2.2.2.2⟩
abbrev jR (t:Int):((List aa)×Int×Bool×(List UInt8)×Int×Int)→aJ×St:=fun e=>(.exit 0,⟨[(0,.ptr 0 0 0 1),(2,.ptr 1000 0 0 1),(3,.ptr 2002 0 0 1),(4,I t),(5,I e.2.1),(14,B e.2.2.1)],gi e.1 e.2.2.2.1 e.2.2.2.2.1 e.2.2.2.2.2⟩)
theorem qq {t s e} (h:Loop (cW t) s=some e):cy tab ow (.close [7001,7004,8004,9001,10005,12002,14002,15002,16005,19002,21001,21002,21004,22003,22004]) kh (jS t s)=some (jR t e):=by
 refine lrG (fun s o h=> ?_) h
 obtain ⟨_,_,_,_,_⟩:=s
 simp only [cW] at h
 simp only [jS,jR,gi,kh,kn]
 have d1:= @db
 have d2:= @ff
 have d3:= @vc
 have d4:= @iH
 have d5:= @jq
 exact go2
def eu (m:aV):Option (Circuit×aV):=
 (ab 9 m).bind fun r_=>
 (Loop (cW (wrap .i64 (1+r_.1))) (([]:List aa),0,r_.2.code,r_.2.at_,r_.2.seed)).bind fun e_=>
 some ((Circuit.mk e_.1),(aV.mk e_.2.2.2.1 e_.2.2.2.2.1 e_.2.2.2.2.2))
theorem sO {m r} (h:eu m=some r):Call tab ow 50 [.ptr 0 0 0 1] [⟨3,true,[[sl eU8 m.code,I m.at_,I m.seed]]⟩]=some (.agg [sl aO r.1.Gates],[⟨3,true,[[sl eU8 r.2.code,I r.2.at_,I r.2.seed]]⟩]):=by
 rw [al (af:=fb) rfl]
 unfold eu at h
 simp only [fb,io]
 have d1:= @db
 have d2:= @qq
 exact go2
end
end
end Go.AI.Fn
