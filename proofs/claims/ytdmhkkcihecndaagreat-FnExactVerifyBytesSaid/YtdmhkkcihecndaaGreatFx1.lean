/- Walks through the program, with open values. -/
import Derived.Test.YtdmhkkcihecndaaGreatFx0
set_option linter.unusedVariables false
set_option linter.unusedSimpArgs false
set_option maxRecDepth 100000
set_option maxHeartbeats 1000000
namespace Go.AI.Fn
noncomputable section
open IntKind (wrap)
def lj (t:List UInt8) (t2:Int):Int×Int→Option ((Int×Int)⊕((Int×Int×Bool)))
 | (n,t3)=>
   br (decide (t3<t2)) (
   (atL t t3).bind fun x=>
   some (.inl ((wR .i64 (aD .i64 n 8) (wrap .i64 (x.toNat:Int))),(wrap .i64 (t3+1))))) (
   some (.inr (n,t3,decide (t3<t2))))
abbrev Jy (t:List UInt8) (t2:Int) (s:Int×Int):St:=⟨[(3,I s.1),(6,sl eU8 t),(7,I t2),(8,I s.2)],[]⟩
abbrev HN (t:List UInt8) (t2:Int):(Int×Int×Bool)→ag×St:=fun e=>(.exit 0,⟨[(3,I e.1),(6,sl eU8 t),(7,I t2),(8,I e.2.1),(9,B e.2.2)],[]⟩)
theorem WL {t t2 s e} (h:Loop (lj t t2) s=some e):aq tab ow (.close []) Jv (Jy t t2 s)=some (HN t t2 e):=by
 refine lrG (fun s o h=> ?_) h
 obtain ⟨_,_⟩:=s
 simp only [lj] at h
 simp only [Jy,HN,Jv,HC]
 exact go2
def nX (b:(List UInt8)):Option (Int):=
 (Loop (lj b ((b.length:Nat):Int)) (0,0)).bind fun e_=>
 some e_.1
theorem GC {b r} (h:nX b=some r):Call tab ow 295 [sl eU8 b] []=some (I r,[]):=by
 rw [ab (af:=zg) rfl]
 unfold nX at h
 simp only [zg,GN]
 have d1:= @WL
 exact go2
section
theorem JK:mkR 2003 []=rws eU8 []:=rfl
attribute [local go_sem] JK
theorem Ks:mkR 2007 []=rws (eL eU8) []:=rfl
attribute [local go_sem] Ks
def lX (s:Source) (bits nonce:Int):Option (Bool):=
 br (bE s.State.length 1) (
 (De nonce).bind fun r_=>
 (ou ([s.State,([(103:UInt8),(114:UInt8),(105:UInt8),(110:UInt8),(100:UInt8)]:List UInt8),r_]:List (List UInt8))).bind fun r_2=>
 br (bE r_2.length 1) (
 (jO r_2 0 4).bind fun y=>
 (nX y).bind fun r_3=>
 br (decide (0≤(wrap .i64 (32-bits)))) (
 some ((aM .i64 r_3 (wrap .i64 (32-bits)))==0)) none) none) none
theorem MD {s bits nonce r} (h:lX s bits nonce=some r):Call tab ow 190 [.agg [sl eExt s.Script,I s.At,S s.State,I s.Count],I bits,I nonce] []=some (B r,[]):=by
 rw [ab (af:=mR) rfl]
 unfold lX at h
 simp only [mR,AD]
 have d1:= @IB
 have d2:= @uF
 have d3:= @GC
 exact go2
end
section
theorem HE:mkR 2000 []=rws eExt []:=rfl
attribute [local go_sem] HE
theorem Jn:mkR 5003 []=rws eExt []:=rfl
attribute [local go_sem] Jn
def dv (t:Int):(List Ext)×Int×(List Ext)×Int×(List UInt8)×Int→Option (((List Ext)×Int×(List Ext)×Int×(List UInt8)×Int)⊕(((List Ext)×Int×Bool×(List Ext)×Int×(List UInt8)×Int)))
 | (l,t2,c,c2,c3,c4)=>
   br (decide (t2<t)) (
   (fU (Source.mk c c2 c3 c4)).bind fun r_=>
   br (bE ((l++([r_.1]:List Ext)).length) 16) (
   some (.inl ((l++([r_.1]:List Ext)),(wrap .i64 (t2+1)),r_.2.Script,r_.2.At,r_.2.State,r_.2.Count))) none) (
   some (.inr (l,t2,decide (t2<t),c,c2,c3,c4)))
abbrev na (l c:List Ext) (c2:Int) (c3:List UInt8) (c4:Int):List (Nat×Blk):=[(0,⟨4,true,[[sl eExt c,I c2,S c3,I c4]]⟩),(2000,⟨2,false,rws eExt l⟩)]
abbrev uI (t:Int) (s:(List Ext)×Int×(List Ext)×Int×(List UInt8)×Int):St:=⟨[(0,.ptr 0 0 0 1),(5,.sl 2000 0 s.1.length),(7,I t),(8,I s.2.1)],na s.1 s.2.2.1 s.2.2.2.1 s.2.2.2.2.1 s.2.2.2.2.2⟩
abbrev uQ (t:Int):((List Ext)×Int×Bool×(List Ext)×Int×(List UInt8)×Int)→ag×St:=fun e=>(.exit 0,⟨[(0,.ptr 0 0 0 1),(5,.sl 2000 0 e.1.length),(7,I t),(8,I e.2.1),(9,B e.2.2.1)],na e.1 e.2.2.2.1 e.2.2.2.2.1 e.2.2.2.2.2.1 e.2.2.2.2.2.2⟩)
theorem Hk {t s e} (h:Loop (dv t) s=some e):aq tab ow (.close [5002,5003,5004]) uC (uI t s)=some (uQ t e):=by
 refine lrG (fun s o h=> ?_) h
 obtain ⟨_,_,_,_,_,_⟩:=s
 simp only [dv] at h
 simp only [uI,uQ,na,uC,uh]
 have d1:= @rU
 exact go2
def gw (n:Int) (m:Source):Option ((List Ext)×Source):=
 (Loop (dv n) (([]:List Ext),0,m.Script,m.At,m.State,m.Count)).bind fun e_=>
 some (e_.1,(Source.mk e_.2.2.2.1 e_.2.2.2.2.1 e_.2.2.2.2.2.1 e_.2.2.2.2.2.2))
theorem yk {n m r} (h:gw n m=some r):Call tab ow 171 [.ptr 0 0 0 1,I n] [⟨4,true,[[sl eExt m.Script,I m.At,S m.State,I m.Count]]⟩]=some (sl eExt r.1,[⟨4,true,[[sl eExt r.2.Script,I r.2.At,S r.2.State,I r.2.Count]]⟩]):=by
 rw [ab (af:=lc) rfl]
 unfold gw at h
 simp only [lc,p8]
 have d1:= @Hk
 exact go2
end
section
theorem Y7:mkR 2000 []=rws eI []:=rfl
attribute [local go_sem] Y7
theorem Ya:mkR 6005 []=rws eI []:=rfl
attribute [local go_sem] Ya
def jk (most2:Int) (t:List Ext) (t2:Int):(List Int)×Int→Option (((List Int)×Int)⊕(((List Int)×Int×Bool)))
 | (l,t3)=>
   br (decide (t3<t2)) (
   (atL t t3).bind fun x=>
   br (decide (most2≠0)) (
   br (bE ((l++([(x.A.tmod most2)]:List Int)).length) 8) (
   some (.inl ((l++([(x.A.tmod most2)]:List Int)),(wrap .i64 (t3+1))))) none) none) (
   some (.inr (l,t3,decide (t3<t2))))
abbrev HT (most2:Int) (t:List Ext) (t2:Int) (s:(List Int)×Int):St:=⟨[(1,I most2),(5,.sl 2000 0 s.1.length),(9,sl eExt t),(10,I t2),(11,I s.2)],[(2000,⟨1,false,rws eI s.1⟩)]⟩
abbrev Js (most2:Int) (t:List Ext) (t2:Int):((List Int)×Int×Bool)→ag×St:=fun e=>(.exit 0,⟨[(1,I most2),(5,.sl 2000 0 e.1.length),(9,sl eExt t),(10,I t2),(11,I e.2.1),(12,B e.2.2)],[(2000,⟨1,false,rws eI e.1⟩)]⟩)
theorem Ui {most2 t t2 s e} (h:Loop (jk most2 t t2) s=some e):aq tab ow (.close [5002,6005,6006]) IQ (HT most2 t t2 s)=some (Js most2 t t2 e):=by
 refine lrG (fun s o h=> ?_) h
 obtain ⟨_,_⟩:=s
 simp only [jk] at h
 simp only [HT,Js,IQ,Ih]
 exact go2
def BG (list:(List Ext)) (most:Int):Option ((List Int)):=
 (Loop (jk most list ((list.length:Nat):Int)) (([]:List Int),0)).bind fun e_=>
 some e_.1
theorem a25 {list most r} (h:BG list most=some r):Call tab ow 170 [sl eExt list,I most] []=some (sl eI r,[]):=by
 rw [ab (af:=zR) rfl]
 unfold BG at h
 simp only [zR,Gz]
 have d1:= @Ui
 exact go2
end
def kK (t:Setting):Option (Bool):=
 (ff t.Rate 1 3).bind fun r_=>
 br r_ (
 (ff t.Queries 1 8).bind fun r_2=>
 br r_2 (
 (ff t.Grind 0 12).bind fun r_3=>
 some r_3) (
 some false)) (
 some false)
theorem wO {t r} (h:kK t=some r):Call tab ow 79 [.agg [I t.Rate,I t.Queries,I t.Grind]] []=some (B r,[]):=by
 rw [ab (af:=pZ) rfl]
 unfold kK at h
 simp only [pZ,F7]
 have d1:= @tF
 exact go2
def ug (s:Source):Option (Bool):=
 br (decide (((s.Script.length:Nat):Int)≤64)) (
 (gU s.Script).bind fun r_=>
 br r_ (
 (ff s.At 0 1000000).bind fun r_2=>
 br r_2 (
 br (((s.State.length:Nat):Int)==32) (
 (ff s.Count 0 1000000).bind fun r_3=>
 some r_3) (
 some false)) (
 some false)) (
 some false)) (
 some false)
theorem VL {s r} (h:ug s=some r):Call tab ow 80 [.agg [sl eExt s.Script,I s.At,S s.State,I s.Count]] []=some (B r,[]):=by
 rw [ab (af:=sR) rfl]
 unfold ug at h
 simp only [sR,IG]
 have d1:= @kC
 have d2:= @tF
 exact go2
def zf (s:Source) (n:Int):Option (Bool):=
 br (decide (s.At>(wrap .i64 (1000000-n)))) (
 some true) (
 some (decide (s.Count>(wrap .i64 (1000000-n)))))
theorem Xi {s n r} (h:zf s n=some r):Call tab ow 81 [.agg [sl eExt s.Script,I s.At,S s.State,I s.Count],I n] []=some (B r,[]):=by
 rw [ab (af:=tr) rfl]
 unfold zf at h
 simp only [tr,IV]
 exact go2
def xj:Option (Ext):=
 (oz 1).bind fun r_=>
 some r_
theorem GE {r} (h:xj=some r):Call tab ow 285 [] []=some (.agg [I r.A,I r.B],[]):=by
 rw [ab (af:=yI) rfl]
 unfold xj at h
 simp only [yI,OB]
 have d1:= @tG
 exact go2
def kO (a:Ext):Option (Ext):=
 (xj).bind fun r_=>
 (rz r_ a).bind fun r_2=>
 some r_2
theorem Db {a r} (h:kO a=some r):Call tab ow 218 [.agg [I a.A,I a.B]] []=some (.agg [I r.A,I r.B],[]):=by
 rw [ab (af:=wa) rfl]
 unfold kO at h
 simp only [wa,L4]
 have d1:= @GE
 have d2:= @yY
 exact go2
section
theorem a0r:mkR 2001 []=rws eExt []:=rfl
attribute [local go_sem] a0r
theorem a2M: ∀k,Bh 6003 k [I (0:Int),I (0:Int)]=rws eExt (List.replicate k (Ext.mk (0:Int) (0:Int))):=fun _=>Ng eExt (Ext.mk (0:Int) (0:Int)) _ _
attribute [local go_sem] a2M
def nW (point3 out2:List Ext) (i2:Int):(List Ext)×Int→Option (((List Ext)×Int)⊕(((List Ext)×Int×Bool)))
 | (l,k)=>
   br (decide (k<((out2.length:Nat):Int))) (
   (atL out2 k).bind fun x=>
   (atL point3 i2).bind fun x2=>
   (kO x2).bind fun r_2=>
   (bW x r_2).bind fun r_3=>
   br (decide (0≤k)) (
   br (decide (k.toNat<l.length)) (
   (l[k.toNat]?).bind fun x3=>
   (atL out2 k).bind fun x4=>
   (atL point3 i2).bind fun x5=>
   (bW x4 x5).bind fun r_4=>
   br (decide (0≤(wrap .i64 (k+((out2.length:Nat):Int))))) (
   br (decide ((wrap .i64 (k+((out2.length:Nat):Int))).toNat<l.length)) (
   ((l.set k.toNat r_3)[(wrap .i64 (k+((out2.length:Nat):Int))).toNat]?).bind fun x6=>
   some (.inl (((l.set k.toNat r_3).set ((wrap .i64 (k+((out2.length:Nat):Int))).toNat) r_4),(wrap .i64 (k+1))))) none) none) none) none) (
   some (.inr (l,k,decide (k<((out2.length:Nat):Int)))))
abbrev LX (point3 out2:List Ext) (i2:Int) (s:(List Ext)×Int):St:=⟨[(0,sl eExt point3),(3,sl eExt out2),(4,I i2),(5,.sl 6003 0 s.1.length),(6,I s.2)],[(6003,⟨2,false,rws eExt s.1⟩)]⟩
abbrev LG (point3 out2:List Ext) (i2:Int):((List Ext)×Int×Bool)→ag×St:=fun e=>(.exit 2,⟨[(0,sl eExt point3),(3,sl eExt out2),(4,I i2),(5,.sl 6003 0 e.1.length),(6,I e.2.1),(22,B e.2.2)],[(6003,⟨2,false,rws eExt e.1⟩)]⟩)
theorem XD {point3 out2 i2 s e} (h:Loop (nW point3 out2 i2) s=some e):aq tab ow (.close [10010,10011,11013]) Lo (LX point3 out2 i2 s)=some (LG point3 out2 i2 e):=by
 refine lrG (fun s o h=> ?_) h
 obtain ⟨_,_⟩:=s
 simp only [nW] at h
 simp only [LX,LG,Lo,KW]
 have d1:= @Db
 have d2:= @ii
 exact go2
def nI (point2:List Ext):(List Ext)×Int→Option (((List Ext)×Int)⊕(((List Ext)×Int×Bool)))
 | (out,i)=>
   br (decide (i<((point2.length:Nat):Int))) (
   br (xU (wrap .i64 (2*((out.length:Nat):Int))) (wrap .i64 (2*((out.length:Nat):Int))) 16) (
   (Loop (nW point2 out i) ((List.replicate ((wrap .i64 ((2:Int)*((out.length:Nat):Int))).toNat) (Ext.mk (0:Int) (0:Int))),(0:Int))).bind fun e_=>
   some (.inl (e_.1,(wrap .i64 (i+1))))) none) (
   some (.inr (out,i,decide (i<((point2.length:Nat):Int)))))
abbrev LO (point2:List Ext) (s:(List Ext)×Int):St:=⟨[(0,sl eExt point2),(3,sl eExt s.1),(4,I s.2)],[]⟩
abbrev L2 (point2:List Ext):((List Ext)×Int×Bool)→ag×St:=fun e=>(.exit 0,⟨[(0,sl eExt point2),(3,sl eExt e.1),(4,I e.2.1),(12,B e.2.2)],[]⟩)
theorem Xv {point2 s e} (h:Loop (nI point2) s=some e):aq tab ow (.close [6003,10010,10011,11013,2001]) LN (LO point2 s)=some (L2 point2 e):=by
 refine lrG (fun s o h=> ?_) h
 obtain ⟨_,_⟩:=s
 simp only [nI] at h
 simp only [LO,L2,LN,LV]
 have d1:= @XD
 exact go2
def E4 (point:(List Ext)):Option ((List Ext)):=
 (xj).bind fun r_=>
 (Loop (nI point) (([r_]:List Ext),0)).bind fun e_2=>
 some e_2.1
theorem TB {point r} (h:E4 point=some r):Call tab ow 173 [sl eExt point] []=some (sl eExt r,[]):=by
 rw [ab (af:=E3) rfl]
 unfold E4 at h
 simp only [E3,DG]
 have d1:= @GE
 have d2:= @Xv
 exact go2
end
def rp (kind:Int):Option (Int):=
 some (wrap .i64 (kind+1))
theorem RD {kind r} (h:rp kind=some r):Call tab ow 286 [I kind] []=some (I r,[]):=by
 rw [ab (af:=pI) rfl]
 unfold rp at h
 simp only [pI,Ei]
 exact go2
def kY (kind:Int) (v:(List Ext)):Option (Ext):=
 br (kind==1) (
 (atL v 0).bind fun x=>
 (atL v 1).bind fun x2=>
 (bW x x2).bind fun r_=>
 some r_) (
 (atL v 0).bind fun x3=>
 (atL v 1).bind fun x4=>
 (atL v 2).bind fun x5=>
 (bW x4 x5).bind fun r_2=>
 (atL v 3).bind fun x6=>
 (rz r_2 x6).bind fun r_3=>
 (bW x3 r_3).bind fun r_4=>
 some r_4)
theorem NB {kind v r} (h:kY kind v=some r):Call tab ow 217 [I kind,sl eExt v] []=some (.agg [I r.A,I r.B],[]):=by
 rw [ab (af:=oy) rfl]
 unfold kY at h
 simp only [oy,BZ]
 have d1:= @ii
 have d2:= @yY
 exact go2
def iH (s:Source) (list:(List Ext)):Option (Source):=
 (pu list).bind fun r_=>
 (hU s r_).bind fun r_2=>
 some r_2
theorem vC {s list r} (h:iH s list=some r):Call tab ow 175 [.agg [sl eExt s.Script,I s.At,S s.State,I s.Count],sl eExt list] []=some (.agg [sl eExt r.Script,I r.At,S r.State,I r.Count],[]):=by
 rw [ab (af:=vW) rfl]
 unfold iH at h
 simp only [vW,LR]
 have d1:= @IE
 have d2:= @mp
 exact go2
def jh (a:Int):Option (Int):=
 (rG a 2130706431).bind fun r_=>
 some r_
theorem CR {a r} (h:jh a=some r):Call tab ow 298 [I a] []=some (I r,[]):=by
 rw [ab (af:=oh) rfl]
 unfold jh at h
 simp only [oh,CT]
 have d1:= @GY
 exact go2
def kR (n i:Int) (a b r_:Ext):Option (Ext):=
 (yy n).bind fun r_2=>
 (xF r_2).bind fun r_3=>
 (rG r_3 i).bind fun r_4=>
 (jh 2).bind fun r_5=>
 (fG a b).bind fun r_6=>
 (oz r_5).bind fun r_7=>
 (bW r_6 r_7).bind fun r_8=>
 (rz a b).bind fun r_9=>
 (jh r_4).bind fun r_10=>
 (j2 r_5 r_10).bind fun r_11=>
 (oz r_11).bind fun r_12=>
 (bW r_9 r_12).bind fun r_13=>
 (bW r_ r_13).bind fun r_14=>
 (fG r_8 r_14).bind fun r_15=>
 some r_15
theorem a0i {n i a b r_ r} (h:kR n i a b r_=some r):Call tab ow 290 [I n,I i,.agg [I a.A,I a.B],.agg [I b.A,I b.B],.agg [I r_.A,I r_.B]] []=some (.agg [I r.A,I r.B],[]):=by
 rw [ab (af:=vV) rfl]
 unfold kR at h
 simp only [vV,Ln]
 have d1:= @Z6
 have d2:= @Zm
 have d3:= @GY
 have d4:= @CR
 have d5:= @kB
 have d6:= @tG
 have d7:= @ii
 have d8:= @yY
 have d9:= @z6
 exact go2
def xu (s:Source) (bits nonce:Int):Option (Bool):=
 br (bE (s.State.length+(([103,114,105,110,100]:List UInt8)).length) 1) (
 (dy nonce 4).bind fun r_=>
 br (bE ((s.State++(([103,114,105,110,100]:List UInt8))).length+r_.length) 1) (
 (j0 ((s.State++(([103,114,105,110,100]:List UInt8)))++r_)).bind fun r_2=>
 (atL r_2 0).bind fun c=>
 (atL r_2 1).bind fun c2=>
 br (decide (0≤(wrap .u64 (wrap .i64 (16-bits))))) (
 some ((aM .i64 (wrap .i64 ((wrap .i64 ((wrap .i64 (c.toNat:Int))*256))+(wrap .i64 (c2.toNat:Int)))) (wrap .u64 (wrap .i64 (16-bits))))==0)) none) none) none
theorem XM {s bits nonce r} (h:xu s bits nonce=some r):Call tab ow 201 [.agg [sl eExt s.Script,I s.At,S s.State,I s.Count],I bits,I nonce] []=some (B r,[]):=by
 rw [ab (af:=vf) rfl]
 unfold xu at h
 simp only [vf,Ld]
 have d1:= @fR
 have d2:= @nF
 exact go2
section
theorem Xn:mkR 2000 []=rws eExt []:=rfl
attribute [local go_sem] Xn
theorem V0:mkR 8002 []=rws eExt []:=rfl
attribute [local go_sem] V0
def iq (n2 c5:Int) (c6:List UInt8) (c7:Int):(List Ext)×Int×(List Ext)×Int×(List UInt8)×Int→Option (((List Ext)×Int×(List Ext)×Int×(List UInt8)×Int)⊕(((List Ext)×Int×Bool×(List Ext)×Int×(List UInt8)×Int)))
 | (l,i,c,c2,c3,c4)=>
   br (decide (i<n2)) (
   (nA (Source.mk c c2 c3 c4)).bind fun r_=>
   br (bE ((l++([r_.2]:List Ext)).length) 16) (
   some (.inl ((l++([r_.2]:List Ext)),(wrap .i64 (i+1)),r_.1.Script,r_.1.At,r_.1.State,r_.1.Count))) none) (
   some (.inr (l,i,decide (i<n2),c,c2,c3,c4)))
abbrev wH (c5:Int) (c6:List UInt8) (c7:Int) (l c:List Ext) (c2:Int) (c3:List UInt8) (c4:Int):List (Nat×Blk):=[(1000,⟨4,true,[[sl eExt c,I c2,S c3,I c4]]⟩),(1001,⟨4,true,[[.lit (.slice none 0 0),I c5,S c6,I c7]]⟩),(2000,⟨2,false,rws eExt l⟩)]
abbrev EY (n2 c5:Int) (c6:List UInt8) (c7:Int) (s:(List Ext)×Int×(List Ext)×Int×(List UInt8)×Int):St:=⟨[(1,I n2),(2,.ptr 1000 0 0 1),(4,.ptr 1001 0 0 1),(6,.sl 2000 0 s.1.length),(7,I s.2.1)],wH c5 c6 c7 s.1 s.2.2.1 s.2.2.2.1 s.2.2.2.2.1 s.2.2.2.2.2⟩
abbrev EM (n2 c5:Int) (c6:List UInt8) (c7:Int):((List Ext)×Int×Bool×(List Ext)×Int×(List UInt8)×Int)→ag×St:=fun e=>(.exit 0,⟨[(1,I n2),(2,.ptr 1000 0 0 1),(4,.ptr 1001 0 0 1),(6,.sl 2000 0 e.1.length),(7,I e.2.1),(13,B e.2.2.1)],wH c5 c6 c7 e.1 e.2.2.2.1 e.2.2.2.2.1 e.2.2.2.2.2.1 e.2.2.2.2.2.2⟩)
theorem QT {n2 c5 c6 c7 s e} (h:Loop (iq n2 c5 c6 c7) s=some e):aq tab ow (.close [6001,6005,6006,8002,8003]) Ek (EY n2 c5 c6 c7 s)=some (EM n2 c5 c6 c7 e):=by
 refine lrG (fun s o h=> ?_) h
 obtain ⟨_,_,_,_,_,_⟩:=s
 simp only [iq] at h
 simp only [EY,EM,wH,Ek,G4]
 have d1:= @Dl
 exact go2
def p6 (s:Source) (n:Int):Option (Source×(List Ext)):=
 (Loop (iq n 0 (([]:List UInt8)) 0) (([]:List Ext),0,s.Script,s.At,s.State,s.Count)).bind fun e_=>
 some ((Source.mk e_.2.2.2.1 e_.2.2.2.2.1 e_.2.2.2.2.2.1 e_.2.2.2.2.2.2),e_.1)
theorem KS {s n r} (h:p6 s n=some r):Call tab ow 215 [.agg [sl eExt s.Script,I s.At,S s.State,I s.Count],I n] []=some (.tup [.agg [sl eExt r.1.Script,I r.1.At,S r.1.State,I r.1.Count],sl eExt r.2],[]):=by
 rw [ab (af:=vZ) rfl]
 unfold p6 at h
 simp only [vZ,Bn]
 have d1:= @QT
 exact go2
end
section
theorem Ny:mkR 3000 []=rws eI []:=rfl
attribute [local go_sem] Ny
theorem OC:mkR 7008 []=rws eI []:=rfl
attribute [local go_sem] OC
def fx (n2 most2:Int) (list c:List Ext) (c2:Int) (c3:List UInt8) (c4 c5:Int) (c6:List UInt8) (c7:Int) (c8:List Ext) (c9:Int) (c10:List UInt8) (c11:Int):(List Int)×Int→Option (((List Int)×Int)⊕(((List Int)×Int×Bool)))
 | (l,i)=>
   br (decide (i<n2)) (
   (atL list i).bind fun x=>
   br (decide (most2≠0)) (
   br (bE ((l++([(x.A.tmod most2)]:List Int)).length) 8) (
   some (.inl ((l++([(x.A.tmod most2)]:List Int)),(wrap .i64 (i+1))))) none) none) (
   some (.inr (l,i,decide (i<n2))))
abbrev s7 (c:List Ext) (c2:Int) (c3:List UInt8) (c4 c5:Int) (c6:List UInt8) (c7:Int) (c8:List Ext) (c9:Int) (c10:List UInt8) (c11:Int) (l:List Int):List (Nat×Blk):=[(1000,⟨4,true,[[sl eExt c,I c2,S c3,I c4]]⟩),(1001,⟨4,true,[[.lit (.slice none 0 0),I c5,S c6,I c7]]⟩),(2006,⟨4,true,[[sl eExt c8,I c9,S c10,I c11]]⟩),(3000,⟨1,false,rws eI l⟩)]
abbrev AA (n2 most2:Int) (list c:List Ext) (c2:Int) (c3:List UInt8) (c4 c5:Int) (c6:List UInt8) (c7:Int) (c8:List Ext) (c9:Int) (c10:List UInt8) (c11:Int) (s:(List Int)×Int):St:=⟨[(1,I n2),(2,I most2),(6,.ptr 1001 0 0 1),(8,.ptr 2006 0 0 1),(9,sl eExt list),(10,.sl 3000 0 s.1.length),(11,I s.2)],s7 c c2 c3 c4 c5 c6 c7 c8 c9 c10 c11 s.1⟩
abbrev AR (n2 most2:Int) (list c:List Ext) (c2:Int) (c3:List UInt8) (c4 c5:Int) (c6:List UInt8) (c7:Int) (c8:List Ext) (c9:Int) (c10:List UInt8) (c11:Int):((List Int)×Int×Bool)→ag×St:=fun e=>(.exit 0,⟨[(1,I n2),(2,I most2),(6,.ptr 1001 0 0 1),(8,.ptr 2006 0 0 1),(9,sl eExt list),(10,.sl 3000 0 e.1.length),(11,I e.2.1),(21,B e.2.2)],s7 c c2 c3 c4 c5 c6 c7 c8 c9 c10 c11 e.1⟩)
theorem MO {n2 most2 list c c2 c3 c4 c5 c6 c7 c8 c9 c10 c11 s e} (h:Loop (fx n2 most2 list c c2 c3 c4 c5 c6 c7 c8 c9 c10 c11) s=some e):aq tab ow (.close [7008,7009]) B4 (AA n2 most2 list c c2 c3 c4 c5 c6 c7 c8 c9 c10 c11 s)=some (AR n2 most2 list c c2 c3 c4 c5 c6 c7 c8 c9 c10 c11 e):=by
 refine lrG (fun s o h=> ?_) h
 obtain ⟨_,_⟩:=s
 simp only [fx] at h
 simp only [AA,AR,s7,B4,Ai]
 exact go2
def rq (s:Source) (n most:Int):Option (Source×(List Int)):=
 (p6 s n).bind fun r_=>
 (Loop (fx n most r_.2 s.Script s.At s.State s.Count 0 (([]:List UInt8)) 0 r_.1.Script r_.1.At r_.1.State r_.1.Count) (([]:List Int),0)).bind fun e_=>
 some (r_.1,e_.1)
theorem RT {s n most r} (h:rq s n most=some r):Call tab ow 180 [.agg [sl eExt s.Script,I s.At,S s.State,I s.Count],I n,I most] []=some (.tup [.agg [sl eExt r.1.Script,I r.1.At,S r.1.State,I r.1.Count],sl eI r.2],[]):=by
 rw [ab (af:=qA) rfl]
 unfold rq at h
 simp only [qA,wm]
 have d1:= @KS
 have d2:= @MO
 exact go2
end
def tH (b2 t:List Ext) (t2 c c2:Int):Int×Int×Int→Option ((Int×Int×Int)⊕((Int×Bool×Int×Int)))
 | (t3,c3,c4)=>
   br (decide (t3<t2)) (
   (atL t t3).bind fun x=>
   (atL b2 t3).bind fun x2=>
   (bC x x2).bind fun r_=>
   (dx (Ext.mk c3 c4) r_).bind fun r_2=>
   some (.inl ((wrap .i64 (t3+1)),r_2.A,r_2.B))) (
   some (.inr (t3,decide (t3<t2),c3,c4)))
abbrev KG (c c2 c3 c4:Int):List (Nat×Blk):=[(1000,⟨2,true,[[I c,I c2]]⟩),(2001,⟨2,true,[[I c3,I c4]]⟩)]
abbrev TP (b2 t:List Ext) (t2 c c2:Int) (s:Int×Int×Int):St:=⟨[(1,sl eExt b2),(4,.ptr 1000 0 0 1),(5,.ptr 2001 0 0 1),(9,sl eExt t),(10,I t2),(11,I s.1)],KG c c2 s.2.1 s.2.2⟩
abbrev T1 (b2 t:List Ext) (t2 c c2:Int):(Int×Bool×Int×Int)→ag×St:=fun e=>(.exit 0,⟨[(1,sl eExt b2),(4,.ptr 1000 0 0 1),(5,.ptr 2001 0 0 1),(9,sl eExt t),(10,I t2),(11,I e.1),(12,B e.2.1)],KG c c2 e.2.2.1 e.2.2.2⟩)
theorem a6n {b2 t t2 c c2 s e} (h:Loop (tH b2 t t2 c c2) s=some e):aq tab ow (.close [5003,6006,6007]) Te (TP b2 t t2 c c2 s)=some (T1 b2 t t2 c c2 e):=by
 refine lrG (fun s o h=> ?_) h
 obtain ⟨_,_,_⟩:=s
 simp only [tH] at h
 simp only [TP,T1,KG,Te,T2]
 have d1:= @cP
 have d2:= @eH
 exact go2
def It (a b:(List Ext)):Option (Ext):=
 (Loop (tH b a ((a.length:Nat):Int) 0 0) (0,0,0)).bind fun e_=>
 some (Ext.mk e_.2.2.1 e_.2.2.2)
theorem a3O {a b r} (h:It a b=some r):Call tab ow 87 [sl eExt a,sl eExt b] []=some (.agg [I r.A,I r.B],[]):=by
 rw [ab (af:=MU) rfl]
 unfold It at h
 simp only [MU,Xt]
 have d1:= @a6n
 exact go2
def m0 (round:(List Ext)) (m:Int):Option (Bool×Int):=
 br (((round.length:Nat):Int) !=m) (
 some (true,m)) (
 (dh round).bind fun r_=>
 some ((!r_),m))
theorem Ma {round m r} (h:m0 round m=some r):Call tab ow 204 [sl eExt round,.ptr 0 0 0 1] [⟨1,true,[[I m]]⟩]=some (B r.1,[⟨1,true,[[I r.2]]⟩]):=by
 rw [ab (af:=mW) rfl]
 unfold m0 at h
 simp only [mW,Az]
 have d1:= @iB
 exact go2
def ba (s2:List (List Ext)) (t:Int):Int×Int→Option ((Int×Int)⊕((Int×Int)⊕(Int×Bool×Int)))
 | (t2,c)=>
   br (decide (t2<t)) (
   (atL s2 t2).bind fun x=>
   (m0 x c).bind fun r_=>
   br r_.1 (
   some (.inr (.inl (t2,r_.2)))) (
   some (.inl ((wrap .i64 (t2+1)),r_.2)))) (
   some (.inr (.inr (t2,decide (t2<t),c))))
abbrev de (s2:List (List Ext)) (t:Int) (s:Int×Int):St:=⟨[(0,sl (eL eExt) s2),(1,.fn 204 [.ptr 0 0 0 1]),(7,I t),(8,I s.1)],[(0,⟨1,true,[[I s.2]]⟩)]⟩
abbrev di (s2:List (List Ext)) (t:Int):((Int×Int)⊕(Int×Bool×Int))→ag×St:=alt (fun e=>((.ret,⟨[(4,I e.1)],[(0,⟨1,true,[[I e.2]]⟩)]⟩):ag×St)) (fun e=>(.exit 0,⟨[(0,sl (eL eExt) s2),(1,.fn 204 [.ptr 0 0 0 1]),(7,I t),(8,I e.1),(9,B e.2.1)],[(0,⟨1,true,[[I e.2.2]]⟩)]⟩))
theorem i4 {s2 t s e} (h:Loop (ba s2 t) s=some e):aq tab ow (.close [5005]) fS (de s2 t s)=some (di s2 t e):=by
 refine lrG (fun s o h=> ?_) h
 obtain ⟨_,_⟩:=s
 simp only [ba] at h
 simp only [de,di,fS,fV]
 have d1:= @Ma
 exact go2
def bp (s:(List (List Ext))) (m:Int):Option (Int×Int):=
 (Loop (ba s ((s.length:Nat):Int)) (0,m)).bind (alt (fun e_2=>
 some (e_2.1,e_2.2)) (fun e_3=>
 some ((-1:Int),e_3.2.2)))
theorem iu {s m r} (h:bp s m=some r):Call tab ow 300 [sl (eL eExt) s,.fn 204 [.ptr 0 0 0 1]] [⟨1,true,[[I m]]⟩]=some (I r.1,[⟨1,true,[[I r.2]]⟩]):=by
 rw [ab (af:=cy) rfl]
 unfold bp at h
 simp only [cy,dG]
 have d1:= @i4
 exact go2
def bg (s:(List (List Ext))) (m:Int):Option (Bool×Int):=
 (bp s m).bind fun r_=>
 some (decide (r_.1≥0),r_.2)
theorem gS {s m r} (h:bg s m=some r):Call tab ow 203 [sl (eL eExt) s,.fn 204 [.ptr 0 0 0 1]] [⟨1,true,[[I m]]⟩]=some (B r.1,[⟨1,true,[[I r.2]]⟩]):=by
 rw [ab (af:=bY) rfl]
 unfold bg at h
 simp only [bY,fH]
 have d1:= @iu
 exact go2
def kD (rounds:(List (List Ext))) (many size:Int):Option (Bool):=
 br (((rounds.length:Nat):Int)==many) (
 (bg rounds size).bind fun r_=>
 some (!r_.1)) (
 some false)
theorem FD {rounds many size r} (h:kD rounds many size=some r):Call tab ow 98 [sl (eL eExt) rounds,I many,I size] []=some (B r,[]):=by
 rw [ab (af:=pR) rfl]
 unfold kD at h
 simp only [pR,FJ]
 have d1:= @gS
 exact go2
def ey (x:(List UInt8)):Option (Bool):=
 (rv x).bind fun r_=>
 some (!r_)
theorem xh {x r} (h:ey x=some r):Call tab ow 206 [S x,.ptr 0 0 0 1] [⟨1,true,[[.fn 100 []]]⟩]=some (B r,[⟨1,true,[[.fn 100 []]]⟩]):=by
 rw [ab (af:=kU) rfl]
 unfold ey at h
 simp only [kU,xt]
 have d1:= @zN
 exact go2
def aN (s2:List (List UInt8)) (t:Int):Int→Option ((Int)⊕(Int⊕(Int×Bool)))
 |t2=>
  br (decide (t2<t)) (
  (atL s2 t2).bind fun x=>
  (ey x).bind fun r_=>
  br r_ (
  some (.inr (.inl t2))) (
  some (.inl (wrap .i64 (t2+1))))) (
  some (.inr (.inr (t2,decide (t2<t)))))
abbrev cq (s2:List (List UInt8)) (t s:Int):St:=⟨[(0,sl eS s2),(1,.fn 206 [.ptr 0 0 0 1]),(7,I t),(8,I s)],[(0,⟨1,true,[[.fn 100 []]]⟩)]⟩
abbrev cr (s2:List (List UInt8)) (t:Int):(Int⊕(Int×Bool))→ag×St:=alt (fun e=>((.ret,⟨[(4,I e)],[(0,⟨1,true,[[.fn 100 []]]⟩)]⟩):ag×St)) (fun e=>(.exit 0,⟨[(0,sl eS s2),(1,.fn 206 [.ptr 0 0 0 1]),(7,I t),(8,I e.1),(9,B e.2)],[(0,⟨1,true,[[.fn 100 []]]⟩)]⟩))
theorem fa {s2 t s e} (h:Loop (aN s2 t) s=some e):aq tab ow (.close [5005]) ck (cq s2 t s)=some (cr s2 t e):=by
 refine lrG (fun s o h=> ?_) h
 simp only [aN] at h
 simp only [cq,cr,ck,dn]
 have d1:= @xh
 exact go2
def aT (s:(List (List UInt8))):Option (Int):=
 (Loop (aN s ((s.length:Nat):Int)) 0).bind (alt (fun e_2=>
 some e_2) (fun e_3=>
 some (-1:Int)))
theorem fF {s r} (h:aT s=some r):Call tab ow 301 [sl eS s,.fn 206 [.ptr 0 0 0 1]] [⟨1,true,[[.fn 100 []]]⟩]=some (I r,[⟨1,true,[[.fn 100 []]]⟩]):=by
 rw [ab (af:=bk) rfl]
 unfold aT at h
 simp only [bk,cw]
 have d1:= @fa
 exact go2
def aO (s:(List (List UInt8))):Option (Bool):=
 (aT s).bind fun r_=>
 some (decide (r_≥0))
theorem eX {s r} (h:aO s=some r):Call tab ow 205 [sl eS s,.fn 206 [.ptr 0 0 0 1]] [⟨1,true,[[.fn 100 []]]⟩]=some (B r,[⟨1,true,[[.fn 100 []]]⟩]):=by
 rw [ab (af:=aY) rfl]
 unfold aO at h
 simp only [aY,da]
 have d1:= @fF
 exact go2
def dV (list:(List (List UInt8))):Option (Bool):=
 (aO list).bind fun r_=>
 some (!r_)
theorem oF {list r} (h:dV list=some r):Call tab ow 99 [.fn 100 [],sl eS list] []=some (B r,[]):=by
 rw [ab (af:=ot) rfl]
 unfold dV at h
 simp only [ot,Co]
 have d1:= @eX
 exact go2
def ip (vars2:Int) (t2:List (List (List UInt8))) (t3:Int) (c:List Ext) (c2:List (List (List UInt8))) (c3 c4 c5:Int):Int→Option ((Int)⊕(Unit⊕(Int×Bool)))
 |t4=>
  br (decide (t4<t3)) (
  (atL t2 t4).bind fun x=>
  br (((x.length:Nat):Int) !=(wrap .i64 ((wrap .i64 ((wrap .i64 (vars2+c3))-1))-t4))) (
  some (.inr (.inl ()))) (
  (dV x).bind fun r_2=>
  br (!r_2) (
  some (.inr (.inl ()))) (
  some (.inl (wrap .i64 (t4+1)))))) (
  some (.inr (.inr (t4,decide (t4<t3)))))
abbrev pE (c:List Ext) (c2:List (List (List UInt8))) (c3 c4 c5:Int):List (Nat×Blk):=[(1000,⟨2,true,[[sl eExt c,sl (eL eS) c2]]⟩),(1001,⟨3,true,[[I c3,I c4,I c5]]⟩)]
abbrev FL (vars2:Int) (t2:List (List (List UInt8))) (t3:Int) (c:List Ext) (c2:List (List (List UInt8))) (c3 c4 c5 s:Int):St:=⟨[(1,I vars2),(5,.ptr 1001 0 0 1),(29,sl (eL eS) t2),(30,I t3),(31,I s)],pE c c2 c3 c4 c5⟩
abbrev Fe (vars2:Int) (t2:List (List (List UInt8))) (t3:Int) (c:List Ext) (c2:List (List (List UInt8))) (c3 c4 c5:Int):(Unit⊕(Int×Bool))→ag×St:=alt (fun e=>((.ret,⟨[(6,B false)],pE c c2 c3 c4 c5⟩):ag×St)) (fun e=>(.exit 0,⟨[(1,I vars2),(5,.ptr 1001 0 0 1),(29,sl (eL eS) t2),(30,I t3),(31,I e.1),(32,B e.2)],pE c c2 c3 c4 c5⟩))
theorem QA {vars2 t2 t3 c c2 c3 c4 c5 s e} (h:Loop (ip vars2 t2 t3 c c2 c3 c4 c5) s=some e):aq tab ow (.close [7012]) EC (FL vars2 t2 t3 c c2 c3 c4 c5 s)=some (Fe vars2 t2 t3 c c2 c3 c4 c5 e):=by
 refine lrG (fun s o h=> ?_) h
 simp only [ip] at h
 simp only [FL,Fe,pE,EC,Fy]
 have d1:= @oF
 exact go2
def tJ (q:aj) (vars:Int) (t:Setting):Option (Bool):=
 br (((q.Pairs.length:Nat):Int) !=(wrap .i64 (2*vars))) (
 some false) (
 (dh q.Pairs).bind fun r_=>
 br (!r_) (
 some false) (
 br (((q.Paths.length:Nat):Int) !=vars) (
 some false) (
 (Loop (ip vars q.Paths ((q.Paths.length:Nat):Int) q.Pairs q.Paths t.Rate t.Queries t.Grind) 0).bind (alt (fun e_2=>
 some false) (fun e_3=>
 some true)))))
theorem a0g {q vars t r} (h:tJ q vars t=some r):Call tab ow 103 [.agg [sl eExt q.Pairs,sl (eL eS) q.Paths],I vars,.agg [I t.Rate,I t.Queries,I t.Grind]] []=some (B r,[]):=by
 rw [ab (af:=vF) rfl]
 unfold tJ at h
 simp only [vF,Dd]
 have d1:= @iB
 have d2:= @QA
 exact go2
def qH (q:aj) (m:Int) (m2:Setting):Option (Bool×Int×Setting):=
 (tJ q m m2).bind fun r_=>
 some (r_,m,m2)
theorem Md {q m m2 r} (h:qH q m m2=some r):Call tab ow 102 [.agg [sl eExt q.Pairs,sl (eL eS) q.Paths],.ptr 0 0 0 1,.ptr 1 0 0 1] [⟨1,true,[[I m]]⟩,⟨3,true,[[I m2.Rate,I m2.Queries,I m2.Grind]]⟩]=some (B r.1,[⟨1,true,[[I r.2.1]]⟩,⟨3,true,[[I r.2.2.Rate,I r.2.2.Queries,I r.2.2.Grind]]⟩]):=by
 rw [ab (af:=mM) rfl]
 unfold qH at h
 simp only [mM,B2]
 have d1:= @a0g
 exact go2
def bU (x:aj) (m:Int) (m2:Setting):Option (Bool×Int×Setting):=
 (qH x m m2).bind fun r_=>
 some ((!r_.1),r_.2.1,r_.2.2)
theorem rf {x m m2 r} (h:bU x m m2=some r):Call tab ow 208 [.agg [sl eExt x.Pairs,sl (eL eS) x.Paths],.ptr 0 0 0 1] [⟨1,true,[[.fn 102 [.ptr 1 0 0 1,.ptr 2 0 0 1]]]⟩,⟨1,true,[[I m]]⟩,⟨3,true,[[I m2.Rate,I m2.Queries,I m2.Grind]]⟩]=some (B r.1,[⟨1,true,[[.fn 102 [.ptr 1 0 0 1,.ptr 2 0 0 1]]]⟩,⟨1,true,[[I r.2.1]]⟩,⟨3,true,[[I r.2.2.Rate,I r.2.2.Queries,I r.2.2.Grind]]⟩]):=by
 rw [ab (af:=k9) rfl]
 unfold bU at h
 simp only [k9,vJ]
 have d1:= @Md
 exact go2
def am (s2:List aj) (t:Int):Int×Int×Int×Int×Int→Option ((Int×Int×Int×Int×Int)⊕((Int×Int×Int×Int×Int)⊕(Int×Bool×Int×Int×Int×Int)))
 | (t2,c,c2,c3,c4)=>
   br (decide (t2<t)) (
   (atL s2 t2).bind fun x=>
   (bU x c (Setting.mk c2 c3 c4)).bind fun r_=>
   br r_.1 (
   some (.inr (.inl (t2,r_.2.1,r_.2.2.Rate,r_.2.2.Queries,r_.2.2.Grind)))) (
   some (.inl ((wrap .i64 (t2+1)),r_.2.1,r_.2.2.Rate,r_.2.2.Queries,r_.2.2.Grind)))) (
   some (.inr (.inr (t2,decide (t2<t),c,c2,c3,c4))))
abbrev aH (c c2 c3 c4:Int):List (Nat×Blk):=[(0,⟨1,true,[[.fn 102 [.ptr 1 0 0 1,.ptr 2 0 0 1]]]⟩),(1,⟨1,true,[[I c]]⟩),(2,⟨3,true,[[I c2,I c3,I c4]]⟩)]
abbrev bM (s2:List aj) (t:Int) (s:Int×Int×Int×Int×Int):St:=⟨[(0,sl aE s2),(1,.fn 208 [.ptr 0 0 0 1]),(7,I t),(8,I s.1)],aH s.2.1 s.2.2.1 s.2.2.2.1 s.2.2.2.2⟩
abbrev bL (s2:List aj) (t:Int):((Int×Int×Int×Int×Int)⊕(Int×Bool×Int×Int×Int×Int))→ag×St:=alt (fun e=>((.ret,⟨[(4,I e.1)],aH e.2.1 e.2.2.1 e.2.2.2.1 e.2.2.2.2⟩):ag×St)) (fun e=>(.exit 0,⟨[(0,sl aE s2),(1,.fn 208 [.ptr 0 0 0 1]),(7,I t),(8,I e.1),(9,B e.2.1)],aH e.2.2.1 e.2.2.2.1 e.2.2.2.2.1 e.2.2.2.2.2⟩))
theorem dM {s2 t s e} (h:Loop (am s2 t) s=some e):aq tab ow (.close [5005]) fe (bM s2 t s)=some (bL s2 t e):=by
 refine lrG (fun s o h=> ?_) h
 obtain ⟨_,_,_,_,_⟩:=s
 simp only [am] at h
 simp only [bM,bL,aH,fe,fi]
 have d1:= @rf
 exact go2
def aK (s:(List aj)) (m:Int) (m2:Setting):Option (Int×Int×Setting):=
 (Loop (am s ((s.length:Nat):Int)) (0,m,m2.Rate,m2.Queries,m2.Grind)).bind (alt (fun e_2=>
 some (e_2.1,e_2.2.1,(Setting.mk e_2.2.2.1 e_2.2.2.2.1 e_2.2.2.2.2))) (fun e_3=>
 some ((-1:Int),e_3.2.2.1,(Setting.mk e_3.2.2.2.1 e_3.2.2.2.2.1 e_3.2.2.2.2.2))))
theorem ed {s m m2 r} (h:aK s m m2=some r):Call tab ow 302 [sl aE s,.fn 208 [.ptr 0 0 0 1]] [⟨1,true,[[.fn 102 [.ptr 1 0 0 1,.ptr 2 0 0 1]]]⟩,⟨1,true,[[I m]]⟩,⟨3,true,[[I m2.Rate,I m2.Queries,I m2.Grind]]⟩]=some (I r.1,[⟨1,true,[[.fn 102 [.ptr 1 0 0 1,.ptr 2 0 0 1]]]⟩,⟨1,true,[[I r.2.1]]⟩,⟨3,true,[[I r.2.2.Rate,I r.2.2.Queries,I r.2.2.Grind]]⟩]):=by
 rw [ab (af:=cj) rfl]
 unfold aK at h
 simp only [cj,dp]
 have d1:= @dM
 exact go2
def aJ (s:(List aj)) (m:Int) (m2:Setting):Option (Bool×Int×Setting):=
 (aK s m m2).bind fun r_=>
 some (decide (r_.1≥0),r_.2.1,r_.2.2)
theorem dH {s m m2 r} (h:aJ s m m2=some r):Call tab ow 207 [sl aE s,.fn 208 [.ptr 0 0 0 1]] [⟨1,true,[[.fn 102 [.ptr 1 0 0 1,.ptr 2 0 0 1]]]⟩,⟨1,true,[[I m]]⟩,⟨3,true,[[I m2.Rate,I m2.Queries,I m2.Grind]]⟩]=some (B r.1,[⟨1,true,[[.fn 102 [.ptr 1 0 0 1,.ptr 2 0 0 1]]]⟩,⟨1,true,[[I r.2.1]]⟩,⟨3,true,[[I r.2.2.Rate,I r.2.2.Queries,I r.2.2.Grind]]⟩]):=by
 rw [ab (af:=bQ) rfl]
 unfold aJ at h
 simp only [bQ,eY]
 have d1:= @ed
 exact go2
def eo (list:(List aj)) (m:Int) (m2:Setting):Option (Bool×Int×Setting):=
 (aJ list m m2).bind fun r_=>
 some ((!r_.1),r_.2.1,r_.2.2)
theorem sT {list m m2 r} (h:eo list m m2=some r):Call tab ow 101 [.fn 102 [.ptr 0 0 0 1,.ptr 1 0 0 1],sl aE list] [⟨1,true,[[I m]]⟩,⟨3,true,[[I m2.Rate,I m2.Queries,I m2.Grind]]⟩]=some (B r.1,[⟨1,true,[[I r.2.1]]⟩,⟨3,true,[[I r.2.2.Rate,I r.2.2.Queries,I r.2.2.Grind]]⟩]):=by
 rw [ab (af:=mQ) rfl]
 unfold eo at h
 simp only [mQ,Be]
 have d1:= @dH
 exact go2
def rL (o_:au) (vars:Int) (t:Setting):Option (Bool):=
 (ws vars 1 6).bind fun r_=>
 br r_ (
 (kA t).bind fun r_2=>
 br r_2 (
 (kD o_.Rounds vars 3).bind fun r_3=>
 br r_3 (
 br (((o_.Roots.length:Nat):Int)==(wrap .i64 (vars-1))) (
 (dV o_.Roots).bind fun r_4=>
 br r_4 (
 (qz o_.Last).bind fun r_5=>
 br r_5 (
 (ws o_.Nonce 0 65535).bind fun r_6=>
 br r_6 (
 br (((o_.Queries.length:Nat):Int)==t.Queries) (
 (eo o_.Queries vars t).bind fun r_7=>
 some r_7.1) (
 some false)) (
 some false)) (
 some false)) (
 some false)) (
 some false)) (
 some false)) (
 some false)) (
 some false)
theorem Re {o_ vars t r} (h:rL o_ vars t=some r):Call tab ow 25 [.agg [sl (eL eExt) o_.Rounds,sl eS o_.Roots,I o_.Last.A,I o_.Last.B,I o_.Nonce,sl aE o_.Queries],I vars,.agg [I t.Rate,I t.Queries,I t.Grind]] []=some (B r,[]):=by
 rw [ab (af:=qy) rfl]
 unfold rL at h
 simp only [qy,EQ]
 have d1:= @zH
 have d2:= @wx
 have d3:= @FD
 have d4:= @oF
 have d5:= @JP
 have d6:= @sT
 exact go2
def jt (values3:List Ext) (i:Int) (t4:List Ext) (t5 t6 t7 c7 c8 c9 c10 c11 c12 c13 c14:Int):Int×Int×Int→Option ((Int×Int×Int)⊕((Int×Bool×Int×Int)))
 | (t8,c15,c16)=>
   br (decide (t8<t7)) (
   br (t8 !=i) (
   (eQ (Ext.mk c7 c8) (Ext.mk t8 0)).bind fun r_=>
   (bC (Ext.mk c15 c16) r_).bind fun r_2=>
   (Pp i t8).bind fun r_3=>
   (pw r_3).bind fun r_4=>
   (eF r_2 r_4).bind fun r_5=>
   some (.inl ((wrap .i64 (t8+1)),r_5.A,r_5.B))) (
   some (.inl ((wrap .i64 (t8+1)),c15,c16)))) (
   some (.inr (t8,decide (t8<t7),c15,c16)))
abbrev zq (c7 c8 c9 c10 c11 c12 c13 c14 c15 c16:Int):List (Nat×Blk):=[(1000,⟨2,true,[[I c7,I c8]]⟩),(1001,⟨2,true,[[I c9,I c10]]⟩),(2001,⟨2,true,[[I c11,I c12]]⟩),(5003,⟨2,true,[[I c13,I c14]]⟩),(6001,⟨2,true,[[I c15,I c16]]⟩)]
abbrev Hx (values3:List Ext) (i:Int) (t4:List Ext) (t5 t6 t7 c7 c8 c9 c10 c11 c12 c13 c14:Int) (s:Int×Int×Int):St:=⟨[(0,sl eExt values3),(3,.ptr 1000 0 0 1),(4,.ptr 1001 0 0 1),(5,.ptr 2001 0 0 1),(6,I i),(8,.ptr 6001 0 0 1),(11,sl eExt t4),(12,I t5),(13,I t6),(20,I t7),(21,I s.1)],zq c7 c8 c9 c10 c11 c12 c13 c14 s.2.1 s.2.2⟩
abbrev HA (values3:List Ext) (i:Int) (t4:List Ext) (t5 t6 t7 c7 c8 c9 c10 c11 c12 c13 c14:Int):(Int×Bool×Int×Int)→ag×St:=fun e=>(.exit 2,⟨[(0,sl eExt values3),(3,.ptr 1000 0 0 1),(4,.ptr 1001 0 0 1),(5,.ptr 2001 0 0 1),(6,I i),(8,.ptr 6001 0 0 1),(11,sl eExt t4),(12,I t5),(13,I t6),(20,I t7),(21,I e.1),(22,B e.2.1)],zq c7 c8 c9 c10 c11 c12 c13 c14 e.2.2.1 e.2.2.2⟩)
theorem WW {values3 i t4 t5 t6 t7 c7 c8 c9 c10 c11 c12 c13 c14 s e} (h:Loop (jt values3 i t4 t5 t6 t7 c7 c8 c9 c10 c11 c12 c13 c14) s=some e):aq tab ow (.close [11004,11005,11008,11009,11010]) J9 (Hx values3 i t4 t5 t6 t7 c7 c8 c9 c10 c11 c12 c13 c14 s)=some (HA values3 i t4 t5 t6 t7 c7 c8 c9 c10 c11 c12 c13 c14 e):=by
 refine lrG (fun s o h=> ?_) h
 obtain ⟨_,_,_⟩:=s
 simp only [jt] at h
 simp only [Hx,HA,zq,J9,Ht]
 have d1:= @jJ
 have d2:= @cP
 have d3:= @a39
 have d4:= @LW
 have d5:= @kw
 exact go2
def jq (values2 t:List Ext) (t2 c c2 c3 c4:Int):Int×Int×Int→Option ((Int×Int×Int)⊕((Int×Bool×Int×Int)))
 | (t3,c5,c6)=>
   br (decide (t3<t2)) (
   (atL t t3).bind fun x2=>
   (Loop (jt values2 t3 t t2 t3 ((values2.length:Nat):Int) c c2 c3 c4 c5 c6 x2.A x2.B) (0,x2.A,x2.B)).bind fun e_=>
   (dx (Ext.mk c5 c6) (Ext.mk e_.2.2.1 e_.2.2.2)).bind fun r_6=>
   some (.inl ((wrap .i64 (t3+1)),r_6.A,r_6.B))) (
   some (.inr (t3,decide (t3<t2),c5,c6)))
abbrev zj (c c2 c3 c4 c5 c6:Int):List (Nat×Blk):=[(1000,⟨2,true,[[I c,I c2]]⟩),(1001,⟨2,true,[[I c3,I c4]]⟩),(2001,⟨2,true,[[I c5,I c6]]⟩)]
abbrev Ij (values2 t:List Ext) (t2 c c2 c3 c4:Int) (s:Int×Int×Int):St:=⟨[(0,sl eExt values2),(3,.ptr 1000 0 0 1),(4,.ptr 1001 0 0 1),(5,.ptr 2001 0 0 1),(11,sl eExt t),(12,I t2),(13,I s.1)],zj c c2 c3 c4 s.2.1 s.2.2⟩
abbrev Ig (values2 t:List Ext) (t2 c c2 c3 c4:Int):(Int×Bool×Int×Int)→ag×St:=fun e=>(.exit 0,⟨[(0,sl eExt values2),(3,.ptr 1000 0 0 1),(4,.ptr 1001 0 0 1),(5,.ptr 2001 0 0 1),(11,sl eExt t),(12,I t2),(13,I e.1),(14,B e.2.1)],zj c c2 c3 c4 e.2.2.1 e.2.2.2⟩)
theorem Uz {values2 t t2 c c2 c3 c4 s e} (h:Loop (jq values2 t t2 c c2 c3 c4) s=some e):aq tab ow (.close [5003,6001,11004,11005,11008,11009,11010,13002]) HW (Ij values2 t t2 c c2 c3 c4 s)=some (Ig values2 t t2 c c2 c3 c4 e):=by
 refine lrG (fun s o h=> ?_) h
 obtain ⟨_,_,_⟩:=s
 simp only [jq] at h
 simp only [Ij,Ig,zj,HW,Iv]
 have d1:= @WW
 have d2:= @eH
 exact go2
def xK (values:(List Ext)) (x:Ext):Option (Ext):=
 (Loop (jq values values ((values.length:Nat):Int) x.A x.B 0 0) (0,0,0)).bind fun e_2=>
 some (Ext.mk e_2.2.2.1 e_2.2.2.2)
theorem O3 {values x r} (h:xK values x=some r):Call tab ow 294 [sl eExt values,.agg [I x.A,I x.B]] []=some (.agg [I r.A,I r.B],[]):=by
 rw [ab (af:=zV) rfl]
 unfold xK at h
 simp only [zV,yJ]
 have d1:= @Uz
 exact go2
def j1 (k m:Int) (m2:au) (m3:Source):Option (Int×au×Source):=
 br (decide (k<(wrap .i64 (m-1)))) (
 (atL m2.Roots k).bind fun x=>
 br (bE x.length 1) (
 (du x m3).bind fun r_=>
 some (m,m2,r_)) none) (
 some (m,m2,m3))
theorem GM {k m m2 m3 r} (h:j1 k m m2 m3=some r):Call tab ow 188 [I k,.ptr 0 0 0 1,.ptr 1 0 0 1,.ptr 2 0 0 1] [⟨1,true,[[I m]]⟩,⟨1,true,[[.ptr 3 0 0 1]]⟩,⟨6,true,[[sl (eL eExt) m2.Rounds,sl eS m2.Roots,I m2.Last.A,I m2.Last.B,I m2.Nonce,sl aE m2.Queries]]⟩,⟨4,true,[[sl eExt m3.Script,I m3.At,S m3.State,I m3.Count]]⟩]=some (.tup [],[⟨1,true,[[I r.1]]⟩,⟨1,true,[[.ptr 3 0 0 1]]⟩,⟨6,true,[[sl (eL eExt) r.2.1.Rounds,sl eS r.2.1.Roots,I r.2.1.Last.A,I r.2.1.Last.B,I r.2.1.Nonce,sl aE r.2.1.Queries]]⟩,⟨4,true,[[sl eExt r.2.2.Script,I r.2.2.At,S r.2.2.State,I r.2.2.Count]]⟩]):=by
 rw [ab (af:=jl) rfl]
 unfold j1 at h
 simp only [jl,uz]
 have d1:= @jY
 exact go2
end
end Go.AI.Fn
set_option linter.unusedVariables false
set_option linter.unusedSimpArgs false
set_option maxRecDepth 100000
set_option maxHeartbeats 1000000
namespace Go.AI.Fn
noncomputable section
open IntKind (wrap)
section
theorem lv:mkR 2000 []=rws eExt []:=rfl
attribute [local go_sem] lv
theorem lC:mkR 12005 []=rws eExt []:=rfl
attribute [local go_sem] lC
def an (kind2:Int) (t:List (List Ext)) (t2 c14 c15:Int):(List Ext)×Int×(List Ext)×Int×(List UInt8)×Int×Int×(List (List Ext))×(List (List UInt8))×Int×Int×Int×(List aj)×Int×Int→Option (((List Ext)×Int×(List Ext)×Int×(List UInt8)×Int×Int×(List (List Ext))×(List (List UInt8))×Int×Int×Int×(List aj)×Int×Int)⊕(((List Ext)×Int×(List Ext)×Int×(List UInt8)×Int×Int×(List (List Ext))×(List (List UInt8))×Int×Int×Int×(List aj)×Int×Int)⊕((List Ext)×Int×Bool×(List Ext)×Int×(List UInt8)×Int×Int×(List (List Ext))×(List (List UInt8))×Int×Int×Int×(List aj)×Int×Int)))
 | (l,t3,c,c2,c3,c4,c5,c6,c7,c8,c9,c10,c11,c12,c13)=>
   br (decide (t3<t2)) (
   (atL t t3).bind fun x=>
   (nl kind2).bind fun r_=>
   br (((x.length:Nat):Int) !=(wrap .i64 (r_+1))) (
   some (.inr (.inl (l,18,c,c2,c3,c4,c5,c6,c7,c8,c9,c10,c11,c12,c13)))) (
   (atL x 0).bind fun x2=>
   (atL x 1).bind fun x3=>
   (dx x2 x3).bind fun r_2=>
   br (r_2.A==c12) (
   br (r_2.B==c13) (
   (bu x (Source.mk c c2 c3 c4)).bind fun r_3=>
   (fU r_3).bind fun r_4=>
   (xK x r_4.1).bind fun r_5=>
   br (bE ((l++([r_4.1]:List Ext)).length) 16) (
   (j1 t3 c5 (au.mk c6 c7 (Ext.mk c8 c9) c10 c11) r_4.2).bind fun r_6=>
   some (.inl ((l++([r_4.1]:List Ext)),(wrap .i64 (t3+1)),r_6.2.2.Script,r_6.2.2.At,r_6.2.2.State,r_6.2.2.Count,r_6.1,r_6.2.1.Rounds,r_6.2.1.Roots,r_6.2.1.Last.A,r_6.2.1.Last.B,r_6.2.1.Nonce,r_6.2.1.Queries,r_5.A,r_5.B))) none) (
   some (.inr (.inl (l,10,c,c2,c3,c4,c5,c6,c7,c8,c9,c10,c11,c12,c13))))) (
   some (.inr (.inl (l,10,c,c2,c3,c4,c5,c6,c7,c8,c9,c10,c11,c12,c13)))))) (
   some (.inr (.inr (l,t3,decide (t3<t2),c,c2,c3,c4,c5,c6,c7,c8,c9,c10,c11,c12,c13))))
abbrev cR (c14 c15:Int) (l c:List Ext) (c2:Int) (c3:List UInt8) (c4 c5:Int) (c6:List (List Ext)) (c7:List (List UInt8)) (c8 c9 c10:Int) (c11:List aj) (c12 c13:Int):List (Nat×Blk):=[(0,⟨4,true,[[sl eExt c,I c2,S c3,I c4]]⟩),(1,⟨1,true,[[I c5]]⟩),(2,⟨1,true,[[.ptr 0 0 0 1]]⟩),(3,⟨6,true,[[sl (eL eExt) c6,sl eS c7,I c8,I c9,I c10,sl aE c11]]⟩),(1000,⟨2,true,[[I c12,I c13]]⟩),(1002,⟨2,true,[[I c14,I c15]]⟩),(2000,⟨2,false,rws eExt l⟩)]
abbrev fj (kind2:Int) (t:List (List Ext)) (t2 c14 c15:Int) (s:(List Ext)×Int×(List Ext)×Int×(List UInt8)×Int×Int×(List (List Ext))×(List (List UInt8))×Int×Int×Int×(List aj)×Int×Int):St:=⟨[(0,.ptr 0 0 0 1),(1,I kind2),(4,.fn 188 [.ptr 1 0 0 1,.ptr 2 0 0 1,.ptr 3 0 0 1]),(7,.ptr 1000 0 0 1),(11,.ptr 1002 0 0 1),(13,.sl 2000 0 s.1.length),(18,sl (eL eExt) t),(19,I t2),(20,I s.2.1)],cR c14 c15 s.1 s.2.2.1 s.2.2.2.1 s.2.2.2.2.1 s.2.2.2.2.2.1 s.2.2.2.2.2.2.1 s.2.2.2.2.2.2.2.1 s.2.2.2.2.2.2.2.2.1 s.2.2.2.2.2.2.2.2.2.1 s.2.2.2.2.2.2.2.2.2.2.1 s.2.2.2.2.2.2.2.2.2.2.2.1 s.2.2.2.2.2.2.2.2.2.2.2.2.1 s.2.2.2.2.2.2.2.2.2.2.2.2.2.1 s.2.2.2.2.2.2.2.2.2.2.2.2.2.2⟩
abbrev fk (kind2:Int) (t:List (List Ext)) (t2 c14 c15:Int):(((List Ext)×Int×(List Ext)×Int×(List UInt8)×Int×Int×(List (List Ext))×(List (List UInt8))×Int×Int×Int×(List aj)×Int×Int)⊕((List Ext)×Int×Bool×(List Ext)×Int×(List UInt8)×Int×Int×(List (List Ext))×(List (List UInt8))×Int×Int×Int×(List aj)×Int×Int))→ag×St:=alt (fun e=>((.ret,⟨[(10,.lit (.slice none 0 0)),(11,.ptr 1002 0 0 1),(12,I e.2.1)],[(0,⟨4,true,[[sl eExt e.2.2.1,I e.2.2.2.1,S e.2.2.2.2.1,I e.2.2.2.2.2.1]]⟩),(1,⟨1,true,[[I e.2.2.2.2.2.2.1]]⟩),(2,⟨1,true,[[.ptr 0 0 0 1]]⟩),(3,⟨6,true,[[sl (eL eExt) e.2.2.2.2.2.2.2.1,sl eS e.2.2.2.2.2.2.2.2.1,I e.2.2.2.2.2.2.2.2.2.1,I e.2.2.2.2.2.2.2.2.2.2.1,I e.2.2.2.2.2.2.2.2.2.2.2.1,sl aE e.2.2.2.2.2.2.2.2.2.2.2.2.1]]⟩),(1000,⟨2,true,[[I e.2.2.2.2.2.2.2.2.2.2.2.2.2.1,I e.2.2.2.2.2.2.2.2.2.2.2.2.2.2]]⟩),(1002,⟨2,true,[[I 0,I 0]]⟩),(2000,⟨2,false,rws eExt e.1⟩)]⟩):ag×St)) (fun e=>(.exit 0,⟨[(0,.ptr 0 0 0 1),(1,I kind2),(4,.fn 188 [.ptr 1 0 0 1,.ptr 2 0 0 1,.ptr 3 0 0 1]),(7,.ptr 1000 0 0 1),(11,.ptr 1002 0 0 1),(13,.sl 2000 0 e.1.length),(18,sl (eL eExt) t),(19,I t2),(20,I e.2.1),(21,B e.2.2.1)],cR c14 c15 e.1 e.2.2.2.1 e.2.2.2.2.1 e.2.2.2.2.2.1 e.2.2.2.2.2.2.1 e.2.2.2.2.2.2.2.1 e.2.2.2.2.2.2.2.2.1 e.2.2.2.2.2.2.2.2.2.1 e.2.2.2.2.2.2.2.2.2.2.1 e.2.2.2.2.2.2.2.2.2.2.2.1 e.2.2.2.2.2.2.2.2.2.2.2.2.1 e.2.2.2.2.2.2.2.2.2.2.2.2.2.1 e.2.2.2.2.2.2.2.2.2.2.2.2.2.2.1 e.2.2.2.2.2.2.2.2.2.2.2.2.2.2.2⟩))
theorem kT {kind2 t t2 c14 c15 s e} (h:Loop (an kind2 t t2 c14 c15) s=some e):aq tab ow (.close [6003,8006,10002,11001,11002,12002,12005,12006,13002]) fN (fj kind2 t t2 c14 c15 s)=some (fk kind2 t t2 c14 c15 e):=by
 refine lrG (fun s o h=> ?_) h
 obtain ⟨_,_,_,_,_,_,_,_,_,_,_,_,_,_,_⟩:=s
 simp only [an] at h
 simp only [fj,fk,cR,fN,je]
 have d1:= @IL
 have d2:= @eH
 have d3:= @gI
 have d4:= @rU
 have d5:= @O3
 have d6:= @GM
 exact go2
def cx (kind:Int) (claim:Ext) (rounds:(List (List Ext))) (m:Source) (m2:Int) (m3:au):Option ((List Ext)×Ext×Int×Source×Int×au):=
 (Loop (an kind rounds ((rounds.length:Nat):Int) 0 0) (([]:List Ext),0,m.Script,m.At,m.State,m.Count,m2,m3.Rounds,m3.Roots,m3.Last.A,m3.Last.B,m3.Nonce,m3.Queries,claim.A,claim.B)).bind (alt (fun e_2=>
 some (([]:List Ext),(Ext.mk 0 0),e_2.2.1,(Source.mk e_2.2.2.1 e_2.2.2.2.1 e_2.2.2.2.2.1 e_2.2.2.2.2.2.1),e_2.2.2.2.2.2.2.1,(au.mk e_2.2.2.2.2.2.2.2.1 e_2.2.2.2.2.2.2.2.2.1 (Ext.mk e_2.2.2.2.2.2.2.2.2.2.1 e_2.2.2.2.2.2.2.2.2.2.2.1) e_2.2.2.2.2.2.2.2.2.2.2.2.1 e_2.2.2.2.2.2.2.2.2.2.2.2.2.1))) (fun e_3=>
 some (e_3.1,(Ext.mk e_3.2.2.2.2.2.2.2.2.2.2.2.2.2.2.1 e_3.2.2.2.2.2.2.2.2.2.2.2.2.2.2.2),0,(Source.mk e_3.2.2.2.1 e_3.2.2.2.2.1 e_3.2.2.2.2.2.1 e_3.2.2.2.2.2.2.1),e_3.2.2.2.2.2.2.2.1,(au.mk e_3.2.2.2.2.2.2.2.2.1 e_3.2.2.2.2.2.2.2.2.2.1 (Ext.mk e_3.2.2.2.2.2.2.2.2.2.2.1 e_3.2.2.2.2.2.2.2.2.2.2.2.1) e_3.2.2.2.2.2.2.2.2.2.2.2.2.1 e_3.2.2.2.2.2.2.2.2.2.2.2.2.2.1))))
theorem my {kind claim rounds m m2 m3 r} (h:cx kind claim rounds m m2 m3=some r):Call tab ow 187 [.ptr 0 0 0 1,I kind,.agg [I claim.A,I claim.B],sl (eL eExt) rounds,.fn 188 [.ptr 1 0 0 1,.ptr 2 0 0 1,.ptr 3 0 0 1]] [⟨4,true,[[sl eExt m.Script,I m.At,S m.State,I m.Count]]⟩,⟨1,true,[[I m2]]⟩,⟨1,true,[[.ptr 0 0 0 1]]⟩,⟨6,true,[[sl (eL eExt) m3.Rounds,sl eS m3.Roots,I m3.Last.A,I m3.Last.B,I m3.Nonce,sl aE m3.Queries]]⟩]=some (.tup [sl eExt r.1,.agg [I r.2.1.A,I r.2.1.B],I r.2.2.1],[⟨4,true,[[sl eExt r.2.2.2.1.Script,I r.2.2.2.1.At,S r.2.2.2.1.State,I r.2.2.2.1.Count]]⟩,⟨1,true,[[I r.2.2.2.2.1]]⟩,⟨1,true,[[.ptr 0 0 0 1]]⟩,⟨6,true,[[sl (eL eExt) r.2.2.2.2.2.Rounds,sl eS r.2.2.2.2.2.Roots,I r.2.2.2.2.2.Last.A,I r.2.2.2.2.2.Last.B,I r.2.2.2.2.2.Nonce,sl aE r.2.2.2.2.2.Queries]]⟩]):=by
 rw [ab (af:=dA) rfl]
 unfold cx at h
 simp only [dA,hJ]
 have d1:= @kT
 exact go2
end
def nj (b2 t:List Ext) (t2 c c2:Int):Int×Int×Int→Option ((Int×Int×Int)⊕((Int×Bool×Int×Int)))
 | (t3,c3,c4)=>
   br (decide (t3<t2)) (
   (atL t t3).bind fun x=>
   (atL b2 t3).bind fun x2=>
   (bC x x2).bind fun r_2=>
   (LF).bind fun r_3=>
   (eQ r_3 x).bind fun r_4=>
   (LF).bind fun r_5=>
   (atL b2 t3).bind fun x3=>
   (eQ r_5 x3).bind fun r_6=>
   (bC r_4 r_6).bind fun r_7=>
   (dx r_2 r_7).bind fun r_8=>
   (bC (Ext.mk c3 c4) r_8).bind fun r_9=>
   some (.inl ((wrap .i64 (t3+1)),r_9.A,r_9.B))) (
   some (.inr (t3,decide (t3<t2),c3,c4)))
abbrev Gy (c c2 c3 c4:Int):List (Nat×Blk):=[(1000,⟨2,true,[[I c,I c2]]⟩),(2001,⟨2,true,[[I c3,I c4]]⟩)]
abbrev PP (b2 t:List Ext) (t2 c c2:Int) (s:Int×Int×Int):St:=⟨[(1,sl eExt b2),(4,.ptr 1000 0 0 1),(5,.ptr 2001 0 0 1),(9,sl eExt t),(10,I t2),(11,I s.1)],Gy c c2 s.2.1 s.2.2⟩
abbrev NJ (b2 t:List Ext) (t2 c c2:Int):(Int×Bool×Int×Int)→ag×St:=fun e=>(.exit 0,⟨[(1,sl eExt b2),(4,.ptr 1000 0 0 1),(5,.ptr 2001 0 0 1),(9,sl eExt t),(10,I t2),(11,I e.1),(12,B e.2.1)],Gy c c2 e.2.2.1 e.2.2.2⟩)
theorem a1U {b2 t t2 c c2 s e} (h:Loop (nj b2 t t2 c c2) s=some e):aq tab ow (.close [5003,6006,6007,6009,6010,6015,6016,6017,6018]) O8 (PP b2 t t2 c c2 s)=some (NJ b2 t t2 c c2 e):=by
 refine lrG (fun s o h=> ?_) h
 obtain ⟨_,_,_⟩:=s
 simp only [nj] at h
 simp only [PP,NJ,Gy,O8,Qd]
 have d1:= @cP
 have d2:= @MS
 have d3:= @jJ
 have d4:= @eH
 exact go2
def GW (a b:(List Ext)):Option (Ext):=
 (LF).bind fun r_=>
 (Loop (nj b a ((a.length:Nat):Int) 0 0) (0,r_.A,r_.B)).bind fun e_=>
 some (Ext.mk e_.2.2.1 e_.2.2.2)
theorem Z5 {a b r} (h:GW a b=some r):Call tab ow 189 [sl eExt a,sl eExt b] []=some (.agg [I r.A,I r.B],[]):=by
 rw [ab (af:=IF) rfl]
 unfold GW at h
 simp only [IF,NH]
 have d1:= @MS
 have d2:= @a1U
 exact go2
def yl (h_:(List UInt8)):Option (Bool):=
 (rv h_).bind fun r_=>
 some (!r_)
theorem ZK {h_ r} (h:yl h_=some r):Call tab ow 340 [S h_] []=some (B r,[]):=by
 rw [ab (af:=vU) rfl]
 unfold yl at h
 simp only [vU,KM]
 have d1:= @zN
 exact go2
def bt (s2:List (List UInt8)) (t:Int):Int→Option ((Int)⊕(Int⊕(Int×Bool)))
 |t2=>
  br (decide (t2<t)) (
  (atL s2 t2).bind fun x=>
  (yl x).bind fun r_=>
  br r_ (
  some (.inr (.inl t2))) (
  some (.inl (wrap .i64 (t2+1))))) (
  some (.inr (.inr (t2,decide (t2<t)))))
abbrev dJ (s2:List (List UInt8)) (t s:Int):St:=⟨[(0,sl eS s2),(1,.fn 340 []),(7,I t),(8,I s)],[]⟩
abbrev dK (s2:List (List UInt8)) (t:Int):(Int⊕(Int×Bool))→ag×St:=alt (fun e=>((.ret,⟨[(4,I e)],[]⟩):ag×St)) (fun e=>(.exit 0,⟨[(0,sl eS s2),(1,.fn 340 []),(7,I t),(8,I e.1),(9,B e.2)],[]⟩))
theorem j8 {s2 t s e} (h:Loop (bt s2 t) s=some e):aq tab ow (.close [5005]) ck (dJ s2 t s)=some (dK s2 t e):=by
 refine lrG (fun s o h=> ?_) h
 simp only [bt] at h
 simp only [dJ,dK,ck,dn]
 have d1:= @ZK
 exact go2
def bJ (s:(List (List UInt8))):Option (Int):=
 (Loop (bt s ((s.length:Nat):Int)) 0).bind (alt (fun e_2=>
 some e_2) (fun e_3=>
 some (-1:Int)))
theorem jC {s r} (h:bJ s=some r):Call tab ow 301 [sl eS s,.fn 340 []] []=some (I r,[]):=by
 rw [ab (af:=bk) rfl]
 unfold bJ at h
 simp only [bk,cw]
 have d1:= @j8
 exact go2
def aX (s:(List (List UInt8))):Option (Bool):=
 (bJ s).bind fun r_=>
 some (decide (r_≥0))
theorem iP {s r} (h:aX s=some r):Call tab ow 205 [sl eS s,.fn 340 []] []=some (B r,[]):=by
 rw [ab (af:=aY) rfl]
 unfold aX at h
 simp only [aY,da]
 have d1:= @jC
 exact go2
section
theorem a1e:mkR 2002 []=rws eS []:=rfl
attribute [local go_sem] a1e
theorem a1c:mkR 9004 []=rws eS []:=rfl
attribute [local go_sem] a1c
def km (i2:Int) (t:List (List UInt8)) (t2:Int):(List (List UInt8))×Int→Option (((List (List UInt8))×Int)⊕(((List (List UInt8))×Int×Bool)))
 | (l,t3)=>
   br (decide (t3<t2)) (
   (atL t t3).bind fun x=>
   br (decide (0≤t3)) (
   br (decide (t3.toNat<l.length)) (
   (l[t3.toNat]?).bind fun x2=>
   (yr x2).bind fun r_2=>
   br (decide (0≤t3)) (
   br ((bw .i64 (aM .i64 i2 t3) 1)==1) (
   (pk x r_2).bind fun r_3=>
   br (bE ((l++([r_3]:List (List UInt8))).length) 16) (
   some (.inl ((l++([r_3]:List (List UInt8))),(wrap .i64 (t3+1))))) none) (
   (pk r_2 x).bind fun r_4=>
   br (bE ((l++([r_4]:List (List UInt8))).length) 16) (
   some (.inl ((l++([r_4]:List (List UInt8))),(wrap .i64 (t3+1))))) none)) none) none) none) (
   some (.inr (l,t3,decide (t3<t2))))
abbrev LQ (i2:Int) (t:List (List UInt8)) (t2:Int) (s:(List (List UInt8))×Int):St:=⟨[(0,I i2),(7,.sl 2002 0 s.1.length),(14,sl eS t),(15,I t2),(16,I s.2)],[(2002,⟨1,false,rws eS s.1⟩)]⟩
abbrev Lu (i2:Int) (t:List (List UInt8)) (t2:Int):((List (List UInt8))×Int×Bool)→ag×St:=fun e=>(.exit 0,⟨[(0,I i2),(7,.sl 2002 0 e.1.length),(14,sl eS t),(15,I t2),(16,I e.2.1),(17,B e.2.2)],[(2002,⟨1,false,rws eS e.1⟩)]⟩)
theorem XS {i2 t t2 s e} (h:Loop (km i2 t t2) s=some e):aq tab ow (.close [6004,9003,9004,9005]) LA (LQ i2 t t2 s)=some (Lu i2 t t2 e):=by
 refine lrG (fun s o h=> ?_) h
 obtain ⟨_,_⟩:=s
 simp only [km] at h
 simp only [LQ,Lu,LA,LB]
 have d1:= @Oj
 have d2:= @Wj
 exact go2
def IX (i:Int) (leaf:(List UInt8)) (path:(List (List UInt8))):Option ((List (List UInt8))):=
 (uA leaf).bind fun r_=>
 (Loop (km i path ((path.length:Nat):Int)) (([r_]:List (List UInt8)),0)).bind fun e_=>
 some e_.1
theorem a6t {i leaf path r} (h:IX i leaf path=some r):Call tab ow 341 [I i,S leaf,sl eS path] []=some (sl eS r,[]):=by
 rw [ab (af:=DH) rfl]
 unfold IX at h
 simp only [DH,KF]
 have d1:= @X8
 have d2:= @XS
 exact go2
end
def DJ (root:(List UInt8)) (n i:Int) (leaf:(List UInt8)) (path:(List (List UInt8))):Option (Bool):=
 br (decide (((leaf.length:Nat):Int)>64)) (
 some false) (
 (J1 n).bind fun r_=>
 br (((path.length:Nat):Int) !=r_) (
 some false) (
 (aX path).bind fun r_2=>
 br r_2 (
 some false) (
 (IX i leaf path).bind fun r_3=>
 (atL r_3 (wrap .i64 (((r_3.length:Nat):Int)-1))).bind fun x=>
 (yr x).bind fun r_4=>
 some (r_4==root))))
theorem a6x {root n i leaf path r} (h:DJ root n i leaf path=some r):Call tab ow 296 [S root,I n,I i,S leaf,sl eS path] []=some (B r,[]):=by
 rw [ab (af:=DM) rfl]
 unfold DJ at h
 simp only [DM,T0]
 have d1:= @T6
 have d2:= @iP
 have d3:= @a6t
 have d4:= @Oj
 exact go2
section
theorem MM:mkR 8006 []=rws eExt []:=rfl
attribute [local go_sem] MM
def cS (t:List Ext) (t2:Int) (t4:List (List UInt8)) (t5:Int) (c:List (List Ext)) (c2:List (List UInt8)) (c3 c4 c5:Int) (c6:List aj) (c7:List Ext) (c8:List (List (List UInt8))):Int×Int×Int×Int→Option ((Int×Int×Int×Int)⊕((Int×Int×Int×Int×Int×Int)⊕(Int×Int×Int×Int×Int×Int×Int×Int)⊕(Int×Int×Bool×Int×Int)))
 | (t3,t6,c9,c10)=>
   br (decide (t6<t5)) (
   (atL t4 t6).bind fun x=>
   br (decide (0≤t6)) (
   br (decide ((wrap .i64 ((aM .i64 t2 t6).tdiv 2))≠0)) (
   (atL c7 (wrap .i64 (2*t6))).bind fun x2=>
   (atL c7 (wrap .i64 ((wrap .i64 (2*t6))+1))).bind fun x3=>
   (oZ ([x2,x3]:List Ext)).bind fun r_=>
   (atL c8 t6).bind fun x4=>
   (DJ x (wrap .i64 ((aM .i64 t2 t6).tdiv 2)) (t3.tmod (wrap .i64 ((aM .i64 t2 t6).tdiv 2))) r_ x4).bind fun r_2=>
   br (!r_2) (
   some (.inr (.inl (c9,c10,x2.A,x2.B,x3.A,x3.B)))) (
   br (decide (t3≥(wrap .i64 ((aM .i64 t2 t6).tdiv 2)))) (
   br (decide (t6>0)) (
   br (x3.A==c9) (
   br (x3.B==c10) (
   (atL t t6).bind fun x5=>
   (ko (aM .i64 t2 t6) (t3.tmod (wrap .i64 ((aM .i64 t2 t6).tdiv 2))) x2 x3 x5).bind fun r_3=>
   some (.inl ((t3.tmod (wrap .i64 ((aM .i64 t2 t6).tdiv 2))),(wrap .i64 (t6+1)),r_3.A,r_3.B))) (
   some (.inr (.inr (.inl (c9,c10,x2.A,x2.B,x3.A,x3.B,x3.A,x3.B)))))) (
   some (.inr (.inr (.inl (c9,c10,x2.A,x2.B,x3.A,x3.B,x3.A,x3.B)))))) (
   (atL t t6).bind fun x6=>
   (ko (aM .i64 t2 t6) (t3.tmod (wrap .i64 ((aM .i64 t2 t6).tdiv 2))) x2 x3 x6).bind fun r_4=>
   some (.inl ((t3.tmod (wrap .i64 ((aM .i64 t2 t6).tdiv 2))),(wrap .i64 (t6+1)),r_4.A,r_4.B)))) (
   br (decide (t6>0)) (
   br (x2.A==c9) (
   br (x2.B==c10) (
   (atL t t6).bind fun x7=>
   (ko (aM .i64 t2 t6) (t3.tmod (wrap .i64 ((aM .i64 t2 t6).tdiv 2))) x2 x3 x7).bind fun r_5=>
   some (.inl ((t3.tmod (wrap .i64 ((aM .i64 t2 t6).tdiv 2))),(wrap .i64 (t6+1)),r_5.A,r_5.B))) (
   some (.inr (.inr (.inl (c9,c10,x2.A,x2.B,x3.A,x3.B,x2.A,x2.B)))))) (
   some (.inr (.inr (.inl (c9,c10,x2.A,x2.B,x3.A,x3.B,x2.A,x2.B)))))) (
   (atL t t6).bind fun x8=>
   (ko (aM .i64 t2 t6) (t3.tmod (wrap .i64 ((aM .i64 t2 t6).tdiv 2))) x2 x3 x8).bind fun r_6=>
   some (.inl ((t3.tmod (wrap .i64 ((aM .i64 t2 t6).tdiv 2))),(wrap .i64 (t6+1)),r_6.A,r_6.B)))))) none) none) (
   some (.inr (.inr (.inr (t3,t6,decide (t6<t5),c9,c10)))))
abbrev p5 (c:List (List Ext)) (c2:List (List UInt8)) (c3 c4 c5:Int) (c6:List aj) (c7:List Ext) (c8:List (List (List UInt8))) (c9 c10:Int):List (Nat×Blk):=[(1000,⟨6,true,[[sl (eL eExt) c,sl eS c2,I c3,I c4,I c5,sl aE c6]]⟩),(1001,⟨2,true,[[sl eExt c7,sl (eL eS) c8]]⟩),(2001,⟨2,true,[[I c9,I c10]]⟩)]
abbrev xS (t:List Ext) (t2:Int) (t4:List (List UInt8)) (t5:Int) (c:List (List Ext)) (c2:List (List UInt8)) (c3 c4 c5:Int) (c6:List aj) (c7:List Ext) (c8:List (List (List UInt8))) (s:Int×Int×Int×Int):St:=⟨[(1,sl eExt t),(2,I t2),(3,I s.1),(10,.ptr 1000 0 0 1),(11,.ptr 1001 0 0 1),(13,.ptr 2001 0 0 1),(22,sl eS t4),(23,I t5),(24,I s.2.1)],p5 c c2 c3 c4 c5 c6 c7 c8 s.2.2.1 s.2.2.2⟩
abbrev xx (t:List Ext) (t2:Int) (t4:List (List UInt8)) (t5:Int) (c:List (List Ext)) (c2:List (List UInt8)) (c3 c4 c5:Int) (c6:List aj) (c7:List Ext) (c8:List (List (List UInt8))):((Int×Int×Int×Int×Int×Int)⊕(Int×Int×Int×Int×Int×Int×Int×Int)⊕(Int×Int×Bool×Int×Int))→ag×St:=alt (fun e=>((.ret,⟨[(12,I 9)],[(1000,⟨6,true,[[sl (eL eExt) c,sl eS c2,I c3,I c4,I c5,sl aE c6]]⟩),(1001,⟨2,true,[[sl eExt c7,sl (eL eS) c8]]⟩),(2001,⟨2,true,[[I e.1,I e.2.1]]⟩),(7017,⟨2,true,[[I e.2.2.1,I e.2.2.2.1]]⟩),(7018,⟨2,true,[[I e.2.2.2.2.1,I e.2.2.2.2.2]]⟩),(8006,jR)]⟩):ag×St)) (alt (fun e=>((.ret,⟨[(12,I 12)],[(1000,⟨6,true,[[sl (eL eExt) c,sl eS c2,I c3,I c4,I c5,sl aE c6]]⟩),(1001,⟨2,true,[[sl eExt c7,sl (eL eS) c8]]⟩),(2001,⟨2,true,[[I e.1,I e.2.1]]⟩),(7017,⟨2,true,[[I e.2.2.1,I e.2.2.2.1]]⟩),(7018,⟨2,true,[[I e.2.2.2.2.1,I e.2.2.2.2.2.1]]⟩),(8006,jR),(10001,⟨2,true,[[I e.2.2.2.2.2.2.1,I e.2.2.2.2.2.2.2]]⟩)]⟩):ag×St)) (fun e=>(.exit 0,⟨[(1,sl eExt t),(2,I t2),(3,I e.1),(10,.ptr 1000 0 0 1),(11,.ptr 1001 0 0 1),(13,.ptr 2001 0 0 1),(22,sl eS t4),(23,I t5),(24,I e.2.1),(25,B e.2.2.1)],p5 c c2 c3 c4 c5 c6 c7 c8 e.2.2.2.1 e.2.2.2.2⟩)))
theorem K3 {t t2 t4 t5 c c2 c3 c4 c5 c6 c7 c8 s e} (h:Loop (cS t t2 t4 t5 c c2 c3 c4 c5 c6 c7 c8) s=some e):aq tab ow (.close [7017,7018,8006,8007,8014,10001,15008]) y7 (xS t t2 t4 t5 c c2 c3 c4 c5 c6 c7 c8 s)=some (xx t t2 t4 t5 c c2 c3 c4 c5 c6 c7 c8 e):=by
 refine lrG (fun s o h=> ?_) h
 obtain ⟨_,_,_,_⟩:=s
 simp only [cS] at h
 simp only [xS,xx,p5,y7,xL]
 have d1:= @HL
 have d2:= @a6x
 have d3:= @W2
 exact go2
def tp (ListtoArray:(List (List UInt8))) (a:(List Ext)) (a2 a3:Int) (a4:au) (a5:aj):Option (Int):=
 (Loop (cS a a2 ListtoArray ((ListtoArray.length:Nat):Int) a4.Rounds a4.Roots a4.Last.A a4.Last.B a4.Nonce a4.Queries a5.Pairs a5.Paths) (a3,0,0,0)).bind (alt (fun e_2=>
 some 9) (alt (fun e_3=>
 some 12) (fun e_4=>
 br (e_4.2.2.2.1==a4.Last.A) (
 br (e_4.2.2.2.2==a4.Last.B) (
 some 0) (
 some 13)) (
 some 13))))
theorem Q8 {ListtoArray a a2 a3 a4 a5 r} (h:tp ListtoArray a a2 a3 a4 a5=some r):Call tab ow 191 [sl eS ListtoArray,sl eExt a,I a2,I a3,.agg [sl (eL eExt) a4.Rounds,sl eS a4.Roots,I a4.Last.A,I a4.Last.B,I a4.Nonce,sl aE a4.Queries],.agg [sl eExt a5.Pairs,sl (eL eS) a5.Paths]] []=some (I r,[]):=by
 rw [ab (af:=o6) rfl]
 unfold tp at h
 simp only [o6,uH]
 have d1:= @K3
 exact go2
end
section
theorem HP:mkR 8003 []=rws eExt []:=rfl
attribute [local go_sem] HP
theorem HO:mkR 12006 []=rws eS []:=rfl
attribute [local go_sem] HO
def cM (l:List (List UInt8)) (t:List Ext) (t2:Int) (t3:List Int) (t4:Int) (c:List Ext) (c2:Int) (c3:List UInt8) (c4 c5 c6 c7 c8 c9:Int) (c10:List (List Ext)) (c11:List (List UInt8)) (c12 c13 c14:Int) (c15:List aj) (c16 c17 c18:Int):Int→Option ((Int)⊕(Int⊕(Int×Bool)))
 |t5=>
  br (decide (t5<t4)) (
  (atL t3 t5).bind fun x=>
  (atL c15 t5).bind fun x2=>
  (tp l t t2 x (au.mk c10 c11 (Ext.mk c12 c13) c14 c15) x2).bind fun r_10=>
  br (r_10 !=0) (
  some (.inr (.inl r_10))) (
  some (.inl (wrap .i64 (t5+1))))) (
  some (.inr (.inr (t5,decide (t5<t4)))))
abbrev jm (l:List (List UInt8)) (c:List Ext) (c2:Int) (c3:List UInt8) (c4 c5 c6 c7 c8 c9:Int) (c10:List (List Ext)) (c11:List (List UInt8)) (c12 c13 c14:Int) (c15:List aj) (c16 c17 c18:Int):List (Nat×Blk):=[(0,⟨4,true,[[sl eExt c,I c2,S c3,I c4]]⟩),(1000,⟨1,true,[[.ptr 0 0 0 1]]⟩),(1001,⟨2,true,[[I c5,I c6]]⟩),(1002,⟨3,true,[[I c7,I c8,I c9]]⟩),(1003,⟨6,true,[[sl (eL eExt) c10,sl eS c11,I c12,I c13,I c14,sl aE c15]]⟩),(2002,⟨1,true,[[I c16]]⟩),(3010,⟨2,true,[[I c17,I c18]]⟩),(8003,jR),(12006,⟨1,false,rws eS l⟩)]
abbrev ut (l:List (List UInt8)) (t:List Ext) (t2:Int) (t3:List Int) (t4:Int) (c:List Ext) (c2:Int) (c3:List UInt8) (c4 c5 c6 c7 c8 c9:Int) (c10:List (List Ext)) (c11:List (List UInt8)) (c12 c13 c14:Int) (c15:List aj) (c16 c17 c18 s:Int):St:=⟨[(11,.ptr 1003 0 0 1),(14,sl eExt t),(17,I t2),(18,.sl 12006 0 l.length),(82,sl eI t3),(83,I t4),(84,I s)],jm l c c2 c3 c4 c5 c6 c7 c8 c9 c10 c11 c12 c13 c14 c15 c16 c17 c18⟩
abbrev uk (l:List (List UInt8)) (t:List Ext) (t2:Int) (t3:List Int) (t4:Int) (c:List Ext) (c2:Int) (c3:List UInt8) (c4 c5 c6 c7 c8 c9:Int) (c10:List (List Ext)) (c11:List (List UInt8)) (c12 c13 c14:Int) (c15:List aj) (c16 c17 c18:Int):(Int⊕(Int×Bool))→ag×St:=alt (fun e=>((.ret,⟨[(12,I e)],jm l c c2 c3 c4 c5 c6 c7 c8 c9 c10 c11 c12 c13 c14 c15 c16 c17 c18⟩):ag×St)) (fun e=>(.exit 1,⟨[(11,.ptr 1003 0 0 1),(14,sl eExt t),(17,I t2),(18,.sl 12006 0 l.length),(82,sl eI t3),(83,I t4),(84,I e.1),(85,B e.2)],jm l c c2 c3 c4 c5 c6 c7 c8 c9 c10 c11 c12 c13 c14 c15 c16 c17 c18⟩))
theorem H8 {l t t2 t3 t4 c c2 c3 c4 c5 c6 c7 c8 c9 c10 c11 c12 c13 c14 c15 c16 c17 c18 s e} (h:Loop (cM l t t2 t3 t4 c c2 c3 c4 c5 c6 c7 c8 c9 c10 c11 c12 c13 c14 c15 c16 c17 c18) s=some e):aq tab ow (.close [16010]) sr (ut l t t2 t3 t4 c c2 c3 c4 c5 c6 c7 c8 c9 c10 c11 c12 c13 c14 c15 c16 c17 c18 s)=some (uk l t t2 t3 t4 c c2 c3 c4 c5 c6 c7 c8 c9 c10 c11 c12 c13 c14 c15 c16 c17 c18 e):=by
 refine lrG (fun s o h=> ?_) h
 simp only [cM] at h
 simp only [ut,uk,jm,sr,si]
 have d1:= @Q8
 exact go2
def kj (a:(List UInt8)) (a2:(List Ext)) (a3:Ext) (a4:Setting) (a5:au) (m:Source):Option (Int×Source):=
 (cx 1 a3 a5.Rounds m ((a2.length:Nat):Int) a5).bind fun r_=>
 br (r_.2.2.1 !=0) (
 some (r_.2.2.1,r_.2.2.2.1)) (
 (GW r_.1 a2).bind fun r_2=>
 (bC r_.2.2.2.2.2.Last r_2).bind fun r_3=>
 br (r_3.A==r_.2.1.A) (
 br (r_3.B==r_.2.1.B) (
 (bu ([r_.2.2.2.2.2.Last]:List Ext) r_.2.2.2.1).bind fun r_4=>
 (lX r_4 a4.Grind r_.2.2.2.2.2.Nonce).bind fun r_5=>
 br (!r_5) (
 some (14,r_4)) (
 (De r_.2.2.2.2.2.Nonce).bind fun r_6=>
 (du r_6 r_4).bind fun r_7=>
 br (decide (0≤(wrap .i64 (r_.2.2.2.2.1+a4.Rate)))) (
 br (bE ((([a]:List (List UInt8))++r_.2.2.2.2.2.Roots).length) 16) (
 (gw a4.Queries r_7).bind fun r_8=>
 (BG r_8.1 (wrap .i64 ((aD .i64 1 (wrap .i64 (r_.2.2.2.2.1+a4.Rate))).tdiv 2))).bind fun r_9=>
 (Loop (cM (([a]:List (List UInt8))++r_.2.2.2.2.2.Roots) r_.1 (aD .i64 1 (wrap .i64 (r_.2.2.2.2.1+a4.Rate))) r_9 ((r_9.length:Nat):Int) r_8.2.Script r_8.2.At r_8.2.State r_8.2.Count a3.A a3.B a4.Rate a4.Queries a4.Grind r_.2.2.2.2.2.Rounds r_.2.2.2.2.2.Roots r_.2.2.2.2.2.Last.A r_.2.2.2.2.2.Last.B r_.2.2.2.2.2.Nonce r_.2.2.2.2.2.Queries r_.2.2.2.2.1 r_.2.1.A r_.2.1.B) 0).bind (alt (fun e_2=>
 some (e_2,r_8.2)) (fun e_3=>
 some (0,r_8.2)))) none) none)) (
 some (11,r_.2.2.2.1))) (
 some (11,r_.2.2.2.1)))
theorem JW {a a2 a3 a4 a5 m r} (h:kj a a2 a3 a4 a5 m=some r):Call tab ow 92 [.ptr 0 0 0 1,S a,sl eExt a2,.agg [I a3.A,I a3.B],.agg [I a4.Rate,I a4.Queries,I a4.Grind],.agg [sl (eL eExt) a5.Rounds,sl eS a5.Roots,I a5.Last.A,I a5.Last.B,I a5.Nonce,sl aE a5.Queries]] [⟨4,true,[[sl eExt m.Script,I m.At,S m.State,I m.Count]]⟩]=some (I r.1,[⟨4,true,[[sl eExt r.2.Script,I r.2.At,S r.2.State,I r.2.Count]]⟩]):=by
 rw [ab (af:=kZ) rfl]
 unfold kj at h
 simp only [kZ,pb]
 have d1:= @my
 have d2:= @Z5
 have d3:= @cP
 have d4:= @gI
 have d5:= @MD
 have d6:= @IB
 have d7:= @jY
 have d8:= @yk
 have d9:= @a25
 have d10:= @H8
 exact go2
end
def ft (t:Int) (c:List (List Ext)) (c2:List (List UInt8)) (c3 c4 c5:Int) (c6:List aj) (c7 c8 c9:Int):Int→Option ((Int)⊕(Unit⊕(Int×Bool)))
 |t2=>
  br (decide (t2<t)) (
  (atL c t2).bind fun x=>
  br (((x.length:Nat):Int) !=3) (
  some (.inr (.inl ()))) (
  (atL c t2).bind fun x2=>
  (gU x2).bind fun r_5=>
  br (!r_5) (
  some (.inr (.inl ()))) (
  br (decide (t2>0)) (
  (atL c2 (wrap .i64 (t2-1))).bind fun x3=>
  br (((x3.length:Nat):Int) !=32) (
  some (.inr (.inl ()))) (
  some (.inl (wrap .i64 (t2+1))))) (
  some (.inl (wrap .i64 (t2+1))))))) (
  some (.inr (.inr (t2,decide (t2<t)))))
abbrev mG (c:List (List Ext)) (c2:List (List UInt8)) (c3 c4 c5:Int) (c6:List aj) (c7 c8 c9:Int):List (Nat×Blk):=[(1000,⟨6,true,[[sl (eL eExt) c,sl eS c2,I c3,I c4,I c5,sl aE c6]]⟩),(1001,⟨3,true,[[I c7,I c8,I c9]]⟩)]
abbrev B6 (t:Int) (c:List (List Ext)) (c2:List (List UInt8)) (c3 c4 c5:Int) (c6:List aj) (c7 c8 c9 s:Int):St:=⟨[(1,I t),(3,.ptr 1000 0 0 1),(5,.ptr 1001 0 0 1),(7,I s)],mG c c2 c3 c4 c5 c6 c7 c8 c9⟩
abbrev AN (t:Int) (c:List (List Ext)) (c2:List (List UInt8)) (c3 c4 c5:Int) (c6:List aj) (c7 c8 c9:Int):(Unit⊕(Int×Bool))→ag×St:=alt (fun e=>((.ret,⟨[(6,B false)],mG c c2 c3 c4 c5 c6 c7 c8 c9⟩):ag×St)) (fun e=>(.exit 0,⟨[(1,I t),(3,.ptr 1000 0 0 1),(5,.ptr 1001 0 0 1),(7,I e.1),(57,B e.2)],mG c c2 c3 c4 c5 c6 c7 c8 c9⟩))
theorem Mk {t c c2 c3 c4 c5 c6 c7 c8 c9 s e} (h:Loop (ft t c c2 c3 c4 c5 c6 c7 c8 c9) s=some e):aq tab ow (.close [7013]) Aq (B6 t c c2 c3 c4 c5 c6 c7 c8 c9 s)=some (AN t c c2 c3 c4 c5 c6 c7 c8 c9 e):=by
 refine lrG (fun s o h=> ?_) h
 simp only [ft] at h
 simp only [B6,AN,mG,Aq,A7]
 have d1:= @kC
 exact go2
def fq (t8 t9 t10:Int) (c30:List (List Ext)) (c31:List (List UInt8)) (c32 c33 c34:Int) (c35:List aj) (c36 c37 c38:Int) (c39:List Ext) (c40:List (List (List UInt8))):Int→Option ((Int)⊕(Unit⊕(Int×Bool)))
 |t11=>
  (atL c40 t10).bind fun x6=>
  br (decide (t11<((x6.length:Nat):Int))) (
  (atL c40 t10).bind fun x7=>
  (atL x7 t11).bind fun x8=>
  br (((x8.length:Nat):Int) !=32) (
  some (.inr (.inl ()))) (
  some (.inl (wrap .i64 (t11+1))))) (
  some (.inr (.inr (t11,decide (t11<((x6.length:Nat):Int))))))
abbrev mZ (c30:List (List Ext)) (c31:List (List UInt8)) (c32 c33 c34:Int) (c35:List aj) (c36 c37 c38:Int) (c39:List Ext) (c40:List (List (List UInt8))):List (Nat×Blk):=[(1000,⟨6,true,[[sl (eL eExt) c30,sl eS c31,I c32,I c33,I c34,sl aE c35]]⟩),(1001,⟨3,true,[[I c36,I c37,I c38]]⟩),(12005,⟨2,true,[[sl eExt c39,sl (eL eS) c40]]⟩)]
abbrev Bc (t8 t9 t10:Int) (c30:List (List Ext)) (c31:List (List UInt8)) (c32 c33 c34:Int) (c35:List aj) (c36 c37 c38:Int) (c39:List Ext) (c40:List (List (List UInt8))) (s:Int):St:=⟨[(1,I t8),(3,.ptr 1000 0 0 1),(5,.ptr 1001 0 0 1),(8,I t9),(9,.ptr 12005 0 0 1),(10,I t10),(11,I s)],mZ c30 c31 c32 c33 c34 c35 c36 c37 c38 c39 c40⟩
abbrev AK (t8 t9 t10:Int) (c30:List (List Ext)) (c31:List (List UInt8)) (c32 c33 c34:Int) (c35:List aj) (c36 c37 c38:Int) (c39:List Ext) (c40:List (List (List UInt8))):(Unit⊕(Int×Bool))→ag×St:=alt (fun e=>((.ret,⟨[(6,B false)],mZ c30 c31 c32 c33 c34 c35 c36 c37 c38 c39 c40⟩):ag×St)) (fun e=>(.exit 6,⟨[(1,I t8),(3,.ptr 1000 0 0 1),(5,.ptr 1001 0 0 1),(8,I t9),(9,.ptr 12005 0 0 1),(10,I t10),(11,I e.1),(147,B e.2)],mZ c30 c31 c32 c33 c34 c35 c36 c37 c38 c39 c40⟩))
theorem MP {t8 t9 t10 c30 c31 c32 c33 c34 c35 c36 c37 c38 c39 c40 s e} (h:Loop (fq t8 t9 t10 c30 c31 c32 c33 c34 c35 c36 c37 c38 c39 c40) s=some e):aq tab ow (.close []) xH (Bc t8 t9 t10 c30 c31 c32 c33 c34 c35 c36 c37 c38 c39 c40 s)=some (AK t8 t9 t10 c30 c31 c32 c33 c34 c35 c36 c37 c38 c39 c40 e):=by
 refine lrG (fun s o h=> ?_) h
 simp only [fq] at h
 simp only [Bc,AK,mZ,xH,yf]
 exact go2
def fA (t5 t6:Int) (c19:List (List Ext)) (c20:List (List UInt8)) (c21 c22 c23:Int) (c24:List aj) (c25 c26 c27:Int) (c28:List Ext) (c29:List (List (List UInt8))):Int→Option ((Int)⊕(Unit⊕(Int×Bool)))
 |t7=>
  br (decide (t7<t5)) (
  (atL c29 t7).bind fun x5=>
  br (((x5.length:Nat):Int) !=(wrap .i64 ((wrap .i64 ((wrap .i64 (t5+c25))-1))-t7))) (
  some (.inr (.inl ()))) (
  (Loop (fq t5 t6 t7 c19 c20 c21 c22 c23 c24 c25 c26 c27 c28 c29) 0).bind (alt (fun e_5=>
  some (.inr (.inl ()))) (fun e_6=>
  some (.inl (wrap .i64 (t7+1))))))) (
  some (.inr (.inr (t7,decide (t7<t5)))))
abbrev n7 (c19:List (List Ext)) (c20:List (List UInt8)) (c21 c22 c23:Int) (c24:List aj) (c25 c26 c27:Int) (c28:List Ext) (c29:List (List (List UInt8))):List (Nat×Blk):=[(1000,⟨6,true,[[sl (eL eExt) c19,sl eS c20,I c21,I c22,I c23,sl aE c24]]⟩),(1001,⟨3,true,[[I c25,I c26,I c27]]⟩),(12005,⟨2,true,[[sl eExt c28,sl (eL eS) c29]]⟩)]
abbrev AZ (t5 t6:Int) (c19:List (List Ext)) (c20:List (List UInt8)) (c21 c22 c23:Int) (c24:List aj) (c25 c26 c27:Int) (c28:List Ext) (c29:List (List (List UInt8))) (s:Int):St:=⟨[(1,I t5),(3,.ptr 1000 0 0 1),(5,.ptr 1001 0 0 1),(8,I t6),(9,.ptr 12005 0 0 1),(10,I s)],n7 c19 c20 c21 c22 c23 c24 c25 c26 c27 c28 c29⟩
abbrev AL (t5 t6:Int) (c19:List (List Ext)) (c20:List (List UInt8)) (c21 c22 c23:Int) (c24:List aj) (c25 c26 c27:Int) (c28:List Ext) (c29:List (List (List UInt8))):(Unit⊕(Int×Bool))→ag×St:=alt (fun e=>((.ret,⟨[(6,B false)],n7 c19 c20 c21 c22 c23 c24 c25 c26 c27 c28 c29⟩):ag×St)) (fun e=>(.exit 4,⟨[(1,I t5),(3,.ptr 1000 0 0 1),(5,.ptr 1001 0 0 1),(8,I t6),(9,.ptr 12005 0 0 1),(10,I e.1),(123,B e.2)],n7 c19 c20 c21 c22 c23 c24 c25 c26 c27 c28 c29⟩))
theorem Mp {t5 t6 c19 c20 c21 c22 c23 c24 c25 c26 c27 c28 c29 s e} (h:Loop (fA t5 t6 c19 c20 c21 c22 c23 c24 c25 c26 c27 c28 c29) s=some e):aq tab ow (.close []) yo (AZ t5 t6 c19 c20 c21 c22 c23 c24 c25 c26 c27 c28 c29 s)=some (AL t5 t6 c19 c20 c21 c22 c23 c24 c25 c26 c27 c28 c29 e):=by
 refine lrG (fun s o h=> ?_) h
 simp only [fA] at h
 simp only [AZ,AL,n7,yo,xq]
 have d1:= @MP
 exact go2
def ee (t3:Int) (c10:List (List Ext)) (c11:List (List UInt8)) (c12 c13 c14:Int) (c15:List aj) (c16 c17 c18:Int):Int→Option ((Int)⊕(((List Ext)×(List (List (List UInt8))))⊕(Int×Bool)))
 |t4=>
  br (decide (t4<((c15.length:Nat):Int))) (
  (atL c15 t4).bind fun x4=>
  br (((x4.Pairs.length:Nat):Int) !=(wrap .i64 (2*t3))) (
  some (.inr (.inl (x4.Pairs,x4.Paths)))) (
  (gU x4.Pairs).bind fun r_6=>
  br (!r_6) (
  some (.inr (.inl (x4.Pairs,x4.Paths)))) (
  br (((x4.Paths.length:Nat):Int) !=t3) (
  some (.inr (.inl (x4.Pairs,x4.Paths)))) (
  (Loop (fA t3 t4 c10 c11 c12 c13 c14 c15 c16 c17 c18 x4.Pairs x4.Paths) 0).bind (alt (fun e_8=>
  some (.inr (.inl (x4.Pairs,x4.Paths)))) (fun e_9=>
  some (.inl (wrap .i64 (t4+1))))))))) (
  some (.inr (.inr (t4,decide (t4<((c15.length:Nat):Int))))))
abbrev sa (c10:List (List Ext)) (c11:List (List UInt8)) (c12 c13 c14:Int) (c15:List aj) (c16 c17 c18:Int):List (Nat×Blk):=[(1000,⟨6,true,[[sl (eL eExt) c10,sl eS c11,I c12,I c13,I c14,sl aE c15]]⟩),(1001,⟨3,true,[[I c16,I c17,I c18]]⟩)]
abbrev Ab (t3:Int) (c10:List (List Ext)) (c11:List (List UInt8)) (c12 c13 c14:Int) (c15:List aj) (c16 c17 c18 s:Int):St:=⟨[(1,I t3),(3,.ptr 1000 0 0 1),(5,.ptr 1001 0 0 1),(8,I s)],sa c10 c11 c12 c13 c14 c15 c16 c17 c18⟩
abbrev Am (t3:Int) (c10:List (List Ext)) (c11:List (List UInt8)) (c12 c13 c14:Int) (c15:List aj) (c16 c17 c18:Int):(((List Ext)×(List (List (List UInt8))))⊕(Int×Bool))→ag×St:=alt (fun e=>((.ret,⟨[(6,B false)],[(1000,⟨6,true,[[sl (eL eExt) c10,sl eS c11,I c12,I c13,I c14,sl aE c15]]⟩),(1001,⟨3,true,[[I c16,I c17,I c18]]⟩),(12005,⟨2,true,[[sl eExt e.1,sl (eL eS) e.2]]⟩)]⟩):ag×St)) (fun e=>(.exit 2,⟨[(1,I t3),(3,.ptr 1000 0 0 1),(5,.ptr 1001 0 0 1),(8,I e.1),(94,B e.2)],sa c10 c11 c12 c13 c14 c15 c16 c17 c18⟩))
theorem MN {t3 c10 c11 c12 c13 c14 c15 c16 c17 c18 s e} (h:Loop (ee t3 c10 c11 c12 c13 c14 c15 c16 c17 c18) s=some e):aq tab ow (.close [12005,13009]) B3 (Ab t3 c10 c11 c12 c13 c14 c15 c16 c17 c18 s)=some (Am t3 c10 c11 c12 c13 c14 c15 c16 c17 c18 e):=by
 refine lrG (fun s o h=> ?_) h
 simp only [ee] at h
 simp only [Ab,Am,sa,B3,Ad]
 have d1:= @kC
 have d2:= @Mp
 exact go2
def qO (ListtoArray:au) (a:Int) (a2:Setting):Option (Bool):=
 (ff a 1 6).bind fun r_=>
 br (!r_) (
 some false) (
 (kK a2).bind fun r_2=>
 br (!r_2) (
 some false) (
 br (((ListtoArray.Rounds.length:Nat):Int) !=a) (
 some false) (
 br (((ListtoArray.Roots.length:Nat):Int) !=(wrap .i64 (a-1))) (
 some false) (
 br (((ListtoArray.Queries.length:Nat):Int) !=a2.Queries) (
 some false) (
 (zF ListtoArray.Last).bind fun r_3=>
 br (!r_3) (
 some false) (
 (ff ListtoArray.Nonce 0 65535).bind fun r_4=>
 br (!r_4) (
 some false) (
 (Loop (ft a ListtoArray.Rounds ListtoArray.Roots ListtoArray.Last.A ListtoArray.Last.B ListtoArray.Nonce ListtoArray.Queries a2.Rate a2.Queries a2.Grind) 0).bind (alt (fun e_2=>
 some false) (fun e_3=>
 (Loop (ee a ListtoArray.Rounds ListtoArray.Roots ListtoArray.Last.A ListtoArray.Last.B ListtoArray.Nonce ListtoArray.Queries a2.Rate a2.Queries a2.Grind) 0).bind (alt (fun e_11=>
 some false) (fun e_12=>
 some true)))))))))))
theorem QX {ListtoArray a a2 r} (h:qO ListtoArray a a2=some r):Call tab ow 28 [.agg [sl (eL eExt) ListtoArray.Rounds,sl eS ListtoArray.Roots,I ListtoArray.Last.A,I ListtoArray.Last.B,I ListtoArray.Nonce,sl aE ListtoArray.Queries],I a,.agg [I a2.Rate,I a2.Queries,I a2.Grind]] []=some (B r,[]):=by
 rw [ab (af:=pT) rfl]
 unfold qO at h
 simp only [pT,jH]
 have d1:= @tF
 have d2:= @wO
 have d3:= @Tb
 have d4:= @Mk
 have d5:= @MN
 exact go2
def it (values3:List Ext) (i2 c7 c8 c9 c10 c11 c12:Int):Int×Int×Int×Int→Option ((Int×Int×Int×Int)⊕((Int×Int×Bool×Int×Int)))
 | (d,k,c13,c14)=>
   br (decide (k<((values3.length:Nat):Int))) (
   br (k !=i2) (
   (oz k).bind fun r_=>
   (rz (Ext.mk c7 c8) r_).bind fun r_2=>
   (bW (Ext.mk c13 c14) r_2).bind fun r_3=>
   (u5 i2 k).bind fun r_4=>
   (j2 d r_4).bind fun r_5=>
   some (.inl (r_5,(wrap .i64 (k+1)),r_3.A,r_3.B))) (
   some (.inl (d,(wrap .i64 (k+1)),c13,c14)))) (
   some (.inr (d,k,decide (k<((values3.length:Nat):Int)),c13,c14)))
abbrev xf (c7 c8 c9 c10 c11 c12 c13 c14:Int):List (Nat×Blk):=[(1000,⟨2,true,[[I c7,I c8]]⟩),(1001,⟨2,true,[[I c9,I c10]]⟩),(2001,⟨2,true,[[I c11,I c12]]⟩),(6004,⟨2,true,[[I c13,I c14]]⟩)]
abbrev G2 (values3:List Ext) (i2 c7 c8 c9 c10 c11 c12:Int) (s:Int×Int×Int×Int):St:=⟨[(0,sl eExt values3),(3,.ptr 1000 0 0 1),(4,.ptr 1001 0 0 1),(5,.ptr 2001 0 0 1),(6,I i2),(7,.ptr 6004 0 0 1),(8,I s.1),(9,I s.2.1)],xf c7 c8 c9 c10 c11 c12 s.2.2.1 s.2.2.2⟩
abbrev EI (values3:List Ext) (i2 c7 c8 c9 c10 c11 c12:Int):(Int×Int×Bool×Int×Int)→ag×St:=fun e=>(.exit 2,⟨[(0,sl eExt values3),(3,.ptr 1000 0 0 1),(4,.ptr 1001 0 0 1),(5,.ptr 2001 0 0 1),(6,I i2),(7,.ptr 6004 0 0 1),(8,I e.1),(9,I e.2.1),(24,B e.2.2.1)],xf c7 c8 c9 c10 c11 c12 e.2.2.2.1 e.2.2.2.2⟩)
theorem SG {values3 i2 c7 c8 c9 c10 c11 c12 s e} (h:Loop (it values3 i2 c7 c8 c9 c10 c11 c12) s=some e):aq tab ow (.close [12003,12004,12005,13003,13004]) Gj (G2 values3 i2 c7 c8 c9 c10 c11 c12 s)=some (EI values3 i2 c7 c8 c9 c10 c11 c12 e):=by
 refine lrG (fun s o h=> ?_) h
 obtain ⟨_,_,_,_⟩:=s
 simp only [it] at h
 simp only [G2,EI,xf,Gj,Fq]
 have d1:= @tG
 have d2:= @yY
 have d3:= @ii
 have d4:= @PQ
 have d5:= @z6
 exact go2
def ia (values2:List Ext) (c c2 c3 c4:Int):Int×Int×Int→Option ((Int×Int×Int)⊕((Int×Bool×Int×Int)))
 | (i,c5,c6)=>
   br (decide (i<((values2.length:Nat):Int))) (
   (atL values2 i).bind fun x2=>
   (Loop (it values2 i c c2 c3 c4 c5 c6) (1,0,x2.A,x2.B)).bind fun e_=>
   (jh e_.1).bind fun r_6=>
   (oz r_6).bind fun r_7=>
   (bW (Ext.mk e_.2.2.2.1 e_.2.2.2.2) r_7).bind fun r_8=>
   (fG (Ext.mk c5 c6) r_8).bind fun r_9=>
   some (.inl ((wrap .i64 (i+1)),r_9.A,r_9.B))) (
   some (.inr (i,decide (i<((values2.length:Nat):Int)),c5,c6)))
abbrev wu (c c2 c3 c4 c5 c6:Int):List (Nat×Blk):=[(1000,⟨2,true,[[I c,I c2]]⟩),(1001,⟨2,true,[[I c3,I c4]]⟩),(2001,⟨2,true,[[I c5,I c6]]⟩)]
abbrev F1 (values2:List Ext) (c c2 c3 c4:Int) (s:Int×Int×Int):St:=⟨[(0,sl eExt values2),(3,.ptr 1000 0 0 1),(4,.ptr 1001 0 0 1),(5,.ptr 2001 0 0 1),(6,I s.1)],wu c c2 c3 c4 s.2.1 s.2.2⟩
abbrev FX (values2:List Ext) (c c2 c3 c4:Int):(Int×Bool×Int×Int)→ag×St:=fun e=>(.exit 0,⟨[(0,sl eExt values2),(3,.ptr 1000 0 0 1),(4,.ptr 1001 0 0 1),(5,.ptr 2001 0 0 1),(6,I e.1),(14,B e.2.1)],wu c c2 c3 c4 e.2.2.1 e.2.2.2⟩)
theorem RB {values2 c c2 c3 c4 s e} (h:Loop (ia values2 c c2 c3 c4) s=some e):aq tab ow (.close [6004,12003,12004,12005,13003,13004,14003,14004,14005,14006]) Er (F1 values2 c c2 c3 c4 s)=some (FX values2 c c2 c3 c4 e):=by
 refine lrG (fun s o h=> ?_) h
 obtain ⟨_,_,_⟩:=s
 simp only [ia] at h
 simp only [F1,FX,wu,Er,EU]
 have d1:= @SG
 have d2:= @CR
 have d3:= @tG
 have d4:= @ii
 have d5:= @kB
 exact go2
def tT (values:(List Ext)) (x:Ext):Option (Ext):=
 (Loop (ia values x.A x.B 0 0) (0,0,0)).bind fun e_2=>
 some (Ext.mk e_2.2.2.1 e_2.2.2.2)
theorem Lk {values x r} (h:tT values x=some r):Call tab ow 198 [sl eExt values,.agg [I x.A,I x.B]] []=some (.agg [I r.A,I r.B],[]):=by
 rw [ab (af:=vp) rfl]
 unfold tT at h
 simp only [vp,vo]
 have d1:= @RB
 exact go2
def i7 (a2 b2:List Ext) (c c2:Int):Int×Int×Int→Option ((Int×Int×Int)⊕((Int×Bool×Int×Int)))
 | (i,c3,c4)=>
   br (decide (i<((a2.length:Nat):Int))) (
   (atL a2 i).bind fun x=>
   (atL b2 i).bind fun x2=>
   (bW x x2).bind fun r_2=>
   (atL a2 i).bind fun x3=>
   (kO x3).bind fun r_3=>
   (atL b2 i).bind fun x4=>
   (kO x4).bind fun r_4=>
   (bW r_3 r_4).bind fun r_5=>
   (fG r_2 r_5).bind fun r_6=>
   (bW (Ext.mk c3 c4) r_6).bind fun r_7=>
   some (.inl ((wrap .i64 (i+1)),r_7.A,r_7.B))) (
   some (.inr (i,decide (i<((a2.length:Nat):Int)),c3,c4)))
abbrev wv (c c2 c3 c4:Int):List (Nat×Blk):=[(1000,⟨2,true,[[I c,I c2]]⟩),(2001,⟨2,true,[[I c3,I c4]]⟩)]
abbrev FQ (a2 b2:List Ext) (c c2:Int) (s:Int×Int×Int):St:=⟨[(0,sl eExt a2),(1,sl eExt b2),(4,.ptr 1000 0 0 1),(5,.ptr 2001 0 0 1),(6,I s.1)],wv c c2 s.2.1 s.2.2⟩
abbrev Fo (a2 b2:List Ext) (c c2:Int):(Int×Bool×Int×Int)→ag×St:=fun e=>(.exit 0,⟨[(0,sl eExt a2),(1,sl eExt b2),(4,.ptr 1000 0 0 1),(5,.ptr 2001 0 0 1),(6,I e.1),(11,B e.2.1)],wv c c2 e.2.2.1 e.2.2.2⟩)
theorem SH {a2 b2 c c2 s e} (h:Loop (i7 a2 b2 c c2) s=some e):aq tab ow (.close [6009,6014,6019,6020,6021,6022]) EK (FQ a2 b2 c c2 s)=some (Fo a2 b2 c c2 e):=by
 refine lrG (fun s o h=> ?_) h
 obtain ⟨_,_,_⟩:=s
 simp only [i7] at h
 simp only [FQ,Fo,wv,EK,Fj]
 have d1:= @ii
 have d2:= @Db
 have d3:= @kB
 exact go2
def py (a b:(List Ext)):Option (Ext):=
 (xj).bind fun r_=>
 (Loop (i7 a b 0 0) (0,r_.A,r_.B)).bind fun e_=>
 some (Ext.mk e_.2.2.1 e_.2.2.2)
theorem Lp {a b r} (h:py a b=some r):Call tab ow 200 [sl eExt a,sl eExt b] []=some (.agg [I r.A,I r.B],[]):=by
 rw [ab (af:=uW) rfl]
 unfold py at h
 simp only [uW,Cp]
 have d1:= @GE
 have d2:= @SH
 exact go2
section
theorem a2h:mkR 2002 []=rws eS []:=rfl
attribute [local go_sem] a2h
theorem a0v:mkR 10002 []=rws eS []:=rfl
attribute [local go_sem] a0v
def kr (path2:List (List UInt8)):(List (List UInt8))×Int×(List UInt8)×Int→Option (((List (List UInt8))×Int×(List UInt8)×Int)⊕(((List (List UInt8))×Int×(List UInt8)×Int×Bool)))
 | (l,i2,h_,k)=>
   br (decide (k<((path2.length:Nat):Int))) (
   br (bE ((([1]:List UInt8)).length+h_.length) 1) (
   (atL path2 k).bind fun x=>
   br (bE (((([1]:List UInt8))++h_).length+x.length) 1) (
   br ((i2.tmod 2)==1) (
   (atL path2 k).bind fun x2=>
   br (bE ((([1]:List UInt8)).length+x2.length) 1) (
   br (bE (((([1]:List UInt8))++x2).length+h_.length) 1) (
   br (bE ((l++([(((([1]:List UInt8))++x2)++h_)]:List (List UInt8))).length) 16) (
   (j0 (((([1]:List UInt8))++x2)++h_)).bind fun r_2=>
   some (.inl ((l++([(((([1]:List UInt8))++x2)++h_)]:List (List UInt8))),(wrap .i64 (i2.tdiv 2)),r_2,(wrap .i64 (k+1))))) none) none) none) (
   br (bE ((l++([(((([1]:List UInt8))++h_)++x)]:List (List UInt8))).length) 16) (
   (j0 (((([1]:List UInt8))++h_)++x)).bind fun r_3=>
   some (.inl ((l++([(((([1]:List UInt8))++h_)++x)]:List (List UInt8))),(wrap .i64 (i2.tdiv 2)),r_3,(wrap .i64 (k+1))))) none)) none) none) (
   some (.inr (l,i2,h_,k,decide (k<((path2.length:Nat):Int)))))
abbrev Lf (path2:List (List UInt8)) (s:(List (List UInt8))×Int×(List UInt8)×Int):St:=⟨[(0,I s.2.1),(2,sl eS path2),(8,.sl 2002 0 s.1.length),(9,S s.2.2.1),(10,I s.2.2.2)],[(2002,⟨1,false,rws eS s.1⟩)]⟩
abbrev Ll (path2:List (List UInt8)):((List (List UInt8))×Int×(List UInt8)×Int×Bool)→ag×St:=fun e=>(.exit 0,⟨[(0,I e.2.1),(2,sl eS path2),(8,.sl 2002 0 e.1.length),(9,S e.2.2.1),(10,I e.2.2.2.1),(20,B e.2.2.2.2)],[(2002,⟨1,false,rws eS e.1⟩)]⟩)
theorem ZX {path2 s e} (h:Loop (kr path2) s=some e):aq tab ow (.close [10002,10003,11001]) KO (Lf path2 s)=some (Ll path2 e):=by
 refine lrG (fun s o h=> ?_) h
 obtain ⟨_,_,_,_⟩:=s
 simp only [kr] at h
 simp only [Lf,Ll,KO,Lg]
 have d1:= @nF
 exact go2
def Ja (i:Int) (leaf:(List UInt8)) (path:(List (List UInt8))):Option ((List (List UInt8))×(List UInt8)):=
 br (bE ((([0]:List UInt8)).length+leaf.length) 1) (
 (xr leaf).bind fun r_=>
 (Loop (kr path) (([((([0]:List UInt8))++leaf)]:List (List UInt8)),i,r_,0)).bind fun e_=>
 some (e_.1,e_.2.2.1)) none
theorem a5O {i leaf path r} (h:Ja i leaf path=some r):Call tab ow 342 [I i,S leaf,sl eS path] []=some (.tup [sl eS r.1,S r.2],[]):=by
 rw [ab (af:=DV) rfl]
 unfold Ja at h
 simp only [DV,Kt]
 have d1:= @XQ
 have d2:= @ZX
 exact go2
end
def gu (root2:List UInt8) (i2:Int) (leaf2:List UInt8) (path2:List (List UInt8)):Int→Option ((Int)⊕(Unit⊕(Int×Bool)))
 |k=>
  br (decide (k<((path2.length:Nat):Int))) (
  (atL path2 k).bind fun x=>
  br (((x.length:Nat):Int) !=32) (
  some (.inr (.inl ()))) (
  some (.inl (wrap .i64 (k+1))))) (
  some (.inr (.inr (k,decide (k<((path2.length:Nat):Int))))))
abbrev Du (root2:List UInt8) (i2:Int) (leaf2:List UInt8) (path2:List (List UInt8)) (s:Int):St:=⟨[(0,S root2),(2,I i2),(3,S leaf2),(4,sl eS path2),(11,I s)],[]⟩
abbrev Bl (root2:List UInt8) (i2:Int) (leaf2:List UInt8) (path2:List (List UInt8)):(Unit⊕(Int×Bool))→ag×St:=alt (fun e=>((.ret,⟨[(10,B false)],[]⟩):ag×St)) (fun e=>(.exit 0,⟨[(0,S root2),(2,I i2),(3,S leaf2),(4,sl eS path2),(11,I e.1),(29,B e.2)],[]⟩))
theorem NA {root2 i2 leaf2 path2 s e} (h:Loop (gu root2 i2 leaf2 path2) s=some e):aq tab ow (.close []) BO (Du root2 i2 leaf2 path2 s)=some (Bl root2 i2 leaf2 path2 e):=by
 refine lrG (fun s o h=> ?_) h
 simp only [gu] at h
 simp only [Du,Bl,BO,BP]
 exact go2
def oQ (root:(List UInt8)) (n i:Int) (leaf:(List UInt8)) (path:(List (List UInt8))):Option (Bool):=
 br (decide (((leaf.length:Nat):Int)>64)) (
 some false) (
 br (decide (0≤(wrap .u64 (mn 20 ((path.length:Nat):Int))))) (
 br (n !=(aD .i64 1 (wrap .u64 (mn 20 ((path.length:Nat):Int))))) (
 some false) (
 (Loop (gu root i leaf path) 0).bind (alt (fun e_2=>
 some false) (fun e_3=>
 (Ja i leaf path).bind fun r_=>
 some (r_.2==root))))) none)
theorem VD {root n i leaf path r} (h:oQ root n i leaf path=some r):Call tab ow 299 [S root,I n,I i,S leaf,sl eS path] []=some (B r,[]):=by
 rw [ab (af:=sC) rfl]
 unfold oQ at h
 simp only [sC,zO]
 have d1:= @NA
 have d2:= @a5O
 exact go2
end
end Go.AI.Fn
