/- Walks through the program, with open values. -/
import Derived.Test.YtdnkignjanfikaaGreatStr
set_option linter.unusedVariables false
set_option linter.unusedSimpArgs false
set_option maxRecDepth 100000
set_option maxHeartbeats 1000000
namespace Go.AI.Fn
noncomputable section
open IntKind (wrap)
def gS (code:(List UInt8)):Option (aD):=
 some (aD.mk code 0 (((code.length:Nat):Int).tmod 1000))
theorem jT {code r} (h:gS code=some r):Call tab ow 66 [sl eU8 code] []=some (.ptr 0 0 0 1,[⟨3,true,[[sl eU8 r.code,I r.at_,I r.seed]]⟩]):=by
 rw [ag (af:=re) rfl]
 unfold gS at h
 simp only [re,Ei]
 exact go2
def fI (m:aD):Option (Int×aD):=
 br (decide ((wrap .i64 (m.at_+1))≤((m.code.length:Nat):Int))) (
 (atL m.code (wrap .i64 ((wrap .i64 (m.at_+1))-1))).bind fun x=>
 (atL m.code (wrap .i64 ((wrap .i64 (m.at_+1))-1))).bind fun x2=>
 some ((wrap .i64 (x2.toNat:Int)),(aD.mk m.code (wrap .i64 (m.at_+1)) ((wrap .i64 ((wrap .i64 ((wrap .i64 (m.seed*31))+(wrap .i64 (x.toNat:Int))))+7)).tmod 2147483648)))) (
 br (decide ((wrap .i64 (m.at_+1))>3000)) (
 some (0,(aD.mk m.code (wrap .i64 (m.at_+1)) m.seed))) (
 some (((wrap .i64 (((wrap .i64 ((wrap .i64 (m.seed*1103515245))+12345)).tmod 2147483648).tdiv 65536)).tmod 256),(aD.mk m.code (wrap .i64 (m.at_+1)) ((wrap .i64 ((wrap .i64 (m.seed*1103515245))+12345)).tmod 2147483648)))))
theorem Ly {m r} (h:fI m=some r):Call tab ow 302 [.ptr 0 0 0 1] [⟨3,true,[[sl eU8 m.code,I m.at_,I m.seed]]⟩]=some (I r.1,[⟨3,true,[[sl eU8 r.2.code,I r.2.at_,I r.2.seed]]⟩]):=by
 rw [ag (af:=mY) rfl]
 unfold fI at h
 simp only [mY,AP]
 exact go2
def ab (n:Int) (m:aD):Option (Int×aD):=
 br (decide (n≤1)) (
 some (0,m)) (
 br (decide (n≤256)) (
 (fI m).bind fun r_=>
 br (decide (n≠0)) (
 some ((r_.1.tmod n),r_.2)) none) (
 (fI m).bind fun r_2=>
 (fI r_2.2).bind fun r_3=>
 (fI r_3.2).bind fun r_4=>
 br (decide (n≠0)) (
 some (((wrap .i64 ((wrap .i64 ((wrap .i64 (r_2.1*65536))+(wrap .i64 (r_3.1*256))))+r_4.1)).tmod n),r_4.2)) none))
theorem cu {n m r} (h:ab n m=some r):Call tab ow 185 [.ptr 0 0 0 1,I n] [⟨3,true,[[sl eU8 m.code,I m.at_,I m.seed]]⟩]=some (I r.1,[⟨3,true,[[sl eU8 r.2.code,I r.2.at_,I r.2.seed]]⟩]):=by
 rw [ag (af:=n8) rfl]
 unfold ab at h
 simp only [n8,B5]
 have d1:= @Ly
 exact go2
def I6 (b:Bool):Option (Int):=
 br b (
 some 1) (
 some 0)
theorem ZS {b r} (h:I6 b=some r):Call tab ow 303 [B b] []=some (I r,[]):=by
 rw [ag (af:=zn) rfl]
 unfold I6 at h
 simp only [zn,O1]
 exact go2
def iS (op2:Int) (c2:List ah):Int×Int→Option ((Int×Int)⊕((Int×Int×Bool)))
 | (n,k)=>
   br (decide (k<((c2.length:Nat):Int))) (
   (atL c2 k).bind fun x=>
   (I6 (x.Op==op2)).bind fun r_=>
   some (.inl ((wrap .i64 (n+r_)),(wrap .i64 (k+1))))) (
   some (.inr (n,k,decide (k<((c2.length:Nat):Int)))))
abbrev D6 (op2:Int) (c2:List ah) (s:Int×Int):St:=⟨[(1,I op2),(2,.ptr 1000 0 0 1),(5,I s.1),(6,I s.2)],[(1000,⟨1,true,[[sl bp c2]]⟩)]⟩
abbrev BO (op2:Int) (c2:List ah):(Int×Int×Bool)→aw×St:=fun e=>(.exit 0,⟨[(1,I op2),(2,.ptr 1000 0 0 1),(5,I e.1),(6,I e.2.1),(11,B e.2.2)],[(1000,⟨1,true,[[sl bp c2]]⟩)]⟩)
theorem OA {op2 c2 s e} (h:Loop (iS op2 c2) s=some e):aO tab ow (.close [6009]) BY (D6 op2 c2 s)=some (BO op2 c2 e):=by
 refine lrG (fun s o h=> ?_) h
 obtain ⟨_,_⟩:=s
 simp only [iS] at h
 simp only [D6,BO,BY,Co]
 have d1:= @ZS
 exact go2
def ep (c:Circuit) (op:Int):Option (Int):=
 (Loop (iS op c.Gates) (0,0)).bind fun e_=>
 some e_.1
theorem pc {c op r} (h:ep c op=some r):Call tab ow 187 [.agg [sl bp c.Gates],I op] []=some (I r,[]):=by
 rw [ag (af:=uH) rfl]
 unfold ep at h
 simp only [uH,zF]
 have d1:= @OA
 exact go2
def jj (n low high:Int):Option (Bool):=
 br (decide (low≤n)) (
 some (decide (n≤high))) (
 some false)
theorem D8 {n low high r} (h:jj n low high=some r):Call tab ow 115 [I n,I low,I high] []=some (B r,[]):=by
 rw [ag (af:=D9) rfl]
 unfold jj at h
 simp only [D9,QK]
 exact go2
def dM (op:Int):Option (Int):=
 (jj op 4 7).bind fun r_=>
 br r_ (
 some 2) (
 br (op==8) (
 some 1) (
 some 0))
theorem KW {op r} (h:dM op=some r):Call tab ow 188 [I op] []=some (I r,[]):=by
 rw [ag (af:=xx) rfl]
 unfold dM at h
 simp only [xx,Kv]
 have d1:= @D8
 exact go2
def aU (n:Int) (m:aD):Option (Bool×aD):=
 (ab n m).bind fun r_=>
 some ((r_.1==(wrap .i64 (n-1))),r_.2)
theorem cX {n m r} (h:aU n m=some r):Call tab ow 186 [.ptr 0 0 0 1,I n] [⟨3,true,[[sl eU8 m.code,I m.at_,I m.seed]]⟩]=some (B r.1,[⟨3,true,[[sl eU8 r.2.code,I r.2.at_,I r.2.seed]]⟩]):=by
 rw [ag (af:=jY) rfl]
 unfold aU at h
 simp only [jY,ws]
 have d1:= @cu
 exact go2
def ee:Int×Int×(List UInt8)×Int×Int→Option ((Int×Int×(List UInt8)×Int×Int)⊕((Int×Int×Bool×(List UInt8)×Int×Int)))
 | (n,i,c,c2,c3)=>
   br (decide (i<5)) (
   (ab 256 (aD.mk c c2 c3)).bind fun r_4=>
   some (.inl (((wrap .i64 ((wrap .i64 (n*256))+r_4.1)).tmod 2130706433),(wrap .i64 (i+1)),r_4.2.code,r_4.2.at_,r_4.2.seed))) (
   some (.inr (n,i,decide (i<5),c,c2,c3)))
abbrev vG (s:Int×Int×(List UInt8)×Int×Int):St:=⟨[(0,.ptr 0 0 0 1),(3,I s.1),(4,I s.2.1)],[(0,⟨3,true,[[sl eU8 s.2.2.1,I s.2.2.2.1,I s.2.2.2.2]]⟩)]⟩
abbrev vH:(Int×Int×Bool×(List UInt8)×Int×Int)→aw×St:=fun e=>(.exit 1,⟨[(0,.ptr 0 0 0 1),(3,I e.1),(4,I e.2.1),(17,B e.2.2.1)],[(0,⟨3,true,[[sl eU8 e.2.2.2.1,I e.2.2.2.2.1,I e.2.2.2.2.2]]⟩)]⟩)
theorem G9 { s e} (h:Loop (ee) s=some e):aO tab ow (.close [11003]) vz (vG s)=some (vH e):=by
 refine lrG (fun s o h=> ?_) h
 obtain ⟨_,_,_,_,_⟩:=s
 simp only [ee] at h
 simp only [vG,vH,vz,vF]
 have d1:= @cu
 exact go2
def am (m:aD):Option (Int×aD):=
 (ab 5 m).bind fun r_=>
 br (r_.1==0) (
 (ab 4 r_.2).bind fun r_2=>
 some (r_2.1,r_2.2)) (
 br (r_.1==1) (
 (ab 3 r_.2).bind fun r_3=>
 some ((wrap .i64 (2130706432-r_3.1)),r_3.2)) (
 (Loop (ee) (0,0,r_.2.code,r_.2.at_,r_.2.seed)).bind fun e_=>
 some (e_.1,(aD.mk e_.2.2.2.1 e_.2.2.2.2.1 e_.2.2.2.2.2))))
theorem fW {m r} (h:am m=some r):Call tab ow 165 [.ptr 0 0 0 1] [⟨3,true,[[sl eU8 m.code,I m.at_,I m.seed]]⟩]=some (I r.1,[⟨3,true,[[sl eU8 r.2.code,I r.2.at_,I r.2.seed]]⟩]):=by
 rw [ag (af:=lV) rfl]
 unfold am at h
 simp only [lV,pZ]
 have d1:= @cu
 have d2:= @G9
 exact go2
section
theorem DZ:mkR 2000 []=rws bp []:=rfl
attribute [local go_sem] DZ
theorem DQ:mkR 22003 []=rws bp []:=rfl
attribute [local go_sem] DQ
theorem DX:mkR 21002 []=rws eI []:=rfl
attribute [local go_sem] DX
def eJ (t:Int):(List ah)×Int×(List UInt8)×Int×Int→Option (((List ah)×Int×(List UInt8)×Int×Int)⊕(((List ah)×Int×Bool×(List UInt8)×Int×Int)))
 | (l,t2,c,c2,c3)=>
   br (decide (t2<t)) (
   (ab 8 (aD.mk c c2 c3)).bind fun r_2=>
   br (t2==0) (
   (ab 3 r_2.2).bind fun r_3=>
   br ((wrap .i64 (1+r_3.1))==2) (
   (ep (Circuit.mk l) 2).bind fun r_4=>
   br (r_4==3) (
   (dM 1).bind fun r_5=>
   br (r_5==2) (
   (ab t2 r_3.2).bind fun r_6=>
   (ab t2 r_6.2).bind fun r_7=>
   br (aB ((l++([(ah.mk 1 r_6.1 r_7.1 0)]:List ah)).length) 32) (
   some (.inl ((l++([(ah.mk 1 r_6.1 r_7.1 0)]:List ah)),(wrap .i64 (t2+1)),r_7.2.code,r_7.2.at_,r_7.2.seed))) none) (
   br (r_5==1) (
   (ab t2 r_3.2).bind fun r_8=>
   br (aB ((l++([(ah.mk 1 r_8.1 0 0)]:List ah)).length) 32) (
   some (.inl ((l++([(ah.mk 1 r_8.1 0 0)]:List ah)),(wrap .i64 (t2+1)),r_8.2.code,r_8.2.at_,r_8.2.seed))) none) (
   br (aB ((l++([(ah.mk 1 0 0 0)]:List ah)).length) 32) (
   some (.inl ((l++([(ah.mk 1 0 0 0)]:List ah)),(wrap .i64 (t2+1)),r_3.2.code,r_3.2.at_,r_3.2.seed))) none))) (
   (dM (wrap .i64 (1+r_3.1))).bind fun r_9=>
   br (r_9==2) (
   (ab t2 r_3.2).bind fun r_10=>
   (ab t2 r_10.2).bind fun r_11=>
   br ((wrap .i64 (1+r_3.1))==7) (
   (aU 5 r_11.2).bind fun r_12=>
   br (!r_12.1) (
   br ((wrap .i64 (1+r_3.1))==3) (
   (am r_12.2).bind fun r_13=>
   (ab 3 r_13.2).bind fun r_14=>
   br (decide (0≤r_14.1)) (
   br (decide (r_14.1.toNat<([0,1,r_13.1]:List Int).length)) (
   (([0,1,r_13.1]:List Int)[r_14.1.toNat]?).bind fun x=>
   br (aB ((l++([(ah.mk (wrap .i64 (1+r_3.1)) r_10.1 r_10.1 x)]:List ah)).length) 32) (
   some (.inl ((l++([(ah.mk (wrap .i64 (1+r_3.1)) r_10.1 r_10.1 x)]:List ah)),(wrap .i64 (t2+1)),r_14.2.code,r_14.2.at_,r_14.2.seed))) none) none) none) (
   br (aB ((l++([(ah.mk (wrap .i64 (1+r_3.1)) r_10.1 r_10.1 0)]:List ah)).length) 32) (
   some (.inl ((l++([(ah.mk (wrap .i64 (1+r_3.1)) r_10.1 r_10.1 0)]:List ah)),(wrap .i64 (t2+1)),r_12.2.code,r_12.2.at_,r_12.2.seed))) none)) (
   br ((wrap .i64 (1+r_3.1))==3) (
   (am r_12.2).bind fun r_15=>
   (ab 3 r_15.2).bind fun r_16=>
   br (decide (0≤r_16.1)) (
   br (decide (r_16.1.toNat<([0,1,r_15.1]:List Int).length)) (
   (([0,1,r_15.1]:List Int)[r_16.1.toNat]?).bind fun x2=>
   br (aB ((l++([(ah.mk (wrap .i64 (1+r_3.1)) r_10.1 r_11.1 x2)]:List ah)).length) 32) (
   some (.inl ((l++([(ah.mk (wrap .i64 (1+r_3.1)) r_10.1 r_11.1 x2)]:List ah)),(wrap .i64 (t2+1)),r_16.2.code,r_16.2.at_,r_16.2.seed))) none) none) none) (
   br (aB ((l++([(ah.mk (wrap .i64 (1+r_3.1)) r_10.1 r_11.1 0)]:List ah)).length) 32) (
   some (.inl ((l++([(ah.mk (wrap .i64 (1+r_3.1)) r_10.1 r_11.1 0)]:List ah)),(wrap .i64 (t2+1)),r_12.2.code,r_12.2.at_,r_12.2.seed))) none))) (
   br ((wrap .i64 (1+r_3.1))==3) (
   (am r_11.2).bind fun r_17=>
   (ab 3 r_17.2).bind fun r_18=>
   br (decide (0≤r_18.1)) (
   br (decide (r_18.1.toNat<([0,1,r_17.1]:List Int).length)) (
   (([0,1,r_17.1]:List Int)[r_18.1.toNat]?).bind fun x3=>
   br (aB ((l++([(ah.mk (wrap .i64 (1+r_3.1)) r_10.1 r_11.1 x3)]:List ah)).length) 32) (
   some (.inl ((l++([(ah.mk (wrap .i64 (1+r_3.1)) r_10.1 r_11.1 x3)]:List ah)),(wrap .i64 (t2+1)),r_18.2.code,r_18.2.at_,r_18.2.seed))) none) none) none) (
   br (aB ((l++([(ah.mk (wrap .i64 (1+r_3.1)) r_10.1 r_11.1 0)]:List ah)).length) 32) (
   some (.inl ((l++([(ah.mk (wrap .i64 (1+r_3.1)) r_10.1 r_11.1 0)]:List ah)),(wrap .i64 (t2+1)),r_11.2.code,r_11.2.at_,r_11.2.seed))) none))) (
   br (r_9==1) (
   (ab t2 r_3.2).bind fun r_19=>
   br ((wrap .i64 (1+r_3.1))==3) (
   (am r_19.2).bind fun r_20=>
   (ab 3 r_20.2).bind fun r_21=>
   br (decide (0≤r_21.1)) (
   br (decide (r_21.1.toNat<([0,1,r_20.1]:List Int).length)) (
   (([0,1,r_20.1]:List Int)[r_21.1.toNat]?).bind fun x4=>
   br (aB ((l++([(ah.mk (wrap .i64 (1+r_3.1)) r_19.1 0 x4)]:List ah)).length) 32) (
   some (.inl ((l++([(ah.mk (wrap .i64 (1+r_3.1)) r_19.1 0 x4)]:List ah)),(wrap .i64 (t2+1)),r_21.2.code,r_21.2.at_,r_21.2.seed))) none) none) none) (
   br (aB ((l++([(ah.mk (wrap .i64 (1+r_3.1)) r_19.1 0 0)]:List ah)).length) 32) (
   some (.inl ((l++([(ah.mk (wrap .i64 (1+r_3.1)) r_19.1 0 0)]:List ah)),(wrap .i64 (t2+1)),r_19.2.code,r_19.2.at_,r_19.2.seed))) none)) (
   br ((wrap .i64 (1+r_3.1))==3) (
   (am r_3.2).bind fun r_22=>
   (ab 3 r_22.2).bind fun r_23=>
   br (decide (0≤r_23.1)) (
   br (decide (r_23.1.toNat<([0,1,r_22.1]:List Int).length)) (
   (([0,1,r_22.1]:List Int)[r_23.1.toNat]?).bind fun x5=>
   br (aB ((l++([(ah.mk (wrap .i64 (1+r_3.1)) 0 0 x5)]:List ah)).length) 32) (
   some (.inl ((l++([(ah.mk (wrap .i64 (1+r_3.1)) 0 0 x5)]:List ah)),(wrap .i64 (t2+1)),r_23.2.code,r_23.2.at_,r_23.2.seed))) none) none) none) (
   br (aB ((l++([(ah.mk (wrap .i64 (1+r_3.1)) 0 0 0)]:List ah)).length) 32) (
   some (.inl ((l++([(ah.mk (wrap .i64 (1+r_3.1)) 0 0 0)]:List ah)),(wrap .i64 (t2+1)),r_3.2.code,r_3.2.at_,r_3.2.seed))) none))))) (
   (dM (wrap .i64 (1+r_3.1))).bind fun r_24=>
   br (r_24==2) (
   (ab t2 r_3.2).bind fun r_25=>
   (ab t2 r_25.2).bind fun r_26=>
   br ((wrap .i64 (1+r_3.1))==7) (
   (aU 5 r_26.2).bind fun r_27=>
   br (!r_27.1) (
   br ((wrap .i64 (1+r_3.1))==3) (
   (am r_27.2).bind fun r_28=>
   (ab 3 r_28.2).bind fun r_29=>
   br (decide (0≤r_29.1)) (
   br (decide (r_29.1.toNat<([0,1,r_28.1]:List Int).length)) (
   (([0,1,r_28.1]:List Int)[r_29.1.toNat]?).bind fun x6=>
   br (aB ((l++([(ah.mk (wrap .i64 (1+r_3.1)) r_25.1 r_25.1 x6)]:List ah)).length) 32) (
   some (.inl ((l++([(ah.mk (wrap .i64 (1+r_3.1)) r_25.1 r_25.1 x6)]:List ah)),(wrap .i64 (t2+1)),r_29.2.code,r_29.2.at_,r_29.2.seed))) none) none) none) (
   br (aB ((l++([(ah.mk (wrap .i64 (1+r_3.1)) r_25.1 r_25.1 0)]:List ah)).length) 32) (
   some (.inl ((l++([(ah.mk (wrap .i64 (1+r_3.1)) r_25.1 r_25.1 0)]:List ah)),(wrap .i64 (t2+1)),r_27.2.code,r_27.2.at_,r_27.2.seed))) none)) (
   br ((wrap .i64 (1+r_3.1))==3) (
   (am r_27.2).bind fun r_30=>
   (ab 3 r_30.2).bind fun r_31=>
   br (decide (0≤r_31.1)) (
   br (decide (r_31.1.toNat<([0,1,r_30.1]:List Int).length)) (
   (([0,1,r_30.1]:List Int)[r_31.1.toNat]?).bind fun x7=>
   br (aB ((l++([(ah.mk (wrap .i64 (1+r_3.1)) r_25.1 r_26.1 x7)]:List ah)).length) 32) (
   some (.inl ((l++([(ah.mk (wrap .i64 (1+r_3.1)) r_25.1 r_26.1 x7)]:List ah)),(wrap .i64 (t2+1)),r_31.2.code,r_31.2.at_,r_31.2.seed))) none) none) none) (
   br (aB ((l++([(ah.mk (wrap .i64 (1+r_3.1)) r_25.1 r_26.1 0)]:List ah)).length) 32) (
   some (.inl ((l++([(ah.mk (wrap .i64 (1+r_3.1)) r_25.1 r_26.1 0)]:List ah)),(wrap .i64 (t2+1)),r_27.2.code,r_27.2.at_,r_27.2.seed))) none))) (
   br ((wrap .i64 (1+r_3.1))==3) (
   (am r_26.2).bind fun r_32=>
   (ab 3 r_32.2).bind fun r_33=>
   br (decide (0≤r_33.1)) (
   br (decide (r_33.1.toNat<([0,1,r_32.1]:List Int).length)) (
   (([0,1,r_32.1]:List Int)[r_33.1.toNat]?).bind fun x8=>
   br (aB ((l++([(ah.mk (wrap .i64 (1+r_3.1)) r_25.1 r_26.1 x8)]:List ah)).length) 32) (
   some (.inl ((l++([(ah.mk (wrap .i64 (1+r_3.1)) r_25.1 r_26.1 x8)]:List ah)),(wrap .i64 (t2+1)),r_33.2.code,r_33.2.at_,r_33.2.seed))) none) none) none) (
   br (aB ((l++([(ah.mk (wrap .i64 (1+r_3.1)) r_25.1 r_26.1 0)]:List ah)).length) 32) (
   some (.inl ((l++([(ah.mk (wrap .i64 (1+r_3.1)) r_25.1 r_26.1 0)]:List ah)),(wrap .i64 (t2+1)),r_26.2.code,r_26.2.at_,r_26.2.seed))) none))) (
   br (r_24==1) (
   (ab t2 r_3.2).bind fun r_34=>
   br ((wrap .i64 (1+r_3.1))==3) (
   (am r_34.2).bind fun r_35=>
   (ab 3 r_35.2).bind fun r_36=>
   br (decide (0≤r_36.1)) (
   br (decide (r_36.1.toNat<([0,1,r_35.1]:List Int).length)) (
   (([0,1,r_35.1]:List Int)[r_36.1.toNat]?).bind fun x9=>
   br (aB ((l++([(ah.mk (wrap .i64 (1+r_3.1)) r_34.1 0 x9)]:List ah)).length) 32) (
   some (.inl ((l++([(ah.mk (wrap .i64 (1+r_3.1)) r_34.1 0 x9)]:List ah)),(wrap .i64 (t2+1)),r_36.2.code,r_36.2.at_,r_36.2.seed))) none) none) none) (
   br (aB ((l++([(ah.mk (wrap .i64 (1+r_3.1)) r_34.1 0 0)]:List ah)).length) 32) (
   some (.inl ((l++([(ah.mk (wrap .i64 (1+r_3.1)) r_34.1 0 0)]:List ah)),(wrap .i64 (t2+1)),r_34.2.code,r_34.2.at_,r_34.2.seed))) none)) (
   br ((wrap .i64 (1+r_3.1))==3) (
   (am r_3.2).bind fun r_37=>
   (ab 3 r_37.2).bind fun r_38=>
   br (decide (0≤r_38.1)) (
   br (decide (r_38.1.toNat<([0,1,r_37.1]:List Int).length)) (
   (([0,1,r_37.1]:List Int)[r_38.1.toNat]?).bind fun x10=>
   br (aB ((l++([(ah.mk (wrap .i64 (1+r_3.1)) 0 0 x10)]:List ah)).length) 32) (
   some (.inl ((l++([(ah.mk (wrap .i64 (1+r_3.1)) 0 0 x10)]:List ah)),(wrap .i64 (t2+1)),r_38.2.code,r_38.2.at_,r_38.2.seed))) none) none) none) (
   br (aB ((l++([(ah.mk (wrap .i64 (1+r_3.1)) 0 0 0)]:List ah)).length) 32) (
   some (.inl ((l++([(ah.mk (wrap .i64 (1+r_3.1)) 0 0 0)]:List ah)),(wrap .i64 (t2+1)),r_3.2.code,r_3.2.at_,r_3.2.seed))) none))))) (
   (aU 3 r_2.2).bind fun r_39=>
   br r_39.1 (
   (ab 3 r_39.2).bind fun r_40=>
   br ((wrap .i64 (1+r_40.1))==2) (
   (ep (Circuit.mk l) 2).bind fun r_41=>
   br (r_41==3) (
   (dM 1).bind fun r_42=>
   br (r_42==2) (
   (ab t2 r_40.2).bind fun r_43=>
   (ab t2 r_43.2).bind fun r_44=>
   br (aB ((l++([(ah.mk 1 r_43.1 r_44.1 0)]:List ah)).length) 32) (
   some (.inl ((l++([(ah.mk 1 r_43.1 r_44.1 0)]:List ah)),(wrap .i64 (t2+1)),r_44.2.code,r_44.2.at_,r_44.2.seed))) none) (
   br (r_42==1) (
   (ab t2 r_40.2).bind fun r_45=>
   br (aB ((l++([(ah.mk 1 r_45.1 0 0)]:List ah)).length) 32) (
   some (.inl ((l++([(ah.mk 1 r_45.1 0 0)]:List ah)),(wrap .i64 (t2+1)),r_45.2.code,r_45.2.at_,r_45.2.seed))) none) (
   br (aB ((l++([(ah.mk 1 0 0 0)]:List ah)).length) 32) (
   some (.inl ((l++([(ah.mk 1 0 0 0)]:List ah)),(wrap .i64 (t2+1)),r_40.2.code,r_40.2.at_,r_40.2.seed))) none))) (
   (dM (wrap .i64 (1+r_40.1))).bind fun r_46=>
   br (r_46==2) (
   (ab t2 r_40.2).bind fun r_47=>
   (ab t2 r_47.2).bind fun r_48=>
   br ((wrap .i64 (1+r_40.1))==7) (
   (aU 5 r_48.2).bind fun r_49=>
   br (!r_49.1) (
   br ((wrap .i64 (1+r_40.1))==3) (
   (am r_49.2).bind fun r_50=>
   (ab 3 r_50.2).bind fun r_51=>
   br (decide (0≤r_51.1)) (
   br (decide (r_51.1.toNat<([0,1,r_50.1]:List Int).length)) (
   (([0,1,r_50.1]:List Int)[r_51.1.toNat]?).bind fun x11=>
   br (aB ((l++([(ah.mk (wrap .i64 (1+r_40.1)) r_47.1 r_47.1 x11)]:List ah)).length) 32) (
   some (.inl ((l++([(ah.mk (wrap .i64 (1+r_40.1)) r_47.1 r_47.1 x11)]:List ah)),(wrap .i64 (t2+1)),r_51.2.code,r_51.2.at_,r_51.2.seed))) none) none) none) (
   br (aB ((l++([(ah.mk (wrap .i64 (1+r_40.1)) r_47.1 r_47.1 0)]:List ah)).length) 32) (
   some (.inl ((l++([(ah.mk (wrap .i64 (1+r_40.1)) r_47.1 r_47.1 0)]:List ah)),(wrap .i64 (t2+1)),r_49.2.code,r_49.2.at_,r_49.2.seed))) none)) (
   br ((wrap .i64 (1+r_40.1))==3) (
   (am r_49.2).bind fun r_52=>
   (ab 3 r_52.2).bind fun r_53=>
   br (decide (0≤r_53.1)) (
   br (decide (r_53.1.toNat<([0,1,r_52.1]:List Int).length)) (
   (([0,1,r_52.1]:List Int)[r_53.1.toNat]?).bind fun x12=>
   br (aB ((l++([(ah.mk (wrap .i64 (1+r_40.1)) r_47.1 r_48.1 x12)]:List ah)).length) 32) (
   some (.inl ((l++([(ah.mk (wrap .i64 (1+r_40.1)) r_47.1 r_48.1 x12)]:List ah)),(wrap .i64 (t2+1)),r_53.2.code,r_53.2.at_,r_53.2.seed))) none) none) none) (
   br (aB ((l++([(ah.mk (wrap .i64 (1+r_40.1)) r_47.1 r_48.1 0)]:List ah)).length) 32) (
   some (.inl ((l++([(ah.mk (wrap .i64 (1+r_40.1)) r_47.1 r_48.1 0)]:List ah)),(wrap .i64 (t2+1)),r_49.2.code,r_49.2.at_,r_49.2.seed))) none))) (
   br ((wrap .i64 (1+r_40.1))==3) (
   (am r_48.2).bind fun r_54=>
   (ab 3 r_54.2).bind fun r_55=>
   br (decide (0≤r_55.1)) (
   br (decide (r_55.1.toNat<([0,1,r_54.1]:List Int).length)) (
   (([0,1,r_54.1]:List Int)[r_55.1.toNat]?).bind fun x13=>
   br (aB ((l++([(ah.mk (wrap .i64 (1+r_40.1)) r_47.1 r_48.1 x13)]:List ah)).length) 32) (
   some (.inl ((l++([(ah.mk (wrap .i64 (1+r_40.1)) r_47.1 r_48.1 x13)]:List ah)),(wrap .i64 (t2+1)),r_55.2.code,r_55.2.at_,r_55.2.seed))) none) none) none) (
   br (aB ((l++([(ah.mk (wrap .i64 (1+r_40.1)) r_47.1 r_48.1 0)]:List ah)).length) 32) (
   some (.inl ((l++([(ah.mk (wrap .i64 (1+r_40.1)) r_47.1 r_48.1 0)]:List ah)),(wrap .i64 (t2+1)),r_48.2.code,r_48.2.at_,r_48.2.seed))) none))) (
   br (r_46==1) (
   (ab t2 r_40.2).bind fun r_56=>
   br ((wrap .i64 (1+r_40.1))==3) (
   (am r_56.2).bind fun r_57=>
   (ab 3 r_57.2).bind fun r_58=>
   br (decide (0≤r_58.1)) (
   br (decide (r_58.1.toNat<([0,1,r_57.1]:List Int).length)) (
   (([0,1,r_57.1]:List Int)[r_58.1.toNat]?).bind fun x14=>
   br (aB ((l++([(ah.mk (wrap .i64 (1+r_40.1)) r_56.1 0 x14)]:List ah)).length) 32) (
   some (.inl ((l++([(ah.mk (wrap .i64 (1+r_40.1)) r_56.1 0 x14)]:List ah)),(wrap .i64 (t2+1)),r_58.2.code,r_58.2.at_,r_58.2.seed))) none) none) none) (
   br (aB ((l++([(ah.mk (wrap .i64 (1+r_40.1)) r_56.1 0 0)]:List ah)).length) 32) (
   some (.inl ((l++([(ah.mk (wrap .i64 (1+r_40.1)) r_56.1 0 0)]:List ah)),(wrap .i64 (t2+1)),r_56.2.code,r_56.2.at_,r_56.2.seed))) none)) (
   br ((wrap .i64 (1+r_40.1))==3) (
   (am r_40.2).bind fun r_59=>
   (ab 3 r_59.2).bind fun r_60=>
   br (decide (0≤r_60.1)) (
   br (decide (r_60.1.toNat<([0,1,r_59.1]:List Int).length)) (
   (([0,1,r_59.1]:List Int)[r_60.1.toNat]?).bind fun x15=>
   br (aB ((l++([(ah.mk (wrap .i64 (1+r_40.1)) 0 0 x15)]:List ah)).length) 32) (
   some (.inl ((l++([(ah.mk (wrap .i64 (1+r_40.1)) 0 0 x15)]:List ah)),(wrap .i64 (t2+1)),r_60.2.code,r_60.2.at_,r_60.2.seed))) none) none) none) (
   br (aB ((l++([(ah.mk (wrap .i64 (1+r_40.1)) 0 0 0)]:List ah)).length) 32) (
   some (.inl ((l++([(ah.mk (wrap .i64 (1+r_40.1)) 0 0 0)]:List ah)),(wrap .i64 (t2+1)),r_40.2.code,r_40.2.at_,r_40.2.seed))) none))))) (
   (dM (wrap .i64 (1+r_40.1))).bind fun r_61=>
   br (r_61==2) (
   (ab t2 r_40.2).bind fun r_62=>
   (ab t2 r_62.2).bind fun r_63=>
   br ((wrap .i64 (1+r_40.1))==7) (
   (aU 5 r_63.2).bind fun r_64=>
   br (!r_64.1) (
   br ((wrap .i64 (1+r_40.1))==3) (
   (am r_64.2).bind fun r_65=>
   (ab 3 r_65.2).bind fun r_66=>
   br (decide (0≤r_66.1)) (
   br (decide (r_66.1.toNat<([0,1,r_65.1]:List Int).length)) (
   (([0,1,r_65.1]:List Int)[r_66.1.toNat]?).bind fun x16=>
   br (aB ((l++([(ah.mk (wrap .i64 (1+r_40.1)) r_62.1 r_62.1 x16)]:List ah)).length) 32) (
   some (.inl ((l++([(ah.mk (wrap .i64 (1+r_40.1)) r_62.1 r_62.1 x16)]:List ah)),(wrap .i64 (t2+1)),r_66.2.code,r_66.2.at_,r_66.2.seed))) none) none) none) (
   br (aB ((l++([(ah.mk (wrap .i64 (1+r_40.1)) r_62.1 r_62.1 0)]:List ah)).length) 32) (
   some (.inl ((l++([(ah.mk (wrap .i64 (1+r_40.1)) r_62.1 r_62.1 0)]:List ah)),(wrap .i64 (t2+1)),r_64.2.code,r_64.2.at_,r_64.2.seed))) none)) (
   br ((wrap .i64 (1+r_40.1))==3) (
   (am r_64.2).bind fun r_67=>
   (ab 3 r_67.2).bind fun r_68=>
   br (decide (0≤r_68.1)) (
   br (decide (r_68.1.toNat<([0,1,r_67.1]:List Int).length)) (
   (([0,1,r_67.1]:List Int)[r_68.1.toNat]?).bind fun x17=>
   br (aB ((l++([(ah.mk (wrap .i64 (1+r_40.1)) r_62.1 r_63.1 x17)]:List ah)).length) 32) (
   some (.inl ((l++([(ah.mk (wrap .i64 (1+r_40.1)) r_62.1 r_63.1 x17)]:List ah)),(wrap .i64 (t2+1)),r_68.2.code,r_68.2.at_,r_68.2.seed))) none) none) none) (
   br (aB ((l++([(ah.mk (wrap .i64 (1+r_40.1)) r_62.1 r_63.1 0)]:List ah)).length) 32) (
   some (.inl ((l++([(ah.mk (wrap .i64 (1+r_40.1)) r_62.1 r_63.1 0)]:List ah)),(wrap .i64 (t2+1)),r_64.2.code,r_64.2.at_,r_64.2.seed))) none))) (
   br ((wrap .i64 (1+r_40.1))==3) (
   (am r_63.2).bind fun r_69=>
   (ab 3 r_69.2).bind fun r_70=>
   br (decide (0≤r_70.1)) (
   br (decide (r_70.1.toNat<([0,1,r_69.1]:List Int).length)) (
   (([0,1,r_69.1]:List Int)[r_70.1.toNat]?).bind fun x18=>
   br (aB ((l++([(ah.mk (wrap .i64 (1+r_40.1)) r_62.1 r_63.1 x18)]:List ah)).length) 32) (
   some (.inl ((l++([(ah.mk (wrap .i64 (1+r_40.1)) r_62.1 r_63.1 x18)]:List ah)),(wrap .i64 (t2+1)),r_70.2.code,r_70.2.at_,r_70.2.seed))) none) none) none) (
   br (aB ((l++([(ah.mk (wrap .i64 (1+r_40.1)) r_62.1 r_63.1 0)]:List ah)).length) 32) (
   some (.inl ((l++([(ah.mk (wrap .i64 (1+r_40.1)) r_62.1 r_63.1 0)]:List ah)),(wrap .i64 (t2+1)),r_63.2.code,r_63.2.at_,r_63.2.seed))) none))) (
   br (r_61==1) (
   (ab t2 r_40.2).bind fun r_71=>
   br ((wrap .i64 (1+r_40.1))==3) (
   (am r_71.2).bind fun r_72=>
   (ab 3 r_72.2).bind fun r_73=>
   br (decide (0≤r_73.1)) (
   br (decide (r_73.1.toNat<([0,1,r_72.1]:List Int).length)) (
   (([0,1,r_72.1]:List Int)[r_73.1.toNat]?).bind fun x19=>
   br (aB ((l++([(ah.mk (wrap .i64 (1+r_40.1)) r_71.1 0 x19)]:List ah)).length) 32) (
   some (.inl ((l++([(ah.mk (wrap .i64 (1+r_40.1)) r_71.1 0 x19)]:List ah)),(wrap .i64 (t2+1)),r_73.2.code,r_73.2.at_,r_73.2.seed))) none) none) none) (
   br (aB ((l++([(ah.mk (wrap .i64 (1+r_40.1)) r_71.1 0 0)]:List ah)).length) 32) (
   some (.inl ((l++([(ah.mk (wrap .i64 (1+r_40.1)) r_71.1 0 0)]:List ah)),(wrap .i64 (t2+1)),r_71.2.code,r_71.2.at_,r_71.2.seed))) none)) (
   br ((wrap .i64 (1+r_40.1))==3) (
   (am r_40.2).bind fun r_74=>
   (ab 3 r_74.2).bind fun r_75=>
   br (decide (0≤r_75.1)) (
   br (decide (r_75.1.toNat<([0,1,r_74.1]:List Int).length)) (
   (([0,1,r_74.1]:List Int)[r_75.1.toNat]?).bind fun x20=>
   br (aB ((l++([(ah.mk (wrap .i64 (1+r_40.1)) 0 0 x20)]:List ah)).length) 32) (
   some (.inl ((l++([(ah.mk (wrap .i64 (1+r_40.1)) 0 0 x20)]:List ah)),(wrap .i64 (t2+1)),r_75.2.code,r_75.2.at_,r_75.2.seed))) none) none) none) (
   br (aB ((l++([(ah.mk (wrap .i64 (1+r_40.1)) 0 0 0)]:List ah)).length) 32) (
   some (.inl ((l++([(ah.mk (wrap .i64 (1+r_40.1)) 0 0 0)]:List ah)),(wrap .i64 (t2+1)),r_40.2.code,r_40.2.at_,r_40.2.seed))) none))))) (
   br ((wrap .i64 (1+r_2.1))==2) (
   (ep (Circuit.mk l) 2).bind fun r_76=>
   br (r_76==3) (
   (dM 1).bind fun r_77=>
   br (r_77==2) (
   (ab t2 r_39.2).bind fun r_78=>
   (ab t2 r_78.2).bind fun r_79=>
   br (aB ((l++([(ah.mk 1 r_78.1 r_79.1 0)]:List ah)).length) 32) (
   some (.inl ((l++([(ah.mk 1 r_78.1 r_79.1 0)]:List ah)),(wrap .i64 (t2+1)),r_79.2.code,r_79.2.at_,r_79.2.seed))) none) (
   br (r_77==1) (
   (ab t2 r_39.2).bind fun r_80=>
   br (aB ((l++([(ah.mk 1 r_80.1 0 0)]:List ah)).length) 32) (
   some (.inl ((l++([(ah.mk 1 r_80.1 0 0)]:List ah)),(wrap .i64 (t2+1)),r_80.2.code,r_80.2.at_,r_80.2.seed))) none) (
   br (aB ((l++([(ah.mk 1 0 0 0)]:List ah)).length) 32) (
   some (.inl ((l++([(ah.mk 1 0 0 0)]:List ah)),(wrap .i64 (t2+1)),r_39.2.code,r_39.2.at_,r_39.2.seed))) none))) (
   (dM (wrap .i64 (1+r_2.1))).bind fun r_81=>
   br (r_81==2) (
   (ab t2 r_39.2).bind fun r_82=>
   (ab t2 r_82.2).bind fun r_83=>
   br ((wrap .i64 (1+r_2.1))==7) (
   (aU 5 r_83.2).bind fun r_84=>
   br (!r_84.1) (
   br ((wrap .i64 (1+r_2.1))==3) (
   (am r_84.2).bind fun r_85=>
   (ab 3 r_85.2).bind fun r_86=>
   br (decide (0≤r_86.1)) (
   br (decide (r_86.1.toNat<([0,1,r_85.1]:List Int).length)) (
   (([0,1,r_85.1]:List Int)[r_86.1.toNat]?).bind fun x21=>
   br (aB ((l++([(ah.mk (wrap .i64 (1+r_2.1)) r_82.1 r_82.1 x21)]:List ah)).length) 32) (
   some (.inl ((l++([(ah.mk (wrap .i64 (1+r_2.1)) r_82.1 r_82.1 x21)]:List ah)),(wrap .i64 (t2+1)),r_86.2.code,r_86.2.at_,r_86.2.seed))) none) none) none) (
   br (aB ((l++([(ah.mk (wrap .i64 (1+r_2.1)) r_82.1 r_82.1 0)]:List ah)).length) 32) (
   some (.inl ((l++([(ah.mk (wrap .i64 (1+r_2.1)) r_82.1 r_82.1 0)]:List ah)),(wrap .i64 (t2+1)),r_84.2.code,r_84.2.at_,r_84.2.seed))) none)) (
   br ((wrap .i64 (1+r_2.1))==3) (
   (am r_84.2).bind fun r_87=>
   (ab 3 r_87.2).bind fun r_88=>
   br (decide (0≤r_88.1)) (
   br (decide (r_88.1.toNat<([0,1,r_87.1]:List Int).length)) (
   (([0,1,r_87.1]:List Int)[r_88.1.toNat]?).bind fun x22=>
   br (aB ((l++([(ah.mk (wrap .i64 (1+r_2.1)) r_82.1 r_83.1 x22)]:List ah)).length) 32) (
   some (.inl ((l++([(ah.mk (wrap .i64 (1+r_2.1)) r_82.1 r_83.1 x22)]:List ah)),(wrap .i64 (t2+1)),r_88.2.code,r_88.2.at_,r_88.2.seed))) none) none) none) (
   br (aB ((l++([(ah.mk (wrap .i64 (1+r_2.1)) r_82.1 r_83.1 0)]:List ah)).length) 32) (
   some (.inl ((l++([(ah.mk (wrap .i64 (1+r_2.1)) r_82.1 r_83.1 0)]:List ah)),(wrap .i64 (t2+1)),r_84.2.code,r_84.2.at_,r_84.2.seed))) none))) (
   br ((wrap .i64 (1+r_2.1))==3) (
   (am r_83.2).bind fun r_89=>
   (ab 3 r_89.2).bind fun r_90=>
   br (decide (0≤r_90.1)) (
   br (decide (r_90.1.toNat<([0,1,r_89.1]:List Int).length)) (
   (([0,1,r_89.1]:List Int)[r_90.1.toNat]?).bind fun x23=>
   br (aB ((l++([(ah.mk (wrap .i64 (1+r_2.1)) r_82.1 r_83.1 x23)]:List ah)).length) 32) (
   some (.inl ((l++([(ah.mk (wrap .i64 (1+r_2.1)) r_82.1 r_83.1 x23)]:List ah)),(wrap .i64 (t2+1)),r_90.2.code,r_90.2.at_,r_90.2.seed))) none) none) none) (
   br (aB ((l++([(ah.mk (wrap .i64 (1+r_2.1)) r_82.1 r_83.1 0)]:List ah)).length) 32) (
   some (.inl ((l++([(ah.mk (wrap .i64 (1+r_2.1)) r_82.1 r_83.1 0)]:List ah)),(wrap .i64 (t2+1)),r_83.2.code,r_83.2.at_,r_83.2.seed))) none))) (
   br (r_81==1) (
   (ab t2 r_39.2).bind fun r_91=>
   br ((wrap .i64 (1+r_2.1))==3) (
   (am r_91.2).bind fun r_92=>
   (ab 3 r_92.2).bind fun r_93=>
   br (decide (0≤r_93.1)) (
   br (decide (r_93.1.toNat<([0,1,r_92.1]:List Int).length)) (
   (([0,1,r_92.1]:List Int)[r_93.1.toNat]?).bind fun x24=>
   br (aB ((l++([(ah.mk (wrap .i64 (1+r_2.1)) r_91.1 0 x24)]:List ah)).length) 32) (
   some (.inl ((l++([(ah.mk (wrap .i64 (1+r_2.1)) r_91.1 0 x24)]:List ah)),(wrap .i64 (t2+1)),r_93.2.code,r_93.2.at_,r_93.2.seed))) none) none) none) (
   br (aB ((l++([(ah.mk (wrap .i64 (1+r_2.1)) r_91.1 0 0)]:List ah)).length) 32) (
   some (.inl ((l++([(ah.mk (wrap .i64 (1+r_2.1)) r_91.1 0 0)]:List ah)),(wrap .i64 (t2+1)),r_91.2.code,r_91.2.at_,r_91.2.seed))) none)) (
   br ((wrap .i64 (1+r_2.1))==3) (
   (am r_39.2).bind fun r_94=>
   (ab 3 r_94.2).bind fun r_95=>
   br (decide (0≤r_95.1)) (
   br (decide (r_95.1.toNat<([0,1,r_94.1]:List Int).length)) (
   (([0,1,r_94.1]:List Int)[r_95.1.toNat]?).bind fun x25=>
   br (aB ((l++([(ah.mk (wrap .i64 (1+r_2.1)) 0 0 x25)]:List ah)).length) 32) (
   some (.inl ((l++([(ah.mk (wrap .i64 (1+r_2.1)) 0 0 x25)]:List ah)),(wrap .i64 (t2+1)),r_95.2.code,r_95.2.at_,r_95.2.seed))) none) none) none) (
   br (aB ((l++([(ah.mk (wrap .i64 (1+r_2.1)) 0 0 0)]:List ah)).length) 32) (
   some (.inl ((l++([(ah.mk (wrap .i64 (1+r_2.1)) 0 0 0)]:List ah)),(wrap .i64 (t2+1)),r_39.2.code,r_39.2.at_,r_39.2.seed))) none))))) (
   (dM (wrap .i64 (1+r_2.1))).bind fun r_96=>
   br (r_96==2) (
   (ab t2 r_39.2).bind fun r_97=>
   (ab t2 r_97.2).bind fun r_98=>
   br ((wrap .i64 (1+r_2.1))==7) (
   (aU 5 r_98.2).bind fun r_99=>
   br (!r_99.1) (
   br ((wrap .i64 (1+r_2.1))==3) (
   (am r_99.2).bind fun r_100=>
   (ab 3 r_100.2).bind fun r_101=>
   br (decide (0≤r_101.1)) (
   br (decide (r_101.1.toNat<([0,1,r_100.1]:List Int).length)) (
   (([0,1,r_100.1]:List Int)[r_101.1.toNat]?).bind fun x26=>
   br (aB ((l++([(ah.mk (wrap .i64 (1+r_2.1)) r_97.1 r_97.1 x26)]:List ah)).length) 32) (
   some (.inl ((l++([(ah.mk (wrap .i64 (1+r_2.1)) r_97.1 r_97.1 x26)]:List ah)),(wrap .i64 (t2+1)),r_101.2.code,r_101.2.at_,r_101.2.seed))) none) none) none) (
   br (aB ((l++([(ah.mk (wrap .i64 (1+r_2.1)) r_97.1 r_97.1 0)]:List ah)).length) 32) (
   some (.inl ((l++([(ah.mk (wrap .i64 (1+r_2.1)) r_97.1 r_97.1 0)]:List ah)),(wrap .i64 (t2+1)),r_99.2.code,r_99.2.at_,r_99.2.seed))) none)) (
   br ((wrap .i64 (1+r_2.1))==3) (
   (am r_99.2).bind fun r_102=>
   (ab 3 r_102.2).bind fun r_103=>
   br (decide (0≤r_103.1)) (
   br (decide (r_103.1.toNat<([0,1,r_102.1]:List Int).length)) (
   (([0,1,r_102.1]:List Int)[r_103.1.toNat]?).bind fun x27=>
   br (aB ((l++([(ah.mk (wrap .i64 (1+r_2.1)) r_97.1 r_98.1 x27)]:List ah)).length) 32) (
   some (.inl ((l++([(ah.mk (wrap .i64 (1+r_2.1)) r_97.1 r_98.1 x27)]:List ah)),(wrap .i64 (t2+1)),r_103.2.code,r_103.2.at_,r_103.2.seed))) none) none) none) (
   br (aB ((l++([(ah.mk (wrap .i64 (1+r_2.1)) r_97.1 r_98.1 0)]:List ah)).length) 32) (
   some (.inl ((l++([(ah.mk (wrap .i64 (1+r_2.1)) r_97.1 r_98.1 0)]:List ah)),(wrap .i64 (t2+1)),r_99.2.code,r_99.2.at_,r_99.2.seed))) none))) (
   br ((wrap .i64 (1+r_2.1))==3) (
   (am r_98.2).bind fun r_104=>
   (ab 3 r_104.2).bind fun r_105=>
   br (decide (0≤r_105.1)) (
   br (decide (r_105.1.toNat<([0,1,r_104.1]:List Int).length)) (
   (([0,1,r_104.1]:List Int)[r_105.1.toNat]?).bind fun x28=>
   br (aB ((l++([(ah.mk (wrap .i64 (1+r_2.1)) r_97.1 r_98.1 x28)]:List ah)).length) 32) (
   some (.inl ((l++([(ah.mk (wrap .i64 (1+r_2.1)) r_97.1 r_98.1 x28)]:List ah)),(wrap .i64 (t2+1)),r_105.2.code,r_105.2.at_,r_105.2.seed))) none) none) none) (
   br (aB ((l++([(ah.mk (wrap .i64 (1+r_2.1)) r_97.1 r_98.1 0)]:List ah)).length) 32) (
   some (.inl ((l++([(ah.mk (wrap .i64 (1+r_2.1)) r_97.1 r_98.1 0)]:List ah)),(wrap .i64 (t2+1)),r_98.2.code,r_98.2.at_,r_98.2.seed))) none))) (
   br (r_96==1) (
   (ab t2 r_39.2).bind fun r_106=>
   br ((wrap .i64 (1+r_2.1))==3) (
   (am r_106.2).bind fun r_107=>
   (ab 3 r_107.2).bind fun r_108=>
   br (decide (0≤r_108.1)) (
   br (decide (r_108.1.toNat<([0,1,r_107.1]:List Int).length)) (
   (([0,1,r_107.1]:List Int)[r_108.1.toNat]?).bind fun x29=>
   br (aB ((l++([(ah.mk (wrap .i64 (1+r_2.1)) r_106.1 0 x29)]:List ah)).length) 32) (
   some (.inl ((l++([(ah.mk (wrap .i64 (1+r_2.1)) r_106.1 0 x29)]:List ah)),(wrap .i64 (t2+1)),r_108.2.code,r_108.2.at_,r_108.2.seed))) none) none) none) (
   br (aB ((l++([(ah.mk (wrap .i64 (1+r_2.1)) r_106.1 0 0)]:List ah)).length) 32) (
   some (.inl ((l++([(ah.mk (wrap .i64 (1+r_2.1)) r_106.1 0 0)]:List ah)),(wrap .i64 (t2+1)),r_106.2.code,r_106.2.at_,r_106.2.seed))) none)) (
   br ((wrap .i64 (1+r_2.1))==3) (
   (am r_39.2).bind fun r_109=>
   (ab 3 r_109.2).bind fun r_110=>
   br (decide (0≤r_110.1)) (
   br (decide (r_110.1.toNat<([0,1,r_109.1]:List Int).length)) (
   (([0,1,r_109.1]:List Int)[r_110.1.toNat]?).bind fun x30=>
   br (aB ((l++([(ah.mk (wrap .i64 (1+r_2.1)) 0 0 x30)]:List ah)).length) 32) (
   some (.inl ((l++([(ah.mk (wrap .i64 (1+r_2.1)) 0 0 x30)]:List ah)),(wrap .i64 (t2+1)),r_110.2.code,r_110.2.at_,r_110.2.seed))) none) none) none) (
   br (aB ((l++([(ah.mk (wrap .i64 (1+r_2.1)) 0 0 0)]:List ah)).length) 32) (
   some (.inl ((l++([(ah.mk (wrap .i64 (1+r_2.1)) 0 0 0)]:List ah)),(wrap .i64 (t2+1)),r_39.2.code,r_39.2.at_,r_39.2.seed))) none))))))) (
   some (.inr (l,t2,decide (t2<t),c,c2,c3)))
abbrev kz (l:List ah) (c:List UInt8) (c2 c3:Int):List (Nat×Blk):=[(0,⟨3,true,[[sl eU8 c,I c2,I c3]]⟩),(1000,⟨1,true,[[.lit (.slice none 0 0)]]⟩),(2000,⟨4,false,rws bp l⟩),(2002,⟨1,true,[[.sl 2000 0 l.length]]⟩)]
abbrev sN (t:Int) (s:(List ah)×Int×(List UInt8)×Int×Int):St:=⟨[(0,.ptr 0 0 0 1),(2,.ptr 1000 0 0 1),(3,.ptr 2002 0 0 1),(4,I t),(5,I s.2.1)],kz s.1 s.2.2.1 s.2.2.2.1 s.2.2.2.2⟩
abbrev rN (t:Int):((List ah)×Int×Bool×(List UInt8)×Int×Int)→aw×St:=fun e=>(.exit 0,⟨[(0,.ptr 0 0 0 1),(2,.ptr 1000 0 0 1),(3,.ptr 2002 0 0 1),(4,I t),(5,I e.2.1),(14,B e.2.2.1)],kz e.1 e.2.2.2.1 e.2.2.2.2.1 e.2.2.2.2.2⟩)
theorem CG {t s e} (h:Loop (eJ t) s=some e):aO tab ow (.close [7001,7004,8004,9001,10005,12002,14002,15002,16005,19002,21001,21002,21004,22003,22004]) rZ (sN t s)=some (rN t e):=by
 refine lrG (fun s o h=> ?_) h
 obtain ⟨_,_,_,_,_⟩:=s
 simp only [eJ] at h
 simp only [sN,rN,kz,rZ,rU]
 have d1:= @cu
 have d2:= @pc
 have d3:= @KW
 have d4:= @cX
 have d5:= @fW
 exact go2
def iG (m:aD):Option (Circuit×aD):=
 (ab 9 m).bind fun r_=>
 (Loop (eJ (wrap .i64 (1+r_.1))) (([]:List ah),0,r_.2.code,r_.2.at_,r_.2.seed)).bind fun e_=>
 some ((Circuit.mk e_.1),(aD.mk e_.2.2.2.1 e_.2.2.2.2.1 e_.2.2.2.2.2))
theorem Fy {m r} (h:iG m=some r):Call tab ow 91 [.ptr 0 0 0 1] [⟨3,true,[[sl eU8 m.code,I m.at_,I m.seed]]⟩]=some (.agg [sl bp r.1.Gates],[⟨3,true,[[sl eU8 r.2.code,I r.2.at_,I r.2.seed]]⟩]):=by
 rw [ag (af:=j6) rfl]
 unfold iG at h
 simp only [j6,nR]
 have d1:= @cu
 have d2:= @CG
 exact go2
end
section
theorem Gb:mkR 2000 []=rws eI []:=rfl
attribute [local go_sem] Gb
theorem Fs:mkR 2001 []=rws eI []:=rfl
attribute [local go_sem] Fs
theorem FQ:mkR 6000 []=rws eI []:=rfl
attribute [local go_sem] FQ
theorem Fk:mkR 13007 []=rws eI []:=rfl
attribute [local go_sem] Fk
def cw (l2 l3:List Int) (c5:List ah):(List Int)×Int×(List UInt8)×Int×Int→Option (((List Int)×Int×(List UInt8)×Int×Int)⊕(((List Int)×Int×Bool×(List UInt8)×Int×Int)))
 | (l,k,c2,c3,c4)=>
   br (decide (k>0)) (
   (ab 2 (aD.mk c2 c3 c4)).bind fun r_2=>
   (aU 5 r_2.2).bind fun r_3=>
   br r_3.1 (
   (am r_3.2).bind fun r_4=>
   br (aB ((l++([r_4.1]:List Int)).length) 8) (
   some (.inl ((l++([r_4.1]:List Int)),(wrap .i64 (k-1)),r_4.2.code,r_4.2.at_,r_4.2.seed))) none) (
   br (aB ((l++([r_2.1]:List Int)).length) 8) (
   some (.inl ((l++([r_2.1]:List Int)),(wrap .i64 (k-1)),r_3.2.code,r_3.2.at_,r_3.2.seed))) none)) (
   some (.inr (l,k,decide (k>0),c2,c3,c4)))
abbrev mh (l2 l3:List Int) (c5:List ah) (l:List Int) (c2:List UInt8) (c3 c4:Int):List (Nat×Blk):=[(0,⟨3,true,[[sl eU8 c2,I c3,I c4]]⟩),(1000,⟨1,true,[[sl bp c5]]⟩),(2000,⟨1,false,rws eI l⟩),(2001,⟨1,false,rws eI l2⟩),(2002,⟨1,true,[[.sl 2000 0 l.length],[.sl 2001 0 l2.length]]⟩),(6000,⟨1,false,rws eI l3⟩)]
abbrev tI (l2 l3:List Int) (c5:List ah) (s:(List Int)×Int×(List UInt8)×Int×Int):St:=⟨[(0,.ptr 0 0 0 1),(3,.ptr 1000 0 0 1),(6,.sl 2002 0 2),(7,I 0),(9,I s.2.1)],mh l2 l3 c5 s.1 s.2.2.1 s.2.2.2.1 s.2.2.2.2⟩
abbrev tL (l2 l3:List Int) (c5:List ah):((List Int)×Int×Bool×(List UInt8)×Int×Int)→aw×St:=fun e=>(.exit 2,⟨[(0,.ptr 0 0 0 1),(3,.ptr 1000 0 0 1),(6,.sl 2002 0 2),(7,I 0),(9,I e.2.1),(26,B e.2.2.1)],mh l2 l3 c5 e.1 e.2.2.2.1 e.2.2.2.2.1 e.2.2.2.2.2⟩)
theorem DE {l2 l3 c5 s e} (h:Loop (cw l2 l3 c5) s=some e):aO tab ow (.close [10001,11001,12001,13007,13008]) iz (tI l2 l3 c5 s)=some (tL l2 l3 c5 e):=by
 refine lrG (fun s o h=> ?_) h
 obtain ⟨_,_,_,_,_⟩:=s
 simp only [cw] at h
 simp only [tI,tL,mh,iz,mb]
 have d1:= @cu
 have d2:= @cX
 have d3:= @fW
 exact go2
def fj (l4 l6:List Int) (c9:List ah):(List Int)×Int×(List UInt8)×Int×Int→Option (((List Int)×Int×(List UInt8)×Int×Int)⊕(((List Int)×Int×Bool×(List UInt8)×Int×Int)))
 | (l5,k2,c6,c7,c8)=>
   br (decide (k2>0)) (
   (ab 2 (aD.mk c6 c7 c8)).bind fun r_6=>
   (aU 5 r_6.2).bind fun r_7=>
   br r_7.1 (
   (am r_7.2).bind fun r_8=>
   br (aB ((l5++([r_8.1]:List Int)).length) 8) (
   some (.inl ((l5++([r_8.1]:List Int)),(wrap .i64 (k2-1)),r_8.2.code,r_8.2.at_,r_8.2.seed))) none) (
   br (aB ((l5++([r_6.1]:List Int)).length) 8) (
   some (.inl ((l5++([r_6.1]:List Int)),(wrap .i64 (k2-1)),r_7.2.code,r_7.2.at_,r_7.2.seed))) none)) (
   some (.inr (l5,k2,decide (k2>0),c6,c7,c8)))
abbrev lX (l4 l6:List Int) (c9:List ah) (l5:List Int) (c6:List UInt8) (c7 c8:Int):List (Nat×Blk):=[(0,⟨3,true,[[sl eU8 c6,I c7,I c8]]⟩),(1000,⟨1,true,[[sl bp c9]]⟩),(2000,⟨1,false,rws eI l4⟩),(2001,⟨1,false,rws eI l5⟩),(2002,⟨1,true,[[.sl 2000 0 l4.length],[.sl 2001 0 l5.length]]⟩),(6000,⟨1,false,rws eI l6⟩)]
abbrev tO (l4 l6:List Int) (c9:List ah) (s:(List Int)×Int×(List UInt8)×Int×Int):St:=⟨[(0,.ptr 0 0 0 1),(3,.ptr 1000 0 0 1),(6,.sl 2002 0 2),(7,I 1),(9,I s.2.1)],lX l4 l6 c9 s.1 s.2.2.1 s.2.2.2.1 s.2.2.2.2⟩
abbrev tQ (l4 l6:List Int) (c9:List ah):((List Int)×Int×Bool×(List UInt8)×Int×Int)→aw×St:=fun e=>(.exit 2,⟨[(0,.ptr 0 0 0 1),(3,.ptr 1000 0 0 1),(6,.sl 2002 0 2),(7,I 1),(9,I e.2.1),(26,B e.2.2.1)],lX l4 l6 c9 e.1 e.2.2.2.1 e.2.2.2.2.1 e.2.2.2.2.2⟩)
theorem DN {l4 l6 c9 s e} (h:Loop (fj l4 l6 c9) s=some e):aO tab ow (.close [10001,11001,12001,13007,13008]) iz (tO l4 l6 c9 s)=some (tQ l4 l6 c9 e):=by
 refine lrG (fun s o h=> ?_) h
 obtain ⟨_,_,_,_,_⟩:=s
 simp only [fj] at h
 simp only [tO,tQ,lX,iz,mb]
 have d1:= @cu
 have d2:= @cX
 have d3:= @fW
 exact go2
def jC (c:Circuit) (m:aD):Option ((List Int)×(List Int)×aD):=
 (ep c 2).bind fun r_=>
 (Loop (cw ([]:List Int) ([2,1]:List Int) c.Gates) (([]:List Int),r_,m.code,m.at_,m.seed)).bind fun e_=>
 (ep c 1).bind fun r_5=>
 (Loop (fj e_.1 ([2,1]:List Int) c.Gates) (([]:List Int),r_5,e_.2.2.2.1,e_.2.2.2.2.1,e_.2.2.2.2.2)).bind fun e_2=>
 some (e_.1,e_2.1,(aD.mk e_2.2.2.2.1 e_2.2.2.2.2.1 e_2.2.2.2.2.2))
theorem H8 {c m r} (h:jC c m=some r):Call tab ow 92 [.ptr 0 0 0 1,.agg [sl bp c.Gates]] [⟨3,true,[[sl eU8 m.code,I m.at_,I m.seed]]⟩]=some (.tup [sl eI r.1,sl eI r.2.1],[⟨3,true,[[sl eU8 r.2.2.code,I r.2.2.at_,I r.2.2.seed]]⟩]):=by
 rw [ag (af:=ki) rfl]
 unfold jC at h
 simp+decide only [ki,ka,go_sem,reduceIte,Nat.reduceAdd,Int.reduceAdd,Int.reduceMul,Int.reduceSub]
 refine cQ ?_
 simp+decide only [mkL,go_sem,reduceIte,Nat.reduceAdd,Int.reduceAdd,Int.reduceMul,Int.reduceSub]
 obtain ⟨r_,h1,h⟩:=bd h
 refine bC (pc h1) ?_
 simp+decide only [go_sem,reduceIte,Nat.reduceAdd,Int.reduceAdd,Int.reduceMul,Int.reduceSub]
 obtain ⟨e_,h1,h⟩:=bd h
 refine A1 (DE h1) ?_
 simp+decide only [go_sem,reduceIte,Nat.reduceAdd,Int.reduceAdd,Int.reduceMul,Int.reduceSub]
 refine cQ ?_
 simp+decide only [mkL,go_sem,reduceIte,Nat.reduceAdd,Int.reduceAdd,Int.reduceMul,Int.reduceSub]
 obtain ⟨r_5,h1,h⟩:=bd h
 refine bC (pc h1) ?_
 simp+decide only [go_sem,reduceIte,Nat.reduceAdd,Int.reduceAdd,Int.reduceMul,Int.reduceSub]
 obtain ⟨e_2,h1,h⟩:=bd h
 refine A1 (DN h1) ?_
 simp+decide only [go_sem,reduceIte,Nat.reduceAdd,Int.reduceAdd,Int.reduceMul,Int.reduceSub]
 refine cQ ?_
 simp+decide only [mkL,go_sem,reduceIte,Nat.reduceAdd,Int.reduceAdd,Int.reduceMul,Int.reduceSub]
 obtain rfl:=Option.some.inj h
 first|rfl| (simp only [List.length_set,go_sem];done)
end
def Cx (a b:Int):Option (Int):=
 some ((wrap .i64 (a+b)).tmod 2130706433)
theorem a03 {a b r} (h:Cx a b=some r):Call tab ow 243 [I a,I b] []=some (I r,[]):=by
 rw [ag (af:=Aa) rfl]
 unfold Cx at h
 simp only [Aa,OJ]
 exact go2
def Bs (a b:Int):Option (Int):=
 some ((wrap .i64 ((wrap .i64 (a+2130706433))-b)).tmod 2130706433)
theorem ZV {a b r} (h:Bs a b=some r):Call tab ow 244 [I a,I b] []=some (I r,[]):=by
 rw [ag (af:=A3) rfl]
 unfold Bs at h
 simp only [A3,ME]
 exact go2
def Cl (a b:Int):Option (Int):=
 some ((wrap .i64 (a*b)).tmod 2130706433)
theorem Zd {a b r} (h:Cl a b=some r):Call tab ow 245 [I a,I b] []=some (I r,[]):=by
 rw [ag (af:=zR) rfl]
 unfold Cl at h
 simp only [zR,OL]
 exact go2
end
end Go.AI.Fn
set_option linter.unusedVariables false
set_option linter.unusedSimpArgs false
set_option maxRecDepth 100000
set_option maxHeartbeats 1000000
namespace Go.AI.Fn
noncomputable section
open IntKind (wrap)
section
theorem V2:mkR 2000 []=rws eI []:=rfl
attribute [local go_sem] V2
theorem V5:mkR 26002 []=rws eI []:=rfl
attribute [local go_sem] V5
def lF (t t2:List Int) (c:List ah):(List Int)×Int×Int×Int→Option (((List Int)×Int×Int×Int)⊕(((List Int)×Int×Int×Int×Bool)))
 | (l,t3,t4,t5)=>
   br (decide (t5<((c.length:Nat):Int))) (
   (atL c t5).bind fun x=>
   br (x.Op==1) (
   (atL t2 t4).bind fun x2=>
   br (aB ((l++([x2]:List Int)).length) 8) (
   some (.inl ((l++([x2]:List Int)),t3,(wrap .i64 (t4+1)),(wrap .i64 (t5+1))))) none) (
   br (x.Op==2) (
   (atL t t3).bind fun x3=>
   br (aB ((l++([x3]:List Int)).length) 8) (
   some (.inl ((l++([x3]:List Int)),(wrap .i64 (t3+1)),t4,(wrap .i64 (t5+1))))) none) (
   br (x.Op==3) (
   br (aB ((l++([x.K]:List Int)).length) 8) (
   some (.inl ((l++([x.K]:List Int)),t3,t4,(wrap .i64 (t5+1))))) none) (
   br (x.Op==4) (
   br (decide (0≤x.A)) (
   br (decide (x.A.toNat<l.length)) (
   (l[x.A.toNat]?).bind fun x4=>
   br (decide (0≤x.B)) (
   br (decide (x.B.toNat<l.length)) (
   (l[x.B.toNat]?).bind fun x5=>
   (Cx x4 x5).bind fun r_=>
   br (aB ((l++([r_]:List Int)).length) 8) (
   some (.inl ((l++([r_]:List Int)),t3,t4,(wrap .i64 (t5+1))))) none) none) none) none) none) (
   br (x.Op==5) (
   br (decide (0≤x.A)) (
   br (decide (x.A.toNat<l.length)) (
   (l[x.A.toNat]?).bind fun x6=>
   br (decide (0≤x.B)) (
   br (decide (x.B.toNat<l.length)) (
   (l[x.B.toNat]?).bind fun x7=>
   (Bs x6 x7).bind fun r_2=>
   br (aB ((l++([r_2]:List Int)).length) 8) (
   some (.inl ((l++([r_2]:List Int)),t3,t4,(wrap .i64 (t5+1))))) none) none) none) none) none) (
   br (x.Op==6) (
   br (decide (0≤x.A)) (
   br (decide (x.A.toNat<l.length)) (
   (l[x.A.toNat]?).bind fun x8=>
   br (decide (0≤x.B)) (
   br (decide (x.B.toNat<l.length)) (
   (l[x.B.toNat]?).bind fun x9=>
   (Cl x8 x9).bind fun r_3=>
   br (aB ((l++([r_3]:List Int)).length) 8) (
   some (.inl ((l++([r_3]:List Int)),t3,t4,(wrap .i64 (t5+1))))) none) none) none) none) none) (
   br (decide (0≤x.A)) (
   br (decide (x.A.toNat<l.length)) (
   (l[x.A.toNat]?).bind fun x10=>
   br (aB ((l++([x10]:List Int)).length) 8) (
   some (.inl ((l++([x10]:List Int)),t3,t4,(wrap .i64 (t5+1))))) none) none) none))))))) (
   some (.inr (l,t3,t4,t5,decide (t5<((c.length:Nat):Int)))))
abbrev zs (c:List ah) (l:List Int):List (Nat×Blk):=[(1000,⟨1,true,[[sl bp c]]⟩),(2000,⟨1,false,rws eI l⟩)]
abbrev Ht (t t2:List Int) (c:List ah) (s:(List Int)×Int×Int×Int):St:=⟨[(1,sl eI t),(2,sl eI t2),(3,.ptr 1000 0 0 1),(7,.sl 2000 0 s.1.length),(8,I s.2.1),(9,I s.2.2.1),(10,I s.2.2.2)],zs c s.1⟩
abbrev Hh (t t2:List Int) (c:List ah):((List Int)×Int×Int×Int×Bool)→aw×St:=fun e=>(.exit 0,⟨[(1,sl eI t),(2,sl eI t2),(3,.ptr 1000 0 0 1),(7,.sl 2000 0 e.1.length),(8,I e.2.1),(9,I e.2.2.1),(10,I e.2.2.2.1),(18,B e.2.2.2.2)],zs c e.1⟩)
theorem T8 {t t2 c s e} (h:Loop (lF t t2 c) s=some e):aO tab ow (.close [8005,21010,23010,25010,26002,26003]) Hc (Ht t t2 c s)=some (Hh t t2 c e):=by
 refine lrG (fun s o h=> ?_) h
 obtain ⟨_,_,_,_⟩:=s
 simp only [lF] at h
 simp only [Ht,Hh,zs,Hc,HS]
 have d1:= @a03
 have d2:= @ZV
 have d3:= @Zd
 exact go2
def BT (ListtoArray:Circuit) (a a2:(List Int)):Option ((List Int)):=
 (Loop (lF a a2 ListtoArray.Gates) (([]:List Int),0,0,0)).bind fun e_=>
 some e_.1
theorem Zf {ListtoArray a a2 r} (h:BT ListtoArray a a2=some r):Call tab ow 125 [.agg [sl bp ListtoArray.Gates],sl eI a,sl eI a2] []=some (sl eI r,[]):=by
 rw [ag (af:=As) rfl]
 unfold BT at h
 simp only [As,FK]
 have d1:= @T8
 exact go2
end
def ez (v2:List Int) (c2:List ah):Int→Option ((Int)⊕((Int×Int×Int×Int)⊕(Int×Bool)))
 |k=>
  br (decide (k<((c2.length:Nat):Int))) (
  (atL c2 k).bind fun x=>
  br (x.Op==7) (
  (atL v2 x.A).bind fun x2=>
  (atL v2 x.B).bind fun x3=>
  br (x2 !=x3) (
  some (.inr (.inl (x.Op,x.A,x.B,x.K)))) (
  br (x.Op==8) (
  (atL v2 x.A).bind fun x4=>
  br (decide (x4>1)) (
  some (.inr (.inl (x.Op,x.A,x.B,x.K)))) (
  some (.inl (wrap .i64 (k+1))))) (
  some (.inl (wrap .i64 (k+1)))))) (
  br (x.Op==8) (
  (atL v2 x.A).bind fun x5=>
  br (decide (x5>1)) (
  some (.inr (.inl (x.Op,x.A,x.B,x.K)))) (
  some (.inl (wrap .i64 (k+1))))) (
  some (.inl (wrap .i64 (k+1)))))) (
  some (.inr (.inr (k,decide (k<((c2.length:Nat):Int))))))
abbrev E5 (v2:List Int) (c2:List ah) (s:Int):St:=⟨[(1,sl eI v2),(2,.ptr 1000 0 0 1),(5,I s)],[(1000,⟨1,true,[[sl bp c2]]⟩)]⟩
abbrev EL (v2:List Int) (c2:List ah):((Int×Int×Int×Int)⊕(Int×Bool))→aw×St:=alt (fun e=>((.ret,⟨[(4,B false)],[(1000,⟨1,true,[[sl bp c2]]⟩),(5005,⟨4,true,[[I e.1,I e.2.1,I e.2.2.1,I e.2.2.2]]⟩)]⟩):aw×St)) (fun e=>(.exit 0,⟨[(1,sl eI v2),(2,.ptr 1000 0 0 1),(5,I e.1),(11,B e.2)],[(1000,⟨1,true,[[sl bp c2]]⟩)]⟩))
theorem PO {v2 c2 s e} (h:Loop (ez v2 c2) s=some e):aO tab ow (.close [5005]) EY (E5 v2 c2 s)=some (EL v2 c2 e):=by
 refine lrG (fun s o h=> ?_) h
 simp only [ez] at h
 simp only [E5,EL,EY,EW]
 exact go2
def ye (c:Circuit) (v:(List Int)):Option (Bool):=
 (Loop (ez v c.Gates) 0).bind (alt (fun e_2=>
 some false) (fun e_3=>
 some true))
theorem Xs {c v r} (h:ye c v=some r):Call tab ow 126 [.agg [sl bp c.Gates],sl eI v] []=some (B r,[]):=by
 rw [ag (af:=xw) rfl]
 unfold ye at h
 simp only [xw,Ch]
 have d1:= @PO
 exact go2
def ly (m:aD):Option (Setting×aD):=
 (ab 2 m).bind fun r_=>
 (ab 3 r_.2).bind fun r_2=>
 (ab 3 r_2.2).bind fun r_3=>
 some ((Setting.mk (wrap .i64 (1+r_.1)) (wrap .i64 (1+r_2.1)) r_3.1),r_3.2)
theorem FF {m r} (h:ly m=some r):Call tab ow 93 [.ptr 0 0 0 1] [⟨3,true,[[sl eU8 m.code,I m.at_,I m.seed]]⟩]=some (.agg [I r.1.Rate,I r.1.Queries,I r.1.Grind],[⟨3,true,[[sl eU8 r.2.code,I r.2.at_,I r.2.seed]]⟩]):=by
 rw [ag (af:=jn) rfl]
 unfold ly at h
 simp only [jn,vq]
 have d1:= @cu
 exact go2
def ig (list:(List (List UInt8))) (m:aD):Option ((List UInt8)×aD):=
 br (((list.length:Nat):Int)==0) (
 some ((([]:List UInt8)),m)) (
 (ab ((list.length:Nat):Int) m).bind fun r_=>
 (atL list r_.1).bind fun x=>
 some (x,r_.2))
theorem tu {list m r} (h:ig list m=some r):Call tab ow 190 [.ptr 0 0 0 1,sl eS list] [⟨3,true,[[sl eU8 m.code,I m.at_,I m.seed]]⟩]=some (S r.1,[⟨3,true,[[sl eU8 r.2.code,I r.2.at_,I r.2.seed]]⟩]):=by
 rw [ag (af:=nj) rfl]
 unfold ig at h
 simp only [nj,AK]
 have d1:= @cu
 exact go2
def iI (m:List Int) (t2:List UInt8):(List Int)×Int→Option (((List Int)×Int)⊕(((List Int)×Int×Bool)))
 | (m2,i)=>
   br (decide (i<((t2.length:Nat):Int))) (
   br (decide (0≤(wrap .i64 (i.tdiv 8)))&&decide ((wrap .i64 (i.tdiv 8)).toNat<25)) (
   (m2[(wrap .i64 (i.tdiv 8)).toNat]?).bind fun x=>
   (atL t2 i).bind fun c=>
   br (decide (0≤(wrap .u64 (wrap .i64 (8*(i.tmod 8)))))) (
   br (decide (0≤(wrap .i64 (i.tdiv 8)))&&decide ((wrap .i64 (i.tdiv 8)).toNat<25)) (
   br (decide ((wrap .i64 (i.tdiv 8)).toNat<m2.length)) (
   some (.inl ((m2.set ((wrap .i64 (i.tdiv 8)).toNat) (ui .u64 x (aP .u64 (wrap .u64 (c.toNat:Int)) (wrap .u64 (wrap .i64 (8*(i.tmod 8))))))),(wrap .i64 (i+1))))) none) none) none) none) (
   some (.inr (m2,i,decide (i<((t2.length:Nat):Int)))))
abbrev vE (m m2:List Int):List (Nat×Blk):=[(1000,⟨25,true,[ar .u64 m]⟩),(2001,⟨25,true,[ar .u64 m2]⟩)]
abbrev BI (m:List Int) (t2:List UInt8) (s:(List Int)×Int):St:=⟨[(0,S t2),(2,.ptr 1000 0 0 1),(3,.ptr 2001 0 0 1),(4,I s.2)],vE m s.1⟩
abbrev Cu (m:List Int) (t2:List UInt8):((List Int)×Int×Bool)→aw×St:=fun e=>(.exit 0,⟨[(0,S t2),(2,.ptr 1000 0 0 1),(3,.ptr 2001 0 0 1),(4,I e.2.1),(9,B e.2.2)],vE m e.1⟩)
theorem N2 {m t2 s e} (h:Loop (iI m t2) s=some e):aO tab ow (.close []) vI (BI m t2 s)=some (Cu m t2 e):=by
 refine lrG (fun s o h=> ?_) h
 obtain ⟨_,_⟩:=s
 simp only [iI] at h
 simp only [BI,Cu,vE,vI]
 exact go2
def vd (t:(List UInt8)):Option ((List Int)):=
 (Loop (iI (nZ 25) t) ((nZ 25),0)).bind fun e_=>
 br (decide (e_.1.length=25)) (
 br (decide (e_.1.length=25)) (
 br (decide (e_.1.length=25)) (
 some e_.1) none) none) none
theorem Su {t r} (h:vd t=some r):Call tab ow 321 [S t] []=some (.agg (ar .u64 r),[]):=by
 rw [ag (af:=uc) rfl]
 unfold vd at h
 simp only [uc,HM]
 have d1:= @N2
 exact go2
def C8:Option ((List Int)):=
 some ([1,32898,9223372036854808714,9223372039002292224,32907,2147483649,9223372039002292353,9223372036854808585,138,136,2147516425,2147483658,2147516555,9223372036854775947,9223372036854808713,9223372036854808579,9223372036854808578,9223372036854775936,32778,9223372039002259466,9223372039002292353,9223372036854808704,2147483649,9223372039002292232]:List Int)
theorem Qg {r} (h:C8=some r):Call tab ow 365 [] []=some (.agg (ar .u64 r),[]):=by
 rw [ag (af:=rL) rfl]
 unfold C8 at h
 simp only [rL,Ew]
 exact go2
def BJ:Option ((List Int)):=
 some ([0,1,62,28,27,36,44,6,55,20,3,10,43,25,39,41,45,15,21,8,18,2,61,56,14]:List Int)
theorem Pp {r} (h:BJ=some r):Call tab ow 366 [] []=some (.agg (ar .u64 r),[]):=by
 rw [ag (af:=rI) rfl]
 unfold BJ at h
 simp only [rI,E8]
 exact go2
def uR (x n:Int):Option (Int):=
 br (n==0) (
 some x) (
 br (decide (0≤n)) (
 br (decide (0≤(wrap .u64 (64-n)))) (
 some (ui .u64 (aP .u64 x n) (bA .u64 x (wrap .u64 (64-n))))) none) none)
theorem Lc {x n r} (h:uR x n=some r):Call tab ow 367 [.lit (.int .u64 x),.lit (.int .u64 n)] []=some (.lit (.int .u64 r),[]):=by
 rw [ag (af:=xy) rfl]
 unfold uR at h
 simp only [xy,KX]
 exact go2
def fN (m5 m6 m7 m8:List Int) (t2:Int):(List Int)×Int→Option (((List Int)×Int)⊕(((List Int)×Int×Bool)))
 | (m9,t3)=>
   br (decide (t3<5)) (
   br (decide (0≤t3)&&decide (t3.toNat<25)) (
   (m5[t3.toNat]?).bind fun x=>
   br (decide (0≤(wrap .i64 (t3+5)))&&decide ((wrap .i64 (t3+5)).toNat<25)) (
   (m5[(wrap .i64 (t3+5)).toNat]?).bind fun x2=>
   br (decide (0≤(wrap .i64 (t3+10)))&&decide ((wrap .i64 (t3+10)).toNat<25)) (
   (m5[(wrap .i64 (t3+10)).toNat]?).bind fun x3=>
   br (decide (0≤(wrap .i64 (t3+15)))&&decide ((wrap .i64 (t3+15)).toNat<25)) (
   (m5[(wrap .i64 (t3+15)).toNat]?).bind fun x4=>
   br (decide (0≤(wrap .i64 (t3+20)))&&decide ((wrap .i64 (t3+20)).toNat<25)) (
   (m5[(wrap .i64 (t3+20)).toNat]?).bind fun x5=>
   br (decide (0≤t3)&&decide (t3.toNat<5)) (
   br (decide (t3.toNat<m9.length)) (
   some (.inl ((m9.set t3.toNat (io .u64 (io .u64 (io .u64 (io .u64 x x2) x3) x4) x5)),(wrap .i64 (t3+1))))) none) none) none) none) none) none) none) (
   some (.inr (m9,t3,decide (t3<5))))
abbrev qy (m5 m6 m7 m8 m9:List Int):List (Nat×Blk):=[(1000,⟨25,true,[ar .u64 m5]⟩),(1001,⟨25,true,[ar .u64 m6]⟩),(2001,⟨24,true,[ar .u64 m7]⟩),(3001,⟨25,true,[ar .u64 m8]⟩),(7001,⟨5,true,[ar .u64 m9]⟩)]
abbrev yk (m5 m6 m7 m8:List Int) (t2:Int) (s:(List Int)×Int):St:=⟨[(1,.ptr 1000 0 0 1),(2,.ptr 1001 0 0 1),(3,.ptr 2001 0 0 1),(4,.ptr 3001 0 0 1),(5,I t2),(6,.ptr 7001 0 0 1),(7,I s.2)],qy m5 m6 m7 m8 s.1⟩
abbrev yI (m5 m6 m7 m8:List Int) (t2:Int):((List Int)×Int×Bool)→aw×St:=fun e=>(.exit 2,⟨[(1,.ptr 1000 0 0 1),(2,.ptr 1001 0 0 1),(3,.ptr 2001 0 0 1),(4,.ptr 3001 0 0 1),(5,I t2),(6,.ptr 7001 0 0 1),(7,I e.2.1),(22,B e.2.2)],qy m5 m6 m7 m8 e.1⟩)
theorem J1 {m5 m6 m7 m8 t2 s e} (h:Loop (fN m5 m6 m7 m8 t2) s=some e):aO tab ow (.close []) pV (yk m5 m6 m7 m8 t2 s)=some (yI m5 m6 m7 m8 t2 e):=by
 refine lrG (fun s o h=> ?_) h
 obtain ⟨_,_⟩:=s
 simp only [fN] at h
 simp only [yk,yI,qy,pV]
 exact go2
def fT (m11 m12 m13 m14:List Int) (t4:Int):(List Int)×Int→Option (((List Int)×Int)⊕(((List Int)×Int×Bool)))
 | (m10,t5)=>
   br (decide (t5<25)) (
   br (decide (0≤t5)&&decide (t5.toNat<25)) (
   (m10[t5.toNat]?).bind fun x6=>
   br (decide (0≤((wrap .i64 (t5+4)).tmod 5))&&decide (((wrap .i64 (t5+4)).tmod 5).toNat<5)) (
   (m14[((wrap .i64 (t5+4)).tmod 5).toNat]?).bind fun x7=>
   br (decide (0≤((wrap .i64 (t5+1)).tmod 5))&&decide (((wrap .i64 (t5+1)).tmod 5).toNat<5)) (
   (m14[((wrap .i64 (t5+1)).tmod 5).toNat]?).bind fun x8=>
   (uR x8 1).bind fun r_3=>
   br (decide (0≤t5)&&decide (t5.toNat<25)) (
   br (decide (t5.toNat<m10.length)) (
   some (.inl ((m10.set t5.toNat (io .u64 x6 (io .u64 x7 r_3))),(wrap .i64 (t5+1))))) none) none) none) none) none) (
   some (.inr (m10,t5,decide (t5<25))))
abbrev pU (m11 m12 m13 m14 m10:List Int):List (Nat×Blk):=[(1000,⟨25,true,[ar .u64 m10]⟩),(1001,⟨25,true,[ar .u64 m11]⟩),(2001,⟨24,true,[ar .u64 m12]⟩),(3001,⟨25,true,[ar .u64 m13]⟩),(7001,⟨5,true,[ar .u64 m14]⟩)]
abbrev yJ (m11 m12 m13 m14:List Int) (t4:Int) (s:(List Int)×Int):St:=⟨[(1,.ptr 1000 0 0 1),(2,.ptr 1001 0 0 1),(3,.ptr 2001 0 0 1),(4,.ptr 3001 0 0 1),(5,I t4),(6,.ptr 7001 0 0 1),(8,I s.2)],pU m11 m12 m13 m14 s.1⟩
abbrev yR (m11 m12 m13 m14:List Int) (t4:Int):((List Int)×Int×Bool)→aw×St:=fun e=>(.exit 4,⟨[(1,.ptr 1000 0 0 1),(2,.ptr 1001 0 0 1),(3,.ptr 2001 0 0 1),(4,.ptr 3001 0 0 1),(5,I t4),(6,.ptr 7001 0 0 1),(8,I e.2.1),(51,B e.2.2)],pU m11 m12 m13 m14 e.1⟩)
theorem Kb {m11 m12 m13 m14 t4 s e} (h:Loop (fT m11 m12 m13 m14 t4) s=some e):aO tab ow (.close [15013]) oK (yJ m11 m12 m13 m14 t4 s)=some (yR m11 m12 m13 m14 t4 e):=by
 refine lrG (fun s o h=> ?_) h
 obtain ⟨_,_⟩:=s
 simp only [fT] at h
 simp only [yJ,yR,pU,oK]
 have d1:= @Lc
 exact go2
def fX (m21 m22 m23 m24 m25:List Int) (t8 t9:Int):(List Int)×Int→Option (((List Int)×Int)⊕(((List Int)×Int×Bool)))
 | (m26,t10)=>
   br (decide (t10<5)) (
   br (decide (0≤(wrap .i64 (t9+(wrap .i64 (5*t10)))))&&decide ((wrap .i64 (t9+(wrap .i64 (5*t10)))).toNat<25)) (
   (m21[(wrap .i64 (t9+(wrap .i64 (5*t10)))).toNat]?).bind fun x9=>
   br (decide (0≤(wrap .i64 (t9+(wrap .i64 (5*t10)))))&&decide ((wrap .i64 (t9+(wrap .i64 (5*t10)))).toNat<25)) (
   (m24[(wrap .i64 (t9+(wrap .i64 (5*t10)))).toNat]?).bind fun x10=>
   (uR x9 x10).bind fun r_4=>
   br (decide (0≤(wrap .i64 (t10+(wrap .i64 (5*((wrap .i64 ((wrap .i64 (2*t9))+(wrap .i64 (3*t10)))).tmod 5))))))&&decide ((wrap .i64 (t10+(wrap .i64 (5*((wrap .i64 ((wrap .i64 (2*t9))+(wrap .i64 (3*t10)))).tmod 5))))).toNat<25)) (
   br (decide ((wrap .i64 (t10+(wrap .i64 (5*((wrap .i64 ((wrap .i64 (2*t9))+(wrap .i64 (3*t10)))).tmod 5))))).toNat<m26.length)) (
   some (.inl ((m26.set ((wrap .i64 (t10+(wrap .i64 (5*((wrap .i64 ((wrap .i64 (2*t9))+(wrap .i64 (3*t10)))).tmod 5))))).toNat) r_4),(wrap .i64 (t10+1))))) none) none) none) none) (
   some (.inr (m26,t10,decide (t10<5))))
abbrev qN (m21 m22 m23 m24 m25 m26:List Int):List (Nat×Blk):=[(1000,⟨25,true,[ar .u64 m21]⟩),(1001,⟨25,true,[ar .u64 m22]⟩),(2001,⟨24,true,[ar .u64 m23]⟩),(3001,⟨25,true,[ar .u64 m24]⟩),(7001,⟨5,true,[ar .u64 m25]⟩),(16001,⟨25,true,[ar .u64 m26]⟩)]
abbrev ym (m21 m22 m23 m24 m25:List Int) (t8 t9:Int) (s:(List Int)×Int):St:=⟨[(1,.ptr 1000 0 0 1),(2,.ptr 1001 0 0 1),(3,.ptr 2001 0 0 1),(4,.ptr 3001 0 0 1),(5,I t8),(9,.ptr 16001 0 0 1),(10,I t9),(11,I s.2)],qN m21 m22 m23 m24 m25 s.1⟩
abbrev yd (m21 m22 m23 m24 m25:List Int) (t8 t9:Int):((List Int)×Int×Bool)→aw×St:=fun e=>(.exit 8,⟨[(1,.ptr 1000 0 0 1),(2,.ptr 1001 0 0 1),(3,.ptr 2001 0 0 1),(4,.ptr 3001 0 0 1),(5,I t8),(9,.ptr 16001 0 0 1),(10,I t9),(11,I e.2.1),(77,B e.2.2)],qN m21 m22 m23 m24 m25 e.1⟩)
theorem JK {m21 m22 m23 m24 m25 t8 t9 s e} (h:Loop (fX m21 m22 m23 m24 m25 t8 t9) s=some e):aO tab ow (.close [23021]) oE (ym m21 m22 m23 m24 m25 t8 t9 s)=some (yd m21 m22 m23 m24 m25 t8 t9 e):=by
 refine lrG (fun s o h=> ?_) h
 obtain ⟨_,_⟩:=s
 simp only [fX] at h
 simp only [ym,yd,qN,oE]
 have d1:= @Lc
 exact go2
def fV (m15 m16 m17 m18 m19:List Int) (t6:Int):(List Int)×Int→Option (((List Int)×Int)⊕(((List Int)×Int×Bool)))
 | (m20,t7)=>
   br (decide (t7<5)) (
   (Loop (fX m15 m16 m17 m18 m19 t6 t7) (m20,0)).bind fun e_3=>
   some (.inl (e_3.1,(wrap .i64 (t7+1))))) (
   some (.inr (m20,t7,decide (t7<5))))
abbrev qA (m15 m16 m17 m18 m19 m20:List Int):List (Nat×Blk):=[(1000,⟨25,true,[ar .u64 m15]⟩),(1001,⟨25,true,[ar .u64 m16]⟩),(2001,⟨24,true,[ar .u64 m17]⟩),(3001,⟨25,true,[ar .u64 m18]⟩),(7001,⟨5,true,[ar .u64 m19]⟩),(16001,⟨25,true,[ar .u64 m20]⟩)]
abbrev yK (m15 m16 m17 m18 m19:List Int) (t6:Int) (s:(List Int)×Int):St:=⟨[(1,.ptr 1000 0 0 1),(2,.ptr 1001 0 0 1),(3,.ptr 2001 0 0 1),(4,.ptr 3001 0 0 1),(5,I t6),(9,.ptr 16001 0 0 1),(10,I s.2)],qA m15 m16 m17 m18 m19 s.1⟩
abbrev yp (m15 m16 m17 m18 m19:List Int) (t6:Int):((List Int)×Int×Bool)→aw×St:=fun e=>(.exit 6,⟨[(1,.ptr 1000 0 0 1),(2,.ptr 1001 0 0 1),(3,.ptr 2001 0 0 1),(4,.ptr 3001 0 0 1),(5,I t6),(9,.ptr 16001 0 0 1),(10,I e.2.1),(73,B e.2.2)],qA m15 m16 m17 m18 m19 e.1⟩)
theorem IZ {m15 m16 m17 m18 m19 t6 s e} (h:Loop (fV m15 m16 m17 m18 m19 t6) s=some e):aO tab ow (.close [23021]) p5 (yK m15 m16 m17 m18 m19 t6 s)=some (yp m15 m16 m17 m18 m19 t6 e):=by
 refine lrG (fun s o h=> ?_) h
 obtain ⟨_,_⟩:=s
 simp only [fV] at h
 simp only [yK,yp,qA,p5]
 have d1:= @JK
 exact go2
def fR (m34 m35 m36 m37 m38:List Int) (t13 t14:Int):(List Int)×Int→Option (((List Int)×Int)⊕(((List Int)×Int×Bool)))
 | (m33,t15)=>
   br (decide (t15<5)) (
   br (decide (0≤(wrap .i64 (t14+(wrap .i64 (5*t15)))))&&decide ((wrap .i64 (t14+(wrap .i64 (5*t15)))).toNat<25)) (
   (m38[(wrap .i64 (t14+(wrap .i64 (5*t15)))).toNat]?).bind fun x11=>
   br (decide (0≤(wrap .i64 (((wrap .i64 (t14+1)).tmod 5)+(wrap .i64 (5*t15)))))&&decide ((wrap .i64 (((wrap .i64 (t14+1)).tmod 5)+(wrap .i64 (5*t15)))).toNat<25)) (
   (m38[(wrap .i64 (((wrap .i64 (t14+1)).tmod 5)+(wrap .i64 (5*t15)))).toNat]?).bind fun x12=>
   br (decide (0≤(wrap .i64 (((wrap .i64 (t14+2)).tmod 5)+(wrap .i64 (5*t15)))))&&decide ((wrap .i64 (((wrap .i64 (t14+2)).tmod 5)+(wrap .i64 (5*t15)))).toNat<25)) (
   (m38[(wrap .i64 (((wrap .i64 (t14+2)).tmod 5)+(wrap .i64 (5*t15)))).toNat]?).bind fun x13=>
   br (decide (0≤(wrap .i64 (t14+(wrap .i64 (5*t15)))))&&decide ((wrap .i64 (t14+(wrap .i64 (5*t15)))).toNat<25)) (
   br (decide ((wrap .i64 (t14+(wrap .i64 (5*t15)))).toNat<m33.length)) (
   some (.inl ((m33.set ((wrap .i64 (t14+(wrap .i64 (5*t15)))).toNat) (io .u64 x11 (bo .u64 (bW .u64 x12) x13))),(wrap .i64 (t15+1))))) none) none) none) none) none) (
   some (.inr (m33,t15,decide (t15<5))))
abbrev qj (m34 m35 m36 m37 m38 m33:List Int):List (Nat×Blk):=[(1000,⟨25,true,[ar .u64 m33]⟩),(1001,⟨25,true,[ar .u64 m34]⟩),(2001,⟨24,true,[ar .u64 m35]⟩),(3001,⟨25,true,[ar .u64 m36]⟩),(7001,⟨5,true,[ar .u64 m37]⟩),(16001,⟨25,true,[ar .u64 m38]⟩)]
abbrev yM (m34 m35 m36 m37 m38:List Int) (t13 t14:Int) (s:(List Int)×Int):St:=⟨[(1,.ptr 1000 0 0 1),(2,.ptr 1001 0 0 1),(3,.ptr 2001 0 0 1),(4,.ptr 3001 0 0 1),(5,I t13),(9,.ptr 16001 0 0 1),(12,I t14),(13,I s.2)],qj m34 m35 m36 m37 m38 s.1⟩
abbrev yl (m34 m35 m36 m37 m38:List Int) (t13 t14:Int):((List Int)×Int×Bool)→aw×St:=fun e=>(.exit 12,⟨[(1,.ptr 1000 0 0 1),(2,.ptr 1001 0 0 1),(3,.ptr 2001 0 0 1),(4,.ptr 3001 0 0 1),(5,I t13),(9,.ptr 16001 0 0 1),(12,I t14),(13,I e.2.1),(108,B e.2.2)],qj m34 m35 m36 m37 m38 e.1⟩)
theorem JD {m34 m35 m36 m37 m38 t13 t14 s e} (h:Loop (fR m34 m35 m36 m37 m38 t13 t14) s=some e):aO tab ow (.close []) pp (yM m34 m35 m36 m37 m38 t13 t14 s)=some (yl m34 m35 m36 m37 m38 t13 t14 e):=by
 refine lrG (fun s o h=> ?_) h
 obtain ⟨_,_⟩:=s
 simp only [fR] at h
 simp only [yM,yl,qj,pp]
 exact go2
def fO (m28 m29 m30 m31 m32:List Int) (t11:Int):(List Int)×Int→Option (((List Int)×Int)⊕(((List Int)×Int×Bool)))
 | (m27,t12)=>
   br (decide (t12<5)) (
   (Loop (fR m28 m29 m30 m31 m32 t11 t12) (m27,0)).bind fun e_5=>
   some (.inl (e_5.1,(wrap .i64 (t12+1))))) (
   some (.inr (m27,t12,decide (t12<5))))
abbrev pP (m28 m29 m30 m31 m32 m27:List Int):List (Nat×Blk):=[(1000,⟨25,true,[ar .u64 m27]⟩),(1001,⟨25,true,[ar .u64 m28]⟩),(2001,⟨24,true,[ar .u64 m29]⟩),(3001,⟨25,true,[ar .u64 m30]⟩),(7001,⟨5,true,[ar .u64 m31]⟩),(16001,⟨25,true,[ar .u64 m32]⟩)]
abbrev yh (m28 m29 m30 m31 m32:List Int) (t11:Int) (s:(List Int)×Int):St:=⟨[(1,.ptr 1000 0 0 1),(2,.ptr 1001 0 0 1),(3,.ptr 2001 0 0 1),(4,.ptr 3001 0 0 1),(5,I t11),(9,.ptr 16001 0 0 1),(12,I s.2)],pP m28 m29 m30 m31 m32 s.1⟩
abbrev z8 (m28 m29 m30 m31 m32:List Int) (t11:Int):((List Int)×Int×Bool)→aw×St:=fun e=>(.exit 10,⟨[(1,.ptr 1000 0 0 1),(2,.ptr 1001 0 0 1),(3,.ptr 2001 0 0 1),(4,.ptr 3001 0 0 1),(5,I t11),(9,.ptr 16001 0 0 1),(12,I e.2.1),(104,B e.2.2)],pP m28 m29 m30 m31 m32 e.1⟩)
theorem K0 {m28 m29 m30 m31 m32 t11 s e} (h:Loop (fO m28 m29 m30 m31 m32 t11) s=some e):aO tab ow (.close []) oX (yh m28 m29 m30 m31 m32 t11 s)=some (z8 m28 m29 m30 m31 m32 t11 e):=by
 refine lrG (fun s o h=> ?_) h
 obtain ⟨_,_⟩:=s
 simp only [fO] at h
 simp only [yh,z8,pP,oX]
 have d1:= @JD
 exact go2
def fQ (m2 m3 m4:List Int):(List Int)×Int→Option (((List Int)×Int)⊕(((List Int)×Int×Bool)))
 | (m,t)=>
   br (decide (t<24)) (
   (Loop (fN m m2 m3 m4 t) ((nZ 5),0)).bind fun e_=>
   (Loop (fT m2 m3 m4 e_.1 t) (m,0)).bind fun e_2=>
   (Loop (fV e_2.1 m2 m3 m4 e_.1 t) ((nZ 25),0)).bind fun e_4=>
   (Loop (fO m2 m3 m4 e_.1 e_4.1 t) (e_2.1,0)).bind fun e_6=>
   (e_6.1[0]?).bind fun x14=>
   br (decide (0≤t)&&decide (t.toNat<24)) (
   (m3[t.toNat]?).bind fun x15=>
   br (decide (0<e_6.1.length)) (
   some (.inl ((e_6.1.set 0 (io .u64 x14 x15)),(wrap .i64 (t+1))))) none) none) (
   some (.inr (m,t,decide (t<24))))
abbrev pM (m2 m3 m4 m:List Int):List (Nat×Blk):=[(1000,⟨25,true,[ar .u64 m]⟩),(1001,⟨25,true,[ar .u64 m2]⟩),(2001,⟨24,true,[ar .u64 m3]⟩),(3001,⟨25,true,[ar .u64 m4]⟩)]
abbrev yH (m2 m3 m4:List Int) (s:(List Int)×Int):St:=⟨[(1,.ptr 1000 0 0 1),(2,.ptr 1001 0 0 1),(3,.ptr 2001 0 0 1),(4,.ptr 3001 0 0 1),(5,I s.2)],pM m2 m3 m4 s.1⟩
abbrev yB (m2 m3 m4:List Int):((List Int)×Int×Bool)→aw×St:=fun e=>(.exit 0,⟨[(1,.ptr 1000 0 0 1),(2,.ptr 1001 0 0 1),(3,.ptr 2001 0 0 1),(4,.ptr 3001 0 0 1),(5,I e.2.1),(17,B e.2.2)],pM m2 m3 m4 e.1⟩)
theorem K1 {m2 m3 m4 s e} (h:Loop (fQ m2 m3 m4) s=some e):aO tab ow (.close [7001,15013,16001,23021]) qK (yH m2 m3 m4 s)=some (yB m2 m3 m4 e):=by
 refine lrG (fun s o h=> ?_) h
 obtain ⟨_,_⟩:=s
 simp only [fQ] at h
 simp only [yH,yB,pM,qK]
 have d1:= @J1
 have d2:= @Kb
 have d3:= @IZ
 have d4:= @K0
 exact go2
def pa (ListtoArray:(List Int)):Option ((List Int)):=
 br (decide (ListtoArray.length=25)) (
 (C8).bind fun r_=>
 br (decide (r_.length=24)) (
 (BJ).bind fun r_2=>
 br (decide (r_2.length=25)) (
 (Loop (fQ (nZ 25) r_ r_2) (ListtoArray,0)).bind fun e_7=>
 br (decide (e_7.1.length=25)) (
 br (decide (e_7.1.length=25)) (
 br (decide (e_7.1.length=25)) (
 some e_7.1) none) none) none) none) none) none
theorem NE {ListtoArray r} (h:pa ListtoArray=some r):Call tab ow 322 [.agg (ar .u64 ListtoArray)] []=some (.agg (ar .u64 r),[]):=by
 rw [ag (af:=p8) rfl]
 unfold pa at h
 simp only [p8,CN]
 have d1:= @Qg
 have d2:= @Pp
 have d3:= @K1
 exact go2
section
theorem Sy:mkR 2000 []=rws eU8 []:=rfl
attribute [local go_sem] Sy
theorem U5:mkR 6011 []=rws eU8 []:=rfl
attribute [local go_sem] U5
def jP (m:List Int) (n2:Int):(List UInt8)×Int→Option (((List UInt8)×Int)⊕(((List UInt8)×Int×Bool)))
 | (l,i)=>
   br (decide (i<n2)) (
   br (decide (0≤(wrap .i64 (i.tdiv 8)))&&decide ((wrap .i64 (i.tdiv 8)).toNat<25)) (
   (m[(wrap .i64 (i.tdiv 8)).toNat]?).bind fun x=>
   br (decide (0≤(wrap .u64 (wrap .i64 (8*(i.tmod 8)))))) (
   br (aB ((l++([(UInt8.ofInt (bA .u64 x (wrap .u64 (wrap .i64 (8*(i.tmod 8))))))]:List UInt8)).length) 1) (
   some (.inl ((l++([(UInt8.ofInt (bA .u64 x (wrap .u64 (wrap .i64 (8*(i.tmod 8))))))]:List UInt8)),(wrap .i64 (i+1))))) none) none) none) (
   some (.inr (l,i,decide (i<n2))))
abbrev xY (m:List Int) (l:List UInt8):List (Nat×Blk):=[(1000,⟨25,true,[ar .u64 m]⟩),(2000,⟨1,false,rws eU8 l⟩)]
abbrev Eu (m:List Int) (n2:Int) (s:(List UInt8)×Int):St:=⟨[(1,I n2),(2,.ptr 1000 0 0 1),(5,.sl 2000 0 s.1.length),(6,I s.2)],xY m s.1⟩
abbrev Eo (m:List Int) (n2:Int):((List UInt8)×Int×Bool)→aw×St:=fun e=>(.exit 0,⟨[(1,I n2),(2,.ptr 1000 0 0 1),(5,.sl 2000 0 e.1.length),(6,I e.2.1),(10,B e.2.2)],xY m e.1⟩)
theorem Pi {m n2 s e} (h:Loop (jP m n2) s=some e):aO tab ow (.close [6011,6012]) EH (Eu m n2 s)=some (Eo m n2 e):=by
 refine lrG (fun s o h=> ?_) h
 obtain ⟨_,_⟩:=s
 simp only [jP] at h
 simp only [Eu,Eo,xY,EH,Eh]
 exact go2
def yQ (a:(List Int)) (n:Int):Option ((List UInt8)):=
 br (decide (a.length=25)) (
 (Loop (jP a n) (([]:List UInt8),0)).bind fun e_=>
 some e_.1) none
theorem VN {a n r} (h:yQ a n=some r):Call tab ow 323 [.agg (ar .u64 a),I n] []=some (S r,[]):=by
 rw [ag (af:=wV) rfl]
 unfold yQ at h
 simp only [wV,CB]
 have d1:= @Pi
 exact go2
end
section
theorem RS:mkR 2002 []=rws eU8 []:=rfl
attribute [local go_sem] RS
theorem Sq:mkR 4001 []=rws eU8 []:=rfl
attribute [local go_sem] Sq
def i8 (l2:List UInt8):(List UInt8)→Option (((List UInt8))⊕(((List UInt8)×Bool)))
 |l=>
  br ((((l.length:Nat):Int).tmod 136) !=0) (
  br (aB ((l++([(0:UInt8)]:List UInt8)).length) 1) (
  some (.inl (l++([(0:UInt8)]:List UInt8)))) none) (
  some (.inr (l,((((l.length:Nat):Int).tmod 136) !=0))))
abbrev xR (l2 l:List UInt8):List (Nat×Blk):=[(2001,⟨1,false,rws eU8 l⟩),(2002,⟨1,false,rws eU8 l2⟩)]
abbrev EI (l2:List UInt8) (s:(List UInt8)):St:=⟨[(3,.sl 2001 0 s.length)],xR l2 s⟩
abbrev E2 (l2:List UInt8):((List UInt8)×Bool)→aw×St:=fun e=>(.exit 0,⟨[(3,.sl 2001 0 e.1.length),(15,B e.2)],xR l2 e.1⟩)
theorem Pr {l2 s e} (h:Loop (i8 l2) s=some e):aO tab ow (.close [4001,4002]) xV (EI l2 s)=some (E2 l2 e):=by
 refine lrG (fun s o h=> ?_) h
 simp only [i8] at h
 simp only [EI,E2,xR,xV]
 exact go2
def jS (l4:List UInt8) (m4:List Int) (m5:List UInt8) (at_2:Int):(List Int)×Int→Option (((List Int)×Int)⊕(((List Int)×Int×Bool)))
 | (m3,i)=>
   br (decide (i<25)) (
   br (decide (0≤i)&&decide (i.toNat<25)) (
   (m3[i.toNat]?).bind fun x3=>
   br (decide (0≤i)&&decide (i.toNat<25)) (
   (m4[i.toNat]?).bind fun x4=>
   br (decide (0≤i)&&decide (i.toNat<25)) (
   br (decide (i.toNat<m3.length)) (
   some (.inl ((m3.set i.toNat (io .u64 x3 x4)),(wrap .i64 (i+1))))) none) none) none) none) (
   some (.inr (m3,i,decide (i<25))))
abbrev yb (l4:List UInt8) (m4 m3:List Int):List (Nat×Blk):=[(2002,⟨1,false,rws eU8 l4⟩),(6001,⟨25,true,[ar .u64 m3]⟩),(10007,⟨25,true,[ar .u64 m4]⟩)]
abbrev E9 (l4:List UInt8) (m4:List Int) (m5:List UInt8) (at_2:Int) (s:(List Int)×Int):St:=⟨[(3,sl eU8 m5),(4,.ptr 6001 0 0 1),(5,I at_2),(6,.ptr 10007 0 0 1),(7,I s.2)],yb l4 m4 s.1⟩
abbrev EC (l4:List UInt8) (m4:List Int) (m5:List UInt8) (at_2:Int):((List Int)×Int×Bool)→aw×St:=fun e=>(.exit 4,⟨[(3,sl eU8 m5),(4,.ptr 6001 0 0 1),(5,I at_2),(6,.ptr 10007 0 0 1),(7,I e.2.1),(42,B e.2.2)],yb l4 m4 e.1⟩)
theorem PV {l4 m4 m5 at_2 s e} (h:Loop (jS l4 m4 m5 at_2) s=some e):aO tab ow (.close []) we (E9 l4 m4 m5 at_2 s)=some (EC l4 m4 m5 at_2 e):=by
 refine lrG (fun s o h=> ?_) h
 obtain ⟨_,_⟩:=s
 simp only [jS] at h
 simp only [E9,EC,yb,we]
 exact go2
def jN (l3 m2:List UInt8):(List Int)×Int→Option (((List Int)×Int)⊕(((List Int)×Int×Bool)))
 | (m,at_)=>
   br (decide (at_<((m2.length:Nat):Int))) (
   (nL m2 at_ (wrap .i64 (at_+136))).bind fun y=>
   (vd y).bind fun r_=>
   br (decide (r_.length=25)) (
   (Loop (jS l3 r_ m2 at_) (m,0)).bind fun e_2=>
   br (decide (e_2.1.length=25)) (
   (pa e_2.1).bind fun r_2=>
   br (decide (r_2.length=25)&&decide (e_2.1.length=25)) (
   some (.inl (r_2,(wrap .i64 (at_+136))))) none) none) none) (
   some (.inr (m,at_,decide (at_<((m2.length:Nat):Int)))))
abbrev rJ (l3:List UInt8) (m:List Int):List (Nat×Blk):=[(2002,⟨1,false,rws eU8 l3⟩),(6001,⟨25,true,[ar .u64 m]⟩)]
abbrev y5 (l3 m2:List UInt8) (s:(List Int)×Int):St:=⟨[(3,sl eU8 m2),(4,.ptr 6001 0 0 1),(5,I s.2)],rJ l3 s.1⟩
abbrev ET (l3 m2:List UInt8):((List Int)×Int×Bool)→aw×St:=fun e=>(.exit 2,⟨[(3,sl eU8 m2),(4,.ptr 6001 0 0 1),(5,I e.2.1),(31,B e.2.2)],rJ l3 e.1⟩)
theorem PE {l3 m2 s e} (h:Loop (jN l3 m2) s=some e):aO tab ow (.close [10006,10007,15001,2001]) xZ (y5 l3 m2 s)=some (ET l3 m2 e):=by
 refine lrG (fun s o h=> ?_) h
 obtain ⟨_,_⟩:=s
 simp only [jN] at h
 simp only [y5,ET,rJ,xZ]
 have d1:= @Su
 have d2:= @PV
 have d3:= @NE
 exact go2
def qM (b:(List UInt8)):Option ((List UInt8)):=
 br (aB b.length 1) (
 br (aB ((b++([(1:UInt8)]:List UInt8)).length) 1) (
 (Loop (i8 ([(1:UInt8)]:List UInt8)) (b++([(1:UInt8)]:List UInt8))).bind fun e_=>
 br (decide (0≤(wrap .i64 (((e_.1.length:Nat):Int)-1)))) (
 br (decide ((wrap .i64 (((e_.1.length:Nat):Int)-1)).toNat<e_.1.length)) (
 (e_.1[(wrap .i64 (((e_.1.length:Nat):Int)-1)).toNat]?).bind fun x=>
 br (decide (0≤(wrap .i64 (((e_.1.length:Nat):Int)-1)))) (
 br (decide ((wrap .i64 (((e_.1.length:Nat):Int)-1)).toNat<e_.1.length)) (
 (e_.1[(wrap .i64 (((e_.1.length:Nat):Int)-1)).toNat]?).bind fun x2=>
 (Loop (jN ([(1:UInt8)]:List UInt8) (e_.1.set ((wrap .i64 (((e_.1.length:Nat):Int)-1)).toNat) (UInt8.ofInt (ui .u8 (x.toNat:Int) 128)))) ((nZ 25),0)).bind fun e_3=>
 br (decide (e_3.1.length=25)) (
 (yQ e_3.1 32).bind fun r_3=>
 some r_3) none) none) none) none) none) none) none
theorem C5 {b r} (h:qM b=some r):Call tab ow 218 [S b] []=some (S r,[]):=by
 rw [ag (af:=wQ) rfl]
 unfold qM at h
 simp only [wQ,KF]
 have d1:= @Pr
 have d2:= @PE
 simp only [y5,rJ] at d2
 have d3:= @VN
 exact go2
end
def Bu (label:(List UInt8)) (list:(List Ext)):Option (Source):=
 br (aB ((([115,111,117,114,99,101]:List UInt8)).length+label.length) 1) (
 (qM ((([115,111,117,114,99,101]:List UInt8))++label)).bind fun r_=>
 some (Source.mk list 0 r_ 0)) none
theorem YH {label list r} (h:Bu label list=some r):Call tab ow 189 [S label,sl ak list] []=some (.agg [sl ak r.Script,I r.At,S r.State,I r.Count],[]):=by
 rw [ag (af:=A2) rfl]
 unfold Bu at h
 simp only [A2,Oq]
 have d1:= @C5
 exact go2
def oC (m:aD):Option (Ext×aD):=
 (aU 4 m).bind fun r_=>
 br r_.1 (
 (am r_.2).bind fun r_2=>
 some ((Ext.mk r_2.1 0),r_2.2)) (
 (am r_.2).bind fun r_3=>
 (am r_3.2).bind fun r_4=>
 some ((Ext.mk r_3.1 r_4.1),r_4.2))
theorem MW {m r} (h:oC m=some r):Call tab ow 169 [.ptr 0 0 0 1] [⟨3,true,[[sl eU8 m.code,I m.at_,I m.seed]]⟩]=some (.agg [I r.1.A,I r.1.B],[⟨3,true,[[sl eU8 r.2.code,I r.2.at_,I r.2.seed]]⟩]):=by
 rw [ag (af:=p9) rfl]
 unfold oC at h
 simp only [p9,Bx]
 have d1:= @cX
 have d2:= @fW
 exact go2
section
theorem Ji:mkR 2000 []=rws ak []:=rfl
attribute [local go_sem] Ji
theorem J7:mkR 6003 []=rws ak []:=rfl
attribute [local go_sem] J7
def eW (n2:Int):(List Ext)×Int×(List UInt8)×Int×Int→Option (((List Ext)×Int×(List UInt8)×Int×Int)⊕(((List Ext)×Int×Bool×(List UInt8)×Int×Int)))
 | (l,i,c,c2,c3)=>
   br (decide (i<n2)) (
   (oC (aD.mk c c2 c3)).bind fun r_=>
   br (aB ((l++([r_.1]:List Ext)).length) 16) (
   some (.inl ((l++([r_.1]:List Ext)),(wrap .i64 (i+1)),r_.2.code,r_.2.at_,r_.2.seed))) none) (
   some (.inr (l,i,decide (i<n2),c,c2,c3)))
abbrev pm (l:List Ext) (c:List UInt8) (c2 c3:Int):List (Nat×Blk):=[(0,⟨3,true,[[sl eU8 c,I c2,I c3]]⟩),(2000,⟨2,false,rws ak l⟩)]
abbrev ww (n2:Int) (s:(List Ext)×Int×(List UInt8)×Int×Int):St:=⟨[(0,.ptr 0 0 0 1),(1,I n2),(5,.sl 2000 0 s.1.length),(6,I s.2.1)],pm s.1 s.2.2.1 s.2.2.2.1 s.2.2.2.2⟩
abbrev wv (n2:Int):((List Ext)×Int×Bool×(List UInt8)×Int×Int)→aw×St:=fun e=>(.exit 0,⟨[(0,.ptr 0 0 0 1),(1,I n2),(5,.sl 2000 0 e.1.length),(6,I e.2.1),(10,B e.2.2.1)],pm e.1 e.2.2.2.1 e.2.2.2.2.1 e.2.2.2.2.2⟩)
theorem GM {n2 s e} (h:Loop (eW n2) s=some e):aO tab ow (.close [6002,6003,6004]) xc (ww n2 s)=some (wv n2 e):=by
 refine lrG (fun s o h=> ?_) h
 obtain ⟨_,_,_,_,_⟩:=s
 simp only [eW] at h
 simp only [ww,wv,pm,xc,xd]
 have d1:= @MW
 exact go2
def mR (n:Int) (m:aD):Option ((List Ext)×aD):=
 (Loop (eW n) (([]:List Ext),0,m.code,m.at_,m.seed)).bind fun e_=>
 some (e_.1,(aD.mk e_.2.2.2.1 e_.2.2.2.2.1 e_.2.2.2.2.2))
theorem LH {n m r} (h:mR n m=some r):Call tab ow 75 [.ptr 0 0 0 1,I n] [⟨3,true,[[sl eU8 m.code,I m.at_,I m.seed]]⟩]=some (sl ak r.1,[⟨3,true,[[sl eU8 r.2.code,I r.2.at_,I r.2.seed]]⟩]):=by
 rw [ag (af:=nm) rfl]
 unfold mR at h
 simp only [nm,tp]
 have d1:= @GM
 exact go2
end
section
theorem Nn:mkR 2000 []=rws eU8 []:=rfl
attribute [local go_sem] Nn
theorem OH:mkR 6007 []=rws eU8 []:=rfl
attribute [local go_sem] OH
def tf (n2:Int):(List UInt8)×Int→Option (((List UInt8)×Int)⊕(((List UInt8)×Int×Bool)))
 | (l,i)=>
   br (decide (i≥0)) (
   br (decide (0≤(wrap .u64 (wrap .i64 (8*i))))) (
   br (aB ((l++([(UInt8.ofInt (bA .i64 n2 (wrap .u64 (wrap .i64 (8*i)))))]:List UInt8)).length) 1) (
   some (.inl ((l++([(UInt8.ofInt (bA .i64 n2 (wrap .u64 (wrap .i64 (8*i)))))]:List UInt8)),(wrap .i64 (i-1))))) none) none) (
   some (.inr (l,i,decide (i≥0))))
abbrev Bc (n2:Int) (s:(List UInt8)×Int):St:=⟨[(0,I n2),(5,.sl 2000 0 s.1.length),(6,I s.2)],[(2000,⟨1,false,rws eU8 s.1⟩)]⟩
abbrev AA (n2:Int):((List UInt8)×Int×Bool)→aw×St:=fun e=>(.exit 0,⟨[(0,I n2),(5,.sl 2000 0 e.1.length),(6,I e.2.1),(11,B e.2.2)],[(2000,⟨1,false,rws eU8 e.1⟩)]⟩)
theorem LB {n2 s e} (h:Loop (tf n2) s=some e):aO tab ow (.close [6007,6008]) Ax (Bc n2 s)=some (AA n2 e):=by
 refine lrG (fun s o h=> ?_) h
 obtain ⟨_,_⟩:=s
 simp only [tf] at h
 simp only [Bc,AA,Ax,B1]
 exact go2
def ob (n size:Int):Option ((List UInt8)):=
 (Loop (tf n) (([]:List UInt8),(wrap .i64 (size-1)))).bind fun e_=>
 some e_.1
theorem EB {n size r} (h:ob n size=some r):Call tab ow 213 [I n,I size] []=some (sl eU8 r,[]):=by
 rw [ag (af:=rG) rfl]
 unfold ob at h
 simp only [rG,xM]
 have d1:= @LB
 exact go2
end
def og (s:Source) (t:(List UInt8)):Option (Source):=
 br (aB (s.State.length+(([97,98,115,111,114,98]:List UInt8)).length) 1) (
 (ob ((t.length:Nat):Int) 4).bind fun r_=>
 br (aB ((s.State++(([97,98,115,111,114,98]:List UInt8))).length+r_.length) 1) (
 br (aB (((s.State++(([97,98,115,111,114,98]:List UInt8)))++r_).length+t.length) 1) (
 (qM (((s.State++(([97,98,115,111,114,98]:List UInt8)))++r_)++t)).bind fun r_2=>
 some (Source.mk s.Script s.At r_2 0)) none) none) none
theorem E1 {s t r} (h:og s t=some r):Call tab ow 191 [.agg [sl ak s.Script,I s.At,S s.State,I s.Count],S t] []=some (.agg [sl ak r.Script,I r.At,S r.State,I r.Count],[]):=by
 rw [ag (af:=rm) rfl]
 unfold og at h
 simp only [rm,EA]
 have d1:= @EB
 have d2:= @C5
 exact go2
def iL (t2:List UInt8):Int×Int→Option ((Int×Int)⊕((Int×Int×Bool)))
 | (n,i)=>
   br (decide (i<8)) (
   (atL t2 i).bind fun c=>
   some (.inl (((wrap .i64 ((wrap .i64 (n*256))+(wrap .i64 (c.toNat:Int)))).tmod 2130706433),(wrap .i64 (i+1))))) (
   some (.inr (n,i,decide (i<8))))
abbrev Ca (t2:List UInt8) (s:Int×Int):St:=⟨[(0,S t2),(3,I s.1),(4,I s.2)],[]⟩
abbrev Bv (t2:List UInt8):(Int×Int×Bool)→aw×St:=fun e=>(.exit 0,⟨[(0,S t2),(3,I e.1),(4,I e.2.1),(6,B e.2.2)],[]⟩)
theorem MM {t2 s e} (h:Loop (iL t2) s=some e):aO tab ow (.close []) BC (Ca t2 s)=some (Bv t2 e):=by
 refine lrG (fun s o h=> ?_) h
 obtain ⟨_,_⟩:=s
 simp only [iL] at h
 simp only [Ca,Bv,BC,C6]
 exact go2
def qw (t:(List UInt8)):Option (Int):=
 (Loop (iL t) (0,0)).bind fun e_=>
 some e_.1
theorem RO {t r} (h:qw t=some r):Call tab ow 304 [S t] []=some (I r,[]):=by
 rw [ag (af:=uG) rfl]
 unfold qw at h
 simp only [uG,Al]
 have d1:= @MM
 exact go2
def uV (s:Source):Option (Source×Ext):=
 br (decide (((s.Script.length:Nat):Int)>0)) (
 br (decide (((s.Script.length:Nat):Int)≠0)) (
 (atL s.Script (s.At.tmod ((s.Script.length:Nat):Int))).bind fun x=>
 some ((Source.mk s.Script (wrap .i64 (s.At+1)) s.State s.Count),x)) none) (
 br (aB (s.State.length+(([100,114,97,119]:List UInt8)).length) 1) (
 (ob s.Count 4).bind fun r_=>
 br (aB ((s.State++(([100,114,97,119]:List UInt8))).length+r_.length) 1) (
 (qM ((s.State++(([100,114,97,119]:List UInt8)))++r_)).bind fun r_2=>
 (nL r_2 0 8).bind fun y=>
 (qw y).bind fun r_3=>
 (nL r_2 8 16).bind fun y2=>
 (qw y2).bind fun r_4=>
 some ((Source.mk s.Script s.At s.State (wrap .i64 (s.Count+1))),(Ext.mk r_3 r_4))) none) none)
theorem Ky {s r} (h:uV s=some r):Call tab ow 192 [.agg [sl ak s.Script,I s.At,S s.State,I s.Count]] []=some (.tup [.agg [sl ak r.1.Script,I r.1.At,S r.1.State,I r.1.Count],.agg [I r.2.A,I r.2.B]],[]):=by
 rw [ag (af:=wJ) rfl]
 unfold uV at h
 simp only [wJ,KH]
 have d1:= @EB
 have d2:= @C5
 have d3:= @RO
 exact go2
section
theorem VM:mkR 2000 []=rws ak []:=rfl
attribute [local go_sem] VM
def yG (s:Source):Option (Source):=
 br (aB ((([]:List Ext)++s.Script).length) 16) (
 some (Source.mk (([]:List Ext)++s.Script) s.At s.State s.Count)) none
theorem a0q {s r} (h:yG s=some r):Call tab ow 110 [.agg [sl ak s.Script,I s.At,S s.State,I s.Count]] []=some (.agg [sl ak r.Script,I r.At,S r.State,I r.Count],[]):=by
 rw [ag (af:=zL) rfl]
 unfold yG at h
 simp only [zL,N1]
 exact go2
end
end
end Go.AI.Fn
