/- Walks through the program, with open values. -/
import Derived.Test.YtgjlndaebhaciaaFx0
set_option linter.unusedVariables false
set_option linter.unusedSimpArgs false
set_option maxRecDepth 100000
set_option maxHeartbeats 1000000
namespace Go.AI.Fn
noncomputable section
open IntKind (wrap)
def ko (code:(List UInt8)):Option (Circuit):=
 (k9 code).bind fun r_=>
 (eu r_).bind fun r_2=>
 some r_2.1
theorem yY {code r} (h:ko code=some r):Call tab ow 16 [sl eU8 code] []=some (.agg [sl aO r.Gates],[]):=by
 rw [al (af:=jA) rfl]
 unfold ko at h
 simp only [jA,sf]
 have d1:= @rU
 have d2:= @sO
 exact go2
section
theorem sC:mkR 2000 []=rws eI []:=rfl
attribute [local go_sem] sC
theorem sH:mkR 2001 []=rws eI []:=rfl
attribute [local go_sem] sH
theorem ti:mkR 6000 []=rws eI []:=rfl
attribute [local go_sem] ti
theorem sX:mkR 13007 []=rws eI []:=rfl
attribute [local go_sem] sX
def bz (l2 l3:List Int) (c5:List aa):(List Int)×Int×(List UInt8)×Int×Int→Option (((List Int)×Int×(List UInt8)×Int×Int)⊕(((List Int)×Int×Bool×(List UInt8)×Int×Int)))
 | (l,k,c2,c3,c4)=>
   br (decide (k>0)) (
   (ab 2 (aV.mk c2 c3 c4)).bind fun r_2=>
   (aZ 5 r_2.2).bind fun r_3=>
   br r_3.1 (
   (am r_3.2).bind fun r_4=>
   br (aK ((l++([r_4.1]:List Int)).length) 8) (
   some (.inl ((l++([r_4.1]:List Int)),(wrap .i64 (k-1)),r_4.2.code,r_4.2.at_,r_4.2.seed))) none) (
   br (aK ((l++([r_2.1]:List Int)).length) 8) (
   some (.inl ((l++([r_2.1]:List Int)),(wrap .i64 (k-1)),r_3.2.code,r_3.2.at_,r_3.2.seed))) none)) (
   some (.inr (l,k,decide (k>0),c2,c3,c4)))
abbrev gR (l2 l3:List Int) (c5:List aa) (l:List Int) (c2:List UInt8) (c3 c4:Int):List (Nat×Blk):=[(0,⟨3,true,[[sl eU8 c2,I c3,I c4]]⟩),(1000,⟨1,true,[[sl aO c5]]⟩),(2000,⟨1,false,rws eI l⟩),(2001,⟨1,false,rws eI l2⟩),(2002,⟨1,true,[[.sl 2000 0 l.length],[.sl 2001 0 l2.length]]⟩),(6000,⟨1,false,rws eI l3⟩)]
abbrev kK (l2 l3:List Int) (c5:List aa) (s:(List Int)×Int×(List UInt8)×Int×Int):St:=⟨[(0,.ptr 0 0 0 1),(3,.ptr 1000 0 0 1),(6,.sl 2002 0 2),(7,I 0),(9,I s.2.1)],gR l2 l3 c5 s.1 s.2.2.1 s.2.2.2.1 s.2.2.2.2⟩
abbrev kQ (l2 l3:List Int) (c5:List aa):((List Int)×Int×Bool×(List UInt8)×Int×Int)→aJ×St:=fun e=>(.exit 2,⟨[(0,.ptr 0 0 0 1),(3,.ptr 1000 0 0 1),(6,.sl 2002 0 2),(7,I 0),(9,I e.2.1),(26,B e.2.2.1)],gR l2 l3 c5 e.1 e.2.2.2.1 e.2.2.2.2.1 e.2.2.2.2.2⟩)
theorem rA {l2 l3 c5 s e} (h:Loop (bz l2 l3 c5) s=some e):cy tab ow (.close [10001,11001,12001,13007,13008]) ei (kK l2 l3 c5 s)=some (kQ l2 l3 c5 e):=by
 refine lrG (fun s o h=> ?_) h
 obtain ⟨_,_,_,_,_⟩:=s
 simp only [bz] at h
 simp only [kK,kQ,gR,ei,gM]
 have d1:= @db
 have d2:= @iH
 have d3:= @jq
 exact go2
def dd (l4 l6:List Int) (c9:List aa):(List Int)×Int×(List UInt8)×Int×Int→Option (((List Int)×Int×(List UInt8)×Int×Int)⊕(((List Int)×Int×Bool×(List UInt8)×Int×Int)))
 | (l5,k2,c6,c7,c8)=>
   br (decide (k2>0)) (
   (ab 2 (aV.mk c6 c7 c8)).bind fun r_6=>
   (aZ 5 r_6.2).bind fun r_7=>
   br r_7.1 (
   (am r_7.2).bind fun r_8=>
   br (aK ((l5++([r_8.1]:List Int)).length) 8) (
   some (.inl ((l5++([r_8.1]:List Int)),(wrap .i64 (k2-1)),r_8.2.code,r_8.2.at_,r_8.2.seed))) none) (
   br (aK ((l5++([r_6.1]:List Int)).length) 8) (
   some (.inl ((l5++([r_6.1]:List Int)),(wrap .i64 (k2-1)),r_7.2.code,r_7.2.at_,r_7.2.seed))) none)) (
   some (.inr (l5,k2,decide (k2>0),c6,c7,c8)))
abbrev gJ (l4 l6:List Int) (c9:List aa) (l5:List Int) (c6:List UInt8) (c7 c8:Int):List (Nat×Blk):=[(0,⟨3,true,[[sl eU8 c6,I c7,I c8]]⟩),(1000,⟨1,true,[[sl aO c9]]⟩),(2000,⟨1,false,rws eI l4⟩),(2001,⟨1,false,rws eI l5⟩),(2002,⟨1,true,[[.sl 2000 0 l4.length],[.sl 2001 0 l5.length]]⟩),(6000,⟨1,false,rws eI l6⟩)]
abbrev kW (l4 l6:List Int) (c9:List aa) (s:(List Int)×Int×(List UInt8)×Int×Int):St:=⟨[(0,.ptr 0 0 0 1),(3,.ptr 1000 0 0 1),(6,.sl 2002 0 2),(7,I 1),(9,I s.2.1)],gJ l4 l6 c9 s.1 s.2.2.1 s.2.2.2.1 s.2.2.2.2⟩
abbrev kN (l4 l6:List Int) (c9:List aa):((List Int)×Int×Bool×(List UInt8)×Int×Int)→aJ×St:=fun e=>(.exit 2,⟨[(0,.ptr 0 0 0 1),(3,.ptr 1000 0 0 1),(6,.sl 2002 0 2),(7,I 1),(9,I e.2.1),(26,B e.2.2.1)],gJ l4 l6 c9 e.1 e.2.2.2.1 e.2.2.2.2.1 e.2.2.2.2.2⟩)
theorem rH {l4 l6 c9 s e} (h:Loop (dd l4 l6 c9) s=some e):cy tab ow (.close [10001,11001,12001,13007,13008]) ei (kW l4 l6 c9 s)=some (kN l4 l6 c9 e):=by
 refine lrG (fun s o h=> ?_) h
 obtain ⟨_,_,_,_,_⟩:=s
 simp only [dd] at h
 simp only [kW,kN,gJ,ei,gM]
 have d1:= @db
 have d2:= @iH
 have d3:= @jq
 exact go2
def fy (c:Circuit) (m:aV):Option ((List Int)×(List Int)×aV):=
 (ck c 2).bind fun r_=>
 (Loop (bz ([]:List Int) ([2,1]:List Int) c.Gates) (([]:List Int),r_,m.code,m.at_,m.seed)).bind fun e_=>
 (ck c 1).bind fun r_5=>
 (Loop (dd e_.1 ([2,1]:List Int) c.Gates) (([]:List Int),r_5,e_.2.2.2.1,e_.2.2.2.2.1,e_.2.2.2.2.2)).bind fun e_2=>
 some (e_.1,e_2.1,(aV.mk e_2.2.2.2.1 e_2.2.2.2.2.1 e_2.2.2.2.2.2))
theorem uq {c m r} (h:fy c m=some r):Call tab ow 51 [.ptr 0 0 0 1,.agg [sl aO c.Gates]] [⟨3,true,[[sl eU8 m.code,I m.at_,I m.seed]]⟩]=some (.tup [sl eI r.1,sl eI r.2.1],[⟨3,true,[[sl eU8 r.2.2.code,I r.2.2.at_,I r.2.2.seed]]⟩]):=by
 rw [al (af:=fK) rfl]
 unfold fy at h
 simp+decide only [fK,fJ,go_sem,reduceIte,Nat.reduceAdd,Int.reduceAdd,Int.reduceMul,Int.reduceSub]
 refine jn ?_
 simp+decide only [mkL,go_sem,reduceIte,Nat.reduceAdd,Int.reduceAdd,Int.reduceMul,Int.reduceSub]
 obtain ⟨r_,h1,h⟩:=bd h
 refine uk (ff h1) ?_
 simp+decide only [go_sem,reduceIte,Nat.reduceAdd,Int.reduceAdd,Int.reduceMul,Int.reduceSub]
 obtain ⟨e_,h1,h⟩:=bd h
 refine Gz (rA h1) ?_
 simp+decide only [go_sem,reduceIte,Nat.reduceAdd,Int.reduceAdd,Int.reduceMul,Int.reduceSub]
 refine jn ?_
 simp+decide only [mkL,go_sem,reduceIte,Nat.reduceAdd,Int.reduceAdd,Int.reduceMul,Int.reduceSub]
 obtain ⟨r_5,h1,h⟩:=bd h
 refine uk (ff h1) ?_
 simp+decide only [go_sem,reduceIte,Nat.reduceAdd,Int.reduceAdd,Int.reduceMul,Int.reduceSub]
 obtain ⟨e_2,h1,h⟩:=bd h
 refine Gz (rH h1) ?_
 simp+decide only [go_sem,reduceIte,Nat.reduceAdd,Int.reduceAdd,Int.reduceMul,Int.reduceSub]
 refine jn ?_
 simp+decide only [mkL,go_sem,reduceIte,Nat.reduceAdd,Int.reduceAdd,Int.reduceMul,Int.reduceSub]
 obtain rfl:=Option.some.inj h
 first|rfl| (simp only [List.length_set,go_sem];done)
end
def lY (code:(List UInt8)) (c:Circuit):Option (Handed):=
 (k9 code).bind fun r_=>
 (fy c r_).bind fun r_2=>
 some (Handed.mk r_2.1 r_2.2.1)
theorem Be {code c r} (h:lY code c=some r):Call tab ow 17 [sl eU8 code,.agg [sl aO c.Gates]] []=some (.agg [sl eI r.Publics,sl eI r.Inputs],[]):=by
 rw [al (af:=lj) rfl]
 unfold lY at h
 simp only [lj,um]
 have d1:= @rU
 have d2:= @uq
 exact go2
def dc (x:Int):Option (Bool):=
 (lF x).bind fun r_=>
 some (!r_)
theorem pF {x r} (h:dc x=some r):Call tab ow 110 [I x,.ptr 0 0 0 1] [⟨1,true,[[.fn 66 []]]⟩]=some (B r,[⟨1,true,[[.fn 66 []]]⟩]):=by
 rw [al (af:=jF) rfl]
 unfold dc at h
 simp only [jF,so]
 have d1:= @va
 exact go2
def aX (s2:List Int) (t:Int):Int→Option ((Int)⊕(Int⊕(Int×Bool)))
 |t2=>
  br (decide (t2<t)) (
  (atL s2 t2).bind fun x=>
  (dc x).bind fun r_=>
  br r_ (
  some (.inr (.inl t2))) (
  some (.inl (wrap .i64 (t2+1))))) (
  some (.inr (.inr (t2,decide (t2<t)))))
abbrev bX (s2:List Int) (t s:Int):St:=⟨[(0,sl eI s2),(1,.fn 110 [.ptr 0 0 0 1]),(7,I t),(8,I s)],[(0,⟨1,true,[[.fn 66 []]]⟩)]⟩
abbrev bW (s2:List Int) (t:Int):(Int⊕(Int×Bool))→aJ×St:=alt (fun e=>((.ret,⟨[(4,I e)],[(0,⟨1,true,[[.fn 66 []]]⟩)]⟩):aJ×St)) (fun e=>(.exit 0,⟨[(0,sl eI s2),(1,.fn 110 [.ptr 0 0 0 1]),(7,I t),(8,I e.1),(9,B e.2)],[(0,⟨1,true,[[.fn 66 []]]⟩)]⟩))
theorem dO {s2 t s e} (h:Loop (aX s2 t) s=some e):cy tab ow (.close [5005]) eW (bX s2 t s)=some (bW s2 t e):=by
 refine lrG (fun s o h=> ?_) h
 simp only [aX] at h
 simp only [bX,bW,eW,eZ]
 have d1:= @pF
 exact go2
def b7 (s:(List Int)):Option (Int):=
 (Loop (aX s ((s.length:Nat):Int)) 0).bind (alt (fun e_2=>
 some e_2) (fun e_3=>
 some (-1:Int)))
theorem ed {s r} (h:b7 s=some r):Call tab ow 139 [sl eI s,.fn 110 [.ptr 0 0 0 1]] [⟨1,true,[[.fn 66 []]]⟩]=some (I r,[⟨1,true,[[.fn 66 []]]⟩]):=by
 rw [al (af:=ct) rfl]
 unfold b7 at h
 simp only [ct,dh]
 have d1:= @dO
 exact go2
def aY (s:(List Int)):Option (Bool):=
 (b7 s).bind fun r_=>
 some (decide (r_≥0))
theorem dH {s r} (h:aY s=some r):Call tab ow 109 [sl eI s,.fn 110 [.ptr 0 0 0 1]] [⟨1,true,[[.fn 66 []]]⟩]=some (B r,[⟨1,true,[[.fn 66 []]]⟩]):=by
 rw [al (af:=bP) rfl]
 unfold aY at h
 simp only [bP,ew]
 have d1:= @ed
 exact go2
def bD (list:(List Int)):Option (Bool):=
 (aY list).bind fun r_=>
 some (!r_)
theorem gH {list r} (h:bD list=some r):Call tab ow 65 [.fn 66 [],sl eI list] []=some (B r,[]):=by
 rw [al (af:=n8) rfl]
 unfold bD at h
 simp only [n8,v8]
 have d1:= @dH
 exact go2
def nT (c:Circuit) (publics inputs:(List Int)):Option (Int):=
 br (decide (((publics.length:Nat):Int)>4096)) (
 some 2) (
 br (decide (((inputs.length:Nat):Int)>4096)) (
 some 2) (
 (eV c).bind fun r_=>
 br (!r_) (
 some 19) (
 (bD publics).bind fun r_2=>
 br (!r_2) (
 some 1) (
 (bD inputs).bind fun r_3=>
 br (!r_3) (
 some 1) (
 (bG c 2).bind fun r_4=>
 br (((publics.length:Nat):Int) !=r_4) (
 some 8) (
 (bG c 1).bind fun r_5=>
 br (((inputs.length:Nat):Int) !=r_5) (
 some 8) (
 some 0)))))))
theorem Ck {c publics inputs r} (h:nT c publics inputs=some r):Call tab ow 52 [.agg [sl aO c.Gates],sl eI publics,sl eI inputs] []=some (I r,[]):=by
 rw [al (af:=mG) rfl]
 unfold nT at h
 simp only [mG,vb]
 have d1:= @jy
 have d2:= @gH
 have d3:= @ee
 exact go2
def DE (a b:Int):Option (Int):=
 some ((wrap .i64 ((wrap .i64 (a-b))+2130706433)).tmod 2130706433)
theorem RU {a b r} (h:DE a b=some r):Call tab ow 102 [I a,I b] []=some (I r,[]):=by
 rw [al (af:=wv) rfl]
 unfold DE at h
 simp only [wv,Ht]
 exact go2
def xS (a b:Int):Option (Int):=
 some ((wrap .i64 (a*b)).tmod 2130706433)
theorem AN {a b r} (h:xS a b=some r):Call tab ow 103 [I a,I b] []=some (I r,[]):=by
 rw [al (af:=wl) rfl]
 unfold xS at h
 simp only [wl,Ho]
 exact go2
section
theorem uO:mkR 2000 []=rws eI []:=rfl
attribute [local go_sem] uO
theorem uW:mkR 23002 []=rws eI []:=rfl
attribute [local go_sem] uW
def cC (t3:List aa) (t4:Int) (c:List aa):(List Int)×(List Int)×(List Int)×Int→Option (((List Int)×(List Int)×(List Int)×Int)⊕(((List Int)×Int×Int×Int×Int)⊕((List Int)×(List Int)×(List Int)×Int×Bool)))
 | (l,t,t2,t5)=>
   br (decide (t5<t4)) (
   (atL t3 t5).bind fun x=>
   br (x.Op==1) (
   (atL t2 0).bind fun x2=>
   (ik t2 1 ((t2.length:Nat):Int)).bind fun y=>
   br (aK ((l++([x2]:List Int)).length) 8) (
   some (.inl ((l++([x2]:List Int)),t,y,(wrap .i64 (t5+1))))) none) (
   br (x.Op==2) (
   (atL t 0).bind fun x3=>
   (ik t 1 ((t.length:Nat):Int)).bind fun y2=>
   br (aK ((l++([x3]:List Int)).length) 8) (
   some (.inl ((l++([x3]:List Int)),y2,t2,(wrap .i64 (t5+1))))) none) (
   br (x.Op==4) (
   br (decide (0≤x.A)) (
   br (decide (x.A.toNat<l.length)) (
   (l[x.A.toNat]?).bind fun x4=>
   br (decide (0≤x.B)) (
   br (decide (x.B.toNat<l.length)) (
   (l[x.B.toNat]?).bind fun x5=>
   (yC x4 x5).bind fun r_=>
   br (aK ((l++([r_]:List Int)).length) 8) (
   some (.inl ((l++([r_]:List Int)),t,t2,(wrap .i64 (t5+1))))) none) none) none) none) none) (
   br (x.Op==5) (
   br (decide (0≤x.A)) (
   br (decide (x.A.toNat<l.length)) (
   (l[x.A.toNat]?).bind fun x6=>
   br (decide (0≤x.B)) (
   br (decide (x.B.toNat<l.length)) (
   (l[x.B.toNat]?).bind fun x7=>
   (DE x6 x7).bind fun r_2=>
   br (aK ((l++([r_2]:List Int)).length) 8) (
   some (.inl ((l++([r_2]:List Int)),t,t2,(wrap .i64 (t5+1))))) none) none) none) none) none) (
   br (x.Op==6) (
   br (decide (0≤x.A)) (
   br (decide (x.A.toNat<l.length)) (
   (l[x.A.toNat]?).bind fun x8=>
   br (decide (0≤x.B)) (
   br (decide (x.B.toNat<l.length)) (
   (l[x.B.toNat]?).bind fun x9=>
   (xS x8 x9).bind fun r_3=>
   br (aK ((l++([r_3]:List Int)).length) 8) (
   some (.inl ((l++([r_3]:List Int)),t,t2,(wrap .i64 (t5+1))))) none) none) none) none) none) (
   br (x.Op==7) (
   br (x.Op==7) (
   br (decide (0≤x.A)) (
   br (decide (x.A.toNat<l.length)) (
   (l[x.A.toNat]?).bind fun x10=>
   br (x.Op==7) (
   br (decide (0≤x.B)) (
   br (decide (x.B.toNat<l.length)) (
   (l[x.B.toNat]?).bind fun x11=>
   br (x10 !=x11) (
   some (.inr (.inl (l,x.Op,x.A,x.B,x.K)))) (
   br (x.Op==8) (
   br (decide (x10>1)) (
   some (.inr (.inl (l,x.Op,x.A,x.B,x.K)))) (
   br (aK ((l++([x10]:List Int)).length) 8) (
   some (.inl ((l++([x10]:List Int)),t,t2,(wrap .i64 (t5+1))))) none)) (
   br (aK ((l++([x10]:List Int)).length) 8) (
   some (.inl ((l++([x10]:List Int)),t,t2,(wrap .i64 (t5+1))))) none))) none) none) (
   br (x.Op==8) (
   br (decide (x10>1)) (
   some (.inr (.inl (l,x.Op,x.A,x.B,x.K)))) (
   br (aK ((l++([x10]:List Int)).length) 8) (
   some (.inl ((l++([x10]:List Int)),t,t2,(wrap .i64 (t5+1))))) none)) (
   br (aK ((l++([x10]:List Int)).length) 8) (
   some (.inl ((l++([x10]:List Int)),t,t2,(wrap .i64 (t5+1))))) none))) none) none) (
   br (aK ((l++([x.K]:List Int)).length) 8) (
   some (.inl ((l++([x.K]:List Int)),t,t2,(wrap .i64 (t5+1))))) none)) (
   br (x.Op==8) (
   br (decide (0≤x.A)) (
   br (decide (x.A.toNat<l.length)) (
   (l[x.A.toNat]?).bind fun x12=>
   br (x.Op==7) (
   br (decide (0≤x.B)) (
   br (decide (x.B.toNat<l.length)) (
   (l[x.B.toNat]?).bind fun x13=>
   br (x12 !=x13) (
   some (.inr (.inl (l,x.Op,x.A,x.B,x.K)))) (
   br (x.Op==8) (
   br (decide (x12>1)) (
   some (.inr (.inl (l,x.Op,x.A,x.B,x.K)))) (
   br (aK ((l++([x12]:List Int)).length) 8) (
   some (.inl ((l++([x12]:List Int)),t,t2,(wrap .i64 (t5+1))))) none)) (
   br (aK ((l++([x12]:List Int)).length) 8) (
   some (.inl ((l++([x12]:List Int)),t,t2,(wrap .i64 (t5+1))))) none))) none) none) (
   br (x.Op==8) (
   br (decide (x12>1)) (
   some (.inr (.inl (l,x.Op,x.A,x.B,x.K)))) (
   br (aK ((l++([x12]:List Int)).length) 8) (
   some (.inl ((l++([x12]:List Int)),t,t2,(wrap .i64 (t5+1))))) none)) (
   br (aK ((l++([x12]:List Int)).length) 8) (
   some (.inl ((l++([x12]:List Int)),t,t2,(wrap .i64 (t5+1))))) none))) none) none) (
   br (aK ((l++([x.K]:List Int)).length) 8) (
   some (.inl ((l++([x.K]:List Int)),t,t2,(wrap .i64 (t5+1))))) none)))))))) (
   some (.inr (.inr (l,t,t2,t5,decide (t5<t4)))))
abbrev iR (c:List aa) (l:List Int):List (Nat×Blk):=[(1000,⟨1,true,[[sl aO c]]⟩),(2000,⟨1,false,rws eI l⟩)]
abbrev mR (t3:List aa) (t4:Int) (c:List aa) (s:(List Int)×(List Int)×(List Int)×Int):St:=⟨[(1,sl eI s.2.1),(2,sl eI s.2.2.1),(8,.sl 2000 0 s.1.length),(14,sl aO t3),(15,I t4),(16,I s.2.2.2)],iR c s.1⟩
abbrev mS (t3:List aa) (t4:Int) (c:List aa):(((List Int)×Int×Int×Int×Int)⊕((List Int)×(List Int)×(List Int)×Int×Bool))→aJ×St:=alt (fun e=>((.ret,⟨[(6,.lit (.slice none 0 0)),(7,B false)],[(1000,⟨1,true,[[sl aO c]]⟩),(2000,⟨1,false,rws eI e.1⟩),(5002,⟨4,true,[[I e.2.1,I e.2.2.1,I e.2.2.2.1,I e.2.2.2.2]]⟩)]⟩):aJ×St)) (fun e=>(.exit 0,⟨[(1,sl eI e.2.1),(2,sl eI e.2.2.1),(8,.sl 2000 0 e.1.length),(14,sl aO t3),(15,I t4),(16,I e.2.2.2.1),(17,B e.2.2.2.2)],iR c e.1⟩))
theorem uc {t3 t4 c s e} (h:Loop (cC t3 t4 c) s=some e):cy tab ow (.close [5002,13010,15010,17010,23002,23003]) mE (mR t3 t4 c s)=some (mS t3 t4 c e):=by
 refine lrG (fun s o h=> ?_) h
 obtain ⟨_,_,_,_⟩:=s
 simp only [cC] at h
 simp only [mR,mS,iR,mE,mY]
 have d1:= @Bv
 have d2:= @RU
 have d3:= @AN
 exact go2
def gY (ListtoArray:Circuit) (a a2:(List Int)):Option ((List Int)×Bool):=
 (Loop (cC ListtoArray.Gates ((ListtoArray.Gates.length:Nat):Int) ListtoArray.Gates) (([]:List Int),a,a2,0)).bind (alt (fun e_2=>
 some (([]:List Int),false)) (fun e_3=>
 some (e_3.1,true)))
theorem w5 {ListtoArray a a2 r} (h:gY ListtoArray a a2=some r):Call tab ow 53 [.agg [sl aO ListtoArray.Gates],sl eI a,sl eI a2] []=some (.tup [sl eI r.1,B r.2],[]):=by
 rw [al (af:=i7) rfl]
 unfold gY at h
 simp only [i7,kA]
 have d1:= @uc
 exact go2
end
def gz (c:Circuit) (publics inputs:(List Int)):Option ((List Int)×Int):=
 (nT c publics inputs).bind fun r_=>
 br (r_ !=0) (
 some (([]:List Int),r_)) (
 (gY c publics inputs).bind fun r_2=>
 br (!r_2.2) (
 some (([]:List Int),15)) (
 some (r_2.1,0)))
theorem q9 {c publics inputs r} (h:gz c publics inputs=some r):Call tab ow 18 [.agg [sl aO c.Gates],sl eI publics,sl eI inputs] []=some (.tup [sl eI r.1,I r.2],[]):=by
 rw [al (af:=iI) rfl]
 unfold gz at h
 simp only [iI,pS]
 have d1:= @Ck
 have d2:= @w5
 exact go2
def kD (list2:List Int):Int→Option ((Int)⊕(Unit⊕(Int×Bool)))
 |i=>
  br (decide (i<((list2.length:Nat):Int))) (
  (atL list2 i).bind fun x=>
  (bw x).bind fun r_=>
  br (!r_) (
  some (.inr (.inl ()))) (
  some (.inl (wrap .i64 (i+1))))) (
  some (.inr (.inr (i,decide (i<((list2.length:Nat):Int))))))
abbrev p8 (list2:List Int) (s:Int):St:=⟨[(0,sl eI list2),(3,I s)],[]⟩
abbrev oU (list2:List Int):(Unit⊕(Int×Bool))→aJ×St:=alt (fun e=>((.ret,⟨[(2,B false)],[]⟩):aJ×St)) (fun e=>(.exit 0,⟨[(0,sl eI list2),(3,I e.1),(7,B e.2)],[]⟩))
theorem vU {list2 s e} (h:Loop (kD list2) s=some e):cy tab ow (.close [5004]) pw (p8 list2 s)=some (oU list2 e):=by
 refine lrG (fun s o h=> ?_) h
 simp only [kD] at h
 simp only [p8,oU,pw,ph]
 have d1:= @vg
 exact go2
def iu (list:(List Int)):Option (Bool):=
 (Loop (kD list) 0).bind (alt (fun e_2=>
 some false) (fun e_3=>
 some true))
theorem zo {list r} (h:iu list=some r):Call tab ow 104 [sl eI list] []=some (B r,[]):=by
 rw [al (af:=js) rfl]
 unfold iu at h
 simp only [js,nj]
 have d1:= @vU
 exact go2
def re (c:Circuit) (publics inputs:(List Int)):Option (Int):=
 br (decide (((publics.length:Nat):Int)>4096)) (
 some 2) (
 br (decide (((inputs.length:Nat):Int)>4096)) (
 some 2) (
 (iB c).bind fun r_=>
 br (!r_) (
 some 19) (
 (iu publics).bind fun r_2=>
 br (!r_2) (
 some 1) (
 (iu inputs).bind fun r_3=>
 br (!r_3) (
 some 1) (
 (ck c 2).bind fun r_4=>
 br (((publics.length:Nat):Int) !=r_4) (
 some 8) (
 (ck c 1).bind fun r_5=>
 br (((inputs.length:Nat):Int) !=r_5) (
 some 8) (
 some 0)))))))
theorem FJ {c publics inputs r} (h:re c publics inputs=some r):Call tab ow 54 [.agg [sl aO c.Gates],sl eI publics,sl eI inputs] []=some (I r,[]):=by
 rw [al (af:=oc) rfl]
 unfold re at h
 simp only [oc,xd]
 have d1:= @sg
 have d2:= @zo
 have d3:= @ff
 exact go2
def q7 (a b:Int):Option (Int):=
 some ((wrap .i64 ((wrap .i64 (a+2130706433))-b)).tmod 2130706433)
theorem Gk {a b r} (h:q7 a b=some r):Call tab ow 106 [I a,I b] []=some (I r,[]):=by
 rw [al (af:=oH) rfl]
 unfold q7 at h
 simp only [oH,yE]
 exact go2
def pV (a b:Int):Option (Int):=
 some ((wrap .i64 (a*b)).tmod 2130706433)
theorem F7 {a b r} (h:pV a b=some r):Call tab ow 107 [I a,I b] []=some (I r,[]):=by
 rw [al (af:=oF) rfl]
 unfold pV at h
 simp only [oF,yj]
 exact go2
section
theorem CQ:mkR 2000 []=rws eI []:=rfl
attribute [local go_sem] CQ
theorem DQ:mkR 26002 []=rws eI []:=rfl
attribute [local go_sem] DQ
def gt (t t2:List Int) (c:List aa):(List Int)×Int×Int×Int→Option (((List Int)×Int×Int×Int)⊕(((List Int)×Int×Int×Int×Bool)))
 | (l,t3,t4,t5)=>
   br (decide (t5<((c.length:Nat):Int))) (
   (atL c t5).bind fun x=>
   br (x.Op==1) (
   (atL t2 t4).bind fun x2=>
   br (aK ((l++([x2]:List Int)).length) 8) (
   some (.inl ((l++([x2]:List Int)),t3,(wrap .i64 (t4+1)),(wrap .i64 (t5+1))))) none) (
   br (x.Op==2) (
   (atL t t3).bind fun x3=>
   br (aK ((l++([x3]:List Int)).length) 8) (
   some (.inl ((l++([x3]:List Int)),(wrap .i64 (t3+1)),t4,(wrap .i64 (t5+1))))) none) (
   br (x.Op==3) (
   br (aK ((l++([x.K]:List Int)).length) 8) (
   some (.inl ((l++([x.K]:List Int)),t3,t4,(wrap .i64 (t5+1))))) none) (
   br (x.Op==4) (
   br (decide (0≤x.A)) (
   br (decide (x.A.toNat<l.length)) (
   (l[x.A.toNat]?).bind fun x4=>
   br (decide (0≤x.B)) (
   br (decide (x.B.toNat<l.length)) (
   (l[x.B.toNat]?).bind fun x5=>
   (oa x4 x5).bind fun r_=>
   br (aK ((l++([r_]:List Int)).length) 8) (
   some (.inl ((l++([r_]:List Int)),t3,t4,(wrap .i64 (t5+1))))) none) none) none) none) none) (
   br (x.Op==5) (
   br (decide (0≤x.A)) (
   br (decide (x.A.toNat<l.length)) (
   (l[x.A.toNat]?).bind fun x6=>
   br (decide (0≤x.B)) (
   br (decide (x.B.toNat<l.length)) (
   (l[x.B.toNat]?).bind fun x7=>
   (q7 x6 x7).bind fun r_2=>
   br (aK ((l++([r_2]:List Int)).length) 8) (
   some (.inl ((l++([r_2]:List Int)),t3,t4,(wrap .i64 (t5+1))))) none) none) none) none) none) (
   br (x.Op==6) (
   br (decide (0≤x.A)) (
   br (decide (x.A.toNat<l.length)) (
   (l[x.A.toNat]?).bind fun x8=>
   br (decide (0≤x.B)) (
   br (decide (x.B.toNat<l.length)) (
   (l[x.B.toNat]?).bind fun x9=>
   (pV x8 x9).bind fun r_3=>
   br (aK ((l++([r_3]:List Int)).length) 8) (
   some (.inl ((l++([r_3]:List Int)),t3,t4,(wrap .i64 (t5+1))))) none) none) none) none) none) (
   br (decide (0≤x.A)) (
   br (decide (x.A.toNat<l.length)) (
   (l[x.A.toNat]?).bind fun x10=>
   br (aK ((l++([x10]:List Int)).length) 8) (
   some (.inl ((l++([x10]:List Int)),t3,t4,(wrap .i64 (t5+1))))) none) none) none))))))) (
   some (.inr (l,t3,t4,t5,decide (t5<((c.length:Nat):Int)))))
abbrev oT (c:List aa) (l:List Int):List (Nat×Blk):=[(1000,⟨1,true,[[sl aO c]]⟩),(2000,⟨1,false,rws eI l⟩)]
abbrev tj (t t2:List Int) (c:List aa) (s:(List Int)×Int×Int×Int):St:=⟨[(1,sl eI t),(2,sl eI t2),(3,.ptr 1000 0 0 1),(7,.sl 2000 0 s.1.length),(8,I s.2.1),(9,I s.2.2.1),(10,I s.2.2.2)],oT c s.1⟩
abbrev tW (t t2:List Int) (c:List aa):((List Int)×Int×Int×Int×Bool)→aJ×St:=fun e=>(.exit 0,⟨[(1,sl eI t),(2,sl eI t2),(3,.ptr 1000 0 0 1),(7,.sl 2000 0 e.1.length),(8,I e.2.1),(9,I e.2.2.1),(10,I e.2.2.2.1),(18,B e.2.2.2.2)],oT c e.1⟩)
theorem B7 {t t2 c s e} (h:Loop (gt t t2 c) s=some e):cy tab ow (.close [8005,21010,23010,25010,26002,26003]) ut (tj t t2 c s)=some (tW t t2 c e):=by
 refine lrG (fun s o h=> ?_) h
 obtain ⟨_,_,_,_⟩:=s
 simp only [gt] at h
 simp only [tj,tW,oT,ut,ua]
 have d1:= @wJ
 have d2:= @Gk
 have d3:= @F7
 exact go2
def qP (ListtoArray:Circuit) (a a2:(List Int)):Option ((List Int)):=
 (Loop (gt a a2 ListtoArray.Gates) (([]:List Int),0,0,0)).bind fun e_=>
 some e_.1
theorem FV {ListtoArray a a2 r} (h:qP ListtoArray a a2=some r):Call tab ow 55 [.agg [sl aO ListtoArray.Gates],sl eI a,sl eI a2] []=some (sl eI r,[]):=by
 rw [al (af:=oD) rfl]
 unfold qP at h
 simp only [oD,ta]
 have d1:= @B7
 exact go2
end
def cQ (v2:List Int) (c2:List aa):Int→Option ((Int)⊕((Int×Int×Int×Int)⊕(Int×Bool)))
 |k=>
  br (decide (k<((c2.length:Nat):Int))) (
  (atL c2 k).bind fun x=>
  br (x.Op==7) (
  (atL v2 x.A).bind fun x2=>
  (atL v2 x.B).bind fun x3=>
  br (x2 !=x3) (
  some (.inr (.inl (x.Op,x.A,x.B,x.K)))) (
  br (x.Op==8) (
  (atL v2 x.A).bind fun x4=>
  br (decide (x4>1)) (
  some (.inr (.inl (x.Op,x.A,x.B,x.K)))) (
  some (.inl (wrap .i64 (k+1))))) (
  some (.inl (wrap .i64 (k+1)))))) (
  br (x.Op==8) (
  (atL v2 x.A).bind fun x5=>
  br (decide (x5>1)) (
  some (.inr (.inl (x.Op,x.A,x.B,x.K)))) (
  some (.inl (wrap .i64 (k+1))))) (
  some (.inl (wrap .i64 (k+1)))))) (
  some (.inr (.inr (k,decide (k<((c2.length:Nat):Int))))))
abbrev su (v2:List Int) (c2:List aa) (s:Int):St:=⟨[(1,sl eI v2),(2,.ptr 1000 0 0 1),(5,I s)],[(1000,⟨1,true,[[sl aO c2]]⟩)]⟩
abbrev rT (v2:List Int) (c2:List aa):((Int×Int×Int×Int)⊕(Int×Bool))→aJ×St:=alt (fun e=>((.ret,⟨[(4,B false)],[(1000,⟨1,true,[[sl aO c2]]⟩),(5005,⟨4,true,[[I e.1,I e.2.1,I e.2.2.1,I e.2.2.2]]⟩)]⟩):aJ×St)) (fun e=>(.exit 0,⟨[(1,sl eI v2),(2,.ptr 1000 0 0 1),(5,I e.1),(11,B e.2)],[(1000,⟨1,true,[[sl aO c2]]⟩)]⟩))
theorem yV {v2 c2 s e} (h:Loop (cQ v2 c2) s=some e):cy tab ow (.close [5005]) sq (su v2 c2 s)=some (rT v2 c2 e):=by
 refine lrG (fun s o h=> ?_) h
 simp only [cQ] at h
 simp only [su,rT,sq,rR]
 exact go2
def nM (c:Circuit) (v:(List Int)):Option (Bool):=
 (Loop (cQ v c.Gates) 0).bind (alt (fun e_2=>
 some false) (fun e_3=>
 some true))
theorem Db {c v r} (h:nM c v=some r):Call tab ow 56 [.agg [sl aO c.Gates],sl eI v] []=some (B r,[]):=by
 rw [al (af:=mM) rfl]
 unfold nM at h
 simp only [mM,qO]
 have d1:= @yV
 exact go2
section
theorem vM:mkR 3000 []=rws eI []:=rfl
attribute [local go_sem] vM
theorem vV:mkR 6000 []=rws eI []:=rfl
attribute [local go_sem] vV
theorem wa:mkR 9000 []=rws eI []:=rfl
attribute [local go_sem] wa
def iE (c:Circuit) (publics inputs:(List Int)):Option ((List Int)×Int):=
 br (decide (((publics.length:Nat):Int)>4096)) (
 some (([]:List Int),2)) (
 br (decide (((inputs.length:Nat):Int)>4096)) (
 some (([]:List Int),2)) (
 (re c publics inputs).bind fun r_=>
 br (r_ !=0) (
 some (([]:List Int),r_)) (
 (qP c publics inputs).bind fun r_2=>
 (nM c r_2).bind fun r_3=>
 br (!r_3) (
 some (([]:List Int),15)) (
 some (r_2,0)))))
theorem ya {c publics inputs r} (h:iE c publics inputs=some r):Call tab ow 19 [.agg [sl aO c.Gates],sl eI publics,sl eI inputs] []=some (.tup [sl eI r.1,I r.2],[]):=by
 rw [al (af:=iP) rfl]
 unfold iE at h
 simp only [iP,qd]
 have d1:= @FJ
 have d2:= @FV
 have d3:= @Db
 exact go2
end
def dF (l:List Int):Option (List Int):=br (aK l.length 8) (some l) none
theorem nY (x:Int) (l:List Int) (hf:aK (x::l).length 8=true):Call (w7 57 aU) xh 57 [sl eI (x::l)] []=some (sl eI (x::l),[]):=by
 rw [al (af:=aU) (uG _ _)]
 rw [List.length_cons] at hf
 simp+decide only [aU,cZ,fun k=>mk0 eI k,CE,go_sem,reduceIte,Nat.reduceAdd,hf]
theorem nS {l r:List Int} (h:dF l=some r):Call tab ow 57 [sl eI l] []=some (sl eI r,[]):=by
 unfold dF at h
 obtain ⟨hb,h⟩:=brg h
 cases h
 rw [xZ (g:=Bl 57 aU) rfl]
 cases l with
 |nil=>rfl
 |cons x l=>exact nY x l hb
section
theorem rF:mkR 2000 []=rws eI []:=rfl
attribute [local go_sem] rF
theorem rD:mkR 7005 []=rws eI []:=rfl
attribute [local go_sem] rD
def cn (values2:List Int) (t:List aa) (t2:Int) (c2:List aa):(List Int)×Int→Option (((List Int)×Int)⊕(((List Int)×Int×Bool)))
 | (l,t3)=>
   br (decide (t3<t2)) (
   (atL t t3).bind fun x=>
   br (x.Op !=2) (
   (atL values2 t3).bind fun x2=>
   br (aK ((l++([x2]:List Int)).length) 8) (
   some (.inl ((l++([x2]:List Int)),(wrap .i64 (t3+1))))) none) (
   some (.inl (l,(wrap .i64 (t3+1)))))) (
   some (.inr (l,t3,decide (t3<t2))))
abbrev gg (c2:List aa) (l:List Int):List (Nat×Blk):=[(1000,⟨1,true,[[sl aO c2]]⟩),(2000,⟨1,false,rws eI l⟩)]
abbrev jQ (values2:List Int) (t:List aa) (t2:Int) (c2:List aa) (s:(List Int)×Int):St:=⟨[(1,sl eI values2),(5,.sl 2000 0 s.1.length),(10,sl aO t),(11,I t2),(12,I s.2)],gg c2 s.1⟩
abbrev jX (values2:List Int) (t:List aa) (t2:Int) (c2:List aa):((List Int)×Int×Bool)→aJ×St:=fun e=>(.exit 0,⟨[(1,sl eI values2),(5,.sl 2000 0 e.1.length),(10,sl aO t),(11,I t2),(12,I e.2.1),(13,B e.2.2)],gg c2 e.1⟩)
theorem pJ {values2 t t2 c2 s e} (h:Loop (cn values2 t t2 c2) s=some e):cy tab ow (.close [5003,7005,7006]) kv (jQ values2 t t2 c2 s)=some (jX values2 t t2 c2 e):=by
 refine lrG (fun s o h=> ?_) h
 obtain ⟨_,_⟩:=s
 simp only [cn] at h
 simp only [jQ,jX,gg,kv,kj]
 exact go2
def eG (c:Circuit) (values:(List Int)):Option ((List Int)):=
 (Loop (cn values c.Gates ((c.Gates.length:Nat):Int) c.Gates) (([]:List Int),0)).bind fun e_=>
 some e_.1
theorem sZ {c values r} (h:eG c values=some r):Call tab ow 58 [.agg [sl aO c.Gates],sl eI values] []=some (sl eI r,[]):=by
 rw [al (af:=fk) rfl]
 unfold eG at h
 simp only [fk,iq]
 have d1:= @pJ
 exact go2
end
def jN (c:Circuit) (publics inputs:(List Int)):Option ((List Int)×(List Int)×Int):=
 (gz c publics inputs).bind fun r_=>
 br (r_.2 !=0) (
 some (([]:List Int),([]:List Int),r_.2)) (
 (dF publics).bind fun r_2=>
 (eG c r_.1).bind fun r_3=>
 some (r_2,r_3,0))
theorem zu {c publics inputs r} (h:jN c publics inputs=some r):Call tab ow 20 [.agg [sl aO c.Gates],sl eI publics,sl eI inputs] []=some (.tup [sl eI r.1,sl eI r.2.1,I r.2.2],[]):=by
 rw [al (af:=jz) rfl]
 unfold jN at h
 simp only [jz,sy]
 have d1:= @q9
 have d2:= @nS
 have d3:= @sZ
 exact go2
def nL (c:Circuit) (op:Int):Option (Int×Int):=
 (eV c).bind fun r_=>
 br (!r_) (
 some (0,19)) (
 (eU op 1 8).bind fun r_2=>
 br (!r_2) (
 some (0,4)) (
 (bG c op).bind fun r_3=>
 some (r_3,0)))
theorem C9 {c op r} (h:nL c op=some r):Call tab ow 21 [.agg [sl aO c.Gates],I op] []=some (.tup [I r.1,I r.2],[]):=by
 rw [al (af:=n7) rfl]
 unfold nL at h
 simp only [n7,vh]
 have d1:= @jy
 have d2:= @qY
 have d3:= @ee
 exact go2
def dy (a2 b2:List Int):Int→Option ((Int)⊕(Unit⊕(Int×Bool)))
 |i=>
  br (decide (i<((a2.length:Nat):Int))) (
  (atL a2 i).bind fun x=>
  (atL b2 i).bind fun x2=>
  br (x !=x2) (
  some (.inr (.inl ()))) (
  some (.inl (wrap .i64 (i+1))))) (
  some (.inr (.inr (i,decide (i<((a2.length:Nat):Int))))))
abbrev pT (a2 b2:List Int) (s:Int):St:=⟨[(0,sl eI a2),(1,sl eI b2),(5,I s)],[]⟩
abbrev qz (a2 b2:List Int):(Unit⊕(Int×Bool))→aJ×St:=alt (fun e=>((.ret,⟨[(4,B false)],[]⟩):aJ×St)) (fun e=>(.exit 0,⟨[(0,sl eI a2),(1,sl eI b2),(5,I e.1),(14,B e.2)],[]⟩))
theorem yg {a2 b2 s e} (h:Loop (dy a2 b2) s=some e):cy tab ow (.close []) r9 (pT a2 b2 s)=some (qz a2 b2 e):=by
 refine lrG (fun s o h=> ?_) h
 simp only [dy] at h
 simp only [pT,qz,r9,pM]
 exact go2
def mw (a b:(List Int)):Option (Bool):=
 br (((a.length:Nat):Int) !=((b.length:Nat):Int)) (
 some false) (
 (Loop (dy a b) 0).bind (alt (fun e_2=>
 some false) (fun e_3=>
 some true)))
theorem AY {a b r} (h:mw a b=some r):Call tab ow 23 [sl eI a,sl eI b] []=some (B r,[]):=by
 rw [al (af:=li) rfl]
 unfold mw at h
 simp only [li,oM]
 have d1:= @yg
 exact go2
def fN (s:aS):Option (((List ag)×(List ag)×(List ag))):=
 some (s.A,s.B,s.C)
theorem rQ {s r} (h:fN s=some r):Call tab ow 63 [.agg [I s.Rows,I s.Cols,I s.Publics,sl an s.A,sl an s.B,sl an s.C]] []=some (.agg [sl an r.1,sl an r.2.1,sl an r.2.2],[]):=by
 rw [al (af:=en) rfl]
 unfold fN at h
 simp only [en,kX]
 exact go2
def ca (x:Int):Option (Bool):=
 some (x !=x)
theorem kH {x r} (h:ca x=some r):Call tab ow 152 [I x] []=some (B r,[]):=by
 rw [al (af:=cf) rfl]
 unfold ca at h
 simp only [cf,fC]
 exact go2
def bh (x y:Int):Option (Int):=
 (ca x).bind fun r_=>
 (ca y).bind fun r_2=>
 br r_ (
 br r_2 (
 some 0) (
 some (-1:Int))) (
 br r_2 (
 some 1) (
 br (decide (x<y)) (
 some (-1:Int)) (
 br (decide (x>y)) (
 some 1) (
 some 0))))
theorem iX {x y r} (h:bh x y=some r):Call tab ow 138 [I x,I y] []=some (I r,[]):=by
 rw [al (af:=bF) rfl]
 unfold bh at h
 simp only [bF,dM]
 have d1:= @kH
 exact go2
def aD (zero:Int) (t:List Int) (t2:Int):Int→Option ((Int)⊕(Int⊕(Int×Bool)))
 |t3=>
  br (decide (t3<t2)) (
  (atL t t3).bind fun x=>
  br (x !=zero) (
  some (.inr (.inl x))) (
  some (.inl (wrap .i64 (t3+1))))) (
  some (.inr (.inr (t3,decide (t3<t2)))))
abbrev fU (zero:Int) (t:List Int) (t2 s:Int):St:=⟨[(3,I zero),(6,sl eI t),(7,I t2),(8,I s)],[]⟩
abbrev gk (zero:Int) (t:List Int) (t2:Int):(Int⊕(Int×Bool))→aJ×St:=alt (fun e=>((.ret,⟨[(2,I e)],[]⟩):aJ×St)) (fun e=>(.exit 0,⟨[(3,I zero),(6,sl eI t),(7,I t2),(8,I e.1),(9,B e.2)],[]⟩))
theorem lM {zero t t2 s e} (h:Loop (aD zero t t2) s=some e):cy tab ow (.close []) fR (fU zero t t2 s)=some (gk zero t t2 e):=by
 refine lrG (fun s o h=> ?_) h
 simp only [aD] at h
 simp only [fU,gk,fR,fX]
 exact go2
def du (vals:(List Int)):Option (Int):=
 (Loop (aD 0 vals ((vals.length:Nat):Int)) 0).bind (alt (fun e_2=>
 some e_2) (fun e_3=>
 some 0))
theorem ob {vals r} (h:du vals=some r):Call tab ow 137 [sl eI vals] []=some (I r,[]):=by
 rw [al (af:=dl) rfl]
 unfold du at h
 simp only [dl,fe]
 have d1:= @lM
 exact go2
section
theorem jf:mkR 2010 []=rws eI []:=rfl
attribute [local go_sem] jf
def cB (e_ f:ag):Option (Int):=
 (bh e_.Row f.Row).bind fun r_=>
 (bh e_.Col f.Col).bind fun r_2=>
 (du ([r_,r_2]:List Int)).bind fun r_3=>
 some r_3
theorem kG {e_ f r} (h:cB e_ f=some r):Call tab ow 108 [.agg [I e_.Row,I e_.Col,I e_.Value],.agg [I f.Row,I f.Col,I f.Value]] []=some (I r,[]):=by
 rw [al (af:=cc) rfl]
 unfold cB at h
 simp only [cc,fw]
 have d1:= @iX
 have d2:= @ob
 exact go2
end
def gj (list2:List ag) (rows2 cols2:Int) (t:List ag) (t2:Int):Int→Option ((Int)⊕((Int×Int×Int)⊕(Int×Bool)))
 |t3=>
  br (decide (t3<t2)) (
  (atL t t3).bind fun x=>
  (eU x.Row 0 (wrap .i64 (rows2-1))).bind fun r_=>
  br (!r_) (
  some (.inr (.inl (x.Row,x.Col,x.Value)))) (
  (eU x.Col 0 (wrap .i64 (cols2-1))).bind fun r_2=>
  br (!r_2) (
  some (.inr (.inl (x.Row,x.Col,x.Value)))) (
  (eU x.Value 1 2130706432).bind fun r_3=>
  br (!r_3) (
  some (.inr (.inl (x.Row,x.Col,x.Value)))) (
  br (decide (t3>0)) (
  (atL list2 (wrap .i64 (t3-1))).bind fun x2=>
  (cB x2 x).bind fun r_4=>
  br (decide (r_4≥0)) (
  some (.inr (.inl (x.Row,x.Col,x.Value)))) (
  some (.inl (wrap .i64 (t3+1))))) (
  some (.inl (wrap .i64 (t3+1)))))))) (
  some (.inr (.inr (t3,decide (t3<t2)))))
abbrev qj (list2:List ag) (rows2 cols2:Int) (t:List ag) (t2 s:Int):St:=⟨[(0,sl an list2),(1,I rows2),(2,I cols2),(9,sl an t),(10,I t2),(11,I s)],[]⟩
abbrev pH (list2:List ag) (rows2 cols2:Int) (t:List ag) (t2:Int):((Int×Int×Int)⊕(Int×Bool))→aJ×St:=alt (fun e=>((.ret,⟨[(6,B false)],[(4003,⟨3,true,[[I e.1,I e.2.1,I e.2.2]]⟩)]⟩):aJ×St)) (fun e=>(.exit 0,⟨[(0,sl an list2),(1,I rows2),(2,I cols2),(9,sl an t),(10,I t2),(11,I e.1),(12,B e.2)],[]⟩))
theorem yu {list2 rows2 cols2 t t2 s e} (h:Loop (gj list2 rows2 cols2 t t2) s=some e):cy tab ow (.close [4003,5004,5011,5017,5030]) r8 (qj list2 rows2 cols2 t t2 s)=some (pH list2 rows2 cols2 t t2 e):=by
 refine lrG (fun s o h=> ?_) h
 simp only [gj] at h
 simp only [qj,pH,r8,qt]
 have d1:= @qY
 have d2:= @kG
 exact go2
def im (list:(List ag)) (rows cols:Int):Option (Bool):=
 (Loop (gj list rows cols list ((list.length:Nat):Int)) 0).bind (alt (fun e_2=>
 some false) (fun e_3=>
 some (decide (((list.length:Nat):Int)≤200))))
theorem oK {list rows cols r} (h:im list rows cols=some r):Call tab ow 64 [sl an list,I rows,I cols] []=some (B r,[]):=by
 rw [al (af:=lu) rfl]
 unfold im at h
 simp only [lu,oo]
 have d1:= @yu
 exact go2
def ic (s:aS):Option (Bool):=
 (eU s.Rows 1 5).bind fun r_=>
 br (!r_) (
 some false) (
 (eU s.Cols 2 5).bind fun r_2=>
 br (!r_2) (
 some false) (
 (bO s).bind fun r_3=>
 (eU s.Publics 0 (wrap .i64 (r_3-1))).bind fun r_4=>
 br (!r_4) (
 some false) (
 (fN s).bind fun r_5=>
 br (decide (0≤s.Rows)) (
 br (decide (0≤s.Cols)) (
 (im r_5.1 (bc .i64 1 s.Rows) (bc .i64 1 s.Cols)).bind fun r_6=>
 br (!r_6) (
 some false) (
 br (decide (0≤s.Rows)) (
 br (decide (0≤s.Cols)) (
 (im r_5.2.1 (bc .i64 1 s.Rows) (bc .i64 1 s.Cols)).bind fun r_7=>
 br (!r_7) (
 some false) (
 br (decide (0≤s.Rows)) (
 br (decide (0≤s.Cols)) (
 (im r_5.2.2 (bc .i64 1 s.Rows) (bc .i64 1 s.Cols)).bind fun r_8=>
 br (!r_8) (
 some false) (
 some true)) none) none)) none) none)) none) none)))
theorem oy {s r} (h:ic s=some r):Call tab ow 24 [.agg [I s.Rows,I s.Cols,I s.Publics,sl an s.A,sl an s.B,sl an s.C]] []=some (B r,[]):=by
 rw [al (af:=ln) rfl]
 unfold ic at h
 simp+decide only [ln,ot,go_sem,reduceIte,Nat.reduceAdd,Int.reduceAdd,Int.reduceMul,Int.reduceSub]
 obtain ⟨r_,h1,h⟩:=bd h
 refine is (qY h1) ?_
 simp+decide only [go_sem,reduceIte,Nat.reduceAdd,Int.reduceAdd,Int.reduceMul,Int.reduceSub]
 rcases brc h with ⟨hb,h⟩|⟨hb,h⟩
 ·refine vP hb ?_
  obtain rfl:=Option.some.inj h
  first|rfl| (simp only [List.length_set,go_sem];done)
 ·refine Jj hb ?_
  obtain ⟨r_2,h1,h⟩:=bd h
  refine is (qY h1) ?_
  simp+decide only [go_sem,reduceIte,Nat.reduceAdd,Int.reduceAdd,Int.reduceMul,Int.reduceSub]
  rcases brc h with ⟨hb,h⟩|⟨hb,h⟩
  ·refine vP hb ?_
   obtain rfl:=Option.some.inj h
   first|rfl| (simp only [List.length_set,go_sem];done)
  ·refine Jj hb ?_
   obtain ⟨r_3,h1,h⟩:=bd h
   refine is (fu h1) ?_
   simp+decide only [go_sem,reduceIte,Nat.reduceAdd,Int.reduceAdd,Int.reduceMul,Int.reduceSub]
   obtain ⟨r_4,h1,h⟩:=bd h
   refine is (qY h1) ?_
   simp+decide only [go_sem,reduceIte,Nat.reduceAdd,Int.reduceAdd,Int.reduceMul,Int.reduceSub]
   rcases brc h with ⟨hb,h⟩|⟨hb,h⟩
   ·refine vP hb ?_
    obtain rfl:=Option.some.inj h
    first|rfl| (simp only [List.length_set,go_sem];done)
   ·refine Jj hb ?_
    obtain ⟨r_5,h1,h⟩:=bd h
    refine uk (rQ h1) ?_
    simp+decide only [go_sem,reduceIte,Nat.reduceAdd,Int.reduceAdd,Int.reduceMul,Int.reduceSub]
    refine jn ?_
    simp+decide only [mkL,go_sem,reduceIte,Nat.reduceAdd,Int.reduceAdd,Int.reduceMul,Int.reduceSub]
    obtain ⟨hb,h⟩:=brg h
    refine vP hb ?_
    obtain ⟨hb,h⟩:=brg h
    refine vP hb ?_
    obtain ⟨r_6,h1,h⟩:=bd h
    refine is (oK h1) ?_
    simp+decide only [go_sem,reduceIte,Nat.reduceAdd,Int.reduceAdd,Int.reduceMul,Int.reduceSub]
    rcases brc h with ⟨hb,h⟩|⟨hb,h⟩
    ·refine vP hb ?_
     obtain rfl:=Option.some.inj h
     first|rfl| (simp only [List.length_set,go_sem];done)
    ·refine Jj hb ?_
     refine jn ?_
     simp+decide only [mkL,go_sem,reduceIte,Nat.reduceAdd,Int.reduceAdd,Int.reduceMul,Int.reduceSub]
     obtain ⟨hb,h⟩:=brg h
     refine vP hb ?_
     obtain ⟨hb,h⟩:=brg h
     refine vP hb ?_
     obtain ⟨r_7,h1,h⟩:=bd h
     refine is (oK h1) ?_
     simp+decide only [go_sem,reduceIte,Nat.reduceAdd,Int.reduceAdd,Int.reduceMul,Int.reduceSub]
     rcases brc h with ⟨hb,h⟩|⟨hb,h⟩
     ·refine vP hb ?_
      obtain rfl:=Option.some.inj h
      first|rfl| (simp only [List.length_set,go_sem];done)
     ·refine Jj hb ?_
      refine jn ?_
      simp+decide only [mkL,go_sem,reduceIte,Nat.reduceAdd,Int.reduceAdd,Int.reduceMul,Int.reduceSub]
      obtain ⟨hb,h⟩:=brg h
      refine vP hb ?_
      obtain ⟨hb,h⟩:=brg h
      refine vP hb ?_
      obtain ⟨r_8,h1,h⟩:=bd h
      refine is (oK h1) ?_
      simp+decide only [go_sem,reduceIte,Nat.reduceAdd,Int.reduceAdd,Int.reduceMul,Int.reduceSub]
      rcases brc h with ⟨hb,h⟩|⟨hb,h⟩
      ·refine vP hb ?_
       obtain rfl:=Option.some.inj h
       first|rfl| (simp only [List.length_set,go_sem];done)
      ·refine Jj hb ?_
       refine jn ?_
       simp+decide only [mkL,go_sem,reduceIte,Nat.reduceAdd,Int.reduceAdd,Int.reduceMul,Int.reduceSub]
       obtain rfl:=Option.some.inj h
       first|rfl| (simp only [List.length_set,go_sem];done)
def cE (a2 b2:List ag):Int→Option ((Int)⊕(Unit⊕(Int×Bool)))
 |i=>
  br (decide (i<((a2.length:Nat):Int))) (
  (atL a2 i).bind fun x=>
  (atL b2 i).bind fun x2=>
  br (x.Row==x2.Row) (
  br (x.Col==x2.Col) (
  br (x.Value==x2.Value) (
  some (.inl (wrap .i64 (i+1)))) (
  some (.inr (.inl ())))) (
  some (.inr (.inl ())))) (
  some (.inr (.inl ())))) (
  some (.inr (.inr (i,decide (i<((a2.length:Nat):Int))))))
abbrev mU (a2 b2:List ag) (s:Int):St:=⟨[(0,sl an a2),(1,sl an b2),(5,I s)],[]⟩
abbrev mN (a2 b2:List ag):(Unit⊕(Int×Bool))→aJ×St:=alt (fun e=>((.ret,⟨[(4,B false)],[]⟩):aJ×St)) (fun e=>(.exit 0,⟨[(0,sl an a2),(1,sl an b2),(5,I e.1),(14,B e.2)],[]⟩))
theorem u7 {a2 b2 s e} (h:Loop (cE a2 b2) s=some e):cy tab ow (.close []) nf (mU a2 b2 s)=some (mN a2 b2 e):=by
 refine lrG (fun s o h=> ?_) h
 simp only [cE] at h
 simp only [mU,mN,nf,mZ]
 exact go2
def dX (a b:(List ag)):Option (Bool):=
 br (((a.length:Nat):Int) !=((b.length:Nat):Int)) (
 some false) (
 (Loop (cE a b) 0).bind (alt (fun e_2=>
 some false) (fun e_3=>
 some true)))
theorem vL {a b r} (h:dX a b=some r):Call tab ow 25 [sl an a,sl an b] []=some (B r,[]):=by
 rw [al (af:=i9) rfl]
 unfold dX at h
 simp only [i9,kE]
 have d1:= @u7
 exact go2
section
theorem th: ∀k,B3 2003 k [I (0:Int)]=rws eI (List.replicate k (0:Int)):=fun _=>Xv eI (0:Int) _ _
attribute [local go_sem] th
def ft (s:aS) (publics privates:(List Int)):Option ((List Int)):=
 br (decide (0≤s.Cols)) (
 br (BG (bc .i64 1 s.Cols) (bc .i64 1 s.Cols) 8) (
 br (decide (0<(List.replicate ((bc .i64 (1:Int) s.Cols).toNat) (0:Int)).length)) (
 ((List.replicate ((bc .i64 (1:Int) s.Cols).toNat) (0:Int))[0]?).bind fun x=>
 br (decide ((1:Int)≤(((List.replicate ((bc .i64 (1:Int) s.Cols).toNat) (0:Int)).length:Nat):Int))) (
 br (decide (1+((List.replicate ((bc .i64 (1:Int) s.Cols).toNat) (0:Int)).length-1)=(List.replicate ((bc .i64 (1:Int) s.Cols).toNat) (0:Int)).length)) (
 (bO s).bind fun r_=>
 br (decide (0≤r_)&&decide (r_≤(((List.replicate ((bc .i64 (1:Int) s.Cols).toNat) (0:Int)).length:Nat):Int))) (
 br (decide (r_.toNat+((List.replicate ((bc .i64 (1:Int) s.Cols).toNat) (0:Int)).length-r_.toNat)=(List.replicate ((bc .i64 (1:Int) s.Cols).toNat) (0:Int)).length)) (
 some (nW (nW ((List.replicate ((bc .i64 (1:Int) s.Cols).toNat) (0:Int)).set 0 (1:Int)) 1 (min publics.length ((List.replicate ((bc .i64 (1:Int) s.Cols).toNat) (0:Int)).length-1)) publics) r_.toNat (min privates.length ((List.replicate ((bc .i64 (1:Int) s.Cols).toNat) (0:Int)).length-r_.toNat)) privates)) none) none) none) none) none) none) none
theorem tp {s publics privates r} (h:ft s publics privates=some r):Call tab ow 67 [.agg [I s.Rows,I s.Cols,I s.Publics,sl an s.A,sl an s.B,sl an s.C],sl eI publics,sl eI privates] []=some (sl eI r,[]):=by
 rw [al (af:=fO) rfl]
 unfold ft at h
 simp only [fO,mV]
 have d1:= @fu
 exact go2
end
def mg (s:aS) (publics privates:(List Int)):Option ((List Int)×Int):=
 br (decide (((publics.length:Nat):Int)>4096)) (
 some (([]:List Int),2)) (
 br (decide (((privates.length:Nat):Int)>4096)) (
 some (([]:List Int),2)) (
 (ic s).bind fun r_=>
 br (!r_) (
 some (([]:List Int),1)) (
 (bD publics).bind fun r_2=>
 br (!r_2) (
 some (([]:List Int),1)) (
 (bD privates).bind fun r_3=>
 br (!r_3) (
 some (([]:List Int),1)) (
 br (((publics.length:Nat):Int) !=s.Publics) (
 some (([]:List Int),8)) (
 (bO s).bind fun r_4=>
 br (decide (((privates.length:Nat):Int)>r_4)) (
 some (([]:List Int),8)) (
 (ft s publics privates).bind fun r_5=>
 some (r_5,0))))))))
theorem AG {s publics privates r} (h:mg s publics privates=some r):Call tab ow 26 [.agg [I s.Rows,I s.Cols,I s.Publics,sl an s.A,sl an s.B,sl an s.C],sl eI publics,sl eI privates] []=some (.tup [sl eI r.1,I r.2],[]):=by
 rw [al (af:=lf) rfl]
 unfold mg at h
 simp only [lf,u6]
 have d1:= @oy
 have d2:= @gH
 have d3:= @fu
 have d4:= @tp
 exact go2
def jB (s:aS) (z:(List Int)):Option (Int):=
 br (decide (((z.length:Nat):Int)>4096)) (
 some 2) (
 (ic s).bind fun r_=>
 br (!r_) (
 some 1) (
 (bD z).bind fun r_2=>
 br (!r_2) (
 some 1) (
 br (decide (0≤s.Cols)) (
 br (((z.length:Nat):Int) !=(bc .i64 1 s.Cols)) (
 some 8) (
 some 0)) none)))
theorem vW {s z r} (h:jB s z=some r):Call tab ow 68 [.agg [I s.Rows,I s.Cols,I s.Publics,sl an s.A,sl an s.B,sl an s.C],sl eI z] []=some (I r,[]):=by
 rw [al (af:=i4) rfl]
 unfold jB at h
 simp only [i4,pt]
 have d1:= @oy
 have d2:= @gH
 exact go2
end
end Go.AI.Fn
set_option linter.unusedVariables false
set_option linter.unusedSimpArgs false
set_option maxRecDepth 100000
set_option maxHeartbeats 1000000
namespace Go.AI.Fn
noncomputable section
open IntKind (wrap)
section
theorem AS: ∀k,B3 2002 k [I (0:Int)]=rws eI (List.replicate k (0:Int)):=fun _=>Xv eI (0:Int) _ _
attribute [local go_sem] AS
def fH (z2:List Int) (t:List ag) (t2:Int):(List Int)×Int→Option (((List Int)×Int)⊕(((List Int)×Int×Bool)))
 | (l,t3)=>
   br (decide (t3<t2)) (
   (atL t t3).bind fun x=>
   br (decide (0≤x.Row)) (
   br (decide (x.Row.toNat<l.length)) (
   (l[x.Row.toNat]?).bind fun x2=>
   (atL z2 x.Col).bind fun x3=>
   (xS x.Value x3).bind fun r_=>
   (yC x2 r_).bind fun r_2=>
   br (decide (0≤x.Row)) (
   br (decide (x.Row.toNat<l.length)) (
   (l[x.Row.toNat]?).bind fun x4=>
   some (.inl ((l.set x.Row.toNat r_2),(wrap .i64 (t3+1))))) none) none) none) none) (
   some (.inr (l,t3,decide (t3<t2))))
abbrev rY (z2:List Int) (t:List ag) (t2:Int) (s:(List Int)×Int):St:=⟨[(2,sl eI z2),(7,.sl 2002 0 s.1.length),(13,sl an t),(14,I t2),(15,I s.2)],[(2002,⟨1,false,rws eI s.1⟩)]⟩
abbrev sk (z2:List Int) (t:List ag) (t2:Int):((List Int)×Int×Bool)→aJ×St:=fun e=>(.exit 0,⟨[(2,sl eI z2),(7,.sl 2002 0 e.1.length),(13,sl an t),(14,I t2),(15,I e.2.1),(16,B e.2.2)],[(2002,⟨1,false,rws eI e.1⟩)]⟩)
theorem zw {z2 t t2 s e} (h:Loop (fH z2 t t2) s=some e):cy tab ow (.close [5002,6015,6016]) s7 (rY z2 t t2 s)=some (sk z2 t t2 e):=by
 refine lrG (fun s o h=> ?_) h
 obtain ⟨_,_⟩:=s
 simp only [fH] at h
 simp only [rY,sk,s7,sh]
 have d1:= @AN
 have d2:= @Bv
 exact go2
def jl (list:(List ag)) (rows:Int) (z:(List Int)):Option ((List Int)):=
 br (decide (0≤rows)) (
 br (BG (bc .i64 1 rows) (bc .i64 1 rows) 8) (
 (Loop (fH z list ((list.length:Nat):Int)) ((List.replicate ((bc .i64 (1:Int) rows).toNat) (0:Int)),(0:Int))).bind fun e_=>
 some e_.1) none) none
theorem Ed {list rows z r} (h:jl list rows z=some r):Call tab ow 111 [sl an list,I rows,sl eI z] []=some (sl eI r,[]):=by
 rw [al (af:=mH) rfl]
 unfold jl at h
 simp only [mH,pO]
 have d1:= @zw
 exact go2
end
def bm (a b c:List Int) (t c2 c3 c4:Int) (c5 c6 c7:List ag):Int→Option ((Int)⊕(Int⊕(Int×Bool)))
 |t2=>
  br (decide (t2<t)) (
  (atL a t2).bind fun x=>
  (atL b t2).bind fun x2=>
  (xS x x2).bind fun r_4=>
  (atL c t2).bind fun x3=>
  br (r_4 !=x3) (
  some (.inr (.inl t2))) (
  some (.inl (wrap .i64 (t2+1))))) (
  some (.inr (.inr (t2,decide (t2<t)))))
abbrev ep (c2 c3 c4:Int) (c5 c6 c7:List ag):List (Nat×Blk):=[(1000,⟨6,true,[[I c2,I c3,I c4,sl an c5,sl an c6,sl an c7]]⟩)]
abbrev kO (a b c:List Int) (t c2 c3 c4:Int) (c5 c6 c7:List ag) (s:Int):St:=⟨[(5,sl eI a),(6,sl eI b),(7,sl eI c),(28,I t),(29,I s)],ep c2 c3 c4 c5 c6 c7⟩
abbrev kS (a b c:List Int) (t c2 c3 c4:Int) (c5 c6 c7:List ag):(Int⊕(Int×Bool))→aJ×St:=alt (fun e=>((.ret,⟨[(4,I e)],ep c2 c3 c4 c5 c6 c7⟩):aJ×St)) (fun e=>(.exit 0,⟨[(5,sl eI a),(6,sl eI b),(7,sl eI c),(28,I t),(29,I e.1),(30,B e.2)],ep c2 c3 c4 c5 c6 c7⟩))
theorem rK {a b c t c2 c3 c4 c5 c6 c7 s e} (h:Loop (bm a b c t c2 c3 c4 c5 c6 c7) s=some e):cy tab ow (.close [6008]) kP (kO a b c t c2 c3 c4 c5 c6 c7 s)=some (kS a b c t c2 c3 c4 c5 c6 c7 e):=by
 refine lrG (fun s o h=> ?_) h
 simp only [bm] at h
 simp only [kO,kS,ep,kP,kL]
 have d1:= @AN
 exact go2
def fF (s:aS) (z:(List Int)):Option (Int):=
 (jl s.A s.Rows z).bind fun r_=>
 (jl s.B s.Rows z).bind fun r_2=>
 (jl s.C s.Rows z).bind fun r_3=>
 (Loop (bm r_ r_2 r_3 ((r_.length:Nat):Int) s.Rows s.Cols s.Publics s.A s.B s.C) 0).bind (alt (fun e_2=>
 some e_2) (fun e_3=>
 some (-1:Int)))
theorem tG {s z r} (h:fF s z=some r):Call tab ow 69 [.agg [I s.Rows,I s.Cols,I s.Publics,sl an s.A,sl an s.B,sl an s.C],sl eI z] []=some (I r,[]):=by
 rw [al (af:=fP) rfl]
 unfold fF at h
 simp only [fP,iK]
 have d1:= @Ed
 have d2:= @rK
 exact go2
def jK (s:aS) (z:(List Int)):Option (Bool×Int):=
 (jB s z).bind fun r_=>
 br (r_ !=0) (
 some (false,r_)) (
 (fF s z).bind fun r_2=>
 some (decide (r_2<0),0))
theorem zr {s z r} (h:jK s z=some r):Call tab ow 27 [.agg [I s.Rows,I s.Cols,I s.Publics,sl an s.A,sl an s.B,sl an s.C],sl eI z] []=some (.tup [B r.1,I r.2],[]):=by
 rw [al (af:=jC) rfl]
 unfold jK at h
 simp only [jC,si]
 have d1:= @vW
 have d2:= @tG
 exact go2
def ni (ListtoArray a:(List UInt8)):Option (Bool):=
 br (decide (((ListtoArray.length:Nat):Int)>1048576)) (
 some true) (
 br (decide (((a.length:Nat):Int)>1048576)) (
 some true) (
 (ko ListtoArray).bind fun r_=>
 (lY a r_).bind fun r_2=>
 (gz r_ r_2.Publics r_2.Inputs).bind fun r_3=>
 (iE r_ r_2.Publics r_2.Inputs).bind fun r_4=>
 (mh r_).bind fun r_5=>
 (mc r_).bind fun r_6=>
 (jN r_ r_2.Publics r_2.Inputs).bind fun r_7=>
 (nL r_ 2).bind fun r_8=>
 (eV r_).bind fun r_9=>
 br (!r_9) (
 some false) (
 br (r_3.2 !=r_4.2) (
 some false) (
 (mw r_3.1 r_4.1).bind fun r_10=>
 br (!r_10) (
 some false) (
 br (r_5.2 !=0) (
 some false) (
 (ic r_5.1).bind fun r_11=>
 br (!r_11) (
 some false) (
 br (r_5.1.Rows !=r_6.1.Rows) (
 some false) (
 br (r_5.1.Cols !=r_6.1.Cols) (
 some false) (
 br (r_5.1.Publics !=r_6.1.Publics) (
 some false) (
 (dX r_5.1.A r_6.1.A).bind fun r_12=>
 br (!r_12) (
 some false) (
 (dX r_5.1.B r_6.1.B).bind fun r_13=>
 br (!r_13) (
 some false) (
 (dX r_5.1.C r_6.1.C).bind fun r_14=>
 br (!r_14) (
 some false) (
 br (r_7.2.2 !=r_3.2) (
 some false) (
 br (r_8.2 !=0) (
 some false) (
 br (r_8.1 !=((r_2.Publics.length:Nat):Int)) (
 some false) (
 br (r_3.2 !=0) (
 br (r_3.2==15) (
 br (((r_3.1.length:Nat):Int)==0) (
 br (((r_7.1.length:Nat):Int)==0) (
 some (((r_7.2.1.length:Nat):Int)==0)) (
 some false)) (
 some false)) (
 some false)) (
 (mg r_5.1 r_7.1 r_7.2.1).bind fun r_15=>
 (jK r_5.1 r_15.1).bind fun r_16=>
 br (r_15.2==0) (
 br (r_16.2==0) (
 br r_16.1 (
 br (((r_3.1.length:Nat):Int)==((r_.Gates.length:Nat):Int)) (
 some ((wrap .i64 (((r_7.1.length:Nat):Int)+((r_7.2.1.length:Nat):Int)))==((r_3.1.length:Nat):Int))) (
 some false)) (
 some false)) (
 some false)) (
 some false))))))))))))))))))
theorem w_FnCircuit_c {ListtoArray a r} (h:ni ListtoArray a=some r):Call tab ow 4 [sl eU8 ListtoArray,sl eU8 a] []=some (B r,[]):=by
 rw [al (af:=a_w_FnCircuit) rfl]
 unfold ni at h
 simp only [a_w_FnCircuit,sn]
 have d1:= @yY
 have d2:= @Be
 have d3:= @q9
 have d4:= @ya
 have d5:= @C5
 have d6:= @AJ
 have d7:= @zu
 have d8:= @C9
 have d9:= @jy
 have d10:= @AY
 have d11:= @oy
 have d12:= @vL
 have d13:= @AG
 have d14:= @zr
 exact go2
end
end Go.AI.Fn
