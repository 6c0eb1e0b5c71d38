/- Walks through the program, with open values. -/
import Derived.Test.YtdmhkkcihecndaaFx0
import Derived.Test.YtdmhkkcihecndaaTb2
set_option linter.unusedVariables false
set_option linter.unusedSimpArgs false
set_option maxRecDepth 100000
set_option maxHeartbeats 1000000
namespace Go.AI.Fn
noncomputable section
open IntKind (wrap)
section
theorem nB:mkR 2000 []=rws eU8 []:=rfl
attribute [local go_sem] nB
theorem nM:mkR 2011 []=rws eU8 []:=rfl
attribute [local go_sem] nM
theorem nK:mkR 10007 []=rws eU8 []:=rfl
attribute [local go_sem] nK
def aY (l2:List UInt8) (t t2 t3:List Entry) (t4:Int) (t5:List Entry) (t6 c c2 c3:Int) (c4 c5 c6:List Entry):(List UInt8)×Int→Option (((List UInt8)×Int)⊕(((List UInt8)×Int×Bool)))
 | (l,t7)=>
   br (decide (t7<t6)) (
   (atL t5 t7).bind fun x=>
   br (dC ((l++([(UInt8.ofInt x.Row),(UInt8.ofInt x.Col)]:List UInt8)).length) 1) (
   (eP x.Value (l++([(UInt8.ofInt x.Row),(UInt8.ofInt x.Col)]:List UInt8))).bind fun r_3=>
   some (.inl (r_3,(wrap .i64 (t7+1))))) none) (
   some (.inr (l,t7,decide (t7<t6))))
abbrev dF (l2:List UInt8) (c c2 c3:Int) (c4 c5 c6:List Entry) (l:List UInt8):List (Nat×Blk):=[(1000,⟨6,true,[[I c,I c2,I c3,sl eEntry c4,sl eEntry c5,sl eEntry c6]]⟩),(2000,⟨1,false,rws eU8 l⟩),(2011,⟨1,false,rws eU8 l2⟩)]
abbrev gp (l2:List UInt8) (t t2 t3:List Entry) (t4:Int) (t5:List Entry) (t6 c c2 c3:Int) (c4 c5 c6:List Entry) (s:(List UInt8)×Int):St:=⟨[(3,.sl 2000 0 s.1.length),(22,.agg [sl eEntry t,sl eEntry t2,sl eEntry t3]),(23,I t4),(30,sl eEntry t5),(31,I t6),(32,I s.2)],dF l2 c c2 c3 c4 c5 c6 s.1⟩
abbrev gx (l2:List UInt8) (t t2 t3:List Entry) (t4:Int) (t5:List Entry) (t6 c c2 c3:Int) (c4 c5 c6:List Entry):((List UInt8)×Int×Bool)→al×St:=fun e=>(.exit 2,⟨[(3,.sl 2000 0 e.1.length),(22,.agg [sl eEntry t,sl eEntry t2,sl eEntry t3]),(23,I t4),(30,sl eEntry t5),(31,I t6),(32,I e.2.1),(33,B e.2.2)],dF l2 c c2 c3 c4 c5 c6 e.1⟩)
theorem mg {l2 t t2 t3 t4 t5 t6 c c2 c3 c4 c5 c6 s e} (h:Loop (aY l2 t t2 t3 t4 t5 t6 c c2 c3 c4 c5 c6) s=some e):aX tab ow (.close [9002,10007,10008,10011]) bk (gp l2 t t2 t3 t4 t5 t6 c c2 c3 c4 c5 c6 s)=some (gx l2 t t2 t3 t4 t5 t6 c c2 c3 c4 c5 c6 e):=by
 refine lrG (fun s o h=> ?_) h
 obtain ⟨_,_⟩:=s
 simp only [aY] at h
 simp only [gp,gx,dF,bk,cw]
 have d1:= @g7
 exact go2
def cq (l4:List UInt8) (t8 t9 t10:List Entry) (t11:Int) (t12:List Entry) (t13 c7 c8 c9:Int) (c10 c11 c12:List Entry):(List UInt8)×Int→Option (((List UInt8)×Int)⊕(((List UInt8)×Int×Bool)))
 | (l3,t14)=>
   br (decide (t14<t13)) (
   (atL t12 t14).bind fun x2=>
   br (dC ((l3++([(UInt8.ofInt x2.Row),(UInt8.ofInt x2.Col)]:List UInt8)).length) 1) (
   (eP x2.Value (l3++([(UInt8.ofInt x2.Row),(UInt8.ofInt x2.Col)]:List UInt8))).bind fun r_5=>
   some (.inl (r_5,(wrap .i64 (t14+1))))) none) (
   some (.inr (l3,t14,decide (t14<t13))))
abbrev dO (l4:List UInt8) (c7 c8 c9:Int) (c10 c11 c12:List Entry) (l3:List UInt8):List (Nat×Blk):=[(1000,⟨6,true,[[I c7,I c8,I c9,sl eEntry c10,sl eEntry c11,sl eEntry c12]]⟩),(2000,⟨1,false,rws eU8 l3⟩),(2011,⟨1,false,rws eU8 l4⟩)]
abbrev gr (l4:List UInt8) (t8 t9 t10:List Entry) (t11:Int) (t12:List Entry) (t13 c7 c8 c9:Int) (c10 c11 c12:List Entry) (s:(List UInt8)×Int):St:=⟨[(3,.sl 2000 0 s.1.length),(22,.agg [sl eEntry t8,sl eEntry t9,sl eEntry t10]),(23,I t11),(30,sl eEntry t12),(31,I t13),(32,I s.2)],dO l4 c7 c8 c9 c10 c11 c12 s.1⟩
abbrev gt (l4:List UInt8) (t8 t9 t10:List Entry) (t11:Int) (t12:List Entry) (t13 c7 c8 c9:Int) (c10 c11 c12:List Entry):((List UInt8)×Int×Bool)→al×St:=fun e=>(.exit 2,⟨[(3,.sl 2000 0 e.1.length),(22,.agg [sl eEntry t8,sl eEntry t9,sl eEntry t10]),(23,I t11),(30,sl eEntry t12),(31,I t13),(32,I e.2.1),(33,B e.2.2)],dO l4 c7 c8 c9 c10 c11 c12 e.1⟩)
theorem mw {l4 t8 t9 t10 t11 t12 t13 c7 c8 c9 c10 c11 c12 s e} (h:Loop (cq l4 t8 t9 t10 t11 t12 t13 c7 c8 c9 c10 c11 c12) s=some e):aX tab ow (.close [9002,10007,10008,10011]) bk (gr l4 t8 t9 t10 t11 t12 t13 c7 c8 c9 c10 c11 c12 s)=some (gt l4 t8 t9 t10 t11 t12 t13 c7 c8 c9 c10 c11 c12 e):=by
 refine lrG (fun s o h=> ?_) h
 obtain ⟨_,_⟩:=s
 simp only [cq] at h
 simp only [gr,gt,dO,bk,cw]
 have d1:= @g7
 exact go2
def cr (l6:List UInt8) (t15 t16 t17:List Entry) (t18:Int) (t19:List Entry) (t20 c13 c14 c15:Int) (c16 c17 c18:List Entry):(List UInt8)×Int→Option (((List UInt8)×Int)⊕(((List UInt8)×Int×Bool)))
 | (l5,t21)=>
   br (decide (t21<t20)) (
   (atL t19 t21).bind fun x3=>
   br (dC ((l5++([(UInt8.ofInt x3.Row),(UInt8.ofInt x3.Col)]:List UInt8)).length) 1) (
   (eP x3.Value (l5++([(UInt8.ofInt x3.Row),(UInt8.ofInt x3.Col)]:List UInt8))).bind fun r_7=>
   some (.inl (r_7,(wrap .i64 (t21+1))))) none) (
   some (.inr (l5,t21,decide (t21<t20))))
abbrev dP (l6:List UInt8) (c13 c14 c15:Int) (c16 c17 c18:List Entry) (l5:List UInt8):List (Nat×Blk):=[(1000,⟨6,true,[[I c13,I c14,I c15,sl eEntry c16,sl eEntry c17,sl eEntry c18]]⟩),(2000,⟨1,false,rws eU8 l5⟩),(2011,⟨1,false,rws eU8 l6⟩)]
abbrev gy (l6:List UInt8) (t15 t16 t17:List Entry) (t18:Int) (t19:List Entry) (t20 c13 c14 c15:Int) (c16 c17 c18:List Entry) (s:(List UInt8)×Int):St:=⟨[(3,.sl 2000 0 s.1.length),(22,.agg [sl eEntry t15,sl eEntry t16,sl eEntry t17]),(23,I t18),(30,sl eEntry t19),(31,I t20),(32,I s.2)],dP l6 c13 c14 c15 c16 c17 c18 s.1⟩
abbrev gw (l6:List UInt8) (t15 t16 t17:List Entry) (t18:Int) (t19:List Entry) (t20 c13 c14 c15:Int) (c16 c17 c18:List Entry):((List UInt8)×Int×Bool)→al×St:=fun e=>(.exit 2,⟨[(3,.sl 2000 0 e.1.length),(22,.agg [sl eEntry t15,sl eEntry t16,sl eEntry t17]),(23,I t18),(30,sl eEntry t19),(31,I t20),(32,I e.2.1),(33,B e.2.2)],dP l6 c13 c14 c15 c16 c17 c18 e.1⟩)
theorem mj {l6 t15 t16 t17 t18 t19 t20 c13 c14 c15 c16 c17 c18 s e} (h:Loop (cr l6 t15 t16 t17 t18 t19 t20 c13 c14 c15 c16 c17 c18) s=some e):aX tab ow (.close [9002,10007,10008,10011]) bk (gy l6 t15 t16 t17 t18 t19 t20 c13 c14 c15 c16 c17 c18 s)=some (gw l6 t15 t16 t17 t18 t19 t20 c13 c14 c15 c16 c17 c18 e):=by
 refine lrG (fun s o h=> ?_) h
 obtain ⟨_,_⟩:=s
 simp only [cr] at h
 simp only [gy,gw,dP,bk,cw]
 have d1:= @g7
 exact go2
def cG (s:System):Option ((List UInt8)):=
 br (dC ((([(115:UInt8),(121:UInt8),(115:UInt8),(116:UInt8),(101:UInt8),(109:UInt8)]:List UInt8)++([(UInt8.ofInt s.Rows),(UInt8.ofInt s.Cols),(UInt8.ofInt s.Publics)]:List UInt8)).length) 1) (
 (cu s).bind fun r_=>
 (eP ((r_.1.length:Nat):Int) (([(115:UInt8),(121:UInt8),(115:UInt8),(116:UInt8),(101:UInt8),(109:UInt8)]:List UInt8)++([(UInt8.ofInt s.Rows),(UInt8.ofInt s.Cols),(UInt8.ofInt s.Publics)]:List UInt8))).bind fun r_2=>
 (Loop (aY ([(UInt8.ofInt s.Rows),(UInt8.ofInt s.Cols),(UInt8.ofInt s.Publics)]:List UInt8) r_.1 r_.2.1 r_.2.2 0 r_.1 ((r_.1.length:Nat):Int) s.Rows s.Cols s.Publics s.A s.B s.C) (r_2,0)).bind fun e_=>
 (eP ((r_.2.1.length:Nat):Int) e_.1).bind fun r_4=>
 (Loop (cq ([(UInt8.ofInt s.Rows),(UInt8.ofInt s.Cols),(UInt8.ofInt s.Publics)]:List UInt8) r_.1 r_.2.1 r_.2.2 1 r_.2.1 ((r_.2.1.length:Nat):Int) s.Rows s.Cols s.Publics s.A s.B s.C) (r_4,0)).bind fun e_2=>
 (eP ((r_.2.2.length:Nat):Int) e_2.1).bind fun r_6=>
 (Loop (cr ([(UInt8.ofInt s.Rows),(UInt8.ofInt s.Cols),(UInt8.ofInt s.Publics)]:List UInt8) r_.1 r_.2.1 r_.2.2 2 r_.2.2 ((r_.2.2.length:Nat):Int) s.Rows s.Cols s.Publics s.A s.B s.C) (r_6,0)).bind fun e_3=>
 some e_3.1) none
theorem oy {s r} (h:cG s=some r):Call tab ow 176 [.agg [I s.Rows,I s.Cols,I s.Publics,sl eEntry s.A,sl eEntry s.B,sl eEntry s.C]] []=some (sl eU8 r,[]):=by
 rw [ab (af:=di) rfl]
 unfold cG at h
 simp+decide only [di,dh,go_sem,reduceIte,Nat.reduceAdd,Int.reduceAdd,Int.reduceMul,Int.reduceSub]
 obtain ⟨hb,h⟩:=brg h
 refine tS hb ?_
 obtain ⟨r_,h1,h⟩:=bd h
 refine mL (jC h1) ?_
 simp+decide only [go_sem,reduceIte,Nat.reduceAdd,Int.reduceAdd,Int.reduceMul,Int.reduceSub]
 refine gB ?_
 simp+decide only [mkL,go_sem,reduceIte,Nat.reduceAdd,Int.reduceAdd,Int.reduceMul,Int.reduceSub]
 obtain ⟨r_2,h1,h⟩:=bd h
 refine mL (g7 h1) ?_
 simp+decide only [go_sem,reduceIte,Nat.reduceAdd,Int.reduceAdd,Int.reduceMul,Int.reduceSub]
 obtain ⟨e_,h1,h⟩:=bd h
 refine AH (mg h1) ?_
 simp+decide only [go_sem,reduceIte,Nat.reduceAdd,Int.reduceAdd,Int.reduceMul,Int.reduceSub]
 refine gB ?_
 simp+decide only [mkL,go_sem,reduceIte,Nat.reduceAdd,Int.reduceAdd,Int.reduceMul,Int.reduceSub]
 obtain ⟨r_4,h1,h⟩:=bd h
 refine mL (g7 h1) ?_
 simp+decide only [go_sem,reduceIte,Nat.reduceAdd,Int.reduceAdd,Int.reduceMul,Int.reduceSub]
 obtain ⟨e_2,h1,h⟩:=bd h
 refine AH (mw h1) ?_
 simp+decide only [go_sem,reduceIte,Nat.reduceAdd,Int.reduceAdd,Int.reduceMul,Int.reduceSub]
 refine gB ?_
 simp+decide only [mkL,go_sem,reduceIte,Nat.reduceAdd,Int.reduceAdd,Int.reduceMul,Int.reduceSub]
 obtain ⟨r_6,h1,h⟩:=bd h
 refine mL (g7 h1) ?_
 simp+decide only [go_sem,reduceIte,Nat.reduceAdd,Int.reduceAdd,Int.reduceMul,Int.reduceSub]
 obtain ⟨e_3,h1,h⟩:=bd h
 refine AH (mj h1) ?_
 simp+decide only [go_sem,reduceIte,Nat.reduceAdd,Int.reduceAdd,Int.reduceMul,Int.reduceSub]
 refine gB ?_
 simp+decide only [mkL,go_sem,reduceIte,Nat.reduceAdd,Int.reduceAdd,Int.reduceMul,Int.reduceSub]
 obtain rfl:=Option.some.inj h
 first|rfl| (simp only [List.length_set,go_sem];done)
end
def ew (m:List Int) (t:List UInt8) (t2:Int):(List Int)×Int→Option (((List Int)×Int)⊕(((List Int)×Int×Bool)))
 | (m2,t3)=>
   br (decide (t3<t2)) (
   (atL t t3).bind fun x=>
   br (decide (0≤(wrap .i64 (t3.tdiv 8)))&&decide ((wrap .i64 (t3.tdiv 8)).toNat<25)) (
   (m2[(wrap .i64 (t3.tdiv 8)).toNat]?).bind fun x2=>
   br (decide (0≤(wrap .i64 (8*(t3.tmod 8))))) (
   br (decide (0≤(wrap .i64 (t3.tdiv 8)))&&decide ((wrap .i64 (t3.tdiv 8)).toNat<25)) (
   br (decide ((wrap .i64 (t3.tdiv 8)).toNat<m2.length)) (
   some (.inl ((m2.set ((wrap .i64 (t3.tdiv 8)).toNat) (ov .u64 x2 (bf .u64 (wrap .u64 (x.toNat:Int)) (wrap .i64 (8*(t3.tmod 8)))))),(wrap .i64 (t3+1))))) none) none) none) none) (
   some (.inr (m2,t3,decide (t3<t2))))
abbrev lM (m m2:List Int):List (Nat×Blk):=[(1000,⟨25,true,[ar .u64 m]⟩),(2001,⟨25,true,[ar .u64 m2]⟩)]
abbrev rH (m:List Int) (t:List UInt8) (t2:Int) (s:(List Int)×Int):St:=⟨[(2,.ptr 1000 0 0 1),(3,.ptr 2001 0 0 1),(7,sl eU8 t),(8,I t2),(9,I s.2)],lM m s.1⟩
abbrev rd (m:List Int) (t:List UInt8) (t2:Int):((List Int)×Int×Bool)→al×St:=fun e=>(.exit 0,⟨[(2,.ptr 1000 0 0 1),(3,.ptr 2001 0 0 1),(7,sl eU8 t),(8,I t2),(9,I e.2.1),(10,B e.2.2)],lM m e.1⟩)
theorem z6 {m t t2 s e} (h:Loop (ew m t t2) s=some e):aX tab ow (.close []) lD (rH m t t2 s)=some (rd m t t2 e):=by
 refine lrG (fun s o h=> ?_) h
 obtain ⟨_,_⟩:=s
 simp only [ew] at h
 simp only [rH,rd,lM,lD]
 exact go2
def mp (state:(List UInt8)):Option ((List Int)):=
 (Loop (ew (nZ 25) state ((state.length:Nat):Int)) ((nZ 25),0)).bind fun e_=>
 br (decide (e_.1.length=25)) (
 br (decide (e_.1.length=25)) (
 br (decide (e_.1.length=25)) (
 some e_.1) none) none) none
theorem DI {state r} (h:mp state=some r):Call tab ow 204 [sl eU8 state] []=some (.agg (ar .u64 r),[]):=by
 rw [ab (af:=ld) rfl]
 unfold mp at h
 simp only [ld,uO]
 have d1:= @z6
 exact go2
def bu (x k:Int):Option (Int):=
 br (decide (0≤(aK .u64 (wrap .u64 k) 63))) (
 br (decide (0≤(wrap .u64 (64-(aK .u64 (wrap .u64 k) 63))))) (
 some (ov .u64 (bf .u64 x (aK .u64 (wrap .u64 k) 63)) (bD .u64 x (wrap .u64 (64-(aK .u64 (wrap .u64 k) 63)))))) none) none
theorem lL {x k r} (h:bu x k=some r):Call tab ow 220 [.lit (.int .u64 x),I k] []=some (.lit (.int .u64 r),[]):=by
 rw [ab (af:=co) rfl]
 unfold bu at h
 simp only [co,fR]
 exact go2
def bW (m5 m6 m7 m9:List Int) (t3:Int) (t4:List Int) (t5:Int):(List Int)×Int→Option (((List Int)×Int)⊕(((List Int)×Int×Bool)))
 | (m8,t6)=>
   br (decide (t6<25)) (
   br (decide (0≤t6)&&decide (t6.toNat<25)) (
   (m5[t6.toNat]?).bind fun x2=>
   br (decide (0≤(t6.tmod 5))&&decide ((t6.tmod 5).toNat<5)) (
   (m8[(t6.tmod 5).toNat]?).bind fun x3=>
   br (decide (0≤(t6.tmod 5))&&decide ((t6.tmod 5).toNat<5)) (
   br (decide ((t6.tmod 5).toNat<m8.length)) (
   some (.inl ((m8.set ((t6.tmod 5).toNat) (eJ .u64 x3 x2)),(wrap .i64 (t6+1))))) none) none) none) none) (
   some (.inr (m8,t6,decide (t6<25))))
abbrev ft (m5 m6 m7 m9 m8:List Int):List (Nat×Blk):=[(0,⟨25,true,[ar .u64 m5]⟩),(1001,⟨25,true,[ar .i64 m6]⟩),(2001,⟨24,true,[ar .u64 m7]⟩),(6002,⟨5,true,[ar .u64 m8]⟩),(6003,⟨25,true,[ar .u64 m9]⟩)]
abbrev jv (m5 m6 m7 m9:List Int) (t3:Int) (t4:List Int) (t5:Int) (s:(List Int)×Int):St:=⟨[(0,.ptr 0 0 0 1),(2,.ptr 1001 0 0 1),(5,.lit (.int .u64 t3)),(6,.ptr 6002 0 0 1),(7,.ptr 6003 0 0 1),(20,.agg (ar .u64 t4)),(21,I t5),(26,.ptr 0 0 0 1),(27,I s.2)],ft m5 m6 m7 m9 s.1⟩
abbrev jw (m5 m6 m7 m9:List Int) (t3:Int) (t4:List Int) (t5:Int):((List Int)×Int×Bool)→al×St:=fun e=>(.exit 2,⟨[(0,.ptr 0 0 0 1),(2,.ptr 1001 0 0 1),(5,.lit (.int .u64 t3)),(6,.ptr 6002 0 0 1),(7,.ptr 6003 0 0 1),(20,.agg (ar .u64 t4)),(21,I t5),(26,.ptr 0 0 0 1),(27,I e.2.1),(28,B e.2.2)],ft m5 m6 m7 m9 e.1⟩)
theorem qC {m5 m6 m7 m9 t3 t4 t5 s e} (h:Loop (bW m5 m6 m7 m9 t3 t4 t5) s=some e):aX tab ow (.close []) fD (jv m5 m6 m7 m9 t3 t4 t5 s)=some (jw m5 m6 m7 m9 t3 t4 t5 e):=by
 refine lrG (fun s o h=> ?_) h
 obtain ⟨_,_⟩:=s
 simp only [bW] at h
 simp only [jv,jw,ft,fD]
 exact go2
def bV (m10 m11 m12 m13:List Int) (t7:Int) (t8:List Int) (t9:Int):(List Int)×Int→Option (((List Int)×Int)⊕(((List Int)×Int×Bool)))
 | (m14,t10)=>
   br (decide (t10<25)) (
   br (decide (0≤t10)&&decide (t10.toNat<25)) (
   (m10[t10.toNat]?).bind fun x4=>
   br (decide (0≤((wrap .i64 ((t10.tmod 5)+4)).tmod 5))&&decide (((wrap .i64 ((t10.tmod 5)+4)).tmod 5).toNat<5)) (
   (m13[((wrap .i64 ((t10.tmod 5)+4)).tmod 5).toNat]?).bind fun x5=>
   br (decide (0≤((wrap .i64 ((t10.tmod 5)+1)).tmod 5))&&decide (((wrap .i64 ((t10.tmod 5)+1)).tmod 5).toNat<5)) (
   (m13[((wrap .i64 ((t10.tmod 5)+1)).tmod 5).toNat]?).bind fun x6=>
   (bu x6 1).bind fun r_=>
   br (decide (0≤t10)&&decide (t10.toNat<25)) (
   (m11[t10.toNat]?).bind fun x7=>
   (bu (eJ .u64 x4 (eJ .u64 x5 r_)) x7).bind fun r_2=>
   br (decide (0≤(wrap .i64 ((wrap .i64 (t10.tdiv 5))+(wrap .i64 (5*((wrap .i64 ((wrap .i64 (2*(t10.tmod 5)))+(wrap .i64 (3*(wrap .i64 (t10.tdiv 5)))))).tmod 5))))))&&decide ((wrap .i64 ((wrap .i64 (t10.tdiv 5))+(wrap .i64 (5*((wrap .i64 ((wrap .i64 (2*(t10.tmod 5)))+(wrap .i64 (3*(wrap .i64 (t10.tdiv 5)))))).tmod 5))))).toNat<25)) (
   br (decide ((wrap .i64 ((wrap .i64 (t10.tdiv 5))+(wrap .i64 (5*((wrap .i64 ((wrap .i64 (2*(t10.tmod 5)))+(wrap .i64 (3*(wrap .i64 (t10.tdiv 5)))))).tmod 5))))).toNat<m14.length)) (
   some (.inl ((m14.set ((wrap .i64 ((wrap .i64 (t10.tdiv 5))+(wrap .i64 (5*((wrap .i64 ((wrap .i64 (2*(t10.tmod 5)))+(wrap .i64 (3*(wrap .i64 (t10.tdiv 5)))))).tmod 5))))).toNat) r_2),(wrap .i64 (t10+1))))) none) none) none) none) none) none) (
   some (.inr (m14,t10,decide (t10<25))))
abbrev fu (m10 m11 m12 m13 m14:List Int):List (Nat×Blk):=[(0,⟨25,true,[ar .u64 m10]⟩),(1001,⟨25,true,[ar .i64 m11]⟩),(2001,⟨24,true,[ar .u64 m12]⟩),(6002,⟨5,true,[ar .u64 m13]⟩),(6003,⟨25,true,[ar .u64 m14]⟩)]
abbrev jx (m10 m11 m12 m13:List Int) (t7:Int) (t8:List Int) (t9:Int) (s:(List Int)×Int):St:=⟨[(0,.ptr 0 0 0 1),(2,.ptr 1001 0 0 1),(5,.lit (.int .u64 t7)),(6,.ptr 6002 0 0 1),(7,.ptr 6003 0 0 1),(20,.agg (ar .u64 t8)),(21,I t9),(41,.ptr 0 0 0 1),(42,I s.2)],fu m10 m11 m12 m13 s.1⟩
abbrev ju (m10 m11 m12 m13:List Int) (t7:Int) (t8:List Int) (t9:Int):((List Int)×Int×Bool)→al×St:=fun e=>(.exit 4,⟨[(0,.ptr 0 0 0 1),(2,.ptr 1001 0 0 1),(5,.lit (.int .u64 t7)),(6,.ptr 6002 0 0 1),(7,.ptr 6003 0 0 1),(20,.agg (ar .u64 t8)),(21,I t9),(41,.ptr 0 0 0 1),(42,I e.2.1),(43,B e.2.2)],fu m10 m11 m12 m13 e.1⟩)
theorem qw {m10 m11 m12 m13 t7 t8 t9 s e} (h:Loop (bV m10 m11 m12 m13 t7 t8 t9) s=some e):aX tab ow (.close [16011,17013]) fb (jx m10 m11 m12 m13 t7 t8 t9 s)=some (ju m10 m11 m12 m13 t7 t8 t9 e):=by
 refine lrG (fun s o h=> ?_) h
 obtain ⟨_,_⟩:=s
 simp only [bV] at h
 simp only [jx,ju,fu,fb]
 have d1:= @lL
 exact go2
def bY (m16 m17 m18 m19:List Int) (t11:Int) (t12:List Int) (t13:Int) (t14:List Int):(List Int)×Int→Option (((List Int)×Int)⊕(((List Int)×Int×Bool)))
 | (m15,t15)=>
   br (decide (t15<25)) (
   br (decide (0≤t15)&&decide (t15.toNat<25)) (
   (t14[t15.toNat]?).bind fun x8=>
   br (decide (0≤(wrap .i64 ((wrap .i64 (t15-(t15.tmod 5)))+((wrap .i64 ((t15.tmod 5)+2)).tmod 5))))&&decide ((wrap .i64 ((wrap .i64 (t15-(t15.tmod 5)))+((wrap .i64 ((t15.tmod 5)+2)).tmod 5))).toNat<25)) (
   (m19[(wrap .i64 ((wrap .i64 (t15-(t15.tmod 5)))+((wrap .i64 ((t15.tmod 5)+2)).tmod 5))).toNat]?).bind fun x9=>
   br (decide (0≤(wrap .i64 ((wrap .i64 (t15-(t15.tmod 5)))+((wrap .i64 ((t15.tmod 5)+1)).tmod 5))))&&decide ((wrap .i64 ((wrap .i64 (t15-(t15.tmod 5)))+((wrap .i64 ((t15.tmod 5)+1)).tmod 5))).toNat<25)) (
   (m19[(wrap .i64 ((wrap .i64 (t15-(t15.tmod 5)))+((wrap .i64 ((t15.tmod 5)+1)).tmod 5))).toNat]?).bind fun x10=>
   br (decide (0≤t15)&&decide (t15.toNat<25)) (
   br (decide (t15.toNat<m15.length)) (
   some (.inl ((m15.set t15.toNat (eJ .u64 x8 (xS .u64 x9 x10))),(wrap .i64 (t15+1))))) none) none) none) none) none) (
   some (.inr (m15,t15,decide (t15<25))))
abbrev fx (m16 m17 m18 m19 m15:List Int):List (Nat×Blk):=[(0,⟨25,true,[ar .u64 m15]⟩),(1001,⟨25,true,[ar .i64 m16]⟩),(2001,⟨24,true,[ar .u64 m17]⟩),(6002,⟨5,true,[ar .u64 m18]⟩),(6003,⟨25,true,[ar .u64 m19]⟩)]
abbrev jt (m16 m17 m18 m19:List Int) (t11:Int) (t12:List Int) (t13:Int) (t14:List Int) (s:(List Int)×Int):St:=⟨[(0,.ptr 0 0 0 1),(2,.ptr 1001 0 0 1),(5,.lit (.int .u64 t11)),(7,.ptr 6003 0 0 1),(20,.agg (ar .u64 t12)),(21,I t13),(82,.agg (ar .u64 t14)),(83,I s.2)],fx m16 m17 m18 m19 s.1⟩
abbrev jy (m16 m17 m18 m19:List Int) (t11:Int) (t12:List Int) (t13:Int) (t14:List Int):((List Int)×Int×Bool)→al×St:=fun e=>(.exit 6,⟨[(0,.ptr 0 0 0 1),(2,.ptr 1001 0 0 1),(5,.lit (.int .u64 t11)),(7,.ptr 6003 0 0 1),(20,.agg (ar .u64 t12)),(21,I t13),(82,.agg (ar .u64 t14)),(83,I e.2.1),(84,B e.2.2)],fx m16 m17 m18 m19 e.1⟩)
theorem qH {m16 m17 m18 m19 t11 t12 t13 t14 s e} (h:Loop (bY m16 m17 m18 m19 t11 t12 t13 t14) s=some e):aX tab ow (.close []) eW (jt m16 m17 m18 m19 t11 t12 t13 t14 s)=some (jy m16 m17 m18 m19 t11 t12 t13 t14 e):=by
 refine lrG (fun s o h=> ?_) h
 obtain ⟨_,_⟩:=s
 simp only [bY] at h
 simp only [jt,jy,fx,eW]
 exact go2
def bX (m3 m4 t:List Int):(List Int)×Int→Option (((List Int)×Int)⊕(((List Int)×Int×Bool)))
 | (m2,t2)=>
   br (decide (t2<24)) (
   br (decide (0≤t2)&&decide (t2.toNat<24)) (
   (t[t2.toNat]?).bind fun x=>
   (Loop (bW m2 m3 m4 (nZ 25) x t t2) ((nZ 5),0)).bind fun e_=>
   (Loop (bV m2 m3 m4 e_.1 x t t2) ((nZ 25),0)).bind fun e_2=>
   br (decide (e_2.1.length=25)) (
   (Loop (bY m3 m4 e_.1 e_2.1 x t t2 e_2.1) (m2,0)).bind fun e_3=>
   (e_3.1[0]?).bind fun x11=>
   br (decide (0<e_3.1.length)) (
   some (.inl ((e_3.1.set 0 (eJ .u64 x11 x)),(wrap .i64 (t2+1))))) none) none) none) (
   some (.inr (m2,t2,decide (t2<24))))
abbrev fB (m3 m4 m2:List Int):List (Nat×Blk):=[(0,⟨25,true,[ar .u64 m2]⟩),(1001,⟨25,true,[ar .i64 m3]⟩),(2001,⟨24,true,[ar .u64 m4]⟩)]
abbrev jA (m3 m4 t:List Int) (s:(List Int)×Int):St:=⟨[(0,.ptr 0 0 0 1),(2,.ptr 1001 0 0 1),(20,.agg (ar .u64 t)),(21,I s.2)],fB m3 m4 s.1⟩
abbrev jB (m3 m4 t:List Int):((List Int)×Int×Bool)→al×St:=fun e=>(.exit 0,⟨[(0,.ptr 0 0 0 1),(2,.ptr 1001 0 0 1),(20,.agg (ar .u64 t)),(21,I e.2.1),(22,B e.2.2)],fB m3 m4 e.1⟩)
theorem qy {m3 m4 t s e} (h:Loop (bX m3 m4 t) s=some e):aX tab ow (.close [6002,6003,16011,17013]) fF (jA m3 m4 t s)=some (jB m3 m4 t e):=by
 refine lrG (fun s o h=> ?_) h
 obtain ⟨_,_⟩:=s
 simp only [bX] at h
 simp only [jA,jB,fB,fF]
 have d1:= @qC
 have d2:= @qw
 have d3:= @qH
 exact go2
def ep (m:List Int):Option ((List Int)):=
 (Loop (bX ([0,1,62,28,27,36,44,6,55,20,3,10,43,25,39,41,45,15,21,8,18,2,61,56,14]:List Int) ([1,32898,9223372036854808714,9223372039002292224,32907,2147483649,9223372039002292353,9223372036854808585,138,136,2147516425,2147483658,2147516555,9223372036854775947,9223372036854808713,9223372036854808579,9223372036854808578,9223372036854775936,32778,9223372039002259466,9223372039002292353,9223372036854808704,2147483649,9223372039002292232]:List Int) ([1,32898,9223372036854808714,9223372039002292224,32907,2147483649,9223372039002292353,9223372036854808585,138,136,2147516425,2147483658,2147516555,9223372036854775947,9223372036854808713,9223372036854808579,9223372036854808578,9223372036854775936,32778,9223372039002259466,9223372039002292353,9223372036854808704,2147483649,9223372039002292232]:List Int)) (m,0)).bind fun e_4=>
 some e_4.1
theorem to {m r} (h:ep m=some r):Call tab ow 205 [.ptr 0 0 0 1] [⟨25,true,[ar .u64 m]⟩]=some (.tup [],[⟨25,true,[ar .u64 r]⟩]):=by
 rw [ab (af:=eO) rfl]
 unfold ep at h
 simp only [eO,lb]
 have d1:= @qy
 exact go2
section
theorem vn:mkR 2000 []=rws eU8 []:=rfl
attribute [local go_sem] vn
theorem uX:mkR 6012 []=rws eU8 []:=rfl
attribute [local go_sem] uX
def cL (m2:List Int):(List UInt8)×Int→Option (((List UInt8)×Int)⊕(((List UInt8)×Int×Bool)))
 | (l,t)=>
   br (decide (t<200)) (
   br (decide (0≤(wrap .i64 (t.tdiv 8)))&&decide ((wrap .i64 (t.tdiv 8)).toNat<25)) (
   (m2[(wrap .i64 (t.tdiv 8)).toNat]?).bind fun x=>
   br (decide (0≤(wrap .i64 (8*(t.tmod 8))))) (
   br (dC ((l++([(UInt8.ofInt (bD .u64 x (wrap .i64 (8*(t.tmod 8)))))]:List UInt8)).length) 1) (
   some (.inl ((l++([(UInt8.ofInt (bD .u64 x (wrap .i64 (8*(t.tmod 8)))))]:List UInt8)),(wrap .i64 (t+1))))) none) none) none) (
   some (.inr (l,t,decide (t<200))))
abbrev ig (m2:List Int) (l:List UInt8):List (Nat×Blk):=[(0,⟨25,true,[ar .u64 m2]⟩),(2000,⟨1,false,rws eU8 l⟩)]
abbrev lY (m2:List Int) (s:(List UInt8)×Int):St:=⟨[(0,.ptr 0 0 0 1),(3,.sl 2000 0 s.1.length),(6,I s.2)],ig m2 s.1⟩
abbrev mQ (m2:List Int):((List UInt8)×Int×Bool)→al×St:=fun e=>(.exit 0,⟨[(0,.ptr 0 0 0 1),(3,.sl 2000 0 e.1.length),(6,I e.2.1),(7,B e.2.2)],ig m2 e.1⟩)
theorem u3 {m2 s e} (h:Loop (cL m2) s=some e):aX tab ow (.close [6012,6013]) lV (lY m2 s)=some (mQ m2 e):=by
 refine lrG (fun s o h=> ?_) h
 obtain ⟨_,_⟩:=s
 simp only [cL] at h
 simp only [lY,mQ,ig,lV,m0]
 exact go2
def gR (m:List Int):Option ((List UInt8)×(List Int)):=
 (Loop (cL m) (([]:List UInt8),0)).bind fun e_=>
 some (e_.1,m)
theorem wv {m r} (h:gR m=some r):Call tab ow 206 [.ptr 0 0 0 1] [⟨25,true,[ar .u64 m]⟩]=some (sl eU8 r.1,[⟨25,true,[ar .u64 r.2]⟩]):=by
 rw [ab (af:=gI) rfl]
 unfold gR at h
 simp only [gI,kx]
 have d1:= @u3
 exact go2
end
section
theorem Ce:mkR 2000 []=rws eU8 []:=rfl
attribute [local go_sem] Ce
theorem CU:mkR 8001 []=rws eU8 []:=rfl
attribute [local go_sem] CU
theorem Dl:mkR 10001 []=rws eU8 []:=rfl
attribute [local go_sem] Dl
def ff (t:List (List UInt8)) (t2:Int):(List UInt8)×Int→Option (((List UInt8)×Int)⊕(((List UInt8)×Int×Bool)))
 | (l,t3)=>
   br (decide (t3<t2)) (
   (atL t t3).bind fun x=>
   br (dC ((l++x).length) 1) (
   some (.inl ((l++x),(wrap .i64 (t3+1))))) none) (
   some (.inr (l,t3,decide (t3<t2))))
abbrev t1 (t:List (List UInt8)) (t2:Int) (s:(List UInt8)×Int):St:=⟨[(3,.sl 2000 0 s.1.length),(10,sl (eL eU8) t),(11,I t2),(12,I s.2)],[(2000,⟨1,false,rws eU8 s.1⟩)]⟩
abbrev tg (t:List (List UInt8)) (t2:Int):((List UInt8)×Int×Bool)→al×St:=fun e=>(.exit 0,⟨[(3,.sl 2000 0 e.1.length),(10,sl (eL eU8) t),(11,I t2),(12,I e.2.1),(13,B e.2.2)],[(2000,⟨1,false,rws eU8 e.1⟩)]⟩)
theorem BE {t t2 s e} (h:Loop (ff t t2) s=some e):aX tab ow (.close [6002]) mV (t1 t t2 s)=some (tg t t2 e):=by
 refine lrG (fun s o h=> ?_) h
 obtain ⟨_,_⟩:=s
 simp only [ff] at h
 simp only [t1,tg,mV]
 exact go2
def ee (l3:List UInt8):(List UInt8)→Option (((List UInt8))⊕(((List UInt8)×Bool)))
 |l2=>
  br ((((l2.length:Nat):Int).tmod 136) !=0) (
  br (dC ((l2++([(0:UInt8)]:List UInt8)).length) 1) (
  some (.inl (l2++([(0:UInt8)]:List UInt8)))) none) (
  some (.inr (l2,((((l2.length:Nat):Int).tmod 136) !=0))))
abbrev np (l3 l2:List UInt8):List (Nat×Blk):=[(2000,⟨1,false,rws eU8 l2⟩),(8001,⟨1,false,rws eU8 l3⟩)]
abbrev tk (l3:List UInt8) (s:(List UInt8)):St:=⟨[(3,.sl 2000 0 s.length)],np l3 s⟩
abbrev tf (l3:List UInt8):((List UInt8)×Bool)→al×St:=fun e=>(.exit 2,⟨[(3,.sl 2000 0 e.1.length),(26,B e.2)],np l3 e.1⟩)
theorem Bd {l3 s e} (h:Loop (ee l3) s=some e):aX tab ow (.close [10001,10002]) mT (tk l3 s)=some (tf l3 e):=by
 refine lrG (fun s o h=> ?_) h
 simp only [ee] at h
 simp only [tk,tf,np,mT]
 exact go2
def fj (l5 all2:List UInt8) (t4:List Int):(List Int)×Int→Option (((List Int)×Int)⊕(((List Int)×Int×Bool)))
 | (m2,t5)=>
   br (decide (t5<25)) (
   br (decide (0≤t5)&&decide (t5.toNat<25)) (
   (t4[t5.toNat]?).bind fun x4=>
   br (decide (0≤t5)&&decide (t5.toNat<25)) (
   (m2[t5.toNat]?).bind fun x5=>
   br (decide (0≤t5)&&decide (t5.toNat<25)) (
   br (decide (t5.toNat<m2.length)) (
   some (.inl ((m2.set t5.toNat (eJ .u64 x5 x4)),(wrap .i64 (t5+1))))) none) none) none) none) (
   some (.inr (m2,t5,decide (t5<25))))
abbrev nG (l5:List UInt8) (m2:List Int):List (Nat×Blk):=[(8001,⟨1,false,rws eU8 l5⟩),(12001,⟨25,true,[ar .u64 m2]⟩)]
abbrev si (l5 all2:List UInt8) (t4:List Int) (s:(List Int)×Int):St:=⟨[(3,sl eU8 all2),(6,.ptr 12001 0 0 1),(46,.agg (ar .u64 t4)),(47,I s.2)],nG l5 s.1⟩
abbrev tE (l5 all2:List UInt8) (t4:List Int):((List Int)×Int×Bool)→al×St:=fun e=>(.exit 6,⟨[(3,sl eU8 all2),(6,.ptr 12001 0 0 1),(46,.agg (ar .u64 t4)),(47,I e.2.1),(48,B e.2.2)],nG l5 e.1⟩)
theorem A6 {l5 all2 t4 s e} (h:Loop (fj l5 all2 t4) s=some e):aX tab ow (.close []) lI (si l5 all2 t4 s)=some (tE l5 all2 t4 e):=by
 refine lrG (fun s o h=> ?_) h
 obtain ⟨_,_⟩:=s
 simp only [fj] at h
 simp only [si,tE,nG,lI]
 exact go2
def fm (l4:List UInt8):(List Int)×(List UInt8)→Option (((List Int)×(List UInt8))⊕(((List Int)×(List UInt8)×Bool)))
 | (m,all)=>
   br (decide (((all.length:Nat):Int)>0)) (
   (ox all 0 136).bind fun y=>
   (mp y).bind fun r_=>
   (Loop (fj l4 all r_) (m,0)).bind fun e_3=>
   (ep e_3.1).bind fun r_2=>
   (ox all 136 ((all.length:Nat):Int)).bind fun y2=>
   some (.inl (r_2,y2))) (
   some (.inr (m,all,decide (((all.length:Nat):Int)>0))))
abbrev km (l4:List UInt8) (m:List Int):List (Nat×Blk):=[(8001,⟨1,false,rws eU8 l4⟩),(12001,⟨25,true,[ar .u64 m]⟩)]
abbrev mX (l4:List UInt8) (s:(List Int)×(List UInt8)):St:=⟨[(3,sl eU8 s.2),(6,.ptr 12001 0 0 1)],km l4 s.1⟩
abbrev sX (l4:List UInt8):((List Int)×(List UInt8)×Bool)→al×St:=fun e=>(.exit 4,⟨[(3,sl eU8 e.2.1),(6,.ptr 12001 0 0 1),(41,B e.2.2)],km l4 e.1⟩)
theorem B0 {l4 s e} (h:Loop (fm l4) s=some e):aX tab ow (.close [15002,20000,2000]) lG (mX l4 s)=some (sX l4 e):=by
 refine lrG (fun s o h=> ?_) h
 obtain ⟨_,_⟩:=s
 simp only [fm] at h
 simp only [mX,sX,km,lG]
 have d1:= @DI
 have d2:= @A6
 have d3:= @to
 exact go2
def mi (pieces:(List (List UInt8))):Option ((List UInt8)):=
 (Loop (ff pieces ((pieces.length:Nat):Int)) (([]:List UInt8),0)).bind fun e_=>
 br (dC ((e_.1++([(1:UInt8)]:List UInt8)).length) 1) (
 (Loop (ee ([(1:UInt8)]:List UInt8)) (e_.1++([(1:UInt8)]:List UInt8))).bind fun e_2=>
 br (decide (0≤(wrap .i64 (((e_2.1.length:Nat):Int)-1)))) (
 br (decide ((wrap .i64 (((e_2.1.length:Nat):Int)-1)).toNat<e_2.1.length)) (
 (e_2.1[(wrap .i64 (((e_2.1.length:Nat):Int)-1)).toNat]?).bind fun x2=>
 br (decide (0≤(wrap .i64 (((e_2.1.length:Nat):Int)-1)))) (
 br (decide ((wrap .i64 (((e_2.1.length:Nat):Int)-1)).toNat<e_2.1.length)) (
 (e_2.1[(wrap .i64 (((e_2.1.length:Nat):Int)-1)).toNat]?).bind fun x3=>
 (Loop (fm ([(1:UInt8)]:List UInt8)) ((nZ 25),(e_2.1.set ((wrap .i64 (((e_2.1.length:Nat):Int)-1)).toNat) (UInt8.ofInt (ov .u8 (x2.toNat:Int) 128))))).bind fun e_4=>
 (gR e_4.1).bind fun r_3=>
 (ox r_3.1 0 32).bind fun y3=>
 some y3) none) none) none) none) none
theorem xV {pieces r} (h:mi pieces=some r):Call tab ow 175 [sl (eL eU8) pieces] []=some (S r,[]):=by
 rw [ab (af:=mZ) rfl]
 unfold mi at h
 simp only [mZ,we]
 have d1:= @BE
 have d2:= @Bd
 have d3:= @B0
 simp only [mX,km] at d3
 have d4:= @wv
 exact go2
end
section
theorem wX:mkR 2002 []=rws (eL eU8) []:=rfl
attribute [local go_sem] wX
theorem wQ:mkR 2014 []=rws eU8 []:=rfl
attribute [local go_sem] wQ
def cB (l:List (List UInt8)) (l3:List UInt8) (t2:List Int) (t3 c c2 c3:Int) (c4 c5 c6:List Entry) (c7 c8 c9:Int):(List UInt8)×Int→Option (((List UInt8)×Int)⊕(((List UInt8)×Int×Bool)))
 | (l2,t4)=>
   br (decide (t4<t3)) (
   (atL t2 t4).bind fun x=>
   (eP x l2).bind fun r_3=>
   some (.inl (r_3,(wrap .i64 (t4+1))))) (
   some (.inr (l2,t4,decide (t4<t3))))
abbrev jn (l:List (List UInt8)) (l3:List UInt8) (c c2 c3:Int) (c4 c5 c6:List Entry) (c7 c8 c9:Int) (l2:List UInt8):List (Nat×Blk):=[(1000,⟨6,true,[[I c,I c2,I c3,sl eEntry c4,sl eEntry c5,sl eEntry c6]]⟩),(1001,⟨3,true,[[I c7,I c8,I c9]]⟩),(2002,⟨1,false,rws (eL eU8) l⟩),(2004,⟨1,false,rws eU8 l2⟩),(2014,⟨1,false,rws eU8 l3⟩)]
abbrev nT (l:List (List UInt8)) (l3:List UInt8) (t2:List Int) (t3 c c2 c3:Int) (c4 c5 c6:List Entry) (c7 c8 c9:Int) (s:(List UInt8)×Int):St:=⟨[(7,.sl 2004 0 s.1.length),(26,sl eI t2),(27,I t3),(28,I s.2)],jn l l3 c c2 c3 c4 c5 c6 c7 c8 c9 s.1⟩
abbrev nX (l:List (List UInt8)) (l3:List UInt8) (t2:List Int) (t3 c c2 c3:Int) (c4 c5 c6:List Entry) (c7 c8 c9:Int):((List UInt8)×Int×Bool)→al×St:=fun e=>(.exit 0,⟨[(7,.sl 2004 0 e.1.length),(26,sl eI t2),(27,I t3),(28,I e.2.1),(29,B e.2.2)],jn l l3 c c2 c3 c4 c5 c6 c7 c8 c9 e.1⟩)
theorem vp {l l3 t2 t3 c c2 c3 c4 c5 c6 c7 c8 c9 s e} (h:Loop (cB l l3 t2 t3 c c2 c3 c4 c5 c6 c7 c8 c9) s=some e):aX tab ow (.close [6002]) oc (nT l l3 t2 t3 c c2 c3 c4 c5 c6 c7 c8 c9 s)=some (nX l l3 t2 t3 c c2 c3 c4 c5 c6 c7 c8 c9 e):=by
 refine lrG (fun s o h=> ?_) h
 obtain ⟨_,_⟩:=s
 simp only [cB] at h
 simp only [nT,nX,jn,oc,oj]
 have d1:= @g7
 exact go2
def jf (s:System) (t:Setting) (publics:(List Int)):Option ((List UInt8)):=
 (cG s).bind fun r_=>
 (mi ([r_]:List (List UInt8))).bind fun r_2=>
 br (dC r_2.length 1) (
 br (dC ((r_2++([(UInt8.ofInt t.Rate),(UInt8.ofInt t.Queries),(UInt8.ofInt t.Grind)]:List UInt8)).length) 1) (
 (Loop (cB ([r_]:List (List UInt8)) ([(UInt8.ofInt t.Rate),(UInt8.ofInt t.Queries),(UInt8.ofInt t.Grind)]:List UInt8) publics ((publics.length:Nat):Int) s.Rows s.Cols s.Publics s.A s.B s.C t.Rate t.Queries t.Grind) ((r_2++([(UInt8.ofInt t.Rate),(UInt8.ofInt t.Queries),(UInt8.ofInt t.Grind)]:List UInt8)),0)).bind fun e_=>
 some e_.1) none) none
theorem yM {s t publics r} (h:jf s t publics=some r):Call tab ow 112 [.agg [I s.Rows,I s.Cols,I s.Publics,sl eEntry s.A,sl eEntry s.B,sl eEntry s.C],.agg [I t.Rate,I t.Queries,I t.Grind],sl eI publics] []=some (sl eU8 r,[]):=by
 rw [ab (af:=iG) rfl]
 unfold jf at h
 simp only [iG,lz]
 have d1:= @oy
 have d2:= @xV
 have d3:= @vp
 exact go2
end
section
theorem H8:mkR 2012 []=rws eU8 []:=rfl
attribute [local go_sem] H8
def xP (n:Int):Option ((List UInt8)):=
 br (dC (([(UInt8.ofInt (bD .i64 n 24)),(UInt8.ofInt (bD .i64 n 16)),(UInt8.ofInt (bD .i64 n 8)),(UInt8.ofInt n)]:List UInt8).length) 1) (
 some ([(UInt8.ofInt (bD .i64 n 24)),(UInt8.ofInt (bD .i64 n 16)),(UInt8.ofInt (bD .i64 n 8)),(UInt8.ofInt n)]:List UInt8)) none
theorem Jq {n r} (h:xP n=some r):Call tab ow 165 [.lit (.slice none 0 0),I n] []=some (sl eU8 r,[]):=by
 rw [ab (af:=mf) rfl]
 unfold xP at h
 simp only [mf,xk]
 exact go2
end
section
theorem qJ:mkR 1007 []=rws eU8 []:=rfl
attribute [local go_sem] qJ
theorem qj:mkR 1013 []=rws (eL eU8) []:=rfl
attribute [local go_sem] qj
def dH (t:(List UInt8)) (m:Int) (m2:List UInt8) (m3:Int) (l:List Ext):Option (Int×(List UInt8)×Int×(List Ext)):=
 br (dC m2.length 1) (
 (xP ((t.length:Nat):Int)).bind fun r_=>
 (mi ([m2,([(97:UInt8),(98:UInt8),(115:UInt8),(111:UInt8),(114:UInt8),(98:UInt8)]:List UInt8),r_,t]:List (List UInt8))).bind fun r_2=>
 some (m,r_2,0,l)) none
theorem rT {t m m2 m3 l r} (h:dH t m m2 m3 l=some r):Call tab ow 111 [.ptr 0 0 0 1,sl eU8 t] [⟨4,true,[[.sl 1 0 l.length,I m,S m2,I m3]]⟩,⟨2,false,rws eExt l⟩]=some (.tup [],[⟨4,true,[[.sl 1 0 r.2.2.2.length,I r.1,S r.2.1,I r.2.2.1]]⟩,⟨2,false,rws eExt r.2.2.2⟩]):=by
 rw [ab (af:=e7) rfl]
 unfold dH at h
 simp only [e7,kw]
 have d1:= @Jq
 have d2:= @xV
 exact go2
end
def md (s:System) (t:Setting) (publics:(List Int)) (source:Source):Option (Int×(List UInt8)×Int×Int×(List Ext)):=
 (j1 s t publics source).bind fun r_=>
 br (r_ !=0) (
 some (0,(([]:List UInt8)),0,r_,([]:List Ext))) (
 (dR source).bind fun r_2=>
 (jf s t publics).bind fun r_3=>
 (dH r_3 r_2.1 r_2.2.1 r_2.2.2.1 r_2.2.2.2).bind fun r_4=>
 some (r_4.1,r_4.2.1,r_4.2.2.1,0,r_4.2.2.2))
theorem E3 {s t publics source r} (h:md s t publics source=some r):Call tab ow 47 [.agg [I s.Rows,I s.Cols,I s.Publics,sl eEntry s.A,sl eEntry s.B,sl eEntry s.C],.agg [I t.Rate,I t.Queries,I t.Grind],sl eI publics,.agg [sl eExt source.Script,I source.At,S source.State,I source.Count]] []=some (.tup [.agg [.sl 0 0 r.2.2.2.2.length,I r.1,S r.2.1,I r.2.2.1],I r.2.2.2.1],[⟨2,false,rws eExt r.2.2.2.2⟩]):=by
 rw [ab (af:=n9) rfl]
 unfold md at h
 simp only [n9,wm]
 have d1:= @yJ
 have d2:= @rX
 have d3:= @yM
 have d4:= @rT
 exact go2
def eT (a b:Source):Option (Bool):=
 (pt a.Script b.Script).bind fun r_=>
 br (!r_) (
 some false) (
 br (a.At !=b.At) (
 some false) (
 br (a.State !=b.State) (
 some false) (
 br (a.Count !=b.Count) (
 some false) (
 some true))))
theorem Au {a b r} (h:eT a b=some r):Call tab ow 48 [.agg [sl eExt a.Script,I a.At,S a.State,I a.Count],.agg [sl eExt b.Script,I b.At,S b.State,I b.Count]] []=some (B r,[]):=by
 rw [ab (af:=jH) rfl]
 unfold eT at h
 simp only [jH,sr]
 have d1:= @Ex
 exact go2
def ka (a2 b2:List Int):Int→Option ((Int)⊕(Unit⊕(Int×Bool)))
 |i=>
  br (decide (i<((a2.length:Nat):Int))) (
  (atL a2 i).bind fun x=>
  (atL b2 i).bind fun x2=>
  br (x !=x2) (
  some (.inr (.inl ()))) (
  some (.inl (wrap .i64 (i+1))))) (
  some (.inr (.inr (i,decide (i<((a2.length:Nat):Int))))))
abbrev tz (a2 b2:List Int) (s:Int):St:=⟨[(0,sl eI a2),(1,sl eI b2),(5,I s)],[]⟩
abbrev sn (a2 b2:List Int):(Unit⊕(Int×Bool))→al×St:=alt (fun e=>((.ret,⟨[(4,B false)],[]⟩):al×St)) (fun e=>(.exit 0,⟨[(0,sl eI a2),(1,sl eI b2),(5,I e.1),(14,B e.2)],[]⟩))
theorem zT {a2 b2 s e} (h:Loop (ka a2 b2) s=some e):aX tab ow (.close []) sD (tz a2 b2 s)=some (sn a2 b2 e):=by
 refine lrG (fun s o h=> ?_) h
 simp only [ka] at h
 simp only [tz,sn,sD,tq]
 exact go2
def oK (a b:(List Int)):Option (Bool):=
 br (((a.length:Nat):Int) !=((b.length:Nat):Int)) (
 some false) (
 (Loop (ka a b) 0).bind (alt (fun e_2=>
 some false) (fun e_3=>
 some true)))
theorem EL {a b r} (h:oK a b=some r):Call tab ow 49 [sl eI a,sl eI b] []=some (B r,[]):=by
 rw [ab (af:=ne) rfl]
 unfold oK at h
 simp only [ne,rV]
 have d1:= @zT
 exact go2
def ck:(List Int)×Int×Int→Option (((List Int)×Int×Int)⊕(((List Int)×Int×Int×Bool)))
 | (l2,k2,i)=>
   br (decide (i<((l2.length:Nat):Int))) (
   br (decide (0≤i)) (
   br (decide (i.toNat<l2.length)) (
   (l2[i.toNat]?).bind fun x=>
   some (.inl ((l2.set i.toNat k2),(wrap .i64 (k2+1)),(wrap .i64 (i+1))))) none) none) (
   some (.inr (l2,k2,i,decide (i<((l2.length:Nat):Int)))))
abbrev mr (s:(List Int)×Int×Int):St:=⟨[(0,.sl 0 0 s.1.length),(1,I s.2.1),(5,I s.2.2)],[(0,⟨1,false,rws eI s.1⟩)]⟩
abbrev mb:((List Int)×Int×Int×Bool)→al×St:=fun e=>(.exit 0,⟨[(0,.sl 0 0 e.1.length),(1,I e.2.1),(5,I e.2.2.1),(9,B e.2.2.2)],[(0,⟨1,false,rws eI e.1⟩)]⟩)
theorem tY { s e} (h:Loop (ck) s=some e):aX tab ow (.close []) pb (mr s)=some (mb e):=by
 refine lrG (fun s o h=> ?_) h
 obtain ⟨_,_,_⟩:=s
 simp only [ck] at h
 simp only [mr,mb,pb,pJ]
 exact go2
def gJ (k:Int) (l:List Int):Option (Int×(List Int)):=
 (Loop (ck) (l,k,0)).bind fun e_=>
 some (e_.2.1,e_.1)
theorem vY {k l r} (h:gJ k l=some r):Call tab ow 50 [.sl 0 0 l.length,I k] [⟨1,false,rws eI l⟩]=some (I r.1,[⟨1,false,rws eI r.2⟩]):=by
 rw [ab (af:=jS) rfl]
 unfold gJ at h
 simp only [jS,nC]
 have d1:= @tY
 exact go2
def fk (a:Int) (a2:List UInt8) (a3 k:Int) (l:List Ext):Option (Int×(List Ext)):=
 (gN k l).bind fun r_=>
 some (r_.1,r_.2)
theorem wC {a a2 a3 k l r} (h:fk a a2 a3 k l=some r):Call tab ow 51 [.agg [.sl 0 0 l.length,I a,S a2,I a3],I k] [⟨2,false,rws eExt l⟩]=some (I r.1,[⟨2,false,rws eExt r.2⟩]):=by
 rw [ab (af:=hI) rfl]
 unfold fk at h
 simp only [hI,oD]
 have d1:= @xm
 exact go2
def fi (a:Source) (k:Int):Option (Int):=
 (kC a.Script k).bind fun r_=>
 br (decide (r_<0)) (
 some (-1:Int)) (
 some r_)
theorem wR {a k r} (h:fi a k=some r):Call tab ow 52 [.agg [sl eExt a.Script,I a.At,S a.State,I a.Count],I k] []=some (I r,[]):=by
 rw [ab (af:=gG) rfl]
 unfold fi at h
 simp only [gG,oN]
 have d1:= @BF
 exact go2
def hZ (ListtoArray:System) (a:Setting) (a2:(List Int)) (a3:Source):Option (Bool):=
 br (decide (((a2.length:Nat):Int)>1048576)) (
 some true) (
 (kZ ListtoArray 1048576).bind fun r_=>
 br (decide (r_<0)) (
 some true) (
 (kJ a3 r_).bind fun r_2=>
 br (decide (r_2<0)) (
 some true) (
 (dU ListtoArray).bind fun r_3=>
 (gg a).bind fun r_4=>
 (iX a2).bind fun r_5=>
 (dT a3).bind fun r_6=>
 (sJ (System.mk r_3.1 r_3.2.1 r_3.2.2.1 r_3.2.2.2.1 r_3.2.2.2.2.1 r_3.2.2.2.2.2) r_4 r_5 (Source.mk r_6.2.2.2 r_6.1 r_6.2.1 r_6.2.2.1)).bind fun r_7=>
 (dU ListtoArray).bind fun r_8=>
 (iX a2).bind fun r_9=>
 (dT a3).bind fun r_10=>
 (gg a).bind fun r_11=>
 (md (System.mk r_8.1 r_8.2.1 r_8.2.2.1 r_8.2.2.2.1 r_8.2.2.2.2.1 r_8.2.2.2.2.2) r_11 r_9 (Source.mk r_10.2.2.2 r_10.1 r_10.2.1 r_10.2.2.1)).bind fun r_12=>
 (eT (Source.mk r_12.2.2.2.2 r_12.1 r_12.2.1 r_12.2.2.1) r_7.1).bind fun r_13=>
 br (!r_13) (
 some false) (
 br (r_12.2.2.2.1 !=r_7.2) (
 some false) (
 (dU ListtoArray).bind fun r_14=>
 (kz (System.mk r_8.1 r_8.2.1 r_8.2.2.1 r_8.2.2.2.1 r_8.2.2.2.2.1 r_8.2.2.2.2.2) (System.mk r_14.1 r_14.2.1 r_14.2.2.1 r_14.2.2.2.1 r_14.2.2.2.2.1 r_14.2.2.2.2.2)).bind fun r_15=>
 br (!r_15) (
 some false) (
 (iX a2).bind fun r_16=>
 (oK r_9 r_16).bind fun r_17=>
 br (!r_17) (
 some false) (
 (dT a3).bind fun r_18=>
 (eT (Source.mk r_10.2.2.2 r_10.1 r_10.2.1 r_10.2.2.1) (Source.mk r_18.2.2.2 r_18.1 r_18.2.1 r_18.2.2.1)).bind fun r_19=>
 br (!r_19) (
 some false) (
 (hN r_8.1 r_8.2.1 r_8.2.2.1 1 r_8.2.2.2.1 r_8.2.2.2.2.1 r_8.2.2.2.2.2).bind fun r_20=>
 (gJ r_20.1 r_9).bind fun r_21=>
 (fk r_10.1 r_10.2.1 r_10.2.2.1 r_21.1 r_10.2.2.2).bind fun r_22=>
 br (decide (r_22.1<0)) (
 some false) (
 (eT (Source.mk r_12.2.2.2.2 r_12.1 r_12.2.1 r_12.2.2.1) r_7.1).bind fun r_23=>
 br (!r_23) (
 some false) (
 br (r_12.2.2.2.1 !=r_7.2) (
 some false) (
 (fk r_12.1 r_12.2.1 r_12.2.2.1 1 r_12.2.2.2.2).bind fun r_24=>
 br (decide (r_24.2.length=r_12.2.2.2.2.length)) (
 (fi (Source.mk r_24.2 r_12.1 r_12.2.1 r_12.2.2.1) 1).bind fun r_25=>
 br (decide (r_25<0)) (
 some false) (
 br (r_25 !=r_24.1) (
 some false) (
 (dU ListtoArray).bind fun r_26=>
 (gg a).bind fun r_27=>
 (iX a2).bind fun r_28=>
 (dT a3).bind fun r_29=>
 (md (System.mk r_26.1 r_26.2.1 r_26.2.2.1 r_26.2.2.2.1 r_26.2.2.2.2.1 r_26.2.2.2.2.2) r_27 r_28 (Source.mk r_29.2.2.2 r_29.1 r_29.2.1 r_29.2.2.1)).bind fun r_30=>
 (eT (Source.mk r_30.2.2.2.2 r_30.1 r_30.2.1 r_30.2.2.1) r_7.1).bind fun r_31=>
 br (!r_31) (
 some false) (
 br (r_30.2.2.2.1 !=r_7.2) (
 some false) (
 br (decide (r_24.2.length=r_12.2.2.2.2.length)) (
 (fi (Source.mk r_24.2 r_12.1 r_12.2.1 r_12.2.2.1) 1).bind fun r_32=>
 br (decide (r_32<0)) (
 some false) (
 br (r_32 !=r_24.1) (
 some false) (
 some true))) none))))) none)))))))))))
theorem w_FnExactStart_c {ListtoArray a a2 a3 r} (h:hZ ListtoArray a a2 a3=some r):Call tab ow 7 [.agg [I ListtoArray.Rows,I ListtoArray.Cols,I ListtoArray.Publics,sl eEntry ListtoArray.A,sl eEntry ListtoArray.B,sl eEntry ListtoArray.C],.agg [I a.Rate,I a.Queries,I a.Grind],sl eI a2,.agg [sl eExt a3.Script,I a3.At,S a3.State,I a3.Count]] []=some (B r,[]):=by
 rw [ab (af:=a_w_FnExactStart) rfl]
 unfold hZ at h
 simp only [a_w_FnExactStart,mG]
 have d1:= @AQ
 have d2:= @zN
 have d3:= @yI
 have d4:= @z3
 have d5:= @Fw
 have d6:= @yK
 have d7:= @H0
 have d8:= @E3
 have d9:= @Au
 have d10:= @Ab
 have d11:= @EL
 have d12:= @xc
 have d13:= @vY
 have d14:= @wC
 have d15:= @wR
 exact go2
end
end Go.AI.Fn
