/- Walks through the program, with open values. -/
import Derived.Test.YtdnkignjanfikaaGreatFx2
set_option linter.unusedVariables false
set_option linter.unusedSimpArgs false
set_option maxRecDepth 100000
set_option maxHeartbeats 1000000
namespace Go.AI.Fn
noncomputable section
open IntKind (wrap)
section
theorem K7:mkR 2006 []=rws bI []:=rfl
attribute [local go_sem] K7
theorem J8:mkR 4004 []=rws (eL ak) []:=rfl
attribute [local go_sem] J8
theorem JO:mkR 6003 []=rws ak []:=rfl
attribute [local go_sem] JO
theorem Jx:mkR 20014 []=rws ak []:=rfl
attribute [local go_sem] Jx
theorem JU:mkR 20022 []=rws (eL eS) []:=rfl
attribute [local go_sem] JU
theorem J6:mkR 22003 []=rws di []:=rfl
attribute [local go_sem] J6
def fc (l4:List aG) (l5:List (List UInt8)) (l6:List cc) (t4:Int) (t5:List Int) (t6 t7 t8:Int) (c16:List Ext) (c17:Int) (c18:List UInt8) (c19 c20 c21 c22 c23 c24 c25:Int) (c26:List (List Ext)) (c27 c28 c29 c30:Int):(List Ext)×(List (List (List UInt8)))×Int→Option (((List Ext)×(List (List (List UInt8)))×Int)⊕(((List Ext)×(List (List (List UInt8)))×Int×Bool)))
 | (l7,l8,t9)=>
   br (decide (t9<t8)) (
   br (decide (0≤t9)) (
   br (decide (t9.toNat<l4.length)) (
   (l4[t9.toNat]?).bind fun x4=>
   br (decide ((wrap .i64 (((x4.word.length:Nat):Int).tdiv 2))≠0)) (
   (atL x4.word (t4.tmod (wrap .i64 (((x4.word.length:Nat):Int).tdiv 2)))).bind fun x5=>
   (atL x4.word (wrap .i64 ((t4.tmod (wrap .i64 (((x4.word.length:Nat):Int).tdiv 2)))+(wrap .i64 (((x4.word.length:Nat):Int).tdiv 2))))).bind fun x6=>
   br (aB ((l7++([x5,x6]:List Ext)).length) 16) (
   (Ce x4.rows (t4.tmod (wrap .i64 (((x4.word.length:Nat):Int).tdiv 2)))).bind fun r_12=>
   br (aB ((l8++([r_12]:List (List (List UInt8)))).length) 24) (
   some (.inl ((l7++([x5,x6]:List Ext)),(l8++([r_12]:List (List (List UInt8)))),(wrap .i64 (t9+1))))) none) none) none) none) none) (
   some (.inr (l7,l8,t9,decide (t9<t8))))
abbrev ou (l4:List aG) (l5:List (List UInt8)) (l6:List cc) (c16:List Ext) (c17:Int) (c18:List UInt8) (c19 c20 c21 c22 c23 c24 c25:Int) (c26:List (List Ext)) (c27 c28 c29 c30:Int) (l7:List Ext) (l8:List (List (List UInt8))):List (Nat×Blk):=[(0,⟨4,true,[[sl ak c16,I c17,S c18,I c19]]⟩),(1000,⟨1,true,[[.ptr 0 0 0 1]]⟩),(1001,⟨3,true,[[I c20,I c21,I c22]]⟩),(1002,⟨6,true,[[.lit (.slice none 0 0),.lit (.slice none 0 0),I c23,I c24,I c25,.lit (.slice none 0 0)]]⟩),(2006,⟨2,false,rws bI l4⟩),(2007,⟨1,true,[[.sl 2006 0 l4.length]]⟩),(3003,⟨6,true,[[sl (eL ak) c26,.sl 4006 0 l5.length,I c27,I c28,I c29,.sl 12900 0 l6.length]]⟩),(3004,⟨1,true,[[I c30]]⟩),(4004,ip),(4006,⟨1,false,rws eS l5⟩),(6003,ip),(12900,⟨2,false,rws di l6⟩),(14001,⟨2,true,[[.sl 16900 0 l7.length,.sl 16901 0 l8.length]]⟩),(16900,⟨2,false,rws ak l7⟩),(16901,⟨1,false,rws (eL eS) l8⟩)]
abbrev xt (l4:List aG) (l5:List (List UInt8)) (l6:List cc) (t4:Int) (t5:List Int) (t6 t7 t8:Int) (c16:List Ext) (c17:Int) (c18:List UInt8) (c19 c20 c21 c22 c23 c24 c25:Int) (c26:List (List Ext)) (c27 c28 c29 c30:Int) (s:(List Ext)×(List (List (List UInt8)))×Int):St:=⟨[(8,.ptr 1002 0 0 1),(10,.ptr 2007 0 0 1),(11,.ptr 3003 0 0 1),(17,I t4),(18,.ptr 14001 0 0 1),(81,sl eI t5),(82,I t6),(83,I t7),(88,.sl 2006 0 l4.length),(89,I t8),(90,I s.2.2)],ou l4 l5 l6 c16 c17 c18 c19 c20 c21 c22 c23 c24 c25 c26 c27 c28 c29 c30 s.1 s.2.1⟩
abbrev wZ (l4:List aG) (l5:List (List UInt8)) (l6:List cc) (t4:Int) (t5:List Int) (t6 t7 t8:Int) (c16:List Ext) (c17:Int) (c18:List UInt8) (c19 c20 c21 c22 c23 c24 c25:Int) (c26:List (List Ext)) (c27 c28 c29 c30:Int):((List Ext)×(List (List (List UInt8)))×Int×Bool)→aw×St:=fun e=>(.exit 2,⟨[(8,.ptr 1002 0 0 1),(10,.ptr 2007 0 0 1),(11,.ptr 3003 0 0 1),(17,I t4),(18,.ptr 14001 0 0 1),(81,sl eI t5),(82,I t6),(83,I t7),(88,.sl 2006 0 l4.length),(89,I t8),(90,I e.2.2.1),(91,B e.2.2.2)],ou l4 l5 l6 c16 c17 c18 c19 c20 c21 c22 c23 c24 c25 c26 c27 c28 c29 c30 e.1 e.2.1⟩)
theorem HT {l4 l5 l6 t4 t5 t6 t7 t8 c16 c17 c18 c19 c20 c21 c22 c23 c24 c25 c26 c27 c28 c29 c30 s e} (h:Loop (fc l4 l5 l6 t4 t5 t6 t7 t8 c16 c17 c18 c19 c20 c21 c22 c23 c24 c25 c26 c27 c28 c29 c30) s=some e):aO tab ow (.both (.both (.close [17002,20014,20015,20021,20022,20023]) (.nilCell 14001 0 16900 2)) (.nilCell 14001 1 16901 1)) vn (xt l4 l5 l6 t4 t5 t6 t7 t8 c16 c17 c18 c19 c20 c21 c22 c23 c24 c25 c26 c27 c28 c29 c30 s)=some (wZ l4 l5 l6 t4 t5 t6 t7 t8 c16 c17 c18 c19 c20 c21 c22 c23 c24 c25 c26 c27 c28 c29 c30 e):=by
 refine lrG (fun s o h=> ?_) h
 obtain ⟨_,_,_⟩:=s
 simp only [fc] at h
 simp only [xt,wZ,ou,vn,wj]
 have d1:= @Zq
 exact go2
def dK (l:List aG) (l2:List (List UInt8)) (t:List Int) (t2:Int) (c:List Ext) (c2:Int) (c3:List UInt8) (c4 c5 c6 c7 c8 c9 c10:Int) (c11:List (List Ext)) (c12 c13 c14 c15:Int):(List cc)×Int→Option (((List cc)×Int)⊕(((List cc)×Int×Bool)))
 | (l3,t3)=>
   br (decide (t3<t2)) (
   (atL t t3).bind fun x3=>
   (Loop (fc l l2 l3 x3 t t2 t3 ((l.length:Nat):Int) c c2 c3 c4 c5 c6 c7 c8 c9 c10 c11 c12 c13 c14 c15) (([]:List Ext),([]:List (List (List UInt8))),0)).bind fun e_=>
   br (aB ((l3++([(cc.mk e_.1 e_.2.1)]:List cc)).length) 48) (
   some (.inl ((l3++([(cc.mk e_.1 e_.2.1)]:List cc)),(wrap .i64 (t3+1))))) none) (
   some (.inr (l3,t3,decide (t3<t2))))
abbrev ov (l:List aG) (l2:List (List UInt8)) (c:List Ext) (c2:Int) (c3:List UInt8) (c4 c5 c6 c7 c8 c9 c10:Int) (c11:List (List Ext)) (c12 c13 c14 c15:Int) (l3:List cc):List (Nat×Blk):=[(0,⟨4,true,[[sl ak c,I c2,S c3,I c4]]⟩),(1000,⟨1,true,[[.ptr 0 0 0 1]]⟩),(1001,⟨3,true,[[I c5,I c6,I c7]]⟩),(1002,⟨6,true,[[.lit (.slice none 0 0),.lit (.slice none 0 0),I c8,I c9,I c10,.lit (.slice none 0 0)]]⟩),(2006,⟨2,false,rws bI l⟩),(2007,⟨1,true,[[.sl 2006 0 l.length]]⟩),(3003,⟨6,true,[[sl (eL ak) c11,.sl 4006 0 l2.length,I c12,I c13,I c14,.sl 12900 0 l3.length]]⟩),(3004,⟨1,true,[[I c15]]⟩),(4004,ip),(4006,⟨1,false,rws eS l2⟩),(6003,ip),(12900,⟨2,false,rws di l3⟩)]
abbrev wU (l:List aG) (l2:List (List UInt8)) (t:List Int) (t2:Int) (c:List Ext) (c2:Int) (c3:List UInt8) (c4 c5 c6 c7 c8 c9 c10:Int) (c11:List (List Ext)) (c12 c13 c14 c15:Int) (s:(List cc)×Int):St:=⟨[(8,.ptr 1002 0 0 1),(10,.ptr 2007 0 0 1),(11,.ptr 3003 0 0 1),(81,sl eI t),(82,I t2),(83,I s.2)],ov l l2 c c2 c3 c4 c5 c6 c7 c8 c9 c10 c11 c12 c13 c14 c15 s.1⟩
abbrev xh (l:List aG) (l2:List (List UInt8)) (t:List Int) (t2:Int) (c:List Ext) (c2:Int) (c3:List UInt8) (c4 c5 c6 c7 c8 c9 c10:Int) (c11:List (List Ext)) (c12 c13 c14 c15:Int):((List cc)×Int×Bool)→aw×St:=fun e=>(.exit 0,⟨[(8,.ptr 1002 0 0 1),(10,.ptr 2007 0 0 1),(11,.ptr 3003 0 0 1),(81,sl eI t),(82,I t2),(83,I e.2.1),(84,B e.2.2)],ov l l2 c c2 c3 c4 c5 c6 c7 c8 c9 c10 c11 c12 c13 c14 c15 e.1⟩)
theorem Ho {l l2 t t2 c c2 c3 c4 c5 c6 c7 c8 c9 c10 c11 c12 c13 c14 c15 s e} (h:Loop (dK l l2 t t2 c c2 c3 c4 c5 c6 c7 c8 c9 c10 c11 c12 c13 c14 c15) s=some e):aO tab ow (.both (.close [14001,17002,20014,20015,20021,20022,20023,22003,22004,16900,16901]) (.nilCell 3003 5 12900 2)) v7 (wU l l2 t t2 c c2 c3 c4 c5 c6 c7 c8 c9 c10 c11 c12 c13 c14 c15 s)=some (xh l l2 t t2 c c2 c3 c4 c5 c6 c7 c8 c9 c10 c11 c12 c13 c14 c15 e):=by
 refine lrG (fun s o h=> ?_) h
 obtain ⟨_,_⟩:=s
 simp only [dK] at h
 simp only [wU,xh,ov,v7,wi]
 have d1:= @HT
 exact go2
def mS (a a2:(List Ext)) (a3:Setting) (m:Source):Option (aV×Bool×Source):=
 (uS a).bind fun r_=>
 (uO r_ a3.Rate).bind fun r_2=>
 (vS r_2).bind fun r_3=>
 (jU a2).bind fun r_4=>
 (bV 1 ([a,r_4]:List (List Ext)) m ((a2.length:Nat):Int) 0 0 0 ([r_3]:List aG)).bind fun r_5=>
 (atL r_5.2.2.1 0).bind fun x=>
 (bD ([x]:List Ext) r_5.2.2.2.1).bind fun r_6=>
 (kX r_6 a3.Grind).bind fun r_7=>
 br (decide (r_7<0)) (
 some ((aV.mk ([]:List (List Ext)) ([]:List (List UInt8)) (Ext.mk 0 0) 0 ([]:List cc)),false,r_6)) (
 (BV r_7).bind fun r_8=>
 (dt r_8 r_6).bind fun r_9=>
 (gg a3.Queries r_9).bind fun r_10=>
 br (decide (0<r_5.2.2.2.2.2.2.2.2.1.length)) (
 (r_5.2.2.2.2.2.2.2.2.1[0]?).bind fun x2=>
 (D4 r_10.1 (wrap .i64 (((x2.word.length:Nat):Int).tdiv 2))).bind fun r_11=>
 (Loop (dK r_5.2.2.2.2.2.2.2.2.1 r_5.2.2.2.2.2.2.2.2.2 r_11 ((r_11.length:Nat):Int) r_10.2.Script r_10.2.At r_10.2.State r_10.2.Count a3.Rate a3.Queries a3.Grind 0 0 0 r_5.1 x.A x.B r_7 r_5.2.2.2.2.1) (([]:List cc),0)).bind fun e_2=>
 some ((aV.mk r_5.1 r_5.2.2.2.2.2.2.2.2.2 x r_7 e_2.1),true,r_10.2)) none)
theorem LN {a a2 a3 m r} (h:mS a a2 a3 m=some r):Call tab ow 294 [.ptr 0 0 0 1,sl ak a,sl ak a2,.agg [I a3.Rate,I a3.Queries,I a3.Grind]] [⟨4,true,[[sl ak m.Script,I m.At,S m.State,I m.Count]]⟩]=some (.tup [.agg [sl (eL ak) r.1.Rounds,sl eS r.1.Roots,I r.1.Last.A,I r.1.Last.B,I r.1.Nonce,sl di r.1.Queries],B r.2.1],[⟨4,true,[[sl ak r.2.2.Script,I r.2.2.At,S r.2.2.State,I r.2.2.Count]]⟩]):=by
 rw [ag (af:=ni) rfl]
 unfold mS at h
 simp only [ni,mV]
 have d1:= @KC
 have d2:= @KU
 have d3:= @FZ
 have d4:= @wt
 have d5:= @oo
 have d6:= @ed
 have d7:= @Jm
 have d8:= @HJ
 have d9:= @i5
 have d10:= @q9
 have d11:= @a04
 have d12:= @Ho
 exact go2
end
section
theorem Hn:mkR 6005 []=rws (eL ak) []:=rfl
attribute [local go_sem] Hn
theorem HB:mkR 10007 []=rws (eL ak) []:=rfl
attribute [local go_sem] HB
theorem HD:mkR 14007 []=rws ak []:=rfl
attribute [local go_sem] HD
theorem Iz:mkR 16007 []=rws (eL ak) []:=rfl
attribute [local go_sem] Iz
theorem Ia:mkR 19003 []=rws ak []:=rfl
attribute [local go_sem] Ia
def kN (a:aL) (a2:Setting) (a3 a4:(List Int)) (m:Source):Option (il×Bool×Source):=
 (cf a).bind fun r_=>
 (nL a4 r_ ((a4.length:Nat):Int)).bind fun y=>
 (xQ y).bind fun r_2=>
 (sH a a2 a3).bind fun r_3=>
 (dt r_3 m).bind fun r_4=>
 (uS r_2).bind fun r_5=>
 (uO r_5 a2.Rate).bind fun r_6=>
 (vS r_6).bind fun r_7=>
 (vA r_7.rows).bind fun r_8=>
 br (aB r_8.length 1) (
 (dt r_8 r_4).bind fun r_9=>
 (gg a.Rows r_9).bind fun r_10=>
 (jU r_10.1).bind fun r_11=>
 (ci a).bind fun r_12=>
 (iP r_12.1 a.Rows a4).bind fun r_13=>
 (xQ r_13).bind fun r_14=>
 br (aB ((([r_11]:List (List Ext))++([r_14]:List (List Ext))).length) 24) (
 (iP r_12.2.1 a.Rows a4).bind fun r_15=>
 (xQ r_15).bind fun r_16=>
 br (aB (((([r_11]:List (List Ext))++([r_14]:List (List Ext)))++([r_16]:List (List Ext))).length) 24) (
 (iP r_12.2.2 a.Rows a4).bind fun r_17=>
 (xQ r_17).bind fun r_18=>
 br (aB ((((([r_11]:List (List Ext))++([r_14]:List (List Ext)))++([r_16]:List (List Ext)))++([r_18]:List (List Ext))).length) 24) (
 (bz 2 (((([r_11]:List (List Ext))++([r_14]:List (List Ext)))++([r_16]:List (List Ext)))++([r_18]:List (List Ext))) r_10.2).bind fun r_19=>
 (atL r_19.2.2.1 1).bind fun x=>
 (atL r_19.2.2.1 2).bind fun x2=>
 (atL r_19.2.2.1 3).bind fun x3=>
 (bD ([x,x2,x3]:List Ext) r_19.2.2.2).bind fun r_20=>
 (gg 3 r_20).bind fun r_21=>
 br (decide (3≤r_21.1.length)) (
 (a3B r_21.1).bind fun x4=>
 (pi a r_19.2.1 (x4.1,x4.2.1,x4.2.2)).bind fun r_22=>
 (xQ a4).bind fun r_23=>
 (bz 1 ([r_22,r_23]:List (List Ext)) r_21.2).bind fun r_24=>
 (nL r_24.2.1 0 (wrap .i64 (a.Cols-1))).bind fun y2=>
 (jU y2).bind fun r_25=>
 (R5 r_2 r_25).bind fun r_26=>
 (bD ([r_26]:List Ext) r_24.2.2.2).bind fun r_27=>
 (mS r_2 y2 a2 r_27).bind fun r_28=>
 some ((il.mk r_8 r_19.1 x x2 x3 r_24.1 r_26 r_28.1),r_28.2.1,r_28.2.2)) none) none) none) none) none
theorem J2 {a a2 a3 a4 m r} (h:kN a a2 a3 a4 m=some r):Call tab ow 174 [.ptr 0 0 0 1,.agg [I a.Rows,I a.Cols,I a.Publics,sl ai a.A,sl ai a.B,sl ai a.C],.agg [I a2.Rate,I a2.Queries,I a2.Grind],sl eI a3,sl eI a4] [⟨4,true,[[sl ak m.Script,I m.At,S m.State,I m.Count]]⟩]=some (.tup [.agg [S r.1.Root,sl (eL ak) r.1.Gates,I r.1.VA.A,I r.1.VA.B,I r.1.VB.A,I r.1.VB.B,I r.1.VC.A,I r.1.VC.B,sl (eL ak) r.1.Wires,I r.1.VW.A,I r.1.VW.B,sl (eL ak) r.1.Open.Rounds,sl eS r.1.Open.Roots,I r.1.Open.Last.A,I r.1.Open.Last.B,I r.1.Open.Nonce,sl di r.1.Open.Queries],B r.2.1],[⟨4,true,[[sl ak r.2.2.Script,I r.2.2.At,S r.2.2.State,I r.2.2.Count]]⟩]):=by
 rw [ag (af:=lD) rfl]
 unfold kN at h
 simp+decide only [lD,pY,go_sem,reduceIte,Nat.reduceAdd,Int.reduceAdd,Int.reduceMul,Int.reduceSub]
 obtain ⟨r_,h1,h⟩:=bd h
 refine bC (fg h1) ?_
 simp+decide only [go_sem,reduceIte,Nat.reduceAdd,Int.reduceAdd,Int.reduceMul,Int.reduceSub]
 obtain ⟨y,h1,h⟩:=bd h
 refine bind_some h1 ?_
 obtain ⟨r_2,h1,h⟩:=bd h
 refine bC (Cy h1) ?_
 simp+decide only [go_sem,reduceIte,Nat.reduceAdd,Int.reduceAdd,Int.reduceMul,Int.reduceSub]
 obtain ⟨r_3,h1,h⟩:=bd h
 refine bC (PZ h1) ?_
 simp+decide only [go_sem,reduceIte,Nat.reduceAdd,Int.reduceAdd,Int.reduceMul,Int.reduceSub]
 obtain ⟨r_4,h1,h⟩:=bd h
 refine bC (i5 h1) ?_
 simp+decide only [go_sem,reduceIte,Nat.reduceAdd,Int.reduceAdd,Int.reduceMul,Int.reduceSub]
 obtain ⟨r_5,h1,h⟩:=bd h
 refine fU (KC h1) ?_
 simp+decide only [go_sem,reduceIte,Nat.reduceAdd,Int.reduceAdd,Int.reduceMul,Int.reduceSub]
 obtain ⟨r_6,h1,h⟩:=bd h
 refine fU (KU h1) ?_
 simp+decide only [go_sem,reduceIte,Nat.reduceAdd,Int.reduceAdd,Int.reduceMul,Int.reduceSub]
 obtain ⟨r_7,h1,h⟩:=bd h
 refine fU (FZ h1) ?_
 simp+decide only [go_sem,reduceIte,Nat.reduceAdd,Int.reduceAdd,Int.reduceMul,Int.reduceSub]
 obtain ⟨r_8,h1,h⟩:=bd h
 refine fU (OW h1) ?_
 simp+decide only [go_sem,reduceIte,Nat.reduceAdd,Int.reduceAdd,Int.reduceMul,Int.reduceSub]
 obtain ⟨hb,h⟩:=brg h
 refine yV hb ?_
 obtain ⟨r_9,h1,h⟩:=bd h
 refine bC (i5 h1) ?_
 simp+decide only [go_sem,reduceIte,Nat.reduceAdd,Int.reduceAdd,Int.reduceMul,Int.reduceSub]
 obtain ⟨r_10,h1,h⟩:=bd h
 refine bC (q9 h1) ?_
 simp+decide only [go_sem,reduceIte,Nat.reduceAdd,Int.reduceAdd,Int.reduceMul,Int.reduceSub]
 obtain ⟨r_11,h1,h⟩:=bd h
 refine bC (wt h1) ?_
 simp+decide only [go_sem,reduceIte,Nat.reduceAdd,Int.reduceAdd,Int.reduceMul,Int.reduceSub]
 obtain ⟨r_12,h1,h⟩:=bd h
 refine bC (ix h1) ?_
 simp+decide only [go_sem,reduceIte,Nat.reduceAdd,Int.reduceAdd,Int.reduceMul,Int.reduceSub]
 refine cQ ?_
 simp+decide only [mkL,go_sem,reduceIte,Nat.reduceAdd,Int.reduceAdd,Int.reduceMul,Int.reduceSub]
 obtain ⟨r_13,h1,h⟩:=bd h
 refine bC (xA h1) ?_
 simp+decide only [go_sem,reduceIte,Nat.reduceAdd,Int.reduceAdd,Int.reduceMul,Int.reduceSub]
 obtain ⟨r_14,h1,h⟩:=bd h
 refine bC (Cy h1) ?_
 simp+decide only [go_sem,reduceIte,Nat.reduceAdd,Int.reduceAdd,Int.reduceMul,Int.reduceSub]
 obtain ⟨hb,h⟩:=brg h
 refine yV hb ?_
 refine cQ ?_
 simp+decide only [mkL,go_sem,reduceIte,Nat.reduceAdd,Int.reduceAdd,Int.reduceMul,Int.reduceSub]
 obtain ⟨r_15,h1,h⟩:=bd h
 refine bC (xA h1) ?_
 simp+decide only [go_sem,reduceIte,Nat.reduceAdd,Int.reduceAdd,Int.reduceMul,Int.reduceSub]
 obtain ⟨r_16,h1,h⟩:=bd h
 refine bC (Cy h1) ?_
 simp+decide only [go_sem,reduceIte,Nat.reduceAdd,Int.reduceAdd,Int.reduceMul,Int.reduceSub]
 obtain ⟨hb,h⟩:=brg h
 refine yV hb ?_
 refine cQ ?_
 simp+decide only [mkL,go_sem,reduceIte,Nat.reduceAdd,Int.reduceAdd,Int.reduceMul,Int.reduceSub]
 obtain ⟨r_17,h1,h⟩:=bd h
 refine bC (xA h1) ?_
 simp+decide only [go_sem,reduceIte,Nat.reduceAdd,Int.reduceAdd,Int.reduceMul,Int.reduceSub]
 obtain ⟨r_18,h1,h⟩:=bd h
 refine bC (Cy h1) ?_
 simp+decide only [go_sem,reduceIte,Nat.reduceAdd,Int.reduceAdd,Int.reduceMul,Int.reduceSub]
 obtain ⟨hb,h⟩:=brg h
 refine yV hb ?_
 refine cQ ?_
 simp+decide only [mkL,go_sem,reduceIte,Nat.reduceAdd,Int.reduceAdd,Int.reduceMul,Int.reduceSub]
 obtain ⟨r_19,h1,h⟩:=bd h
 refine bC (k8 h1) ?_
 simp+decide only [go_sem,reduceIte,Nat.reduceAdd,Int.reduceAdd,Int.reduceMul,Int.reduceSub]
 obtain ⟨x,h1,h⟩:=bd h
 refine bind_some h1 ?_
 obtain ⟨x2,h1,h⟩:=bd h
 refine bind_some h1 ?_
 obtain ⟨x3,h1,h⟩:=bd h
 refine bind_some h1 ?_
 obtain ⟨r_20,h1,h⟩:=bd h
 refine bC (ed h1) ?_
 simp+decide only [go_sem,reduceIte,Nat.reduceAdd,Int.reduceAdd,Int.reduceMul,Int.reduceSub]
 obtain ⟨r_21,h1,h⟩:=bd h
 refine bC (q9 h1) ?_
 simp+decide only [go_sem,reduceIte,Nat.reduceAdd,Int.reduceAdd,Int.reduceMul,Int.reduceSub]
 obtain ⟨hb,h⟩:=brg h
 refine yV hb ?_
 obtain ⟨x4,h1,h⟩:=bd h
 refine bind_some h1 ?_
 obtain ⟨r_22,h1,h⟩:=bd h
 refine bC (NF h1) ?_
 simp+decide only [go_sem,reduceIte,Nat.reduceAdd,Int.reduceAdd,Int.reduceMul,Int.reduceSub]
 obtain ⟨r_23,h1,h⟩:=bd h
 refine bC (Cy h1) ?_
 simp+decide only [go_sem,reduceIte,Nat.reduceAdd,Int.reduceAdd,Int.reduceMul,Int.reduceSub]
 obtain ⟨r_24,h1,h⟩:=bd h
 refine bC (k8 h1) ?_
 simp+decide only [go_sem,reduceIte,Nat.reduceAdd,Int.reduceAdd,Int.reduceMul,Int.reduceSub]
 obtain ⟨y2,h1,h⟩:=bd h
 refine bind_some h1 ?_
 obtain ⟨r_25,h1,h⟩:=bd h
 refine bC (wt h1) ?_
 simp+decide only [go_sem,reduceIte,Nat.reduceAdd,Int.reduceAdd,Int.reduceMul,Int.reduceSub]
 obtain ⟨r_26,h1,h⟩:=bd h
 refine bC (b4b h1) ?_
 simp+decide only [go_sem,reduceIte,Nat.reduceAdd,Int.reduceAdd,Int.reduceMul,Int.reduceSub]
 obtain ⟨r_27,h1,h⟩:=bd h
 refine bC (ed h1) ?_
 simp+decide only [go_sem,reduceIte,Nat.reduceAdd,Int.reduceAdd,Int.reduceMul,Int.reduceSub]
 obtain ⟨r_28,h1,h⟩:=bd h
 refine bC (LN h1) ?_
 simp+decide only [go_sem,reduceIte,Nat.reduceAdd,Int.reduceAdd,Int.reduceMul,Int.reduceSub]
 obtain rfl:=Option.some.inj h
 first|rfl| (simp only [List.length_set,go_sem];done)
end
def ze (s:aL) (t:Setting) (publics z:(List Int)) (source:Source):Option (il×Int):=
 (jA source).bind fun r_=>
 (kN s t publics z r_).bind fun r_2=>
 br (!r_2.2.1) (
 some ((il.mk (([]:List UInt8)) ([]:List (List Ext)) (Ext.mk 0 0) (Ext.mk 0 0) (Ext.mk 0 0) ([]:List (List Ext)) (Ext.mk 0 0) (aV.mk ([]:List (List Ext)) ([]:List (List UInt8)) (Ext.mk 0 0) 0 ([]:List cc))),14)) (
 some (r_2.1,0))
theorem Pf {s t publics z source r} (h:ze s t publics z source=some r):Call tab ow 82 [.agg [I s.Rows,I s.Cols,I s.Publics,sl ai s.A,sl ai s.B,sl ai s.C],.agg [I t.Rate,I t.Queries,I t.Grind],sl eI publics,sl eI z,.agg [sl ak source.Script,I source.At,S source.State,I source.Count]] []=some (.tup [.agg [S r.1.Root,sl (eL ak) r.1.Gates,I r.1.VA.A,I r.1.VA.B,I r.1.VB.A,I r.1.VB.B,I r.1.VC.A,I r.1.VC.B,sl (eL ak) r.1.Wires,I r.1.VW.A,I r.1.VW.B,sl (eL ak) r.1.Open.Rounds,sl eS r.1.Open.Roots,I r.1.Open.Last.A,I r.1.Open.Last.B,I r.1.Open.Nonce,sl di r.1.Open.Queries],I r.2],[]):=by
 rw [ag (af:=A5) rfl]
 unfold ze at h
 simp only [A5,Ns]
 have d1:= @Hp
 have d2:= @J2
 exact go2
def kW (c:Circuit) (t:Setting) (publics inputs:(List Int)) (source:Source):Option (il×Int):=
 (uP c publics inputs).bind fun r_=>
 br (r_ !=0) (
 some ((il.mk (([]:List UInt8)) ([]:List (List Ext)) (Ext.mk 0 0) (Ext.mk 0 0) (Ext.mk 0 0) ([]:List (List Ext)) (Ext.mk 0 0) (aV.mk ([]:List (List Ext)) ([]:List (List UInt8)) (Ext.mk 0 0) 0 ([]:List cc))),r_)) (
 (nY t).bind fun r_2=>
 br (!r_2) (
 some ((il.mk (([]:List UInt8)) ([]:List (List Ext)) (Ext.mk 0 0) (Ext.mk 0 0) (Ext.mk 0 0) ([]:List (List Ext)) (Ext.mk 0 0) (aV.mk ([]:List (List Ext)) ([]:List (List UInt8)) (Ext.mk 0 0) 0 ([]:List cc))),1)) (
 (nN source).bind fun r_3=>
 br (!r_3) (
 some ((il.mk (([]:List UInt8)) ([]:List (List Ext)) (Ext.mk 0 0) (Ext.mk 0 0) (Ext.mk 0 0) ([]:List (List Ext)) (Ext.mk 0 0) (aV.mk ([]:List (List Ext)) ([]:List (List UInt8)) (Ext.mk 0 0) 0 ([]:List cc))),1)) (
 (ib source).bind fun r_4=>
 br (decide (r_4<200)) (
 some ((il.mk (([]:List UInt8)) ([]:List (List Ext)) (Ext.mk 0 0) (Ext.mk 0 0) (Ext.mk 0 0) ([]:List (List Ext)) (Ext.mk 0 0) (aV.mk ([]:List (List Ext)) ([]:List (List UInt8)) (Ext.mk 0 0) 0 ([]:List cc))),6)) (
 (jK c publics inputs).bind fun r_5=>
 br (!r_5.2) (
 some ((il.mk (([]:List UInt8)) ([]:List (List Ext)) (Ext.mk 0 0) (Ext.mk 0 0) (Ext.mk 0 0) ([]:List (List Ext)) (Ext.mk 0 0) (aV.mk ([]:List (List Ext)) ([]:List (List UInt8)) (Ext.mk 0 0) 0 ([]:List cc))),15)) (
 (iJ c).bind fun r_6=>
 (iC c r_5.1).bind fun r_7=>
 (dU r_6 publics r_7).bind fun r_8=>
 (ze r_6 t publics r_8 source).bind fun r_9=>
 some (r_9.1,r_9.2))))))
theorem K3 {c t publics inputs source r} (h:kW c t publics inputs source=some r):Call tab ow 16 [.agg [sl bp c.Gates],.agg [I t.Rate,I t.Queries,I t.Grind],sl eI publics,sl eI inputs,.agg [sl ak source.Script,I source.At,S source.State,I source.Count]] []=some (.tup [.agg [S r.1.Root,sl (eL ak) r.1.Gates,I r.1.VA.A,I r.1.VA.B,I r.1.VB.A,I r.1.VB.B,I r.1.VC.A,I r.1.VC.B,sl (eL ak) r.1.Wires,I r.1.VW.A,I r.1.VW.B,sl (eL ak) r.1.Open.Rounds,sl eS r.1.Open.Roots,I r.1.Open.Last.A,I r.1.Open.Last.B,I r.1.Open.Nonce,sl di r.1.Open.Queries],I r.2],[]):=by
 rw [ag (af:=lR) rfl]
 unfold kW at h
 simp only [lR,yi]
 have d1:= @L4
 have d2:= @Et
 have d3:= @Iy
 have d4:= @Ba
 have d5:= @Be
 have d6:= @Fq
 have d7:= @Fe
 have d8:= @oA
 have d9:= @Pf
 exact go2
def dj (x:Int):Option (Bool):=
 some (x !=x)
theorem ti {x r} (h:dj x=some r):Call tab ow 387 [I x] []=some (B r,[]):=by
 rw [ag (af:=du) rfl]
 unfold dj at h
 simp only [du,jx]
 exact go2
def bQ (x y:Int):Option (Int):=
 (dj x).bind fun r_=>
 (dj y).bind fun r_2=>
 br r_ (
 br r_2 (
 some 0) (
 some (-1:Int))) (
 br r_2 (
 some 1) (
 br (decide (x<y)) (
 some (-1:Int)) (
 br (decide (x>y)) (
 some 1) (
 some 0))))
theorem oD {x y r} (h:bQ x y=some r):Call tab ow 350 [I x,I y] []=some (I r,[]):=by
 rw [ag (af:=cA) rfl]
 unfold bQ at h
 simp only [cA,hU]
 have d1:= @ti
 exact go2
def aQ (zero:Int) (t:List Int) (t2:Int):Int→Option ((Int)⊕(Int⊕(Int×Bool)))
 |t3=>
  br (decide (t3<t2)) (
  (atL t t3).bind fun x=>
  br (x !=zero) (
  some (.inr (.inl x))) (
  some (.inl (wrap .i64 (t3+1))))) (
  some (.inr (.inr (t3,decide (t3<t2)))))
abbrev kI (zero:Int) (t:List Int) (t2 s:Int):St:=⟨[(3,I zero),(6,sl eI t),(7,I t2),(8,I s)],[]⟩
abbrev kK (zero:Int) (t:List Int) (t2:Int):(Int⊕(Int×Bool))→aw×St:=alt (fun e=>((.ret,⟨[(2,I e)],[]⟩):aw×St)) (fun e=>(.exit 0,⟨[(3,I zero),(6,sl eI t),(7,I t2),(8,I e.1),(9,B e.2)],[]⟩))
theorem vo {zero t t2 s e} (h:Loop (aQ zero t t2) s=some e):aO tab ow (.close []) kw (kI zero t t2 s)=some (kK zero t t2 e):=by
 refine lrG (fun s o h=> ?_) h
 simp only [aQ] at h
 simp only [kI,kK,kw,ll]
 exact go2
def gn (vals:(List Int)):Option (Int):=
 (Loop (aQ 0 vals ((vals.length:Nat):Int)) 0).bind (alt (fun e_2=>
 some e_2) (fun e_3=>
 some 0))
theorem zK {vals r} (h:gn vals=some r):Call tab ow 349 [sl eI vals] []=some (I r,[]):=by
 rw [ag (af:=fu) rfl]
 unfold gn at h
 simp only [fu,jo]
 have d1:= @vo
 exact go2
section
theorem qU:mkR 2010 []=rws eI []:=rfl
attribute [local go_sem] qU
def dI (e_ f:ae):Option (Int):=
 (bQ e_.Row f.Row).bind fun r_=>
 (bQ e_.Col f.Col).bind fun r_2=>
 (gn ([r_,r_2]:List Int)).bind fun r_3=>
 some r_3
theorem tn {e_ f r} (h:dI e_ f=some r):Call tab ow 288 [.agg [I e_.Row,I e_.Col,I e_.Value],.agg [I f.Row,I f.Col,I f.Value]] []=some (I r,[]):=by
 rw [ag (af:=dp) rfl]
 unfold dI at h
 simp only [dp,jB]
 have d1:= @oD
 have d2:= @zK
 exact go2
end
def li (list2:List ae) (rows2 cols2:Int) (t:List ae) (t2:Int):Int→Option ((Int)⊕((Int×Int×Int)⊕(Int×Bool)))
 |t3=>
  br (decide (t3<t2)) (
  (atL t t3).bind fun x=>
  (gK x.Row 0 (wrap .i64 (rows2-1))).bind fun r_=>
  br (!r_) (
  some (.inr (.inl (x.Row,x.Col,x.Value)))) (
  (gK x.Col 0 (wrap .i64 (cols2-1))).bind fun r_2=>
  br (!r_2) (
  some (.inr (.inl (x.Row,x.Col,x.Value)))) (
  (gK x.Value 1 2130706432).bind fun r_3=>
  br (!r_3) (
  some (.inr (.inl (x.Row,x.Col,x.Value)))) (
  br (decide (t3>0)) (
  (atL list2 (wrap .i64 (t3-1))).bind fun x2=>
  (dI x2 x).bind fun r_4=>
  br (decide (r_4≥0)) (
  some (.inr (.inl (x.Row,x.Col,x.Value)))) (
  some (.inl (wrap .i64 (t3+1))))) (
  some (.inl (wrap .i64 (t3+1)))))))) (
  some (.inr (.inr (t3,decide (t3<t2)))))
abbrev CJ (list2:List ae) (rows2 cols2:Int) (t:List ae) (t2 s:Int):St:=⟨[(0,sl ai list2),(1,I rows2),(2,I cols2),(9,sl ai t),(10,I t2),(11,I s)],[]⟩
abbrev Bw (list2:List ae) (rows2 cols2:Int) (t:List ae) (t2:Int):((Int×Int×Int)⊕(Int×Bool))→aw×St:=alt (fun e=>((.ret,⟨[(6,B false)],[(4003,⟨3,true,[[I e.1,I e.2.1,I e.2.2]]⟩)]⟩):aw×St)) (fun e=>(.exit 0,⟨[(0,sl ai list2),(1,I rows2),(2,I cols2),(9,sl ai t),(10,I t2),(11,I e.1),(12,B e.2)],[]⟩))
theorem NU {list2 rows2 cols2 t t2 s e} (h:Loop (li list2 rows2 cols2 t t2) s=some e):aO tab ow (.close [4003,5004,5011,5017,5030]) BA (CJ list2 rows2 cols2 t t2 s)=some (Bw list2 rows2 cols2 t t2 e):=by
 refine lrG (fun s o h=> ?_) h
 simp only [li] at h
 simp only [CJ,Bw,BA,C0]
 have d1:= @xU
 have d2:= @tn
 exact go2
def nP (list:(List ae)) (rows cols:Int):Option (Bool):=
 (Loop (li list rows cols list ((list.length:Nat):Int)) 0).bind (alt (fun e_2=>
 some false) (fun e_3=>
 some (decide (((list.length:Nat):Int)≤200))))
theorem A7 {list rows cols r} (h:nP list rows cols=some r):Call tab ow 178 [sl ai list,I rows,I cols] []=some (B r,[]):=by
 rw [ag (af:=ud) rfl]
 unfold nP at h
 simp only [ud,A6]
 have d1:= @NU
 exact go2
def nJ (s:aL):Option (Bool):=
 (gK s.Rows 1 5).bind fun r_=>
 br (!r_) (
 some false) (
 (gK s.Cols 2 5).bind fun r_2=>
 br (!r_2) (
 some false) (
 (cf s).bind fun r_3=>
 (gK s.Publics 0 (wrap .i64 (r_3-1))).bind fun r_4=>
 br (!r_4) (
 some false) (
 (ci s).bind fun r_5=>
 br (decide (0≤s.Rows)) (
 br (decide (0≤s.Cols)) (
 (nP r_5.1 (aP .i64 1 s.Rows) (aP .i64 1 s.Cols)).bind fun r_6=>
 br (!r_6) (
 some false) (
 br (decide (0≤s.Rows)) (
 br (decide (0≤s.Cols)) (
 (nP r_5.2.1 (aP .i64 1 s.Rows) (aP .i64 1 s.Cols)).bind fun r_7=>
 br (!r_7) (
 some false) (
 br (decide (0≤s.Rows)) (
 br (decide (0≤s.Cols)) (
 (nP r_5.2.2 (aP .i64 1 s.Rows) (aP .i64 1 s.Cols)).bind fun r_8=>
 br (!r_8) (
 some false) (
 some true)) none) none)) none) none)) none) none)))
theorem Ar {s r} (h:nJ s=some r):Call tab ow 86 [.agg [I s.Rows,I s.Cols,I s.Publics,sl ai s.A,sl ai s.B,sl ai s.C]] []=some (B r,[]):=by
 rw [ag (af:=uy) rfl]
 unfold nJ at h
 simp+decide only [uy,Ad,go_sem,reduceIte,Nat.reduceAdd,Int.reduceAdd,Int.reduceMul,Int.reduceSub]
 obtain ⟨r_,h1,h⟩:=bd h
 refine fU (xU h1) ?_
 simp+decide only [go_sem,reduceIte,Nat.reduceAdd,Int.reduceAdd,Int.reduceMul,Int.reduceSub]
 rcases brc h with ⟨hb,h⟩|⟨hb,h⟩
 ·refine yV hb ?_
  obtain rfl:=Option.some.inj h
  first|rfl| (simp only [List.length_set,go_sem];done)
 ·refine a6a hb ?_
  obtain ⟨r_2,h1,h⟩:=bd h
  refine fU (xU h1) ?_
  simp+decide only [go_sem,reduceIte,Nat.reduceAdd,Int.reduceAdd,Int.reduceMul,Int.reduceSub]
  rcases brc h with ⟨hb,h⟩|⟨hb,h⟩
  ·refine yV hb ?_
   obtain rfl:=Option.some.inj h
   first|rfl| (simp only [List.length_set,go_sem];done)
  ·refine a6a hb ?_
   obtain ⟨r_3,h1,h⟩:=bd h
   refine fU (fg h1) ?_
   simp+decide only [go_sem,reduceIte,Nat.reduceAdd,Int.reduceAdd,Int.reduceMul,Int.reduceSub]
   obtain ⟨r_4,h1,h⟩:=bd h
   refine fU (xU h1) ?_
   simp+decide only [go_sem,reduceIte,Nat.reduceAdd,Int.reduceAdd,Int.reduceMul,Int.reduceSub]
   rcases brc h with ⟨hb,h⟩|⟨hb,h⟩
   ·refine yV hb ?_
    obtain rfl:=Option.some.inj h
    first|rfl| (simp only [List.length_set,go_sem];done)
   ·refine a6a hb ?_
    obtain ⟨r_5,h1,h⟩:=bd h
    refine bC (ix h1) ?_
    simp+decide only [go_sem,reduceIte,Nat.reduceAdd,Int.reduceAdd,Int.reduceMul,Int.reduceSub]
    refine cQ ?_
    simp+decide only [mkL,go_sem,reduceIte,Nat.reduceAdd,Int.reduceAdd,Int.reduceMul,Int.reduceSub]
    obtain ⟨hb,h⟩:=brg h
    refine yV hb ?_
    obtain ⟨hb,h⟩:=brg h
    refine yV hb ?_
    obtain ⟨r_6,h1,h⟩:=bd h
    refine fU (A7 h1) ?_
    simp+decide only [go_sem,reduceIte,Nat.reduceAdd,Int.reduceAdd,Int.reduceMul,Int.reduceSub]
    rcases brc h with ⟨hb,h⟩|⟨hb,h⟩
    ·refine yV hb ?_
     obtain rfl:=Option.some.inj h
     first|rfl| (simp only [List.length_set,go_sem];done)
    ·refine a6a hb ?_
     refine cQ ?_
     simp+decide only [mkL,go_sem,reduceIte,Nat.reduceAdd,Int.reduceAdd,Int.reduceMul,Int.reduceSub]
     obtain ⟨hb,h⟩:=brg h
     refine yV hb ?_
     obtain ⟨hb,h⟩:=brg h
     refine yV hb ?_
     obtain ⟨r_7,h1,h⟩:=bd h
     refine fU (A7 h1) ?_
     simp+decide only [go_sem,reduceIte,Nat.reduceAdd,Int.reduceAdd,Int.reduceMul,Int.reduceSub]
     rcases brc h with ⟨hb,h⟩|⟨hb,h⟩
     ·refine yV hb ?_
      obtain rfl:=Option.some.inj h
      first|rfl| (simp only [List.length_set,go_sem];done)
     ·refine a6a hb ?_
      refine cQ ?_
      simp+decide only [mkL,go_sem,reduceIte,Nat.reduceAdd,Int.reduceAdd,Int.reduceMul,Int.reduceSub]
      obtain ⟨hb,h⟩:=brg h
      refine yV hb ?_
      obtain ⟨hb,h⟩:=brg h
      refine yV hb ?_
      obtain ⟨r_8,h1,h⟩:=bd h
      refine fU (A7 h1) ?_
      simp+decide only [go_sem,reduceIte,Nat.reduceAdd,Int.reduceAdd,Int.reduceMul,Int.reduceSub]
      rcases brc h with ⟨hb,h⟩|⟨hb,h⟩
      ·refine yV hb ?_
       obtain rfl:=Option.some.inj h
       first|rfl| (simp only [List.length_set,go_sem];done)
      ·refine a6a hb ?_
       refine cQ ?_
       simp+decide only [mkL,go_sem,reduceIte,Nat.reduceAdd,Int.reduceAdd,Int.reduceMul,Int.reduceSub]
       obtain rfl:=Option.some.inj h
       first|rfl| (simp only [List.length_set,go_sem];done)
def sn (s:aL) (t:Setting) (publics:(List Int)) (source:Source):Option (Int):=
 br (decide (((publics.length:Nat):Int)>4096)) (
 some 2) (
 (nJ s).bind fun r_=>
 br (!r_) (
 some 1) (
 (nY t).bind fun r_2=>
 br (!r_2) (
 some 1) (
 (bS publics).bind fun r_3=>
 br (!r_3) (
 some 1) (
 (nN source).bind fun r_4=>
 br (!r_4) (
 some 1) (
 br (((publics.length:Nat):Int) !=s.Publics) (
 some 17) (
 (ib source).bind fun r_5=>
 br (decide (r_5<200)) (
 some 6) (
 some 0)))))))
theorem Pt {s t publics source r} (h:sn s t publics source=some r):Call tab ow 88 [.agg [I s.Rows,I s.Cols,I s.Publics,sl ai s.A,sl ai s.B,sl ai s.C],.agg [I t.Rate,I t.Queries,I t.Grind],sl eI publics,.agg [sl ak source.Script,I source.At,S source.State,I source.Count]] []=some (I r,[]):=by
 rw [ag (af:=rk) rfl]
 unfold sn at h
 simp only [rk,EP]
 have d1:= @Ar
 have d2:= @Et
 have d3:= @ft
 have d4:= @Iy
 have d5:= @Ba
 exact go2
def sU (code:(List UInt8)):Option (Circuit):=
 (gS code).bind fun r_=>
 (iG r_).bind fun r_2=>
 some r_2.1
theorem PY {code r} (h:sU code=some r):Call tab ow 22 [sl eU8 code] []=some (.agg [sl bp r.Gates],[]):=by
 rw [ag (af:=rH) rfl]
 unfold sU at h
 simp only [rH,Ey]
 have d1:= @jT
 have d2:= @Fy
 exact go2
def w6 (code:(List UInt8)) (c:Circuit):Option (Handed):=
 (gS code).bind fun r_=>
 (jC c r_).bind fun r_2=>
 some (Handed.mk r_2.1 r_2.2.1)
theorem RZ {code c r} (h:w6 code c=some r):Call tab ow 23 [sl eU8 code,.agg [sl bp c.Gates]] []=some (.agg [sl eI r.Publics,sl eI r.Inputs],[]):=by
 rw [ag (af:=uv) rfl]
 unfold w6 at h
 simp only [uv,HE]
 have d1:= @jT
 have d2:= @H8
 exact go2
def oW (c:Circuit) (publics inputs:(List Int)):Option ((List Int)×Int):=
 (uP c publics inputs).bind fun r_=>
 br (r_ !=0) (
 some (([]:List Int),r_)) (
 (jK c publics inputs).bind fun r_2=>
 br (!r_2.2) (
 some (([]:List Int),15)) (
 some (r_2.1,0)))
theorem Nx {c publics inputs r} (h:oW c publics inputs=some r):Call tab ow 24 [.agg [sl bp c.Gates],sl eI publics,sl eI inputs] []=some (.tup [sl eI r.1,I r.2],[]):=by
 rw [ag (af:=oG) rfl]
 unfold oW at h
 simp only [oG,Cg]
 have d1:= @L4
 have d2:= @Be
 exact go2
def sK (code:(List UInt8)):Option (Setting):=
 (gS code).bind fun r_=>
 (ly r_).bind fun r_2=>
 some r_2.1
theorem PW {code r} (h:sK code=some r):Call tab ow 25 [sl eU8 code] []=some (.agg [I r.Rate,I r.Queries,I r.Grind],[]):=by
 rw [ag (af:=rC) rfl]
 unfold sK at h
 simp only [rC,Eg]
 have d1:= @jT
 have d2:= @FF
 exact go2
def vW (code:(List UInt8)):Option (Source):=
 (gS code).bind fun r_=>
 (mZ r_).bind fun r_2=>
 some r_2.1
theorem RN {code r} (h:vW code=some r):Call tab ow 26 [sl eU8 code] []=some (.agg [sl ak r.Script,I r.At,S r.State,I r.Count],[]):=by
 rw [ag (af:=uj) rfl]
 unfold vW at h
 simp only [uj,Ij]
 have d1:= @jT
 have d2:= @Is
 exact go2
def cn (a:Int):Option (Bool):=
 (jj a 0 2130706432).bind fun r_=>
 some r_
theorem L0 {a r} (h:cn a=some r):Call tab ow 229 [I a] []=some (B r,[]):=by
 rw [ag (af:=wY) rfl]
 unfold cn at h
 simp only [wY,Kr]
 have d1:= @D8
 exact go2
def yy (g:ah) (k:Int):Option (Bool):=
 (jj g.Op 1 8).bind fun r_=>
 br (!r_) (
 some false) (
 (dM g.Op).bind fun r_2=>
 br (decide (r_2>0)) (
 (jj g.A 0 (wrap .i64 (k-1))).bind fun r_3=>
 br (!r_3) (
 some false) (
 br (r_2==0) (
 br (g.A !=0) (
 some false) (
 br (decide (r_2>1)) (
 (jj g.B 0 (wrap .i64 (k-1))).bind fun r_4=>
 br (!r_4) (
 some false) (
 br (decide (r_2<2)) (
 br (g.B !=0) (
 some false) (
 br (g.Op==3) (
 (cn g.K).bind fun r_5=>
 some r_5) (
 some (g.K==0)))) (
 br (g.Op==3) (
 (cn g.K).bind fun r_6=>
 some r_6) (
 some (g.K==0))))) (
 br (decide (r_2<2)) (
 br (g.B !=0) (
 some false) (
 br (g.Op==3) (
 (cn g.K).bind fun r_7=>
 some r_7) (
 some (g.K==0)))) (
 br (g.Op==3) (
 (cn g.K).bind fun r_8=>
 some r_8) (
 some (g.K==0)))))) (
 br (decide (r_2>1)) (
 (jj g.B 0 (wrap .i64 (k-1))).bind fun r_9=>
 br (!r_9) (
 some false) (
 br (decide (r_2<2)) (
 br (g.B !=0) (
 some false) (
 br (g.Op==3) (
 (cn g.K).bind fun r_10=>
 some r_10) (
 some (g.K==0)))) (
 br (g.Op==3) (
 (cn g.K).bind fun r_11=>
 some r_11) (
 some (g.K==0))))) (
 br (decide (r_2<2)) (
 br (g.B !=0) (
 some false) (
 br (g.Op==3) (
 (cn g.K).bind fun r_12=>
 some r_12) (
 some (g.K==0)))) (
 br (g.Op==3) (
 (cn g.K).bind fun r_13=>
 some r_13) (
 some (g.K==0))))))) (
 br (r_2==0) (
 br (g.A !=0) (
 some false) (
 br (decide (r_2>1)) (
 (jj g.B 0 (wrap .i64 (k-1))).bind fun r_14=>
 br (!r_14) (
 some false) (
 br (decide (r_2<2)) (
 br (g.B !=0) (
 some false) (
 br (g.Op==3) (
 (cn g.K).bind fun r_15=>
 some r_15) (
 some (g.K==0)))) (
 br (g.Op==3) (
 (cn g.K).bind fun r_16=>
 some r_16) (
 some (g.K==0))))) (
 br (decide (r_2<2)) (
 br (g.B !=0) (
 some false) (
 br (g.Op==3) (
 (cn g.K).bind fun r_17=>
 some r_17) (
 some (g.K==0)))) (
 br (g.Op==3) (
 (cn g.K).bind fun r_18=>
 some r_18) (
 some (g.K==0)))))) (
 br (decide (r_2>1)) (
 (jj g.B 0 (wrap .i64 (k-1))).bind fun r_19=>
 br (!r_19) (
 some false) (
 br (decide (r_2<2)) (
 br (g.B !=0) (
 some false) (
 br (g.Op==3) (
 (cn g.K).bind fun r_20=>
 some r_20) (
 some (g.K==0)))) (
 br (g.Op==3) (
 (cn g.K).bind fun r_21=>
 some r_21) (
 some (g.K==0))))) (
 br (decide (r_2<2)) (
 br (g.B !=0) (
 some false) (
 br (g.Op==3) (
 (cn g.K).bind fun r_22=>
 some r_22) (
 some (g.K==0)))) (
 br (g.Op==3) (
 (cn g.K).bind fun r_23=>
 some r_23) (
 some (g.K==0)))))))
theorem Vb {g k r} (h:yy g k=some r):Call tab ow 260 [.agg [I g.Op,I g.A,I g.B,I g.K],I k] []=some (B r,[]):=by
 rw [ag (af:=xg) rfl]
 unfold yy at h
 simp only [xg,Kk]
 have d1:= @D8
 have d2:= @KW
 have d3:= @L0
 exact go2
def dm (c2:List ah):Int→Option ((Int)⊕(Unit⊕(Int×Bool)))
 |k=>
  br (decide (k<((c2.length:Nat):Int))) (
  (atL c2 k).bind fun x=>
  (yy x k).bind fun r_2=>
  br (!r_2) (
  some (.inr (.inl ()))) (
  some (.inl (wrap .i64 (k+1))))) (
  some (.inr (.inr (k,decide (k<((c2.length:Nat):Int))))))
abbrev B7 (c2:List ah) (s:Int):St:=⟨[(1,.ptr 1000 0 0 1),(3,I s)],[(1000,⟨1,true,[[sl bp c2]]⟩)]⟩
abbrev Bg (c2:List ah):(Unit⊕(Int×Bool))→aw×St:=alt (fun e=>((.ret,⟨[(2,B false)],[(1000,⟨1,true,[[sl bp c2]]⟩)]⟩):aw×St)) (fun e=>(.exit 0,⟨[(1,.ptr 1000 0 0 1),(3,I e.1),(13,B e.2)],[(1000,⟨1,true,[[sl bp c2]]⟩)]⟩))
theorem Lo {c2 s e} (h:Loop (dm c2) s=some e):aO tab ow (.close [7006]) AL (B7 c2 s)=some (Bg c2 e):=by
 refine lrG (fun s o h=> ?_) h
 simp only [dm] at h
 simp only [B7,Bg,AL,AT]
 have d1:= @Vb
 exact go2
def sj (c:Circuit):Option (Bool):=
 (jj ((c.Gates.length:Nat):Int) 1 15).bind fun r_=>
 br (!r_) (
 some false) (
 (Loop (dm c.Gates) 0).bind (alt (fun e_2=>
 some false) (fun e_3=>
 (ep c 2).bind fun r_3=>
 some (decide (r_3≤7)))))
theorem Qn {c r} (h:sj c=some r):Call tab ow 139 [.agg [sl bp c.Gates]] []=some (B r,[]):=by
 rw [ag (af:=rF) rfl]
 unfold sj at h
 simp only [rF,xG]
 have d1:= @D8
 have d2:= @Lo
 have d3:= @pc
 exact go2
def tl (list2:List Int):Int→Option ((Int)⊕(Unit⊕(Int×Bool)))
 |i=>
  br (decide (i<((list2.length:Nat):Int))) (
  (atL list2 i).bind fun x=>
  (cn x).bind fun r_=>
  br (!r_) (
  some (.inr (.inl ()))) (
  some (.inl (wrap .i64 (i+1))))) (
  some (.inr (.inr (i,decide (i<((list2.length:Nat):Int))))))
abbrev B2 (list2:List Int) (s:Int):St:=⟨[(0,sl eI list2),(3,I s)],[]⟩
abbrev Bi (list2:List Int):(Unit⊕(Int×Bool))→aw×St:=alt (fun e=>((.ret,⟨[(2,B false)],[]⟩):aw×St)) (fun e=>(.exit 0,⟨[(0,sl eI list2),(3,I e.1),(7,B e.2)],[]⟩))
theorem Lz {list2 s e} (h:Loop (tl list2) s=some e):aO tab ow (.close [5004]) AJ (B2 list2 s)=some (Bi list2 e):=by
 refine lrG (fun s o h=> ?_) h
 simp only [tl] at h
 simp only [B2,Bi,AJ,B9]
 have d1:= @L0
 exact go2
def o7 (list:(List Int)):Option (Bool):=
 (Loop (tl list) 0).bind (alt (fun e_2=>
 some false) (fun e_3=>
 some true))
theorem Pq {list r} (h:o7 list=some r):Call tab ow 242 [sl eI list] []=some (B r,[]):=by
 rw [ag (af:=rp) rfl]
 unfold o7 at h
 simp only [rp,xN]
 have d1:= @Lz
 exact go2
def BG (c:Circuit) (publics inputs:(List Int)):Option (Int):=
 br (decide (((publics.length:Nat):Int)>4096)) (
 some 2) (
 br (decide (((inputs.length:Nat):Int)>4096)) (
 some 2) (
 (sj c).bind fun r_=>
 br (!r_) (
 some 19) (
 (o7 publics).bind fun r_2=>
 br (!r_2) (
 some 1) (
 (o7 inputs).bind fun r_3=>
 br (!r_3) (
 some 1) (
 (ep c 2).bind fun r_4=>
 br (((publics.length:Nat):Int) !=r_4) (
 some 8) (
 (ep c 1).bind fun r_5=>
 br (((inputs.length:Nat):Int) !=r_5) (
 some 8) (
 some 0)))))))
theorem YK {c publics inputs r} (h:BG c publics inputs=some r):Call tab ow 124 [.agg [sl bp c.Gates],sl eI publics,sl eI inputs] []=some (I r,[]):=by
 rw [ag (af:=Ae) rfl]
 unfold BG at h
 simp only [Ae,NB]
 have d1:= @Qn
 have d2:= @Pq
 have d3:= @pc
 exact go2
section
theorem Lj:mkR 3000 []=rws eI []:=rfl
attribute [local go_sem] Lj
theorem LY:mkR 6000 []=rws eI []:=rfl
attribute [local go_sem] LY
theorem LA:mkR 9000 []=rws eI []:=rfl
attribute [local go_sem] LA
def p6 (c:Circuit) (publics inputs:(List Int)):Option ((List Int)×Int):=
 br (decide (((publics.length:Nat):Int)>4096)) (
 some (([]:List Int),2)) (
 br (decide (((inputs.length:Nat):Int)>4096)) (
 some (([]:List Int),2)) (
 (BG c publics inputs).bind fun r_=>
 br (r_ !=0) (
 some (([]:List Int),r_)) (
 (BT c publics inputs).bind fun r_2=>
 (ye c r_2).bind fun r_3=>
 br (!r_3) (
 some (([]:List Int),15)) (
 some (r_2,0)))))
theorem Oy {c publics inputs r} (h:p6 c publics inputs=some r):Call tab ow 35 [.agg [sl bp c.Gates],sl eI publics,sl eI inputs] []=some (.tup [sl eI r.1,I r.2],[]):=by
 rw [ag (af:=oZ) rfl]
 unfold p6 at h
 simp only [oZ,Ci]
 have d1:= @YK
 have d2:= @Zf
 have d3:= @Xs
 exact go2
end
section
theorem E0:mkR 2000 []=rws ai []:=rfl
attribute [local go_sem] E0
theorem DL:mkR 10007 []=rws ai []:=rfl
attribute [local go_sem] DL
def dB (rows3 cols3 r_2:Int):(List ae)×Int×(List UInt8)×Int×Int→Option (((List ae)×Int×(List UInt8)×Int×Int)⊕(((List ae)×Int×Bool×(List UInt8)×Int×Int)))
 | (l2,c4,c5,c6,c7)=>
   br (decide (0≤(wrap .u64 cols3))) (
   br (decide (c4<(aP .i64 1 (wrap .u64 cols3)))) (
   (aU 4 (aD.mk c5 c6 c7)).bind fun r_3=>
   br r_3.1 (
   (am r_3.2).bind fun r_4=>
   br (aB ((l2++([(ae.mk r_2 c4 (mx 1 r_4.1))]:List ae)).length) 24) (
   some (.inl ((l2++([(ae.mk r_2 c4 (mx 1 r_4.1))]:List ae)),(wrap .i64 (c4+1)),r_4.2.code,r_4.2.at_,r_4.2.seed))) none) (
   some (.inl (l2,(wrap .i64 (c4+1)),r_3.2.code,r_3.2.at_,r_3.2.seed)))) (
   some (.inr (l2,c4,decide (c4<(aP .i64 1 (wrap .u64 cols3))),c5,c6,c7)))) none
abbrev kB (l2:List ae) (c5:List UInt8) (c6 c7:Int):List (Nat×Blk):=[(0,⟨3,true,[[sl eU8 c5,I c6,I c7]]⟩),(2000,⟨3,false,rws ai l2⟩)]
abbrev rY (rows3 cols3 r_2:Int) (s:(List ae)×Int×(List UInt8)×Int×Int):St:=⟨[(0,.ptr 0 0 0 1),(1,I rows3),(2,I cols3),(7,.sl 2000 0 s.1.length),(8,I r_2),(9,I s.2.1)],kB s.1 s.2.2.1 s.2.2.2.1 s.2.2.2.2⟩
abbrev rR (rows3 cols3 r_2:Int):((List ae)×Int×Bool×(List UInt8)×Int×Int)→aw×St:=fun e=>(.exit 2,⟨[(0,.ptr 0 0 0 1),(1,I rows3),(2,I cols3),(7,.sl 2000 0 e.1.length),(8,I r_2),(9,I e.2.1),(22,B e.2.2.1)],kB e.1 e.2.2.2.1 e.2.2.2.2.1 e.2.2.2.2.2⟩)
theorem Cn {rows3 cols3 r_2 s e} (h:Loop (dB rows3 cols3 r_2) s=some e):aO tab ow (.close [9001,10004,10007,10008]) rQ (rY rows3 cols3 r_2 s)=some (rR rows3 cols3 r_2 e):=by
 refine lrG (fun s o h=> ?_) h
 obtain ⟨_,_,_,_,_⟩:=s
 simp only [dB] at h
 simp only [rY,rR,kB,rQ,so]
 have d1:= @cX
 have d2:= @fW
 exact go2
def eH (rows2 cols2:Int):(List ae)×Int×(List UInt8)×Int×Int→Option (((List ae)×Int×(List UInt8)×Int×Int)⊕(((List ae)×Int×Bool×(List UInt8)×Int×Int)))
 | (l,r_,c,c2,c3)=>
   br (decide (0≤(wrap .u64 rows2))) (
   br (decide (r_<(aP .i64 1 (wrap .u64 rows2)))) (
   (Loop (dB rows2 cols2 r_) (l,0,c,c2,c3)).bind fun e_=>
   some (.inl (e_.1,(wrap .i64 (r_+1)),e_.2.2.2.1,e_.2.2.2.2.1,e_.2.2.2.2.2))) (
   some (.inr (l,r_,decide (r_<(aP .i64 1 (wrap .u64 rows2))),c,c2,c3)))) none
abbrev kA (l:List ae) (c:List UInt8) (c2 c3:Int):List (Nat×Blk):=[(0,⟨3,true,[[sl eU8 c,I c2,I c3]]⟩),(2000,⟨3,false,rws ai l⟩)]
abbrev rT (rows2 cols2:Int) (s:(List ae)×Int×(List UInt8)×Int×Int):St:=⟨[(0,.ptr 0 0 0 1),(1,I rows2),(2,I cols2),(7,.sl 2000 0 s.1.length),(8,I s.2.1)],kA s.1 s.2.2.1 s.2.2.2.1 s.2.2.2.2⟩
abbrev sG (rows2 cols2:Int):((List ae)×Int×Bool×(List UInt8)×Int×Int)→aw×St:=fun e=>(.exit 0,⟨[(0,.ptr 0 0 0 1),(1,I rows2),(2,I cols2),(7,.sl 2000 0 e.1.length),(8,I e.2.1),(15,B e.2.2.1)],kA e.1 e.2.2.2.1 e.2.2.2.2.1 e.2.2.2.2.2⟩)
theorem CD {rows2 cols2 s e} (h:Loop (eH rows2 cols2) s=some e):aO tab ow (.close [9001,10004,10007,10008]) sO (rT rows2 cols2 s)=some (sG rows2 cols2 e):=by
 refine lrG (fun s o h=> ?_) h
 obtain ⟨_,_,_,_,_⟩:=s
 simp only [eH] at h
 simp only [rT,sG,kA,sO,sJ]
 have d1:= @Cn
 exact go2
def en (rows cols:Int) (m:aD):Option ((List ae)×aD):=
 (Loop (eH rows cols) (([]:List ae),0,m.code,m.at_,m.seed)).bind fun e_2=>
 some (e_2.1,(aD.mk e_2.2.2.2.1 e_2.2.2.2.2.1 e_2.2.2.2.2.2))
theorem FE {rows cols m r} (h:en rows cols m=some r):Call tab ow 246 [.ptr 0 0 0 1,I rows,I cols] [⟨3,true,[[sl eU8 m.code,I m.at_,I m.seed]]⟩]=some (sl ai r.1,[⟨3,true,[[sl eU8 r.2.code,I r.2.at_,I r.2.seed]]⟩]):=by
 rw [ag (af:=js) rfl]
 unfold en at h
 simp only [js,jh]
 have d1:= @CD
 exact go2
end
def jI (m:aD):Option (aL×aD):=
 (ab 2 m).bind fun r_=>
 (ab 2 r_.2).bind fun r_2=>
 br (decide (0≤(wrap .u64 (wrap .i64 ((wrap .i64 (2+r_2.1))-1))))) (
 (ab (aP .i64 1 (wrap .u64 (wrap .i64 ((wrap .i64 (2+r_2.1))-1)))) r_2.2).bind fun r_3=>
 (en (wrap .i64 (1+r_.1)) (wrap .i64 (2+r_2.1)) r_3.2).bind fun r_4=>
 (en (wrap .i64 (1+r_.1)) (wrap .i64 (2+r_2.1)) r_4.2).bind fun r_5=>
 (en (wrap .i64 (1+r_.1)) (wrap .i64 (2+r_2.1)) r_5.2).bind fun r_6=>
 some ((aL.mk (wrap .i64 (1+r_.1)) (wrap .i64 (2+r_2.1)) r_3.1 r_4.1 r_5.1 r_6.1),r_6.2)) none
theorem IG {m r} (h:jI m=some r):Call tab ow 129 [.ptr 0 0 0 1] [⟨3,true,[[sl eU8 m.code,I m.at_,I m.seed]]⟩]=some (.agg [I r.1.Rows,I r.1.Cols,I r.1.Publics,sl ai r.1.A,sl ai r.1.B,sl ai r.1.C],[⟨3,true,[[sl eU8 r.2.code,I r.2.at_,I r.2.seed]]⟩]):=by
 rw [ag (af:=kh) rfl]
 unfold jI at h
 simp only [kh,wE]
 have d1:= @cu
 have d2:= @FE
 exact go2
def mI (code:(List UInt8)):Option (aL):=
 (gS code).bind fun r_=>
 (jI r_).bind fun r_2=>
 some r_2.1
theorem LU {code r} (h:mI code=some r):Call tab ow 37 [sl eU8 code] []=some (.agg [I r.Rows,I r.Cols,I r.Publics,sl ai r.A,sl ai r.B,sl ai r.C],[]):=by
 rw [ag (af:=mU) rfl]
 unfold mI at h
 simp only [mU,Bb]
 have d1:= @jT
 have d2:= @IG
 exact go2
end
end Go.AI.Fn
set_option linter.unusedVariables false
set_option linter.unusedSimpArgs false
set_option maxRecDepth 100000
set_option maxHeartbeats 1000000
namespace Go.AI.Fn
noncomputable section
open IntKind (wrap)
section
theorem G3:mkR 2000 []=rws eI []:=rfl
attribute [local go_sem] G3
theorem Ff:mkR 6003 []=rws eI []:=rfl
attribute [local go_sem] Ff
def dO (n2:Int):(List Int)×Int×(List UInt8)×Int×Int→Option (((List Int)×Int×(List UInt8)×Int×Int)⊕(((List Int)×Int×Bool×(List UInt8)×Int×Int)))
 | (l,i,c,c2,c3)=>
   br (decide (i<n2)) (
   (am (aD.mk c c2 c3)).bind fun r_=>
   br (aB ((l++([r_.1]:List Int)).length) 8) (
   some (.inl ((l++([r_.1]:List Int)),(wrap .i64 (i+1)),r_.2.code,r_.2.at_,r_.2.seed))) none) (
   some (.inr (l,i,decide (i<n2),c,c2,c3)))
abbrev mf (l:List Int) (c:List UInt8) (c2 c3:Int):List (Nat×Blk):=[(0,⟨3,true,[[sl eU8 c,I c2,I c3]]⟩),(2000,⟨1,false,rws eI l⟩)]
abbrev tW (n2:Int) (s:(List Int)×Int×(List UInt8)×Int×Int):St:=⟨[(0,.ptr 0 0 0 1),(1,I n2),(5,.sl 2000 0 s.1.length),(6,I s.2.1)],mf s.1 s.2.2.1 s.2.2.2.1 s.2.2.2.2⟩
abbrev tz (n2:Int):((List Int)×Int×Bool×(List UInt8)×Int×Int)→aw×St:=fun e=>(.exit 0,⟨[(0,.ptr 0 0 0 1),(1,I n2),(5,.sl 2000 0 e.1.length),(6,I e.2.1),(10,B e.2.2.1)],mf e.1 e.2.2.2.1 e.2.2.2.2.1 e.2.2.2.2.2⟩)
theorem DB {n2 s e} (h:Loop (dO n2) s=some e):aO tab ow (.close [6002,6003,6004]) tS (tW n2 s)=some (tz n2 e):=by
 refine lrG (fun s o h=> ?_) h
 obtain ⟨_,_,_,_,_⟩:=s
 simp only [dO] at h
 simp only [tW,tz,mf,tS,tH]
 have d1:= @fW
 exact go2
def jy (n:Int) (m:aD):Option ((List Int)×aD):=
 (Loop (dO n) (([]:List Int),0,m.code,m.at_,m.seed)).bind fun e_=>
 some (e_.1,(aD.mk e_.2.2.2.1 e_.2.2.2.2.1 e_.2.2.2.2.2))
theorem Iu {n m r} (h:jy n m=some r):Call tab ow 130 [.ptr 0 0 0 1,I n] [⟨3,true,[[sl eU8 m.code,I m.at_,I m.seed]]⟩]=some (sl eI r.1,[⟨3,true,[[sl eU8 r.2.code,I r.2.at_,I r.2.seed]]⟩]):=by
 rw [ag (af:=ko) rfl]
 unfold jy at h
 simp only [ko,oQ]
 have d1:= @DB
 exact go2
end
def oe (code:(List UInt8)) (n:Int):Option ((List Int)):=
 (gS code).bind fun r_=>
 (jy n r_).bind fun r_2=>
 some r_2.1
theorem PB {code n r} (h:oe code n=some r):Call tab ow 38 [sl eU8 code,I n] []=some (sl eI r,[]):=by
 rw [ag (af:=rD) rfl]
 unfold oe at h
 simp only [rD,EG]
 have d1:= @jT
 have d2:= @Iu
 exact go2
def vY (s:aL) (publics privates:(List Int)):Option ((List Int)×Int):=
 br (decide (((publics.length:Nat):Int)>4096)) (
 some (([]:List Int),2)) (
 br (decide (((privates.length:Nat):Int)>4096)) (
 some (([]:List Int),2)) (
 (nJ s).bind fun r_=>
 br (!r_) (
 some (([]:List Int),1)) (
 (bS publics).bind fun r_2=>
 br (!r_2) (
 some (([]:List Int),1)) (
 (bS privates).bind fun r_3=>
 br (!r_3) (
 some (([]:List Int),1)) (
 br (((publics.length:Nat):Int) !=s.Publics) (
 some (([]:List Int),8)) (
 (cf s).bind fun r_4=>
 br (decide (((privates.length:Nat):Int)>r_4)) (
 some (([]:List Int),8)) (
 (dU s publics privates).bind fun r_5=>
 some (r_5,0))))))))
theorem TX {s publics privates r} (h:vY s publics privates=some r):Call tab ow 39 [.agg [I s.Rows,I s.Cols,I s.Publics,sl ai s.A,sl ai s.B,sl ai s.C],sl eI publics,sl eI privates] []=some (.tup [sl eI r.1,I r.2],[]):=by
 rw [ag (af:=ug) rfl]
 unfold vY at h
 simp only [ug,GO]
 have d1:= @Ar
 have d2:= @ft
 have d3:= @fg
 have d4:= @oA
 exact go2
def rj (s:aL) (z:(List Int)):Option (Int):=
 br (decide (((z.length:Nat):Int)>4096)) (
 some 2) (
 (nJ s).bind fun r_=>
 br (!r_) (
 some 1) (
 (bS z).bind fun r_2=>
 br (!r_2) (
 some 1) (
 br (decide (0≤s.Cols)) (
 br (((z.length:Nat):Int) !=(aP .i64 1 s.Cols)) (
 some 8) (
 some 0)) none)))
theorem LV {s z r} (h:rj s z=some r):Call tab ow 134 [.agg [I s.Rows,I s.Cols,I s.Publics,sl ai s.A,sl ai s.B,sl ai s.C],sl eI z] []=some (I r,[]):=by
 rw [ag (af:=na) rfl]
 unfold rj at h
 simp only [na,Bh]
 have d1:= @Ar
 have d2:= @ft
 exact go2
def bX (a b c:List Int) (t c2 c3 c4:Int) (c5 c6 c7:List ae):Int→Option ((Int)⊕(Int⊕(Int×Bool)))
 |t2=>
  br (decide (t2<t)) (
  (atL a t2).bind fun x=>
  (atL b t2).bind fun x2=>
  (mK x x2).bind fun r_4=>
  (atL c t2).bind fun x3=>
  br (r_4 !=x3) (
  some (.inr (.inl t2))) (
  some (.inl (wrap .i64 (t2+1))))) (
  some (.inr (.inr (t2,decide (t2<t)))))
abbrev ir (c2 c3 c4:Int) (c5 c6 c7:List ae):List (Nat×Blk):=[(1000,⟨6,true,[[I c2,I c3,I c4,sl ai c5,sl ai c6,sl ai c7]]⟩)]
abbrev tU (a b c:List Int) (t c2 c3 c4:Int) (c5 c6 c7:List ae) (s:Int):St:=⟨[(5,sl eI a),(6,sl eI b),(7,sl eI c),(28,I t),(29,I s)],ir c2 c3 c4 c5 c6 c7⟩
abbrev u3 (a b c:List Int) (t c2 c3 c4:Int) (c5 c6 c7:List ae):(Int⊕(Int×Bool))→aw×St:=alt (fun e=>((.ret,⟨[(4,I e)],ir c2 c3 c4 c5 c6 c7⟩):aw×St)) (fun e=>(.exit 0,⟨[(5,sl eI a),(6,sl eI b),(7,sl eI c),(28,I t),(29,I e.1),(30,B e.2)],ir c2 c3 c4 c5 c6 c7⟩))
theorem DP {a b c t c2 c3 c4 c5 c6 c7 s e} (h:Loop (bX a b c t c2 c3 c4 c5 c6 c7) s=some e):aO tab ow (.close [6008]) tC (tU a b c t c2 c3 c4 c5 c6 c7 s)=some (u3 a b c t c2 c3 c4 c5 c6 c7 e):=by
 refine lrG (fun s o h=> ?_) h
 simp only [bX] at h
 simp only [tU,u3,ir,tC,tJ]
 have d1:= @uB
 exact go2
def gR (s:aL) (z:(List Int)):Option (Int):=
 (iP s.A s.Rows z).bind fun r_=>
 (iP s.B s.Rows z).bind fun r_2=>
 (iP s.C s.Rows z).bind fun r_3=>
 (Loop (bX r_ r_2 r_3 ((r_.length:Nat):Int) s.Rows s.Cols s.Publics s.A s.B s.C) 0).bind (alt (fun e_2=>
 some e_2) (fun e_3=>
 some (-1:Int)))
theorem wx {s z r} (h:gR s z=some r):Call tab ow 135 [.agg [I s.Rows,I s.Cols,I s.Publics,sl ai s.A,sl ai s.B,sl ai s.C],sl eI z] []=some (I r,[]):=by
 rw [ag (af:=km) rfl]
 unfold gR at h
 simp only [km,oY]
 have d1:= @xA
 have d2:= @DP
 exact go2
def sv (s:aL) (z:(List Int)):Option (Bool×Int):=
 (rj s z).bind fun r_=>
 br (r_ !=0) (
 some (false,r_)) (
 (gR s z).bind fun r_2=>
 some (decide (r_2<0),0))
theorem Px {s z r} (h:sv s z=some r):Call tab ow 40 [.agg [I s.Rows,I s.Cols,I s.Publics,sl ai s.A,sl ai s.B,sl ai s.C],sl eI z] []=some (.tup [B r.1,I r.2],[]):=by
 rw [ag (af:=rv) rfl]
 unfold sv at h
 simp only [rv,F7]
 have d1:= @LV
 have d2:= @wx
 exact go2
def Gn (s:aL) (t:Setting) (publics privates:(List Int)) (source:Source):Option (il×Int):=
 br (decide (((privates.length:Nat):Int)>4096)) (
 some ((il.mk (([]:List UInt8)) ([]:List (List Ext)) (Ext.mk 0 0) (Ext.mk 0 0) (Ext.mk 0 0) ([]:List (List Ext)) (Ext.mk 0 0) (aV.mk ([]:List (List Ext)) ([]:List (List UInt8)) (Ext.mk 0 0) 0 ([]:List cc))),2)) (
 (sn s t publics source).bind fun r_=>
 br (r_ !=0) (
 some ((il.mk (([]:List UInt8)) ([]:List (List Ext)) (Ext.mk 0 0) (Ext.mk 0 0) (Ext.mk 0 0) ([]:List (List Ext)) (Ext.mk 0 0) (aV.mk ([]:List (List Ext)) ([]:List (List UInt8)) (Ext.mk 0 0) 0 ([]:List cc))),r_)) (
 (bS privates).bind fun r_2=>
 br (!r_2) (
 some ((il.mk (([]:List UInt8)) ([]:List (List Ext)) (Ext.mk 0 0) (Ext.mk 0 0) (Ext.mk 0 0) ([]:List (List Ext)) (Ext.mk 0 0) (aV.mk ([]:List (List Ext)) ([]:List (List UInt8)) (Ext.mk 0 0) 0 ([]:List cc))),1)) (
 (cf s).bind fun r_3=>
 br (decide (((privates.length:Nat):Int)>r_3)) (
 some ((il.mk (([]:List UInt8)) ([]:List (List Ext)) (Ext.mk 0 0) (Ext.mk 0 0) (Ext.mk 0 0) ([]:List (List Ext)) (Ext.mk 0 0) (aV.mk ([]:List (List Ext)) ([]:List (List UInt8)) (Ext.mk 0 0) 0 ([]:List cc))),8)) (
 (dU s publics privates).bind fun r_4=>
 (gR s r_4).bind fun r_5=>
 br (decide (r_5≥0)) (
 some ((il.mk (([]:List UInt8)) ([]:List (List Ext)) (Ext.mk 0 0) (Ext.mk 0 0) (Ext.mk 0 0) ([]:List (List Ext)) (Ext.mk 0 0) (aV.mk ([]:List (List Ext)) ([]:List (List UInt8)) (Ext.mk 0 0) 0 ([]:List cc))),15)) (
 (ze s t publics r_4 source).bind fun r_6=>
 some (r_6.1,r_6.2))))))
theorem a5n {s t publics privates source r} (h:Gn s t publics privates source=some r):Call tab ow 41 [.agg [I s.Rows,I s.Cols,I s.Publics,sl ai s.A,sl ai s.B,sl ai s.C],.agg [I t.Rate,I t.Queries,I t.Grind],sl eI publics,sl eI privates,.agg [sl ak source.Script,I source.At,S source.State,I source.Count]] []=some (.tup [.agg [S r.1.Root,sl (eL ak) r.1.Gates,I r.1.VA.A,I r.1.VA.B,I r.1.VB.A,I r.1.VB.B,I r.1.VC.A,I r.1.VC.B,sl (eL ak) r.1.Wires,I r.1.VW.A,I r.1.VW.B,sl (eL ak) r.1.Open.Rounds,sl eS r.1.Open.Roots,I r.1.Open.Last.A,I r.1.Open.Last.B,I r.1.Open.Nonce,sl di r.1.Open.Queries],I r.2],[]):=by
 rw [ag (af:=De) rfl]
 unfold Gn at h
 simp only [De,QE]
 have d1:= @Pt
 have d2:= @ft
 have d3:= @fg
 have d4:= @oA
 have d5:= @wx
 have d6:= @Pf
 exact go2
def mX (ListtoArray a:(List UInt8)):Option (Bool):=
 br (decide (((ListtoArray.length:Nat):Int)>1048576)) (
 some true) (
 br (decide (((a.length:Nat):Int)>1048576)) (
 some true) (
 (sU ListtoArray).bind fun r_=>
 (w6 a r_).bind fun r_2=>
 (sK ListtoArray).bind fun r_3=>
 (vW a).bind fun r_4=>
 (oW r_ r_2.Publics r_2.Inputs).bind fun r_5=>
 (p6 r_ r_2.Publics r_2.Inputs).bind fun r_6=>
 (kW r_ r_3 r_2.Publics r_2.Inputs r_4).bind fun r_7=>
 br (r_5.2 !=r_6.2) (
 some false) (
 (o6 r_).bind fun r_8=>
 br (!r_8) (
 some false) (
 br (r_5.2==0) (
 br (r_7.2==0) (
 some true) (
 some (r_7.2==14))) (
 (mI ListtoArray).bind fun r_9=>
 (oe a r_9.Publics).bind fun r_10=>
 (oe a 1).bind fun r_11=>
 (vY r_9 r_10 r_11).bind fun r_12=>
 (sv r_9 r_12.1).bind fun r_13=>
 (Gn r_9 r_3 r_10 r_11 r_4).bind fun r_14=>
 br (r_7.2==15) (
 br (r_12.2==0) (
 br (r_13.2==0) (
 br r_13.1 (
 br (r_14.2==0) (
 some true) (
 br (r_14.2==14) (
 some true) (
 br (!r_13.1) (
 some (r_14.2==15)) (
 some false)))) (
 br (!r_13.1) (
 some (r_14.2==15)) (
 some false))) (
 some false)) (
 some false)) (
 some false))))))
theorem w_FnUnsatisfied_c {ListtoArray a r} (h:mX ListtoArray a=some r):Call tab ow 5 [sl eU8 ListtoArray,sl eU8 a] []=some (B r,[]):=by
 rw [ag (af:=a_w_FnUnsatisfied) rfl]
 unfold mX at h
 simp only [a_w_FnUnsatisfied,xp]
 have d1:= @PY
 have d2:= @RZ
 have d3:= @PW
 have d4:= @RN
 have d5:= @Nx
 have d6:= @Oy
 have d7:= @K3
 have d8:= @Ef
 have d9:= @LU
 have d10:= @PB
 have d11:= @TX
 have d12:= @Px
 have d13:= @a5n
 exact go2
end
end Go.AI.Fn
