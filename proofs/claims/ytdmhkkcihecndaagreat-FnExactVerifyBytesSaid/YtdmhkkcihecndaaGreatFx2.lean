/- Walks through the program, with open values. -/
import Derived.Test.YtdmhkkcihecndaaGreatFx1
set_option linter.unusedVariables false
set_option linter.unusedSimpArgs false
set_option maxRecDepth 100000
set_option maxHeartbeats 1000000
namespace Go.AI.Fn
noncomputable section
open IntKind (wrap)
section
theorem RH:mkR 11008 []=rws eExt []:=rfl
attribute [local go_sem] RH
def gx (ListtoArray2:List (List UInt8)) (t:Int) (t4:List Ext) (c:List (List Ext)) (c2:List (List UInt8)) (c3 c4 c5:Int) (c6:List aj) (c7:List Ext) (c8:List (List (List UInt8))):Int×Int×Int×Int×Int→Option ((Int×Int×Int×Int×Int)⊕((Int×Int×Int×Int×Int×Int×Int)⊕(Int×Int×Int×Bool×Int×Int)))
 | (t2,t3,t5,c9,c10)=>
   br (decide (t5<t)) (
   br (decide ((wrap .i64 (t2.tdiv 2))≠0)) (
   (atL c7 (wrap .i64 (2*t5))).bind fun x=>
   (atL c7 (wrap .i64 ((wrap .i64 (2*t5))+1))).bind fun x2=>
   (atL ListtoArray2 t5).bind fun x3=>
   (pu ([x,x2]:List Ext)).bind fun r_=>
   (atL c8 t5).bind fun x4=>
   (oQ x3 (wrap .i64 (t2.tdiv 2)) (t3.tmod (wrap .i64 (t2.tdiv 2))) r_ x4).bind fun r_2=>
   br (!r_2) (
   some (.inr (.inl (9,c9,c10,x.A,x.B,x2.A,x2.B)))) (
   br (decide (t5>0)) (
   br (decide (t3<(wrap .i64 (t2.tdiv 2)))) (
   br (x.A==c9) (
   br (x.B==c10) (
   br (!decide (t3<(wrap .i64 (t2.tdiv 2)))) (
   br (x2.A==c9) (
   br (x2.B==c10) (
   (atL t4 t5).bind fun x5=>
   (kR t2 (t3.tmod (wrap .i64 (t2.tdiv 2))) x x2 x5).bind fun r_3=>
   some (.inl ((wrap .i64 (t2.tdiv 2)),(t3.tmod (wrap .i64 (t2.tdiv 2))),(wrap .i64 (t5+1)),r_3.A,r_3.B))) (
   some (.inr (.inl (12,c9,c10,x.A,x.B,x2.A,x2.B))))) (
   some (.inr (.inl (12,c9,c10,x.A,x.B,x2.A,x2.B))))) (
   (atL t4 t5).bind fun x6=>
   (kR t2 (t3.tmod (wrap .i64 (t2.tdiv 2))) x x2 x6).bind fun r_4=>
   some (.inl ((wrap .i64 (t2.tdiv 2)),(t3.tmod (wrap .i64 (t2.tdiv 2))),(wrap .i64 (t5+1)),r_4.A,r_4.B)))) (
   some (.inr (.inl (12,c9,c10,x.A,x.B,x2.A,x2.B))))) (
   some (.inr (.inl (12,c9,c10,x.A,x.B,x2.A,x2.B))))) (
   br (!decide (t3<(wrap .i64 (t2.tdiv 2)))) (
   br (x2.A==c9) (
   br (x2.B==c10) (
   (atL t4 t5).bind fun x7=>
   (kR t2 (t3.tmod (wrap .i64 (t2.tdiv 2))) x x2 x7).bind fun r_5=>
   some (.inl ((wrap .i64 (t2.tdiv 2)),(t3.tmod (wrap .i64 (t2.tdiv 2))),(wrap .i64 (t5+1)),r_5.A,r_5.B))) (
   some (.inr (.inl (12,c9,c10,x.A,x.B,x2.A,x2.B))))) (
   some (.inr (.inl (12,c9,c10,x.A,x.B,x2.A,x2.B))))) (
   (atL t4 t5).bind fun x8=>
   (kR t2 (t3.tmod (wrap .i64 (t2.tdiv 2))) x x2 x8).bind fun r_6=>
   some (.inl ((wrap .i64 (t2.tdiv 2)),(t3.tmod (wrap .i64 (t2.tdiv 2))),(wrap .i64 (t5+1)),r_6.A,r_6.B))))) (
   (atL t4 t5).bind fun x9=>
   (kR t2 (t3.tmod (wrap .i64 (t2.tdiv 2))) x x2 x9).bind fun r_7=>
   some (.inl ((wrap .i64 (t2.tdiv 2)),(t3.tmod (wrap .i64 (t2.tdiv 2))),(wrap .i64 (t5+1)),r_7.A,r_7.B))))) none) (
   some (.inr (.inr (t2,t3,t5,decide (t5<t),c9,c10))))
abbrev tU (c:List (List Ext)) (c2:List (List UInt8)) (c3 c4 c5:Int) (c6:List aj) (c7:List Ext) (c8:List (List (List UInt8))) (c9 c10:Int):List (Nat×Blk):=[(1000,⟨6,true,[[sl (eL eExt) c,sl eS c2,I c3,I c4,I c5,sl aE c6]]⟩),(1001,⟨2,true,[[sl eExt c7,sl (eL eS) c8]]⟩),(2001,⟨2,true,[[I c9,I c10]]⟩)]
abbrev CJ (ListtoArray2:List (List UInt8)) (t:Int) (t4:List Ext) (c:List (List Ext)) (c2:List (List UInt8)) (c3 c4 c5:Int) (c6:List aj) (c7:List Ext) (c8:List (List (List UInt8))) (s:Int×Int×Int×Int×Int):St:=⟨[(0,sl eS ListtoArray2),(1,I t),(2,I s.1),(3,I s.2.1),(4,sl eExt t4),(12,.ptr 1000 0 0 1),(13,.ptr 1001 0 0 1),(15,.ptr 2001 0 0 1),(16,I s.2.2.1)],tU c c2 c3 c4 c5 c6 c7 c8 s.2.2.2.1 s.2.2.2.2⟩
abbrev By (ListtoArray2:List (List UInt8)) (t:Int) (t4:List Ext) (c:List (List Ext)) (c2:List (List UInt8)) (c3 c4 c5:Int) (c6:List aj) (c7:List Ext) (c8:List (List (List UInt8))):((Int×Int×Int×Int×Int×Int×Int)⊕(Int×Int×Int×Bool×Int×Int))→ag×St:=alt (fun e=>((.ret,⟨[(14,I e.1)],[(1000,⟨6,true,[[sl (eL eExt) c,sl eS c2,I c3,I c4,I c5,sl aE c6]]⟩),(1001,⟨2,true,[[sl eExt c7,sl (eL eS) c8]]⟩),(2001,⟨2,true,[[I e.2.1,I e.2.2.1]]⟩),(9006,⟨2,true,[[I e.2.2.2.1,I e.2.2.2.2.1]]⟩),(10007,⟨2,true,[[I e.2.2.2.2.2.1,I e.2.2.2.2.2.2]]⟩),(11008,jR)]⟩):ag×St)) (fun e=>(.exit 0,⟨[(0,sl eS ListtoArray2),(1,I t),(2,I e.1),(3,I e.2.1),(4,sl eExt t4),(12,.ptr 1000 0 0 1),(13,.ptr 1001 0 0 1),(15,.ptr 2001 0 0 1),(16,I e.2.2.1),(24,B e.2.2.2.1)],tU c c2 c3 c4 c5 c6 c7 c8 e.2.2.2.2.1 e.2.2.2.2.2⟩))
theorem Pb {ListtoArray2 t t4 c c2 c3 c4 c5 c6 c7 c8 s e} (h:Loop (gx ListtoArray2 t t4 c c2 c3 c4 c5 c6 c7 c8) s=some e):aq tab ow (.close [9006,10007,11008,11009,11016,15008]) Cl (CJ ListtoArray2 t t4 c c2 c3 c4 c5 c6 c7 c8 s)=some (By ListtoArray2 t t4 c c2 c3 c4 c5 c6 c7 c8 e):=by
 refine lrG (fun s o h=> ?_) h
 obtain ⟨_,_,_,_,_⟩:=s
 simp only [gx] at h
 simp only [CJ,By,tU,Cl,BX]
 have d1:= @IE
 have d2:= @VD
 have d3:= @a0i
 exact go2
def yR (ListtoArray:(List (List UInt8))) (a a2 a3:Int) (a4:(List Ext)) (a5:au) (a6:aj):Option (Int):=
 (Loop (gx ListtoArray a a4 a5.Rounds a5.Roots a5.Last.A a5.Last.B a5.Nonce a5.Queries a6.Pairs a6.Paths) (a2,a3,0,0,0)).bind (alt (fun e_2=>
 some e_2.1) (fun e_3=>
 br (e_3.2.2.2.2.1==a5.Last.A) (
 br (e_3.2.2.2.2.2==a5.Last.B) (
 some 0) (
 some 13)) (
 some 13)))
theorem Uf {ListtoArray a a2 a3 a4 a5 a6 r} (h:yR ListtoArray a a2 a3 a4 a5 a6=some r):Call tab ow 202 [sl eS ListtoArray,I a,I a2,I a3,sl eExt a4,.agg [sl (eL eExt) a5.Rounds,sl eS a5.Roots,I a5.Last.A,I a5.Last.B,I a5.Nonce,sl aE a5.Queries],.agg [sl eExt a6.Pairs,sl (eL eS) a6.Paths]] []=some (I r,[]):=by
 rw [ab (af:=sW) rfl]
 unfold yR at h
 simp only [sW,zl]
 have d1:= @Pb
 exact go2
end
section
theorem QL:mkR 2001 []=rws eS []:=rfl
attribute [local go_sem] QL
theorem Rq:mkR 3000 []=rws eExt []:=rfl
attribute [local go_sem] Rq
theorem Sd:mkR 15002 []=rws eExt []:=rfl
attribute [local go_sem] Sd
theorem R3:mkR 20003 []=rws eExt []:=rfl
attribute [local go_sem] R3
def cO (l:List (List UInt8)) (t:Int) (t2:List Ext) (c c2 c3 c4 c5:Int) (c6:List (List Ext)) (c7:List (List UInt8)) (c8 c9 c10:Int) (c11:List aj) (c16:Int) (c17:List UInt8) (c18:Int):(List Ext)×Int×(List Ext)×Int×(List UInt8)×Int×Int×Int→Option (((List Ext)×Int×(List Ext)×Int×(List UInt8)×Int×Int×Int)⊕(((List Ext)×(List Ext)×Int×(List UInt8)×Int×(List Ext)×Int×(List UInt8)×Int×Int×Int)⊕((List Ext)×Int×Bool×(List Ext)×Int×(List UInt8)×Int×Int×Int)))
 | (l2,t3,c12,c13,c14,c15,c19,c20)=>
   br (decide (t3<t)) (
   (atL c6 t3).bind fun x=>
   (atL x 0).bind fun x2=>
   (atL x 1).bind fun x3=>
   (fG x2 x3).bind fun r_=>
   br (r_.A==c19) (
   br (r_.B==c20) (
   (iH (Source.mk c12 c13 c14 c15) x).bind fun r_2=>
   (nA r_2).bind fun r_3=>
   (tT x r_3.2).bind fun r_4=>
   br (bE ((l2++([r_3.2]:List Ext)).length) 16) (
   br (decide ((wrap .i64 (t3+1))<t)) (
   (atL c7 t3).bind fun x4=>
   (hU r_3.1 x4).bind fun r_5=>
   some (.inl ((l2++([r_3.2]:List Ext)),(wrap .i64 (t3+1)),r_5.Script,r_5.At,r_5.State,r_5.Count,r_4.A,r_4.B))) (
   some (.inl ((l2++([r_3.2]:List Ext)),(wrap .i64 (t3+1)),r_3.1.Script,r_3.1.At,r_3.1.State,r_3.1.Count,r_4.A,r_4.B)))) none) (
   some (.inr (.inl (l2,c12,c13,c14,c15,c12,c13,c14,c15,c19,c20))))) (
   some (.inr (.inl (l2,c12,c13,c14,c15,c12,c13,c14,c15,c19,c20))))) (
   some (.inr (.inr (l2,t3,decide (t3<t),c12,c13,c14,c15,c19,c20))))
abbrev uR (l:List (List UInt8)) (c c2 c3 c4 c5:Int) (c6:List (List Ext)) (c7:List (List UInt8)) (c8 c9 c10:Int) (c11:List aj) (c16:Int) (c17:List UInt8) (c18:Int) (l2 c12:List Ext) (c13:Int) (c14:List UInt8) (c15 c19 c20:Int):List (Nat×Blk):=[(1000,⟨2,true,[[I c,I c2]]⟩),(1001,⟨3,true,[[I c3,I c4,I c5]]⟩),(1002,⟨6,true,[[sl (eL eExt) c6,sl eS c7,I c8,I c9,I c10,sl aE c11]]⟩),(1003,⟨4,true,[[sl eExt c12,I c13,S c14,I c15]]⟩),(1004,⟨4,true,[[.lit (.slice none 0 0),I c16,S c17,I c18]]⟩),(2001,⟨1,false,rws eS l⟩),(3000,⟨2,false,rws eExt l2⟩),(4001,⟨2,true,[[I c19,I c20]]⟩)]
abbrev C9 (l:List (List UInt8)) (t:Int) (t2:List Ext) (c c2 c3 c4 c5:Int) (c6:List (List Ext)) (c7:List (List UInt8)) (c8 c9 c10:Int) (c11:List aj) (c16:Int) (c17:List UInt8) (c18:Int) (s:(List Ext)×Int×(List Ext)×Int×(List UInt8)×Int×Int×Int):St:=⟨[(1,I t),(2,sl eExt t2),(11,.ptr 1001 0 0 1),(12,.ptr 1002 0 0 1),(13,.ptr 1003 0 0 1),(14,.ptr 1004 0 0 1),(16,.sl 2001 0 l.length),(17,.sl 3000 0 s.1.length),(18,.ptr 4001 0 0 1),(19,I s.2.1)],uR l c c2 c3 c4 c5 c6 c7 c8 c9 c10 c11 c16 c17 c18 s.1 s.2.2.1 s.2.2.2.1 s.2.2.2.2.1 s.2.2.2.2.2.1 s.2.2.2.2.2.2.1 s.2.2.2.2.2.2.2⟩
abbrev Dg (l:List (List UInt8)) (t:Int) (t2:List Ext) (c c2 c3 c4 c5:Int) (c6:List (List Ext)) (c7:List (List UInt8)) (c8 c9 c10:Int) (c11:List aj) (c16:Int) (c17:List UInt8) (c18:Int):(((List Ext)×(List Ext)×Int×(List UInt8)×Int×(List Ext)×Int×(List UInt8)×Int×Int×Int)⊕((List Ext)×Int×Bool×(List Ext)×Int×(List UInt8)×Int×Int×Int))→ag×St:=alt (fun e=>((.ret,⟨[(14,.ptr 1004 0 0 1),(15,I 10)],[(1000,⟨2,true,[[I c,I c2]]⟩),(1001,⟨3,true,[[I c3,I c4,I c5]]⟩),(1002,⟨6,true,[[sl (eL eExt) c6,sl eS c7,I c8,I c9,I c10,sl aE c11]]⟩),(1003,⟨4,true,[[sl eExt e.2.1,I e.2.2.1,S e.2.2.2.1,I e.2.2.2.2.1]]⟩),(1004,⟨4,true,[[sl eExt e.2.2.2.2.2.1,I e.2.2.2.2.2.2.1,S e.2.2.2.2.2.2.2.1,I e.2.2.2.2.2.2.2.2.1]]⟩),(2001,⟨1,false,rws eS l⟩),(3000,⟨2,false,rws eExt e.1⟩),(4001,⟨2,true,[[I e.2.2.2.2.2.2.2.2.2.1,I e.2.2.2.2.2.2.2.2.2.2]]⟩)]⟩):ag×St)) (fun e=>(.exit 0,⟨[(1,I t),(2,sl eExt t2),(11,.ptr 1001 0 0 1),(12,.ptr 1002 0 0 1),(13,.ptr 1003 0 0 1),(14,.ptr 1004 0 0 1),(16,.sl 2001 0 l.length),(17,.sl 3000 0 e.1.length),(18,.ptr 4001 0 0 1),(19,I e.2.1),(36,B e.2.2.1)],uR l c c2 c3 c4 c5 c6 c7 c8 c9 c10 c11 c16 c17 c18 e.1 e.2.2.2.1 e.2.2.2.2.1 e.2.2.2.2.2.1 e.2.2.2.2.2.2.1 e.2.2.2.2.2.2.2.1 e.2.2.2.2.2.2.2.2⟩))
theorem Pj {l t t2 c c2 c3 c4 c5 c6 c7 c8 c9 c10 c11 c16 c17 c18 s e} (h:Loop (cO l t t2 c c2 c3 c4 c5 c6 c7 c8 c9 c10 c11 c16 c17 c18) s=some e):aq tab ow (.close [9006,11002,12001,12005,12006,14002,15002,15003,17006]) Bs (C9 l t t2 c c2 c3 c4 c5 c6 c7 c8 c9 c10 c11 c16 c17 c18 s)=some (Dg l t t2 c c2 c3 c4 c5 c6 c7 c8 c9 c10 c11 c16 c17 c18 e):=by
 refine lrG (fun s o h=> ?_) h
 obtain ⟨_,_,_,_,_,_,_,_⟩:=s
 simp only [cO] at h
 simp only [C9,Dg,uR,Bs,CB]
 have d1:= @kB
 have d2:= @vC
 have d3:= @Dl
 have d4:= @Lk
 have d5:= @mp
 exact go2
def eU (l3:List (List UInt8)) (l4:List Ext) (t4 t5:Int) (t6:List Int) (c21 c22 c23 c24 c25:Int) (c26:List (List Ext)) (c27:List (List UInt8)) (c28 c29 c30:Int) (c31:List aj) (c32:List Ext) (c33:Int) (c34:List UInt8) (c35 c36:Int) (c37:List UInt8) (c38 c39 c40:Int):Int→Option ((Int)⊕(Int⊕(Int×Bool)))
 |t7=>
  br (decide (t7<((t6.length:Nat):Int))) (
  (atL t6 t7).bind fun x5=>
  (atL c31 t7).bind fun x6=>
  (yR l3 t4 t5 x5 l4 (au.mk c26 c27 (Ext.mk c28 c29) c30 c31) x6).bind fun r_13=>
  br (r_13 !=0) (
  some (.inr (.inl r_13))) (
  some (.inl (wrap .i64 (t7+1))))) (
  some (.inr (.inr (t7,decide (t7<((t6.length:Nat):Int))))))
abbrev u9 (l3:List (List UInt8)) (l4:List Ext) (c21 c22 c23 c24 c25:Int) (c26:List (List Ext)) (c27:List (List UInt8)) (c28 c29 c30:Int) (c31:List aj) (c32:List Ext) (c33:Int) (c34:List UInt8) (c35 c36:Int) (c37:List UInt8) (c38 c39 c40:Int):List (Nat×Blk):=[(1000,⟨2,true,[[I c21,I c22]]⟩),(1001,⟨3,true,[[I c23,I c24,I c25]]⟩),(1002,⟨6,true,[[sl (eL eExt) c26,sl eS c27,I c28,I c29,I c30,sl aE c31]]⟩),(1003,⟨4,true,[[sl eExt c32,I c33,S c34,I c35]]⟩),(1004,⟨4,true,[[.lit (.slice none 0 0),I c36,S c37,I c38]]⟩),(2001,⟨1,false,rws eS l3⟩),(3000,⟨2,false,rws eExt l4⟩),(4001,⟨2,true,[[I c39,I c40]]⟩),(20003,jR)]
abbrev Cs (l3:List (List UInt8)) (l4:List Ext) (t4 t5:Int) (t6:List Int) (c21 c22 c23 c24 c25:Int) (c26:List (List Ext)) (c27:List (List UInt8)) (c28 c29 c30:Int) (c31:List aj) (c32:List Ext) (c33:Int) (c34:List UInt8) (c35 c36:Int) (c37:List UInt8) (c38 c39 c40 s:Int):St:=⟨[(1,I t4),(12,.ptr 1002 0 0 1),(13,.ptr 1003 0 0 1),(14,.ptr 1004 0 0 1),(16,.sl 2001 0 l3.length),(17,.sl 3000 0 l4.length),(23,I t5),(24,sl eI t6),(25,I s)],u9 l3 l4 c21 c22 c23 c24 c25 c26 c27 c28 c29 c30 c31 c32 c33 c34 c35 c36 c37 c38 c39 c40⟩
abbrev Cb (l3:List (List UInt8)) (l4:List Ext) (t4 t5:Int) (t6:List Int) (c21 c22 c23 c24 c25:Int) (c26:List (List Ext)) (c27:List (List UInt8)) (c28 c29 c30:Int) (c31:List aj) (c32:List Ext) (c33:Int) (c34:List UInt8) (c35 c36:Int) (c37:List UInt8) (c38 c39 c40:Int):(Int⊕(Int×Bool))→ag×St:=alt (fun e=>((.ret,⟨[(14,.ptr 1004 0 0 1),(15,I e)],[(1000,⟨2,true,[[I c21,I c22]]⟩),(1001,⟨3,true,[[I c23,I c24,I c25]]⟩),(1002,⟨6,true,[[sl (eL eExt) c26,sl eS c27,I c28,I c29,I c30,sl aE c31]]⟩),(1003,⟨4,true,[[sl eExt c32,I c33,S c34,I c35]]⟩),(1004,⟨4,true,[[sl eExt c32,I c33,S c34,I c35]]⟩),(2001,⟨1,false,rws eS l3⟩),(3000,⟨2,false,rws eExt l4⟩),(4001,⟨2,true,[[I c39,I c40]]⟩),(20003,jR)]⟩):ag×St)) (fun e=>(.exit 2,⟨[(1,I t4),(12,.ptr 1002 0 0 1),(13,.ptr 1003 0 0 1),(14,.ptr 1004 0 0 1),(16,.sl 2001 0 l3.length),(17,.sl 3000 0 l4.length),(23,I t5),(24,sl eI t6),(25,I e.1),(127,B e.2)],u9 l3 l4 c21 c22 c23 c24 c25 c26 c27 c28 c29 c30 c31 c32 c33 c34 c35 c36 c37 c38 c39 c40⟩))
theorem OH {l3 l4 t4 t5 t6 c21 c22 c23 c24 c25 c26 c27 c28 c29 c30 c31 c32 c33 c34 c35 c36 c37 c38 c39 c40 s e} (h:Loop (eU l3 l4 t4 t5 t6 c21 c22 c23 c24 c25 c26 c27 c28 c29 c30 c31 c32 c33 c34 c35 c36 c37 c38 c39 c40) s=some e):aq tab ow (.close [29014]) AW (Cs l3 l4 t4 t5 t6 c21 c22 c23 c24 c25 c26 c27 c28 c29 c30 c31 c32 c33 c34 c35 c36 c37 c38 c39 c40 s)=some (Cb l3 l4 t4 t5 t6 c21 c22 c23 c24 c25 c26 c27 c28 c29 c30 c31 c32 c33 c34 c35 c36 c37 c38 c39 c40 e):=by
 refine lrG (fun s o h=> ?_) h
 simp only [eU] at h
 simp only [Cs,Cb,u9,AW,AX]
 have d1:= @Uf
 exact go2
def tV (ListtoArray:(List UInt8)) (a:Int) (a2:(List Ext)) (a3:Ext) (a4:Setting) (a5:au) (a6:Source):Option (Source×Int):=
 br (bE ((([ListtoArray]:List (List UInt8))++a5.Roots).length) 16) (
 (Loop (cO (([ListtoArray]:List (List UInt8))++a5.Roots) a a2 a3.A a3.B a4.Rate a4.Queries a4.Grind a5.Rounds a5.Roots a5.Last.A a5.Last.B a5.Nonce a5.Queries 0 (([]:List UInt8)) 0) (([]:List Ext),0,a6.Script,a6.At,a6.State,a6.Count,a3.A,a3.B)).bind (alt (fun e_2=>
 some ((Source.mk e_2.2.2.2.2.2.1 e_2.2.2.2.2.2.2.1 e_2.2.2.2.2.2.2.2.1 e_2.2.2.2.2.2.2.2.2.1),10)) (fun e_3=>
 (py e_3.1 a2).bind fun r_6=>
 (bW a5.Last r_6).bind fun r_7=>
 br (r_7.A==e_3.2.2.2.2.2.2.2.1) (
 br (r_7.B==e_3.2.2.2.2.2.2.2.2) (
 (iH (Source.mk e_3.2.2.2.1 e_3.2.2.2.2.1 e_3.2.2.2.2.2.1 e_3.2.2.2.2.2.2.1) ([a5.Last]:List Ext)).bind fun r_8=>
 (xu r_8 a4.Grind a5.Nonce).bind fun r_9=>
 br (!r_9) (
 some (r_8,14)) (
 (dy a5.Nonce 4).bind fun r_10=>
 (hU r_8 r_10).bind fun r_11=>
 br (decide (0≤(wrap .u64 (wrap .i64 (a+a4.Rate))))) (
 (rq r_11 a4.Queries (wrap .i64 ((aD .i64 1 (wrap .u64 (wrap .i64 (a+a4.Rate)))).tdiv 2))).bind fun r_12=>
 (Loop (eU (([ListtoArray]:List (List UInt8))++a5.Roots) e_3.1 a (aD .i64 1 (wrap .u64 (wrap .i64 (a+a4.Rate)))) r_12.2 a3.A a3.B a4.Rate a4.Queries a4.Grind a5.Rounds a5.Roots a5.Last.A a5.Last.B a5.Nonce a5.Queries r_12.1.Script r_12.1.At r_12.1.State r_12.1.Count 0 (([]:List UInt8)) 0 e_3.2.2.2.2.2.2.2.1 e_3.2.2.2.2.2.2.2.2) 0).bind (alt (fun e_5=>
 some (r_12.1,e_5)) (fun e_6=>
 some (r_12.1,0)))) none)) (
 some ((Source.mk e_3.2.2.2.1 e_3.2.2.2.2.1 e_3.2.2.2.2.2.1 e_3.2.2.2.2.2.2.1),11))) (
 some ((Source.mk e_3.2.2.2.1 e_3.2.2.2.2.1 e_3.2.2.2.2.2.1 e_3.2.2.2.2.2.2.1),11))))) none
theorem Wl {ListtoArray a a2 a3 a4 a5 a6 r} (h:tV ListtoArray a a2 a3 a4 a5 a6=some r):Call tab ow 97 [S ListtoArray,I a,sl eExt a2,.agg [I a3.A,I a3.B],.agg [I a4.Rate,I a4.Queries,I a4.Grind],.agg [sl (eL eExt) a5.Rounds,sl eS a5.Roots,I a5.Last.A,I a5.Last.B,I a5.Nonce,sl aE a5.Queries],.agg [sl eExt a6.Script,I a6.At,S a6.State,I a6.Count]] []=some (.tup [.agg [sl eExt r.1.Script,I r.1.At,S r.1.State,I r.1.Count],I r.2],[]):=by
 rw [ab (af:=tu) rfl]
 unfold tV at h
 simp only [tu,sM]
 have d1:= @Pj
 have d2:= @Lp
 have d3:= @ii
 have d4:= @vC
 have d5:= @XM
 have d6:= @fR
 have d7:= @mp
 have d8:= @RT
 have d9:= @OH
 exact go2
end
def ni (a:(List Entry)) (left:Int):Option (Int):=
 br (decide ((wrap .i64 (left-((a.length:Nat):Int)))<0)) (
 some (-1:Int)) (
 some (wrap .i64 (left-((a.length:Nat):Int))))
theorem Xg {a left r} (h:ni a left=some r):Call tab ow 106 [sl eEntry a,I left] []=some (I r,[]):=by
 rw [ab (af:=tE) rfl]
 unfold ni at h
 simp only [tE,Jx]
 exact go2
def tX (a:System) (left:Int):Option (Int):=
 (ni a.A left).bind fun r_=>
 br (decide (r_<0)) (
 some (-1:Int)) (
 (ni a.B r_).bind fun r_2=>
 br (decide (r_2<0)) (
 some (-1:Int)) (
 (ni a.C r_2).bind fun r_3=>
 br (decide (r_3<0)) (
 some (-1:Int)) (
 some r_3)))
theorem X5 {a left r} (h:tX a left=some r):Call tab ow 29 [.agg [I a.Rows,I a.Cols,I a.Publics,sl eEntry a.A,sl eEntry a.B,sl eEntry a.C],I left] []=some (I r,[]):=by
 rw [ab (af:=sI) rfl]
 unfold tX at h
 simp only [sI,J5]
 have d1:= @Xg
 exact go2
def Di (a:(List Ext)) (left:Int):Option (Int):=
 br (decide ((wrap .i64 (left-((a.length:Nat):Int)))<0)) (
 some (-1:Int)) (
 some (wrap .i64 (left-((a.length:Nat):Int))))
theorem a2s {a left r} (h:Di a left=some r):Call tab ow 109 [sl eExt a,I left] []=some (I r,[]):=by
 rw [ab (af:=yN) rfl]
 unfold Di at h
 simp only [yN,Ph]
 exact go2
def uM (a:Source) (left:Int):Option (Int):=
 (Di a.Script left).bind fun r_=>
 br (decide (r_<0)) (
 some (-1:Int)) (
 br (decide ((wrap .i64 (r_-((a.State.length:Nat):Int)))<0)) (
 some (-1:Int)) (
 some (wrap .i64 (r_-((a.State.length:Nat):Int)))))
theorem Ws {a left r} (h:uM a left=some r):Call tab ow 31 [.agg [sl eExt a.Script,I a.At,S a.State,I a.Count],I left] []=some (I r,[]):=by
 rw [ab (af:=tk) rfl]
 unfold uM at h
 simp only [tk,IZ]
 have d1:= @a2s
 exact go2
def DL (a:Entry):Option (Entry):=
 some a
theorem XU {a r} (h:DL a=some r):Call tab ow 222 [.agg [I a.Row,I a.Col,I a.Value]] []=some (.agg [I r.Row,I r.Col,I r.Value],[]):=by
 rw [ab (af:=vQ) rfl]
 unfold DL at h
 simp only [vQ,L9]
 exact go2
section
theorem S9: ∀k,Bh 2002 k [I (0:Int),I (0:Int),I (0:Int)]=rws eEntry (List.replicate k (Entry.mk (0:Int) (0:Int) (0:Int))):=fun _=>Ng eEntry (Entry.mk (0:Int) (0:Int) (0:Int)) _ _
attribute [local go_sem] S9
def ki (a2:List Entry):(List Entry)×Int→Option (((List Entry)×Int)⊕(((List Entry)×Int×Bool)))
 | (l,i)=>
   br (decide (i<((a2.length:Nat):Int))) (
   (atL a2 i).bind fun x=>
   (DL x).bind fun r_=>
   br (decide (0≤i)) (
   br (decide (i.toNat<l.length)) (
   (l[i.toNat]?).bind fun x2=>
   some (.inl ((l.set i.toNat r_),(wrap .i64 (i+1))))) none) none) (
   some (.inr (l,i,decide (i<((a2.length:Nat):Int)))))
abbrev CX (a2:List Entry) (s:(List Entry)×Int):St:=⟨[(0,sl eEntry a2),(3,.sl 2002 0 s.1.length),(4,I s.2)],[(2002,⟨3,false,rws eEntry s.1⟩)]⟩
abbrev D2 (a2:List Entry):((List Entry)×Int×Bool)→ag×St:=fun e=>(.exit 0,⟨[(0,sl eEntry a2),(3,.sl 2002 0 e.1.length),(4,I e.2.1),(11,B e.2.2)],[(2002,⟨3,false,rws eEntry e.1⟩)]⟩)
theorem P0 {a2 s e} (h:Loop (ki a2) s=some e):aq tab ow (.close [6006]) Ct (CX a2 s)=some (D2 a2 e):=by
 refine lrG (fun s o h=> ?_) h
 obtain ⟨_,_⟩:=s
 simp only [ki] at h
 simp only [CX,D2,Ct,CK]
 have d1:= @XU
 exact go2
def nm (a:(List Entry)):Option ((List Entry)):=
 br (xU ((a.length:Nat):Int) ((a.length:Nat):Int) 24) (
 (Loop (ki a) ((List.replicate (((a.length:Nat):Int).toNat) (Entry.mk (0:Int) (0:Int) (0:Int))),(0:Int))).bind fun e_=>
 some e_.1) none
theorem WC {a r} (h:nm a=some r):Call tab ow 113 [sl eEntry a] []=some (sl eEntry r,[]):=by
 rw [ab (af:=sG) rfl]
 unfold nm at h
 simp only [sG,zh]
 have d1:= @P0
 exact go2
end
def ng (a:System):Option (System):=
 (nm a.A).bind fun r_=>
 (nm a.B).bind fun r_2=>
 (nm a.C).bind fun r_3=>
 some (System.mk a.Rows a.Cols a.Publics r_ r_2 r_3)
theorem W8 {a r} (h:ng a=some r):Call tab ow 33 [.agg [I a.Rows,I a.Cols,I a.Publics,sl eEntry a.A,sl eEntry a.B,sl eEntry a.C]] []=some (.agg [I r.Rows,I r.Cols,I r.Publics,sl eEntry r.A,sl eEntry r.B,sl eEntry r.C],[]):=by
 rw [ab (af:=tg) rfl]
 unfold ng at h
 simp only [tg,JF]
 have d1:= @WC
 exact go2
def rD (a:Setting):Option (Setting):=
 some a
theorem RU {a r} (h:rD a=some r):Call tab ow 34 [.agg [I a.Rate,I a.Queries,I a.Grind]] []=some (.agg [I r.Rate,I r.Queries,I r.Grind],[]):=by
 rw [ab (af:=qJ) rfl]
 unfold rD at h
 simp only [qJ,Ge]
 exact go2
section
theorem Z4: ∀k,Bh 2002 k [I (0:Int)]=rws eI (List.replicate k (0:Int)):=fun _=>Ng eI (0:Int) _ _
attribute [local go_sem] Z4
def te (a2:List Int):(List Int)×Int→Option (((List Int)×Int)⊕(((List Int)×Int×Bool)))
 | (l,i)=>
   br (decide (i<((a2.length:Nat):Int))) (
   (atL a2 i).bind fun x=>
   br (decide (0≤i)) (
   br (decide (i.toNat<l.length)) (
   (l[i.toNat]?).bind fun x2=>
   some (.inl ((l.set i.toNat x),(wrap .i64 (i+1))))) none) none) (
   some (.inr (l,i,decide (i<((a2.length:Nat):Int)))))
abbrev Jd (a2:List Int) (s:(List Int)×Int):St:=⟨[(0,sl eI a2),(3,.sl 2002 0 s.1.length),(4,I s.2)],[(2002,⟨1,false,rws eI s.1⟩)]⟩
abbrev JC (a2:List Int):((List Int)×Int×Bool)→ag×St:=fun e=>(.exit 0,⟨[(0,sl eI a2),(3,.sl 2002 0 e.1.length),(4,I e.2.1),(11,B e.2.2)],[(2002,⟨1,false,rws eI e.1⟩)]⟩)
theorem U1 {a2 s e} (h:Loop (te a2) s=some e):aq tab ow (.close []) HX (Jd a2 s)=some (JC a2 e):=by
 refine lrG (fun s o h=> ?_) h
 obtain ⟨_,_⟩:=s
 simp only [te] at h
 simp only [Jd,JC,HX,I4]
 exact go2
def u7 (a:(List Int)):Option ((List Int)):=
 br (xU ((a.length:Nat):Int) ((a.length:Nat):Int) 8) (
 (Loop (te a) ((List.replicate (((a.length:Nat):Int).toNat) (0:Int)),(0:Int))).bind fun e_=>
 some e_.1) none
theorem a2W {a r} (h:u7 a=some r):Call tab ow 35 [sl eI a] []=some (sl eI r,[]):=by
 rw [ab (af:=z7) rfl]
 unfold u7 at h
 simp only [z7,Ha]
 have d1:= @U1
 exact go2
end
def MT (a:Ext):Option (Ext):=
 some a
theorem a5M {a r} (h:MT a=some r):Call tab ow 115 [.agg [I a.A,I a.B]] []=some (.agg [I r.A,I r.B],[]):=by
 rw [ab (af:=DT) rfl]
 unfold MT at h
 simp only [DT,SZ]
 exact go2
section
theorem ZF: ∀k,Bh 2002 k [I (0:Int),I (0:Int)]=rws eExt (List.replicate k (Ext.mk (0:Int) (0:Int))):=fun _=>Ng eExt (Ext.mk (0:Int) (0:Int)) _ _
attribute [local go_sem] ZF
def th (a2:List Ext):(List Ext)×Int→Option (((List Ext)×Int)⊕(((List Ext)×Int×Bool)))
 | (l,i)=>
   br (decide (i<((a2.length:Nat):Int))) (
   (atL a2 i).bind fun x=>
   (MT x).bind fun r_=>
   br (decide (0≤i)) (
   br (decide (i.toNat<l.length)) (
   (l[i.toNat]?).bind fun x2=>
   some (.inl ((l.set i.toNat r_),(wrap .i64 (i+1))))) none) none) (
   some (.inr (l,i,decide (i<((a2.length:Nat):Int)))))
abbrev Jb (a2:List Ext) (s:(List Ext)×Int):St:=⟨[(0,sl eExt a2),(3,.sl 2002 0 s.1.length),(4,I s.2)],[(2002,⟨2,false,rws eExt s.1⟩)]⟩
abbrev IJ (a2:List Ext):((List Ext)×Int×Bool)→ag×St:=fun e=>(.exit 0,⟨[(0,sl eExt a2),(3,.sl 2002 0 e.1.length),(4,I e.2.1),(11,B e.2.2)],[(2002,⟨2,false,rws eExt e.1⟩)]⟩)
theorem Uc {a2 s e} (h:Loop (th a2) s=some e):aq tab ow (.close [6006]) Jh (Jb a2 s)=some (IJ a2 e):=by
 refine lrG (fun s o h=> ?_) h
 obtain ⟨_,_⟩:=s
 simp only [th] at h
 simp only [Jb,IJ,Jh,Jr]
 have d1:= @a5M
 exact go2
def BL (a:(List Ext)):Option ((List Ext)):=
 br (xU ((a.length:Nat):Int) ((a.length:Nat):Int) 16) (
 (Loop (th a) ((List.replicate (((a.length:Nat):Int).toNat) (Ext.mk (0:Int) (0:Int))),(0:Int))).bind fun e_=>
 some e_.1) none
theorem a2r {a r} (h:BL a=some r):Call tab ow 117 [sl eExt a] []=some (sl eExt r,[]):=by
 rw [ab (af:=zU) rfl]
 unfold BL at h
 simp only [zU,Hq]
 have d1:= @Uc
 exact go2
end
def nb (a:Source):Option (Source):=
 (BL a.Script).bind fun r_=>
 some (Source.mk r_ a.At a.State a.Count)
theorem V5 {a r} (h:nb a=some r):Call tab ow 37 [.agg [sl eExt a.Script,I a.At,S a.State,I a.Count]] []=some (.agg [sl eExt r.Script,I r.At,S r.State,I r.Count],[]):=by
 rw [ab (af:=tf) rfl]
 unfold nb at h
 simp only [tf,HY]
 have d1:= @a2r
 exact go2
def lT (ListtoArray2:List Entry) (t t2:Int):Int→Option ((Int)⊕((Int×Int×Int)⊕(Int×Bool)))
 |t3=>
  br (decide (t3<((ListtoArray2.length:Nat):Int))) (
  (atL ListtoArray2 t3).bind fun x=>
  br (decide (0≤(wrap .u64 t))) (
  (ff x.Row 0 (wrap .i64 ((aD .i64 1 (wrap .u64 t))-1))).bind fun r_=>
  br (!r_) (
  some (.inr (.inl (x.Row,x.Col,x.Value)))) (
  br (decide (0≤(wrap .u64 t2))) (
  (ff x.Col 0 (wrap .i64 ((aD .i64 1 (wrap .u64 t2))-1))).bind fun r_2=>
  br (!r_2) (
  some (.inr (.inl (x.Row,x.Col,x.Value)))) (
  (ff x.Value 1 2130706432).bind fun r_3=>
  br (!r_3) (
  some (.inr (.inl (x.Row,x.Col,x.Value)))) (
  br (decide (t3>0)) (
  (atL ListtoArray2 (wrap .i64 (t3-1))).bind fun x2=>
  br (decide (x2.Row>x.Row)) (
  some (.inr (.inl (x.Row,x.Col,x.Value)))) (
  (atL ListtoArray2 (wrap .i64 (t3-1))).bind fun x3=>
  br (x3.Row==x.Row) (
  (atL ListtoArray2 (wrap .i64 (t3-1))).bind fun x4=>
  br (decide (x4.Col≥x.Col)) (
  some (.inr (.inl (x.Row,x.Col,x.Value)))) (
  some (.inl (wrap .i64 (t3+1))))) (
  some (.inl (wrap .i64 (t3+1)))))) (
  some (.inl (wrap .i64 (t3+1))))))) none)) none) (
  some (.inr (.inr (t3,decide (t3<((ListtoArray2.length:Nat):Int))))))
abbrev EX (ListtoArray2:List Entry) (t t2 s:Int):St:=⟨[(0,sl eEntry ListtoArray2),(1,I t),(2,I t2),(7,I s)],[]⟩
abbrev Ft (ListtoArray2:List Entry) (t t2:Int):((Int×Int×Int)⊕(Int×Bool))→ag×St:=alt (fun e=>((.ret,⟨[(6,B false)],[(7004,⟨3,true,[[I e.1,I e.2.1,I e.2.2]]⟩)]⟩):ag×St)) (fun e=>(.exit 0,⟨[(0,sl eEntry ListtoArray2),(1,I t),(2,I t2),(7,I e.1),(15,B e.2)],[]⟩))
theorem Rh {ListtoArray2 t t2 s e} (h:Loop (lT ListtoArray2 t t2) s=some e):aq tab ow (.close [7004,8006,8015,8021]) Es (EX ListtoArray2 t t2 s)=some (Ft ListtoArray2 t t2 e):=by
 refine lrG (fun s o h=> ?_) h
 simp only [lT] at h
 simp only [EX,Ft,Es,Fl]
 have d1:= @tF
 exact go2
def p9 (ListtoArray:(List Entry)) (a a2:Int):Option (Bool):=
 br (decide (((ListtoArray.length:Nat):Int)>200)) (
 some false) (
 (Loop (lT ListtoArray a a2) 0).bind (alt (fun e_2=>
 some false) (fun e_3=>
 some true)))
theorem YB {ListtoArray a a2 r} (h:p9 ListtoArray a a2=some r):Call tab ow 255 [sl eEntry ListtoArray,I a,I a2] []=some (B r,[]):=by
 rw [ab (af:=vk) rfl]
 unfold p9 at h
 simp only [vk,Bo]
 have d1:= @Rh
 exact go2
def oL (s:System):Option (Bool):=
 (ff s.Rows 1 5).bind fun r_=>
 br r_ (
 (ff s.Cols 2 5).bind fun r_2=>
 br r_2 (
 br (decide (0≤(wrap .u64 (wrap .i64 (s.Cols-1))))) (
 (ff s.Publics 0 (wrap .i64 ((aD .i64 1 (wrap .u64 (wrap .i64 (s.Cols-1))))-1))).bind fun r_3=>
 br r_3 (
 (p9 s.A s.Rows s.Cols).bind fun r_4=>
 br r_4 (
 (p9 s.B s.Rows s.Cols).bind fun r_5=>
 br r_5 (
 (p9 s.C s.Rows s.Cols).bind fun r_6=>
 some r_6) (
 some false)) (
 some false)) (
 some false)) none) (
 some false)) (
 some false)
theorem Jc {s r} (h:oL s=some r):Call tab ow 136 [.agg [I s.Rows,I s.Cols,I s.Publics,sl eEntry s.A,sl eEntry s.B,sl eEntry s.C]] []=some (B r,[]):=by
 rw [ab (af:=sY) rfl]
 unfold oL at h
 simp only [sY,Hz]
 have d1:= @tF
 have d2:= @YB
 exact go2
def s5 (list2:List Int):Int→Option ((Int)⊕(Unit⊕(Int×Bool)))
 |i=>
  br (decide (i<((list2.length:Nat):Int))) (
  (atL list2 i).bind fun x=>
  (nT x).bind fun r_=>
  br (!r_) (
  some (.inr (.inl ()))) (
  some (.inl (wrap .i64 (i+1))))) (
  some (.inr (.inr (i,decide (i<((list2.length:Nat):Int))))))
abbrev As (list2:List Int) (s:Int):St:=⟨[(0,sl eI list2),(3,I s)],[]⟩
abbrev Af (list2:List Int):(Unit⊕(Int×Bool))→ag×St:=alt (fun e=>((.ret,⟨[(2,B false)],[]⟩):ag×St)) (fun e=>(.exit 0,⟨[(0,sl eI list2),(3,I e.1),(7,B e.2)],[]⟩))
theorem M5 {list2 s e} (h:Loop (s5 list2) s=some e):aq tab ow (.close [5004]) Au (As list2 s)=some (Af list2 e):=by
 refine lrG (fun s o h=> ?_) h
 simp only [s5] at h
 simp only [As,Af,Au,B7]
 have d1:= @KQ
 exact go2
def rj (list:(List Int)):Option (Bool):=
 (Loop (s5 list) 0).bind (alt (fun e_2=>
 some false) (fun e_3=>
 some true))
theorem SJ {list r} (h:rj list=some r):Call tab ow 213 [sl eI list] []=some (B r,[]):=by
 rw [ab (af:=pO) rfl]
 unfold rj at h
 simp only [pO,wj]
 have d1:= @M5
 exact go2
def C8 (s:System) (t:Setting) (publics:(List Int)) (source:Source):Option (Int):=
 br (decide (((publics.length:Nat):Int)>4096)) (
 some 2) (
 (oL s).bind fun r_=>
 br (!r_) (
 some 1) (
 (kK t).bind fun r_2=>
 br (!r_2) (
 some 1) (
 (rj publics).bind fun r_3=>
 br (!r_3) (
 some 1) (
 (ug source).bind fun r_4=>
 br (!r_4) (
 some 1) (
 br (((publics.length:Nat):Int) !=s.Publics) (
 some 17) (
 (zf source 200).bind fun r_5=>
 br r_5 (
 some 6) (
 some 0)))))))
theorem a2B {s t publics source r} (h:C8 s t publics source=some r):Call tab ow 110 [.agg [I s.Rows,I s.Cols,I s.Publics,sl eEntry s.A,sl eEntry s.B,sl eEntry s.C],.agg [I t.Rate,I t.Queries,I t.Grind],sl eI publics,.agg [sl eExt source.Script,I source.At,S source.State,I source.Count]] []=some (I r,[]):=by
 rw [ab (af:=yQ) rfl]
 unfold C8 at h
 simp only [yQ,OW]
 have d1:= @Jc
 have d2:= @wO
 have d3:= @SJ
 have d4:= @VL
 have d5:= @Xi
 exact go2
section
theorem W9:mkR 2039 []=rws eExt []:=rfl
attribute [local go_sem] W9
def pW (l:List Ext) (c:List UInt8) (c2:List (List Ext)) (c3 c4 c5 c6 c7 c8:Int) (c9:List (List Ext)) (c10 c11:Int) (c12:List (List Ext)) (c13:List (List UInt8)) (c14 c15 c16:Int) (c17:List aj) (c18 c19 c20:Int) (c21 c22 c23:List Entry) (c24 c25 c26:Int):Int→Option ((Int)⊕(Unit⊕(Int×Bool)))
 |t=>
  br (decide (t<((c2.length:Nat):Int))) (
  (atL c2 t).bind fun x=>
  br (((x.length:Nat):Int) !=4) (
  some (.inr (.inl ()))) (
  (atL c2 t).bind fun x2=>
  (gU x2).bind fun r_4=>
  br (!r_4) (
  some (.inr (.inl ()))) (
  some (.inl (wrap .i64 (t+1)))))) (
  some (.inr (.inr (t,decide (t<((c2.length:Nat):Int))))))
abbrev pC (l:List Ext) (c:List UInt8) (c2:List (List Ext)) (c3 c4 c5 c6 c7 c8:Int) (c9:List (List Ext)) (c10 c11:Int) (c12:List (List Ext)) (c13:List (List UInt8)) (c14 c15 c16:Int) (c17:List aj) (c18 c19 c20:Int) (c21 c22 c23:List Entry) (c24 c25 c26:Int):List (Nat×Blk):=[(1000,⟨17,true,[[S c,sl (eL eExt) c2,I c3,I c4,I c5,I c6,I c7,I c8,sl (eL eExt) c9,I c10,I c11,sl (eL eExt) c12,sl eS c13,I c14,I c15,I c16,sl aE c17]]⟩),(1001,⟨6,true,[[I c18,I c19,I c20,sl eEntry c21,sl eEntry c22,sl eEntry c23]]⟩),(1002,⟨3,true,[[I c24,I c25,I c26]]⟩),(2039,⟨2,false,rws eExt l⟩)]
abbrev Ew (l:List Ext) (c:List UInt8) (c2:List (List Ext)) (c3 c4 c5 c6 c7 c8:Int) (c9:List (List Ext)) (c10 c11:Int) (c12:List (List Ext)) (c13:List (List UInt8)) (c14 c15 c16:Int) (c17:List aj) (c18 c19 c20:Int) (c21 c22 c23:List Entry) (c24 c25 c26 s:Int):St:=⟨[(3,.ptr 1000 0 0 1),(4,.ptr 1001 0 0 1),(5,.ptr 1002 0 0 1),(7,I s)],pC l c c2 c3 c4 c5 c6 c7 c8 c9 c10 c11 c12 c13 c14 c15 c16 c17 c18 c19 c20 c21 c22 c23 c24 c25 c26⟩
abbrev Ga (l:List Ext) (c:List UInt8) (c2:List (List Ext)) (c3 c4 c5 c6 c7 c8:Int) (c9:List (List Ext)) (c10 c11:Int) (c12:List (List Ext)) (c13:List (List UInt8)) (c14 c15 c16:Int) (c17:List aj) (c18 c19 c20:Int) (c21 c22 c23:List Entry) (c24 c25 c26:Int):(Unit⊕(Int×Bool))→ag×St:=alt (fun e=>((.ret,⟨[(6,B false)],pC l c c2 c3 c4 c5 c6 c7 c8 c9 c10 c11 c12 c13 c14 c15 c16 c17 c18 c19 c20 c21 c22 c23 c24 c25 c26⟩):ag×St)) (fun e=>(.exit 0,⟨[(3,.ptr 1000 0 0 1),(4,.ptr 1001 0 0 1),(5,.ptr 1002 0 0 1),(7,I e.1),(56,B e.2)],pC l c c2 c3 c4 c5 c6 c7 c8 c9 c10 c11 c12 c13 c14 c15 c16 c17 c18 c19 c20 c21 c22 c23 c24 c25 c26⟩))
theorem SD {l c c2 c3 c4 c5 c6 c7 c8 c9 c10 c11 c12 c13 c14 c15 c16 c17 c18 c19 c20 c21 c22 c23 c24 c25 c26 s e} (h:Loop (pW l c c2 c3 c4 c5 c6 c7 c8 c9 c10 c11 c12 c13 c14 c15 c16 c17 c18 c19 c20 c21 c22 c23 c24 c25 c26) s=some e):aq tab ow (.close [7013]) FS (Ew l c c2 c3 c4 c5 c6 c7 c8 c9 c10 c11 c12 c13 c14 c15 c16 c17 c18 c19 c20 c21 c22 c23 c24 c25 c26 s)=some (Ga l c c2 c3 c4 c5 c6 c7 c8 c9 c10 c11 c12 c13 c14 c15 c16 c17 c18 c19 c20 c21 c22 c23 c24 c25 c26 e):=by
 refine lrG (fun s o h=> ?_) h
 simp only [pW] at h
 simp only [Ew,Ga,pC,FS,FC]
 have d1:= @kC
 exact go2
def qv (l2:List Ext) (c27:List UInt8) (c28:List (List Ext)) (c29 c30 c31 c32 c33 c34:Int) (c35:List (List Ext)) (c36 c37:Int) (c38:List (List Ext)) (c39:List (List UInt8)) (c40 c41 c42:Int) (c43:List aj) (c44 c45 c46:Int) (c47 c48 c49:List Entry) (c50 c51 c52:Int):Int→Option ((Int)⊕(Unit⊕(Int×Bool)))
 |t2=>
  br (decide (t2<((c35.length:Nat):Int))) (
  (atL c35 t2).bind fun x3=>
  br (((x3.length:Nat):Int) !=3) (
  some (.inr (.inl ()))) (
  (atL c35 t2).bind fun x4=>
  (gU x4).bind fun r_5=>
  br (!r_5) (
  some (.inr (.inl ()))) (
  some (.inl (wrap .i64 (t2+1)))))) (
  some (.inr (.inr (t2,decide (t2<((c35.length:Nat):Int))))))
abbrev q9 (l2:List Ext) (c27:List UInt8) (c28:List (List Ext)) (c29 c30 c31 c32 c33 c34:Int) (c35:List (List Ext)) (c36 c37:Int) (c38:List (List Ext)) (c39:List (List UInt8)) (c40 c41 c42:Int) (c43:List aj) (c44 c45 c46:Int) (c47 c48 c49:List Entry) (c50 c51 c52:Int):List (Nat×Blk):=[(1000,⟨17,true,[[S c27,sl (eL eExt) c28,I c29,I c30,I c31,I c32,I c33,I c34,sl (eL eExt) c35,I c36,I c37,sl (eL eExt) c38,sl eS c39,I c40,I c41,I c42,sl aE c43]]⟩),(1001,⟨6,true,[[I c44,I c45,I c46,sl eEntry c47,sl eEntry c48,sl eEntry c49]]⟩),(1002,⟨3,true,[[I c50,I c51,I c52]]⟩),(2039,⟨2,false,rws eExt l2⟩)]
abbrev Gp (l2:List Ext) (c27:List UInt8) (c28:List (List Ext)) (c29 c30 c31 c32 c33 c34:Int) (c35:List (List Ext)) (c36 c37:Int) (c38:List (List Ext)) (c39:List (List UInt8)) (c40 c41 c42:Int) (c43:List aj) (c44 c45 c46:Int) (c47 c48 c49:List Entry) (c50 c51 c52 s:Int):St:=⟨[(3,.ptr 1000 0 0 1),(4,.ptr 1001 0 0 1),(5,.ptr 1002 0 0 1),(8,I s)],q9 l2 c27 c28 c29 c30 c31 c32 c33 c34 c35 c36 c37 c38 c39 c40 c41 c42 c43 c44 c45 c46 c47 c48 c49 c50 c51 c52⟩
abbrev Fs (l2:List Ext) (c27:List UInt8) (c28:List (List Ext)) (c29 c30 c31 c32 c33 c34:Int) (c35:List (List Ext)) (c36 c37:Int) (c38:List (List Ext)) (c39:List (List UInt8)) (c40 c41 c42:Int) (c43:List aj) (c44 c45 c46:Int) (c47 c48 c49:List Entry) (c50 c51 c52:Int):(Unit⊕(Int×Bool))→ag×St:=alt (fun e=>((.ret,⟨[(6,B false)],q9 l2 c27 c28 c29 c30 c31 c32 c33 c34 c35 c36 c37 c38 c39 c40 c41 c42 c43 c44 c45 c46 c47 c48 c49 c50 c51 c52⟩):ag×St)) (fun e=>(.exit 2,⟨[(3,.ptr 1000 0 0 1),(4,.ptr 1001 0 0 1),(5,.ptr 1002 0 0 1),(8,I e.1),(79,B e.2)],q9 l2 c27 c28 c29 c30 c31 c32 c33 c34 c35 c36 c37 c38 c39 c40 c41 c42 c43 c44 c45 c46 c47 c48 c49 c50 c51 c52⟩))
theorem Sx {l2 c27 c28 c29 c30 c31 c32 c33 c34 c35 c36 c37 c38 c39 c40 c41 c42 c43 c44 c45 c46 c47 c48 c49 c50 c51 c52 s e} (h:Loop (qv l2 c27 c28 c29 c30 c31 c32 c33 c34 c35 c36 c37 c38 c39 c40 c41 c42 c43 c44 c45 c46 c47 c48 c49 c50 c51 c52) s=some e):aq tab ow (.close [12013]) Eo (Gp l2 c27 c28 c29 c30 c31 c32 c33 c34 c35 c36 c37 c38 c39 c40 c41 c42 c43 c44 c45 c46 c47 c48 c49 c50 c51 c52 s)=some (Fs l2 c27 c28 c29 c30 c31 c32 c33 c34 c35 c36 c37 c38 c39 c40 c41 c42 c43 c44 c45 c46 c47 c48 c49 c50 c51 c52 e):=by
 refine lrG (fun s o h=> ?_) h
 simp only [qv] at h
 simp only [Gp,Fs,q9,Eo,G7]
 have d1:= @kC
 exact go2
def xm (ListtoArray:gn) (a:System) (a2:Setting):Option (Bool):=
 (oL a).bind fun r_=>
 br (!r_) (
 some false) (
 (kK a2).bind fun r_2=>
 br (!r_2) (
 some false) (
 br (((ListtoArray.Root.length:Nat):Int) !=32) (
 some false) (
 br (((ListtoArray.Gates.length:Nat):Int) !=a.Rows) (
 some false) (
 br (((ListtoArray.Wires.length:Nat):Int) !=a.Cols) (
 some false) (
 (gU ([ListtoArray.VA,ListtoArray.VB,ListtoArray.VC,ListtoArray.VW]:List Ext)).bind fun r_3=>
 br (!r_3) (
 some false) (
 (Loop (pW ([ListtoArray.VA,ListtoArray.VB,ListtoArray.VC,ListtoArray.VW]:List Ext) ListtoArray.Root ListtoArray.Gates ListtoArray.VA.A ListtoArray.VA.B ListtoArray.VB.A ListtoArray.VB.B ListtoArray.VC.A ListtoArray.VC.B ListtoArray.Wires ListtoArray.VW.A ListtoArray.VW.B ListtoArray.Open.Rounds ListtoArray.Open.Roots ListtoArray.Open.Last.A ListtoArray.Open.Last.B ListtoArray.Open.Nonce ListtoArray.Open.Queries a.Rows a.Cols a.Publics a.A a.B a.C a2.Rate a2.Queries a2.Grind) 0).bind (alt (fun e_2=>
 some false) (fun e_3=>
 (Loop (qv ([ListtoArray.VA,ListtoArray.VB,ListtoArray.VC,ListtoArray.VW]:List Ext) ListtoArray.Root ListtoArray.Gates ListtoArray.VA.A ListtoArray.VA.B ListtoArray.VB.A ListtoArray.VB.B ListtoArray.VC.A ListtoArray.VC.B ListtoArray.Wires ListtoArray.VW.A ListtoArray.VW.B ListtoArray.Open.Rounds ListtoArray.Open.Roots ListtoArray.Open.Last.A ListtoArray.Open.Last.B ListtoArray.Open.Nonce ListtoArray.Open.Queries a.Rows a.Cols a.Publics a.A a.B a.C a2.Rate a2.Queries a2.Grind) 0).bind (alt (fun e_5=>
 some false) (fun e_6=>
 (qO ListtoArray.Open (wrap .i64 (a.Cols-1)) a2).bind fun r_6=>
 some r_6))))))))))
theorem Zq {ListtoArray a a2 r} (h:xm ListtoArray a a2=some r):Call tab ow 111 [.agg [S ListtoArray.Root,sl (eL eExt) ListtoArray.Gates,I ListtoArray.VA.A,I ListtoArray.VA.B,I ListtoArray.VB.A,I ListtoArray.VB.B,I ListtoArray.VC.A,I ListtoArray.VC.B,sl (eL eExt) ListtoArray.Wires,I ListtoArray.VW.A,I ListtoArray.VW.B,sl (eL eExt) ListtoArray.Open.Rounds,sl eS ListtoArray.Open.Roots,I ListtoArray.Open.Last.A,I ListtoArray.Open.Last.B,I ListtoArray.Open.Nonce,sl aE ListtoArray.Open.Queries],.agg [I a.Rows,I a.Cols,I a.Publics,sl eEntry a.A,sl eEntry a.B,sl eEntry a.C],.agg [I a2.Rate,I a2.Queries,I a2.Grind]] []=some (B r,[]):=by
 rw [ab (af:=vd) rfl]
 unfold xm at h
 simp only [vd,vT]
 have d1:= @Jc
 have d2:= @wO
 have d3:= @kC
 have d4:= @SD
 have d5:= @Sx
 have d6:= @QX
 exact go2
end
section
theorem Ql:mkR 2009 []=rws eU8 []:=rfl
attribute [local go_sem] Ql
theorem PB:mkR 3006 []=rws (eL eEntry) []:=rfl
attribute [local go_sem] PB
theorem OI:mkR 12007 []=rws eU8 []:=rfl
attribute [local go_sem] OI
def fl (l3:List UInt8) (l4:List (List Entry)) (t4 c7 c8 c9:Int) (c10 c11 c12:List Entry):(List UInt8)×Int→Option (((List UInt8)×Int)⊕(((List UInt8)×Int×Bool)))
 | (t3,t5)=>
   br (decide (0≤t4)) (
   br (decide (t4.toNat<l4.length)) (
   (l4[t4.toNat]?).bind fun x2=>
   br (decide (t5<((x2.length:Nat):Int))) (
   br (decide (0≤t4)) (
   br (decide (t4.toNat<l4.length)) (
   (l4[t4.toNat]?).bind fun x3=>
   (atL x3 t5).bind fun x4=>
   (dy x4.Value 4).bind fun r_2=>
   br (bE (([(UInt8.ofInt x4.Row),(UInt8.ofInt x4.Col)]:List UInt8).length+r_2.length) 1) (
   br (bE (t3.length+(([(UInt8.ofInt x4.Row),(UInt8.ofInt x4.Col)]:List UInt8)++r_2).length) 1) (
   some (.inl ((t3++(([(UInt8.ofInt x4.Row),(UInt8.ofInt x4.Col)]:List UInt8)++r_2)),(wrap .i64 (t5+1))))) none) none) none) none) (
   some (.inr (t3,t5,decide (t5<((x2.length:Nat):Int)))))) none) none
abbrev rS (l3:List UInt8) (l4:List (List Entry)) (c7 c8 c9:Int) (c10 c11 c12:List Entry):List (Nat×Blk):=[(1000,⟨6,true,[[I c7,I c8,I c9,sl eEntry c10,sl eEntry c11,sl eEntry c12]]⟩),(2009,⟨1,false,rws eU8 l3⟩),(3006,⟨1,false,rws (eL eEntry) l4⟩)]
abbrev AQ (l3:List UInt8) (l4:List (List Entry)) (t4 c7 c8 c9:Int) (c10 c11 c12:List Entry) (s:(List UInt8)×Int):St:=⟨[(3,S s.1),(4,.sl 3006 0 l4.length),(5,I t4),(6,I s.2)],rS l3 l4 c7 c8 c9 c10 c11 c12⟩
abbrev An (l3:List UInt8) (l4:List (List Entry)) (t4 c7 c8 c9:Int) (c10 c11 c12:List Entry):((List UInt8)×Int×Bool)→ag×St:=fun e=>(.exit 2,⟨[(3,S e.1),(4,.sl 3006 0 l4.length),(5,I t4),(6,I e.2.1),(46,B e.2.2)],rS l3 l4 c7 c8 c9 c10 c11 c12⟩)
theorem Mf {l3 l4 t4 c7 c8 c9 c10 c11 c12 s e} (h:Loop (fl l3 l4 t4 c7 c8 c9 c10 c11 c12) s=some e):aq tab ow (.close [11007,12007,12011]) Ar (AQ l3 l4 t4 c7 c8 c9 c10 c11 c12 s)=some (An l3 l4 t4 c7 c8 c9 c10 c11 c12 e):=by
 refine lrG (fun s o h=> ?_) h
 obtain ⟨_,_⟩:=s
 simp only [fl] at h
 simp only [AQ,An,rS,Ar,AT]
 have d1:= @fR
 exact go2
def gY (l:List UInt8) (l2:List (List Entry)) (c c2 c3:Int) (c4 c5 c6:List Entry):(List UInt8)×Int→Option (((List UInt8)×Int)⊕(((List UInt8)×Int×Bool)))
 | (t,t2)=>
   br (decide (t2<3)) (
   br (decide (0≤t2)) (
   br (decide (t2.toNat<l2.length)) (
   (l2[t2.toNat]?).bind fun x=>
   (dy ((x.length:Nat):Int) 4).bind fun r_=>
   br (bE (t.length+r_.length) 1) (
   (Loop (fl l l2 t2 c c2 c3 c4 c5 c6) ((t++r_),0)).bind fun e_=>
   some (.inl (e_.1,(wrap .i64 (t2+1))))) none) none) none) (
   some (.inr (t,t2,decide (t2<3))))
abbrev s8 (l:List UInt8) (l2:List (List Entry)) (c c2 c3:Int) (c4 c5 c6:List Entry):List (Nat×Blk):=[(1000,⟨6,true,[[I c,I c2,I c3,sl eEntry c4,sl eEntry c5,sl eEntry c6]]⟩),(2009,⟨1,false,rws eU8 l⟩),(3006,⟨1,false,rws (eL eEntry) l2⟩)]
abbrev AM (l:List UInt8) (l2:List (List Entry)) (c c2 c3:Int) (c4 c5 c6:List Entry) (s:(List UInt8)×Int):St:=⟨[(3,S s.1),(4,.sl 3006 0 l2.length),(5,I s.2)],s8 l l2 c c2 c3 c4 c5 c6⟩
abbrev AF (l:List UInt8) (l2:List (List Entry)) (c c2 c3:Int) (c4 c5 c6:List Entry):((List UInt8)×Int×Bool)→ag×St:=fun e=>(.exit 0,⟨[(3,S e.1),(4,.sl 3006 0 l2.length),(5,I e.2.1),(28,B e.2.2)],s8 l l2 c c2 c3 c4 c5 c6⟩)
theorem M2 {l l2 c c2 c3 c4 c5 c6 s e} (h:Loop (gY l l2 c c2 c3 c4 c5 c6) s=some e):aq tab ow (.close [7006,11007,12007,12011]) Ba (AM l l2 c c2 c3 c4 c5 c6 s)=some (AF l l2 c c2 c3 c4 c5 c6 e):=by
 refine lrG (fun s o h=> ?_) h
 obtain ⟨_,_⟩:=s
 simp only [gY] at h
 simp only [AM,AF,s8,Ba,Bb]
 have d1:= @fR
 have d2:= @Mf
 exact go2
def rH (ListtoArray:System):Option ((List UInt8)):=
 br (bE ((([115,121,115,116,101,109]:List UInt8)).length+([(UInt8.ofInt ListtoArray.Rows),(UInt8.ofInt ListtoArray.Cols),(UInt8.ofInt ListtoArray.Publics)]:List UInt8).length) 1) (
 (Loop (gY ([(UInt8.ofInt ListtoArray.Rows),(UInt8.ofInt ListtoArray.Cols),(UInt8.ofInt ListtoArray.Publics)]:List UInt8) ([ListtoArray.A,ListtoArray.B,ListtoArray.C]:List (List Entry)) ListtoArray.Rows ListtoArray.Cols ListtoArray.Publics ListtoArray.A ListtoArray.B ListtoArray.C) (((([115,121,115,116,101,109]:List UInt8))++([(UInt8.ofInt ListtoArray.Rows),(UInt8.ofInt ListtoArray.Cols),(UInt8.ofInt ListtoArray.Publics)]:List UInt8)),0)).bind fun e_2=>
 (j0 e_2.1).bind fun r_3=>
 some r_3) none
theorem QY {ListtoArray r} (h:rH ListtoArray=some r):Call tab ow 308 [.agg [I ListtoArray.Rows,I ListtoArray.Cols,I ListtoArray.Publics,sl eEntry ListtoArray.A,sl eEntry ListtoArray.B,sl eEntry ListtoArray.C]] []=some (S r,[]):=by
 rw [ab (af:=pV) rfl]
 unfold rH at h
 simp only [pV,pY]
 have d1:= @M2
 have d2:= @nF
 exact go2
end
end
end Go.AI.Fn
set_option linter.unusedVariables false
set_option linter.unusedSimpArgs false
set_option maxRecDepth 100000
set_option maxHeartbeats 1000000
namespace Go.AI.Fn
noncomputable section
open IntKind (wrap)
section
theorem Rd:mkR 2011 []=rws eU8 []:=rfl
attribute [local go_sem] Rd
def gq (l:List UInt8) (publics2:List Int) (c c2 c3:Int) (c4 c5 c6:List Entry) (c7 c8 c9:Int) (c10:List Ext) (c11:Int) (c12:List UInt8) (c13 c14:Int) (c15:List UInt8) (c16:Int):(List UInt8)×Int→Option (((List UInt8)×Int)⊕(((List UInt8)×Int×Bool)))
 | (text,i)=>
   br (decide (i<((publics2.length:Nat):Int))) (
   (atL publics2 i).bind fun x=>
   (dy x 4).bind fun r_2=>
   br (bE (text.length+r_2.length) 1) (
   some (.inl ((text++r_2),(wrap .i64 (i+1))))) none) (
   some (.inr (text,i,decide (i<((publics2.length:Nat):Int)))))
abbrev tZ (l:List UInt8) (c c2 c3:Int) (c4 c5 c6:List Entry) (c7 c8 c9:Int) (c10:List Ext) (c11:Int) (c12:List UInt8) (c13 c14:Int) (c15:List UInt8) (c16:Int):List (Nat×Blk):=[(1000,⟨6,true,[[I c,I c2,I c3,sl eEntry c4,sl eEntry c5,sl eEntry c6]]⟩),(1001,⟨3,true,[[I c7,I c8,I c9]]⟩),(1002,⟨4,true,[[sl eExt c10,I c11,S c12,I c13]]⟩),(1003,⟨4,true,[[.lit (.slice none 0 0),I c14,S c15,I c16]]⟩),(2011,⟨1,false,rws eU8 l⟩)]
abbrev Cm (l:List UInt8) (publics2:List Int) (c c2 c3:Int) (c4 c5 c6:List Entry) (c7 c8 c9:Int) (c10:List Ext) (c11:Int) (c12:List UInt8) (c13 c14:Int) (c15:List UInt8) (c16:Int) (s:(List UInt8)×Int):St:=⟨[(2,sl eI publics2),(7,.ptr 1002 0 0 1),(8,.ptr 1003 0 0 1),(9,S s.1),(10,I s.2)],tZ l c c2 c3 c4 c5 c6 c7 c8 c9 c10 c11 c12 c13 c14 c15 c16⟩
abbrev C3 (l:List UInt8) (publics2:List Int) (c c2 c3:Int) (c4 c5 c6:List Entry) (c7 c8 c9:Int) (c10:List Ext) (c11:Int) (c12:List UInt8) (c13 c14:Int) (c15:List UInt8) (c16:Int):((List UInt8)×Int×Bool)→ag×St:=fun e=>(.exit 0,⟨[(2,sl eI publics2),(7,.ptr 1002 0 0 1),(8,.ptr 1003 0 0 1),(9,S e.1),(10,I e.2.1),(28,B e.2.2)],tZ l c c2 c3 c4 c5 c6 c7 c8 c9 c10 c11 c12 c13 c14 c15 c16⟩)
theorem PF {l publics2 c c2 c3 c4 c5 c6 c7 c8 c9 c10 c11 c12 c13 c14 c15 c16 s e} (h:Loop (gq l publics2 c c2 c3 c4 c5 c6 c7 c8 c9 c10 c11 c12 c13 c14 c15 c16) s=some e):aq tab ow (.close [6005]) Cv (Cm l publics2 c c2 c3 c4 c5 c6 c7 c8 c9 c10 c11 c12 c13 c14 c15 c16 s)=some (C3 l publics2 c c2 c3 c4 c5 c6 c7 c8 c9 c10 c11 c12 c13 c14 c15 c16 e):=by
 refine lrG (fun s o h=> ?_) h
 obtain ⟨_,_⟩:=s
 simp only [gq] at h
 simp only [Cm,C3,tZ,Cv,CD]
 have d1:= @fR
 exact go2
def tW (s:System) (t:Setting) (publics:(List Int)) (source:Source):Option (Source):=
 (rH s).bind fun r_=>
 br (bE (r_.length+([(UInt8.ofInt t.Rate),(UInt8.ofInt t.Queries),(UInt8.ofInt t.Grind)]:List UInt8).length) 1) (
 (Loop (gq ([(UInt8.ofInt t.Rate),(UInt8.ofInt t.Queries),(UInt8.ofInt t.Grind)]:List UInt8) publics s.Rows s.Cols s.Publics s.A s.B s.C t.Rate t.Queries t.Grind source.Script source.At source.State source.Count 0 (([]:List UInt8)) 0) ((r_++([(UInt8.ofInt t.Rate),(UInt8.ofInt t.Queries),(UInt8.ofInt t.Grind)]:List UInt8)),0)).bind fun e_=>
 (hU source e_.1).bind fun r_3=>
 some r_3) none
theorem Vy {s t publics source r} (h:tW s t publics source=some r):Call tab ow 214 [.agg [I s.Rows,I s.Cols,I s.Publics,sl eEntry s.A,sl eEntry s.B,sl eEntry s.C],.agg [I t.Rate,I t.Queries,I t.Grind],sl eI publics,.agg [sl eExt source.Script,I source.At,S source.State,I source.Count]] []=some (.agg [sl eExt r.Script,I r.At,S r.State,I r.Count],[]):=by
 rw [ab (af:=tx) rfl]
 unfold tW at h
 simp only [tx,zr]
 have d1:= @QY
 have d2:= @PF
 have d3:= @mp
 exact go2
end
section
theorem OL:mkR 3000 []=rws eExt []:=rfl
attribute [local go_sem] OL
theorem Oe:mkR 4000 []=rws eExt []:=rfl
attribute [local go_sem] Oe
theorem NI:mkR 10000 []=rws eExt []:=rfl
attribute [local go_sem] NI
theorem NY:mkR 17002 []=rws eExt []:=rfl
attribute [local go_sem] NY
theorem PV:mkR 12000 []=rws eExt []:=rfl
attribute [local go_sem] PV
def cu (ListtoArray2:Int) (t:List (List Ext)) (t2 c7 c8 c9:Int) (c10:List UInt8) (c11:Int):(List Ext)×Int×Int×Int×(List Ext)×Int×(List UInt8)×Int→Option (((List Ext)×Int×Int×Int×(List Ext)×Int×(List UInt8)×Int)⊕(((List Ext)×(List Ext)×Int×Int×(List Ext)×Int×(List UInt8)×Int×(List Ext)×Int×(List UInt8)×Int)⊕((List Ext)×(List Ext)×Int×Int×(List Ext)×Int×(List UInt8)×Int×(List Ext)×Int×(List UInt8)×Int)⊕((List Ext)×Int×Bool×Int×Int×(List Ext)×Int×(List UInt8)×Int)))
 | (l,t3,c,c2,c3,c4,c5,c6)=>
   br (decide (t3<t2)) (
   (atL t t3).bind fun x=>
   (rp ListtoArray2).bind fun r_=>
   br (((x.length:Nat):Int) !=(wrap .i64 (r_+1))) (
   some (.inr (.inl (l,([]:List Ext),c,c2,c3,c4,c5,c6,c3,c4,c5,c6)))) (
   (atL x 0).bind fun x2=>
   (atL x 1).bind fun x3=>
   (fG x2 x3).bind fun r_2=>
   br (r_2.A==c) (
   br (r_2.B==c2) (
   (iH (Source.mk c3 c4 c5 c6) x).bind fun r_3=>
   (nA r_3).bind fun r_4=>
   (tT x r_4.2).bind fun r_5=>
   br (bE ((l++([r_4.2]:List Ext)).length) 16) (
   some (.inl ((l++([r_4.2]:List Ext)),(wrap .i64 (t3+1)),r_5.A,r_5.B,r_4.1.Script,r_4.1.At,r_4.1.State,r_4.1.Count))) none) (
   some (.inr (.inr (.inl (l,([]:List Ext),c,c2,c3,c4,c5,c6,c3,c4,c5,c6)))))) (
   some (.inr (.inr (.inl (l,([]:List Ext),c,c2,c3,c4,c5,c6,c3,c4,c5,c6))))))) (
   some (.inr (.inr (.inr (l,t3,decide (t3<t2),c,c2,c3,c4,c5,c6)))))
abbrev rV (c7 c8 c9:Int) (c10:List UInt8) (c11:Int) (l:List Ext) (c c2:Int) (c3:List Ext) (c4:Int) (c5:List UInt8) (c6:Int):List (Nat×Blk):=[(1000,⟨2,true,[[I c,I c2]]⟩),(1001,⟨4,true,[[sl eExt c3,I c4,S c5,I c6]]⟩),(1003,⟨2,true,[[I c7,I c8]]⟩),(1004,⟨4,true,[[.lit (.slice none 0 0),I c9,S c10,I c11]]⟩),(4000,⟨2,false,rws eExt l⟩)]
abbrev B1 (ListtoArray2:Int) (t:List (List Ext)) (t2 c7 c8 c9:Int) (c10:List UInt8) (c11:Int) (s:(List Ext)×Int×Int×Int×(List Ext)×Int×(List UInt8)×Int):St:=⟨[(0,I ListtoArray2),(2,sl (eL eExt) t),(3,I t2),(6,.ptr 1000 0 0 1),(9,.ptr 1001 0 0 1),(11,.ptr 1003 0 0 1),(12,.ptr 1004 0 0 1),(14,.sl 4000 0 s.1.length),(15,I s.2.1)],rV c7 c8 c9 c10 c11 s.1 s.2.2.1 s.2.2.2.1 s.2.2.2.2.1 s.2.2.2.2.2.1 s.2.2.2.2.2.2.1 s.2.2.2.2.2.2.2⟩
abbrev Bf (ListtoArray2:Int) (t:List (List Ext)) (t2 c7 c8 c9:Int) (c10:List UInt8) (c11:Int):(((List Ext)×(List Ext)×Int×Int×(List Ext)×Int×(List UInt8)×Int×(List Ext)×Int×(List UInt8)×Int)⊕((List Ext)×(List Ext)×Int×Int×(List Ext)×Int×(List UInt8)×Int×(List Ext)×Int×(List UInt8)×Int)⊕((List Ext)×Int×Bool×Int×Int×(List Ext)×Int×(List UInt8)×Int))→ag×St:=alt (fun e=>((.ret,⟨[(10,.sl 10000 0 e.2.1.length),(11,.ptr 1003 0 0 1),(12,.ptr 1004 0 0 1),(13,I 18)],[(1000,⟨2,true,[[I e.2.2.1,I e.2.2.2.1]]⟩),(1001,⟨4,true,[[sl eExt e.2.2.2.2.1,I e.2.2.2.2.2.1,S e.2.2.2.2.2.2.1,I e.2.2.2.2.2.2.2.1]]⟩),(1003,⟨2,true,[[I 0,I 0]]⟩),(1004,⟨4,true,[[sl eExt e.2.2.2.2.2.2.2.2.1,I e.2.2.2.2.2.2.2.2.2.1,S e.2.2.2.2.2.2.2.2.2.2.1,I e.2.2.2.2.2.2.2.2.2.2.2]]⟩),(4000,⟨2,false,rws eExt e.1⟩),(10000,⟨2,false,rws eExt e.2.1⟩)]⟩):ag×St)) (alt (fun e=>((.ret,⟨[(10,.sl 12000 0 e.2.1.length),(11,.ptr 1003 0 0 1),(12,.ptr 1004 0 0 1),(13,I 10)],[(1000,⟨2,true,[[I e.2.2.1,I e.2.2.2.1]]⟩),(1001,⟨4,true,[[sl eExt e.2.2.2.2.1,I e.2.2.2.2.2.1,S e.2.2.2.2.2.2.1,I e.2.2.2.2.2.2.2.1]]⟩),(1003,⟨2,true,[[I 0,I 0]]⟩),(1004,⟨4,true,[[sl eExt e.2.2.2.2.2.2.2.2.1,I e.2.2.2.2.2.2.2.2.2.1,S e.2.2.2.2.2.2.2.2.2.2.1,I e.2.2.2.2.2.2.2.2.2.2.2]]⟩),(4000,⟨2,false,rws eExt e.1⟩),(12000,⟨2,false,rws eExt e.2.1⟩)]⟩):ag×St)) (fun e=>(.exit 0,⟨[(0,I ListtoArray2),(2,sl (eL eExt) t),(3,I t2),(6,.ptr 1000 0 0 1),(9,.ptr 1001 0 0 1),(11,.ptr 1003 0 0 1),(12,.ptr 1004 0 0 1),(14,.sl 4000 0 e.1.length),(15,I e.2.1),(29,B e.2.2.1)],rV c7 c8 c9 c10 c11 e.1 e.2.2.2.1 e.2.2.2.2.1 e.2.2.2.2.2.1 e.2.2.2.2.2.2.1 e.2.2.2.2.2.2.2.1 e.2.2.2.2.2.2.2.2⟩)))
theorem MI {ListtoArray2 t t2 c7 c8 c9 c10 c11 s e} (h:Loop (cu ListtoArray2 t t2 c7 c8 c9 c10 c11) s=some e):aq tab ow (.close [9003,10000,11006,12000,13002,14001,14005,14006,16002,17002,17003]) AG (B1 ListtoArray2 t t2 c7 c8 c9 c10 c11 s)=some (Bf ListtoArray2 t t2 c7 c8 c9 c10 c11 e):=by
 refine lrG (fun s o h=> ?_) h
 obtain ⟨_,_,_,_,_,_,_,_⟩:=s
 simp only [cu] at h
 simp only [B1,Bf,rV,AG,Ag]
 have d1:= @RD
 have d2:= @kB
 have d3:= @vC
 have d4:= @Dl
 have d5:= @Lk
 exact go2
def ja (ListtoArray:Int) (a:Ext) (a2:(List (List Ext))) (a3:Int) (a4:Source):Option ((List Ext)×Ext×Source×Int):=
 br (((a2.length:Nat):Int) !=a3) (
 some (([]:List Ext),(Ext.mk 0 0),a4,18)) (
 (Loop (cu ListtoArray a2 a3 0 0 0 (([]:List UInt8)) 0) (([]:List Ext),0,a.A,a.B,a4.Script,a4.At,a4.State,a4.Count)).bind (alt (fun e_2=>
 some (e_2.2.1,(Ext.mk 0 0),(Source.mk e_2.2.2.2.2.2.2.2.2.1 e_2.2.2.2.2.2.2.2.2.2.1 e_2.2.2.2.2.2.2.2.2.2.2.1 e_2.2.2.2.2.2.2.2.2.2.2.2),18)) (alt (fun e_3=>
 some (e_3.2.1,(Ext.mk 0 0),(Source.mk e_3.2.2.2.2.2.2.2.2.1 e_3.2.2.2.2.2.2.2.2.2.1 e_3.2.2.2.2.2.2.2.2.2.2.1 e_3.2.2.2.2.2.2.2.2.2.2.2),10)) (fun e_4=>
 some (e_4.1,(Ext.mk e_4.2.2.2.1 e_4.2.2.2.2.1),(Source.mk e_4.2.2.2.2.2.1 e_4.2.2.2.2.2.2.1 e_4.2.2.2.2.2.2.2.1 e_4.2.2.2.2.2.2.2.2),0)))))
theorem Rf {ListtoArray a a2 a3 a4 r} (h:ja ListtoArray a a2 a3 a4=some r):Call tab ow 216 [I ListtoArray,.agg [I a.A,I a.B],sl (eL eExt) a2,I a3,.agg [sl eExt a4.Script,I a4.At,S a4.State,I a4.Count]] []=some (.tup [sl eExt r.1,.agg [I r.2.1.A,I r.2.1.B],.agg [sl eExt r.2.2.1.Script,I r.2.2.1.At,S r.2.2.1.State,I r.2.2.1.Count],I r.2.2.2],[]):=by
 rw [ab (af:=pP) rfl]
 unfold ja at h
 simp only [pP,wo]
 have d1:= @MI
 exact go2
end
section
theorem OM: ∀k,Bh 3002 k [I (0:Int)]=rws eI (List.replicate k (0:Int)):=fun _=>Ng eI (0:Int) _ _
attribute [local go_sem] OM
def fu (publics2 privates2:List Int) (half c c2 c3:Int) (c4 c5 c6:List Entry):(List Int)×Int→Option (((List Int)×Int)⊕(((List Int)×Int×Bool)))
 | (l,i)=>
   br (decide (i<((publics2.length:Nat):Int))) (
   (atL publics2 i).bind fun x2=>
   br (decide (0≤(wrap .i64 (1+i)))) (
   br (decide ((wrap .i64 (1+i)).toNat<l.length)) (
   (l[(wrap .i64 (1+i)).toNat]?).bind fun x3=>
   some (.inl ((l.set ((wrap .i64 (1+i)).toNat) x2),(wrap .i64 (i+1))))) none) none) (
   some (.inr (l,i,decide (i<((publics2.length:Nat):Int)))))
abbrev mY (c c2 c3:Int) (c4 c5 c6:List Entry) (l:List Int):List (Nat×Blk):=[(1000,⟨6,true,[[I c,I c2,I c3,sl eEntry c4,sl eEntry c5,sl eEntry c6]]⟩),(3002,⟨1,false,rws eI l⟩)]
abbrev rP (publics2 privates2:List Int) (half c c2 c3:Int) (c4 c5 c6:List Entry) (s:(List Int)×Int):St:=⟨[(1,sl eI publics2),(2,sl eI privates2),(7,I half),(8,.sl 3002 0 s.1.length),(9,I s.2)],mY c c2 c3 c4 c5 c6 s.1⟩
abbrev A8 (publics2 privates2:List Int) (half c c2 c3:Int) (c4 c5 c6:List Entry):((List Int)×Int×Bool)→ag×St:=fun e=>(.exit 0,⟨[(1,sl eI publics2),(2,sl eI privates2),(7,I half),(8,.sl 3002 0 e.1.length),(9,I e.2.1),(24,B e.2.2)],mY c c2 c3 c4 c5 c6 e.1⟩)
theorem MB {publics2 privates2 half c c2 c3 c4 c5 c6 s e} (h:Loop (fu publics2 privates2 half c c2 c3 c4 c5 c6) s=some e):aq tab ow (.close []) Ao (rP publics2 privates2 half c c2 c3 c4 c5 c6 s)=some (A8 publics2 privates2 half c c2 c3 c4 c5 c6 e):=by
 refine lrG (fun s o h=> ?_) h
 obtain ⟨_,_⟩:=s
 simp only [fu] at h
 simp only [rP,A8,mY,Ao,AY]
 exact go2
def fy (privates3:List Int) (half2 c7 c8 c9:Int) (c10 c11 c12:List Entry):(List Int)×Int→Option (((List Int)×Int)⊕(((List Int)×Int×Bool)))
 | (l2,i2)=>
   br (decide (i2<((privates3.length:Nat):Int))) (
   (atL privates3 i2).bind fun x4=>
   br (decide (0≤(wrap .i64 (half2+i2)))) (
   br (decide ((wrap .i64 (half2+i2)).toNat<l2.length)) (
   (l2[(wrap .i64 (half2+i2)).toNat]?).bind fun x5=>
   some (.inl ((l2.set ((wrap .i64 (half2+i2)).toNat) x4),(wrap .i64 (i2+1))))) none) none) (
   some (.inr (l2,i2,decide (i2<((privates3.length:Nat):Int)))))
abbrev rT (c7 c8 c9:Int) (c10 c11 c12:List Entry) (l2:List Int):List (Nat×Blk):=[(1000,⟨6,true,[[I c7,I c8,I c9,sl eEntry c10,sl eEntry c11,sl eEntry c12]]⟩),(3002,⟨1,false,rws eI l2⟩)]
abbrev AH (privates3:List Int) (half2 c7 c8 c9:Int) (c10 c11 c12:List Entry) (s:(List Int)×Int):St:=⟨[(2,sl eI privates3),(7,I half2),(8,.sl 3002 0 s.1.length),(10,I s.2)],rT c7 c8 c9 c10 c11 c12 s.1⟩
abbrev Aw (privates3:List Int) (half2 c7 c8 c9:Int) (c10 c11 c12:List Entry):((List Int)×Int×Bool)→ag×St:=fun e=>(.exit 2,⟨[(2,sl eI privates3),(7,I half2),(8,.sl 3002 0 e.1.length),(10,I e.2.1),(38,B e.2.2)],rT c7 c8 c9 c10 c11 c12 e.1⟩)
theorem MH {privates3 half2 c7 c8 c9 c10 c11 c12 s e} (h:Loop (fy privates3 half2 c7 c8 c9 c10 c11 c12) s=some e):aq tab ow (.close []) Aa (AH privates3 half2 c7 c8 c9 c10 c11 c12 s)=some (Aw privates3 half2 c7 c8 c9 c10 c11 c12 e):=by
 refine lrG (fun s o h=> ?_) h
 obtain ⟨_,_⟩:=s
 simp only [fy] at h
 simp only [AH,Aw,rT,Aa,Ae]
 exact go2
def rg (s:System) (publics privates:(List Int)):Option ((List Int)):=
 br (decide (0≤(wrap .u64 (wrap .i64 (s.Cols-1))))) (
 br (xU (wrap .i64 (2*(aD .i64 1 (wrap .u64 (wrap .i64 (s.Cols-1)))))) (wrap .i64 (2*(aD .i64 1 (wrap .u64 (wrap .i64 (s.Cols-1)))))) 8) (
 br (decide (0<(List.replicate ((wrap .i64 ((2:Int)*(aD .i64 (1:Int) (wrap .u64 (wrap .i64 (s.Cols-(1:Int))))))).toNat) (0:Int)).length)) (
 ((List.replicate ((wrap .i64 ((2:Int)*(aD .i64 (1:Int) (wrap .u64 (wrap .i64 (s.Cols-(1:Int))))))).toNat) (0:Int))[0]?).bind fun x=>
 (Loop (fu publics privates (aD .i64 (1:Int) (wrap .u64 (wrap .i64 (s.Cols-(1:Int))))) s.Rows s.Cols s.Publics s.A s.B s.C) (((List.replicate ((wrap .i64 ((2:Int)*(aD .i64 (1:Int) (wrap .u64 (wrap .i64 (s.Cols-(1:Int))))))).toNat) (0:Int)).set 0 (1:Int)),(0:Int))).bind fun e_=>
 (Loop (fy privates (aD .i64 1 (wrap .u64 (wrap .i64 (s.Cols-1)))) s.Rows s.Cols s.Publics s.A s.B s.C) (e_.1,0)).bind fun e_2=>
 some e_2.1) none) none) none
theorem R0 {s publics privates r} (h:rg s publics privates=some r):Call tab ow 248 [.agg [I s.Rows,I s.Cols,I s.Publics,sl eEntry s.A,sl eEntry s.B,sl eEntry s.C],sl eI publics,sl eI privates] []=some (sl eI r,[]):=by
 rw [ab (af:=pQ) rfl]
 unfold rg at h
 simp only [pQ,pA]
 have d1:= @MB
 simp only [rP,mY] at d1
 have d2:= @MH
 exact go2
end
section
theorem VP: ∀k,Bh 2001 k [I (0:Int),I (0:Int)]=rws eExt (List.replicate k (Ext.mk (0:Int) (0:Int))):=fun _=>Ng eExt (Ext.mk (0:Int) (0:Int)) _ _
attribute [local go_sem] VP
def pX (list2:List Int):(List Ext)×Int→Option (((List Ext)×Int)⊕(((List Ext)×Int×Bool)))
 | (l,i)=>
   br (decide (i<((list2.length:Nat):Int))) (
   (atL list2 i).bind fun x=>
   (oz x).bind fun r_=>
   br (decide (0≤i)) (
   br (decide (i.toNat<l.length)) (
   (l[i.toNat]?).bind fun x2=>
   some (.inl ((l.set i.toNat r_),(wrap .i64 (i+1))))) none) none) (
   some (.inr (l,i,decide (i<((list2.length:Nat):Int)))))
abbrev Ez (list2:List Int) (s:(List Ext)×Int):St:=⟨[(0,sl eI list2),(5,.sl 2001 0 s.1.length),(6,I s.2)],[(2001,⟨2,false,rws eExt s.1⟩)]⟩
abbrev F2 (list2:List Int):((List Ext)×Int×Bool)→ag×St:=fun e=>(.exit 0,⟨[(0,sl eI list2),(5,.sl 2001 0 e.1.length),(6,I e.2.1),(12,B e.2.2)],[(2001,⟨2,false,rws eExt e.1⟩)]⟩)
theorem RX {list2 s e} (h:Loop (pX list2) s=some e):aq tab ow (.close [6006]) Gc (Ez list2 s)=some (F2 list2 e):=by
 refine lrG (fun s o h=> ?_) h
 obtain ⟨_,_⟩:=s
 simp only [pX] at h
 simp only [Ez,F2,Gc,Gd]
 have d1:= @tG
 exact go2
def yF (list:(List Int)) (n:Int):Option ((List Ext)):=
 br (xU n n 16) (
 (Loop (pX list) ((List.replicate n.toNat (Ext.mk (0:Int) (0:Int))),(0:Int))).bind fun e_=>
 some e_.1) none
theorem ZR {list n r} (h:yF list n=some r):Call tab ow 247 [sl eI list,I n] []=some (sl eExt r,[]):=by
 rw [ab (af:=wg) rfl]
 unfold yF at h
 simp only [wg,D4]
 have d1:= @RX
 exact go2
end
def nD (table2 e_:List Ext) (c c2:Int):Int×Int×Int→Option ((Int×Int×Int)⊕((Int×Bool×Int×Int)))
 | (i,c3,c4)=>
   br (decide (i<((table2.length:Nat):Int))) (
   (atL table2 i).bind fun x=>
   (atL e_ i).bind fun x2=>
   (bW x x2).bind fun r_2=>
   (fG (Ext.mk c3 c4) r_2).bind fun r_3=>
   some (.inl ((wrap .i64 (i+1)),r_3.A,r_3.B))) (
   some (.inr (i,decide (i<((table2.length:Nat):Int)),c3,c4)))
abbrev BU (c c2 c3 c4:Int):List (Nat×Blk):=[(1000,⟨2,true,[[I c,I c2]]⟩),(3001,⟨2,true,[[I c3,I c4]]⟩)]
abbrev LY (table2 e_:List Ext) (c c2:Int) (s:Int×Int×Int):St:=⟨[(0,sl eExt table2),(4,.ptr 1000 0 0 1),(5,sl eExt e_),(6,.ptr 3001 0 0 1),(7,I s.1)],BU c c2 s.2.1 s.2.2⟩
abbrev Li (table2 e_:List Ext) (c c2:Int):(Int×Bool×Int×Int)→ag×St:=fun e=>(.exit 0,⟨[(0,sl eExt table2),(4,.ptr 1000 0 0 1),(5,sl eExt e_),(6,.ptr 3001 0 0 1),(7,I e.1),(14,B e.2.1)],BU c c2 e.2.2.1 e.2.2.2⟩)
theorem Zs {table2 e_ c c2 s e} (h:Loop (nD table2 e_ c c2) s=some e):aq tab ow (.close [7009,7010]) Ls (LY table2 e_ c c2 s)=some (Li table2 e_ c c2 e):=by
 refine lrG (fun s o h=> ?_) h
 obtain ⟨_,_,_⟩:=s
 simp only [nD] at h
 simp only [LY,Li,BU,Ls,KZ]
 have d1:= @ii
 have d2:= @kB
 exact go2
def zI (table point:(List Ext)):Option (Ext):=
 (E4 point).bind fun r_=>
 (Loop (nD table r_ 0 0) (0,0,0)).bind fun e_2=>
 some (Ext.mk e_2.2.2.1 e_2.2.2.2)
theorem SU {table point r} (h:zI table point=some r):Call tab ow 220 [sl eExt table,sl eExt point] []=some (.agg [I r.A,I r.B],[]):=by
 rw [ab (af:=E5) rfl]
 unfold zI at h
 simp only [E5,KB]
 have d1:= @TB
 have d2:= @Zs
 exact go2
section
theorem Pf:mkR 2002 []=rws eI []:=rfl
attribute [local go_sem] Pf
def ru (s:System) (publics:(List Int)) (point:(List Ext)):Option (Ext):=
 (rg s publics ([]:List Int)).bind fun r_=>
 br (decide (0≤(wrap .u64 (wrap .i64 (s.Cols-1))))) (
 (jO r_ 0 (aD .i64 1 (wrap .u64 (wrap .i64 (s.Cols-1))))).bind fun y=>
 br (decide (0≤(wrap .u64 (wrap .i64 (s.Cols-1))))) (
 (yF y (aD .i64 1 (wrap .u64 (wrap .i64 (s.Cols-1))))).bind fun r_2=>
 (zI r_2 point).bind fun r_3=>
 some r_3) none) none
theorem Sw {s publics point r} (h:ru s publics point=some r):Call tab ow 219 [.agg [I s.Rows,I s.Cols,I s.Publics,sl eEntry s.A,sl eEntry s.B,sl eEntry s.C],sl eI publics,sl eExt point] []=some (.agg [I r.A,I r.B],[]):=by
 rw [ab (af:=qM) rfl]
 unfold ru at h
 simp only [qM,EG]
 have d1:= @R0
 have d2:= @ZR
 have d3:= @SU
 exact go2
end
section
theorem RQ: ∀k,Bh 2004 k [I (0:Int),I (0:Int)]=rws eExt (List.replicate k (Ext.mk (0:Int) (0:Int))):=fun _=>Ng eExt (Ext.mk (0:Int) (0:Int)) _ _
attribute [local go_sem] RQ
theorem QU:mkR 4006 []=rws (eL eEntry) []:=rfl
attribute [local go_sem] QU
def dm (l4:List (List Entry)) (t4 t5:List Ext) (t6 c7 c8 c9:Int) (c10 c11 c12:List Entry):(List Ext)×Int→Option (((List Ext)×Int)⊕(((List Ext)×Int×Bool)))
 | (l3,t7)=>
   br (decide (0≤t6)) (
   br (decide (t6.toNat<l4.length)) (
   (l4[t6.toNat]?).bind fun x=>
   br (decide (t7<((x.length:Nat):Int))) (
   br (decide (0≤t6)) (
   br (decide (t6.toNat<l4.length)) (
   (l4[t6.toNat]?).bind fun x2=>
   (atL x2 t7).bind fun x3=>
   br (decide (0≤x3.Col)) (
   br (decide (x3.Col.toNat<l3.length)) (
   (l3[x3.Col.toNat]?).bind fun x4=>
   (atL t4 t6).bind fun x5=>
   (oz x3.Value).bind fun r_2=>
   (atL t5 x3.Row).bind fun x6=>
   (bW r_2 x6).bind fun r_3=>
   (bW x5 r_3).bind fun r_4=>
   (fG x4 r_4).bind fun r_5=>
   br (decide (0≤x3.Col)) (
   br (decide (x3.Col.toNat<l3.length)) (
   (l3[x3.Col.toNat]?).bind fun x7=>
   some (.inl ((l3.set x3.Col.toNat r_5),(wrap .i64 (t7+1))))) none) none) none) none) none) none) (
   some (.inr (l3,t7,decide (t7<((x.length:Nat):Int)))))) none) none
abbrev uy (l4:List (List Entry)) (c7 c8 c9:Int) (c10 c11 c12:List Entry) (l3:List Ext):List (Nat×Blk):=[(1000,⟨6,true,[[I c7,I c8,I c9,sl eEntry c10,sl eEntry c11,sl eEntry c12]]⟩),(2004,⟨2,false,rws eExt l3⟩),(4006,⟨1,false,rws (eL eEntry) l4⟩)]
abbrev Ce (l4:List (List Entry)) (t4 t5:List Ext) (t6 c7 c8 c9:Int) (c10 c11 c12:List Entry) (s:(List Ext)×Int):St:=⟨[(2,sl eExt t4),(7,.sl 2004 0 s.1.length),(8,sl eExt t5),(9,.sl 4006 0 l4.length),(10,I t6),(11,I s.2)],uy l4 c7 c8 c9 c10 c11 c12 s.1⟩
abbrev Cw (l4:List (List Entry)) (t4 t5:List Ext) (t6 c7 c8 c9:Int) (c10 c11 c12:List Entry):((List Ext)×Int×Bool)→ag×St:=fun e=>(.exit 2,⟨[(2,sl eExt t4),(7,.sl 2004 0 e.1.length),(8,sl eExt t5),(9,.sl 4006 0 l4.length),(10,I t6),(11,I e.2.1),(37,B e.2.2)],uy l4 c7 c8 c9 c10 c11 c12 e.1⟩)
theorem Qp {l4 t4 t5 t6 c7 c8 c9 c10 c11 c12 s e} (h:Loop (dm l4 t4 t5 t6 c7 c8 c9 c10 c11 c12) s=some e):aq tab ow (.close [11007,12014,12020,12021,12022]) CM (Ce l4 t4 t5 t6 c7 c8 c9 c10 c11 c12 s)=some (Cw l4 t4 t5 t6 c7 c8 c9 c10 c11 c12 e):=by
 refine lrG (fun s o h=> ?_) h
 obtain ⟨_,_⟩:=s
 simp only [dm] at h
 simp only [Ce,Cw,uy,CM,Br]
 have d1:= @tG
 have d2:= @ii
 have d3:= @kB
 exact go2
def iY (l2:List (List Entry)) (t t2:List Ext) (c c2 c3:Int) (c4 c5 c6:List Entry):(List Ext)×Int→Option (((List Ext)×Int)⊕(((List Ext)×Int×Bool)))
 | (l,t3)=>
   br (decide (t3<3)) (
   (Loop (dm l2 t t2 t3 c c2 c3 c4 c5 c6) (l,0)).bind fun e_=>
   some (.inl (e_.1,(wrap .i64 (t3+1))))) (
   some (.inr (l,t3,decide (t3<3))))
abbrev ul (l2:List (List Entry)) (c c2 c3:Int) (c4 c5 c6:List Entry) (l:List Ext):List (Nat×Blk):=[(1000,⟨6,true,[[I c,I c2,I c3,sl eEntry c4,sl eEntry c5,sl eEntry c6]]⟩),(2004,⟨2,false,rws eExt l⟩),(4006,⟨1,false,rws (eL eEntry) l2⟩)]
abbrev Dc (l2:List (List Entry)) (t t2:List Ext) (c c2 c3:Int) (c4 c5 c6:List Entry) (s:(List Ext)×Int):St:=⟨[(2,sl eExt t),(7,.sl 2004 0 s.1.length),(8,sl eExt t2),(9,.sl 4006 0 l2.length),(10,I s.2)],ul l2 c c2 c3 c4 c5 c6 s.1⟩
abbrev BB (l2:List (List Entry)) (t t2:List Ext) (c c2 c3:Int) (c4 c5 c6:List Entry):((List Ext)×Int×Bool)→ag×St:=fun e=>(.exit 0,⟨[(2,sl eExt t),(7,.sl 2004 0 e.1.length),(8,sl eExt t2),(9,.sl 4006 0 l2.length),(10,I e.2.1),(28,B e.2.2)],ul l2 c c2 c3 c4 c5 c6 e.1⟩)
theorem P8 {l2 t t2 c c2 c3 c4 c5 c6 s e} (h:Loop (iY l2 t t2 c c2 c3 c4 c5 c6) s=some e):aq tab ow (.close [11007,12014,12020,12021,12022]) D5 (Dc l2 t t2 c c2 c3 c4 c5 c6 s)=some (BB l2 t t2 c c2 c3 c4 c5 c6 e):=by
 refine lrG (fun s o h=> ?_) h
 obtain ⟨_,_⟩:=s
 simp only [iY] at h
 simp only [Dc,BB,ul,D5,C4]
 have d1:= @Qp
 exact go2
def uo (ListtoArray:System) (a a2:(List Ext)):Option ((List Ext)):=
 br (decide (0≤(wrap .u64 ListtoArray.Cols))) (
 br (xU (aD .i64 1 (wrap .u64 ListtoArray.Cols)) (aD .i64 1 (wrap .u64 ListtoArray.Cols)) 16) (
 (E4 a).bind fun r_=>
 (Loop (iY ([ListtoArray.A,ListtoArray.B,ListtoArray.C]:List (List Entry)) a2 r_ ListtoArray.Rows ListtoArray.Cols ListtoArray.Publics ListtoArray.A ListtoArray.B ListtoArray.C) ((List.replicate ((aD .i64 (1:Int) (wrap .u64 ListtoArray.Cols)).toNat) (Ext.mk (0:Int) (0:Int))),(0:Int))).bind fun e_2=>
 some e_2.1) none) none
theorem UN {ListtoArray a a2 r} (h:uo ListtoArray a a2=some r):Call tab ow 221 [.agg [I ListtoArray.Rows,I ListtoArray.Cols,I ListtoArray.Publics,sl eEntry ListtoArray.A,sl eEntry ListtoArray.B,sl eEntry ListtoArray.C],sl eExt a,sl eExt a2] []=some (sl eExt r,[]):=by
 rw [ab (af:=sZ) rfl]
 unfold uo at h
 simp only [sZ,sH]
 have d1:= @TB
 have d2:= @P8
 exact go2
end
section
theorem NC:mkR 7009 []=rws eExt []:=rfl
attribute [local go_sem] NC
theorem PI:mkR 9007 []=rws eExt []:=rfl
attribute [local go_sem] PI
theorem Qj:mkR 21003 []=rws eExt []:=rfl
attribute [local go_sem] Qj
def nB (ListtoArray:System) (a:Setting) (a2:(List Int)) (a3:gn) (a4:Source):Option (Int):=
 (tW ListtoArray a a2 a4).bind fun r_=>
 (hU r_ a3.Root).bind fun r_2=>
 (p6 r_2 ListtoArray.Rows).bind fun r_3=>
 (ja 2 (Ext.mk 0 0) a3.Gates ListtoArray.Rows r_3.1).bind fun r_4=>
 br (r_4.2.2.2 !=0) (
 some r_4.2.2.2) (
 (py r_3.2 r_4.1).bind fun r_5=>
 (kY 2 ([r_5,a3.VA,a3.VB,a3.VC]:List Ext)).bind fun r_6=>
 br (r_6.A==r_4.2.1.A) (
 br (r_6.B==r_4.2.1.B) (
 (iH r_4.2.2.1 ([a3.VA,a3.VB,a3.VC]:List Ext)).bind fun r_7=>
 (p6 r_7 3).bind fun r_8=>
 (atL r_8.2 0).bind fun x=>
 (bW x a3.VA).bind fun r_9=>
 (atL r_8.2 1).bind fun x2=>
 (bW x2 a3.VB).bind fun r_10=>
 (atL r_8.2 2).bind fun x3=>
 (bW x3 a3.VC).bind fun r_11=>
 (fG r_10 r_11).bind fun r_12=>
 (fG r_9 r_12).bind fun r_13=>
 (ja 1 r_13 a3.Wires ListtoArray.Cols r_8.1).bind fun r_14=>
 br (r_14.2.2.2 !=0) (
 some r_14.2.2.2) (
 (jO r_14.1 0 (wrap .i64 (ListtoArray.Cols-1))).bind fun y=>
 (atL r_14.1 (wrap .i64 (ListtoArray.Cols-1))).bind fun x4=>
 (kO x4).bind fun r_15=>
 (ru ListtoArray a2 y).bind fun r_16=>
 (bW r_15 r_16).bind fun r_17=>
 (bW x4 a3.VW).bind fun r_18=>
 (fG r_17 r_18).bind fun r_19=>
 (uo ListtoArray r_4.1 r_8.2).bind fun r_20=>
 (zI r_20 r_14.1).bind fun r_21=>
 (bW r_21 r_19).bind fun r_22=>
 br (r_22.A==r_14.2.1.A) (
 br (r_22.B==r_14.2.1.B) (
 (iH r_14.2.2.1 ([a3.VW]:List Ext)).bind fun r_23=>
 (tV a3.Root (wrap .i64 (ListtoArray.Cols-1)) y a3.VW a a3.Open r_23).bind fun r_24=>
 some r_24.2) (
 some 11)) (
 some 11))) (
 some 11)) (
 some 11))
theorem Se {ListtoArray a a2 a3 a4 r} (h:nB ListtoArray a a2 a3 a4=some r):Call tab ow 112 [.agg [I ListtoArray.Rows,I ListtoArray.Cols,I ListtoArray.Publics,sl eEntry ListtoArray.A,sl eEntry ListtoArray.B,sl eEntry ListtoArray.C],.agg [I a.Rate,I a.Queries,I a.Grind],sl eI a2,.agg [S a3.Root,sl (eL eExt) a3.Gates,I a3.VA.A,I a3.VA.B,I a3.VB.A,I a3.VB.B,I a3.VC.A,I a3.VC.B,sl (eL eExt) a3.Wires,I a3.VW.A,I a3.VW.B,sl (eL eExt) a3.Open.Rounds,sl eS a3.Open.Roots,I a3.Open.Last.A,I a3.Open.Last.B,I a3.Open.Nonce,sl aE a3.Open.Queries],.agg [sl eExt a4.Script,I a4.At,S a4.State,I a4.Count]] []=some (I r,[]):=by
 rw [ab (af:=qE) rfl]
 unfold nB at h
 simp only [qE,Gk]
 have d1:= @Vy
 have d2:= @mp
 have d3:= @KS
 have d4:= @Rf
 have d5:= @Lp
 have d6:= @NB
 have d7:= @vC
 have d8:= @ii
 have d9:= @kB
 have d10:= @Db
 have d11:= @Sw
 have d12:= @UN
 have d13:= @SU
 have d14:= @Wl
 exact go2
end
def fT (s:System):Option (Int):=
 br (decide (0≤(wrap .i64 (s.Cols-1)))) (
 some (aD .i64 1 (wrap .i64 (s.Cols-1)))) none
theorem rO {s r} (h:fT s=some r):Call tab ow 256 [.agg [I s.Rows,I s.Cols,I s.Publics,sl eEntry s.A,sl eEntry s.B,sl eEntry s.C]] []=some (I r,[]):=by
 rw [ab (af:=mH) rfl]
 unfold fT at h
 simp only [mH,AB]
 exact go2
def dj (s:System):Option (((List Entry)×(List Entry)×(List Entry))):=
 some (s.A,s.B,s.C)
theorem lL {s r} (h:dj s=some r):Call tab ow 257 [.agg [I s.Rows,I s.Cols,I s.Publics,sl eEntry s.A,sl eEntry s.B,sl eEntry s.C]] []=some (.agg [sl eEntry r.1,sl eEntry r.2.1,sl eEntry r.2.2],[]):=by
 rw [ab (af:=iy) rfl]
 unfold dj at h
 simp only [iy,sv]
 exact go2
def mb (x:Int):Option (Bool):=
 some (x !=x)
theorem ML {x r} (h:mb x=some r):Call tab ow 357 [I x] []=some (B r,[]):=by
 rw [ab (af:=mO) rfl]
 unfold mb at h
 simp only [mO,A4]
 exact go2
def gV (x y:Int):Option (Int):=
 (mb x).bind fun r_=>
 (mb y).bind fun r_2=>
 br r_ (
 br r_2 (
 some 0) (
 some (-1:Int))) (
 br r_2 (
 some 1) (
 br (decide (x<y)) (
 some (-1:Int)) (
 br (decide (x>y)) (
 some 1) (
 some 0))))
theorem Iw {x y r} (h:gV x y=some r):Call tab ow 354 [I x,I y] []=some (I r,[]):=by
 rw [ab (af:=ke) rfl]
 unfold gV at h
 simp only [ke,vX]
 have d1:= @ML
 exact go2
def dS (zero:Int) (t:List Int) (t2:Int):Int→Option ((Int)⊕(Int⊕(Int×Bool)))
 |t3=>
  br (decide (t3<t2)) (
  (atL t t3).bind fun x=>
  br (x !=zero) (
  some (.inr (.inl x))) (
  some (.inl (wrap .i64 (t3+1))))) (
  some (.inr (.inr (t3,decide (t3<t2)))))
abbrev Cc (zero:Int) (t:List Int) (t2 s:Int):St:=⟨[(3,I zero),(6,sl eI t),(7,I t2),(8,I s)],[]⟩
abbrev Bv (zero:Int) (t:List Int) (t2:Int):(Int⊕(Int×Bool))→ag×St:=alt (fun e=>((.ret,⟨[(2,I e)],[]⟩):ag×St)) (fun e=>(.exit 0,⟨[(3,I zero),(6,sl eI t),(7,I t2),(8,I e.1),(9,B e.2)],[]⟩))
theorem Pq {zero t t2 s e} (h:Loop (dS zero t t2) s=some e):aq tab ow (.close []) Bw (Cc zero t t2 s)=some (Bv zero t t2 e):=by
 refine lrG (fun s o h=> ?_) h
 simp only [dS] at h
 simp only [Cc,Bv,Bw,D3]
 exact go2
def ub (vals:(List Int)):Option (Int):=
 (Loop (dS 0 vals ((vals.length:Nat):Int)) 0).bind (alt (fun e_2=>
 some e_2) (fun e_3=>
 some 0))
theorem Ut {vals r} (h:ub vals=some r):Call tab ow 353 [sl eI vals] []=some (I r,[]):=by
 rw [ab (af:=sP) rfl]
 unfold ub at h
 simp only [sP,A1]
 have d1:= @Pq
 exact go2
section
theorem JS:mkR 2010 []=rws eI []:=rfl
attribute [local go_sem] JS
def ma (e_ f:Entry):Option (Int):=
 (gV e_.Row f.Row).bind fun r_=>
 (gV e_.Col f.Col).bind fun r_2=>
 (ub ([r_,r_2]:List Int)).bind fun r_3=>
 some r_3
theorem M4 {e_ f r} (h:ma e_ f=some r):Call tab ow 327 [.agg [I e_.Row,I e_.Col,I e_.Value],.agg [I f.Row,I f.Col,I f.Value]] []=some (I r,[]):=by
 rw [ab (af:=mP) rfl]
 unfold ma at h
 simp only [mP,AU]
 have d1:= @Iw
 have d2:= @Ut
 exact go2
end
def kz (list2:List Entry) (rows2 cols2:Int) (t:List Entry) (t2:Int):Int→Option ((Int)⊕((Int×Int×Int)⊕(Int×Bool)))
 |t3=>
  br (decide (t3<t2)) (
  (atL t t3).bind fun x=>
  (ws x.Row 0 (wrap .i64 (rows2-1))).bind fun r_=>
  br (!r_) (
  some (.inr (.inl (x.Row,x.Col,x.Value)))) (
  (ws x.Col 0 (wrap .i64 (cols2-1))).bind fun r_2=>
  br (!r_2) (
  some (.inr (.inl (x.Row,x.Col,x.Value)))) (
  (ws x.Value 1 2130706432).bind fun r_3=>
  br (!r_3) (
  some (.inr (.inl (x.Row,x.Col,x.Value)))) (
  br (decide (t3>0)) (
  (atL list2 (wrap .i64 (t3-1))).bind fun x2=>
  (ma x2 x).bind fun r_4=>
  br (decide (r_4≥0)) (
  some (.inr (.inl (x.Row,x.Col,x.Value)))) (
  some (.inl (wrap .i64 (t3+1))))) (
  some (.inl (wrap .i64 (t3+1)))))))) (
  some (.inr (.inr (t3,decide (t3<t2)))))
abbrev Dx (list2:List Entry) (rows2 cols2:Int) (t:List Entry) (t2 s:Int):St:=⟨[(0,sl eEntry list2),(1,I rows2),(2,I cols2),(9,sl eEntry t),(10,I t2),(11,I s)],[]⟩
abbrev Bu (list2:List Entry) (rows2 cols2:Int) (t:List Entry) (t2:Int):((Int×Int×Int)⊕(Int×Bool))→ag×St:=alt (fun e=>((.ret,⟨[(6,B false)],[(4003,⟨3,true,[[I e.1,I e.2.1,I e.2.2]]⟩)]⟩):ag×St)) (fun e=>(.exit 0,⟨[(0,sl eEntry list2),(1,I rows2),(2,I cols2),(9,sl eEntry t),(10,I t2),(11,I e.1),(12,B e.2)],[]⟩))
theorem Q5 {list2 rows2 cols2 t t2 s e} (h:Loop (kz list2 rows2 cols2 t t2) s=some e):aq tab ow (.close [4003,5004,5011,5017,5030]) BN (Dx list2 rows2 cols2 t t2 s)=some (Bu list2 rows2 cols2 t t2 e):=by
 refine lrG (fun s o h=> ?_) h
 simp only [kz] at h
 simp only [Dx,Bu,BN,D8]
 have d1:= @zH
 have d2:= @M4
 exact go2
def nh (list:(List Entry)) (rows cols:Int):Option (Bool):=
 (Loop (kz list rows cols list ((list.length:Nat):Int)) 0).bind (alt (fun e_2=>
 some false) (fun e_3=>
 some (decide (((list.length:Nat):Int)≤200))))
theorem zB {list rows cols r} (h:nh list rows cols=some r):Call tab ow 258 [sl eEntry list,I rows,I cols] []=some (B r,[]):=by
 rw [ab (af:=tm) rfl]
 unfold nh at h
 simp only [tm,zM]
 have d1:= @Q5
 exact go2
def oP (s:System):Option (Bool):=
 (ws s.Rows 1 5).bind fun r_=>
 br (!r_) (
 some false) (
 (ws s.Cols 2 5).bind fun r_2=>
 br (!r_2) (
 some false) (
 (fT s).bind fun r_3=>
 (ws s.Publics 0 (wrap .i64 (r_3-1))).bind fun r_4=>
 br (!r_4) (
 some false) (
 (dj s).bind fun r_5=>
 br (decide (0≤s.Rows)) (
 br (decide (0≤s.Cols)) (
 (nh r_5.1 (aD .i64 1 s.Rows) (aD .i64 1 s.Cols)).bind fun r_6=>
 br (!r_6) (
 some false) (
 br (decide (0≤s.Rows)) (
 br (decide (0≤s.Cols)) (
 (nh r_5.2.1 (aD .i64 1 s.Rows) (aD .i64 1 s.Cols)).bind fun r_7=>
 br (!r_7) (
 some false) (
 br (decide (0≤s.Rows)) (
 br (decide (0≤s.Cols)) (
 (nh r_5.2.2 (aD .i64 1 s.Rows) (aD .i64 1 s.Cols)).bind fun r_8=>
 br (!r_8) (
 some false) (
 some true)) none) none)) none) none)) none) none)))
theorem J0 {s r} (h:oP s=some r):Call tab ow 137 [.agg [I s.Rows,I s.Cols,I s.Publics,sl eEntry s.A,sl eEntry s.B,sl eEntry s.C]] []=some (B r,[]):=by
 rw [ab (af:=tn) rfl]
 unfold oP at h
 simp+decide only [tn,zo,go_sem,reduceIte,Nat.reduceAdd,Int.reduceAdd,Int.reduceMul,Int.reduceSub]
 obtain ⟨r_,h1,h⟩:=bd h
 refine le (zH h1) ?_
 simp+decide only [go_sem,reduceIte,Nat.reduceAdd,Int.reduceAdd,Int.reduceMul,Int.reduceSub]
 rcases brc h with ⟨hb,h⟩|⟨hb,h⟩
 ·refine GV hb ?_
  obtain rfl:=Option.some.inj h
  first|rfl| (simp only [List.length_set,go_sem];done)
 ·refine a5t hb ?_
  obtain ⟨r_2,h1,h⟩:=bd h
  refine le (zH h1) ?_
  simp+decide only [go_sem,reduceIte,Nat.reduceAdd,Int.reduceAdd,Int.reduceMul,Int.reduceSub]
  rcases brc h with ⟨hb,h⟩|⟨hb,h⟩
  ·refine GV hb ?_
   obtain rfl:=Option.some.inj h
   first|rfl| (simp only [List.length_set,go_sem];done)
  ·refine a5t hb ?_
   obtain ⟨r_3,h1,h⟩:=bd h
   refine le (rO h1) ?_
   simp+decide only [go_sem,reduceIte,Nat.reduceAdd,Int.reduceAdd,Int.reduceMul,Int.reduceSub]
   obtain ⟨r_4,h1,h⟩:=bd h
   refine le (zH h1) ?_
   simp+decide only [go_sem,reduceIte,Nat.reduceAdd,Int.reduceAdd,Int.reduceMul,Int.reduceSub]
   rcases brc h with ⟨hb,h⟩|⟨hb,h⟩
   ·refine GV hb ?_
    obtain rfl:=Option.some.inj h
    first|rfl| (simp only [List.length_set,go_sem];done)
   ·refine a5t hb ?_
    obtain ⟨r_5,h1,h⟩:=bd h
    refine uf (lL h1) ?_
    simp+decide only [go_sem,reduceIte,Nat.reduceAdd,Int.reduceAdd,Int.reduceMul,Int.reduceSub]
    refine gZ ?_
    simp+decide only [mkL,go_sem,reduceIte,Nat.reduceAdd,Int.reduceAdd,Int.reduceMul,Int.reduceSub]
    obtain ⟨hb,h⟩:=brg h
    refine GV hb ?_
    obtain ⟨hb,h⟩:=brg h
    refine GV hb ?_
    obtain ⟨r_6,h1,h⟩:=bd h
    refine le (zB h1) ?_
    simp+decide only [go_sem,reduceIte,Nat.reduceAdd,Int.reduceAdd,Int.reduceMul,Int.reduceSub]
    rcases brc h with ⟨hb,h⟩|⟨hb,h⟩
    ·refine GV hb ?_
     obtain rfl:=Option.some.inj h
     first|rfl| (simp only [List.length_set,go_sem];done)
    ·refine a5t hb ?_
     refine gZ ?_
     simp+decide only [mkL,go_sem,reduceIte,Nat.reduceAdd,Int.reduceAdd,Int.reduceMul,Int.reduceSub]
     obtain ⟨hb,h⟩:=brg h
     refine GV hb ?_
     obtain ⟨hb,h⟩:=brg h
     refine GV hb ?_
     obtain ⟨r_7,h1,h⟩:=bd h
     refine le (zB h1) ?_
     simp+decide only [go_sem,reduceIte,Nat.reduceAdd,Int.reduceAdd,Int.reduceMul,Int.reduceSub]
     rcases brc h with ⟨hb,h⟩|⟨hb,h⟩
     ·refine GV hb ?_
      obtain rfl:=Option.some.inj h
      first|rfl| (simp only [List.length_set,go_sem];done)
     ·refine a5t hb ?_
      refine gZ ?_
      simp+decide only [mkL,go_sem,reduceIte,Nat.reduceAdd,Int.reduceAdd,Int.reduceMul,Int.reduceSub]
      obtain ⟨hb,h⟩:=brg h
      refine GV hb ?_
      obtain ⟨hb,h⟩:=brg h
      refine GV hb ?_
      obtain ⟨r_8,h1,h⟩:=bd h
      refine le (zB h1) ?_
      simp+decide only [go_sem,reduceIte,Nat.reduceAdd,Int.reduceAdd,Int.reduceMul,Int.reduceSub]
      rcases brc h with ⟨hb,h⟩|⟨hb,h⟩
      ·refine GV hb ?_
       obtain rfl:=Option.some.inj h
       first|rfl| (simp only [List.length_set,go_sem];done)
      ·refine a5t hb ?_
       refine gZ ?_
       simp+decide only [mkL,go_sem,reduceIte,Nat.reduceAdd,Int.reduceAdd,Int.reduceMul,Int.reduceSub]
       obtain rfl:=Option.some.inj h
       first|rfl| (simp only [List.length_set,go_sem];done)
def fB (x:Int):Option (Bool):=
 (oT x).bind fun r_=>
 some (!r_)
theorem Bk {x r} (h:fB x=some r):Call tab ow 311 [I x,.ptr 0 0 0 1] [⟨1,true,[[.fn 186 []]]⟩]=some (B r,[⟨1,true,[[.fn 186 []]]⟩]):=by
 rw [ab (af:=pN) rfl]
 unfold fB at h
 simp only [pN,Fk]
 have d1:= @LL
 exact go2
def bf (s2:List Int) (t:Int):Int→Option ((Int)⊕(Int⊕(Int×Bool)))
 |t2=>
  br (decide (t2<t)) (
  (atL s2 t2).bind fun x=>
  (fB x).bind fun r_=>
  br r_ (
  some (.inr (.inl t2))) (
  some (.inl (wrap .i64 (t2+1))))) (
  some (.inr (.inr (t2,decide (t2<t)))))
abbrev dk (s2:List Int) (t s:Int):St:=⟨[(0,sl eI s2),(1,.fn 311 [.ptr 0 0 0 1]),(7,I t),(8,I s)],[(0,⟨1,true,[[.fn 186 []]]⟩)]⟩
abbrev dg (s2:List Int) (t:Int):(Int⊕(Int×Bool))→ag×St:=alt (fun e=>((.ret,⟨[(4,I e)],[(0,⟨1,true,[[.fn 186 []]]⟩)]⟩):ag×St)) (fun e=>(.exit 0,⟨[(0,sl eI s2),(1,.fn 311 [.ptr 0 0 0 1]),(7,I t),(8,I e.1),(9,B e.2)],[(0,⟨1,true,[[.fn 186 []]]⟩)]⟩))
theorem hK {s2 t s e} (h:Loop (bf s2 t) s=some e):aq tab ow (.close [5005]) jc (dk s2 t s)=some (dg s2 t e):=by
 refine lrG (fun s o h=> ?_) h
 simp only [bf] at h
 simp only [dk,dg,jc,jb]
 have d1:= @Bk
 exact go2
def bq (s:(List Int)):Option (Int):=
 (Loop (bf s ((s.length:Nat):Int)) 0).bind (alt (fun e_2=>
 some e_2) (fun e_3=>
 some (-1:Int)))
theorem iv {s r} (h:bq s=some r):Call tab ow 348 [sl eI s,.fn 311 [.ptr 0 0 0 1]] [⟨1,true,[[.fn 186 []]]⟩]=some (I r,[⟨1,true,[[.fn 186 []]]⟩]):=by
 rw [ab (af:=dC) rfl]
 unfold bq at h
 simp only [dC,fO]
 have d1:= @hK
 exact go2
def bi (s:(List Int)):Option (Bool):=
 (bq s).bind fun r_=>
 some (decide (r_≥0))
theorem gR {s r} (h:bi s=some r):Call tab ow 310 [sl eI s,.fn 311 [.ptr 0 0 0 1]] [⟨1,true,[[.fn 186 []]]⟩]=some (B r,[⟨1,true,[[.fn 186 []]]⟩]):=by
 rw [ab (af:=cT) rfl]
 unfold bi at h
 simp only [cT,iS]
 have d1:= @iv
 exact go2
def hO (list:(List Int)):Option (Bool):=
 (bi list).bind fun r_=>
 some (!r_)
theorem Eb {list r} (h:hO list=some r):Call tab ow 225 [.fn 186 [],sl eI list] []=some (B r,[]):=by
 rw [ab (af:=uZ) rfl]
 unfold hO at h
 simp only [uZ,Ly]
 have d1:= @gR
 exact go2
def rI (s:System) (t:Setting) (publics:(List Int)) (source:Source):Option (Int):=
 br (decide (((publics.length:Nat):Int)>4096)) (
 some 2) (
 (oP s).bind fun r_=>
 br (!r_) (
 some 1) (
 (kA t).bind fun r_2=>
 br (!r_2) (
 some 1) (
 (hO publics).bind fun r_3=>
 br (!r_3) (
 some 1) (
 (u2 source).bind fun r_4=>
 br (!r_4) (
 some 1) (
 br (((publics.length:Nat):Int) !=s.Publics) (
 some 17) (
 (pL source).bind fun r_5=>
 br (decide (r_5<200)) (
 some 6) (
 some 0)))))))
theorem RG {s t publics source r} (h:rI s t publics source=some r):Call tab ow 118 [.agg [I s.Rows,I s.Cols,I s.Publics,sl eEntry s.A,sl eEntry s.B,sl eEntry s.C],.agg [I t.Rate,I t.Queries,I t.Grind],sl eI publics,.agg [sl eExt source.Script,I source.At,S source.State,I source.Count]] []=some (I r,[]):=by
 rw [ab (af:=qh) rfl]
 unfold rI at h
 simp only [qh,Fp]
 have d1:= @J0
 have d2:= @wx
 have d3:= @Eb
 have d4:= @Xb
 have d5:= @M6
 exact go2
def tP (p:gn) (s:System) (t:Setting):Option (Bool):=
 (oP s).bind fun r_=>
 br r_ (
 (kA t).bind fun r_2=>
 br r_2 (
 (rv p.Root).bind fun r_3=>
 br r_3 (
 (kD p.Gates s.Rows 4).bind fun r_4=>
 br r_4 (
 (qz p.VA).bind fun r_5=>
 br r_5 (
 (qz p.VB).bind fun r_6=>
 br r_6 (
 (qz p.VC).bind fun r_7=>
 br r_7 (
 (kD p.Wires s.Cols 3).bind fun r_8=>
 br r_8 (
 (qz p.VW).bind fun r_9=>
 br r_9 (
 (rL p.Open (wrap .i64 (s.Cols-1)) t).bind fun r_10=>
 some r_10) (
 some false)) (
 some false)) (
 some false)) (
 some false)) (
 some false)) (
 some false)) (
 some false)) (
 some false)) (
 some false)
theorem KV {p s t r} (h:tP p s t=some r):Call tab ow 226 [.agg [S p.Root,sl (eL eExt) p.Gates,I p.VA.A,I p.VA.B,I p.VB.A,I p.VB.B,I p.VC.A,I p.VC.B,sl (eL eExt) p.Wires,I p.VW.A,I p.VW.B,sl (eL eExt) p.Open.Rounds,sl eS p.Open.Roots,I p.Open.Last.A,I p.Open.Last.B,I p.Open.Nonce,sl aE p.Open.Queries],.agg [I s.Rows,I s.Cols,I s.Publics,sl eEntry s.A,sl eEntry s.B,sl eEntry s.C],.agg [I t.Rate,I t.Queries,I t.Grind]] []=some (B r,[]):=by
 rw [ab (af:=vh) rfl]
 unfold tP at h
 simp only [vh,Lh]
 have d1:= @J0
 have d2:= @wx
 have d3:= @zN
 have d4:= @FD
 have d5:= @JP
 have d6:= @Re
 exact go2
end
end Go.AI.Fn
