/- Walks through the program, with open values. -/
import Derived.Test.YtdmhkkcihecndaaGreatFx1
set_option linter.unusedVariables false
set_option linter.unusedSimpArgs false
set_option maxRecDepth 100000
set_option maxHeartbeats 1000000
namespace Go.AI.Fn
noncomputable section
open IntKind (wrap)
def g9 (a2 b2:List Ext) (c c2:Int):Int×Int×Int→Option ((Int×Int×Int)⊕((Int×Bool×Int×Int)))
 | (i,c3,c4)=>
   br (decide (i<((a2.length:Nat):Int))) (
   (atL a2 i).bind fun x=>
   (atL b2 i).bind fun x2=>
   (bN x x2).bind fun r_2=>
   (atL a2 i).bind fun x3=>
   (jp x3).bind fun r_3=>
   (atL b2 i).bind fun x4=>
   (jp x4).bind fun r_4=>
   (bN r_3 r_4).bind fun r_5=>
   (eF r_2 r_5).bind fun r_6=>
   (bN (Ext.mk c3 c4) r_6).bind fun r_7=>
   some (.inl ((wrap .i64 (i+1)),r_7.A,r_7.B))) (
   some (.inr (i,decide (i<((a2.length:Nat):Int)),c3,c4)))
abbrev vF (c c2 c3 c4:Int):List (Nat×Blk):=[(1000,⟨2,true,[[I c,I c2]]⟩),(2001,⟨2,true,[[I c3,I c4]]⟩)]
abbrev CA (a2 b2:List Ext) (c c2:Int) (s:Int×Int×Int):St:=⟨[(0,sl eExt a2),(1,sl eExt b2),(4,.ptr 1000 0 0 1),(5,.ptr 2001 0 0 1),(6,I s.1)],vF c c2 s.2.1 s.2.2⟩
abbrev BX (a2 b2:List Ext) (c c2:Int):(Int×Bool×Int×Int)→ah×St:=fun e=>(.exit 0,⟨[(0,sl eExt a2),(1,sl eExt b2),(4,.ptr 1000 0 0 1),(5,.ptr 2001 0 0 1),(6,I e.1),(11,B e.2.1)],vF c c2 e.2.2.1 e.2.2.2⟩)
theorem ON {a2 b2 c c2 s e} (h:Loop (g9 a2 b2 c c2) s=some e):aq tab ow (.close [6009,6014,6019,6020,6021,6022]) vl (CA a2 b2 c c2 s)=some (BX a2 b2 c c2 e):=by
 refine lrG (fun s o h=> ?_) h
 obtain ⟨_,_,_⟩:=s
 simp only [g9] at h
 simp+decide only [CA,BX,vF,vl,go_sem,reduceIte,Nat.reduceAdd]
 have d1:= @fX
 have d2:= @As
 have d3:= @iT
 all_goals exact go
def mS (a b:(List Ext)):Option (Ext):=
 (wQ).bind fun r_=>
 (Loop (g9 a b 0 0) (0,r_.A,r_.B)).bind fun e_=>
 some (Ext.mk e_.2.2.1 e_.2.2.2)
theorem HY {a b r} (h:mS a b=some r):Call tab ow 200 [sl eExt a,sl eExt b] []=some (.agg [I r.A,I r.B],[]):=by
 rw [aa (af:=uD) rfl]
 unfold mS at h
 simp+decide only [uD,HG,go_sem,reduceIte,Nat.reduceAdd]
 have d1:= @Dt
 have d2:= @ON
 all_goals exact go
section
theorem Yi:mkR 2002 []=rws eS []:=rfl
attribute [local go_sem] Yi
theorem XT:mkR 10002 []=rws eS []:=rfl
attribute [local go_sem] XT
def iV (path2:List (List UInt8)):(List (List UInt8))×Int×(List UInt8)×Int→Option (((List (List UInt8))×Int×(List UInt8)×Int)⊕(((List (List UInt8))×Int×(List UInt8)×Int×Bool)))
 | (l,i2,h_,k)=>
   br (decide (k<((path2.length:Nat):Int))) (
   br (bW ((([1]:List UInt8)).length+h_.length) 1) (
   (atL path2 k).bind fun x=>
   br (bW (((([1]:List UInt8))++h_).length+x.length) 1) (
   br ((i2.tmod 2)==1) (
   (atL path2 k).bind fun x2=>
   br (bW ((([1]:List UInt8)).length+x2.length) 1) (
   br (bW (((([1]:List UInt8))++x2).length+h_.length) 1) (
   br (bW ((l++([(((([1]:List UInt8))++x2)++h_)]:List (List UInt8))).length) 16) (
   (gK (((([1]:List UInt8))++x2)++h_)).bind fun r_2=>
   some (.inl ((l++([(((([1]:List UInt8))++x2)++h_)]:List (List UInt8))),(wrap .i64 (i2.tdiv 2)),r_2,(wrap .i64 (k+1))))) none) none) none) (
   br (bW ((l++([(((([1]:List UInt8))++h_)++x)]:List (List UInt8))).length) 16) (
   (gK (((([1]:List UInt8))++h_)++x)).bind fun r_3=>
   some (.inl ((l++([(((([1]:List UInt8))++h_)++x)]:List (List UInt8))),(wrap .i64 (i2.tdiv 2)),r_3,(wrap .i64 (k+1))))) none)) none) none) (
   some (.inr (l,i2,h_,k,decide (k<((path2.length:Nat):Int)))))
abbrev I8 (path2:List (List UInt8)) (s:(List (List UInt8))×Int×(List UInt8)×Int):St:=⟨[(0,I s.2.1),(2,sl eS path2),(8,.sl 2002 0 s.1.length),(9,S s.2.2.1),(10,I s.2.2.2)],[(2002,⟨1,false,rws eS s.1⟩)]⟩
abbrev I7 (path2:List (List UInt8)):((List (List UInt8))×Int×(List UInt8)×Int×Bool)→ah×St:=fun e=>(.exit 0,⟨[(0,I e.2.1),(2,sl eS path2),(8,.sl 2002 0 e.1.length),(9,S e.2.2.1),(10,I e.2.2.2.1),(20,B e.2.2.2.2)],[(2002,⟨1,false,rws eS e.1⟩)]⟩)
theorem WB {path2 s e} (h:Loop (iV path2) s=some e):aq tab ow (.close [10002,10003,11001]) Aj (I8 path2 s)=some (I7 path2 e):=by
 refine lrG (fun s o h=> ?_) h
 obtain ⟨_,_,_,_⟩:=s
 simp only [iV] at h
 simp+decide only [I8,I7,Aj,go_sem,reduceIte,Nat.reduceAdd]
 have d1:= @lu
 all_goals exact go
def Eo (i:Int) (leaf:(List UInt8)) (path:(List (List UInt8))):Option ((List (List UInt8))×(List UInt8)):=
 br (bW ((([0]:List UInt8)).length+leaf.length) 1) (
 (vN leaf).bind fun r_=>
 (Loop (iV path) (([((([0]:List UInt8))++leaf)]:List (List UInt8)),i,r_,0)).bind fun e_=>
 some (e_.1,e_.2.2.1)) none
theorem a0J {i leaf path r} (h:Eo i leaf path=some r):Call tab ow 342 [I i,S leaf,sl eS path] []=some (.tup [sl eS r.1,S r.2],[]):=by
 rw [aa (af:=Bp) rfl]
 unfold Eo at h
 simp+decide only [Bp,Qp,go_sem,reduceIte,Nat.reduceAdd]
 have d1:= @VY
 have d2:= @WB
 all_goals exact go
end
def fu (root2:List UInt8) (i2:Int) (leaf2:List UInt8) (path2:List (List UInt8)):Int→Option ((Int)⊕(Unit⊕(Int×Bool)))
 |k=>
  br (decide (k<((path2.length:Nat):Int))) (
  (atL path2 k).bind fun x=>
  br (((x.length:Nat):Int) !=32) (
  some (.inr (.inl ()))) (
  some (.inl (wrap .i64 (k+1))))) (
  some (.inr (.inr (k,decide (k<((path2.length:Nat):Int))))))
abbrev zB (root2:List UInt8) (i2:Int) (leaf2:List UInt8) (path2:List (List UInt8)) (s:Int):St:=⟨[(0,S root2),(2,I i2),(3,S leaf2),(4,sl eS path2),(11,I s)],[]⟩
abbrev B1 (root2:List UInt8) (i2:Int) (leaf2:List UInt8) (path2:List (List UInt8)):(Unit⊕(Int×Bool))→ah×St:=alt (fun e=>((.ret,⟨[(10,B false)],[]⟩):ah×St)) (fun e=>(.exit 0,⟨[(0,S root2),(2,I i2),(3,S leaf2),(4,sl eS path2),(11,I e.1),(29,B e.2)],[]⟩))
theorem Kd {root2 i2 leaf2 path2 s e} (h:Loop (fu root2 i2 leaf2 path2) s=some e):aq tab ow (.close []) sc (zB root2 i2 leaf2 path2 s)=some (B1 root2 i2 leaf2 path2 e):=by
 refine lrG (fun s o h=> ?_) h
 simp only [fu] at h
 simp+decide only [zB,B1,sc,go_sem,reduceIte,Nat.reduceAdd]
 all_goals exact go
def mX (root:(List UInt8)) (n i:Int) (leaf:(List UInt8)) (path:(List (List UInt8))):Option (Bool):=
 br (decide (((leaf.length:Nat):Int)>64)) (
 some false) (
 br (decide (0≤(wrap .u64 (mn 20 ((path.length:Nat):Int))))) (
 br (n !=(aB .i64 1 (wrap .u64 (mn 20 ((path.length:Nat):Int))))) (
 some false) (
 (Loop (fu root i leaf path) 0).bind (alt (fun e_2=>
 some false) (fun e_3=>
 (Eo i leaf path).bind fun r_=>
 some (r_.2==root))))) none)
theorem QS {root n i leaf path r} (h:mX root n i leaf path=some r):Call tab ow 299 [S root,I n,I i,S leaf,sl eS path] []=some (B r,[]):=by
 rw [aa (af:=qW) rfl]
 unfold mX at h
 simp+decide only [qW,FQ,go_sem,reduceIte,Nat.reduceAdd]
 have d1:= @Kd
 have d2:= @a0J
 all_goals exact go
section
theorem NM:mkR 11008 []=rws eExt []:=rfl
attribute [local go_sem] NM
def fk (ListtoArray2:List (List UInt8)) (t:Int) (t4:List Ext) (c:List (List Ext)) (c2:List (List UInt8)) (c3 c4 c5:Int) (c6:List Query) (c7:List Ext) (c8:List (List (List UInt8))):Int×Int×Int×Int×Int→Option ((Int×Int×Int×Int×Int)⊕((Int×Int×Int×Int×Int×Int×Int)⊕(Int×Int×Int×Bool×Int×Int)))
 | (t2,t3,t5,c9,c10)=>
   br (decide (t5<t)) (
   br (decide ((wrap .i64 (t2.tdiv 2))≠0)) (
   (atL c7 (wrap .i64 (2*t5))).bind fun x=>
   (atL c7 (wrap .i64 ((wrap .i64 (2*t5))+1))).bind fun x2=>
   (atL ListtoArray2 t5).bind fun x3=>
   (np ([x,x2]:List Ext)).bind fun r_=>
   (atL c8 t5).bind fun x4=>
   (mX x3 (wrap .i64 (t2.tdiv 2)) (t3.tmod (wrap .i64 (t2.tdiv 2))) r_ x4).bind fun r_2=>
   br (!r_2) (
   some (.inr (.inl (9,c9,c10,x.A,x.B,x2.A,x2.B)))) (
   br (decide (t5>0)) (
   br (decide (t3<(wrap .i64 (t2.tdiv 2)))) (
   br (x.A==c9) (
   br (x.B==c10) (
   br (!decide (t3<(wrap .i64 (t2.tdiv 2)))) (
   br (x2.A==c9) (
   br (x2.B==c10) (
   (atL t4 t5).bind fun x5=>
   (jx t2 (t3.tmod (wrap .i64 (t2.tdiv 2))) x x2 x5).bind fun r_3=>
   some (.inl ((wrap .i64 (t2.tdiv 2)),(t3.tmod (wrap .i64 (t2.tdiv 2))),(wrap .i64 (t5+1)),r_3.A,r_3.B))) (
   some (.inr (.inl (12,c9,c10,x.A,x.B,x2.A,x2.B))))) (
   some (.inr (.inl (12,c9,c10,x.A,x.B,x2.A,x2.B))))) (
   (atL t4 t5).bind fun x6=>
   (jx t2 (t3.tmod (wrap .i64 (t2.tdiv 2))) x x2 x6).bind fun r_4=>
   some (.inl ((wrap .i64 (t2.tdiv 2)),(t3.tmod (wrap .i64 (t2.tdiv 2))),(wrap .i64 (t5+1)),r_4.A,r_4.B)))) (
   some (.inr (.inl (12,c9,c10,x.A,x.B,x2.A,x2.B))))) (
   some (.inr (.inl (12,c9,c10,x.A,x.B,x2.A,x2.B))))) (
   br (!decide (t3<(wrap .i64 (t2.tdiv 2)))) (
   br (x2.A==c9) (
   br (x2.B==c10) (
   (atL t4 t5).bind fun x7=>
   (jx t2 (t3.tmod (wrap .i64 (t2.tdiv 2))) x x2 x7).bind fun r_5=>
   some (.inl ((wrap .i64 (t2.tdiv 2)),(t3.tmod (wrap .i64 (t2.tdiv 2))),(wrap .i64 (t5+1)),r_5.A,r_5.B))) (
   some (.inr (.inl (12,c9,c10,x.A,x.B,x2.A,x2.B))))) (
   some (.inr (.inl (12,c9,c10,x.A,x.B,x2.A,x2.B))))) (
   (atL t4 t5).bind fun x8=>
   (jx t2 (t3.tmod (wrap .i64 (t2.tdiv 2))) x x2 x8).bind fun r_6=>
   some (.inl ((wrap .i64 (t2.tdiv 2)),(t3.tmod (wrap .i64 (t2.tdiv 2))),(wrap .i64 (t5+1)),r_6.A,r_6.B))))) (
   (atL t4 t5).bind fun x9=>
   (jx t2 (t3.tmod (wrap .i64 (t2.tdiv 2))) x x2 x9).bind fun r_7=>
   some (.inl ((wrap .i64 (t2.tdiv 2)),(t3.tmod (wrap .i64 (t2.tdiv 2))),(wrap .i64 (t5+1)),r_7.A,r_7.B))))) none) (
   some (.inr (.inr (t2,t3,t5,decide (t5<t),c9,c10))))
abbrev tk (c:List (List Ext)) (c2:List (List UInt8)) (c3 c4 c5:Int) (c6:List Query) (c7:List Ext) (c8:List (List (List UInt8))) (c9 c10:Int):List (Nat×Blk):=[(1000,⟨6,true,[[sl (eL eExt) c,sl eS c2,I c3,I c4,I c5,sl eQuery c6]]⟩),(1001,⟨2,true,[[sl eExt c7,sl (eL eS) c8]]⟩),(2001,⟨2,true,[[I c9,I c10]]⟩)]
abbrev zI (ListtoArray2:List (List UInt8)) (t:Int) (t4:List Ext) (c:List (List Ext)) (c2:List (List UInt8)) (c3 c4 c5:Int) (c6:List Query) (c7:List Ext) (c8:List (List (List UInt8))) (s:Int×Int×Int×Int×Int):St:=⟨[(0,sl eS ListtoArray2),(1,I t),(2,I s.1),(3,I s.2.1),(4,sl eExt t4),(12,.ptr 1000 0 0 1),(13,.ptr 1001 0 0 1),(15,.ptr 2001 0 0 1),(16,I s.2.2.1)],tk c c2 c3 c4 c5 c6 c7 c8 s.2.2.2.1 s.2.2.2.2⟩
abbrev Ao (ListtoArray2:List (List UInt8)) (t:Int) (t4:List Ext) (c:List (List Ext)) (c2:List (List UInt8)) (c3 c4 c5:Int) (c6:List Query) (c7:List Ext) (c8:List (List (List UInt8))):((Int×Int×Int×Int×Int×Int×Int)⊕(Int×Int×Int×Bool×Int×Int))→ah×St:=alt (fun e=>((.ret,⟨[(14,I e.1)],[(1000,⟨6,true,[[sl (eL eExt) c,sl eS c2,I c3,I c4,I c5,sl eQuery c6]]⟩),(1001,⟨2,true,[[sl eExt c7,sl (eL eS) c8]]⟩),(2001,⟨2,true,[[I e.2.1,I e.2.2.1]]⟩),(9006,⟨2,true,[[I e.2.2.2.1,I e.2.2.2.2.1]]⟩),(10007,⟨2,true,[[I e.2.2.2.2.2.1,I e.2.2.2.2.2.2]]⟩),(11008,is)]⟩):ah×St)) (fun e=>(.exit 0,⟨[(0,sl eS ListtoArray2),(1,I t),(2,I e.1),(3,I e.2.1),(4,sl eExt t4),(12,.ptr 1000 0 0 1),(13,.ptr 1001 0 0 1),(15,.ptr 2001 0 0 1),(16,I e.2.2.1),(24,B e.2.2.2.1)],tk c c2 c3 c4 c5 c6 c7 c8 e.2.2.2.2.1 e.2.2.2.2.2⟩))
theorem MO {ListtoArray2 t t4 c c2 c3 c4 c5 c6 c7 c8 s e} (h:Loop (fk ListtoArray2 t t4 c c2 c3 c4 c5 c6 c7 c8) s=some e):aq tab ow (.close [9006,10007,11008,11009,11016,15008]) sh (zI ListtoArray2 t t4 c c2 c3 c4 c5 c6 c7 c8 s)=some (Ao ListtoArray2 t t4 c c2 c3 c4 c5 c6 c7 c8 e):=by
 refine lrG (fun s o h=> ?_) h
 obtain ⟨_,_,_,_,_⟩:=s
 simp only [fk] at h
 simp+decide only [zI,Ao,tk,sh,go_sem,reduceIte,Nat.reduceAdd]
 have d1:= @FE
 have d2:= @QS
 have d3:= @VK
 all_goals exact go
def xG (ListtoArray:(List (List UInt8))) (a a2 a3:Int) (a4:(List Ext)) (a5:Opening) (a6:Query):Option (Int):=
 (Loop (fk ListtoArray a a4 a5.Rounds a5.Roots a5.Last.A a5.Last.B a5.Nonce a5.Queries a6.Pairs a6.Paths) (a2,a3,0,0,0)).bind (alt (fun e_2=>
 some e_2.1) (fun e_3=>
 br (e_3.2.2.2.2.1==a5.Last.A) (
 br (e_3.2.2.2.2.2==a5.Last.B) (
 some 0) (
 some 13)) (
 some 13)))
theorem To {ListtoArray a a2 a3 a4 a5 a6 r} (h:xG ListtoArray a a2 a3 a4 a5 a6=some r):Call tab ow 202 [sl eS ListtoArray,I a,I a2,I a3,sl eExt a4,.agg [sl (eL eExt) a5.Rounds,sl eS a5.Roots,I a5.Last.A,I a5.Last.B,I a5.Nonce,sl eQuery a5.Queries],.agg [sl eExt a6.Pairs,sl (eL eS) a6.Paths]] []=some (I r,[]):=by
 rw [aa (af:=rz) rfl]
 unfold xG at h
 simp+decide only [rz,Et,go_sem,reduceIte,Nat.reduceAdd]
 have d1:= @MO
 all_goals exact go
end
section
theorem NO:mkR 2001 []=rws eS []:=rfl
attribute [local go_sem] NO
theorem NS:mkR 3000 []=rws eExt []:=rfl
attribute [local go_sem] NS
theorem ND:mkR 15002 []=rws eExt []:=rfl
attribute [local go_sem] ND
theorem O6:mkR 20003 []=rws eExt []:=rfl
attribute [local go_sem] O6
def cx (l:List (List UInt8)) (t:Int) (t2:List Ext) (c c2 c3 c4 c5:Int) (c6:List (List Ext)) (c7:List (List UInt8)) (c8 c9 c10:Int) (c11:List Query) (c16:Int) (c17:List UInt8) (c18:Int):(List Ext)×Int×(List Ext)×Int×(List UInt8)×Int×Int×Int→Option (((List Ext)×Int×(List Ext)×Int×(List UInt8)×Int×Int×Int)⊕(((List Ext)×(List Ext)×Int×(List UInt8)×Int×(List Ext)×Int×(List UInt8)×Int×Int×Int)⊕((List Ext)×Int×Bool×(List Ext)×Int×(List UInt8)×Int×Int×Int)))
 | (l2,t3,c12,c13,c14,c15,c19,c20)=>
   br (decide (t3<t)) (
   (atL c6 t3).bind fun x=>
   (atL x 0).bind fun x2=>
   (atL x 1).bind fun x3=>
   (eF x2 x3).bind fun r_=>
   br (r_.A==c19) (
   br (r_.B==c20) (
   (gM (Source.mk c12 c13 c14 c15) x).bind fun r_2=>
   (lf r_2).bind fun r_3=>
   (s9 x r_3.2).bind fun r_4=>
   br (bW ((l2++([r_3.2]:List Ext)).length) 16) (
   br (decide ((wrap .i64 (t3+1))<t)) (
   (atL c7 t3).bind fun x4=>
   (fS r_3.1 x4).bind fun r_5=>
   some (.inl ((l2++([r_3.2]:List Ext)),(wrap .i64 (t3+1)),r_5.Script,r_5.At,r_5.State,r_5.Count,r_4.A,r_4.B))) (
   some (.inl ((l2++([r_3.2]:List Ext)),(wrap .i64 (t3+1)),r_3.1.Script,r_3.1.At,r_3.1.State,r_3.1.Count,r_4.A,r_4.B)))) none) (
   some (.inr (.inl (l2,c12,c13,c14,c15,c12,c13,c14,c15,c19,c20))))) (
   some (.inr (.inl (l2,c12,c13,c14,c15,c12,c13,c14,c15,c19,c20))))) (
   some (.inr (.inr (l2,t3,decide (t3<t),c12,c13,c14,c15,c19,c20))))
abbrev sr (l:List (List UInt8)) (c c2 c3 c4 c5:Int) (c6:List (List Ext)) (c7:List (List UInt8)) (c8 c9 c10:Int) (c11:List Query) (c16:Int) (c17:List UInt8) (c18:Int) (l2 c12:List Ext) (c13:Int) (c14:List UInt8) (c15 c19 c20:Int):List (Nat×Blk):=[(1000,⟨2,true,[[I c,I c2]]⟩),(1001,⟨3,true,[[I c3,I c4,I c5]]⟩),(1002,⟨6,true,[[sl (eL eExt) c6,sl eS c7,I c8,I c9,I c10,sl eQuery c11]]⟩),(1003,⟨4,true,[[sl eExt c12,I c13,S c14,I c15]]⟩),(1004,⟨4,true,[[.lit (.slice none 0 0),I c16,S c17,I c18]]⟩),(2001,⟨1,false,rws eS l⟩),(3000,⟨2,false,rws eExt l2⟩),(4001,⟨2,true,[[I c19,I c20]]⟩)]
abbrev A3 (l:List (List UInt8)) (t:Int) (t2:List Ext) (c c2 c3 c4 c5:Int) (c6:List (List Ext)) (c7:List (List UInt8)) (c8 c9 c10:Int) (c11:List Query) (c16:Int) (c17:List UInt8) (c18:Int) (s:(List Ext)×Int×(List Ext)×Int×(List UInt8)×Int×Int×Int):St:=⟨[(1,I t),(2,sl eExt t2),(11,.ptr 1001 0 0 1),(12,.ptr 1002 0 0 1),(13,.ptr 1003 0 0 1),(14,.ptr 1004 0 0 1),(16,.sl 2001 0 l.length),(17,.sl 3000 0 s.1.length),(18,.ptr 4001 0 0 1),(19,I s.2.1)],sr l c c2 c3 c4 c5 c6 c7 c8 c9 c10 c11 c16 c17 c18 s.1 s.2.2.1 s.2.2.2.1 s.2.2.2.2.1 s.2.2.2.2.2.1 s.2.2.2.2.2.2.1 s.2.2.2.2.2.2.2⟩
abbrev AY (l:List (List UInt8)) (t:Int) (t2:List Ext) (c c2 c3 c4 c5:Int) (c6:List (List Ext)) (c7:List (List UInt8)) (c8 c9 c10:Int) (c11:List Query) (c16:Int) (c17:List UInt8) (c18:Int):(((List Ext)×(List Ext)×Int×(List UInt8)×Int×(List Ext)×Int×(List UInt8)×Int×Int×Int)⊕((List Ext)×Int×Bool×(List Ext)×Int×(List UInt8)×Int×Int×Int))→ah×St:=alt (fun e=>((.ret,⟨[(14,.ptr 1004 0 0 1),(15,I 10)],[(1000,⟨2,true,[[I c,I c2]]⟩),(1001,⟨3,true,[[I c3,I c4,I c5]]⟩),(1002,⟨6,true,[[sl (eL eExt) c6,sl eS c7,I c8,I c9,I c10,sl eQuery c11]]⟩),(1003,⟨4,true,[[sl eExt e.2.1,I e.2.2.1,S e.2.2.2.1,I e.2.2.2.2.1]]⟩),(1004,⟨4,true,[[sl eExt e.2.2.2.2.2.1,I e.2.2.2.2.2.2.1,S e.2.2.2.2.2.2.2.1,I e.2.2.2.2.2.2.2.2.1]]⟩),(2001,⟨1,false,rws eS l⟩),(3000,⟨2,false,rws eExt e.1⟩),(4001,⟨2,true,[[I e.2.2.2.2.2.2.2.2.2.1,I e.2.2.2.2.2.2.2.2.2.2]]⟩)]⟩):ah×St)) (fun e=>(.exit 0,⟨[(1,I t),(2,sl eExt t2),(11,.ptr 1001 0 0 1),(12,.ptr 1002 0 0 1),(13,.ptr 1003 0 0 1),(14,.ptr 1004 0 0 1),(16,.sl 2001 0 l.length),(17,.sl 3000 0 e.1.length),(18,.ptr 4001 0 0 1),(19,I e.2.1),(36,B e.2.2.1)],sr l c c2 c3 c4 c5 c6 c7 c8 c9 c10 c11 c16 c17 c18 e.1 e.2.2.2.1 e.2.2.2.2.1 e.2.2.2.2.2.1 e.2.2.2.2.2.2.1 e.2.2.2.2.2.2.2.1 e.2.2.2.2.2.2.2.2⟩))
theorem LA {l t t2 c c2 c3 c4 c5 c6 c7 c8 c9 c10 c11 c16 c17 c18 s e} (h:Loop (cx l t t2 c c2 c3 c4 c5 c6 c7 c8 c9 c10 c11 c16 c17 c18) s=some e):aq tab ow (.close [9006,11002,12001,12005,12006,14002,15002,15003,17006]) tE (A3 l t t2 c c2 c3 c4 c5 c6 c7 c8 c9 c10 c11 c16 c17 c18 s)=some (AY l t t2 c c2 c3 c4 c5 c6 c7 c8 c9 c10 c11 c16 c17 c18 e):=by
 refine lrG (fun s o h=> ?_) h
 obtain ⟨_,_,_,_,_,_,_,_⟩:=s
 simp only [cx] at h
 simp+decide only [A3,AY,sr,tE,go_sem,reduceIte,Nat.reduceAdd]
 have d1:= @iT
 have d2:= @uq
 have d3:= @Az
 have d4:= @Hr
 have d5:= @jY
 all_goals exact go
def e7 (l3:List (List UInt8)) (l4:List Ext) (t4 t5:Int) (t6:List Int) (c21 c22 c23 c24 c25:Int) (c26:List (List Ext)) (c27:List (List UInt8)) (c28 c29 c30:Int) (c31:List Query) (c32:List Ext) (c33:Int) (c34:List UInt8) (c35 c36:Int) (c37:List UInt8) (c38 c39 c40:Int):Int→Option ((Int)⊕(Int⊕(Int×Bool)))
 |t7=>
  br (decide (t7<((t6.length:Nat):Int))) (
  (atL t6 t7).bind fun x5=>
  (atL c31 t7).bind fun x6=>
  (xG l3 t4 t5 x5 l4 (Opening.mk c26 c27 (Ext.mk c28 c29) c30 c31) x6).bind fun r_13=>
  br (r_13 !=0) (
  some (.inr (.inl r_13))) (
  some (.inl (wrap .i64 (t7+1))))) (
  some (.inr (.inr (t7,decide (t7<((t6.length:Nat):Int))))))
abbrev sP (l3:List (List UInt8)) (l4:List Ext) (c21 c22 c23 c24 c25:Int) (c26:List (List Ext)) (c27:List (List UInt8)) (c28 c29 c30:Int) (c31:List Query) (c32:List Ext) (c33:Int) (c34:List UInt8) (c35 c36:Int) (c37:List UInt8) (c38 c39 c40:Int):List (Nat×Blk):=[(1000,⟨2,true,[[I c21,I c22]]⟩),(1001,⟨3,true,[[I c23,I c24,I c25]]⟩),(1002,⟨6,true,[[sl (eL eExt) c26,sl eS c27,I c28,I c29,I c30,sl eQuery c31]]⟩),(1003,⟨4,true,[[sl eExt c32,I c33,S c34,I c35]]⟩),(1004,⟨4,true,[[.lit (.slice none 0 0),I c36,S c37,I c38]]⟩),(2001,⟨1,false,rws eS l3⟩),(3000,⟨2,false,rws eExt l4⟩),(4001,⟨2,true,[[I c39,I c40]]⟩),(20003,is)]
abbrev zL (l3:List (List UInt8)) (l4:List Ext) (t4 t5:Int) (t6:List Int) (c21 c22 c23 c24 c25:Int) (c26:List (List Ext)) (c27:List (List UInt8)) (c28 c29 c30:Int) (c31:List Query) (c32:List Ext) (c33:Int) (c34:List UInt8) (c35 c36:Int) (c37:List UInt8) (c38 c39 c40 s:Int):St:=⟨[(1,I t4),(12,.ptr 1002 0 0 1),(13,.ptr 1003 0 0 1),(14,.ptr 1004 0 0 1),(16,.sl 2001 0 l3.length),(17,.sl 3000 0 l4.length),(23,I t5),(24,sl eI t6),(25,I s)],sP l3 l4 c21 c22 c23 c24 c25 c26 c27 c28 c29 c30 c31 c32 c33 c34 c35 c36 c37 c38 c39 c40⟩
abbrev AT (l3:List (List UInt8)) (l4:List Ext) (t4 t5:Int) (t6:List Int) (c21 c22 c23 c24 c25:Int) (c26:List (List Ext)) (c27:List (List UInt8)) (c28 c29 c30:Int) (c31:List Query) (c32:List Ext) (c33:Int) (c34:List UInt8) (c35 c36:Int) (c37:List UInt8) (c38 c39 c40:Int):(Int⊕(Int×Bool))→ah×St:=alt (fun e=>((.ret,⟨[(14,.ptr 1004 0 0 1),(15,I e)],[(1000,⟨2,true,[[I c21,I c22]]⟩),(1001,⟨3,true,[[I c23,I c24,I c25]]⟩),(1002,⟨6,true,[[sl (eL eExt) c26,sl eS c27,I c28,I c29,I c30,sl eQuery c31]]⟩),(1003,⟨4,true,[[sl eExt c32,I c33,S c34,I c35]]⟩),(1004,⟨4,true,[[sl eExt c32,I c33,S c34,I c35]]⟩),(2001,⟨1,false,rws eS l3⟩),(3000,⟨2,false,rws eExt l4⟩),(4001,⟨2,true,[[I c39,I c40]]⟩),(20003,is)]⟩):ah×St)) (fun e=>(.exit 2,⟨[(1,I t4),(12,.ptr 1002 0 0 1),(13,.ptr 1003 0 0 1),(14,.ptr 1004 0 0 1),(16,.sl 2001 0 l3.length),(17,.sl 3000 0 l4.length),(23,I t5),(24,sl eI t6),(25,I e.1),(127,B e.2)],sP l3 l4 c21 c22 c23 c24 c25 c26 c27 c28 c29 c30 c31 c32 c33 c34 c35 c36 c37 c38 c39 c40⟩))
theorem KV {l3 l4 t4 t5 t6 c21 c22 c23 c24 c25 c26 c27 c28 c29 c30 c31 c32 c33 c34 c35 c36 c37 c38 c39 c40 s e} (h:Loop (e7 l3 l4 t4 t5 t6 c21 c22 c23 c24 c25 c26 c27 c28 c29 c30 c31 c32 c33 c34 c35 c36 c37 c38 c39 c40) s=some e):aq tab ow (.close [29014]) pN (zL l3 l4 t4 t5 t6 c21 c22 c23 c24 c25 c26 c27 c28 c29 c30 c31 c32 c33 c34 c35 c36 c37 c38 c39 c40 s)=some (AT l3 l4 t4 t5 t6 c21 c22 c23 c24 c25 c26 c27 c28 c29 c30 c31 c32 c33 c34 c35 c36 c37 c38 c39 c40 e):=by
 refine lrG (fun s o h=> ?_) h
 simp only [e7] at h
 simp+decide only [zL,AT,sP,pN,go_sem,reduceIte,Nat.reduceAdd]
 have d1:= @To
 all_goals exact go
def sO (ListtoArray:(List UInt8)) (a:Int) (a2:(List Ext)) (a3:Ext) (a4:Setting) (a5:Opening) (a6:Source):Option (Source×Int):=
 br (bW ((([ListtoArray]:List (List UInt8))++a5.Roots).length) 16) (
 (Loop (cx (([ListtoArray]:List (List UInt8))++a5.Roots) a a2 a3.A a3.B a4.Rate a4.Queries a4.Grind a5.Rounds a5.Roots a5.Last.A a5.Last.B a5.Nonce a5.Queries 0 (([]:List UInt8)) 0) (([]:List Ext),0,a6.Script,a6.At,a6.State,a6.Count,a3.A,a3.B)).bind (alt (fun e_2=>
 some ((Source.mk e_2.2.2.2.2.2.1 e_2.2.2.2.2.2.2.1 e_2.2.2.2.2.2.2.2.1 e_2.2.2.2.2.2.2.2.2.1),10)) (fun e_3=>
 (mS e_3.1 a2).bind fun r_6=>
 (bN a5.Last r_6).bind fun r_7=>
 br (r_7.A==e_3.2.2.2.2.2.2.2.1) (
 br (r_7.B==e_3.2.2.2.2.2.2.2.2) (
 (gM (Source.mk e_3.2.2.2.1 e_3.2.2.2.2.1 e_3.2.2.2.2.2.1 e_3.2.2.2.2.2.2.1) ([a5.Last]:List Ext)).bind fun r_8=>
 (wy r_8 a4.Grind a5.Nonce).bind fun r_9=>
 br (!r_9) (
 some (r_8,14)) (
 (de a5.Nonce 4).bind fun r_10=>
 (fS r_8 r_10).bind fun r_11=>
 br (decide (0≤(wrap .u64 (wrap .i64 (a+a4.Rate))))) (
 (oO r_11 a4.Queries (wrap .i64 ((aB .i64 1 (wrap .u64 (wrap .i64 (a+a4.Rate)))).tdiv 2))).bind fun r_12=>
 (Loop (e7 (([ListtoArray]:List (List UInt8))++a5.Roots) e_3.1 a (aB .i64 1 (wrap .u64 (wrap .i64 (a+a4.Rate)))) r_12.2 a3.A a3.B a4.Rate a4.Queries a4.Grind a5.Rounds a5.Roots a5.Last.A a5.Last.B a5.Nonce a5.Queries r_12.1.Script r_12.1.At r_12.1.State r_12.1.Count 0 (([]:List UInt8)) 0 e_3.2.2.2.2.2.2.2.1 e_3.2.2.2.2.2.2.2.2) 0).bind (alt (fun e_5=>
 some (r_12.1,e_5)) (fun e_6=>
 some (r_12.1,0)))) none)) (
 some ((Source.mk e_3.2.2.2.1 e_3.2.2.2.2.1 e_3.2.2.2.2.2.1 e_3.2.2.2.2.2.2.1),11))) (
 some ((Source.mk e_3.2.2.2.1 e_3.2.2.2.2.1 e_3.2.2.2.2.2.1 e_3.2.2.2.2.2.2.1),11))))) none
theorem R2 {ListtoArray a a2 a3 a4 a5 a6 r} (h:sO ListtoArray a a2 a3 a4 a5 a6=some r):Call tab ow 97 [S ListtoArray,I a,sl eExt a2,.agg [I a3.A,I a3.B],.agg [I a4.Rate,I a4.Queries,I a4.Grind],.agg [sl (eL eExt) a5.Rounds,sl eS a5.Roots,I a5.Last.A,I a5.Last.B,I a5.Nonce,sl eQuery a5.Queries],.agg [sl eExt a6.Script,I a6.At,S a6.State,I a6.Count]] []=some (.tup [.agg [sl eExt r.1.Script,I r.1.At,S r.1.State,I r.1.Count],I r.2],[]):=by
 rw [aa (af:=qU) rfl]
 unfold sO at h
 simp+decide only [qU,Fe,go_sem,reduceIte,Nat.reduceAdd]
 have d1:= @LA
 have d2:= @HY
 have d3:= @fX
 have d4:= @uq
 have d5:= @X4
 have d6:= @eZ
 have d7:= @jY
 have d8:= @OI
 have d9:= @KV
 all_goals exact go
end
def kY (a:(List Entry)) (left:Int):Option (Int):=
 br (decide ((wrap .i64 (left-((a.length:Nat):Int)))<0)) (
 some (-1:Int)) (
 some (wrap .i64 (left-((a.length:Nat):Int))))
theorem R5 {a left r} (h:kY a left=some r):Call tab ow 106 [sl eEntry a,I left] []=some (I r,[]):=by
 rw [aa (af:=rO) rfl]
 unfold kY at h
 simp+decide only [rO,F7,go_sem,reduceIte,Nat.reduceAdd]
 all_goals exact go
def sU (a:System) (left:Int):Option (Int):=
 (kY a.A left).bind fun r_=>
 br (decide (r_<0)) (
 some (-1:Int)) (
 (kY a.B r_).bind fun r_2=>
 br (decide (r_2<0)) (
 some (-1:Int)) (
 (kY a.C r_2).bind fun r_3=>
 br (decide (r_3<0)) (
 some (-1:Int)) (
 some r_3)))
theorem RL {a left r} (h:sU a left=some r):Call tab ow 29 [.agg [I a.Rows,I a.Cols,I a.Publics,sl eEntry a.A,sl eEntry a.B,sl eEntry a.C],I left] []=some (I r,[]):=by
 rw [aa (af:=rF) rfl]
 unfold sU at h
 simp+decide only [rF,ES,go_sem,reduceIte,Nat.reduceAdd]
 have d1:= @R5
 all_goals exact go
def oP (a:(List Ext)) (left:Int):Option (Int):=
 br (decide ((wrap .i64 (left-((a.length:Nat):Int)))<0)) (
 some (-1:Int)) (
 some (wrap .i64 (left-((a.length:Nat):Int))))
theorem DT {a left r} (h:oP a left=some r):Call tab ow 109 [sl eExt a,I left] []=some (I r,[]):=by
 rw [aa (af:=yw) rfl]
 unfold oP at h
 simp+decide only [yw,Mr,go_sem,reduceIte,Nat.reduceAdd]
 all_goals exact go
def nQ (a2:List (List Ext)):Int×Int→Option ((Int×Int)⊕(Unit⊕(Int×Int×Bool)))
 | (left2,i)=>
   br (decide (i<((a2.length:Nat):Int))) (
   (atL a2 i).bind fun x=>
   (oP x left2).bind fun r_=>
   br (decide (r_<0)) (
   some (.inr (.inl ()))) (
   some (.inl (r_,(wrap .i64 (i+1)))))) (
   some (.inr (.inr (left2,i,decide (i<((a2.length:Nat):Int))))))
abbrev Db (a2:List (List Ext)) (s:Int×Int):St:=⟨[(0,sl (eL eExt) a2),(1,I s.1),(5,I s.2)],[]⟩
abbrev CP (a2:List (List Ext)):(Unit⊕(Int×Int×Bool))→ah×St:=alt (fun e=>((.ret,⟨[(4,I (-1:Int))],[]⟩):ah×St)) (fun e=>(.exit 0,⟨[(0,sl (eL eExt) a2),(1,I e.1),(5,I e.2.1),(15,B e.2.2)],[]⟩))
theorem OG {a2 s e} (h:Loop (nQ a2) s=some e):aq tab ow (.close [8005]) vj (Db a2 s)=some (CP a2 e):=by
 refine lrG (fun s o h=> ?_) h
 obtain ⟨_,_⟩:=s
 simp only [nQ] at h
 simp+decide only [Db,CP,vj,go_sem,reduceIte,Nat.reduceAdd]
 have d1:= @DT
 all_goals exact go
def s6 (a:(List (List Ext))) (left:Int):Option (Int):=
 br (decide ((wrap .i64 (left-((a.length:Nat):Int)))<0)) (
 some (-1:Int)) (
 (Loop (nQ a) ((wrap .i64 (left-((a.length:Nat):Int))),0)).bind (alt (fun e_2=>
 some (-1:Int)) (fun e_3=>
 some e_3.1)))
theorem Ih {a left r} (h:s6 a left=some r):Call tab ow 107 [sl (eL eExt) a,I left] []=some (I r,[]):=by
 rw [aa (af:=tW) rfl]
 unfold s6 at h
 simp+decide only [tW,Hz,go_sem,reduceIte,Nat.reduceAdd]
 have d1:= @OG
 all_goals exact go
def ib (a2:List (List UInt8)):Int×Int→Option ((Int×Int)⊕(Unit⊕(Int×Int×Bool)))
 | (left2,i)=>
   br (decide (i<((a2.length:Nat):Int))) (
   (atL a2 i).bind fun x=>
   br (decide ((wrap .i64 (left2-((x.length:Nat):Int)))<0)) (
   some (.inr (.inl ()))) (
   some (.inl ((wrap .i64 (left2-((x.length:Nat):Int))),(wrap .i64 (i+1)))))) (
   some (.inr (.inr (left2,i,decide (i<((a2.length:Nat):Int))))))
abbrev yQ (a2:List (List UInt8)) (s:Int×Int):St:=⟨[(0,sl eS a2),(1,I s.1),(5,I s.2)],[]⟩
abbrev zk (a2:List (List UInt8)):(Unit⊕(Int×Int×Bool))→ah×St:=alt (fun e=>((.ret,⟨[(4,I (-1:Int))],[]⟩):ah×St)) (fun e=>(.exit 0,⟨[(0,sl eS a2),(1,I e.1),(5,I e.2.1),(15,B e.2.2)],[]⟩))
theorem Ja {a2 s e} (h:Loop (ib a2) s=some e):aq tab ow (.close []) pu (yQ a2 s)=some (zk a2 e):=by
 refine lrG (fun s o h=> ?_) h
 obtain ⟨_,_⟩:=s
 simp only [ib] at h
 simp+decide only [yQ,zk,pu,go_sem,reduceIte,Nat.reduceAdd]
 all_goals exact go
def lv (a:(List (List UInt8))) (left:Int):Option (Int):=
 br (decide ((wrap .i64 (left-((a.length:Nat):Int)))<0)) (
 some (-1:Int)) (
 (Loop (ib a) ((wrap .i64 (left-((a.length:Nat):Int))),0)).bind (alt (fun e_2=>
 some (-1:Int)) (fun e_3=>
 some e_3.1)))
theorem CJ {a left r} (h:lv a left=some r):Call tab ow 211 [sl eS a,I left] []=some (I r,[]):=by
 rw [aa (af:=o8) rfl]
 unfold lv at h
 simp+decide only [o8,BV,go_sem,reduceIte,Nat.reduceAdd]
 have d1:= @Ja
 all_goals exact go
def jA (a2:List (List (List UInt8))):Int×Int→Option ((Int×Int)⊕(Unit⊕(Int×Int×Bool)))
 | (left2,i)=>
   br (decide (i<((a2.length:Nat):Int))) (
   (atL a2 i).bind fun x=>
   (lv x left2).bind fun r_=>
   br (decide (r_<0)) (
   some (.inr (.inl ()))) (
   some (.inl (r_,(wrap .i64 (i+1)))))) (
   some (.inr (.inr (left2,i,decide (i<((a2.length:Nat):Int))))))
abbrev vI (a2:List (List (List UInt8))) (s:Int×Int):St:=⟨[(0,sl (eL eS) a2),(1,I s.1),(5,I s.2)],[]⟩
abbrev vQ (a2:List (List (List UInt8))):(Unit⊕(Int×Int×Bool))→ah×St:=alt (fun e=>((.ret,⟨[(4,I (-1:Int))],[]⟩):ah×St)) (fun e=>(.exit 0,⟨[(0,sl (eL eS) a2),(1,I e.1),(5,I e.2.1),(15,B e.2.2)],[]⟩))
theorem Hk {a2 s e} (h:Loop (jA a2) s=some e):aq tab ow (.close [8005]) nw (vI a2 s)=some (vQ a2 e):=by
 refine lrG (fun s o h=> ?_) h
 obtain ⟨_,_⟩:=s
 simp only [jA] at h
 simp+decide only [vI,vQ,nw,go_sem,reduceIte,Nat.reduceAdd]
 have d1:= @CJ
 all_goals exact go
def rJ (a:(List (List (List UInt8)))) (left:Int):Option (Int):=
 br (decide ((wrap .i64 (left-((a.length:Nat):Int)))<0)) (
 some (-1:Int)) (
 (Loop (jA a) ((wrap .i64 (left-((a.length:Nat):Int))),0)).bind (alt (fun e_2=>
 some (-1:Int)) (fun e_3=>
 some e_3.1)))
theorem N6 {a left r} (h:rJ a left=some r):Call tab ow 346 [sl (eL eS) a,I left] []=some (I r,[]):=by
 rw [aa (af:=lC) rfl]
 unfold rJ at h
 simp+decide only [lC,Af,go_sem,reduceIte,Nat.reduceAdd]
 have d1:= @Hk
 all_goals exact go
def s7 (a:Query) (left:Int):Option (Int):=
 (oP a.Pairs left).bind fun r_=>
 br (decide (r_<0)) (
 some (-1:Int)) (
 (rJ a.Paths r_).bind fun r_2=>
 br (decide (r_2<0)) (
 some (-1:Int)) (
 some r_2))
theorem Uu {a left r} (h:s7 a left=some r):Call tab ow 307 [.agg [sl eExt a.Pairs,sl (eL eS) a.Paths],I left] []=some (I r,[]):=by
 rw [aa (af:=uG) rfl]
 unfold s7 at h
 simp+decide only [uG,IK,go_sem,reduceIte,Nat.reduceAdd]
 have d1:= @DT
 have d2:= @N6
 all_goals exact go
def mj (a2:List Query):Int×Int→Option ((Int×Int)⊕(Unit⊕(Int×Int×Bool)))
 | (left2,i)=>
   br (decide (i<((a2.length:Nat):Int))) (
   (atL a2 i).bind fun x=>
   (s7 x left2).bind fun r_=>
   br (decide (r_<0)) (
   some (.inr (.inl ()))) (
   some (.inl (r_,(wrap .i64 (i+1)))))) (
   some (.inr (.inr (left2,i,decide (i<((a2.length:Nat):Int))))))
abbrev zC (a2:List Query) (s:Int×Int):St:=⟨[(0,sl eQuery a2),(1,I s.1),(5,I s.2)],[]⟩
abbrev Ag (a2:List Query):(Unit⊕(Int×Int×Bool))→ah×St:=alt (fun e=>((.ret,⟨[(4,I (-1:Int))],[]⟩):ah×St)) (fun e=>(.exit 0,⟨[(0,sl eQuery a2),(1,I e.1),(5,I e.2.1),(15,B e.2.2)],[]⟩))
theorem LY {a2 s e} (h:Loop (mj a2) s=some e):aq tab ow (.close [8005]) si (zC a2 s)=some (Ag a2 e):=by
 refine lrG (fun s o h=> ?_) h
 obtain ⟨_,_⟩:=s
 simp only [mj] at h
 simp+decide only [zC,Ag,si,go_sem,reduceIte,Nat.reduceAdd]
 have d1:= @Uu
 all_goals exact go
def xk (a:(List Query)) (left:Int):Option (Int):=
 br (decide ((wrap .i64 (left-((a.length:Nat):Int)))<0)) (
 some (-1:Int)) (
 (Loop (mj a) ((wrap .i64 (left-((a.length:Nat):Int))),0)).bind (alt (fun e_2=>
 some (-1:Int)) (fun e_3=>
 some e_3.1)))
theorem TH {a left r} (h:xk a left=some r):Call tab ow 212 [sl eQuery a,I left] []=some (I r,[]):=by
 rw [aa (af:=qT) rfl]
 unfold xk at h
 simp+decide only [qT,EY,go_sem,reduceIte,Nat.reduceAdd]
 have d1:= @LY
 all_goals exact go
def oD (a:Opening) (left:Int):Option (Int):=
 (s6 a.Rounds left).bind fun r_=>
 br (decide (r_<0)) (
 some (-1:Int)) (
 (lv a.Roots r_).bind fun r_2=>
 br (decide (r_2<0)) (
 some (-1:Int)) (
 (xk a.Queries r_2).bind fun r_3=>
 br (decide (r_3<0)) (
 some (-1:Int)) (
 some r_3)))
theorem NQ {a left r} (h:oD a left=some r):Call tab ow 108 [.agg [sl (eL eExt) a.Rounds,sl eS a.Roots,I a.Last.A,I a.Last.B,I a.Nonce,sl eQuery a.Queries],I left] []=some (I r,[]):=by
 rw [aa (af:=oq) rfl]
 unfold oD at h
 simp+decide only [oq,D6,go_sem,reduceIte,Nat.reduceAdd]
 have d1:= @Ih
 have d2:= @CJ
 have d3:= @TH
 all_goals exact go
def wH (a:Proof) (left:Int):Option (Int):=
 br (decide ((wrap .i64 (left-((a.Root.length:Nat):Int)))<0)) (
 some (-1:Int)) (
 (s6 a.Gates (wrap .i64 (left-((a.Root.length:Nat):Int)))).bind fun r_=>
 br (decide (r_<0)) (
 some (-1:Int)) (
 (s6 a.Wires r_).bind fun r_2=>
 br (decide (r_2<0)) (
 some (-1:Int)) (
 (oD a.Open r_2).bind fun r_3=>
 br (decide (r_3<0)) (
 some (-1:Int)) (
 some r_3))))
theorem W4 {a left r} (h:wH a left=some r):Call tab ow 30 [.agg [S a.Root,sl (eL eExt) a.Gates,I a.VA.A,I a.VA.B,I a.VB.A,I a.VB.B,I a.VC.A,I a.VC.B,sl (eL eExt) a.Wires,I a.VW.A,I a.VW.B,sl (eL eExt) a.Open.Rounds,sl eS a.Open.Roots,I a.Open.Last.A,I a.Open.Last.B,I a.Open.Nonce,sl eQuery a.Open.Queries],I left] []=some (I r,[]):=by
 rw [aa (af:=ut) rfl]
 unfold wH at h
 simp+decide only [ut,Ip,go_sem,reduceIte,Nat.reduceAdd]
 have d1:= @Ih
 have d2:= @NQ
 all_goals exact go
def ta (a:Source) (left:Int):Option (Int):=
 (oP a.Script left).bind fun r_=>
 br (decide (r_<0)) (
 some (-1:Int)) (
 br (decide ((wrap .i64 (r_-((a.State.length:Nat):Int)))<0)) (
 some (-1:Int)) (
 some (wrap .i64 (r_-((a.State.length:Nat):Int)))))
theorem TR {a left r} (h:ta a left=some r):Call tab ow 31 [.agg [sl eExt a.Script,I a.At,S a.State,I a.Count],I left] []=some (I r,[]):=by
 rw [aa (af:=rv) rfl]
 unfold ta at h
 simp+decide only [rv,Fo,go_sem,reduceIte,Nat.reduceAdd]
 have d1:= @DT
 all_goals exact go
def Bq (a:Entry):Option (Entry):=
 some a
theorem Vj {a r} (h:Bq a=some r):Call tab ow 222 [.agg [I a.Row,I a.Col,I a.Value]] []=some (.agg [I r.Row,I r.Col,I r.Value],[]):=by
 rw [aa (af:=uf) rfl]
 unfold Bq at h
 simp+decide only [uf,I9,go_sem,reduceIte,Nat.reduceAdd]
 all_goals exact go
section
theorem OS: ∀k,wi 2002 k [I (0:Int),I (0:Int),I (0:Int)]=rws eEntry (List.replicate k (Entry.mk (0:Int) (0:Int) (0:Int))):=fun _=>H4 eEntry (Entry.mk (0:Int) (0:Int) (0:Int)) _ _
attribute [local go_sem] OS
def j4 (a2:List Entry):(List Entry)×Int→Option (((List Entry)×Int)⊕(((List Entry)×Int×Bool)))
 | (l,i)=>
   br (decide (i<((a2.length:Nat):Int))) (
   (atL a2 i).bind fun x=>
   (Bq x).bind fun r_=>
   br (decide (0≤i)) (
   br (decide (i.toNat<l.length)) (
   (l[i.toNat]?).bind fun x2=>
   some (.inl ((l.set i.toNat r_),(wrap .i64 (i+1))))) none) none) (
   some (.inr (l,i,decide (i<((a2.length:Nat):Int)))))
abbrev AZ (a2:List Entry) (s:(List Entry)×Int):St:=⟨[(0,sl eEntry a2),(3,.sl 2002 0 s.1.length),(4,I s.2)],[(2002,⟨3,false,rws eEntry s.1⟩)]⟩
abbrev AM (a2:List Entry):((List Entry)×Int×Bool)→ah×St:=fun e=>(.exit 0,⟨[(0,sl eEntry a2),(3,.sl 2002 0 e.1.length),(4,I e.2.1),(11,B e.2.2)],[(2002,⟨3,false,rws eEntry e.1⟩)]⟩)
theorem Mf {a2 s e} (h:Loop (j4 a2) s=some e):aq tab ow (.close [6006]) sW (AZ a2 s)=some (AM a2 e):=by
 refine lrG (fun s o h=> ?_) h
 obtain ⟨_,_⟩:=s
 simp only [j4] at h
 simp+decide only [AZ,AM,sW,go_sem,reduceIte,Nat.reduceAdd]
 have d1:= @Vj
 all_goals exact go
def kR (a:(List Entry)):Option ((List Entry)):=
 br (tF ((a.length:Nat):Int) ((a.length:Nat):Int) 24) (
 (Loop (j4 a) ((List.replicate (((a.length:Nat):Int).toNat) (Entry.mk (0:Int) (0:Int) (0:Int))),(0:Int))).bind fun e_=>
 some e_.1) none
theorem SK {a r} (h:kR a=some r):Call tab ow 113 [sl eEntry a] []=some (sl eEntry r,[]):=by
 rw [aa (af:=rj) rfl]
 unfold kR at h
 simp+decide only [rj,Ei,go_sem,reduceIte,Nat.reduceAdd]
 have d1:= @Mf
 all_goals exact go
end
def l8 (a:System):Option (System):=
 (kR a.A).bind fun r_=>
 (kR a.B).bind fun r_2=>
 (kR a.C).bind fun r_3=>
 some (System.mk a.Rows a.Cols a.Publics r_ r_2 r_3)
theorem SL {a r} (h:l8 a=some r):Call tab ow 33 [.agg [I a.Rows,I a.Cols,I a.Publics,sl eEntry a.A,sl eEntry a.B,sl eEntry a.C]] []=some (.agg [I r.Rows,I r.Cols,I r.Publics,sl eEntry r.A,sl eEntry r.B,sl eEntry r.C],[]):=by
 rw [aa (af:=rB) rfl]
 unfold l8 at h
 simp+decide only [rB,Fm,go_sem,reduceIte,Nat.reduceAdd]
 have d1:= @SK
 all_goals exact go
def oy (a:Setting):Option (Setting):=
 some a
theorem OR {a r} (h:oy a=some r):Call tab ow 34 [.agg [I a.Rate,I a.Queries,I a.Grind]] []=some (.agg [I r.Rate,I r.Queries,I r.Grind],[]):=by
 rw [aa (af:=nF) rfl]
 unfold oy at h
 simp+decide only [nF,Cm,go_sem,reduceIte,Nat.reduceAdd]
 all_goals exact go
section
theorem V2: ∀k,wi 2002 k [I (0:Int)]=rws eI (List.replicate k (0:Int)):=fun _=>H4 eI (0:Int) _ _
attribute [local go_sem] V2
def qN (a2:List Int):(List Int)×Int→Option (((List Int)×Int)⊕(((List Int)×Int×Bool)))
 | (l,i)=>
   br (decide (i<((a2.length:Nat):Int))) (
   (atL a2 i).bind fun x=>
   br (decide (0≤i)) (
   br (decide (i.toNat<l.length)) (
   (l[i.toNat]?).bind fun x2=>
   some (.inl ((l.set i.toNat x),(wrap .i64 (i+1))))) none) none) (
   some (.inr (l,i,decide (i<((a2.length:Nat):Int)))))
abbrev Gh (a2:List Int) (s:(List Int)×Int):St:=⟨[(0,sl eI a2),(3,.sl 2002 0 s.1.length),(4,I s.2)],[(2002,⟨1,false,rws eI s.1⟩)]⟩
abbrev Eb (a2:List Int):((List Int)×Int×Bool)→ah×St:=fun e=>(.exit 0,⟨[(0,sl eI a2),(3,.sl 2002 0 e.1.length),(4,I e.2.1),(11,B e.2.2)],[(2002,⟨1,false,rws eI e.1⟩)]⟩)
theorem Rl {a2 s e} (h:Loop (qN a2) s=some e):aq tab ow (.close []) yt (Gh a2 s)=some (Eb a2 e):=by
 refine lrG (fun s o h=> ?_) h
 obtain ⟨_,_⟩:=s
 simp only [qN] at h
 simp+decide only [Gh,Eb,yt,go_sem,reduceIte,Nat.reduceAdd]
 all_goals exact go
def sj (a:(List Int)):Option ((List Int)):=
 br (tF ((a.length:Nat):Int) ((a.length:Nat):Int) 8) (
 (Loop (qN a) ((List.replicate (((a.length:Nat):Int).toNat) (0:Int)),(0:Int))).bind fun e_=>
 some e_.1) none
theorem Z9 {a r} (h:sj a=some r):Call tab ow 35 [sl eI a] []=some (sl eI r,[]):=by
 rw [aa (af:=y9) rfl]
 unfold sj at h
 simp+decide only [y9,KN,go_sem,reduceIte,Nat.reduceAdd]
 have d1:= @Rl
 all_goals exact go
end
def mg (a:Ext):Option (Ext):=
 some a
theorem GD {a r} (h:mg a=some r):Call tab ow 115 [.agg [I a.A,I a.B]] []=some (.agg [I r.A,I r.B],[]):=by
 rw [aa (af:=BF) rfl]
 unfold mg at h
 simp+decide only [BF,Q4,go_sem,reduceIte,Nat.reduceAdd]
 all_goals exact go
section
theorem Vy: ∀k,wi 2002 k [I (0:Int),I (0:Int)]=rws eExt (List.replicate k (Ext.mk (0:Int) (0:Int))):=fun _=>H4 eExt (Ext.mk (0:Int) (0:Int)) _ _
attribute [local go_sem] Vy
def qQ (a2:List Ext):(List Ext)×Int→Option (((List Ext)×Int)⊕(((List Ext)×Int×Bool)))
 | (l,i)=>
   br (decide (i<((a2.length:Nat):Int))) (
   (atL a2 i).bind fun x=>
   (mg x).bind fun r_=>
   br (decide (0≤i)) (
   br (decide (i.toNat<l.length)) (
   (l[i.toNat]?).bind fun x2=>
   some (.inl ((l.set i.toNat r_),(wrap .i64 (i+1))))) none) none) (
   some (.inr (l,i,decide (i<((a2.length:Nat):Int)))))
abbrev Fs (a2:List Ext) (s:(List Ext)×Int):St:=⟨[(0,sl eExt a2),(3,.sl 2002 0 s.1.length),(4,I s.2)],[(2002,⟨2,false,rws eExt s.1⟩)]⟩
abbrev Gk (a2:List Ext):((List Ext)×Int×Bool)→ah×St:=fun e=>(.exit 0,⟨[(0,sl eExt a2),(3,.sl 2002 0 e.1.length),(4,I e.2.1),(11,B e.2.2)],[(2002,⟨2,false,rws eExt e.1⟩)]⟩)
theorem Ro {a2 s e} (h:Loop (qQ a2) s=some e):aq tab ow (.close [6006]) ye (Fs a2 s)=some (Gk a2 e):=by
 refine lrG (fun s o h=> ?_) h
 obtain ⟨_,_⟩:=s
 simp only [qQ] at h
 simp+decide only [Fs,Gk,ye,go_sem,reduceIte,Nat.reduceAdd]
 have d1:= @GD
 all_goals exact go
def oV (a:(List Ext)):Option ((List Ext)):=
 br (tF ((a.length:Nat):Int) ((a.length:Nat):Int) 16) (
 (Loop (qQ a) ((List.replicate (((a.length:Nat):Int).toNat) (Ext.mk (0:Int) (0:Int))),(0:Int))).bind fun e_=>
 some e_.1) none
theorem DR {a r} (h:oV a=some r):Call tab ow 117 [sl eExt a] []=some (sl eExt r,[]):=by
 rw [aa (af:=xA) rfl]
 unfold oV at h
 simp+decide only [xA,Kh,go_sem,reduceIte,Nat.reduceAdd]
 have d1:= @Ro
 all_goals exact go
end
section
theorem Sx: ∀k,wi 2002 k [.imm 1 []]=rws (eL eExt) (List.replicate k ([]:List Ext)):=fun _=>H4 (eL eExt) ([]:List Ext) _ _
attribute [local go_sem] Sx
def o1 (a2:List (List Ext)):(List (List Ext))×Int→Option (((List (List Ext))×Int)⊕(((List (List Ext))×Int×Bool)))
 | (l,i)=>
   br (decide (i<((a2.length:Nat):Int))) (
   (atL a2 i).bind fun x=>
   (oV x).bind fun r_=>
   br (decide (0≤i)) (
   br (decide (i.toNat<l.length)) (
   (l[i.toNat]?).bind fun x2=>
   some (.inl ((l.set i.toNat r_),(wrap .i64 (i+1))))) none) none) (
   some (.inr (l,i,decide (i<((a2.length:Nat):Int)))))
abbrev Cs (a2:List (List Ext)) (s:(List (List Ext))×Int):St:=⟨[(0,sl (eL eExt) a2),(3,.sl 2002 0 s.1.length),(4,I s.2)],[(2002,⟨1,false,rws (eL eExt) s.1⟩)]⟩
abbrev Dc (a2:List (List Ext)):((List (List Ext))×Int×Bool)→ah×St:=fun e=>(.exit 0,⟨[(0,sl (eL eExt) a2),(3,.sl 2002 0 e.1.length),(4,I e.2.1),(11,B e.2.2)],[(2002,⟨1,false,rws (eL eExt) e.1⟩)]⟩)
theorem NN {a2 s e} (h:Loop (o1 a2) s=some e):aq tab ow (.close [6006]) vz (Cs a2 s)=some (Dc a2 e):=by
 refine lrG (fun s o h=> ?_) h
 obtain ⟨_,_⟩:=s
 simp only [o1] at h
 simp+decide only [Cs,Dc,vz,go_sem,reduceIte,Nat.reduceAdd]
 have d1:= @DR
 all_goals exact go
def mz (a:(List (List Ext))):Option ((List (List Ext))):=
 br (tF ((a.length:Nat):Int) ((a.length:Nat):Int) 24) (
 (Loop (o1 a) ((List.replicate (((a.length:Nat):Int).toNat) ([]:List Ext)),(0:Int))).bind fun e_=>
 some e_.1) none
theorem Iv {a r} (h:mz a=some r):Call tab ow 114 [sl (eL eExt) a] []=some (sl (eL eExt) r,[]):=by
 rw [aa (af:=uI) rfl]
 unfold mz at h
 simp+decide only [uI,HT,go_sem,reduceIte,Nat.reduceAdd]
 have d1:= @NN
 all_goals exact go
end
section
theorem Ms: ∀k,wi 2002 k [S (([]:List UInt8))]=rws eS (List.replicate k (([]:List UInt8))):=fun _=>H4 eS (([]:List UInt8)) _ _
attribute [local go_sem] Ms
def ky (a2:List (List UInt8)):(List (List UInt8))×Int→Option (((List (List UInt8))×Int)⊕(((List (List UInt8))×Int×Bool)))
 | (l,i)=>
   br (decide (i<((a2.length:Nat):Int))) (
   (atL a2 i).bind fun x=>
   br (decide (0≤i)) (
   br (decide (i.toNat<l.length)) (
   (l[i.toNat]?).bind fun x2=>
   some (.inl ((l.set i.toNat x),(wrap .i64 (i+1))))) none) none) (
   some (.inr (l,i,decide (i<((a2.length:Nat):Int)))))
abbrev zj (a2:List (List UInt8)) (s:(List (List UInt8))×Int):St:=⟨[(0,sl eS a2),(3,.sl 2002 0 s.1.length),(4,I s.2)],[(2002,⟨1,false,rws eS s.1⟩)]⟩
abbrev zf (a2:List (List UInt8)):((List (List UInt8))×Int×Bool)→ah×St:=fun e=>(.exit 0,⟨[(0,sl eS a2),(3,.sl 2002 0 e.1.length),(4,I e.2.1),(11,B e.2.2)],[(2002,⟨1,false,rws eS e.1⟩)]⟩)
theorem Jl {a2 s e} (h:Loop (ky a2) s=some e):aq tab ow (.close []) pv (zj a2 s)=some (zf a2 e):=by
 refine lrG (fun s o h=> ?_) h
 obtain ⟨_,_⟩:=s
 simp only [ky] at h
 simp+decide only [zj,zf,pv,go_sem,reduceIte,Nat.reduceAdd]
 all_goals exact go
def iZ (a:(List (List UInt8))):Option ((List (List UInt8))):=
 br (tF ((a.length:Nat):Int) ((a.length:Nat):Int) 16) (
 (Loop (ky a) ((List.replicate (((a.length:Nat):Int).toNat) (([]:List UInt8))),(0:Int))).bind fun e_=>
 some e_.1) none
theorem C0 {a r} (h:iZ a=some r):Call tab ow 223 [sl eS a] []=some (sl eS r,[]):=by
 rw [aa (af:=o6) rfl]
 unfold iZ at h
 simp+decide only [o6,Cz,go_sem,reduceIte,Nat.reduceAdd]
 have d1:= @Jl
 all_goals exact go
end
section
theorem Jd: ∀k,wi 2002 k [.imm 1 []]=rws (eL eS) (List.replicate k ([]:List (List UInt8))):=fun _=>H4 (eL eS) ([]:List (List UInt8)) _ _
attribute [local go_sem] Jd
def jg (a2:List (List (List UInt8))):(List (List (List UInt8)))×Int→Option (((List (List (List UInt8)))×Int)⊕(((List (List (List UInt8)))×Int×Bool)))
 | (l,i)=>
   br (decide (i<((a2.length:Nat):Int))) (
   (atL a2 i).bind fun x=>
   (iZ x).bind fun r_=>
   br (decide (0≤i)) (
   br (decide (i.toNat<l.length)) (
   (l[i.toNat]?).bind fun x2=>
   some (.inl ((l.set i.toNat r_),(wrap .i64 (i+1))))) none) none) (
   some (.inr (l,i,decide (i<((a2.length:Nat):Int)))))
abbrev we (a2:List (List (List UInt8))) (s:(List (List (List UInt8)))×Int):St:=⟨[(0,sl (eL eS) a2),(3,.sl 2002 0 s.1.length),(4,I s.2)],[(2002,⟨1,false,rws (eL eS) s.1⟩)]⟩
abbrev vY (a2:List (List (List UInt8))):((List (List (List UInt8)))×Int×Bool)→ah×St:=fun e=>(.exit 0,⟨[(0,sl (eL eS) a2),(3,.sl 2002 0 e.1.length),(4,I e.2.1),(11,B e.2.2)],[(2002,⟨1,false,rws (eL eS) e.1⟩)]⟩)
theorem GW {a2 s e} (h:Loop (jg a2) s=some e):aq tab ow (.close [6006]) mI (we a2 s)=some (vY a2 e):=by
 refine lrG (fun s o h=> ?_) h
 obtain ⟨_,_⟩:=s
 simp only [jg] at h
 simp+decide only [we,vY,mI,go_sem,reduceIte,Nat.reduceAdd]
 have d1:= @C0
 all_goals exact go
def mb (a:(List (List (List UInt8)))):Option ((List (List (List UInt8)))):=
 br (tF ((a.length:Nat):Int) ((a.length:Nat):Int) 24) (
 (Loop (jg a) ((List.replicate (((a.length:Nat):Int).toNat) ([]:List (List UInt8))),(0:Int))).bind fun e_=>
 some e_.1) none
theorem Lh {a r} (h:mb a=some r):Call tab ow 347 [sl (eL eS) a] []=some (sl (eL eS) r,[]):=by
 rw [aa (af:=ma) rfl]
 unfold mb at h
 simp+decide only [ma,B3,go_sem,reduceIte,Nat.reduceAdd]
 have d1:= @GW
 all_goals exact go
end
def rR (a:Query):Option (Query):=
 (oV a.Pairs).bind fun r_=>
 (mb a.Paths).bind fun r_2=>
 some (Query.mk r_ r_2)
theorem UI {a r} (h:rR a=some r):Call tab ow 309 [.agg [sl eExt a.Pairs,sl (eL eS) a.Paths]] []=some (.agg [sl eExt r.Pairs,sl (eL eS) r.Paths],[]):=by
 rw [aa (af:=tR) rfl]
 unfold rR at h
 simp+decide only [tR,Iu,go_sem,reduceIte,Nat.reduceAdd]
 have d1:= @DR
 have d2:= @Lh
 all_goals exact go
end
end Go.AI.Fn
set_option linter.unusedVariables false
set_option linter.unusedSimpArgs false
set_option maxRecDepth 100000
set_option maxHeartbeats 1000000
namespace Go.AI.Fn
noncomputable section
open IntKind (wrap)
section
theorem Ph: ∀k,wi 2002 k [.imm 1 [],.imm 1 []]=rws eQuery (List.replicate k (Query.mk ([]:List Ext) ([]:List (List (List UInt8))))):=fun _=>H4 eQuery (Query.mk ([]:List Ext) ([]:List (List (List UInt8)))) _ _
attribute [local go_sem] Ph
def ly (a2:List Query):(List Query)×Int→Option (((List Query)×Int)⊕(((List Query)×Int×Bool)))
 | (l,i)=>
   br (decide (i<((a2.length:Nat):Int))) (
   (atL a2 i).bind fun x=>
   (rR x).bind fun r_=>
   br (decide (0≤i)) (
   br (decide (i.toNat<l.length)) (
   (l[i.toNat]?).bind fun x2=>
   some (.inl ((l.set i.toNat r_),(wrap .i64 (i+1))))) none) none) (
   some (.inr (l,i,decide (i<((a2.length:Nat):Int)))))
abbrev Ae (a2:List Query) (s:(List Query)×Int):St:=⟨[(0,sl eQuery a2),(3,.sl 2002 0 s.1.length),(4,I s.2)],[(2002,⟨2,false,rws eQuery s.1⟩)]⟩
abbrev Am (a2:List Query):((List Query)×Int×Bool)→ah×St:=fun e=>(.exit 0,⟨[(0,sl eQuery a2),(3,.sl 2002 0 e.1.length),(4,I e.2.1),(11,B e.2.2)],[(2002,⟨2,false,rws eQuery e.1⟩)]⟩)
theorem M4 {a2 s e} (h:Loop (ly a2) s=some e):aq tab ow (.close [6006]) sf (Ae a2 s)=some (Am a2 e):=by
 refine lrG (fun s o h=> ?_) h
 obtain ⟨_,_⟩:=s
 simp only [ly] at h
 simp+decide only [Ae,Am,sf,go_sem,reduceIte,Nat.reduceAdd]
 have d1:= @UI
 all_goals exact go
def tc (a:(List Query)):Option ((List Query)):=
 br (tF ((a.length:Nat):Int) ((a.length:Nat):Int) 48) (
 (Loop (ly a) ((List.replicate (((a.length:Nat):Int).toNat) (Query.mk ([]:List Ext) ([]:List (List (List UInt8))))),(0:Int))).bind fun e_=>
 some e_.1) none
theorem QR {a r} (h:tc a=some r):Call tab ow 224 [sl eQuery a] []=some (sl eQuery r,[]):=by
 rw [aa (af:=ra) rfl]
 unfold tc at h
 simp+decide only [ra,Gi,go_sem,reduceIte,Nat.reduceAdd]
 have d1:= @M4
 all_goals exact go
end
def oz (a:Opening):Option (Opening):=
 (mz a.Rounds).bind fun r_=>
 (iZ a.Roots).bind fun r_2=>
 (mg a.Last).bind fun r_3=>
 (tc a.Queries).bind fun r_4=>
 some (Opening.mk r_ r_2 r_3 a.Nonce r_4)
theorem OK {a r} (h:oz a=some r):Call tab ow 116 [.agg [sl (eL eExt) a.Rounds,sl eS a.Roots,I a.Last.A,I a.Last.B,I a.Nonce,sl eQuery a.Queries]] []=some (.agg [sl (eL eExt) r.Rounds,sl eS r.Roots,I r.Last.A,I r.Last.B,I r.Nonce,sl eQuery r.Queries],[]):=by
 rw [aa (af:=ou) rfl]
 unfold oz at h
 simp+decide only [ou,BO,go_sem,reduceIte,Nat.reduceAdd]
 have d1:= @Iv
 have d2:= @C0
 have d3:= @GD
 have d4:= @QR
 all_goals exact go
def mU (a:Proof):Option (Proof):=
 (mz a.Gates).bind fun r_=>
 (mg a.VA).bind fun r_2=>
 (mg a.VB).bind fun r_3=>
 (mg a.VC).bind fun r_4=>
 (mz a.Wires).bind fun r_5=>
 (mg a.VW).bind fun r_6=>
 (oz a.Open).bind fun r_7=>
 some (Proof.mk a.Root r_ r_2 r_3 r_4 r_5 r_6 r_7)
theorem Ud {a r} (h:mU a=some r):Call tab ow 36 [.agg [S a.Root,sl (eL eExt) a.Gates,I a.VA.A,I a.VA.B,I a.VB.A,I a.VB.B,I a.VC.A,I a.VC.B,sl (eL eExt) a.Wires,I a.VW.A,I a.VW.B,sl (eL eExt) a.Open.Rounds,sl eS a.Open.Roots,I a.Open.Last.A,I a.Open.Last.B,I a.Open.Nonce,sl eQuery a.Open.Queries]] []=some (.agg [S r.Root,sl (eL eExt) r.Gates,I r.VA.A,I r.VA.B,I r.VB.A,I r.VB.B,I r.VC.A,I r.VC.B,sl (eL eExt) r.Wires,I r.VW.A,I r.VW.B,sl (eL eExt) r.Open.Rounds,sl eS r.Open.Roots,I r.Open.Last.A,I r.Open.Last.B,I r.Open.Nonce,sl eQuery r.Open.Queries],[]):=by
 rw [aa (af:=uk) rfl]
 unfold mU at h
 simp+decide only [uk,IL,go_sem,reduceIte,Nat.reduceAdd]
 have d1:= @Iv
 have d2:= @GD
 have d3:= @OK
 all_goals exact go
def kQ (a:Source):Option (Source):=
 (oV a.Script).bind fun r_=>
 some (Source.mk r_ a.At a.State a.Count)
theorem S7 {a r} (h:kQ a=some r):Call tab ow 37 [.agg [sl eExt a.Script,I a.At,S a.State,I a.Count]] []=some (.agg [sl eExt r.Script,I r.At,S r.State,I r.Count],[]):=by
 rw [aa (af:=rH) rfl]
 unfold kQ at h
 simp+decide only [rH,G7,go_sem,reduceIte,Nat.reduceAdd]
 have d1:= @DR
 all_goals exact go
def k8 (ListtoArray2:List Entry) (t t2:Int):Int→Option ((Int)⊕((Int×Int×Int)⊕(Int×Bool)))
 |t3=>
  br (decide (t3<((ListtoArray2.length:Nat):Int))) (
  (atL ListtoArray2 t3).bind fun x=>
  br (decide (0≤(wrap .u64 t))) (
  (en x.Row 0 (wrap .i64 ((aB .i64 1 (wrap .u64 t))-1))).bind fun r_=>
  br (!r_) (
  some (.inr (.inl (x.Row,x.Col,x.Value)))) (
  br (decide (0≤(wrap .u64 t2))) (
  (en x.Col 0 (wrap .i64 ((aB .i64 1 (wrap .u64 t2))-1))).bind fun r_2=>
  br (!r_2) (
  some (.inr (.inl (x.Row,x.Col,x.Value)))) (
  (en x.Value 1 2130706432).bind fun r_3=>
  br (!r_3) (
  some (.inr (.inl (x.Row,x.Col,x.Value)))) (
  br (decide (t3>0)) (
  (atL ListtoArray2 (wrap .i64 (t3-1))).bind fun x2=>
  br (decide (x2.Row>x.Row)) (
  some (.inr (.inl (x.Row,x.Col,x.Value)))) (
  (atL ListtoArray2 (wrap .i64 (t3-1))).bind fun x3=>
  br (x3.Row==x.Row) (
  (atL ListtoArray2 (wrap .i64 (t3-1))).bind fun x4=>
  br (decide (x4.Col≥x.Col)) (
  some (.inr (.inl (x.Row,x.Col,x.Value)))) (
  some (.inl (wrap .i64 (t3+1))))) (
  some (.inl (wrap .i64 (t3+1)))))) (
  some (.inl (wrap .i64 (t3+1))))))) none)) none) (
  some (.inr (.inr (t3,decide (t3<((ListtoArray2.length:Nat):Int))))))
abbrev BZ (ListtoArray2:List Entry) (t t2 s:Int):St:=⟨[(0,sl eEntry ListtoArray2),(1,I t),(2,I t2),(7,I s)],[]⟩
abbrev CD (ListtoArray2:List Entry) (t t2:Int):((Int×Int×Int)⊕(Int×Bool))→ah×St:=alt (fun e=>((.ret,⟨[(6,B false)],[(7004,⟨3,true,[[I e.1,I e.2.1,I e.2.2]]⟩)]⟩):ah×St)) (fun e=>(.exit 0,⟨[(0,sl eEntry ListtoArray2),(1,I t),(2,I t2),(7,I e.1),(15,B e.2)],[]⟩))
theorem NP {ListtoArray2 t t2 s e} (h:Loop (k8 ListtoArray2 t t2) s=some e):aq tab ow (.close [7004,8006,8015,8021]) vG (BZ ListtoArray2 t t2 s)=some (CD ListtoArray2 t t2 e):=by
 refine lrG (fun s o h=> ?_) h
 simp only [k8] at h
 simp+decide only [BZ,CD,vG,go_sem,reduceIte,Nat.reduceAdd]
 have d1:= @s5
 all_goals exact go
def mH (ListtoArray:(List Entry)) (a a2:Int):Option (Bool):=
 br (decide (((ListtoArray.length:Nat):Int)>200)) (
 some false) (
 (Loop (k8 ListtoArray a a2) 0).bind (alt (fun e_2=>
 some false) (fun e_3=>
 some true)))
theorem Us {ListtoArray a a2 r} (h:mH ListtoArray a a2=some r):Call tab ow 255 [sl eEntry ListtoArray,I a,I a2] []=some (B r,[]):=by
 rw [aa (af:=tI) rfl]
 unfold mH at h
 simp+decide only [tI,HW,go_sem,reduceIte,Nat.reduceAdd]
 have d1:= @NP
 all_goals exact go
def mJ (s:System):Option (Bool):=
 (en s.Rows 1 5).bind fun r_=>
 br r_ (
 (en s.Cols 2 5).bind fun r_2=>
 br r_2 (
 br (decide (0≤(wrap .u64 (wrap .i64 (s.Cols-1))))) (
 (en s.Publics 0 (wrap .i64 ((aB .i64 1 (wrap .u64 (wrap .i64 (s.Cols-1))))-1))).bind fun r_3=>
 br r_3 (
 (mH s.A s.Rows s.Cols).bind fun r_4=>
 br r_4 (
 (mH s.B s.Rows s.Cols).bind fun r_5=>
 br r_5 (
 (mH s.C s.Rows s.Cols).bind fun r_6=>
 some r_6) (
 some false)) (
 some false)) (
 some false)) none) (
 some false)) (
 some false)
theorem FC {s r} (h:mJ s=some r):Call tab ow 136 [.agg [I s.Rows,I s.Cols,I s.Publics,sl eEntry s.A,sl eEntry s.B,sl eEntry s.C]] []=some (B r,[]):=by
 rw [aa (af:=rA) rfl]
 unfold mJ at h
 simp+decide only [rA,Ed,go_sem,reduceIte,Nat.reduceAdd]
 have d1:= @s5
 have d2:= @Us
 all_goals exact go
def pI (list2:List Int):Int→Option ((Int)⊕(Unit⊕(Int×Bool)))
 |i=>
  br (decide (i<((list2.length:Nat):Int))) (
  (atL list2 i).bind fun x=>
  (lb x).bind fun r_=>
  br (!r_) (
  some (.inr (.inl ()))) (
  some (.inl (wrap .i64 (i+1))))) (
  some (.inr (.inr (i,decide (i<((list2.length:Nat):Int))))))
abbrev zg (list2:List Int) (s:Int):St:=⟨[(0,sl eI list2),(3,I s)],[]⟩
abbrev yM (list2:List Int):(Unit⊕(Int×Bool))→ah×St:=alt (fun e=>((.ret,⟨[(2,B false)],[]⟩):ah×St)) (fun e=>(.exit 0,⟨[(0,sl eI list2),(3,I e.1),(7,B e.2)],[]⟩))
theorem Jn {list2 s e} (h:Loop (pI list2) s=some e):aq tab ow (.close [5004]) pB (zg list2 s)=some (yM list2 e):=by
 refine lrG (fun s o h=> ?_) h
 simp only [pI] at h
 simp+decide only [zg,yM,pB,go_sem,reduceIte,Nat.reduceAdd]
 have d1:= @Il
 all_goals exact go
def pg (list:(List Int)):Option (Bool):=
 (Loop (pI list) 0).bind (alt (fun e_2=>
 some false) (fun e_3=>
 some true))
theorem Oa {list r} (h:pg list=some r):Call tab ow 213 [sl eI list] []=some (B r,[]):=by
 rw [aa (af:=ov) rfl]
 unfold pg at h
 simp+decide only [ov,BQ,go_sem,reduceIte,Nat.reduceAdd]
 have d1:= @Jn
 all_goals exact go
def B8 (s:System) (t:Setting) (publics:(List Int)) (source:Source):Option (Int):=
 br (decide (((publics.length:Nat):Int)>4096)) (
 some 2) (
 (mJ s).bind fun r_=>
 br (!r_) (
 some 1) (
 (iS t).bind fun r_2=>
 br (!r_2) (
 some 1) (
 (pg publics).bind fun r_3=>
 br (!r_3) (
 some 1) (
 (sk source).bind fun r_4=>
 br (!r_4) (
 some 1) (
 br (((publics.length:Nat):Int) !=s.Publics) (
 some 17) (
 (yo source 200).bind fun r_5=>
 br r_5 (
 some 6) (
 some 0)))))))
theorem XJ {s t publics source r} (h:B8 s t publics source=some r):Call tab ow 110 [.agg [I s.Rows,I s.Cols,I s.Publics,sl eEntry s.A,sl eEntry s.B,sl eEntry s.C],.agg [I t.Rate,I t.Queries,I t.Grind],sl eI publics,.agg [sl eExt source.Script,I source.At,S source.State,I source.Count]] []=some (I r,[]):=by
 rw [aa (af:=xi) rfl]
 unfold B8 at h
 simp+decide only [xi,KC,go_sem,reduceIte,Nat.reduceAdd]
 have d1:= @FC
 have d2:= @uW
 have d3:= @Oa
 have d4:= @T7
 have d5:= @TF
 all_goals exact go
section
theorem Sn:mkR 2039 []=rws eExt []:=rfl
attribute [local go_sem] Sn
def nR (l:List Ext) (c:List UInt8) (c2:List (List Ext)) (c3 c4 c5 c6 c7 c8:Int) (c9:List (List Ext)) (c10 c11:Int) (c12:List (List Ext)) (c13:List (List UInt8)) (c14 c15 c16:Int) (c17:List Query) (c18 c19 c20:Int) (c21 c22 c23:List Entry) (c24 c25 c26:Int):Int→Option ((Int)⊕(Unit⊕(Int×Bool)))
 |t=>
  br (decide (t<((c2.length:Nat):Int))) (
  (atL c2 t).bind fun x=>
  br (((x.length:Nat):Int) !=4) (
  some (.inr (.inl ()))) (
  (atL c2 t).bind fun x2=>
  (gO x2).bind fun r_4=>
  br (!r_4) (
  some (.inr (.inl ()))) (
  some (.inl (wrap .i64 (t+1)))))) (
  some (.inr (.inr (t,decide (t<((c2.length:Nat):Int))))))
abbrev nW (l:List Ext) (c:List UInt8) (c2:List (List Ext)) (c3 c4 c5 c6 c7 c8:Int) (c9:List (List Ext)) (c10 c11:Int) (c12:List (List Ext)) (c13:List (List UInt8)) (c14 c15 c16:Int) (c17:List Query) (c18 c19 c20:Int) (c21 c22 c23:List Entry) (c24 c25 c26:Int):List (Nat×Blk):=[(1000,⟨17,true,[[S c,sl (eL eExt) c2,I c3,I c4,I c5,I c6,I c7,I c8,sl (eL eExt) c9,I c10,I c11,sl (eL eExt) c12,sl eS c13,I c14,I c15,I c16,sl eQuery c17]]⟩),(1001,⟨6,true,[[I c18,I c19,I c20,sl eEntry c21,sl eEntry c22,sl eEntry c23]]⟩),(1002,⟨3,true,[[I c24,I c25,I c26]]⟩),(2039,⟨2,false,rws eExt l⟩)]
abbrev Cf (l:List Ext) (c:List UInt8) (c2:List (List Ext)) (c3 c4 c5 c6 c7 c8:Int) (c9:List (List Ext)) (c10 c11:Int) (c12:List (List Ext)) (c13:List (List UInt8)) (c14 c15 c16:Int) (c17:List Query) (c18 c19 c20:Int) (c21 c22 c23:List Entry) (c24 c25 c26 s:Int):St:=⟨[(3,.ptr 1000 0 0 1),(4,.ptr 1001 0 0 1),(5,.ptr 1002 0 0 1),(7,I s)],nW l c c2 c3 c4 c5 c6 c7 c8 c9 c10 c11 c12 c13 c14 c15 c16 c17 c18 c19 c20 c21 c22 c23 c24 c25 c26⟩
abbrev Cw (l:List Ext) (c:List UInt8) (c2:List (List Ext)) (c3 c4 c5 c6 c7 c8:Int) (c9:List (List Ext)) (c10 c11:Int) (c12:List (List Ext)) (c13:List (List UInt8)) (c14 c15 c16:Int) (c17:List Query) (c18 c19 c20:Int) (c21 c22 c23:List Entry) (c24 c25 c26:Int):(Unit⊕(Int×Bool))→ah×St:=alt (fun e=>((.ret,⟨[(6,B false)],nW l c c2 c3 c4 c5 c6 c7 c8 c9 c10 c11 c12 c13 c14 c15 c16 c17 c18 c19 c20 c21 c22 c23 c24 c25 c26⟩):ah×St)) (fun e=>(.exit 0,⟨[(3,.ptr 1000 0 0 1),(4,.ptr 1001 0 0 1),(5,.ptr 1002 0 0 1),(7,I e.1),(56,B e.2)],nW l c c2 c3 c4 c5 c6 c7 c8 c9 c10 c11 c12 c13 c14 c15 c16 c17 c18 c19 c20 c21 c22 c23 c24 c25 c26⟩))
theorem NH {l c c2 c3 c4 c5 c6 c7 c8 c9 c10 c11 c12 c13 c14 c15 c16 c17 c18 c19 c20 c21 c22 c23 c24 c25 c26 s e} (h:Loop (nR l c c2 c3 c4 c5 c6 c7 c8 c9 c10 c11 c12 c13 c14 c15 c16 c17 c18 c19 c20 c21 c22 c23 c24 c25 c26) s=some e):aq tab ow (.close [7013]) v6 (Cf l c c2 c3 c4 c5 c6 c7 c8 c9 c10 c11 c12 c13 c14 c15 c16 c17 c18 c19 c20 c21 c22 c23 c24 c25 c26 s)=some (Cw l c c2 c3 c4 c5 c6 c7 c8 c9 c10 c11 c12 c13 c14 c15 c16 c17 c18 c19 c20 c21 c22 c23 c24 c25 c26 e):=by
 refine lrG (fun s o h=> ?_) h
 simp only [nR] at h
 simp+decide only [Cf,Cw,nW,v6,go_sem,reduceIte,Nat.reduceAdd]
 have d1:= @lc
 all_goals exact go
def ob (l2:List Ext) (c27:List UInt8) (c28:List (List Ext)) (c29 c30 c31 c32 c33 c34:Int) (c35:List (List Ext)) (c36 c37:Int) (c38:List (List Ext)) (c39:List (List UInt8)) (c40 c41 c42:Int) (c43:List Query) (c44 c45 c46:Int) (c47 c48 c49:List Entry) (c50 c51 c52:Int):Int→Option ((Int)⊕(Unit⊕(Int×Bool)))
 |t2=>
  br (decide (t2<((c35.length:Nat):Int))) (
  (atL c35 t2).bind fun x3=>
  br (((x3.length:Nat):Int) !=3) (
  some (.inr (.inl ()))) (
  (atL c35 t2).bind fun x4=>
  (gO x4).bind fun r_5=>
  br (!r_5) (
  some (.inr (.inl ()))) (
  some (.inl (wrap .i64 (t2+1)))))) (
  some (.inr (.inr (t2,decide (t2<((c35.length:Nat):Int))))))
abbrev o0 (l2:List Ext) (c27:List UInt8) (c28:List (List Ext)) (c29 c30 c31 c32 c33 c34:Int) (c35:List (List Ext)) (c36 c37:Int) (c38:List (List Ext)) (c39:List (List UInt8)) (c40 c41 c42:Int) (c43:List Query) (c44 c45 c46:Int) (c47 c48 c49:List Entry) (c50 c51 c52:Int):List (Nat×Blk):=[(1000,⟨17,true,[[S c27,sl (eL eExt) c28,I c29,I c30,I c31,I c32,I c33,I c34,sl (eL eExt) c35,I c36,I c37,sl (eL eExt) c38,sl eS c39,I c40,I c41,I c42,sl eQuery c43]]⟩),(1001,⟨6,true,[[I c44,I c45,I c46,sl eEntry c47,sl eEntry c48,sl eEntry c49]]⟩),(1002,⟨3,true,[[I c50,I c51,I c52]]⟩),(2039,⟨2,false,rws eExt l2⟩)]
abbrev Ci (l2:List Ext) (c27:List UInt8) (c28:List (List Ext)) (c29 c30 c31 c32 c33 c34:Int) (c35:List (List Ext)) (c36 c37:Int) (c38:List (List Ext)) (c39:List (List UInt8)) (c40 c41 c42:Int) (c43:List Query) (c44 c45 c46:Int) (c47 c48 c49:List Entry) (c50 c51 c52 s:Int):St:=⟨[(3,.ptr 1000 0 0 1),(4,.ptr 1001 0 0 1),(5,.ptr 1002 0 0 1),(8,I s)],o0 l2 c27 c28 c29 c30 c31 c32 c33 c34 c35 c36 c37 c38 c39 c40 c41 c42 c43 c44 c45 c46 c47 c48 c49 c50 c51 c52⟩
abbrev D4 (l2:List Ext) (c27:List UInt8) (c28:List (List Ext)) (c29 c30 c31 c32 c33 c34:Int) (c35:List (List Ext)) (c36 c37:Int) (c38:List (List Ext)) (c39:List (List UInt8)) (c40 c41 c42:Int) (c43:List Query) (c44 c45 c46:Int) (c47 c48 c49:List Entry) (c50 c51 c52:Int):(Unit⊕(Int×Bool))→ah×St:=alt (fun e=>((.ret,⟨[(6,B false)],o0 l2 c27 c28 c29 c30 c31 c32 c33 c34 c35 c36 c37 c38 c39 c40 c41 c42 c43 c44 c45 c46 c47 c48 c49 c50 c51 c52⟩):ah×St)) (fun e=>(.exit 2,⟨[(3,.ptr 1000 0 0 1),(4,.ptr 1001 0 0 1),(5,.ptr 1002 0 0 1),(8,I e.1),(79,B e.2)],o0 l2 c27 c28 c29 c30 c31 c32 c33 c34 c35 c36 c37 c38 c39 c40 c41 c42 c43 c44 c45 c46 c47 c48 c49 c50 c51 c52⟩))
theorem NG {l2 c27 c28 c29 c30 c31 c32 c33 c34 c35 c36 c37 c38 c39 c40 c41 c42 c43 c44 c45 c46 c47 c48 c49 c50 c51 c52 s e} (h:Loop (ob l2 c27 c28 c29 c30 c31 c32 c33 c34 c35 c36 c37 c38 c39 c40 c41 c42 c43 c44 c45 c46 c47 c48 c49 c50 c51 c52) s=some e):aq tab ow (.close [12013]) vx (Ci l2 c27 c28 c29 c30 c31 c32 c33 c34 c35 c36 c37 c38 c39 c40 c41 c42 c43 c44 c45 c46 c47 c48 c49 c50 c51 c52 s)=some (D4 l2 c27 c28 c29 c30 c31 c32 c33 c34 c35 c36 c37 c38 c39 c40 c41 c42 c43 c44 c45 c46 c47 c48 c49 c50 c51 c52 e):=by
 refine lrG (fun s o h=> ?_) h
 simp only [ob] at h
 simp+decide only [Ci,D4,o0,vx,go_sem,reduceIte,Nat.reduceAdd]
 have d1:= @lc
 all_goals exact go
def ws (ListtoArray:Proof) (a:System) (a2:Setting):Option (Bool):=
 (mJ a).bind fun r_=>
 br (!r_) (
 some false) (
 (iS a2).bind fun r_2=>
 br (!r_2) (
 some false) (
 br (((ListtoArray.Root.length:Nat):Int) !=32) (
 some false) (
 br (((ListtoArray.Gates.length:Nat):Int) !=a.Rows) (
 some false) (
 br (((ListtoArray.Wires.length:Nat):Int) !=a.Cols) (
 some false) (
 (gO ([ListtoArray.VA,ListtoArray.VB,ListtoArray.VC,ListtoArray.VW]:List Ext)).bind fun r_3=>
 br (!r_3) (
 some false) (
 (Loop (nR ([ListtoArray.VA,ListtoArray.VB,ListtoArray.VC,ListtoArray.VW]:List Ext) ListtoArray.Root ListtoArray.Gates ListtoArray.VA.A ListtoArray.VA.B ListtoArray.VB.A ListtoArray.VB.B ListtoArray.VC.A ListtoArray.VC.B ListtoArray.Wires ListtoArray.VW.A ListtoArray.VW.B ListtoArray.Open.Rounds ListtoArray.Open.Roots ListtoArray.Open.Last.A ListtoArray.Open.Last.B ListtoArray.Open.Nonce ListtoArray.Open.Queries a.Rows a.Cols a.Publics a.A a.B a.C a2.Rate a2.Queries a2.Grind) 0).bind (alt (fun e_2=>
 some false) (fun e_3=>
 (Loop (ob ([ListtoArray.VA,ListtoArray.VB,ListtoArray.VC,ListtoArray.VW]:List Ext) ListtoArray.Root ListtoArray.Gates ListtoArray.VA.A ListtoArray.VA.B ListtoArray.VB.A ListtoArray.VB.B ListtoArray.VC.A ListtoArray.VC.B ListtoArray.Wires ListtoArray.VW.A ListtoArray.VW.B ListtoArray.Open.Rounds ListtoArray.Open.Roots ListtoArray.Open.Last.A ListtoArray.Open.Last.B ListtoArray.Open.Nonce ListtoArray.Open.Queries a.Rows a.Cols a.Publics a.A a.B a.C a2.Rate a2.Queries a2.Grind) 0).bind (alt (fun e_5=>
 some false) (fun e_6=>
 (ph ListtoArray.Open (wrap .i64 (a.Cols-1)) a2).bind fun r_6=>
 some r_6))))))))))
theorem Wh {ListtoArray a a2 r} (h:ws ListtoArray a a2=some r):Call tab ow 111 [.agg [S ListtoArray.Root,sl (eL eExt) ListtoArray.Gates,I ListtoArray.VA.A,I ListtoArray.VA.B,I ListtoArray.VB.A,I ListtoArray.VB.B,I ListtoArray.VC.A,I ListtoArray.VC.B,sl (eL eExt) ListtoArray.Wires,I ListtoArray.VW.A,I ListtoArray.VW.B,sl (eL eExt) ListtoArray.Open.Rounds,sl eS ListtoArray.Open.Roots,I ListtoArray.Open.Last.A,I ListtoArray.Open.Last.B,I ListtoArray.Open.Nonce,sl eQuery ListtoArray.Open.Queries],.agg [I a.Rows,I a.Cols,I a.Publics,sl eEntry a.A,sl eEntry a.B,sl eEntry a.C],.agg [I a2.Rate,I a2.Queries,I a2.Grind]] []=some (B r,[]):=by
 rw [aa (af:=tT) rfl]
 unfold ws at h
 simp+decide only [tT,I3,go_sem,reduceIte,Nat.reduceAdd]
 have d1:= @FC
 have d2:= @uW
 have d3:= @lc
 have d4:= @NH
 have d5:= @NG
 have d6:= @OZ
 all_goals exact go
end
section
theorem Nq:mkR 2009 []=rws eU8 []:=rfl
attribute [local go_sem] Nq
theorem Mp:mkR 3006 []=rws (eL eEntry) []:=rfl
attribute [local go_sem] Mp
theorem LX:mkR 12007 []=rws eU8 []:=rfl
attribute [local go_sem] LX
def er (l3:List UInt8) (l4:List (List Entry)) (t4 c7 c8 c9:Int) (c10 c11 c12:List Entry):(List UInt8)×Int→Option (((List UInt8)×Int)⊕(((List UInt8)×Int×Bool)))
 | (t3,t5)=>
   br (decide (0≤t4)) (
   br (decide (t4.toNat<l4.length)) (
   (l4[t4.toNat]?).bind fun x2=>
   br (decide (t5<((x2.length:Nat):Int))) (
   br (decide (0≤t4)) (
   br (decide (t4.toNat<l4.length)) (
   (l4[t4.toNat]?).bind fun x3=>
   (atL x3 t5).bind fun x4=>
   (de x4.Value 4).bind fun r_2=>
   br (bW (([(UInt8.ofInt x4.Row),(UInt8.ofInt x4.Col)]:List UInt8).length+r_2.length) 1) (
   br (bW (t3.length+(([(UInt8.ofInt x4.Row),(UInt8.ofInt x4.Col)]:List UInt8)++r_2).length) 1) (
   some (.inl ((t3++(([(UInt8.ofInt x4.Row),(UInt8.ofInt x4.Col)]:List UInt8)++r_2)),(wrap .i64 (t5+1))))) none) none) none) none) (
   some (.inr (t3,t5,decide (t5<((x2.length:Nat):Int)))))) none) none
abbrev pX (l3:List UInt8) (l4:List (List Entry)) (c7 c8 c9:Int) (c10 c11 c12:List Entry):List (Nat×Blk):=[(1000,⟨6,true,[[I c7,I c8,I c9,sl eEntry c10,sl eEntry c11,sl eEntry c12]]⟩),(2009,⟨1,false,rws eU8 l3⟩),(3006,⟨1,false,rws (eL eEntry) l4⟩)]
abbrev ze (l3:List UInt8) (l4:List (List Entry)) (t4 c7 c8 c9:Int) (c10 c11 c12:List Entry) (s:(List UInt8)×Int):St:=⟨[(3,S s.1),(4,.sl 3006 0 l4.length),(5,I t4),(6,I s.2)],pX l3 l4 c7 c8 c9 c10 c11 c12⟩
abbrev yJ (l3:List UInt8) (l4:List (List Entry)) (t4 c7 c8 c9:Int) (c10 c11 c12:List Entry):((List UInt8)×Int×Bool)→ah×St:=fun e=>(.exit 2,⟨[(3,S e.1),(4,.sl 3006 0 l4.length),(5,I t4),(6,I e.2.1),(46,B e.2.2)],pX l3 l4 c7 c8 c9 c10 c11 c12⟩)
theorem Jz {l3 l4 t4 c7 c8 c9 c10 c11 c12 s e} (h:Loop (er l3 l4 t4 c7 c8 c9 c10 c11 c12) s=some e):aq tab ow (.close [11007,12007,12011]) pL (ze l3 l4 t4 c7 c8 c9 c10 c11 c12 s)=some (yJ l3 l4 t4 c7 c8 c9 c10 c11 c12 e):=by
 refine lrG (fun s o h=> ?_) h
 obtain ⟨_,_⟩:=s
 simp only [er] at h
 simp+decide only [ze,yJ,pX,pL,go_sem,reduceIte,Nat.reduceAdd]
 have d1:= @eZ
 all_goals exact go
def fI (l:List UInt8) (l2:List (List Entry)) (c c2 c3:Int) (c4 c5 c6:List Entry):(List UInt8)×Int→Option (((List UInt8)×Int)⊕(((List UInt8)×Int×Bool)))
 | (t,t2)=>
   br (decide (t2<3)) (
   br (decide (0≤t2)) (
   br (decide (t2.toNat<l2.length)) (
   (l2[t2.toNat]?).bind fun x=>
   (de ((x.length:Nat):Int) 4).bind fun r_=>
   br (bW (t.length+r_.length) 1) (
   (Loop (er l l2 t2 c c2 c3 c4 c5 c6) ((t++r_),0)).bind fun e_=>
   some (.inl (e_.1,(wrap .i64 (t2+1))))) none) none) none) (
   some (.inr (t,t2,decide (t2<3))))
abbrev pr (l:List UInt8) (l2:List (List Entry)) (c c2 c3:Int) (c4 c5 c6:List Entry):List (Nat×Blk):=[(1000,⟨6,true,[[I c,I c2,I c3,sl eEntry c4,sl eEntry c5,sl eEntry c6]]⟩),(2009,⟨1,false,rws eU8 l⟩),(3006,⟨1,false,rws (eL eEntry) l2⟩)]
abbrev yF (l:List UInt8) (l2:List (List Entry)) (c c2 c3:Int) (c4 c5 c6:List Entry) (s:(List UInt8)×Int):St:=⟨[(3,S s.1),(4,.sl 3006 0 l2.length),(5,I s.2)],pr l l2 c c2 c3 c4 c5 c6⟩
abbrev z8 (l:List UInt8) (l2:List (List Entry)) (c c2 c3:Int) (c4 c5 c6:List Entry):((List UInt8)×Int×Bool)→ah×St:=fun e=>(.exit 0,⟨[(3,S e.1),(4,.sl 3006 0 l2.length),(5,I e.2.1),(28,B e.2.2)],pr l l2 c c2 c3 c4 c5 c6⟩)
theorem Jk {l l2 c c2 c3 c4 c5 c6 s e} (h:Loop (fI l l2 c c2 c3 c4 c5 c6) s=some e):aq tab ow (.close [7006,11007,12007,12011]) pE (yF l l2 c c2 c3 c4 c5 c6 s)=some (z8 l l2 c c2 c3 c4 c5 c6 e):=by
 refine lrG (fun s o h=> ?_) h
 obtain ⟨_,_⟩:=s
 simp only [fI] at h
 simp+decide only [yF,z8,pr,pE,go_sem,reduceIte,Nat.reduceAdd]
 have d1:= @eZ
 have d2:= @Jz
 all_goals exact go
def oL (ListtoArray:System):Option ((List UInt8)):=
 br (bW ((([115,121,115,116,101,109]:List UInt8)).length+([(UInt8.ofInt ListtoArray.Rows),(UInt8.ofInt ListtoArray.Cols),(UInt8.ofInt ListtoArray.Publics)]:List UInt8).length) 1) (
 (Loop (fI ([(UInt8.ofInt ListtoArray.Rows),(UInt8.ofInt ListtoArray.Cols),(UInt8.ofInt ListtoArray.Publics)]:List UInt8) ([ListtoArray.A,ListtoArray.B,ListtoArray.C]:List (List Entry)) ListtoArray.Rows ListtoArray.Cols ListtoArray.Publics ListtoArray.A ListtoArray.B ListtoArray.C) (((([115,121,115,116,101,109]:List UInt8))++([(UInt8.ofInt ListtoArray.Rows),(UInt8.ofInt ListtoArray.Cols),(UInt8.ofInt ListtoArray.Publics)]:List UInt8)),0)).bind fun e_2=>
 (gK e_2.1).bind fun r_3=>
 some r_3) none
theorem Oh {ListtoArray r} (h:oL ListtoArray=some r):Call tab ow 308 [.agg [I ListtoArray.Rows,I ListtoArray.Cols,I ListtoArray.Publics,sl eEntry ListtoArray.A,sl eEntry ListtoArray.B,sl eEntry ListtoArray.C]] []=some (S r,[]):=by
 rw [aa (af:=nH) rfl]
 unfold oL at h
 simp+decide only [nH,CX,go_sem,reduceIte,Nat.reduceAdd]
 have d1:= @Jk
 have d2:= @lu
 all_goals exact go
end
section
theorem NY:mkR 2011 []=rws eU8 []:=rfl
attribute [local go_sem] NY
def fj (l:List UInt8) (publics2:List Int) (c c2 c3:Int) (c4 c5 c6:List Entry) (c7 c8 c9:Int) (c10:List Ext) (c11:Int) (c12:List UInt8) (c13 c14:Int) (c15:List UInt8) (c16:Int):(List UInt8)×Int→Option (((List UInt8)×Int)⊕(((List UInt8)×Int×Bool)))
 | (text,i)=>
   br (decide (i<((publics2.length:Nat):Int))) (
   (atL publics2 i).bind fun x=>
   (de x 4).bind fun r_2=>
   br (bW (text.length+r_2.length) 1) (
   some (.inl ((text++r_2),(wrap .i64 (i+1))))) none) (
   some (.inr (text,i,decide (i<((publics2.length:Nat):Int)))))
abbrev sK (l:List UInt8) (c c2 c3:Int) (c4 c5 c6:List Entry) (c7 c8 c9:Int) (c10:List Ext) (c11:Int) (c12:List UInt8) (c13 c14:Int) (c15:List UInt8) (c16:Int):List (Nat×Blk):=[(1000,⟨6,true,[[I c,I c2,I c3,sl eEntry c4,sl eEntry c5,sl eEntry c6]]⟩),(1001,⟨3,true,[[I c7,I c8,I c9]]⟩),(1002,⟨4,true,[[sl eExt c10,I c11,S c12,I c13]]⟩),(1003,⟨4,true,[[.lit (.slice none 0 0),I c14,S c15,I c16]]⟩),(2011,⟨1,false,rws eU8 l⟩)]
abbrev A4 (l:List UInt8) (publics2:List Int) (c c2 c3:Int) (c4 c5 c6:List Entry) (c7 c8 c9:Int) (c10:List Ext) (c11:Int) (c12:List UInt8) (c13 c14:Int) (c15:List UInt8) (c16:Int) (s:(List UInt8)×Int):St:=⟨[(2,sl eI publics2),(7,.ptr 1002 0 0 1),(8,.ptr 1003 0 0 1),(9,S s.1),(10,I s.2)],sK l c c2 c3 c4 c5 c6 c7 c8 c9 c10 c11 c12 c13 c14 c15 c16⟩
abbrev zH (l:List UInt8) (publics2:List Int) (c c2 c3:Int) (c4 c5 c6:List Entry) (c7 c8 c9:Int) (c10:List Ext) (c11:Int) (c12:List UInt8) (c13 c14:Int) (c15:List UInt8) (c16:Int):((List UInt8)×Int×Bool)→ah×St:=fun e=>(.exit 0,⟨[(2,sl eI publics2),(7,.ptr 1002 0 0 1),(8,.ptr 1003 0 0 1),(9,S e.1),(10,I e.2.1),(28,B e.2.2)],sK l c c2 c3 c4 c5 c6 c7 c8 c9 c10 c11 c12 c13 c14 c15 c16⟩)
theorem MW {l publics2 c c2 c3 c4 c5 c6 c7 c8 c9 c10 c11 c12 c13 c14 c15 c16 s e} (h:Loop (fj l publics2 c c2 c3 c4 c5 c6 c7 c8 c9 c10 c11 c12 c13 c14 c15 c16) s=some e):aq tab ow (.close [6005]) sI (A4 l publics2 c c2 c3 c4 c5 c6 c7 c8 c9 c10 c11 c12 c13 c14 c15 c16 s)=some (zH l publics2 c c2 c3 c4 c5 c6 c7 c8 c9 c10 c11 c12 c13 c14 c15 c16 e):=by
 refine lrG (fun s o h=> ?_) h
 obtain ⟨_,_⟩:=s
 simp only [fj] at h
 simp+decide only [A4,zH,sK,sI,go_sem,reduceIte,Nat.reduceAdd]
 have d1:= @eZ
 all_goals exact go
def tf (s:System) (t:Setting) (publics:(List Int)) (source:Source):Option (Source):=
 (oL s).bind fun r_=>
 br (bW (r_.length+([(UInt8.ofInt t.Rate),(UInt8.ofInt t.Queries),(UInt8.ofInt t.Grind)]:List UInt8).length) 1) (
 (Loop (fj ([(UInt8.ofInt t.Rate),(UInt8.ofInt t.Queries),(UInt8.ofInt t.Grind)]:List UInt8) publics s.Rows s.Cols s.Publics s.A s.B s.C t.Rate t.Queries t.Grind source.Script source.At source.State source.Count 0 (([]:List UInt8)) 0) ((r_++([(UInt8.ofInt t.Rate),(UInt8.ofInt t.Queries),(UInt8.ofInt t.Grind)]:List UInt8)),0)).bind fun e_=>
 (fS source e_.1).bind fun r_3=>
 some r_3) none
theorem SB {s t publics source r} (h:tf s t publics source=some r):Call tab ow 214 [.agg [I s.Rows,I s.Cols,I s.Publics,sl eEntry s.A,sl eEntry s.B,sl eEntry s.C],.agg [I t.Rate,I t.Queries,I t.Grind],sl eI publics,.agg [sl eExt source.Script,I source.At,S source.State,I source.Count]] []=some (.agg [sl eExt r.Script,I r.At,S r.State,I r.Count],[]):=by
 rw [aa (af:=qV) rfl]
 unfold tf at h
 simp+decide only [qV,Ft,go_sem,reduceIte,Nat.reduceAdd]
 have d1:= @Oh
 have d2:= @MW
 have d3:= @jY
 all_goals exact go
end
section
theorem Ls:mkR 3000 []=rws eExt []:=rfl
attribute [local go_sem] Ls
theorem Mv:mkR 4000 []=rws eExt []:=rfl
attribute [local go_sem] Mv
theorem LW:mkR 10000 []=rws eExt []:=rfl
attribute [local go_sem] LW
theorem MX:mkR 17002 []=rws eExt []:=rfl
attribute [local go_sem] MX
theorem KG:mkR 12000 []=rws eExt []:=rfl
attribute [local go_sem] KG
def cg (ListtoArray2:Int) (t:List (List Ext)) (t2 c7 c8 c9:Int) (c10:List UInt8) (c11:Int):(List Ext)×Int×Int×Int×(List Ext)×Int×(List UInt8)×Int→Option (((List Ext)×Int×Int×Int×(List Ext)×Int×(List UInt8)×Int)⊕(((List Ext)×(List Ext)×Int×Int×(List Ext)×Int×(List UInt8)×Int×(List Ext)×Int×(List UInt8)×Int)⊕((List Ext)×(List Ext)×Int×Int×(List Ext)×Int×(List UInt8)×Int×(List Ext)×Int×(List UInt8)×Int)⊕((List Ext)×Int×Bool×Int×Int×(List Ext)×Int×(List UInt8)×Int)))
 | (l,t3,c,c2,c3,c4,c5,c6)=>
   br (decide (t3<t2)) (
   (atL t t3).bind fun x=>
   (oZ ListtoArray2).bind fun r_=>
   br (((x.length:Nat):Int) !=(wrap .i64 (r_+1))) (
   some (.inr (.inl (l,([]:List Ext),c,c2,c3,c4,c5,c6,c3,c4,c5,c6)))) (
   (atL x 0).bind fun x2=>
   (atL x 1).bind fun x3=>
   (eF x2 x3).bind fun r_2=>
   br (r_2.A==c) (
   br (r_2.B==c2) (
   (gM (Source.mk c3 c4 c5 c6) x).bind fun r_3=>
   (lf r_3).bind fun r_4=>
   (s9 x r_4.2).bind fun r_5=>
   br (bW ((l++([r_4.2]:List Ext)).length) 16) (
   some (.inl ((l++([r_4.2]:List Ext)),(wrap .i64 (t3+1)),r_5.A,r_5.B,r_4.1.Script,r_4.1.At,r_4.1.State,r_4.1.Count))) none) (
   some (.inr (.inr (.inl (l,([]:List Ext),c,c2,c3,c4,c5,c6,c3,c4,c5,c6)))))) (
   some (.inr (.inr (.inl (l,([]:List Ext),c,c2,c3,c4,c5,c6,c3,c4,c5,c6))))))) (
   some (.inr (.inr (.inr (l,t3,decide (t3<t2),c,c2,c3,c4,c5,c6)))))
abbrev pV (c7 c8 c9:Int) (c10:List UInt8) (c11:Int) (l:List Ext) (c c2:Int) (c3:List Ext) (c4:Int) (c5:List UInt8) (c6:Int):List (Nat×Blk):=[(1000,⟨2,true,[[I c,I c2]]⟩),(1001,⟨4,true,[[sl eExt c3,I c4,S c5,I c6]]⟩),(1003,⟨2,true,[[I c7,I c8]]⟩),(1004,⟨4,true,[[.lit (.slice none 0 0),I c9,S c10,I c11]]⟩),(4000,⟨2,false,rws eExt l⟩)]
abbrev z9 (ListtoArray2:Int) (t:List (List Ext)) (t2 c7 c8 c9:Int) (c10:List UInt8) (c11:Int) (s:(List Ext)×Int×Int×Int×(List Ext)×Int×(List UInt8)×Int):St:=⟨[(0,I ListtoArray2),(2,sl (eL eExt) t),(3,I t2),(6,.ptr 1000 0 0 1),(9,.ptr 1001 0 0 1),(11,.ptr 1003 0 0 1),(12,.ptr 1004 0 0 1),(14,.sl 4000 0 s.1.length),(15,I s.2.1)],pV c7 c8 c9 c10 c11 s.1 s.2.2.1 s.2.2.2.1 s.2.2.2.2.1 s.2.2.2.2.2.1 s.2.2.2.2.2.2.1 s.2.2.2.2.2.2.2⟩
abbrev yP (ListtoArray2:Int) (t:List (List Ext)) (t2 c7 c8 c9:Int) (c10:List UInt8) (c11:Int):(((List Ext)×(List Ext)×Int×Int×(List Ext)×Int×(List UInt8)×Int×(List Ext)×Int×(List UInt8)×Int)⊕((List Ext)×(List Ext)×Int×Int×(List Ext)×Int×(List UInt8)×Int×(List Ext)×Int×(List UInt8)×Int)⊕((List Ext)×Int×Bool×Int×Int×(List Ext)×Int×(List UInt8)×Int))→ah×St:=alt (fun e=>((.ret,⟨[(10,.sl 10000 0 e.2.1.length),(11,.ptr 1003 0 0 1),(12,.ptr 1004 0 0 1),(13,I 18)],[(1000,⟨2,true,[[I e.2.2.1,I e.2.2.2.1]]⟩),(1001,⟨4,true,[[sl eExt e.2.2.2.2.1,I e.2.2.2.2.2.1,S e.2.2.2.2.2.2.1,I e.2.2.2.2.2.2.2.1]]⟩),(1003,⟨2,true,[[I 0,I 0]]⟩),(1004,⟨4,true,[[sl eExt e.2.2.2.2.2.2.2.2.1,I e.2.2.2.2.2.2.2.2.2.1,S e.2.2.2.2.2.2.2.2.2.2.1,I e.2.2.2.2.2.2.2.2.2.2.2]]⟩),(4000,⟨2,false,rws eExt e.1⟩),(10000,⟨2,false,rws eExt e.2.1⟩)]⟩):ah×St)) (alt (fun e=>((.ret,⟨[(10,.sl 12000 0 e.2.1.length),(11,.ptr 1003 0 0 1),(12,.ptr 1004 0 0 1),(13,I 10)],[(1000,⟨2,true,[[I e.2.2.1,I e.2.2.2.1]]⟩),(1001,⟨4,true,[[sl eExt e.2.2.2.2.1,I e.2.2.2.2.2.1,S e.2.2.2.2.2.2.1,I e.2.2.2.2.2.2.2.1]]⟩),(1003,⟨2,true,[[I 0,I 0]]⟩),(1004,⟨4,true,[[sl eExt e.2.2.2.2.2.2.2.2.1,I e.2.2.2.2.2.2.2.2.2.1,S e.2.2.2.2.2.2.2.2.2.2.1,I e.2.2.2.2.2.2.2.2.2.2.2]]⟩),(4000,⟨2,false,rws eExt e.1⟩),(12000,⟨2,false,rws eExt e.2.1⟩)]⟩):ah×St)) (fun e=>(.exit 0,⟨[(0,I ListtoArray2),(2,sl (eL eExt) t),(3,I t2),(6,.ptr 1000 0 0 1),(9,.ptr 1001 0 0 1),(11,.ptr 1003 0 0 1),(12,.ptr 1004 0 0 1),(14,.sl 4000 0 e.1.length),(15,I e.2.1),(29,B e.2.2.1)],pV c7 c8 c9 c10 c11 e.1 e.2.2.2.1 e.2.2.2.2.1 e.2.2.2.2.2.1 e.2.2.2.2.2.2.1 e.2.2.2.2.2.2.2.1 e.2.2.2.2.2.2.2.2⟩)))
theorem JA {ListtoArray2 t t2 c7 c8 c9 c10 c11 s e} (h:Loop (cg ListtoArray2 t t2 c7 c8 c9 c10 c11) s=some e):aq tab ow (.close [9003,10000,11006,12000,13002,14001,14005,14006,16002,17002,17003]) pR (z9 ListtoArray2 t t2 c7 c8 c9 c10 c11 s)=some (yP ListtoArray2 t t2 c7 c8 c9 c10 c11 e):=by
 refine lrG (fun s o h=> ?_) h
 obtain ⟨_,_,_,_,_,_,_,_⟩:=s
 simp only [cg] at h
 simp+decide only [z9,yP,pV,pR,go_sem,reduceIte,Nat.reduceAdd]
 have d1:= @Px
 have d2:= @iT
 have d3:= @uq
 have d4:= @Az
 have d5:= @Hr
 all_goals exact go
def gR (ListtoArray:Int) (a:Ext) (a2:(List (List Ext))) (a3:Int) (a4:Source):Option ((List Ext)×Ext×Source×Int):=
 br (((a2.length:Nat):Int) !=a3) (
 some (([]:List Ext),(Ext.mk 0 0),a4,18)) (
 (Loop (cg ListtoArray a2 a3 0 0 0 (([]:List UInt8)) 0) (([]:List Ext),0,a.A,a.B,a4.Script,a4.At,a4.State,a4.Count)).bind (alt (fun e_2=>
 some (e_2.2.1,(Ext.mk 0 0),(Source.mk e_2.2.2.2.2.2.2.2.2.1 e_2.2.2.2.2.2.2.2.2.2.1 e_2.2.2.2.2.2.2.2.2.2.2.1 e_2.2.2.2.2.2.2.2.2.2.2.2),18)) (alt (fun e_3=>
 some (e_3.2.1,(Ext.mk 0 0),(Source.mk e_3.2.2.2.2.2.2.2.2.1 e_3.2.2.2.2.2.2.2.2.2.1 e_3.2.2.2.2.2.2.2.2.2.2.1 e_3.2.2.2.2.2.2.2.2.2.2.2),10)) (fun e_4=>
 some (e_4.1,(Ext.mk e_4.2.2.2.1 e_4.2.2.2.2.1),(Source.mk e_4.2.2.2.2.2.1 e_4.2.2.2.2.2.2.1 e_4.2.2.2.2.2.2.2.1 e_4.2.2.2.2.2.2.2.2),0)))))
theorem Pq {ListtoArray a a2 a3 a4 r} (h:gR ListtoArray a a2 a3 a4=some r):Call tab ow 216 [I ListtoArray,.agg [I a.A,I a.B],sl (eL eExt) a2,I a3,.agg [sl eExt a4.Script,I a4.At,S a4.State,I a4.Count]] []=some (.tup [sl eExt r.1,.agg [I r.2.1.A,I r.2.1.B],.agg [sl eExt r.2.2.1.Script,I r.2.2.1.At,S r.2.2.1.State,I r.2.2.1.Count],I r.2.2.2],[]):=by
 rw [aa (af:=ot) rfl]
 unfold gR at h
 simp+decide only [ot,CY,go_sem,reduceIte,Nat.reduceAdd]
 have d1:= @JA
 all_goals exact go
end
section
theorem Nt: ∀k,wi 3002 k [I (0:Int)]=rws eI (List.replicate k (0:Int)):=fun _=>H4 eI (0:Int) _ _
attribute [local go_sem] Nt
def ew (publics2 privates2:List Int) (half c c2 c3:Int) (c4 c5 c6:List Entry):(List Int)×Int→Option (((List Int)×Int)⊕(((List Int)×Int×Bool)))
 | (l,i)=>
   br (decide (i<((publics2.length:Nat):Int))) (
   (atL publics2 i).bind fun x2=>
   br (decide (0≤(wrap .i64 (1+i)))) (
   br (decide ((wrap .i64 (1+i)).toNat<l.length)) (
   (l[(wrap .i64 (1+i)).toNat]?).bind fun x3=>
   some (.inl ((l.set ((wrap .i64 (1+i)).toNat) x2),(wrap .i64 (i+1))))) none) none) (
   some (.inr (l,i,decide (i<((publics2.length:Nat):Int)))))
abbrev kn (c c2 c3:Int) (c4 c5 c6:List Entry) (l:List Int):List (Nat×Blk):=[(1000,⟨6,true,[[I c,I c2,I c3,sl eEntry c4,sl eEntry c5,sl eEntry c6]]⟩),(3002,⟨1,false,rws eI l⟩)]
abbrev pq (publics2 privates2:List Int) (half c c2 c3:Int) (c4 c5 c6:List Entry) (s:(List Int)×Int):St:=⟨[(1,sl eI publics2),(2,sl eI privates2),(7,I half),(8,.sl 3002 0 s.1.length),(9,I s.2)],kn c c2 c3 c4 c5 c6 s.1⟩
abbrev zt (publics2 privates2:List Int) (half c c2 c3:Int) (c4 c5 c6:List Entry):((List Int)×Int×Bool)→ah×St:=fun e=>(.exit 0,⟨[(1,sl eI publics2),(2,sl eI privates2),(7,I half),(8,.sl 3002 0 e.1.length),(9,I e.2.1),(24,B e.2.2)],kn c c2 c3 c4 c5 c6 e.1⟩)
theorem J1 {publics2 privates2 half c c2 c3 c4 c5 c6 s e} (h:Loop (ew publics2 privates2 half c c2 c3 c4 c5 c6) s=some e):aq tab ow (.close []) pQ (pq publics2 privates2 half c c2 c3 c4 c5 c6 s)=some (zt publics2 privates2 half c c2 c3 c4 c5 c6 e):=by
 refine lrG (fun s o h=> ?_) h
 obtain ⟨_,_⟩:=s
 simp only [ew] at h
 simp+decide only [pq,zt,kn,pQ,go_sem,reduceIte,Nat.reduceAdd]
 all_goals exact go
def eu (privates3:List Int) (half2 c7 c8 c9:Int) (c10 c11 c12:List Entry):(List Int)×Int→Option (((List Int)×Int)⊕(((List Int)×Int×Bool)))
 | (l2,i2)=>
   br (decide (i2<((privates3.length:Nat):Int))) (
   (atL privates3 i2).bind fun x4=>
   br (decide (0≤(wrap .i64 (half2+i2)))) (
   br (decide ((wrap .i64 (half2+i2)).toNat<l2.length)) (
   (l2[(wrap .i64 (half2+i2)).toNat]?).bind fun x5=>
   some (.inl ((l2.set ((wrap .i64 (half2+i2)).toNat) x4),(wrap .i64 (i2+1))))) none) none) (
   some (.inr (l2,i2,decide (i2<((privates3.length:Nat):Int)))))
abbrev pK (c7 c8 c9:Int) (c10 c11 c12:List Entry) (l2:List Int):List (Nat×Blk):=[(1000,⟨6,true,[[I c7,I c8,I c9,sl eEntry c10,sl eEntry c11,sl eEntry c12]]⟩),(3002,⟨1,false,rws eI l2⟩)]
abbrev yD (privates3:List Int) (half2 c7 c8 c9:Int) (c10 c11 c12:List Entry) (s:(List Int)×Int):St:=⟨[(2,sl eI privates3),(7,I half2),(8,.sl 3002 0 s.1.length),(10,I s.2)],pK c7 c8 c9 c10 c11 c12 s.1⟩
abbrev yH (privates3:List Int) (half2 c7 c8 c9:Int) (c10 c11 c12:List Entry):((List Int)×Int×Bool)→ah×St:=fun e=>(.exit 2,⟨[(2,sl eI privates3),(7,I half2),(8,.sl 3002 0 e.1.length),(10,I e.2.1),(38,B e.2.2)],pK c7 c8 c9 c10 c11 c12 e.1⟩)
theorem IV {privates3 half2 c7 c8 c9 c10 c11 c12 s e} (h:Loop (eu privates3 half2 c7 c8 c9 c10 c11 c12) s=some e):aq tab ow (.close []) pU (yD privates3 half2 c7 c8 c9 c10 c11 c12 s)=some (yH privates3 half2 c7 c8 c9 c10 c11 c12 e):=by
 refine lrG (fun s o h=> ?_) h
 obtain ⟨_,_⟩:=s
 simp only [eu] at h
 simp+decide only [yD,yH,pK,pU,go_sem,reduceIte,Nat.reduceAdd]
 all_goals exact go
def oJ (s:System) (publics privates:(List Int)):Option ((List Int)):=
 br (decide (0≤(wrap .u64 (wrap .i64 (s.Cols-1))))) (
 br (tF (wrap .i64 (2*(aB .i64 1 (wrap .u64 (wrap .i64 (s.Cols-1)))))) (wrap .i64 (2*(aB .i64 1 (wrap .u64 (wrap .i64 (s.Cols-1)))))) 8) (
 br (decide (0<(List.replicate ((wrap .i64 ((2:Int)*(aB .i64 (1:Int) (wrap .u64 (wrap .i64 (s.Cols-(1:Int))))))).toNat) (0:Int)).length)) (
 ((List.replicate ((wrap .i64 ((2:Int)*(aB .i64 (1:Int) (wrap .u64 (wrap .i64 (s.Cols-(1:Int))))))).toNat) (0:Int))[0]?).bind fun x=>
 (Loop (ew publics privates (aB .i64 (1:Int) (wrap .u64 (wrap .i64 (s.Cols-(1:Int))))) s.Rows s.Cols s.Publics s.A s.B s.C) (((List.replicate ((wrap .i64 ((2:Int)*(aB .i64 (1:Int) (wrap .u64 (wrap .i64 (s.Cols-(1:Int))))))).toNat) (0:Int)).set 0 (1:Int)),(0:Int))).bind fun e_=>
 (Loop (eu privates (aB .i64 1 (wrap .u64 (wrap .i64 (s.Cols-1)))) s.Rows s.Cols s.Publics s.A s.B s.C) (e_.1,0)).bind fun e_2=>
 some e_2.1) none) none) none
theorem OL {s publics privates r} (h:oJ s publics privates=some r):Call tab ow 248 [.agg [I s.Rows,I s.Cols,I s.Publics,sl eEntry s.A,sl eEntry s.B,sl eEntry s.C],sl eI publics,sl eI privates] []=some (sl eI r,[]):=by
 rw [aa (af:=om) rfl]
 unfold oJ at h
 simp+decide only [om,Cu,go_sem,reduceIte,Nat.reduceAdd]
 have d1:= @J1
 simp only [pq,kn] at d1
 have d2:= @IV
 all_goals exact go
end
section
theorem SN: ∀k,wi 2001 k [I (0:Int),I (0:Int)]=rws eExt (List.replicate k (Ext.mk (0:Int) (0:Int))):=fun _=>H4 eExt (Ext.mk (0:Int) (0:Int)) _ _
attribute [local go_sem] SN
def o5 (list2:List Int):(List Ext)×Int→Option (((List Ext)×Int)⊕(((List Ext)×Int×Bool)))
 | (l,i)=>
   br (decide (i<((list2.length:Nat):Int))) (
   (atL list2 i).bind fun x=>
   (lN x).bind fun r_=>
   br (decide (0≤i)) (
   br (decide (i.toNat<l.length)) (
   (l[i.toNat]?).bind fun x2=>
   some (.inl ((l.set i.toNat r_),(wrap .i64 (i+1))))) none) none) (
   some (.inr (l,i,decide (i<((list2.length:Nat):Int)))))
abbrev Dg (list2:List Int) (s:(List Ext)×Int):St:=⟨[(0,sl eI list2),(5,.sl 2001 0 s.1.length),(6,I s.2)],[(2001,⟨2,false,rws eExt s.1⟩)]⟩
abbrev Cj (list2:List Int):((List Ext)×Int×Bool)→ah×St:=fun e=>(.exit 0,⟨[(0,sl eI list2),(5,.sl 2001 0 e.1.length),(6,I e.2.1),(12,B e.2.2)],[(2001,⟨2,false,rws eExt e.1⟩)]⟩)
theorem Pe {list2 s e} (h:Loop (o5 list2) s=some e):aq tab ow (.close [6006]) vo (Dg list2 s)=some (Cj list2 e):=by
 refine lrG (fun s o h=> ?_) h
 obtain ⟨_,_⟩:=s
 simp only [o5] at h
 simp+decide only [Dg,Cj,vo,go_sem,reduceIte,Nat.reduceAdd]
 have d1:= @rU
 all_goals exact go
def vR (list:(List Int)) (n:Int):Option ((List Ext)):=
 br (tF n n 16) (
 (Loop (o5 list) ((List.replicate n.toNat (Ext.mk (0:Int) (0:Int))),(0:Int))).bind fun e_=>
 some e_.1) none
theorem WD {list n r} (h:vR list n=some r):Call tab ow 247 [sl eI list,I n] []=some (sl eExt r,[]):=by
 rw [aa (af:=tL) rfl]
 unfold vR at h
 simp+decide only [tL,Ir,go_sem,reduceIte,Nat.reduceAdd]
 have d1:= @Pe
 all_goals exact go
end
def li (table2 e_:List Ext) (c c2:Int):Int×Int×Int→Option ((Int×Int×Int)⊕((Int×Bool×Int×Int)))
 | (i,c3,c4)=>
   br (decide (i<((table2.length:Nat):Int))) (
   (atL table2 i).bind fun x=>
   (atL e_ i).bind fun x2=>
   (bN x x2).bind fun r_2=>
   (eF (Ext.mk c3 c4) r_2).bind fun r_3=>
   some (.inl ((wrap .i64 (i+1)),r_3.A,r_3.B))) (
   some (.inr (i,decide (i<((table2.length:Nat):Int)),c3,c4)))
abbrev zA (c c2 c3 c4:Int):List (Nat×Blk):=[(1000,⟨2,true,[[I c,I c2]]⟩),(3001,⟨2,true,[[I c3,I c4]]⟩)]
abbrev Hp (table2 e_:List Ext) (c c2:Int) (s:Int×Int×Int):St:=⟨[(0,sl eExt table2),(4,.ptr 1000 0 0 1),(5,sl eExt e_),(6,.ptr 3001 0 0 1),(7,I s.1)],zA c c2 s.2.1 s.2.2⟩
abbrev Im (table2 e_:List Ext) (c c2:Int):(Int×Bool×Int×Int)→ah×St:=fun e=>(.exit 0,⟨[(0,sl eExt table2),(4,.ptr 1000 0 0 1),(5,sl eExt e_),(6,.ptr 3001 0 0 1),(7,I e.1),(14,B e.2.1)],zA c c2 e.2.2.1 e.2.2.2⟩)
theorem WR {table2 e_ c c2 s e} (h:Loop (li table2 e_ c c2) s=some e):aq tab ow (.close [7009,7010]) Au (Hp table2 e_ c c2 s)=some (Im table2 e_ c c2 e):=by
 refine lrG (fun s o h=> ?_) h
 obtain ⟨_,_,_⟩:=s
 simp only [li] at h
 simp+decide only [Hp,Im,zA,Au,go_sem,reduceIte,Nat.reduceAdd]
 have d1:= @fX
 have d2:= @iT
 all_goals exact go
def xr (table point:(List Ext)):Option (Ext):=
 (BD point).bind fun r_=>
 (Loop (li table r_ 0 0) (0,0,0)).bind fun e_2=>
 some (Ext.mk e_2.2.2.1 e_2.2.2.2)
theorem PQ {table point r} (h:xr table point=some r):Call tab ow 220 [sl eExt table,sl eExt point] []=some (.agg [I r.A,I r.B],[]):=by
 rw [aa (af:=Bz) rfl]
 unfold xr at h
 simp+decide only [Bz,Qe,go_sem,reduceIte,Nat.reduceAdd]
 have d1:= @PE
 have d2:= @WR
 all_goals exact go
section
theorem L7:mkR 2002 []=rws eI []:=rfl
attribute [local go_sem] L7
def oX (s:System) (publics:(List Int)) (point:(List Ext)):Option (Ext):=
 (oJ s publics ([]:List Int)).bind fun r_=>
 br (decide (0≤(wrap .u64 (wrap .i64 (s.Cols-1))))) (
 (ny r_ 0 (aB .i64 1 (wrap .u64 (wrap .i64 (s.Cols-1))))).bind fun y=>
 br (decide (0≤(wrap .u64 (wrap .i64 (s.Cols-1))))) (
 (vR y (aB .i64 1 (wrap .u64 (wrap .i64 (s.Cols-1))))).bind fun r_2=>
 (xr r_2 point).bind fun r_3=>
 some r_3) none) none
theorem Pr {s publics point r} (h:oX s publics point=some r):Call tab ow 219 [.agg [I s.Rows,I s.Cols,I s.Publics,sl eEntry s.A,sl eEntry s.B,sl eEntry s.C],sl eI publics,sl eExt point] []=some (.agg [I r.A,I r.B],[]):=by
 rw [aa (af:=oo) rfl]
 unfold oX at h
 simp+decide only [oo,Cy,go_sem,reduceIte,Nat.reduceAdd]
 have d1:= @OL
 have d2:= @WD
 have d3:= @PQ
 all_goals exact go
end
end
end Go.AI.Fn
