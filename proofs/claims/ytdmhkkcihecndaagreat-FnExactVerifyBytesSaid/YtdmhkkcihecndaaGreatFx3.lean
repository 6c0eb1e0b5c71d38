/- Walks through the program, with open values. -/
import Derived.Test.YtdmhkkcihecndaaGreatFx2
import Derived.Test.YtdmhkkcihecndaaGreatTb2
set_option linter.unusedVariables false
set_option linter.unusedSimpArgs false
set_option maxRecDepth 100000
set_option maxHeartbeats 1000000
namespace Go.AI.Fn
noncomputable section
open IntKind (wrap)
section
theorem zy:mkR 2000 []=rws eU8 []:=rfl
attribute [local go_sem] zy
theorem zu:mkR 2011 []=rws eU8 []:=rfl
attribute [local go_sem] zu
theorem zG:mkR 10007 []=rws eU8 []:=rfl
attribute [local go_sem] zG
def ci (l2:List UInt8) (t t2 t3:List Entry) (t4:Int) (t5:List Entry) (t6 c c2 c3:Int) (c4 c5 c6:List Entry):(List UInt8)×Int→Option (((List UInt8)×Int)⊕(((List UInt8)×Int×Bool)))
 | (l,t7)=>
   br (decide (t7<t6)) (
   (atL t5 t7).bind fun x=>
   br (bE ((l++([(UInt8.ofInt x.Row),(UInt8.ofInt x.Col)]:List UInt8)).length) 1) (
   (iQ x.Value (l++([(UInt8.ofInt x.Row),(UInt8.ofInt x.Col)]:List UInt8))).bind fun r_3=>
   some (.inl (r_3,(wrap .i64 (t7+1))))) none) (
   some (.inr (l,t7,decide (t7<t6))))
abbrev iT (l2:List UInt8) (c c2 c3:Int) (c4 c5 c6:List Entry) (l:List UInt8):List (Nat×Blk):=[(1000,⟨6,true,[[I c,I c2,I c3,sl eEntry c4,sl eEntry c5,sl eEntry c6]]⟩),(2000,⟨1,false,rws eU8 l⟩),(2011,⟨1,false,rws eU8 l2⟩)]
abbrev nE (l2:List UInt8) (t t2 t3:List Entry) (t4:Int) (t5:List Entry) (t6 c c2 c3:Int) (c4 c5 c6:List Entry) (s:(List UInt8)×Int):St:=⟨[(3,.sl 2000 0 s.1.length),(22,.agg [sl eEntry t,sl eEntry t2,sl eEntry t3]),(23,I t4),(30,sl eEntry t5),(31,I t6),(32,I s.2)],iT l2 c c2 c3 c4 c5 c6 s.1⟩
abbrev nG (l2:List UInt8) (t t2 t3:List Entry) (t4:Int) (t5:List Entry) (t6 c c2 c3:Int) (c4 c5 c6:List Entry):((List UInt8)×Int×Bool)→ag×St:=fun e=>(.exit 2,⟨[(3,.sl 2000 0 e.1.length),(22,.agg [sl eEntry t,sl eEntry t2,sl eEntry t3]),(23,I t4),(30,sl eEntry t5),(31,I t6),(32,I e.2.1),(33,B e.2.2)],iT l2 c c2 c3 c4 c5 c6 e.1⟩)
theorem yx {l2 t t2 t3 t4 t5 t6 c c2 c3 c4 c5 c6 s e} (h:Loop (ci l2 t t2 t3 t4 t5 t6 c c2 c3 c4 c5 c6) s=some e):aq tab ow (.close [9002,10007,10008,10011]) cF (nE l2 t t2 t3 t4 t5 t6 c c2 c3 c4 c5 c6 s)=some (nG l2 t t2 t3 t4 t5 t6 c c2 c3 c4 c5 c6 e):=by
 refine lrG (fun s o h=> ?_) h
 obtain ⟨_,_⟩:=s
 simp only [ci] at h
 simp only [nE,nG,iT,cF,fh]
 have d1:= @kn
 exact go2
def fg (l4:List UInt8) (t8 t9 t10:List Entry) (t11:Int) (t12:List Entry) (t13 c7 c8 c9:Int) (c10 c11 c12:List Entry):(List UInt8)×Int→Option (((List UInt8)×Int)⊕(((List UInt8)×Int×Bool)))
 | (l3,t14)=>
   br (decide (t14<t13)) (
   (atL t12 t14).bind fun x2=>
   br (bE ((l3++([(UInt8.ofInt x2.Row),(UInt8.ofInt x2.Col)]:List UInt8)).length) 1) (
   (iQ x2.Value (l3++([(UInt8.ofInt x2.Row),(UInt8.ofInt x2.Col)]:List UInt8))).bind fun r_5=>
   some (.inl (r_5,(wrap .i64 (t14+1))))) none) (
   some (.inr (l3,t14,decide (t14<t13))))
abbrev iO (l4:List UInt8) (c7 c8 c9:Int) (c10 c11 c12:List Entry) (l3:List UInt8):List (Nat×Blk):=[(1000,⟨6,true,[[I c7,I c8,I c9,sl eEntry c10,sl eEntry c11,sl eEntry c12]]⟩),(2000,⟨1,false,rws eU8 l3⟩),(2011,⟨1,false,rws eU8 l4⟩)]
abbrev nJ (l4:List UInt8) (t8 t9 t10:List Entry) (t11:Int) (t12:List Entry) (t13 c7 c8 c9:Int) (c10 c11 c12:List Entry) (s:(List UInt8)×Int):St:=⟨[(3,.sl 2000 0 s.1.length),(22,.agg [sl eEntry t8,sl eEntry t9,sl eEntry t10]),(23,I t11),(30,sl eEntry t12),(31,I t13),(32,I s.2)],iO l4 c7 c8 c9 c10 c11 c12 s.1⟩
abbrev nL (l4:List UInt8) (t8 t9 t10:List Entry) (t11:Int) (t12:List Entry) (t13 c7 c8 c9:Int) (c10 c11 c12:List Entry):((List UInt8)×Int×Bool)→ag×St:=fun e=>(.exit 2,⟨[(3,.sl 2000 0 e.1.length),(22,.agg [sl eEntry t8,sl eEntry t9,sl eEntry t10]),(23,I t11),(30,sl eEntry t12),(31,I t13),(32,I e.2.1),(33,B e.2.2)],iO l4 c7 c8 c9 c10 c11 c12 e.1⟩)
theorem yB {l4 t8 t9 t10 t11 t12 t13 c7 c8 c9 c10 c11 c12 s e} (h:Loop (fg l4 t8 t9 t10 t11 t12 t13 c7 c8 c9 c10 c11 c12) s=some e):aq tab ow (.close [9002,10007,10008,10011]) cF (nJ l4 t8 t9 t10 t11 t12 t13 c7 c8 c9 c10 c11 c12 s)=some (nL l4 t8 t9 t10 t11 t12 t13 c7 c8 c9 c10 c11 c12 e):=by
 refine lrG (fun s o h=> ?_) h
 obtain ⟨_,_⟩:=s
 simp only [fg] at h
 simp only [nJ,nL,iO,cF,fh]
 have d1:= @kn
 exact go2
def fb (l6:List UInt8) (t15 t16 t17:List Entry) (t18:Int) (t19:List Entry) (t20 c13 c14 c15:Int) (c16 c17 c18:List Entry):(List UInt8)×Int→Option (((List UInt8)×Int)⊕(((List UInt8)×Int×Bool)))
 | (l5,t21)=>
   br (decide (t21<t20)) (
   (atL t19 t21).bind fun x3=>
   br (bE ((l5++([(UInt8.ofInt x3.Row),(UInt8.ofInt x3.Col)]:List UInt8)).length) 1) (
   (iQ x3.Value (l5++([(UInt8.ofInt x3.Row),(UInt8.ofInt x3.Col)]:List UInt8))).bind fun r_7=>
   some (.inl (r_7,(wrap .i64 (t21+1))))) none) (
   some (.inr (l5,t21,decide (t21<t20))))
abbrev iN (l6:List UInt8) (c13 c14 c15:Int) (c16 c17 c18:List Entry) (l5:List UInt8):List (Nat×Blk):=[(1000,⟨6,true,[[I c13,I c14,I c15,sl eEntry c16,sl eEntry c17,sl eEntry c18]]⟩),(2000,⟨1,false,rws eU8 l5⟩),(2011,⟨1,false,rws eU8 l6⟩)]
abbrev nR (l6:List UInt8) (t15 t16 t17:List Entry) (t18:Int) (t19:List Entry) (t20 c13 c14 c15:Int) (c16 c17 c18:List Entry) (s:(List UInt8)×Int):St:=⟨[(3,.sl 2000 0 s.1.length),(22,.agg [sl eEntry t15,sl eEntry t16,sl eEntry t17]),(23,I t18),(30,sl eEntry t19),(31,I t20),(32,I s.2)],iN l6 c13 c14 c15 c16 c17 c18 s.1⟩
abbrev nN (l6:List UInt8) (t15 t16 t17:List Entry) (t18:Int) (t19:List Entry) (t20 c13 c14 c15:Int) (c16 c17 c18:List Entry):((List UInt8)×Int×Bool)→ag×St:=fun e=>(.exit 2,⟨[(3,.sl 2000 0 e.1.length),(22,.agg [sl eEntry t15,sl eEntry t16,sl eEntry t17]),(23,I t18),(30,sl eEntry t19),(31,I t20),(32,I e.2.1),(33,B e.2.2)],iN l6 c13 c14 c15 c16 c17 c18 e.1⟩)
theorem yz {l6 t15 t16 t17 t18 t19 t20 c13 c14 c15 c16 c17 c18 s e} (h:Loop (fb l6 t15 t16 t17 t18 t19 t20 c13 c14 c15 c16 c17 c18) s=some e):aq tab ow (.close [9002,10007,10008,10011]) cF (nR l6 t15 t16 t17 t18 t19 t20 c13 c14 c15 c16 c17 c18 s)=some (nN l6 t15 t16 t17 t18 t19 t20 c13 c14 c15 c16 c17 c18 e):=by
 refine lrG (fun s o h=> ?_) h
 obtain ⟨_,_⟩:=s
 simp only [fb] at h
 simp only [nR,nN,iN,cF,fh]
 have d1:= @kn
 exact go2
def fD (s:System):Option ((List UInt8)):=
 br (bE ((([(115:UInt8),(121:UInt8),(115:UInt8),(116:UInt8),(101:UInt8),(109:UInt8)]:List UInt8)++([(UInt8.ofInt s.Rows),(UInt8.ofInt s.Cols),(UInt8.ofInt s.Publics)]:List UInt8)).length) 1) (
 (dj s).bind fun r_=>
 (iQ ((r_.1.length:Nat):Int) (([(115:UInt8),(121:UInt8),(115:UInt8),(116:UInt8),(101:UInt8),(109:UInt8)]:List UInt8)++([(UInt8.ofInt s.Rows),(UInt8.ofInt s.Cols),(UInt8.ofInt s.Publics)]:List UInt8))).bind fun r_2=>
 (Loop (ci ([(UInt8.ofInt s.Rows),(UInt8.ofInt s.Cols),(UInt8.ofInt s.Publics)]:List UInt8) r_.1 r_.2.1 r_.2.2 0 r_.1 ((r_.1.length:Nat):Int) s.Rows s.Cols s.Publics s.A s.B s.C) (r_2,0)).bind fun e_=>
 (iQ ((r_.2.1.length:Nat):Int) e_.1).bind fun r_4=>
 (Loop (fg ([(UInt8.ofInt s.Rows),(UInt8.ofInt s.Cols),(UInt8.ofInt s.Publics)]:List UInt8) r_.1 r_.2.1 r_.2.2 1 r_.2.1 ((r_.2.1.length:Nat):Int) s.Rows s.Cols s.Publics s.A s.B s.C) (r_4,0)).bind fun e_2=>
 (iQ ((r_.2.2.length:Nat):Int) e_2.1).bind fun r_6=>
 (Loop (fb ([(UInt8.ofInt s.Rows),(UInt8.ofInt s.Cols),(UInt8.ofInt s.Publics)]:List UInt8) r_.1 r_.2.1 r_.2.2 2 r_.2.2 ((r_.2.2.length:Nat):Int) s.Rows s.Cols s.Publics s.A s.B s.C) (r_6,0)).bind fun e_3=>
 some e_3.1) none
theorem Bg {s r} (h:fD s=some r):Call tab ow 349 [.agg [I s.Rows,I s.Cols,I s.Publics,sl eEntry s.A,sl eEntry s.B,sl eEntry s.C]] []=some (sl eU8 r,[]):=by
 rw [ab (af:=gH) rfl]
 unfold fD at h
 simp+decide only [gH,gz,go_sem,reduceIte,Nat.reduceAdd,Int.reduceAdd,Int.reduceMul,Int.reduceSub]
 obtain ⟨hb,h⟩:=brg h
 refine GV hb ?_
 obtain ⟨r_,h1,h⟩:=bd h
 refine uf (lL h1) ?_
 simp+decide only [go_sem,reduceIte,Nat.reduceAdd,Int.reduceAdd,Int.reduceMul,Int.reduceSub]
 refine gZ ?_
 simp+decide only [mkL,go_sem,reduceIte,Nat.reduceAdd,Int.reduceAdd,Int.reduceMul,Int.reduceSub]
 obtain ⟨r_2,h1,h⟩:=bd h
 refine uf (kn h1) ?_
 simp+decide only [go_sem,reduceIte,Nat.reduceAdd,Int.reduceAdd,Int.reduceMul,Int.reduceSub]
 obtain ⟨e_,h1,h⟩:=bd h
 refine H9 (yx h1) ?_
 simp+decide only [go_sem,reduceIte,Nat.reduceAdd,Int.reduceAdd,Int.reduceMul,Int.reduceSub]
 refine gZ ?_
 simp+decide only [mkL,go_sem,reduceIte,Nat.reduceAdd,Int.reduceAdd,Int.reduceMul,Int.reduceSub]
 obtain ⟨r_4,h1,h⟩:=bd h
 refine uf (kn h1) ?_
 simp+decide only [go_sem,reduceIte,Nat.reduceAdd,Int.reduceAdd,Int.reduceMul,Int.reduceSub]
 obtain ⟨e_2,h1,h⟩:=bd h
 refine H9 (yB h1) ?_
 simp+decide only [go_sem,reduceIte,Nat.reduceAdd,Int.reduceAdd,Int.reduceMul,Int.reduceSub]
 refine gZ ?_
 simp+decide only [mkL,go_sem,reduceIte,Nat.reduceAdd,Int.reduceAdd,Int.reduceMul,Int.reduceSub]
 obtain ⟨r_6,h1,h⟩:=bd h
 refine uf (kn h1) ?_
 simp+decide only [go_sem,reduceIte,Nat.reduceAdd,Int.reduceAdd,Int.reduceMul,Int.reduceSub]
 obtain ⟨e_3,h1,h⟩:=bd h
 refine H9 (yz h1) ?_
 simp+decide only [go_sem,reduceIte,Nat.reduceAdd,Int.reduceAdd,Int.reduceMul,Int.reduceSub]
 refine gZ ?_
 simp+decide only [mkL,go_sem,reduceIte,Nat.reduceAdd,Int.reduceAdd,Int.reduceMul,Int.reduceSub]
 obtain rfl:=Option.some.inj h
 first|rfl| (simp only [List.length_set,go_sem];done)
end
section
theorem Qq:mkR 2002 []=rws (eL eU8) []:=rfl
attribute [local go_sem] Qq
theorem Pc:mkR 2014 []=rws eU8 []:=rfl
attribute [local go_sem] Pc
def fm (l:List (List UInt8)) (l3:List UInt8) (t2:List Int) (t3 c c2 c3:Int) (c4 c5 c6:List Entry) (c7 c8 c9:Int):(List UInt8)×Int→Option (((List UInt8)×Int)⊕(((List UInt8)×Int×Bool)))
 | (l2,t4)=>
   br (decide (t4<t3)) (
   (atL t2 t4).bind fun x=>
   (iQ x l2).bind fun r_3=>
   some (.inl (r_3,(wrap .i64 (t4+1))))) (
   some (.inr (l2,t4,decide (t4<t3))))
abbrev rW (l:List (List UInt8)) (l3:List UInt8) (c c2 c3:Int) (c4 c5 c6:List Entry) (c7 c8 c9:Int) (l2:List UInt8):List (Nat×Blk):=[(1000,⟨6,true,[[I c,I c2,I c3,sl eEntry c4,sl eEntry c5,sl eEntry c6]]⟩),(1001,⟨3,true,[[I c7,I c8,I c9]]⟩),(2002,⟨1,false,rws (eL eU8) l⟩),(2004,⟨1,false,rws eU8 l2⟩),(2014,⟨1,false,rws eU8 l3⟩)]
abbrev B5 (l:List (List UInt8)) (l3:List UInt8) (t2:List Int) (t3 c c2 c3:Int) (c4 c5 c6:List Entry) (c7 c8 c9:Int) (s:(List UInt8)×Int):St:=⟨[(7,.sl 2004 0 s.1.length),(26,sl eI t2),(27,I t3),(28,I s.2)],rW l l3 c c2 c3 c4 c5 c6 c7 c8 c9 s.1⟩
abbrev Ak (l:List (List UInt8)) (l3:List UInt8) (t2:List Int) (t3 c c2 c3:Int) (c4 c5 c6:List Entry) (c7 c8 c9:Int):((List UInt8)×Int×Bool)→ag×St:=fun e=>(.exit 0,⟨[(7,.sl 2004 0 e.1.length),(26,sl eI t2),(27,I t3),(28,I e.2.1),(29,B e.2.2)],rW l l3 c c2 c3 c4 c5 c6 c7 c8 c9 e.1⟩)
theorem Me {l l3 t2 t3 c c2 c3 c4 c5 c6 c7 c8 c9 s e} (h:Loop (fm l l3 t2 t3 c c2 c3 c4 c5 c6 c7 c8 c9) s=some e):aq tab ow (.close [6002]) Ap (B5 l l3 t2 t3 c c2 c3 c4 c5 c6 c7 c8 c9 s)=some (Ak l l3 t2 t3 c c2 c3 c4 c5 c6 c7 c8 c9 e):=by
 refine lrG (fun s o h=> ?_) h
 obtain ⟨_,_⟩:=s
 simp only [fm] at h
 simp only [B5,Ak,rW,Ap,Av]
 have d1:= @kn
 exact go2
def ra (s:System) (t:Setting) (publics:(List Int)):Option ((List UInt8)):=
 (fD s).bind fun r_=>
 (ou ([r_]:List (List UInt8))).bind fun r_2=>
 br (bE r_2.length 1) (
 br (bE ((r_2++([(UInt8.ofInt t.Rate),(UInt8.ofInt t.Queries),(UInt8.ofInt t.Grind)]:List UInt8)).length) 1) (
 (Loop (fm ([r_]:List (List UInt8)) ([(UInt8.ofInt t.Rate),(UInt8.ofInt t.Queries),(UInt8.ofInt t.Grind)]:List UInt8) publics ((publics.length:Nat):Int) s.Rows s.Cols s.Publics s.A s.B s.C t.Rate t.Queries t.Grind) ((r_2++([(UInt8.ofInt t.Rate),(UInt8.ofInt t.Queries),(UInt8.ofInt t.Grind)]:List UInt8)),0)).bind fun e_=>
 some e_.1) none) none
theorem R9 {s t publics r} (h:ra s t publics=some r):Call tab ow 312 [.agg [I s.Rows,I s.Cols,I s.Publics,sl eEntry s.A,sl eEntry s.B,sl eEntry s.C],.agg [I t.Rate,I t.Queries,I t.Grind],sl eI publics] []=some (sl eU8 r,[]):=by
 rw [ab (af:=qF) rfl]
 unfold ra at h
 simp only [qF,xb]
 have d1:= @Bg
 have d2:= @uF
 have d3:= @Me
 exact go2
end
def Kz (a:Int):Option (Unit):=
 some ()
theorem Ym {a r} (h:Kz a=some r):Call tab ow 313 [I a] []=some (.tup [],[]):=by
 rw [ab (af:=wi) rfl]
 unfold Kz at h
 simp only [wi,LI]
 exact go2
section
theorem rB:mkR 2000 []=rws eExt []:=rfl
attribute [local go_sem] rB
theorem re:mkR 12005 []=rws eExt []:=rfl
attribute [local go_sem] re
def aG (kind2:Int) (t:List (List Ext)) (t2 c7 c8:Int):(List Ext)×Int×(List Ext)×Int×(List UInt8)×Int×Int×Int→Option (((List Ext)×Int×(List Ext)×Int×(List UInt8)×Int×Int×Int)⊕(((List Ext)×Int×(List Ext)×Int×(List UInt8)×Int×Int×Int)⊕((List Ext)×Int×Bool×(List Ext)×Int×(List UInt8)×Int×Int×Int)))
 | (l,t3,c,c2,c3,c4,c5,c6)=>
   br (decide (t3<t2)) (
   (atL t t3).bind fun x=>
   (nl kind2).bind fun r_=>
   br (((x.length:Nat):Int) !=(wrap .i64 (r_+1))) (
   some (.inr (.inl (l,18,c,c2,c3,c4,c5,c6)))) (
   (atL x 0).bind fun x2=>
   (atL x 1).bind fun x3=>
   (dx x2 x3).bind fun r_2=>
   br (r_2.A==c5) (
   br (r_2.B==c6) (
   (bu x (Source.mk c c2 c3 c4)).bind fun r_3=>
   (fU r_3).bind fun r_4=>
   (xK x r_4.1).bind fun r_5=>
   br (bE ((l++([r_4.1]:List Ext)).length) 16) (
   (Kz t3).bind fun r_6=>
   some (.inl ((l++([r_4.1]:List Ext)),(wrap .i64 (t3+1)),r_4.2.Script,r_4.2.At,r_4.2.State,r_4.2.Count,r_5.A,r_5.B))) none) (
   some (.inr (.inl (l,10,c,c2,c3,c4,c5,c6))))) (
   some (.inr (.inl (l,10,c,c2,c3,c4,c5,c6)))))) (
   some (.inr (.inr (l,t3,decide (t3<t2),c,c2,c3,c4,c5,c6))))
abbrev ez (c7 c8:Int) (l c:List Ext) (c2:Int) (c3:List UInt8) (c4 c5 c6:Int):List (Nat×Blk):=[(0,⟨4,true,[[sl eExt c,I c2,S c3,I c4]]⟩),(1000,⟨2,true,[[I c5,I c6]]⟩),(1002,⟨2,true,[[I c7,I c8]]⟩),(2000,⟨2,false,rws eExt l⟩)]
abbrev iM (kind2:Int) (t:List (List Ext)) (t2 c7 c8:Int) (s:(List Ext)×Int×(List Ext)×Int×(List UInt8)×Int×Int×Int):St:=⟨[(0,.ptr 0 0 0 1),(1,I kind2),(4,.fn 313 []),(7,.ptr 1000 0 0 1),(11,.ptr 1002 0 0 1),(13,.sl 2000 0 s.1.length),(18,sl (eL eExt) t),(19,I t2),(20,I s.2.1)],ez c7 c8 s.1 s.2.2.1 s.2.2.2.1 s.2.2.2.2.1 s.2.2.2.2.2.1 s.2.2.2.2.2.2.1 s.2.2.2.2.2.2.2⟩
abbrev iX (kind2:Int) (t:List (List Ext)) (t2 c7 c8:Int):(((List Ext)×Int×(List Ext)×Int×(List UInt8)×Int×Int×Int)⊕((List Ext)×Int×Bool×(List Ext)×Int×(List UInt8)×Int×Int×Int))→ag×St:=alt (fun e=>((.ret,⟨[(10,.lit (.slice none 0 0)),(11,.ptr 1002 0 0 1),(12,I e.2.1)],[(0,⟨4,true,[[sl eExt e.2.2.1,I e.2.2.2.1,S e.2.2.2.2.1,I e.2.2.2.2.2.1]]⟩),(1000,⟨2,true,[[I e.2.2.2.2.2.2.1,I e.2.2.2.2.2.2.2]]⟩),(1002,⟨2,true,[[I 0,I 0]]⟩),(2000,⟨2,false,rws eExt e.1⟩)]⟩):ag×St)) (fun e=>(.exit 0,⟨[(0,.ptr 0 0 0 1),(1,I kind2),(4,.fn 313 []),(7,.ptr 1000 0 0 1),(11,.ptr 1002 0 0 1),(13,.sl 2000 0 e.1.length),(18,sl (eL eExt) t),(19,I t2),(20,I e.2.1),(21,B e.2.2.1)],ez c7 c8 e.1 e.2.2.2.1 e.2.2.2.2.1 e.2.2.2.2.2.1 e.2.2.2.2.2.2.1 e.2.2.2.2.2.2.2.1 e.2.2.2.2.2.2.2.2⟩))
theorem pm {kind2 t t2 c7 c8 s e} (h:Loop (aG kind2 t t2 c7 c8) s=some e):aq tab ow (.close [6003,8006,10002,11001,11002,12002,12005,12006,13002]) fN (iM kind2 t t2 c7 c8 s)=some (iX kind2 t t2 c7 c8 e):=by
 refine lrG (fun s o h=> ?_) h
 obtain ⟨_,_,_,_,_,_,_,_⟩:=s
 simp only [aG] at h
 simp only [iM,iX,ez,fN,je]
 have d1:= @IL
 have d2:= @eH
 have d3:= @gI
 have d4:= @rU
 have d5:= @O3
 have d6:= @Ym
 exact go2
def bm (kind:Int) (claim:Ext) (rounds:(List (List Ext))) (m:Source):Option ((List Ext)×Ext×Int×Source):=
 (Loop (aG kind rounds ((rounds.length:Nat):Int) 0 0) (([]:List Ext),0,m.Script,m.At,m.State,m.Count,claim.A,claim.B)).bind (alt (fun e_2=>
 some (([]:List Ext),(Ext.mk 0 0),e_2.2.1,(Source.mk e_2.2.2.1 e_2.2.2.2.1 e_2.2.2.2.2.1 e_2.2.2.2.2.2.1))) (fun e_3=>
 some (e_3.1,(Ext.mk e_3.2.2.2.2.2.2.2.1 e_3.2.2.2.2.2.2.2.2),0,(Source.mk e_3.2.2.2.1 e_3.2.2.2.2.1 e_3.2.2.2.2.2.1 e_3.2.2.2.2.2.2.1))))
theorem rR {kind claim rounds m r} (h:bm kind claim rounds m=some r):Call tab ow 187 [.ptr 0 0 0 1,I kind,.agg [I claim.A,I claim.B],sl (eL eExt) rounds,.fn 313 []] [⟨4,true,[[sl eExt m.Script,I m.At,S m.State,I m.Count]]⟩]=some (.tup [sl eExt r.1,.agg [I r.2.1.A,I r.2.1.B],I r.2.2.1],[⟨4,true,[[sl eExt r.2.2.2.Script,I r.2.2.2.At,S r.2.2.2.State,I r.2.2.2.Count]]⟩]):=by
 rw [ab (af:=dA) rfl]
 unfold bm at h
 simp only [dA,hJ]
 have d1:= @pm
 exact go2
end
section
theorem MK: ∀k,Bh 2003 k [I (0:Int),I (0:Int)]=rws eExt (List.replicate k (Ext.mk (0:Int) (0:Int))):=fun _=>Ng eExt (Ext.mk (0:Int) (0:Int)) _ _
attribute [local go_sem] MK
def eD (rows:List Ext) (t t2 t3:List Entry) (t4:Int) (t5:List Entry) (t6 c c2 c3:Int) (c4 c5 c6:List Entry) (c7 c8 c9 c10 c11 c12:Int):(List Ext)×Int→Option (((List Ext)×Int)⊕(((List Ext)×Int×Bool)))
 | (l,t7)=>
   br (decide (t7<t6)) (
   (atL t5 t7).bind fun x=>
   br (decide (0≤x.Col)) (
   br (decide (x.Col.toNat<l.length)) (
   (l[x.Col.toNat]?).bind fun x2=>
   (atL rows x.Row).bind fun x3=>
   (bC (Ext.mk c7 c8) x3).bind fun r_3=>
   (eF r_3 x.Value).bind fun r_4=>
   (dx x2 r_4).bind fun r_5=>
   br (decide (0≤x.Col)) (
   br (decide (x.Col.toNat<l.length)) (
   (l[x.Col.toNat]?).bind fun x4=>
   some (.inl ((l.set x.Col.toNat r_5),(wrap .i64 (t7+1))))) none) none) none) none) (
   some (.inr (l,t7,decide (t7<t6))))
abbrev pv (c c2 c3:Int) (c4 c5 c6:List Entry) (c7 c8 c9 c10 c11 c12:Int) (l:List Ext):List (Nat×Blk):=[(1000,⟨6,true,[[I c,I c2,I c3,sl eEntry c4,sl eEntry c5,sl eEntry c6]]⟩),(1001,⟨6,true,[[I c7,I c8,I c9,I c10,I c11,I c12]]⟩),(2003,⟨2,false,rws eExt l⟩)]
abbrev ye (rows:List Ext) (t t2 t3:List Entry) (t4:Int) (t5:List Entry) (t6 c c2 c3:Int) (c4 c5 c6:List Entry) (c7 c8 c9 c10 c11 c12:Int) (s:(List Ext)×Int):St:=⟨[(5,.ptr 1001 0 0 1),(7,.sl 2003 0 s.1.length),(8,sl eExt rows),(9,I 0),(20,.agg [sl eEntry t,sl eEntry t2,sl eEntry t3]),(21,I t4),(25,sl eEntry t5),(26,I t6),(27,I s.2)],pv c c2 c3 c4 c5 c6 c7 c8 c9 c10 c11 c12 s.1⟩
abbrev xG (rows:List Ext) (t t2 t3:List Entry) (t4:Int) (t5:List Entry) (t6 c c2 c3:Int) (c4 c5 c6:List Entry) (c7 c8 c9 c10 c11 c12:Int):((List Ext)×Int×Bool)→ag×St:=fun e=>(.exit 2,⟨[(5,.ptr 1001 0 0 1),(7,.sl 2003 0 e.1.length),(8,sl eExt rows),(9,I 0),(20,.agg [sl eEntry t,sl eEntry t2,sl eEntry t3]),(21,I t4),(25,sl eEntry t5),(26,I t6),(27,I e.2.1),(28,B e.2.2)],pv c c2 c3 c4 c5 c6 c7 c8 c9 c10 c11 c12 e.1⟩)
theorem Kn {rows t t2 t3 t4 t5 t6 c c2 c3 c4 c5 c6 c7 c8 c9 c10 c11 c12 s e} (h:Loop (eD rows t t2 t3 t4 t5 t6 c c2 c3 c4 c5 c6 c7 c8 c9 c10 c11 c12) s=some e):aq tab ow (.close [8002,9016,9019,9020]) g9 (ye rows t t2 t3 t4 t5 t6 c c2 c3 c4 c5 c6 c7 c8 c9 c10 c11 c12 s)=some (xG rows t t2 t3 t4 t5 t6 c c2 c3 c4 c5 c6 c7 c8 c9 c10 c11 c12 e):=by
 refine lrG (fun s o h=> ?_) h
 obtain ⟨_,_⟩:=s
 simp only [eD] at h
 simp only [ye,xG,pv,g9,li]
 have d1:= @cP
 have d2:= @kw
 have d3:= @eH
 exact go2
def kV (rows2:List Ext) (t8 t9 t10 t11:List Entry) (t12 c13 c14 c15:Int) (c16 c17 c18:List Entry) (c19 c20 c21 c22 c23 c24:Int):(List Ext)×Int→Option (((List Ext)×Int)⊕(((List Ext)×Int×Bool)))
 | (l2,t13)=>
   br (decide (t13<t12)) (
   (atL t11 t13).bind fun x5=>
   br (decide (0≤x5.Col)) (
   br (decide (x5.Col.toNat<l2.length)) (
   (l2[x5.Col.toNat]?).bind fun x6=>
   (atL rows2 x5.Row).bind fun x7=>
   (bC (Ext.mk c21 c22) x7).bind fun r_6=>
   (eF r_6 x5.Value).bind fun r_7=>
   (dx x6 r_7).bind fun r_8=>
   br (decide (0≤x5.Col)) (
   br (decide (x5.Col.toNat<l2.length)) (
   (l2[x5.Col.toNat]?).bind fun x8=>
   some (.inl ((l2.set x5.Col.toNat r_8),(wrap .i64 (t13+1))))) none) none) none) none) (
   some (.inr (l2,t13,decide (t13<t12))))
abbrev oU (c13 c14 c15:Int) (c16 c17 c18:List Entry) (c19 c20 c21 c22 c23 c24:Int) (l2:List Ext):List (Nat×Blk):=[(1000,⟨6,true,[[I c13,I c14,I c15,sl eEntry c16,sl eEntry c17,sl eEntry c18]]⟩),(1001,⟨6,true,[[I c19,I c20,I c21,I c22,I c23,I c24]]⟩),(2003,⟨2,false,rws eExt l2⟩)]
abbrev yu (rows2:List Ext) (t8 t9 t10 t11:List Entry) (t12 c13 c14 c15:Int) (c16 c17 c18:List Entry) (c19 c20 c21 c22 c23 c24:Int) (s:(List Ext)×Int):St:=⟨[(5,.ptr 1001 0 0 1),(7,.sl 2003 0 s.1.length),(8,sl eExt rows2),(9,I 1),(20,.agg [sl eEntry t8,sl eEntry t9,sl eEntry t10]),(21,I 1),(25,sl eEntry t11),(26,I t12),(27,I s.2)],oU c13 c14 c15 c16 c17 c18 c19 c20 c21 c22 c23 c24 s.1⟩
abbrev yE (rows2:List Ext) (t8 t9 t10 t11:List Entry) (t12 c13 c14 c15:Int) (c16 c17 c18:List Entry) (c19 c20 c21 c22 c23 c24:Int):((List Ext)×Int×Bool)→ag×St:=fun e=>(.exit 2,⟨[(5,.ptr 1001 0 0 1),(7,.sl 2003 0 e.1.length),(8,sl eExt rows2),(9,I 1),(20,.agg [sl eEntry t8,sl eEntry t9,sl eEntry t10]),(21,I 1),(25,sl eEntry t11),(26,I t12),(27,I e.2.1),(28,B e.2.2)],oU c13 c14 c15 c16 c17 c18 c19 c20 c21 c22 c23 c24 e.1⟩)
theorem JT {rows2 t8 t9 t10 t11 t12 c13 c14 c15 c16 c17 c18 c19 c20 c21 c22 c23 c24 s e} (h:Loop (kV rows2 t8 t9 t10 t11 t12 c13 c14 c15 c16 c17 c18 c19 c20 c21 c22 c23 c24) s=some e):aq tab ow (.close [8002,9016,9019,9020]) g9 (yu rows2 t8 t9 t10 t11 t12 c13 c14 c15 c16 c17 c18 c19 c20 c21 c22 c23 c24 s)=some (yE rows2 t8 t9 t10 t11 t12 c13 c14 c15 c16 c17 c18 c19 c20 c21 c22 c23 c24 e):=by
 refine lrG (fun s o h=> ?_) h
 obtain ⟨_,_⟩:=s
 simp only [kV] at h
 simp only [yu,yE,oU,g9,li]
 have d1:= @cP
 have d2:= @kw
 have d3:= @eH
 exact go2
def kS (rows3:List Ext) (t14 t15 t16 t17:List Entry) (t18 c25 c26 c27:Int) (c28 c29 c30:List Entry) (c31 c32 c33 c34 c35 c36:Int):(List Ext)×Int→Option (((List Ext)×Int)⊕(((List Ext)×Int×Bool)))
 | (l3,t19)=>
   br (decide (t19<t18)) (
   (atL t17 t19).bind fun x9=>
   br (decide (0≤x9.Col)) (
   br (decide (x9.Col.toNat<l3.length)) (
   (l3[x9.Col.toNat]?).bind fun x10=>
   (atL rows3 x9.Row).bind fun x11=>
   (bC (Ext.mk c35 c36) x11).bind fun r_9=>
   (eF r_9 x9.Value).bind fun r_10=>
   (dx x10 r_10).bind fun r_11=>
   br (decide (0≤x9.Col)) (
   br (decide (x9.Col.toNat<l3.length)) (
   (l3[x9.Col.toNat]?).bind fun x12=>
   some (.inl ((l3.set x9.Col.toNat r_11),(wrap .i64 (t19+1))))) none) none) none) none) (
   some (.inr (l3,t19,decide (t19<t18))))
abbrev pg (c25 c26 c27:Int) (c28 c29 c30:List Entry) (c31 c32 c33 c34 c35 c36:Int) (l3:List Ext):List (Nat×Blk):=[(1000,⟨6,true,[[I c25,I c26,I c27,sl eEntry c28,sl eEntry c29,sl eEntry c30]]⟩),(1001,⟨6,true,[[I c31,I c32,I c33,I c34,I c35,I c36]]⟩),(2003,⟨2,false,rws eExt l3⟩)]
abbrev yd (rows3:List Ext) (t14 t15 t16 t17:List Entry) (t18 c25 c26 c27:Int) (c28 c29 c30:List Entry) (c31 c32 c33 c34 c35 c36:Int) (s:(List Ext)×Int):St:=⟨[(5,.ptr 1001 0 0 1),(7,.sl 2003 0 s.1.length),(8,sl eExt rows3),(9,I 2),(20,.agg [sl eEntry t14,sl eEntry t15,sl eEntry t16]),(21,I 2),(25,sl eEntry t17),(26,I t18),(27,I s.2)],pg c25 c26 c27 c28 c29 c30 c31 c32 c33 c34 c35 c36 s.1⟩
abbrev xJ (rows3:List Ext) (t14 t15 t16 t17:List Entry) (t18 c25 c26 c27:Int) (c28 c29 c30:List Entry) (c31 c32 c33 c34 c35 c36:Int):((List Ext)×Int×Bool)→ag×St:=fun e=>(.exit 2,⟨[(5,.ptr 1001 0 0 1),(7,.sl 2003 0 e.1.length),(8,sl eExt rows3),(9,I 2),(20,.agg [sl eEntry t14,sl eEntry t15,sl eEntry t16]),(21,I 2),(25,sl eEntry t17),(26,I t18),(27,I e.2.1),(28,B e.2.2)],pg c25 c26 c27 c28 c29 c30 c31 c32 c33 c34 c35 c36 e.1⟩)
theorem KD {rows3 t14 t15 t16 t17 t18 c25 c26 c27 c28 c29 c30 c31 c32 c33 c34 c35 c36 s e} (h:Loop (kS rows3 t14 t15 t16 t17 t18 c25 c26 c27 c28 c29 c30 c31 c32 c33 c34 c35 c36) s=some e):aq tab ow (.close [8002,9016,9019,9020]) g9 (yd rows3 t14 t15 t16 t17 t18 c25 c26 c27 c28 c29 c30 c31 c32 c33 c34 c35 c36 s)=some (xJ rows3 t14 t15 t16 t17 t18 c25 c26 c27 c28 c29 c30 c31 c32 c33 c34 c35 c36 e):=by
 refine lrG (fun s o h=> ?_) h
 obtain ⟨_,_⟩:=s
 simp only [kS] at h
 simp only [yd,xJ,pg,g9,li]
 have d1:= @cP
 have d2:= @kw
 have d3:= @eH
 exact go2
def ob (s:System) (rx:(List Ext)) (by_:(Ext×Ext×Ext)):Option ((List Ext)):=
 br (decide (0≤s.Cols)) (
 br (xU (aD .i64 1 s.Cols) (aD .i64 1 s.Cols) 16) (
 (oR rx).bind fun r_=>
 (dj s).bind fun r_2=>
 (Loop (eD r_ r_2.1 r_2.2.1 r_2.2.2 (0:Int) r_2.1 ((r_2.1.length:Nat):Int) s.Rows s.Cols s.Publics s.A s.B s.C by_.1.A by_.1.B by_.2.1.A by_.2.1.B by_.2.2.A by_.2.2.B) ((List.replicate ((aD .i64 (1:Int) s.Cols).toNat) (Ext.mk (0:Int) (0:Int))),(0:Int))).bind fun e_=>
 (Loop (kV r_ r_2.1 r_2.2.1 r_2.2.2 r_2.2.1 ((r_2.2.1.length:Nat):Int) s.Rows s.Cols s.Publics s.A s.B s.C by_.1.A by_.1.B by_.2.1.A by_.2.1.B by_.2.2.A by_.2.2.B) (e_.1,0)).bind fun e_2=>
 (Loop (kS r_ r_2.1 r_2.2.1 r_2.2.2 r_2.2.2 ((r_2.2.2.length:Nat):Int) s.Rows s.Cols s.Publics s.A s.B s.C by_.1.A by_.1.B by_.2.1.A by_.2.1.B by_.2.2.A by_.2.2.B) (e_2.1,0)).bind fun e_3=>
 some e_3.1) none) none
theorem OA {s rx by_ r} (h:ob s rx by_=some r):Call tab ow 315 [.agg [I s.Rows,I s.Cols,I s.Publics,sl eEntry s.A,sl eEntry s.B,sl eEntry s.C],sl eExt rx,.agg [I by_.1.A,I by_.1.B,I by_.2.1.A,I by_.2.1.B,I by_.2.2.A,I by_.2.2.B]] []=some (sl eExt r,[]):=by
 rw [ab (af:=o3) rfl]
 unfold ob at h
 simp+decide only [o3,ov,go_sem,reduceIte,Nat.reduceAdd,Int.reduceAdd,Int.reduceMul,Int.reduceSub]
 obtain ⟨hb,h⟩:=brg h
 refine GV hb ?_
 obtain ⟨hb,h⟩:=brg h
 refine GV hb ?_
 obtain ⟨r_,h1,h⟩:=bd h
 refine le (BF h1) ?_
 simp+decide only [go_sem,reduceIte,Nat.reduceAdd,Int.reduceAdd,Int.reduceMul,Int.reduceSub]
 obtain ⟨r_2,h1,h⟩:=bd h
 refine uf (lL h1) ?_
 simp+decide only [go_sem,reduceIte,Nat.reduceAdd,Int.reduceAdd,Int.reduceMul,Int.reduceSub]
 refine gZ ?_
 simp+decide only [mkL,go_sem,reduceIte,Nat.reduceAdd,Int.reduceAdd,Int.reduceMul,Int.reduceSub]
 obtain ⟨e_,h1,h⟩:=bd h
 refine H9 (Kn h1) ?_
 simp+decide only [go_sem,reduceIte,Nat.reduceAdd,Int.reduceAdd,Int.reduceMul,Int.reduceSub]
 refine gZ ?_
 simp+decide only [mkL,go_sem,reduceIte,Nat.reduceAdd,Int.reduceAdd,Int.reduceMul,Int.reduceSub]
 obtain ⟨e_2,h1,h⟩:=bd h
 refine H9 (JT h1) ?_
 simp+decide only [go_sem,reduceIte,Nat.reduceAdd,Int.reduceAdd,Int.reduceMul,Int.reduceSub]
 refine gZ ?_
 simp+decide only [mkL,go_sem,reduceIte,Nat.reduceAdd,Int.reduceAdd,Int.reduceMul,Int.reduceSub]
 obtain ⟨e_3,h1,h⟩:=bd h
 refine H9 (KD h1) ?_
 simp+decide only [go_sem,reduceIte,Nat.reduceAdd,Int.reduceAdd,Int.reduceMul,Int.reduceSub]
 refine gZ ?_
 simp+decide only [mkL,go_sem,reduceIte,Nat.reduceAdd,Int.reduceAdd,Int.reduceMul,Int.reduceSub]
 obtain rfl:=Option.some.inj h
 first|rfl| (simp only [List.length_set,go_sem];done)
end
section
theorem GJ: ∀k,Bh 2003 k [I (0:Int)]=rws eI (List.replicate k (0:Int)):=fun _=>Ng eI (0:Int) _ _
attribute [local go_sem] GJ
def jA (s:System) (publics privates:(List Int)):Option ((List Int)):=
 br (decide (0≤s.Cols)) (
 br (xU (aD .i64 1 s.Cols) (aD .i64 1 s.Cols) 8) (
 br (decide (0<(List.replicate ((aD .i64 (1:Int) s.Cols).toNat) (0:Int)).length)) (
 ((List.replicate ((aD .i64 (1:Int) s.Cols).toNat) (0:Int))[0]?).bind fun x=>
 br (decide ((1:Int)≤(((List.replicate ((aD .i64 (1:Int) s.Cols).toNat) (0:Int)).length:Nat):Int))) (
 br (decide (1+((List.replicate ((aD .i64 (1:Int) s.Cols).toNat) (0:Int)).length-1)=(List.replicate ((aD .i64 (1:Int) s.Cols).toNat) (0:Int)).length)) (
 (fT s).bind fun r_=>
 br (decide (0≤r_)&&decide (r_≤(((List.replicate ((aD .i64 (1:Int) s.Cols).toNat) (0:Int)).length:Nat):Int))) (
 br (decide (r_.toNat+((List.replicate ((aD .i64 (1:Int) s.Cols).toNat) (0:Int)).length-r_.toNat)=(List.replicate ((aD .i64 (1:Int) s.Cols).toNat) (0:Int)).length)) (
 some (xk (xk ((List.replicate ((aD .i64 (1:Int) s.Cols).toNat) (0:Int)).set 0 (1:Int)) 1 (min publics.length ((List.replicate ((aD .i64 (1:Int) s.Cols).toNat) (0:Int)).length-1)) publics) r_.toNat (min privates.length ((List.replicate ((aD .i64 (1:Int) s.Cols).toNat) (0:Int)).length-r_.toNat)) privates)) none) none) none) none) none) none) none
theorem II {s publics privates r} (h:jA s publics privates=some r):Call tab ow 351 [.agg [I s.Rows,I s.Cols,I s.Publics,sl eEntry s.A,sl eEntry s.B,sl eEntry s.C],sl eI publics,sl eI privates] []=some (sl eI r,[]):=by
 rw [ab (af:=ka) rfl]
 unfold jA at h
 simp only [ka,wd]
 have d1:= @rO
 exact go2
end
section
theorem a4b:mkR 2000 []=rws eExt []:=rfl
attribute [local go_sem] a4b
theorem a5c:mkR 6003 []=rws eExt []:=rfl
attribute [local go_sem] a5c
def pq (t:List Int) (t2:Int):(List Ext)×Int→Option (((List Ext)×Int)⊕(((List Ext)×Int×Bool)))
 | (l,t3)=>
   br (decide (t3<t2)) (
   (atL t t3).bind fun x=>
   br (bE ((l++([(Ext.mk x 0)]:List Ext)).length) 16) (
   some (.inl ((l++([(Ext.mk x 0)]:List Ext)),(wrap .i64 (t3+1))))) none) (
   some (.inr (l,t3,decide (t3<t2))))
abbrev NQ (t:List Int) (t2:Int) (s:(List Ext)×Int):St:=⟨[(3,.sl 2000 0 s.1.length),(7,sl eI t),(8,I t2),(9,I s.2)],[(2000,⟨2,false,rws eExt s.1⟩)]⟩
abbrev PE (t:List Int) (t2:Int):((List Ext)×Int×Bool)→ag×St:=fun e=>(.exit 0,⟨[(3,.sl 2000 0 e.1.length),(7,sl eI t),(8,I t2),(9,I e.2.1),(10,B e.2.2)],[(2000,⟨2,false,rws eExt e.1⟩)]⟩)
theorem a2u {t t2 s e} (h:Loop (pq t t2) s=some e):aq tab ow (.close [6003,6004]) Qi (NQ t t2 s)=some (PE t t2 e):=by
 refine lrG (fun s o h=> ?_) h
 obtain ⟨_,_⟩:=s
 simp only [pq] at h
 simp only [NQ,PE,Qi,Ot]
 exact go2
def Q3 (list:(List Int)):Option ((List Ext)):=
 (Loop (pq list ((list.length:Nat):Int)) (([]:List Ext),0)).bind fun e_=>
 some e_.1
theorem a9s {list r} (h:Q3 list=some r):Call tab ow 350 [sl eI list] []=some (sl eExt r,[]):=by
 rw [ab (af:=Jl) rfl]
 unfold Q3 at h
 simp only [Jl,PW]
 have d1:= @a2u
 exact go2
end
def uw (s:System) (publics:(List Int)) (point:(List Ext)):Option (Ext):=
 (jA s publics ([]:List Int)).bind fun r_=>
 (fT s).bind fun r_2=>
 (jO r_ 0 r_2).bind fun y=>
 (Q3 y).bind fun r_3=>
 (oR point).bind fun r_4=>
 (It r_3 r_4).bind fun r_5=>
 some r_5
theorem Va {s publics point r} (h:uw s publics point=some r):Call tab ow 317 [.agg [I s.Rows,I s.Cols,I s.Publics,sl eEntry s.A,sl eEntry s.B,sl eEntry s.C],sl eI publics,sl eExt point] []=some (.agg [I r.A,I r.B],[]):=by
 rw [ab (af:=sE) rfl]
 unfold uw at h
 simp only [sE,I2]
 have d1:= @II
 have d2:= @rO
 have d3:= @a9s
 have d4:= @BF
 have d5:= @a3O
 exact go2
section
theorem GI:mkR 8009 []=rws eExt []:=rfl
attribute [local go_sem] GI
theorem Ho:mkR 10007 []=rws eExt []:=rfl
attribute [local go_sem] Ho
theorem H3:mkR 12008 []=rws eExt []:=rfl
attribute [local go_sem] H3
theorem GF:mkR 19003 []=rws eExt []:=rfl
attribute [local go_sem] GF
def gX (a:System) (a2:Setting) (a3:(List Int)) (a4:gn) (m:Source):Option (Int×Source):=
 (ra a a2 a3).bind fun r_=>
 (du r_ m).bind fun r_2=>
 br (bE a4.Root.length 1) (
 (du a4.Root r_2).bind fun r_3=>
 (gw a.Rows r_3).bind fun r_4=>
 (bm 2 (Ext.mk 0 0) a4.Gates r_4.2).bind fun r_5=>
 br (r_5.2.2.1 !=0) (
 some (r_5.2.2.1,r_5.2.2.2)) (
 (GW r_4.1 r_5.1).bind fun r_6=>
 (tN 2 ([r_6,a4.VA,a4.VB,a4.VC]:List Ext)).bind fun r_7=>
 br (r_7.A==r_5.2.1.A) (
 br (r_7.B==r_5.2.1.B) (
 (bu ([a4.VA,a4.VB,a4.VC]:List Ext) r_5.2.2.2).bind fun r_8=>
 (gw 3 r_8).bind fun r_9=>
 (It r_9.1 ([a4.VA,a4.VB,a4.VC]:List Ext)).bind fun r_10=>
 (bm 1 r_10 a4.Wires r_9.2).bind fun r_11=>
 br (r_11.2.2.1 !=0) (
 some (r_11.2.2.1,r_11.2.2.2)) (
 (jO r_11.1 0 (wrap .i64 (a.Cols-1))).bind fun y=>
 (atL r_11.1 (wrap .i64 (a.Cols-1))).bind fun x=>
 br (decide (3≤r_9.1.length)) (
 (a1I r_9.1).bind fun x2=>
 (ob a r_5.1 (x2.1,x2.2.1,x2.2.2)).bind fun r_12=>
 (oR r_11.1).bind fun r_13=>
 (It r_12 r_13).bind fun r_14=>
 (uw a a3 y).bind fun r_15=>
 (yp r_15 a4.VW x).bind fun r_16=>
 (bC r_14 r_16).bind fun r_17=>
 br (r_17.A==r_11.2.1.A) (
 br (r_17.B==r_11.2.1.B) (
 (bu ([a4.VW]:List Ext) r_11.2.2.2).bind fun r_18=>
 (kj a4.Root y a4.VW a2 a4.Open r_18).bind fun r_19=>
 some (r_19.1,r_19.2)) (
 some (11,r_11.2.2.2))) (
 some (11,r_11.2.2.2))) none)) (
 some (11,r_5.2.2.2))) (
 some (11,r_5.2.2.2)))) none
theorem Jt {a a2 a3 a4 m r} (h:gX a a2 a3 a4 m=some r):Call tab ow 227 [.ptr 0 0 0 1,.agg [I a.Rows,I a.Cols,I a.Publics,sl eEntry a.A,sl eEntry a.B,sl eEntry a.C],.agg [I a2.Rate,I a2.Queries,I a2.Grind],sl eI a3,.agg [S a4.Root,sl (eL eExt) a4.Gates,I a4.VA.A,I a4.VA.B,I a4.VB.A,I a4.VB.B,I a4.VC.A,I a4.VC.B,sl (eL eExt) a4.Wires,I a4.VW.A,I a4.VW.B,sl (eL eExt) a4.Open.Rounds,sl eS a4.Open.Roots,I a4.Open.Last.A,I a4.Open.Last.B,I a4.Open.Nonce,sl aE a4.Open.Queries]] [⟨4,true,[[sl eExt m.Script,I m.At,S m.State,I m.Count]]⟩]=some (I r.1,[⟨4,true,[[sl eExt r.2.Script,I r.2.At,S r.2.State,I r.2.Count]]⟩]):=by
 rw [ab (af:=jT) rfl]
 unfold gX at h
 simp only [jT,w8]
 have d1:= @R9
 have d2:= @jY
 have d3:= @yk
 have d4:= @rR
 have d5:= @Z5
 have d6:= @Zl
 have d7:= @gI
 have d8:= @a3O
 have d9:= @OA
 have d10:= @BF
 have d11:= @Va
 have d12:= @ZJ
 have d13:= @cP
 have d14:= @JW
 exact go2
end
def zX (s:System) (t:Setting) (publics:(List Int)) (p:gn) (source:Source):Option (Bool×Int):=
 (tP p s t).bind fun r_=>
 br (!r_) (
 some (false,18)) (
 (jy source).bind fun r_2=>
 (gX s t publics p r_2).bind fun r_3=>
 some ((r_3.1==0),r_3.1))
theorem Xe {s t publics p source r} (h:zX s t publics p source=some r):Call tab ow 119 [.agg [I s.Rows,I s.Cols,I s.Publics,sl eEntry s.A,sl eEntry s.B,sl eEntry s.C],.agg [I t.Rate,I t.Queries,I t.Grind],sl eI publics,.agg [S p.Root,sl (eL eExt) p.Gates,I p.VA.A,I p.VA.B,I p.VB.A,I p.VB.B,I p.VC.A,I p.VC.B,sl (eL eExt) p.Wires,I p.VW.A,I p.VW.B,sl (eL eExt) p.Open.Rounds,sl eS p.Open.Roots,I p.Open.Last.A,I p.Open.Last.B,I p.Open.Nonce,sl aE p.Open.Queries],.agg [sl eExt source.Script,I source.At,S source.State,I source.Count]] []=some (.tup [B r.1,I r.2],[]):=by
 rw [ab (af:=tv) rfl]
 unfold zX at h
 simp only [tv,IY]
 have d1:= @KV
 have d2:= @JD
 have d3:= @Jt
 exact go2
def Dz (a b:Entry):Option (Bool):=
 br (a.Row !=b.Row) (
 some false) (
 br (a.Col !=b.Col) (
 some false) (
 br (a.Value !=b.Value) (
 some false) (
 some true)))
theorem YL {a b r} (h:Dz a b=some r):Call tab ow 228 [.agg [I a.Row,I a.Col,I a.Value],.agg [I b.Row,I b.Col,I b.Value]] []=some (B r,[]):=by
 rw [ab (af:=vB) rfl]
 unfold Dz at h
 simp only [vB,Lq]
 exact go2
def kE (a2 b2:List Entry):Int→Option ((Int)⊕(Unit⊕(Int×Bool)))
 |i=>
  br (decide (i<((a2.length:Nat):Int))) (
  (atL a2 i).bind fun x=>
  (atL b2 i).bind fun x2=>
  (Dz x x2).bind fun r_=>
  br (!r_) (
  some (.inr (.inl ()))) (
  some (.inl (wrap .i64 (i+1))))) (
  some (.inr (.inr (i,decide (i<((a2.length:Nat):Int))))))
abbrev Dv (a2 b2:List Entry) (s:Int):St:=⟨[(0,sl eEntry a2),(1,sl eEntry b2),(5,I s)],[]⟩
abbrev Dm (a2 b2:List Entry):(Unit⊕(Int×Bool))→ag×St:=alt (fun e=>((.ret,⟨[(4,B false)],[]⟩):ag×St)) (fun e=>(.exit 0,⟨[(0,sl eEntry a2),(1,sl eEntry b2),(5,I e.1),(14,B e.2)],[]⟩))
theorem Nn {a2 b2 s e} (h:Loop (kE a2 b2) s=some e):aq tab ow (.close [7008]) C7 (Dv a2 b2 s)=some (Dm a2 b2 e):=by
 refine lrG (fun s o h=> ?_) h
 simp only [kE] at h
 simp only [Dv,Dm,C7,Bt]
 have d1:= @YL
 exact go2
def nv (a b:(List Entry)):Option (Bool):=
 br (((a.length:Nat):Int) !=((b.length:Nat):Int)) (
 some false) (
 (Loop (kE a b) 0).bind (alt (fun e_2=>
 some false) (fun e_3=>
 some true)))
theorem Ul {a b r} (h:nv a b=some r):Call tab ow 120 [sl eEntry a,sl eEntry b] []=some (B r,[]):=by
 rw [ab (af:=sV) rfl]
 unfold nv at h
 simp only [sV,zE]
 have d1:= @Nn
 exact go2
def ui (a b:System):Option (Bool):=
 br (a.Rows !=b.Rows) (
 some false) (
 br (a.Cols !=b.Cols) (
 some false) (
 br (a.Publics !=b.Publics) (
 some false) (
 (nv a.A b.A).bind fun r_=>
 br (!r_) (
 some false) (
 (nv a.B b.B).bind fun r_2=>
 br (!r_2) (
 some false) (
 (nv a.C b.C).bind fun r_3=>
 br (!r_3) (
 some false) (
 some true))))))
theorem VZ {a b r} (h:ui a b=some r):Call tab ow 39 [.agg [I a.Rows,I a.Cols,I a.Publics,sl eEntry a.A,sl eEntry a.B,sl eEntry a.C],.agg [I b.Rows,I b.Cols,I b.Publics,sl eEntry b.A,sl eEntry b.B,sl eEntry b.C]] []=some (B r,[]):=by
 rw [ab (af:=tj) rfl]
 unfold ui at h
 simp only [tj,Ju]
 have d1:= @Ul
 exact go2
def ti (a2 b2:List Int):Int→Option ((Int)⊕(Unit⊕(Int×Bool)))
 |i=>
  br (decide (i<((a2.length:Nat):Int))) (
  (atL a2 i).bind fun x=>
  (atL b2 i).bind fun x2=>
  br (x !=x2) (
  some (.inr (.inl ()))) (
  some (.inl (wrap .i64 (i+1))))) (
  some (.inr (.inr (i,decide (i<((a2.length:Nat):Int))))))
abbrev I5 (a2 b2:List Int) (s:Int):St:=⟨[(0,sl eI a2),(1,sl eI b2),(5,I s)],[]⟩
abbrev Ip (a2 b2:List Int):(Unit⊕(Int×Bool))→ag×St:=alt (fun e=>((.ret,⟨[(4,B false)],[]⟩):ag×St)) (fun e=>(.exit 0,⟨[(0,sl eI a2),(1,sl eI b2),(5,I e.1),(14,B e.2)],[]⟩))
theorem Us {a2 b2 s e} (h:Loop (ti a2 b2) s=some e):aq tab ow (.close []) I0 (I5 a2 b2 s)=some (Ip a2 b2 e):=by
 refine lrG (fun s o h=> ?_) h
 simp only [ti] at h
 simp only [I5,Ip,I0,IC]
 exact go2
def Bz (a b:(List Int)):Option (Bool):=
 br (((a.length:Nat):Int) !=((b.length:Nat):Int)) (
 some false) (
 (Loop (ti a b) 0).bind (alt (fun e_2=>
 some false) (fun e_3=>
 some true)))
theorem a2O {a b r} (h:Bz a b=some r):Call tab ow 40 [sl eI a,sl eI b] []=some (B r,[]):=by
 rw [ab (af:=yZ) rfl]
 unfold Bz at h
 simp only [yZ,Hc]
 have d1:= @Us
 exact go2
def DP (a b:Ext):Option (Bool):=
 br (a.A !=b.A) (
 some false) (
 br (a.B !=b.B) (
 some false) (
 some true))
theorem a64 {a b r} (h:DP a b=some r):Call tab ow 122 [.agg [I a.A,I a.B],.agg [I b.A,I b.B]] []=some (B r,[]):=by
 rw [ab (af:=DE) rfl]
 unfold DP at h
 simp only [DE,Tn]
 exact go2
def zW (a2 b2:List Ext):Int→Option ((Int)⊕(Unit⊕(Int×Bool)))
 |i=>
  br (decide (i<((a2.length:Nat):Int))) (
  (atL a2 i).bind fun x=>
  (atL b2 i).bind fun x2=>
  (DP x x2).bind fun r_=>
  br (!r_) (
  some (.inr (.inl ()))) (
  some (.inl (wrap .i64 (i+1))))) (
  some (.inr (.inr (i,decide (i<((a2.length:Nat):Int))))))
abbrev HI (a2 b2:List Ext) (s:Int):St:=⟨[(0,sl eExt a2),(1,sl eExt b2),(5,I s)],[]⟩
abbrev Io (a2 b2:List Ext):(Unit⊕(Int×Bool))→ag×St:=alt (fun e=>((.ret,⟨[(4,B false)],[]⟩):ag×St)) (fun e=>(.exit 0,⟨[(0,sl eExt a2),(1,sl eExt b2),(5,I e.1),(14,B e.2)],[]⟩))
theorem U3 {a2 b2 s e} (h:Loop (zW a2 b2) s=some e):aq tab ow (.close [7008]) HQ (HI a2 b2 s)=some (Io a2 b2 e):=by
 refine lrG (fun s o h=> ?_) h
 simp only [zW] at h
 simp only [HI,Io,HQ,In]
 have d1:= @a64
 exact go2
def CP (a b:(List Ext)):Option (Bool):=
 br (((a.length:Nat):Int) !=((b.length:Nat):Int)) (
 some false) (
 (Loop (zW a b) 0).bind (alt (fun e_2=>
 some false) (fun e_3=>
 some true)))
theorem a1g {a b r} (h:CP a b=some r):Call tab ow 124 [sl eExt a,sl eExt b] []=some (B r,[]):=by
 rw [ab (af:=yW) rfl]
 unfold CP at h
 simp only [yW,GU]
 have d1:= @U3
 exact go2
def uG (a b:Source):Option (Bool):=
 (CP a.Script b.Script).bind fun r_=>
 br (!r_) (
 some false) (
 br (a.At !=b.At) (
 some false) (
 br (a.State !=b.State) (
 some false) (
 br (a.Count !=b.Count) (
 some false) (
 some true))))
theorem V9 {a b r} (h:uG a b=some r):Call tab ow 42 [.agg [sl eExt a.Script,I a.At,S a.State,I a.Count],.agg [sl eExt b.Script,I b.At,S b.State,I b.Count]] []=some (B r,[]):=by
 rw [ab (af:=sB) rfl]
 unfold uG at h
 simp only [sB,I3]
 have d1:= @a1g
 exact go2
section
theorem UO: ∀k,Bh 2002 k [.lit (.int .u8 (0:Int))]=rws eU8 (List.replicate k (0:UInt8)):=fun _=>Ng eU8 (0:UInt8) _ _
attribute [local go_sem] UO
def qK (a2:List UInt8):(List UInt8)×Int→Option (((List UInt8)×Int)⊕(((List UInt8)×Int×Bool)))
 | (l,i)=>
   br (decide (i<((a2.length:Nat):Int))) (
   (atL a2 i).bind fun x=>
   br (decide (0≤i)) (
   br (decide (i.toNat<l.length)) (
   (l[i.toNat]?).bind fun x2=>
   some (.inl ((l.set i.toNat x),(wrap .i64 (i+1))))) none) none) (
   some (.inr (l,i,decide (i<((a2.length:Nat):Int)))))
abbrev FW (a2:List UInt8) (s:(List UInt8)×Int):St:=⟨[(0,sl eU8 a2),(3,.sl 2002 0 s.1.length),(4,I s.2)],[(2002,⟨1,false,rws eU8 s.1⟩)]⟩
abbrev G1 (a2:List UInt8):((List UInt8)×Int×Bool)→ag×St:=fun e=>(.exit 0,⟨[(0,sl eU8 a2),(3,.sl 2002 0 e.1.length),(4,I e.2.1),(11,B e.2.2)],[(2002,⟨1,false,rws eU8 e.1⟩)]⟩)
theorem Sc {a2 s e} (h:Loop (qK a2) s=some e):aq tab ow (.close []) Gn (FW a2 s)=some (G1 a2 e):=by
 refine lrG (fun s o h=> ?_) h
 obtain ⟨_,_⟩:=s
 simp only [qK] at h
 simp only [FW,G1,Gn,Ej]
 exact go2
def oS (a:(List UInt8)):Option ((List UInt8)):=
 br (xU ((a.length:Nat):Int) ((a.length:Nat):Int) 1) (
 (Loop (qK a) ((List.replicate (((a.length:Nat):Int).toNat) (0:UInt8)),(0:Int))).bind fun e_=>
 some e_.1) none
theorem a0p {a r} (h:oS a=some r):Call tab ow 44 [sl eU8 a] []=some (sl eU8 r,[]):=by
 rw [ab (af:=vD) rfl]
 unfold oS at h
 simp only [vD,Dw]
 have d1:= @Sc
 exact go2
end
section
theorem Kx: ∀k,Bh 4001 k [.lit (.int .u8 (0:Int))]=rws eU8 (List.replicate k (0:UInt8)):=fun _=>Ng eU8 (0:UInt8) _ _
attribute [local go_sem] Kx
def bR (n:Int) (m:dd):Option ((List UInt8)×dd):=
 br (decide (n>((m.t.length:Nat):Int))) (
 br (xU n n 1) (
 some ((List.replicate n.toNat (0:UInt8)),(dd.mk m.t false))) none) (
 (jO m.t 0 n).bind fun y=>
 (jO m.t n ((m.t.length:Nat):Int)).bind fun y2=>
 some (y,(dd.mk y2 m.ok)))
theorem jx {n m r} (h:bR n m=some r):Call tab ow 231 [.ptr 0 0 0 1,I n] [⟨2,true,[[S m.t,B m.ok]]⟩]=some (S r.1,[⟨2,true,[[S r.2.t,B r.2.ok]]⟩]):=by
 rw [ab (af:=mS) rfl]
 unfold bR at h
 simp only [mS,A9]
 exact go2
end
def jM (t2:List UInt8):Int×Int→Option ((Int×Int)⊕((Int×Int×Bool)))
 | (n,i)=>
   br (decide (i<4)) (
   (atL t2 i).bind fun c=>
   some (.inl ((wrap .i64 ((wrap .i64 (n*256))+(wrap .i64 (c.toNat:Int)))),(wrap .i64 (i+1))))) (
   some (.inr (n,i,decide (i<4))))
abbrev Gt (t2:List UInt8) (s:Int×Int):St:=⟨[(0,S t2),(3,I s.1),(4,I s.2)],[]⟩
abbrev G8 (t2:List UInt8):(Int×Int×Bool)→ag×St:=fun e=>(.exit 0,⟨[(0,S t2),(3,I e.1),(4,I e.2.1),(6,B e.2.2)],[]⟩)
theorem So {t2 s e} (h:Loop (jM t2) s=some e):aq tab ow (.close []) Gs (Gt t2 s)=some (G8 t2 e):=by
 refine lrG (fun s o h=> ?_) h
 obtain ⟨_,_⟩:=s
 simp only [jM] at h
 simp only [Gt,G8,Gs,F5]
 exact go2
def jL (t:(List UInt8)):Option (Int):=
 (Loop (jM t) (0,0)).bind fun e_=>
 some e_.1
theorem L3 {t r} (h:jL t=some r):Call tab ow 320 [S t] []=some (I r,[]):=by
 rw [ab (af:=vn) rfl]
 unfold jL at h
 simp only [vn,Df]
 have d1:= @So
 exact go2
end
end Go.AI.Fn
set_option linter.unusedVariables false
set_option linter.unusedSimpArgs false
set_option maxRecDepth 100000
set_option maxHeartbeats 1000000
namespace Go.AI.Fn
noncomputable section
open IntKind (wrap)
section
theorem Vq:mkR 2000 []=rws eExt []:=rfl
attribute [local go_sem] Vq
theorem VX:mkR 8015 []=rws eExt []:=rfl
attribute [local go_sem] VX
theorem Vt:mkR 10000 []=rws eExt []:=rfl
attribute [local go_sem] Vt
def mz (t2:List UInt8):(List Ext)×Int→Option (((List Ext)×Int)⊕(((List Ext)×Int×Bool)))
 | (l,i)=>
   br (decide (i<((t2.length:Nat):Int))) (
   (jO t2 i (wrap .i64 (i+4))).bind fun y=>
   (jL y).bind fun r_=>
   (jO t2 (wrap .i64 (i+4)) (wrap .i64 (i+8))).bind fun y2=>
   (jL y2).bind fun r_2=>
   br (bE ((l++([(Ext.mk r_ r_2)]:List Ext)).length) 16) (
   some (.inl ((l++([(Ext.mk r_ r_2)]:List Ext)),(wrap .i64 (i+8))))) none) (
   some (.inr (l,i,decide (i<((t2.length:Nat):Int)))))
abbrev EE (t2:List UInt8) (s:(List Ext)×Int):St:=⟨[(0,S t2),(4,.sl 2000 0 s.1.length),(5,I s.2)],[(2000,⟨2,false,rws eExt s.1⟩)]⟩
abbrev Fw (t2:List UInt8):((List Ext)×Int×Bool)→ag×St:=fun e=>(.exit 0,⟨[(0,S t2),(4,.sl 2000 0 e.1.length),(5,I e.2.1),(15,B e.2.2)],[(2000,⟨2,false,rws eExt e.1⟩)]⟩)
theorem SA {t2 s e} (h:Loop (mz t2) s=some e):aq tab ow (.close [8006,8013,8015,8016]) G0 (EE t2 s)=some (Fw t2 e):=by
 refine lrG (fun s o h=> ?_) h
 obtain ⟨_,_⟩:=s
 simp only [mz] at h
 simp only [EE,Fw,G0,FN]
 have d1:= @L3
 exact go2
def xN (t:(List UInt8)):Option ((List Ext)×Bool):=
 br ((((t.length:Nat):Int).tmod 8) !=0) (
 some (([]:List Ext),false)) (
 (Loop (mz t) (([]:List Ext),0)).bind fun e_=>
 (gU e_.1).bind fun r_3=>
 br (!r_3) (
 some (([]:List Ext),false)) (
 some (e_.1,true)))
theorem Yz {t r} (h:xN t=some r):Call tab ow 319 [S t] []=some (.tup [sl eExt r.1,B r.2],[]):=by
 rw [ab (af:=vx) rfl]
 unfold xN at h
 simp only [vx,Dp]
 have d1:= @SA
 have d2:= @kC
 exact go2
end
def eK (n:Int) (m:dd):Option ((List Ext)×dd):=
 (bR (wrap .i64 (8*n)) m).bind fun r_=>
 (xN r_.1).bind fun r_2=>
 br r_.2.ok (
 some (r_2.1,(dd.mk r_.2.t r_2.2))) (
 some (r_2.1,(dd.mk r_.2.t false)))
theorem jz {n m r} (h:eK n m=some r):Call tab ow 232 [.ptr 0 0 0 1,I n] [⟨2,true,[[S m.t,B m.ok]]⟩]=some (sl eExt r.1,[⟨2,true,[[S r.2.t,B r.2.ok]]⟩]):=by
 rw [ab (af:=mD) rfl]
 unfold eK at h
 simp only [mD,A6]
 have d1:= @jx
 have d2:= @Yz
 exact go2
def fP (m:dd):Option (Ext×dd):=
 (eK 1 m).bind fun r_=>
 br (((r_.1.length:Nat):Int)==0) (
 some ((Ext.mk 0 0),r_.2)) (
 (atL r_.1 0).bind fun x=>
 some (x,r_.2))
theorem Bm {m r} (h:fP m=some r):Call tab ow 233 [.ptr 0 0 0 1] [⟨2,true,[[S m.t,B m.ok]]⟩]=some (.agg [I r.1.A,I r.1.B],[⟨2,true,[[S r.2.t,B r.2.ok]]⟩]):=by
 rw [ab (af:=oi) rfl]
 unfold fP at h
 simp only [oi,Cr]
 have d1:= @jz
 exact go2
section
theorem Vf:mkR 2000 []=rws (eL eExt) []:=rfl
attribute [local go_sem] Vf
theorem X7:mkR 2001 []=rws eS []:=rfl
attribute [local go_sem] X7
theorem U9:mkR 2002 []=rws aE []:=rfl
attribute [local go_sem] U9
theorem Un:mkR 6004 []=rws (eL eExt) []:=rfl
attribute [local go_sem] Un
theorem X4:mkR 10004 []=rws eS []:=rfl
attribute [local go_sem] X4
theorem Ua:mkR 16004 []=rws (eL eS) []:=rfl
attribute [local go_sem] Ua
theorem UP:mkR 20000 []=rws eS []:=rfl
attribute [local go_sem] UP
theorem WZ:mkR 24003 []=rws eS []:=rfl
attribute [local go_sem] WZ
theorem Ud:mkR 25003 []=rws (eL eS) []:=rfl
attribute [local go_sem] Ud
theorem UI:mkR 26003 []=rws aE []:=rfl
attribute [local go_sem] UI
def ir (l2:List (List UInt8)) (l3:List aj) (t c3 c4 c5 c6 c7 c8 c9 c10 c11:Int):(List (List Ext))×Int×(List UInt8)×Bool→Option (((List (List Ext))×Int×(List UInt8)×Bool)⊕(((List (List Ext))×Int×Bool×(List UInt8)×Bool)))
 | (l,t2,c,c2)=>
   br (decide (t2<t)) (
   (eK 3 (dd.mk c c2)).bind fun r_=>
   br (bE ((l++([r_.1]:List (List Ext))).length) 24) (
   some (.inl ((l++([r_.1]:List (List Ext))),(wrap .i64 (t2+1)),r_.2.t,r_.2.ok))) none) (
   some (.inr (l,t2,decide (t2<t),c,c2)))
abbrev wM (l2:List (List UInt8)) (l3:List aj) (c3 c4 c5 c6 c7 c8 c9 c10 c11:Int) (l:List (List Ext)) (c:List UInt8) (c2:Bool):List (Nat×Blk):=[(0,⟨2,true,[[S c,B c2]]⟩),(1000,⟨3,true,[[I c3,I c4,I c5]]⟩),(1001,⟨6,true,[[.lit (.slice none 0 0),.lit (.slice none 0 0),I c6,I c7,I c8,.lit (.slice none 0 0)]]⟩),(2000,⟨1,false,rws (eL eExt) l⟩),(2001,⟨1,false,rws eS l2⟩),(2002,⟨2,false,rws aE l3⟩),(2004,⟨6,true,[[.sl 2000 0 l.length,.sl 2001 0 l2.length,I c9,I c10,I c11,.sl 2002 0 l3.length]]⟩)]
abbrev Fh (l2:List (List UInt8)) (l3:List aj) (t c3 c4 c5 c6 c7 c8 c9 c10 c11:Int) (s:(List (List Ext))×Int×(List UInt8)×Bool):St:=⟨[(0,.ptr 0 0 0 1),(1,I t),(5,.ptr 1000 0 0 1),(6,.ptr 1001 0 0 1),(7,.ptr 2004 0 0 1),(8,I s.2.1)],wM l2 l3 c3 c4 c5 c6 c7 c8 c9 c10 c11 s.1 s.2.2.1 s.2.2.2⟩
abbrev FH (l2:List (List UInt8)) (l3:List aj) (t c3 c4 c5 c6 c7 c8 c9 c10 c11:Int):((List (List Ext))×Int×Bool×(List UInt8)×Bool)→ag×St:=fun e=>(.exit 0,⟨[(0,.ptr 0 0 0 1),(1,I t),(5,.ptr 1000 0 0 1),(6,.ptr 1001 0 0 1),(7,.ptr 2004 0 0 1),(8,I e.2.1),(21,B e.2.2.1)],wM l2 l3 c3 c4 c5 c6 c7 c8 c9 c10 c11 e.1 e.2.2.2.1 e.2.2.2.2⟩)
theorem Sa {l2 l3 t c3 c4 c5 c6 c7 c8 c9 c10 c11 s e} (h:Loop (ir l2 l3 t c3 c4 c5 c6 c7 c8 c9 c10 c11) s=some e):aq tab ow (.close [6003,6004,6005]) G5 (Fh l2 l3 t c3 c4 c5 c6 c7 c8 c9 c10 c11 s)=some (FH l2 l3 t c3 c4 c5 c6 c7 c8 c9 c10 c11 e):=by
 refine lrG (fun s o h=> ?_) h
 obtain ⟨_,_,_,_⟩:=s
 simp only [ir] at h
 simp only [Fh,FH,wM,G5,Et]
 have d1:= @jz
 exact go2
def i9 (l4:List (List Ext)) (l6:List aj) (t3 c14 c15 c16 c17 c18 c19 c20 c21 c22:Int):(List (List UInt8))×Int×(List UInt8)×Bool→Option (((List (List UInt8))×Int×(List UInt8)×Bool)⊕(((List (List UInt8))×Int×Bool×(List UInt8)×Bool)))
 | (l5,t4,c12,c13)=>
   br (decide (t4<t3)) (
   (bR 32 (dd.mk c12 c13)).bind fun r_2=>
   br (bE ((l5++([r_2.1]:List (List UInt8))).length) 16) (
   some (.inl ((l5++([r_2.1]:List (List UInt8))),(wrap .i64 (t4+1)),r_2.2.t,r_2.2.ok))) none) (
   some (.inr (l5,t4,decide (t4<t3),c12,c13)))
abbrev xd (l4:List (List Ext)) (l6:List aj) (c14 c15 c16 c17 c18 c19 c20 c21 c22:Int) (l5:List (List UInt8)) (c12:List UInt8) (c13:Bool):List (Nat×Blk):=[(0,⟨2,true,[[S c12,B c13]]⟩),(1000,⟨3,true,[[I c14,I c15,I c16]]⟩),(1001,⟨6,true,[[.lit (.slice none 0 0),.lit (.slice none 0 0),I c17,I c18,I c19,.lit (.slice none 0 0)]]⟩),(2000,⟨1,false,rws (eL eExt) l4⟩),(2001,⟨1,false,rws eS l5⟩),(2002,⟨2,false,rws aE l6⟩),(2004,⟨6,true,[[.sl 2000 0 l4.length,.sl 2001 0 l5.length,I c20,I c21,I c22,.sl 2002 0 l6.length]]⟩)]
abbrev G9 (l4:List (List Ext)) (l6:List aj) (t3 c14 c15 c16 c17 c18 c19 c20 c21 c22:Int) (s:(List (List UInt8))×Int×(List UInt8)×Bool):St:=⟨[(0,.ptr 0 0 0 1),(1,I t3),(5,.ptr 1000 0 0 1),(6,.ptr 1001 0 0 1),(7,.ptr 2004 0 0 1),(9,I s.2.1)],xd l4 l6 c14 c15 c16 c17 c18 c19 c20 c21 c22 s.1 s.2.2.1 s.2.2.2⟩
abbrev Ey (l4:List (List Ext)) (l6:List aj) (t3 c14 c15 c16 c17 c18 c19 c20 c21 c22:Int):((List (List UInt8))×Int×Bool×(List UInt8)×Bool)→ag×St:=fun e=>(.exit 2,⟨[(0,.ptr 0 0 0 1),(1,I t3),(5,.ptr 1000 0 0 1),(6,.ptr 1001 0 0 1),(7,.ptr 2004 0 0 1),(9,I e.2.1),(33,B e.2.2.1)],xd l4 l6 c14 c15 c16 c17 c18 c19 c20 c21 c22 e.1 e.2.2.2.1 e.2.2.2.2⟩)
theorem Su {l4 l6 t3 c14 c15 c16 c17 c18 c19 c20 c21 c22 s e} (h:Loop (i9 l4 l6 t3 c14 c15 c16 c17 c18 c19 c20 c21 c22) s=some e):aq tab ow (.close [10003,10004,10005]) F6 (G9 l4 l6 t3 c14 c15 c16 c17 c18 c19 c20 c21 c22 s)=some (Ey l4 l6 t3 c14 c15 c16 c17 c18 c19 c20 c21 c22 e):=by
 refine lrG (fun s o h=> ?_) h
 obtain ⟨_,_,_,_⟩:=s
 simp only [i9] at h
 simp only [G9,Ey,xd,F6,Fm]
 have d1:= @jx
 exact go2
def ib (l14:List (List Ext)) (l15:List (List UInt8)) (l16:List aj) (l17:List (List (List UInt8))) (t10 t11 t12 c48 c49 c50 c51 c52 c53 c54 c55 c56:Int) (c57:List Ext):(List (List UInt8))×Int×(List UInt8)×Bool→Option (((List (List UInt8))×Int×(List UInt8)×Bool)⊕(((List (List UInt8))×Int×Bool×(List UInt8)×Bool)))
 | (l18,t13,c46,c47)=>
   br (decide (t13>0)) (
   (bR 32 (dd.mk c46 c47)).bind fun r_7=>
   br (bE ((l18++([r_7.1]:List (List UInt8))).length) 16) (
   some (.inl ((l18++([r_7.1]:List (List UInt8))),(wrap .i64 (t13-1)),r_7.2.t,r_7.2.ok))) none) (
   some (.inr (l18,t13,decide (t13>0),c46,c47)))
abbrev wP (l14:List (List Ext)) (l15:List (List UInt8)) (l16:List aj) (l17:List (List (List UInt8))) (c48 c49 c50 c51 c52 c53 c54 c55 c56:Int) (c57:List Ext) (l18:List (List UInt8)) (c46:List UInt8) (c47:Bool):List (Nat×Blk):=[(0,⟨2,true,[[S c46,B c47]]⟩),(1000,⟨3,true,[[I c48,I c49,I c50]]⟩),(1001,⟨6,true,[[.lit (.slice none 0 0),.lit (.slice none 0 0),I c51,I c52,I c53,.lit (.slice none 0 0)]]⟩),(2000,⟨1,false,rws (eL eExt) l14⟩),(2001,⟨1,false,rws eS l15⟩),(2002,⟨2,false,rws aE l16⟩),(2004,⟨6,true,[[.sl 2000 0 l14.length,.sl 2001 0 l15.length,I c54,I c55,I c56,.sl 2002 0 l16.length]]⟩),(16004,⟨1,false,rws (eL eS) l17⟩),(16006,⟨2,true,[[sl eExt c57,.sl 16004 0 l17.length]]⟩),(20000,⟨1,false,rws eS l18⟩)]
abbrev EP (l14:List (List Ext)) (l15:List (List UInt8)) (l16:List aj) (l17:List (List (List UInt8))) (t10 t11 t12 c48 c49 c50 c51 c52 c53 c54 c55 c56:Int) (c57:List Ext) (s:(List (List UInt8))×Int×(List UInt8)×Bool):St:=⟨[(0,.ptr 0 0 0 1),(1,I t10),(5,.ptr 1000 0 0 1),(6,.ptr 1001 0 0 1),(7,.ptr 2004 0 0 1),(10,I t11),(11,.ptr 16006 0 0 1),(12,I t12),(13,.sl 20000 0 s.1.length),(14,I s.2.1)],wP l14 l15 l16 l17 c48 c49 c50 c51 c52 c53 c54 c55 c56 c57 s.1 s.2.2.1 s.2.2.2⟩
abbrev Fg (l14:List (List Ext)) (l15:List (List UInt8)) (l16:List aj) (l17:List (List (List UInt8))) (t10 t11 t12 c48 c49 c50 c51 c52 c53 c54 c55 c56:Int) (c57:List Ext):((List (List UInt8))×Int×Bool×(List UInt8)×Bool)→ag×St:=fun e=>(.exit 8,⟨[(0,.ptr 0 0 0 1),(1,I t10),(5,.ptr 1000 0 0 1),(6,.ptr 1001 0 0 1),(7,.ptr 2004 0 0 1),(10,I t11),(11,.ptr 16006 0 0 1),(12,I t12),(13,.sl 20000 0 e.1.length),(14,I e.2.1),(76,B e.2.2.1)],wP l14 l15 l16 l17 c48 c49 c50 c51 c52 c53 c54 c55 c56 c57 e.1 e.2.2.2.1 e.2.2.2.2⟩)
theorem Sq {l14 l15 l16 l17 t10 t11 t12 c48 c49 c50 c51 c52 c53 c54 c55 c56 c57 s e} (h:Loop (ib l14 l15 l16 l17 t10 t11 t12 c48 c49 c50 c51 c52 c53 c54 c55 c56 c57) s=some e):aq tab ow (.close [24002,24003,24004]) BS (EP l14 l15 l16 l17 t10 t11 t12 c48 c49 c50 c51 c52 c53 c54 c55 c56 c57 s)=some (Fg l14 l15 l16 l17 t10 t11 t12 c48 c49 c50 c51 c52 c53 c54 c55 c56 c57 e):=by
 refine lrG (fun s o h=> ?_) h
 obtain ⟨_,_,_,_⟩:=s
 simp only [ib] at h
 simp only [EP,Fg,wP,BS,Cd]
 have d1:= @jx
 exact go2
def ie (l10:List (List Ext)) (l11:List (List UInt8)) (l12:List aj) (t7 t8 c36 c37 c38 c39 c40 c41 c42 c43 c44:Int) (c45:List Ext):(List (List (List UInt8)))×Int×(List UInt8)×Bool→Option (((List (List (List UInt8)))×Int×(List UInt8)×Bool)⊕(((List (List (List UInt8)))×Int×Bool×(List UInt8)×Bool)))
 | (l13,t9,c34,c35)=>
   br (decide (t9<t7)) (
   (Loop (ib l10 l11 l12 l13 t7 t8 t9 c36 c37 c38 c39 c40 c41 c42 c43 c44 c45) (([]:List (List UInt8)),(wrap .i64 ((wrap .i64 ((wrap .i64 (t7+c36))-1))-t9)),c34,c35)).bind fun e_3=>
   br (bE ((l13++([e_3.1]:List (List (List UInt8)))).length) 24) (
   some (.inl ((l13++([e_3.1]:List (List (List UInt8)))),(wrap .i64 (t9+1)),e_3.2.2.2.1,e_3.2.2.2.2))) none) (
   some (.inr (l13,t9,decide (t9<t7),c34,c35)))
abbrev wk (l10:List (List Ext)) (l11:List (List UInt8)) (l12:List aj) (c36 c37 c38 c39 c40 c41 c42 c43 c44:Int) (c45:List Ext) (l13:List (List (List UInt8))) (c34:List UInt8) (c35:Bool):List (Nat×Blk):=[(0,⟨2,true,[[S c34,B c35]]⟩),(1000,⟨3,true,[[I c36,I c37,I c38]]⟩),(1001,⟨6,true,[[.lit (.slice none 0 0),.lit (.slice none 0 0),I c39,I c40,I c41,.lit (.slice none 0 0)]]⟩),(2000,⟨1,false,rws (eL eExt) l10⟩),(2001,⟨1,false,rws eS l11⟩),(2002,⟨2,false,rws aE l12⟩),(2004,⟨6,true,[[.sl 2000 0 l10.length,.sl 2001 0 l11.length,I c42,I c43,I c44,.sl 2002 0 l12.length]]⟩),(16004,⟨1,false,rws (eL eS) l13⟩),(16006,⟨2,true,[[sl eExt c45,.sl 16004 0 l13.length]]⟩)]
abbrev Gr (l10:List (List Ext)) (l11:List (List UInt8)) (l12:List aj) (t7 t8 c36 c37 c38 c39 c40 c41 c42 c43 c44:Int) (c45:List Ext) (s:(List (List (List UInt8)))×Int×(List UInt8)×Bool):St:=⟨[(0,.ptr 0 0 0 1),(1,I t7),(5,.ptr 1000 0 0 1),(6,.ptr 1001 0 0 1),(7,.ptr 2004 0 0 1),(10,I t8),(11,.ptr 16006 0 0 1),(12,I s.2.1)],wk l10 l11 l12 c36 c37 c38 c39 c40 c41 c42 c43 c44 c45 s.1 s.2.2.1 s.2.2.2⟩
abbrev Ff (l10:List (List Ext)) (l11:List (List UInt8)) (l12:List aj) (t7 t8 c36 c37 c38 c39 c40 c41 c42 c43 c44:Int) (c45:List Ext):((List (List (List UInt8)))×Int×Bool×(List UInt8)×Bool)→ag×St:=fun e=>(.exit 6,⟨[(0,.ptr 0 0 0 1),(1,I t7),(5,.ptr 1000 0 0 1),(6,.ptr 1001 0 0 1),(7,.ptr 2004 0 0 1),(10,I t8),(11,.ptr 16006 0 0 1),(12,I e.2.1),(64,B e.2.2.1)],wk l10 l11 l12 c36 c37 c38 c39 c40 c41 c42 c43 c44 c45 e.1 e.2.2.2.1 e.2.2.2.2⟩)
theorem Rp {l10 l11 l12 t7 t8 c36 c37 c38 c39 c40 c41 c42 c43 c44 c45 s e} (h:Loop (ie l10 l11 l12 t7 t8 c36 c37 c38 c39 c40 c41 c42 c43 c44 c45) s=some e):aq tab ow (.close [20000,24002,24003,24004,25003,25004]) Dt (Gr l10 l11 l12 t7 t8 c36 c37 c38 c39 c40 c41 c42 c43 c44 c45 s)=some (Ff l10 l11 l12 t7 t8 c36 c37 c38 c39 c40 c41 c42 c43 c44 c45 e):=by
 refine lrG (fun s o h=> ?_) h
 obtain ⟨_,_,_,_⟩:=s
 simp only [ie] at h
 simp only [Gr,Ff,wk,Dt,CF]
 have d1:= @Sq
 exact go2
def ic (l7:List (List Ext)) (l8:List (List UInt8)) (t5 c25 c26 c27 c28 c29 c30 c31 c32 c33:Int):(List aj)×Int×(List UInt8)×Bool→Option (((List aj)×Int×(List UInt8)×Bool)⊕(((List aj)×Int×Bool×(List UInt8)×Bool)))
 | (l9,t6,c23,c24)=>
   br (decide (t6<c26)) (
   (eK (wrap .i64 (2*t5)) (dd.mk c23 c24)).bind fun r_6=>
   (Loop (ie l7 l8 l9 t5 t6 c25 c26 c27 c28 c29 c30 c31 c32 c33 r_6.1) (([]:List (List (List UInt8))),0,r_6.2.t,r_6.2.ok)).bind fun e_4=>
   br (bE ((l9++([(aj.mk r_6.1 e_4.1)]:List aj)).length) 48) (
   some (.inl ((l9++([(aj.mk r_6.1 e_4.1)]:List aj)),(wrap .i64 (t6+1)),e_4.2.2.2.1,e_4.2.2.2.2))) none) (
   some (.inr (l9,t6,decide (t6<c26),c23,c24)))
abbrev wF (l7:List (List Ext)) (l8:List (List UInt8)) (c25 c26 c27 c28 c29 c30 c31 c32 c33:Int) (l9:List aj) (c23:List UInt8) (c24:Bool):List (Nat×Blk):=[(0,⟨2,true,[[S c23,B c24]]⟩),(1000,⟨3,true,[[I c25,I c26,I c27]]⟩),(1001,⟨6,true,[[.lit (.slice none 0 0),.lit (.slice none 0 0),I c28,I c29,I c30,.lit (.slice none 0 0)]]⟩),(2000,⟨1,false,rws (eL eExt) l7⟩),(2001,⟨1,false,rws eS l8⟩),(2002,⟨2,false,rws aE l9⟩),(2004,⟨6,true,[[.sl 2000 0 l7.length,.sl 2001 0 l8.length,I c31,I c32,I c33,.sl 2002 0 l9.length]]⟩)]
abbrev Gm (l7:List (List Ext)) (l8:List (List UInt8)) (t5 c25 c26 c27 c28 c29 c30 c31 c32 c33:Int) (s:(List aj)×Int×(List UInt8)×Bool):St:=⟨[(0,.ptr 0 0 0 1),(1,I t5),(5,.ptr 1000 0 0 1),(6,.ptr 1001 0 0 1),(7,.ptr 2004 0 0 1),(10,I s.2.1)],wF l7 l8 c25 c26 c27 c28 c29 c30 c31 c32 c33 s.1 s.2.2.1 s.2.2.2⟩
abbrev Gw (l7:List (List Ext)) (l8:List (List UInt8)) (t5 c25 c26 c27 c28 c29 c30 c31 c32 c33:Int):((List aj)×Int×Bool×(List UInt8)×Bool)→ag×St:=fun e=>(.exit 4,⟨[(0,.ptr 0 0 0 1),(1,I t5),(5,.ptr 1000 0 0 1),(6,.ptr 1001 0 0 1),(7,.ptr 2004 0 0 1),(10,I e.2.1),(53,B e.2.2.1)],wF l7 l8 c25 c26 c27 c28 c29 c30 c31 c32 c33 e.1 e.2.2.2.1 e.2.2.2.2⟩)
theorem RK {l7 l8 t5 c25 c26 c27 c28 c29 c30 c31 c32 c33 s e} (h:Loop (ic l7 l8 t5 c25 c26 c27 c28 c29 c30 c31 c32 c33) s=some e):aq tab ow (.close [16003,16004,16006,20000,24002,24003,24004,25003,25004,26003,26004]) Ca (Gm l7 l8 t5 c25 c26 c27 c28 c29 c30 c31 c32 c33 s)=some (Gw l7 l8 t5 c25 c26 c27 c28 c29 c30 c31 c32 c33 e):=by
 refine lrG (fun s o h=> ?_) h
 obtain ⟨_,_,_,_⟩:=s
 simp only [ic] at h
 simp only [Gm,Gw,wF,Ca,CN]
 have d1:= @jz
 have d2:= @Rp
 exact go2
def yC (a:Int) (a2:Setting) (m:dd):Option (au×dd):=
 (Loop (ir ([]:List (List UInt8)) ([]:List aj) a a2.Rate a2.Queries a2.Grind 0 0 0 0 0 0) (([]:List (List Ext)),0,m.t,m.ok)).bind fun e_=>
 (Loop (i9 e_.1 ([]:List aj) a a2.Rate a2.Queries a2.Grind 0 0 0 0 0 0) (([]:List (List UInt8)),1,e_.2.2.2.1,e_.2.2.2.2)).bind fun e_2=>
 (fP (dd.mk e_2.2.2.2.1 e_2.2.2.2.2)).bind fun r_3=>
 (bR 4 r_3.2).bind fun r_4=>
 (jL r_4.1).bind fun r_5=>
 (Loop (ic e_.1 e_2.1 a a2.Rate a2.Queries a2.Grind 0 0 0 r_3.1.A r_3.1.B r_5) (([]:List aj),0,r_4.2.t,r_4.2.ok)).bind fun e_5=>
 some ((au.mk e_.1 e_2.1 r_3.1 r_5 e_5.1),(dd.mk e_5.2.2.2.1 e_5.2.2.2.2))
theorem Yq {a a2 m r} (h:yC a a2 m=some r):Call tab ow 234 [.ptr 0 0 0 1,I a,.agg [I a2.Rate,I a2.Queries,I a2.Grind]] [⟨2,true,[[S m.t,B m.ok]]⟩]=some (.agg [sl (eL eExt) r.1.Rounds,sl eS r.1.Roots,I r.1.Last.A,I r.1.Last.B,I r.1.Nonce,sl aE r.1.Queries],[⟨2,true,[[S r.2.t,B r.2.ok]]⟩]):=by
 rw [ab (af:=vS) rfl]
 unfold yC at h
 simp only [vS,kL]
 have d1:= @Sa
 have d2:= @Su
 have d3:= @Bm
 have d4:= @jx
 have d5:= @L3
 have d6:= @RK
 exact go2
end
section
theorem X9:mkR 3002 []=rws (eL eExt) []:=rfl
attribute [local go_sem] X9
theorem UY:mkR 3003 []=rws (eL eExt) []:=rfl
attribute [local go_sem] UY
theorem Vk:mkR 7004 []=rws (eL eExt) []:=rfl
attribute [local go_sem] Vk
theorem U5:mkR 14004 []=rws (eL eExt) []:=rfl
attribute [local go_sem] U5
def i8 (l2:List (List Ext)) (c c2 c3:Int) (c4 c5 c6:List Entry) (c7 c8 c9:Int) (c10:List UInt8) (c11 c12 c13 c14 c15 c16 c17 c18 c19 c20 c21:Int) (c24:List UInt8) (c25 c26 c27 c28 c29 c30 c31 c32 c33 c34 c35:Int):(List (List Ext))×Int×(List UInt8)×Bool→Option (((List (List Ext))×Int×(List UInt8)×Bool)⊕(((List (List Ext))×Int×Bool×(List UInt8)×Bool)))
 | (l,t,c22,c23)=>
   br (decide (t<c)) (
   (eK 4 (dd.mk c22 c23)).bind fun r_2=>
   br (bE ((l++([r_2.1]:List (List Ext))).length) 24) (
   some (.inl ((l++([r_2.1]:List (List Ext))),(wrap .i64 (t+1)),r_2.2.t,r_2.2.ok))) none) (
   some (.inr (l,t,decide (t<c),c22,c23)))
abbrev wW (l2:List (List Ext)) (c c2 c3:Int) (c4 c5 c6:List Entry) (c7 c8 c9:Int) (c10:List UInt8) (c11 c12 c13 c14 c15 c16 c17 c18 c19 c20 c21:Int) (c24:List UInt8) (c25 c26 c27 c28 c29 c30 c31 c32 c33 c34 c35:Int) (l:List (List Ext)) (c22:List UInt8) (c23:Bool):List (Nat×Blk):=[(1000,⟨6,true,[[I c,I c2,I c3,sl eEntry c4,sl eEntry c5,sl eEntry c6]]⟩),(1001,⟨3,true,[[I c7,I c8,I c9]]⟩),(1002,⟨17,true,[[S c10,.lit (.slice none 0 0),I c11,I c12,I c13,I c14,I c15,I c16,.lit (.slice none 0 0),I c17,I c18,.lit (.slice none 0 0),.lit (.slice none 0 0),I c19,I c20,I c21,.lit (.slice none 0 0)]]⟩),(2002,⟨2,true,[[S c22,B c23]]⟩),(3002,⟨1,false,rws (eL eExt) l⟩),(3003,⟨1,false,rws (eL eExt) l2⟩),(3005,⟨17,true,[[S c24,.sl 3002 0 l.length,I c25,I c26,I c27,I c28,I c29,I c30,.sl 3003 0 l2.length,I c31,I c32,.lit (.slice none 0 0),.lit (.slice none 0 0),I c33,I c34,I c35,.lit (.slice none 0 0)]]⟩)]
abbrev Eu (l2:List (List Ext)) (c c2 c3:Int) (c4 c5 c6:List Entry) (c7 c8 c9:Int) (c10:List UInt8) (c11 c12 c13 c14 c15 c16 c17 c18 c19 c20 c21:Int) (c24:List UInt8) (c25 c26 c27 c28 c29 c30 c31 c32 c33 c34 c35:Int) (s:(List (List Ext))×Int×(List UInt8)×Bool):St:=⟨[(4,.ptr 1000 0 0 1),(5,.ptr 1001 0 0 1),(6,.ptr 1002 0 0 1),(8,.ptr 2002 0 0 1),(9,.ptr 3005 0 0 1),(10,I s.2.1)],wW l2 c c2 c3 c4 c5 c6 c7 c8 c9 c10 c11 c12 c13 c14 c15 c16 c17 c18 c19 c20 c21 c24 c25 c26 c27 c28 c29 c30 c31 c32 c33 c34 c35 s.1 s.2.2.1 s.2.2.2⟩
abbrev Fx (l2:List (List Ext)) (c c2 c3:Int) (c4 c5 c6:List Entry) (c7 c8 c9:Int) (c10:List UInt8) (c11 c12 c13 c14 c15 c16 c17 c18 c19 c20 c21:Int) (c24:List UInt8) (c25 c26 c27 c28 c29 c30 c31 c32 c33 c34 c35:Int):((List (List Ext))×Int×Bool×(List UInt8)×Bool)→ag×St:=fun e=>(.exit 0,⟨[(4,.ptr 1000 0 0 1),(5,.ptr 1001 0 0 1),(6,.ptr 1002 0 0 1),(8,.ptr 2002 0 0 1),(9,.ptr 3005 0 0 1),(10,I e.2.1),(23,B e.2.2.1)],wW l2 c c2 c3 c4 c5 c6 c7 c8 c9 c10 c11 c12 c13 c14 c15 c16 c17 c18 c19 c20 c21 c24 c25 c26 c27 c28 c29 c30 c31 c32 c33 c34 c35 e.1 e.2.2.2.1 e.2.2.2.2⟩)
theorem Ri {l2 c c2 c3 c4 c5 c6 c7 c8 c9 c10 c11 c12 c13 c14 c15 c16 c17 c18 c19 c20 c21 c24 c25 c26 c27 c28 c29 c30 c31 c32 c33 c34 c35 s e} (h:Loop (i8 l2 c c2 c3 c4 c5 c6 c7 c8 c9 c10 c11 c12 c13 c14 c15 c16 c17 c18 c19 c20 c21 c24 c25 c26 c27 c28 c29 c30 c31 c32 c33 c34 c35) s=some e):aq tab ow (.close [7003,7004,7005]) Ep (Eu l2 c c2 c3 c4 c5 c6 c7 c8 c9 c10 c11 c12 c13 c14 c15 c16 c17 c18 c19 c20 c21 c24 c25 c26 c27 c28 c29 c30 c31 c32 c33 c34 c35 s)=some (Fx l2 c c2 c3 c4 c5 c6 c7 c8 c9 c10 c11 c12 c13 c14 c15 c16 c17 c18 c19 c20 c21 c24 c25 c26 c27 c28 c29 c30 c31 c32 c33 c34 c35 e):=by
 refine lrG (fun s o h=> ?_) h
 obtain ⟨_,_,_,_⟩:=s
 simp only [i8] at h
 simp only [Eu,Fx,wW,Ep,Gf]
 have d1:= @jz
 exact go2
def i6 (l3:List (List Ext)) (c36 c37 c38:Int) (c39 c40 c41:List Entry) (c42 c43 c44:Int) (c45:List UInt8) (c46 c47 c48 c49 c50 c51 c52 c53 c54 c55 c56:Int) (c59:List UInt8) (c60 c61 c62 c63 c64 c65 c66 c67 c68 c69 c70:Int):(List (List Ext))×Int×(List UInt8)×Bool→Option (((List (List Ext))×Int×(List UInt8)×Bool)⊕(((List (List Ext))×Int×Bool×(List UInt8)×Bool)))
 | (l4,t2,c57,c58)=>
   br (decide (t2<c37)) (
   (eK 3 (dd.mk c57 c58)).bind fun r_6=>
   br (bE ((l4++([r_6.1]:List (List Ext))).length) 24) (
   some (.inl ((l4++([r_6.1]:List (List Ext))),(wrap .i64 (t2+1)),r_6.2.t,r_6.2.ok))) none) (
   some (.inr (l4,t2,decide (t2<c37),c57,c58)))
abbrev wN (l3:List (List Ext)) (c36 c37 c38:Int) (c39 c40 c41:List Entry) (c42 c43 c44:Int) (c45:List UInt8) (c46 c47 c48 c49 c50 c51 c52 c53 c54 c55 c56:Int) (c59:List UInt8) (c60 c61 c62 c63 c64 c65 c66 c67 c68 c69 c70:Int) (l4:List (List Ext)) (c57:List UInt8) (c58:Bool):List (Nat×Blk):=[(1000,⟨6,true,[[I c36,I c37,I c38,sl eEntry c39,sl eEntry c40,sl eEntry c41]]⟩),(1001,⟨3,true,[[I c42,I c43,I c44]]⟩),(1002,⟨17,true,[[S c45,.lit (.slice none 0 0),I c46,I c47,I c48,I c49,I c50,I c51,.lit (.slice none 0 0),I c52,I c53,.lit (.slice none 0 0),.lit (.slice none 0 0),I c54,I c55,I c56,.lit (.slice none 0 0)]]⟩),(2002,⟨2,true,[[S c57,B c58]]⟩),(3002,⟨1,false,rws (eL eExt) l3⟩),(3003,⟨1,false,rws (eL eExt) l4⟩),(3005,⟨17,true,[[S c59,.sl 3002 0 l3.length,I c60,I c61,I c62,I c63,I c64,I c65,.sl 3003 0 l4.length,I c66,I c67,.lit (.slice none 0 0),.lit (.slice none 0 0),I c68,I c69,I c70,.lit (.slice none 0 0)]]⟩)]
abbrev Fa (l3:List (List Ext)) (c36 c37 c38:Int) (c39 c40 c41:List Entry) (c42 c43 c44:Int) (c45:List UInt8) (c46 c47 c48 c49 c50 c51 c52 c53 c54 c55 c56:Int) (c59:List UInt8) (c60 c61 c62 c63 c64 c65 c66 c67 c68 c69 c70:Int) (s:(List (List Ext))×Int×(List UInt8)×Bool):St:=⟨[(4,.ptr 1000 0 0 1),(5,.ptr 1001 0 0 1),(6,.ptr 1002 0 0 1),(8,.ptr 2002 0 0 1),(9,.ptr 3005 0 0 1),(11,I s.2.1)],wN l3 c36 c37 c38 c39 c40 c41 c42 c43 c44 c45 c46 c47 c48 c49 c50 c51 c52 c53 c54 c55 c56 c59 c60 c61 c62 c63 c64 c65 c66 c67 c68 c69 c70 s.1 s.2.2.1 s.2.2.2⟩
abbrev Gx (l3:List (List Ext)) (c36 c37 c38:Int) (c39 c40 c41:List Entry) (c42 c43 c44:Int) (c45:List UInt8) (c46 c47 c48 c49 c50 c51 c52 c53 c54 c55 c56:Int) (c59:List UInt8) (c60 c61 c62 c63 c64 c65 c66 c67 c68 c69 c70:Int):((List (List Ext))×Int×Bool×(List UInt8)×Bool)→ag×St:=fun e=>(.exit 2,⟨[(4,.ptr 1000 0 0 1),(5,.ptr 1001 0 0 1),(6,.ptr 1002 0 0 1),(8,.ptr 2002 0 0 1),(9,.ptr 3005 0 0 1),(11,I e.2.1),(45,B e.2.2.1)],wN l3 c36 c37 c38 c39 c40 c41 c42 c43 c44 c45 c46 c47 c48 c49 c50 c51 c52 c53 c54 c55 c56 c59 c60 c61 c62 c63 c64 c65 c66 c67 c68 c69 c70 e.1 e.2.2.2.1 e.2.2.2.2⟩)
theorem Rc {l3 c36 c37 c38 c39 c40 c41 c42 c43 c44 c45 c46 c47 c48 c49 c50 c51 c52 c53 c54 c55 c56 c59 c60 c61 c62 c63 c64 c65 c66 c67 c68 c69 c70 s e} (h:Loop (i6 l3 c36 c37 c38 c39 c40 c41 c42 c43 c44 c45 c46 c47 c48 c49 c50 c51 c52 c53 c54 c55 c56 c59 c60 c61 c62 c63 c64 c65 c66 c67 c68 c69 c70) s=some e):aq tab ow (.close [14003,14004,14005]) Bx (Fa l3 c36 c37 c38 c39 c40 c41 c42 c43 c44 c45 c46 c47 c48 c49 c50 c51 c52 c53 c54 c55 c56 c59 c60 c61 c62 c63 c64 c65 c66 c67 c68 c69 c70 s)=some (Gx l3 c36 c37 c38 c39 c40 c41 c42 c43 c44 c45 c46 c47 c48 c49 c50 c51 c52 c53 c54 c55 c56 c59 c60 c61 c62 c63 c64 c65 c66 c67 c68 c69 c70 e):=by
 refine lrG (fun s o h=> ?_) h
 obtain ⟨_,_,_,_⟩:=s
 simp only [i6] at h
 simp only [Fa,Gx,wN,Bx,CQ]
 have d1:= @jz
 exact go2
def xO (ListtoArray:(List UInt8)) (a:System) (a2:Setting):Option (gn×Bool):=
 (bR 32 (dd.mk ListtoArray true)).bind fun r_=>
 (Loop (i8 ([]:List (List Ext)) a.Rows a.Cols a.Publics a.A a.B a.C a2.Rate a2.Queries a2.Grind (([]:List UInt8)) 0 0 0 0 0 0 0 0 0 0 0 r_.1 0 0 0 0 0 0 0 0 0 0 0) (([]:List (List Ext)),0,r_.2.t,r_.2.ok)).bind fun e_=>
 (fP (dd.mk e_.2.2.2.1 e_.2.2.2.2)).bind fun r_3=>
 (fP r_3.2).bind fun r_4=>
 (fP r_4.2).bind fun r_5=>
 (Loop (i6 e_.1 a.Rows a.Cols a.Publics a.A a.B a.C a2.Rate a2.Queries a2.Grind (([]:List UInt8)) 0 0 0 0 0 0 0 0 0 0 0 r_.1 r_3.1.A r_3.1.B r_4.1.A r_4.1.B r_5.1.A r_5.1.B 0 0 0 0 0) (([]:List (List Ext)),0,r_5.2.t,r_5.2.ok)).bind fun e_2=>
 (fP (dd.mk e_2.2.2.2.1 e_2.2.2.2.2)).bind fun r_7=>
 (yC (wrap .i64 (a.Cols-1)) a2 r_7.2).bind fun r_8=>
 br r_8.2.ok (
 br (r_8.2.t==(([]:List UInt8))) (
 (xm (gn.mk r_.1 e_.1 r_3.1 r_4.1 r_5.1 e_2.1 r_7.1 r_8.1) a a2).bind fun r_9=>
 some ((gn.mk r_.1 e_.1 r_3.1 r_4.1 r_5.1 e_2.1 r_7.1 r_8.1),r_9)) (
 some ((gn.mk r_.1 e_.1 r_3.1 r_4.1 r_5.1 e_2.1 r_7.1 r_8.1),false))) (
 some ((gn.mk r_.1 e_.1 r_3.1 r_4.1 r_5.1 e_2.1 r_7.1 r_8.1),false))
theorem ZY {ListtoArray a a2 r} (h:xO ListtoArray a a2=some r):Call tab ow 125 [S ListtoArray,.agg [I a.Rows,I a.Cols,I a.Publics,sl eEntry a.A,sl eEntry a.B,sl eEntry a.C],.agg [I a2.Rate,I a2.Queries,I a2.Grind]] []=some (.tup [.agg [S r.1.Root,sl (eL eExt) r.1.Gates,I r.1.VA.A,I r.1.VA.B,I r.1.VB.A,I r.1.VB.B,I r.1.VC.A,I r.1.VC.B,sl (eL eExt) r.1.Wires,I r.1.VW.A,I r.1.VW.B,sl (eL eExt) r.1.Open.Rounds,sl eS r.1.Open.Roots,I r.1.Open.Last.A,I r.1.Open.Last.B,I r.1.Open.Nonce,sl aE r.1.Open.Queries],B r.2],[]):=by
 rw [ab (af:=w9) rfl]
 unfold xO at h
 simp only [w9,we]
 have d1:= @jx
 have d2:= @Ri
 have d3:= @Bm
 have d4:= @Rc
 have d5:= @Yq
 have d6:= @Zq
 exact go2
end
def mo (s:System) (t:Setting) (publics:(List Int)) (b:(List UInt8)) (source:Source):Option (Bool×Int):=
 br (decide (((publics.length:Nat):Int)>4096)) (
 some (false,2)) (
 br (decide (((b.length:Nat):Int)>65536)) (
 some (false,2)) (
 (C8 s t publics source).bind fun r_=>
 br (r_ !=0) (
 some (false,r_)) (
 (xO b s t).bind fun r_2=>
 br (!r_2.2) (
 some (false,3)) (
 (nB s t publics r_2.1 source).bind fun r_3=>
 some ((r_3==0),r_3)))))
theorem My {s t publics b source r} (h:mo s t publics b source=some r):Call tab ow 43 [.agg [I s.Rows,I s.Cols,I s.Publics,sl eEntry s.A,sl eEntry s.B,sl eEntry s.C],.agg [I t.Rate,I t.Queries,I t.Grind],sl eI publics,sl eU8 b,.agg [sl eExt source.Script,I source.At,S source.State,I source.Count]] []=some (.tup [B r.1,I r.2],[]):=by
 rw [ab (af:=n8) rfl]
 unfold mo at h
 simp only [n8,AP]
 have d1:= @a2B
 have d2:= @ZY
 have d3:= @Se
 exact go2
def dT (vars2 t2 c c2 c3:Int):Int×Int→Option ((Int×Int)⊕((Int×Int×Bool)))
 | (hashes,t3)=>
   br (decide (t3<t2)) (
   some (.inl ((wrap .i64 (hashes+(wrap .i64 ((wrap .i64 ((wrap .i64 (vars2+c))-1))-t3)))),(wrap .i64 (t3+1))))) (
   some (.inr (hashes,t3,decide (t3<t2))))
abbrev vG (vars2 t2 c c2 c3:Int) (s:Int×Int):St:=⟨[(0,I vars2),(3,.ptr 1000 0 0 1),(5,I s.1),(7,I t2),(8,I s.2)],[(1000,⟨3,true,[[I c,I c2,I c3]]⟩)]⟩
abbrev vL (vars2 t2 c c2 c3:Int):(Int×Int×Bool)→ag×St:=fun e=>(.exit 0,⟨[(0,I vars2),(3,.ptr 1000 0 0 1),(5,I e.1),(7,I t2),(8,I e.2.1),(9,B e.2.2)],[(1000,⟨3,true,[[I c,I c2,I c3]]⟩)]⟩)
theorem JB {vars2 t2 c c2 c3 s e} (h:Loop (dT vars2 t2 c c2 c3) s=some e):aq tab ow (.close []) vI (vG vars2 t2 c c2 c3 s)=some (vL vars2 t2 c c2 c3 e):=by
 refine lrG (fun s o h=> ?_) h
 obtain ⟨_,_⟩:=s
 simp only [dT] at h
 simp only [vG,vL,vI,vR]
 exact go2
def mg (vars:Int) (t:Setting):Option (Int):=
 (Loop (dT vars vars t.Rate t.Queries t.Grind) (0,0)).bind fun e_=>
 some (wrap .i64 ((wrap .i64 ((wrap .i64 ((wrap .i64 ((wrap .i64 (24*vars))+(wrap .i64 (32*(wrap .i64 (vars-1))))))+8))+4))+(wrap .i64 (t.Queries*(wrap .i64 ((wrap .i64 (16*vars))+(wrap .i64 (32*e_.1))))))))
theorem Mq {vars t r} (h:mg vars t=some r):Call tab ow 321 [I vars,.agg [I t.Rate,I t.Queries,I t.Grind]] []=some (I r,[]):=by
 rw [ab (af:=mL) rfl]
 unfold mg at h
 simp only [mL,s3]
 have d1:= @JB
 exact go2
def rk (s:System) (t:Setting):Option (Int):=
 (mg (wrap .i64 (s.Cols-1)) t).bind fun r_=>
 some (wrap .i64 ((wrap .i64 ((wrap .i64 ((wrap .i64 ((wrap .i64 (32+(wrap .i64 (32*s.Rows))))+24))+(wrap .i64 (24*s.Cols))))+8))+r_))
theorem Rj {s t r} (h:rk s t=some r):Call tab ow 235 [.agg [I s.Rows,I s.Cols,I s.Publics,sl eEntry s.A,sl eEntry s.B,sl eEntry s.C],.agg [I t.Rate,I t.Queries,I t.Grind]] []=some (I r,[]):=by
 rw [ab (af:=pH) rfl]
 unfold rk at h
 simp only [pH,Gv]
 have d1:= @Mq
 exact go2
def dN (n:Int) (m:aR):Option ((List UInt8)×aR):=
 (jO m.b 0 n).bind fun y=>
 (jO m.b n ((m.b.length:Nat):Int)).bind fun y2=>
 some (y,(aR.mk y2))
theorem lD {n m r} (h:dN n m=some r):Call tab ow 322 [.ptr 0 0 0 1,I n] [⟨1,true,[[sl eU8 m.b]]⟩]=some (sl eU8 r.1,[⟨1,true,[[sl eU8 r.2.b]]⟩]):=by
 rw [ab (af:=iD) rfl]
 unfold dN at h
 simp only [iD,sc]
 exact go2
def dU (m:aR):Option ((List UInt8)×aR):=
 (dN 32 m).bind fun r_=>
 some (r_.1,r_.2)
theorem lz {m r} (h:dU m=some r):Call tab ow 236 [.ptr 0 0 0 1] [⟨1,true,[[sl eU8 m.b]]⟩]=some (S r.1,[⟨1,true,[[sl eU8 r.2.b]]⟩]):=by
 rw [ab (af:=iA) rfl]
 unfold dU at h
 simp only [iA,sg]
 have d1:= @lD
 exact go2
section
theorem Sr:mkR 2000 []=rws eExt []:=rfl
attribute [local go_sem] Sr
theorem SE:mkR 6015 []=rws eExt []:=rfl
attribute [local go_sem] SE
def kh (b2:List UInt8):(List Ext)×Int→Option (((List Ext)×Int)⊕(((List Ext)×Int×Bool)))
 | (l,i)=>
   br (decide ((wrap .i64 (i+8))≤((b2.length:Nat):Int))) (
   (jO b2 i (wrap .i64 (i+4))).bind fun y=>
   (nX y).bind fun r_=>
   (jO b2 (wrap .i64 (i+4)) (wrap .i64 (i+8))).bind fun y2=>
   (nX y2).bind fun r_2=>
   br (bE ((l++([(Ext.mk r_ r_2)]:List Ext)).length) 16) (
   some (.inl ((l++([(Ext.mk r_ r_2)]:List Ext)),(wrap .i64 (i+8))))) none) (
   some (.inr (l,i,decide ((wrap .i64 (i+8))≤((b2.length:Nat):Int)))))
abbrev Dh (b2:List UInt8) (s:(List Ext)×Int):St:=⟨[(0,sl eU8 b2),(4,.sl 2000 0 s.1.length),(5,I s.2)],[(2000,⟨2,false,rws eExt s.1⟩)]⟩
abbrev Cg (b2:List UInt8):((List Ext)×Int×Bool)→ag×St:=fun e=>(.exit 0,⟨[(0,sl eU8 b2),(4,.sl 2000 0 e.1.length),(5,I e.2.1),(11,B e.2.2)],[(2000,⟨2,false,rws eExt e.1⟩)]⟩)
theorem P9 {b2 s e} (h:Loop (kh b2) s=some e):aq tab ow (.close [6006,6013,6015,6016]) BC (Dh b2 s)=some (Cg b2 e):=by
 refine lrG (fun s o h=> ?_) h
 obtain ⟨_,_⟩:=s
 simp only [kh] at h
 simp only [Dh,Cg,BC,Cn]
 have d1:= @GC
 exact go2
def uu (b:(List UInt8)):Option ((List Ext)×Bool):=
 (Loop (kh b) (([]:List Ext),0)).bind fun e_=>
 br ((((b.length:Nat):Int).tmod 8)==0) (
 (dh e_.1).bind fun r_3=>
 some (e_.1,r_3)) (
 some (e_.1,false))
theorem We {b r} (h:uu b=some r):Call tab ow 323 [sl eU8 b] []=some (.tup [sl eExt r.1,B r.2],[]):=by
 rw [ab (af:=tc) rfl]
 unfold uu at h
 simp only [tc,za]
 have d1:= @P9
 have d2:= @iB
 exact go2
end
def cC (n:Int) (m:aR):Option ((List Ext)×aR):=
 (dN (wrap .i64 (8*n)) m).bind fun r_=>
 (uu r_.1).bind fun r_2=>
 some (r_2.1,r_.2)
theorem iC {n m r} (h:cC n m=some r):Call tab ow 238 [.ptr 0 0 0 1,I n] [⟨1,true,[[sl eU8 m.b]]⟩]=some (sl eExt r.1,[⟨1,true,[[sl eU8 r.2.b]]⟩]):=by
 rw [ab (af:=iz) rfl]
 unfold cC at h
 simp only [iz,sw]
 have d1:= @lD
 have d2:= @We
 exact go2
section
theorem yM:mkR 2000 []=rws (eL eExt) []:=rfl
attribute [local go_sem] yM
theorem yK:mkR 5004 []=rws (eL eExt) []:=rfl
attribute [local go_sem] yK
def cf (size2 t:Int):(List (List Ext))×Int×(List UInt8)→Option (((List (List Ext))×Int×(List UInt8))⊕(((List (List Ext))×Int×Bool×(List UInt8))))
 | (l,t2,c)=>
   br (decide (t2<t)) (
   (cC size2 (aR.mk c)).bind fun r_=>
   br (bE ((l++([r_.1]:List (List Ext))).length) 24) (
   some (.inl ((l++([r_.1]:List (List Ext))),(wrap .i64 (t2+1)),r_.2.b))) none) (
   some (.inr (l,t2,decide (t2<t),c)))
abbrev iV (l:List (List Ext)) (c:List UInt8):List (Nat×Blk):=[(0,⟨1,true,[[sl eU8 c]]⟩),(2000,⟨1,false,rws (eL eExt) l⟩)]
abbrev nU (size2 t:Int) (s:(List (List Ext))×Int×(List UInt8)):St:=⟨[(0,.ptr 0 0 0 1),(2,I size2),(7,.sl 2000 0 s.1.length),(9,I t),(10,I s.2.1)],iV s.1 s.2.2⟩
abbrev nH (size2 t:Int):((List (List Ext))×Int×Bool×(List UInt8))→ag×St:=fun e=>(.exit 0,⟨[(0,.ptr 0 0 0 1),(2,I size2),(7,.sl 2000 0 e.1.length),(9,I t),(10,I e.2.1),(11,B e.2.2.1)],iV e.1 e.2.2.2⟩)
theorem yb {size2 t s e} (h:Loop (cf size2 t) s=some e):aq tab ow (.close [5003,5004,5005]) nV (nU size2 t s)=some (nH size2 t e):=by
 refine lrG (fun s o h=> ?_) h
 obtain ⟨_,_,_⟩:=s
 simp only [cf] at h
 simp only [nU,nH,iV,nV,nS]
 have d1:= @iC
 exact go2
def dc (many size:Int) (m:aR):Option ((List (List Ext))×aR):=
 (Loop (cf size many) (([]:List (List Ext)),0,m.b)).bind fun e_=>
 some (e_.1,(aR.mk e_.2.2.2))
theorem oJ {many size m r} (h:dc many size m=some r):Call tab ow 237 [.ptr 0 0 0 1,I many,I size] [⟨1,true,[[sl eU8 m.b]]⟩]=some (sl (eL eExt) r.1,[⟨1,true,[[sl eU8 r.2.b]]⟩]):=by
 rw [ab (af:=gG) rfl]
 unfold dc at h
 simp only [gG,jQ]
 have d1:= @yb
 exact go2
end
end
end Go.AI.Fn
set_option linter.unusedVariables false
set_option linter.unusedSimpArgs false
set_option maxRecDepth 100000
set_option maxHeartbeats 1000000
namespace Go.AI.Fn
noncomputable section
open IntKind (wrap)
section
theorem yq:mkR 5004 []=rws eS []:=rfl
attribute [local go_sem] yq
theorem y6:mkR 15000 []=rws eS []:=rfl
attribute [local go_sem] y6
theorem xT:mkR 18003 []=rws eS []:=rfl
attribute [local go_sem] xT
theorem xI:mkR 20003 []=rws (eL eS) []:=rfl
attribute [local go_sem] xI
theorem yn:mkR 22003 []=rws aE []:=rfl
attribute [local go_sem] yn
def bD (t t2 c2 c3 c4 c5 c6 c7:Int) (c8:List (List Ext)) (c9 c10 c11:Int):(List (List UInt8))×Int×(List UInt8)→Option (((List (List UInt8))×Int×(List UInt8))⊕(((List (List UInt8))×Int×Bool×(List UInt8))))
 | (l,t3,c)=>
   br (decide (t3<t2)) (
   (dU (aR.mk c)).bind fun r_2=>
   br (bE ((l++([r_2.1]:List (List UInt8))).length) 16) (
   some (.inl ((l++([r_2.1]:List (List UInt8))),(wrap .i64 (t3+1)),r_2.2.b))) none) (
   some (.inr (l,t3,decide (t3<t2),c)))
abbrev is (c2 c3 c4 c5 c6 c7:Int) (c8:List (List Ext)) (c9 c10 c11:Int) (l:List (List UInt8)) (c:List UInt8):List (Nat×Blk):=[(0,⟨1,true,[[sl eU8 c]]⟩),(1000,⟨3,true,[[I c2,I c3,I c4]]⟩),(1001,⟨6,true,[[.lit (.slice none 0 0),.lit (.slice none 0 0),I c5,I c6,I c7,.lit (.slice none 0 0)]]⟩),(2004,⟨6,true,[[sl (eL eExt) c8,.sl 4900 0 l.length,I c9,I c10,I c11,.lit (.slice none 0 0)]]⟩),(4900,⟨1,false,rws eS l⟩)]
abbrev mw (t t2 c2 c3 c4 c5 c6 c7:Int) (c8:List (List Ext)) (c9 c10 c11:Int) (s:(List (List UInt8))×Int×(List UInt8)):St:=⟨[(0,.ptr 0 0 0 1),(1,I t),(5,.ptr 1000 0 0 1),(6,.ptr 1001 0 0 1),(7,.ptr 2004 0 0 1),(16,I t2),(17,I s.2.1)],is c2 c3 c4 c5 c6 c7 c8 c9 c10 c11 s.1 s.2.2⟩
abbrev mm (t t2 c2 c3 c4 c5 c6 c7:Int) (c8:List (List Ext)) (c9 c10 c11:Int):((List (List UInt8))×Int×Bool×(List UInt8))→ag×St:=fun e=>(.exit 0,⟨[(0,.ptr 0 0 0 1),(1,I t),(5,.ptr 1000 0 0 1),(6,.ptr 1001 0 0 1),(7,.ptr 2004 0 0 1),(16,I t2),(17,I e.2.1),(18,B e.2.2.1)],is c2 c3 c4 c5 c6 c7 c8 c9 c10 c11 e.1 e.2.2.2⟩)
theorem wY {t t2 c2 c3 c4 c5 c6 c7 c8 c9 c10 c11 s e} (h:Loop (bD t t2 c2 c3 c4 c5 c6 c7 c8 c9 c10 c11) s=some e):aq tab ow (.both (.close [5003,5004,5005]) (.nilCell 2004 1 4900 1)) mr (mw t t2 c2 c3 c4 c5 c6 c7 c8 c9 c10 c11 s)=some (mm t t2 c2 c3 c4 c5 c6 c7 c8 c9 c10 c11 e):=by
 refine lrG (fun s o h=> ?_) h
 obtain ⟨_,_,_⟩:=s
 simp only [bD] at h
 simp only [mw,mm,is,mr,mu]
 have d1:= @lz
 exact go2
def bz (l7:List (List UInt8)) (l8:List aj) (l9:List (List (List UInt8))) (t12 t13 t14 t15 t16 t17 c36 c37 c38 c39 c40 c41:Int) (c42:List (List Ext)) (c43 c44 c45:Int) (c46:List Ext):(List (List UInt8))×Int×(List UInt8)→Option (((List (List UInt8))×Int×(List UInt8))⊕(((List (List UInt8))×Int×Bool×(List UInt8))))
 | (l10,t18,c35)=>
   br (decide (t18<t17)) (
   (dU (aR.mk c35)).bind fun r_7=>
   br (bE ((l10++([r_7.1]:List (List UInt8))).length) 16) (
   some (.inl ((l10++([r_7.1]:List (List UInt8))),(wrap .i64 (t18+1)),r_7.2.b))) none) (
   some (.inr (l10,t18,decide (t18<t17),c35)))
abbrev i5 (l7:List (List UInt8)) (l8:List aj) (l9:List (List (List UInt8))) (c36 c37 c38 c39 c40 c41:Int) (c42:List (List Ext)) (c43 c44 c45:Int) (c46:List Ext) (l10:List (List UInt8)) (c35:List UInt8):List (Nat×Blk):=[(0,⟨1,true,[[sl eU8 c35]]⟩),(1000,⟨3,true,[[I c36,I c37,I c38]]⟩),(1001,⟨6,true,[[.lit (.slice none 0 0),.lit (.slice none 0 0),I c39,I c40,I c41,.lit (.slice none 0 0)]]⟩),(2004,⟨6,true,[[sl (eL eExt) c42,.sl 4900 0 l7.length,I c43,I c44,I c45,.sl 10900 0 l8.length]]⟩),(4900,⟨1,false,rws eS l7⟩),(10900,⟨2,false,rws aE l8⟩),(11005,⟨2,true,[[sl eExt c46,.sl 13900 0 l9.length]]⟩),(13900,⟨1,false,rws (eL eS) l9⟩),(15000,⟨1,false,rws eS l10⟩)]
abbrev lZ (l7:List (List UInt8)) (l8:List aj) (l9:List (List (List UInt8))) (t12 t13 t14 t15 t16 t17 c36 c37 c38 c39 c40 c41:Int) (c42:List (List Ext)) (c43 c44 c45:Int) (c46:List Ext) (s:(List (List UInt8))×Int×(List UInt8)):St:=⟨[(0,.ptr 0 0 0 1),(1,I t12),(5,.ptr 1000 0 0 1),(6,.ptr 1001 0 0 1),(7,.ptr 2004 0 0 1),(8,.ptr 11005 0 0 1),(10,.sl 15000 0 s.1.length),(37,I t13),(38,I t14),(45,I t15),(46,I t16),(56,I t17),(57,I s.2.1)],i5 l7 l8 l9 c36 c37 c38 c39 c40 c41 c42 c43 c44 c45 c46 s.1 s.2.2⟩
abbrev ml (l7:List (List UInt8)) (l8:List aj) (l9:List (List (List UInt8))) (t12 t13 t14 t15 t16 t17 c36 c37 c38 c39 c40 c41:Int) (c42:List (List Ext)) (c43 c44 c45:Int) (c46:List Ext):((List (List UInt8))×Int×Bool×(List UInt8))→ag×St:=fun e=>(.exit 6,⟨[(0,.ptr 0 0 0 1),(1,I t12),(5,.ptr 1000 0 0 1),(6,.ptr 1001 0 0 1),(7,.ptr 2004 0 0 1),(8,.ptr 11005 0 0 1),(10,.sl 15000 0 e.1.length),(37,I t13),(38,I t14),(45,I t15),(46,I t16),(56,I t17),(57,I e.2.1),(58,B e.2.2.1)],i5 l7 l8 l9 c36 c37 c38 c39 c40 c41 c42 c43 c44 c45 c46 e.1 e.2.2.2⟩)
theorem wU {l7 l8 l9 t12 t13 t14 t15 t16 t17 c36 c37 c38 c39 c40 c41 c42 c43 c44 c45 c46 s e} (h:Loop (bz l7 l8 l9 t12 t13 t14 t15 t16 t17 c36 c37 c38 c39 c40 c41 c42 c43 c44 c45 c46) s=some e):aq tab ow (.close [18002,18003,18004]) ll (lZ l7 l8 l9 t12 t13 t14 t15 t16 t17 c36 c37 c38 c39 c40 c41 c42 c43 c44 c45 c46 s)=some (ml l7 l8 l9 t12 t13 t14 t15 t16 t17 c36 c37 c38 c39 c40 c41 c42 c43 c44 c45 c46 e):=by
 refine lrG (fun s o h=> ?_) h
 obtain ⟨_,_,_⟩:=s
 simp only [bz] at h
 simp only [lZ,ml,i5,ll,lu]
 have d1:= @lz
 exact go2
def bT (l4:List (List UInt8)) (l5:List aj) (t7 t8 t9 t10 c24 c25 c26 c27 c28 c29:Int) (c30:List (List Ext)) (c31 c32 c33:Int) (c34:List Ext):(List (List (List UInt8)))×Int×(List UInt8)→Option (((List (List (List UInt8)))×Int×(List UInt8))⊕(((List (List (List UInt8)))×Int×Bool×(List UInt8))))
 | (l6,t11,c23)=>
   br (decide (t11<t10)) (
   (Loop (bz l4 l5 l6 t7 t8 t9 t10 t11 (wrap .i64 ((wrap .i64 ((wrap .i64 (t7+c24))-1))-t11)) c24 c25 c26 c27 c28 c29 c30 c31 c32 c33 c34) (([]:List (List UInt8)),0,c23)).bind fun e_2=>
   br (bE ((l6++([e_2.1]:List (List (List UInt8)))).length) 24) (
   some (.inl ((l6++([e_2.1]:List (List (List UInt8)))),(wrap .i64 (t11+1)),e_2.2.2.2))) none) (
   some (.inr (l6,t11,decide (t11<t10),c23)))
abbrev im (l4:List (List UInt8)) (l5:List aj) (c24 c25 c26 c27 c28 c29:Int) (c30:List (List Ext)) (c31 c32 c33:Int) (c34:List Ext) (l6:List (List (List UInt8))) (c23:List UInt8):List (Nat×Blk):=[(0,⟨1,true,[[sl eU8 c23]]⟩),(1000,⟨3,true,[[I c24,I c25,I c26]]⟩),(1001,⟨6,true,[[.lit (.slice none 0 0),.lit (.slice none 0 0),I c27,I c28,I c29,.lit (.slice none 0 0)]]⟩),(2004,⟨6,true,[[sl (eL eExt) c30,.sl 4900 0 l4.length,I c31,I c32,I c33,.sl 10900 0 l5.length]]⟩),(4900,⟨1,false,rws eS l4⟩),(10900,⟨2,false,rws aE l5⟩),(11005,⟨2,true,[[sl eExt c34,.sl 13900 0 l6.length]]⟩),(13900,⟨1,false,rws (eL eS) l6⟩)]
abbrev lN (l4:List (List UInt8)) (l5:List aj) (t7 t8 t9 t10 c24 c25 c26 c27 c28 c29:Int) (c30:List (List Ext)) (c31 c32 c33:Int) (c34:List Ext) (s:(List (List (List UInt8)))×Int×(List UInt8)):St:=⟨[(0,.ptr 0 0 0 1),(1,I t7),(5,.ptr 1000 0 0 1),(6,.ptr 1001 0 0 1),(7,.ptr 2004 0 0 1),(8,.ptr 11005 0 0 1),(37,I t8),(38,I t9),(45,I t10),(46,I s.2.1)],im l4 l5 c24 c25 c26 c27 c28 c29 c30 c31 c32 c33 c34 s.1 s.2.2⟩
abbrev md (l4:List (List UInt8)) (l5:List aj) (t7 t8 t9 t10 c24 c25 c26 c27 c28 c29:Int) (c30:List (List Ext)) (c31 c32 c33:Int) (c34:List Ext):((List (List (List UInt8)))×Int×Bool×(List UInt8))→ag×St:=fun e=>(.exit 4,⟨[(0,.ptr 0 0 0 1),(1,I t7),(5,.ptr 1000 0 0 1),(6,.ptr 1001 0 0 1),(7,.ptr 2004 0 0 1),(8,.ptr 11005 0 0 1),(37,I t8),(38,I t9),(45,I t10),(46,I e.2.1),(47,B e.2.2.1)],im l4 l5 c24 c25 c26 c27 c28 c29 c30 c31 c32 c33 c34 e.1 e.2.2.2⟩)
theorem wV {l4 l5 t7 t8 t9 t10 c24 c25 c26 c27 c28 c29 c30 c31 c32 c33 c34 s e} (h:Loop (bT l4 l5 t7 t8 t9 t10 c24 c25 c26 c27 c28 c29 c30 c31 c32 c33 c34) s=some e):aq tab ow (.both (.close [15000,18002,18003,18004,20003,20004]) (.nilCell 11005 1 13900 1)) lr (lN l4 l5 t7 t8 t9 t10 c24 c25 c26 c27 c28 c29 c30 c31 c32 c33 c34 s)=some (md l4 l5 t7 t8 t9 t10 c24 c25 c26 c27 c28 c29 c30 c31 c32 c33 c34 e):=by
 refine lrG (fun s o h=> ?_) h
 obtain ⟨_,_,_⟩:=s
 simp only [bT] at h
 simp only [lN,md,im,lr,ln]
 have d1:= @wU
 exact go2
def bS (l2:List (List UInt8)) (t4 t5 c13 c14 c15 c16 c17 c18:Int) (c19:List (List Ext)) (c20 c21 c22:Int):(List aj)×Int×(List UInt8)→Option (((List aj)×Int×(List UInt8))⊕(((List aj)×Int×Bool×(List UInt8))))
 | (l3,t6,c12)=>
   br (decide (t6<t5)) (
   (cC (wrap .i64 (2*t4)) (aR.mk c12)).bind fun r_6=>
   (Loop (bT l2 l3 t4 t5 t6 t4 c13 c14 c15 c16 c17 c18 c19 c20 c21 c22 r_6.1) (([]:List (List (List UInt8))),0,r_6.2.b)).bind fun e_3=>
   br (bE ((l3++([(aj.mk r_6.1 e_3.1)]:List aj)).length) 48) (
   some (.inl ((l3++([(aj.mk r_6.1 e_3.1)]:List aj)),(wrap .i64 (t6+1)),e_3.2.2.2))) none) (
   some (.inr (l3,t6,decide (t6<t5),c12)))
abbrev il (l2:List (List UInt8)) (c13 c14 c15 c16 c17 c18:Int) (c19:List (List Ext)) (c20 c21 c22:Int) (l3:List aj) (c12:List UInt8):List (Nat×Blk):=[(0,⟨1,true,[[sl eU8 c12]]⟩),(1000,⟨3,true,[[I c13,I c14,I c15]]⟩),(1001,⟨6,true,[[.lit (.slice none 0 0),.lit (.slice none 0 0),I c16,I c17,I c18,.lit (.slice none 0 0)]]⟩),(2004,⟨6,true,[[sl (eL eExt) c19,.sl 4900 0 l2.length,I c20,I c21,I c22,.sl 10900 0 l3.length]]⟩),(4900,⟨1,false,rws eS l2⟩),(10900,⟨2,false,rws aE l3⟩)]
abbrev mj (l2:List (List UInt8)) (t4 t5 c13 c14 c15 c16 c17 c18:Int) (c19:List (List Ext)) (c20 c21 c22:Int) (s:(List aj)×Int×(List UInt8)):St:=⟨[(0,.ptr 0 0 0 1),(1,I t4),(5,.ptr 1000 0 0 1),(6,.ptr 1001 0 0 1),(7,.ptr 2004 0 0 1),(37,I t5),(38,I s.2.1)],il l2 c13 c14 c15 c16 c17 c18 c19 c20 c21 c22 s.1 s.2.2⟩
abbrev lQ (l2:List (List UInt8)) (t4 t5 c13 c14 c15 c16 c17 c18:Int) (c19:List (List Ext)) (c20 c21 c22:Int):((List aj)×Int×Bool×(List UInt8))→ag×St:=fun e=>(.exit 2,⟨[(0,.ptr 0 0 0 1),(1,I t4),(5,.ptr 1000 0 0 1),(6,.ptr 1001 0 0 1),(7,.ptr 2004 0 0 1),(37,I t5),(38,I e.2.1),(39,B e.2.2.1)],il l2 c13 c14 c15 c16 c17 c18 c19 c20 c21 c22 e.1 e.2.2.2⟩)
theorem wK {l2 t4 t5 c13 c14 c15 c16 c17 c18 c19 c20 c21 c22 s e} (h:Loop (bS l2 t4 t5 c13 c14 c15 c16 c17 c18 c19 c20 c21 c22) s=some e):aq tab ow (.both (.close [11003,11005,15000,18002,18003,18004,20003,20004,22003,22004,13900]) (.nilCell 2004 5 10900 2)) ms (mj l2 t4 t5 c13 c14 c15 c16 c17 c18 c19 c20 c21 c22 s)=some (lQ l2 t4 t5 c13 c14 c15 c16 c17 c18 c19 c20 c21 c22 e):=by
 refine lrG (fun s o h=> ?_) h
 obtain ⟨_,_,_⟩:=s
 simp only [bS] at h
 simp only [mj,lQ,il,ms,lU]
 have d1:= @iC
 have d2:= @wV
 exact go2
def eZ (a:Int) (a2:Setting) (m:aR):Option (au×aR):=
 (dc a 3 m).bind fun r_=>
 (Loop (bD a (wrap .i64 (a-1)) a2.Rate a2.Queries a2.Grind 0 0 0 r_.1 0 0 0) (([]:List (List UInt8)),0,r_.2.b)).bind fun e_=>
 (cC 1 (aR.mk e_.2.2.2)).bind fun r_3=>
 (atL r_3.1 0).bind fun x=>
 (dN 4 r_3.2).bind fun r_4=>
 (nX r_4.1).bind fun r_5=>
 (Loop (bS e_.1 a a2.Queries a2.Rate a2.Queries a2.Grind 0 0 0 r_.1 x.A x.B r_5) (([]:List aj),0,r_4.2.b)).bind fun e_4=>
 some ((au.mk r_.1 e_.1 x r_5 e_4.1),(aR.mk e_4.2.2.2))
theorem A2 {a a2 m r} (h:eZ a a2 m=some r):Call tab ow 239 [.ptr 0 0 0 1,I a,.agg [I a2.Rate,I a2.Queries,I a2.Grind]] [⟨1,true,[[sl eU8 m.b]]⟩]=some (.agg [sl (eL eExt) r.1.Rounds,sl eS r.1.Roots,I r.1.Last.A,I r.1.Last.B,I r.1.Nonce,sl aE r.1.Queries],[⟨1,true,[[sl eU8 r.2.b]]⟩]):=by
 rw [ab (af:=fL) rfl]
 unfold eZ at h
 simp only [fL,cV]
 have d1:= @oJ
 have d2:= @wY
 have d3:= @iC
 have d4:= @lD
 have d5:= @GC
 have d6:= @wK
 exact go2
end
def qV (b:(List UInt8)) (s:System) (t:Setting):Option (gn×Bool):=
 (rk s t).bind fun r_=>
 br (((b.length:Nat):Int) !=r_) (
 some ((gn.mk (([]:List UInt8)) ([]:List (List Ext)) (Ext.mk 0 0) (Ext.mk 0 0) (Ext.mk 0 0) ([]:List (List Ext)) (Ext.mk 0 0) (au.mk ([]:List (List Ext)) ([]:List (List UInt8)) (Ext.mk 0 0) 0 ([]:List aj))),false)) (
 (dU (aR.mk b)).bind fun r_2=>
 (dc s.Rows 4 r_2.2).bind fun r_3=>
 (cC 3 r_3.2).bind fun r_4=>
 (atL r_4.1 0).bind fun x=>
 (atL r_4.1 1).bind fun x2=>
 (atL r_4.1 2).bind fun x3=>
 (dc s.Cols 3 r_4.2).bind fun r_5=>
 (cC 1 r_5.2).bind fun r_6=>
 (atL r_6.1 0).bind fun x4=>
 (eZ (wrap .i64 (s.Cols-1)) t r_6.2).bind fun r_7=>
 (tP (gn.mk r_2.1 r_3.1 x x2 x3 r_5.1 x4 r_7.1) s t).bind fun r_8=>
 some ((gn.mk r_2.1 r_3.1 x x2 x3 r_5.1 x4 r_7.1),r_8))
theorem QZ {b s t r} (h:qV b s t=some r):Call tab ow 126 [sl eU8 b,.agg [I s.Rows,I s.Cols,I s.Publics,sl eEntry s.A,sl eEntry s.B,sl eEntry s.C],.agg [I t.Rate,I t.Queries,I t.Grind]] []=some (.tup [.agg [S r.1.Root,sl (eL eExt) r.1.Gates,I r.1.VA.A,I r.1.VA.B,I r.1.VB.A,I r.1.VB.B,I r.1.VC.A,I r.1.VC.B,sl (eL eExt) r.1.Wires,I r.1.VW.A,I r.1.VW.B,sl (eL eExt) r.1.Open.Rounds,sl eS r.1.Open.Roots,I r.1.Open.Last.A,I r.1.Open.Last.B,I r.1.Open.Nonce,sl aE r.1.Open.Queries],B r.2],[]):=by
 rw [ab (af:=qC) rfl]
 unfold qV at h
 simp only [qC,EZ]
 have d1:= @Rj
 have d2:= @lz
 have d3:= @oJ
 have d4:= @iC
 have d5:= @A2
 have d6:= @KV
 exact go2
def mi (s:System) (t:Setting) (publics:(List Int)) (b:(List UInt8)) (source:Source):Option (Bool×Int):=
 br (decide (((b.length:Nat):Int)>65536)) (
 some (false,2)) (
 (rI s t publics source).bind fun r_=>
 br (r_ !=0) (
 some (false,r_)) (
 (qV b s t).bind fun r_2=>
 br (!r_2.2) (
 some (false,3)) (
 (zX s t publics r_2.1 source).bind fun r_3=>
 some (r_3.1,r_3.2))))
theorem MJ {s t publics b source r} (h:mi s t publics b source=some r):Call tab ow 45 [.agg [I s.Rows,I s.Cols,I s.Publics,sl eEntry s.A,sl eEntry s.B,sl eEntry s.C],.agg [I t.Rate,I t.Queries,I t.Grind],sl eI publics,sl eU8 b,.agg [sl eExt source.Script,I source.At,S source.State,I source.Count]] []=some (.tup [B r.1,I r.2],[]):=by
 rw [ab (af:=mE) rfl]
 unfold mi at h
 simp only [mE,Bd]
 have d1:= @RG
 have d2:= @QZ
 have d3:= @Xe
 exact go2
def q8 (a2 b2:List UInt8):Int→Option ((Int)⊕(Unit⊕(Int×Bool)))
 |i=>
  br (decide (i<((a2.length:Nat):Int))) (
  (atL a2 i).bind fun x=>
  (atL b2 i).bind fun x2=>
  br ((x.toNat:Int) !=(x2.toNat:Int)) (
  some (.inr (.inl ()))) (
  some (.inl (wrap .i64 (i+1))))) (
  some (.inr (.inr (i,decide (i<((a2.length:Nat):Int))))))
abbrev EV (a2 b2:List UInt8) (s:Int):St:=⟨[(0,sl eU8 a2),(1,sl eU8 b2),(5,I s)],[]⟩
abbrev EO (a2 b2:List UInt8):(Unit⊕(Int×Bool))→ag×St:=alt (fun e=>((.ret,⟨[(4,B false)],[]⟩):ag×St)) (fun e=>(.exit 0,⟨[(0,sl eU8 a2),(1,sl eU8 b2),(5,I e.1),(14,B e.2)],[]⟩))
theorem RI {a2 b2 s e} (h:Loop (q8 a2 b2) s=some e):aq tab ow (.close []) EL (EV a2 b2 s)=some (EO a2 b2 e):=by
 refine lrG (fun s o h=> ?_) h
 simp only [q8] at h
 simp only [EV,EO,EL,FO]
 exact go2
def yA (a b:(List UInt8)):Option (Bool):=
 br (((a.length:Nat):Int) !=((b.length:Nat):Int)) (
 some false) (
 (Loop (q8 a b) 0).bind (alt (fun e_2=>
 some false) (fun e_3=>
 some true)))
theorem Yl {a b r} (h:yA a b=some r):Call tab ow 46 [sl eU8 a,sl eU8 b] []=some (B r,[]):=by
 rw [ab (af:=wh) rfl]
 unfold yA at h
 simp only [wh,D0]
 have d1:= @RI
 exact go2
def i0 (ListtoArray:System) (a:Setting) (a2:(List Int)) (a3:(List UInt8)) (a4:Source):Option (Bool):=
 br (decide (((a2.length:Nat):Int)>1048576)) (
 some true) (
 br (decide (((a3.length:Nat):Int)>1048576)) (
 some true) (
 (tX ListtoArray 1048576).bind fun r_=>
 br (decide (r_<0)) (
 some true) (
 (uM a4 r_).bind fun r_2=>
 br (decide (r_2<0)) (
 some true) (
 (ng ListtoArray).bind fun r_3=>
 (rD a).bind fun r_4=>
 (u7 a2).bind fun r_5=>
 (oS a3).bind fun r_6=>
 (nb a4).bind fun r_7=>
 (mo r_3 r_4 r_5 r_6 r_7).bind fun r_8=>
 (ng ListtoArray).bind fun r_9=>
 (u7 a2).bind fun r_10=>
 (oS a3).bind fun r_11=>
 (nb a4).bind fun r_12=>
 (rD a).bind fun r_13=>
 (mi r_9 r_13 r_10 r_11 r_12).bind fun r_14=>
 br (r_14.1 !=r_8.1) (
 some false) (
 br (r_14.2 !=r_8.2) (
 some false) (
 (ng ListtoArray).bind fun r_15=>
 (ui r_9 r_15).bind fun r_16=>
 br (!r_16) (
 some false) (
 (u7 a2).bind fun r_17=>
 (Bz r_10 r_17).bind fun r_18=>
 br (!r_18) (
 some false) (
 (oS a3).bind fun r_19=>
 (yA r_11 r_19).bind fun r_20=>
 br (!r_20) (
 some false) (
 (nb a4).bind fun r_21=>
 (uG r_12 r_21).bind fun r_22=>
 br (!r_22) (
 some false) (
 some true))))))))))
theorem w_FnExactVerifyBytes_c {ListtoArray a a2 a3 a4 r} (h:i0 ListtoArray a a2 a3 a4=some r):Call tab ow 6 [.agg [I ListtoArray.Rows,I ListtoArray.Cols,I ListtoArray.Publics,sl eEntry ListtoArray.A,sl eEntry ListtoArray.B,sl eEntry ListtoArray.C],.agg [I a.Rate,I a.Queries,I a.Grind],sl eI a2,sl eU8 a3,.agg [sl eExt a4.Script,I a4.At,S a4.State,I a4.Count]] []=some (B r,[]):=by
 rw [ab (af:=a_w_FnExactVerifyBytes) rfl]
 unfold i0 at h
 simp only [a_w_FnExactVerifyBytes,o5]
 have d1:= @X5
 have d2:= @Ws
 have d3:= @W8
 have d4:= @RU
 have d5:= @a2W
 have d6:= @a0p
 have d7:= @V5
 have d8:= @My
 have d9:= @MJ
 have d10:= @VZ
 have d11:= @a2O
 have d12:= @Yl
 have d13:= @V9
 exact go2
end
end Go.AI.Fn
