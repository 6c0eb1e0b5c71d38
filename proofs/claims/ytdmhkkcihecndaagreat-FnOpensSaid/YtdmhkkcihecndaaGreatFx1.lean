/- Walks through the program, with open values. -/
import Derived.Test.YtdmhkkcihecndaaGreatFx0
import Derived.Test.YtdmhkkcihecndaaGreatTb2
set_option linter.unusedVariables false
set_option linter.unusedSimpArgs false
set_option maxRecDepth 100000
set_option maxHeartbeats 1000000
namespace Go.AI.Fn
section
noncomputable def fy (kind2:Int) (tables2:List (List Ext)):(List Ext)×Int→Option (((List Ext)×Int)⊕(((List Ext)×Int×Bool)))
 | (l,x)=>
   (oo kind2).bind fun r_=>
   br (decide (x≤r_)) (
   (nE x).bind fun r_2=>
   (qN tables2 r_2).bind fun r_3=>
   (Aa kind2 r_3).bind fun r_4=>
   br (aZ ((l++([r_4]:List Ext)).length) 16) (
   some (.inl ((l++([r_4]:List Ext)),(IntKind.wrap .i64 (x+(1:Int)))))) none) (
   some (.inr (l,x,decide (x≤r_))))
@[reducible] def zI (kind2:Int) (tables2:List (List Ext)) (s:(List Ext)×Int):St:=⟨[(0,I kind2),(1,sl (eL ae) tables2),(5,.sl 2000 0 s.1.length),(6,I s.2)],[(2000,⟨2,false,rws ae s.1⟩)]⟩
@[reducible] def yU (kind2:Int) (tables2:List (List Ext)):((List Ext)×Int×Bool)→ai×St:=fun e=>(.exit 0,⟨[(0,I kind2),(1,sl (eL ae) tables2),(5,.sl 2000 0 e.1.length),(6,I e.2.1),(11,B e.2.2)],[(2000,⟨2,false,rws ae e.1⟩)]⟩)
theorem Ld {kind2 tables2 s e} (h:Loop (fy kind2 tables2) s=some e):aD tab ow (.close [4002,6004,6005,6006,6007,6008]) rS (zI kind2 tables2 s)=some (yU kind2 tables2 e):=by
 refine lrG (fun s o h=> ?_) h
 obtain ⟨_,_⟩:=s
 simp only [fy] at h
 simp+decide only [zI,yU,rS,go_sem,reduceIte,Nat.reduceAdd]
 have d1:= @Nl
 have d2:= @qK
 have d3:= @GV
 have d4:= @V8
 all_goals exact go
noncomputable def ni (kind:Int) (tables:(List (List Ext))):Option ((List Ext)):=
 (Loop (fy kind tables) (([]:List Ext),(0:Int))).bind fun e_=>
 some e_.1
theorem Pc {kind tables r} (h:ni kind tables=some r):Call tab ow 174 [I kind,sl (eL ae) tables] []=some (sl ae r,[]):=by
 rw [ab (af:=pY) rfl]
 unfold ni at h
 simp+decide only [pY,Dl,go_sem,reduceIte,Nat.reduceAdd]
 have d1:= @Ld
 all_goals exact go
end
noncomputable def lI (s:Source) (list:(List Ext)):Option (Source):=
 (ll list).bind fun r_=>
 (dP s r_).bind fun r_2=>
 some r_2
theorem th {s list r} (h:lI s list=some r):Call tab ow 175 [.agg [sl ae s.Script,I s.At,S s.State,I s.Count],sl ae list] []=some (.agg [sl ae r.Script,I r.At,S r.State,I r.Count],[]):=by
 rw [ab (af:=tz) rfl]
 unfold lI at h
 simp+decide only [tz,Hf,go_sem,reduceIte,Nat.reduceAdd]
 have d1:= @xv
 have d2:= @gj
 all_goals exact go
noncomputable def i8 (a:Int):Option (Int):=
 (o8 a (2130706431:Int)).bind fun r_=>
 some r_
theorem zY {a r} (h:i8 a=some r):Call tab ow 298 [I a] []=some (I r,[]):=by
 rw [ab (af:=lU) rfl]
 unfold i8 at h
 simp+decide only [lU,yK,go_sem,reduceIte,Nat.reduceAdd]
 have d1:= @CN
 all_goals exact go
noncomputable def iQ (n i:Int) (a b r_:Ext):Option (Ext):=
 (qJ n).bind fun r_2=>
 (qA r_2).bind fun r_3=>
 (o8 r_3 i).bind fun r_4=>
 (i8 (2:Int)).bind fun r_5=>
 (gG a b).bind fun r_6=>
 (nE r_5).bind fun r_7=>
 (cU r_6 r_7).bind fun r_8=>
 (jC a b).bind fun r_9=>
 (i8 r_4).bind fun r_10=>
 (eF r_5 r_10).bind fun r_11=>
 (nE r_11).bind fun r_12=>
 (cU r_9 r_12).bind fun r_13=>
 (cU r_ r_13).bind fun r_14=>
 (gG r_8 r_14).bind fun r_15=>
 some r_15
theorem GQ {n i a b r_ r} (h:iQ n i a b r_=some r):Call tab ow 290 [I n,I i,.agg [I a.A,I a.B],.agg [I b.A,I b.B],.agg [I r_.A,I r_.B]] []=some (.agg [I r.A,I r.B],[]):=by
 rw [ab (af:=tk) rfl]
 unfold iQ at h
 simp+decide only [tk,GH,go_sem,reduceIte,Nat.reduceAdd]
 have d1:= @If
 have d2:= @HX
 have d3:= @CN
 have d4:= @zY
 have d5:= @jk
 have d6:= @qK
 have d7:= @i7
 have d8:= @li
 have d9:= @mP
 all_goals exact go
section
noncomputable def fX (word2:List Ext) (n c c2:Int):(List Ext)×Int→Option (((List Ext)×Int)⊕(((List Ext)×Int×Bool)))
 | (l,i)=>
   br (decide (i<(IntKind.wrap .i64 (n.tdiv (2:Int))))) (
   (atL word2 i).bind fun x=>
   (atL word2 (IntKind.wrap .i64 (i+(IntKind.wrap .i64 (n.tdiv (2:Int)))))).bind fun x2=>
   (iQ n i x x2 (Ext.mk c c2)).bind fun r_2=>
   br (aZ ((l++([r_2]:List Ext)).length) 16) (
   some (.inl ((l++([r_2]:List Ext)),(IntKind.wrap .i64 (i+(1:Int)))))) none) (
   some (.inr (l,i,decide (i<(IntKind.wrap .i64 (n.tdiv (2:Int)))))))
@[reducible] def Bj (word2:List Ext) (n c c2:Int) (s:(List Ext)×Int):St:=⟨[(0,sl ae word2),(3,.ptr 1000 0 0 1),(5,.sl 2000 0 s.1.length),(6,I n),(7,I s.2)],[(1000,⟨2,true,[[I c,I c2]]⟩),(2000,⟨2,false,rws ae s.1⟩)]⟩
@[reducible] def BL (word2:List Ext) (n c c2:Int):((List Ext)×Int×Bool)→ai×St:=fun e=>(.exit 0,⟨[(0,sl ae word2),(3,.ptr 1000 0 0 1),(5,.sl 2000 0 e.1.length),(6,I n),(7,I e.2.1),(14,B e.2.2)],[(1000,⟨2,true,[[I c,I c2]]⟩),(2000,⟨2,false,rws ae e.1⟩)]⟩)
theorem N6 {word2 n c c2 s e} (h:Loop (fX word2 n c c2) s=some e):aD tab ow (.close [7015,7016,7017]) uJ (Bj word2 n c c2 s)=some (BL word2 n c c2 e):=by
 refine lrG (fun s o h=> ?_) h
 obtain ⟨_,_⟩:=s
 simp only [fX] at h
 simp+decide only [Bj,BL,uJ,go_sem,reduceIte,Nat.reduceAdd]
 have d1:= @GQ
 all_goals exact go
noncomputable def vv (word:(List Ext)) (r_:Ext):Option ((List Ext)):=
 (Loop (fX word ((word.length:Nat):Int) r_.A r_.B) (([]:List Ext),(0:Int))).bind fun e_=>
 some e_.1
theorem Tu {word r_ r} (h:vv word r_=some r):Call tab ow 177 [sl ae word,.agg [I r_.A,I r_.B]] []=some (sl ae r,[]):=by
 rw [ab (af:=sU) rfl]
 unfold vv at h
 simp+decide only [sU,Ik,go_sem,reduceIte,Nat.reduceAdd]
 have d1:= @N6
 all_goals exact go
end
noncomputable def qM (s:Source) (bits nonce:Int):Option (Bool):=
 br (aZ (s.State.length+(([103,114,105,110,100]:List UInt8)).length) 1) (
 (dR nonce (4:Int)).bind fun r_=>
 br (aZ ((s.State++(([103,114,105,110,100]:List UInt8))).length+r_.length) 1) (
 (fL ((s.State++(([103,114,105,110,100]:List UInt8)))++r_)).bind fun r_2=>
 (atL r_2 (0:Int)).bind fun c=>
 (atL r_2 (1:Int)).bind fun c2=>
 br (decide (0≤(IntKind.wrap .u64 (IntKind.wrap .i64 ((16:Int)-bits))))) (
 some ((aL .i64 (IntKind.wrap .i64 ((IntKind.wrap .i64 ((IntKind.wrap .i64 (c.toNat:Int))*(256:Int)))+(IntKind.wrap .i64 (c2.toNat:Int)))) (IntKind.wrap .u64 (IntKind.wrap .i64 ((16:Int)-bits))))==(0:Int))) none) none) none
theorem I7 {s bits nonce r} (h:qM s bits nonce=some r):Call tab ow 201 [.agg [sl ae s.Script,I s.At,S s.State,I s.Count],I bits,I nonce] []=some (B r,[]):=by
 rw [ab (af:=tC) rfl]
 unfold qM at h
 simp+decide only [tC,HP,go_sem,reduceIte,Nat.reduceAdd]
 have d1:= @iL
 have d2:= @jy
 all_goals exact go
noncomputable def dk (bits2:Int) (c:List Ext) (c2:Int) (c3:List UInt8) (c4:Int):Int→Option ((Int)⊕(Int⊕(Int×Bool)))
 |nonce=>
  br (decide (nonce<(65536:Int))) (
  (qM (Source.mk c c2 c3 c4) bits2 nonce).bind fun r_=>
  br r_ (
  some (.inr (.inl nonce))) (
  some (.inl (IntKind.wrap .i64 (nonce+(1:Int)))))) (
  some (.inr (.inr (nonce,decide (nonce<(65536:Int))))))
@[reducible] def zW (bits2:Int) (c:List Ext) (c2:Int) (c3:List UInt8) (c4 s:Int):St:=⟨[(1,I bits2),(2,.ptr 1000 0 0 1),(6,I s)],[(1000,⟨4,true,[[sl ae c,I c2,S c3,I c4]]⟩)]⟩
@[reducible] def zX (bits2:Int) (c:List Ext) (c2:Int) (c3:List UInt8) (c4:Int):(Int⊕(Int×Bool))→ai×St:=alt (fun e=>((.ret,⟨[(4,I e),(5,B true)],[(1000,⟨4,true,[[sl ae c,I c2,S c3,I c4]]⟩)]⟩):ai×St)) (fun e=>(.exit 0,⟨[(1,I bits2),(2,.ptr 1000 0 0 1),(6,I e.1),(8,B e.2)],[(1000,⟨4,true,[[sl ae c,I c2,S c3,I c4]]⟩)]⟩))
theorem L7 {bits2 c c2 c3 c4 s e} (h:Loop (dk bits2 c c2 c3 c4) s=some e):aD tab ow (.close [5003]) sh (zW bits2 c c2 c3 c4 s)=some (zX bits2 c c2 c3 c4 e):=by
 refine lrG (fun s o h=> ?_) h
 simp only [dk] at h
 simp+decide only [zW,zX,sh,go_sem,reduceIte,Nat.reduceAdd]
 have d1:= @I7
 all_goals exact go
noncomputable def sr (s:Source) (bits:Int):Option (Int×Bool):=
 (Loop (dk bits s.Script s.At s.State s.Count) (0:Int)).bind (alt (fun e_2=>
 some (e_2,true)) (fun e_3=>
 some ((0:Int),false)))
theorem Rd {s bits r} (h:sr s bits=some r):Call tab ow 178 [.agg [sl ae s.Script,I s.At,S s.State,I s.Count],I bits] []=some (.tup [I r.1,B r.2],[]):=by
 rw [ab (af:=pO) rfl]
 unfold sr at h
 simp+decide only [pO,DC,go_sem,reduceIte,Nat.reduceAdd]
 have d1:= @L7
 all_goals exact go
section
noncomputable def g6 (n2 c5:Int) (c6:List UInt8) (c7:Int):(List Ext)×Int×(List Ext)×Int×(List UInt8)×Int→Option (((List Ext)×Int×(List Ext)×Int×(List UInt8)×Int)⊕(((List Ext)×Int×Bool×(List Ext)×Int×(List UInt8)×Int)))
 | (l,i,c,c2,c3,c4)=>
   br (decide (i<n2)) (
   (iK (Source.mk c c2 c3 c4)).bind fun r_=>
   br (aZ ((l++([r_.2]:List Ext)).length) 16) (
   some (.inl ((l++([r_.2]:List Ext)),(IntKind.wrap .i64 (i+(1:Int))),r_.1.Script,r_.1.At,r_.1.State,r_.1.Count))) none) (
   some (.inr (l,i,decide (i<n2),c,c2,c3,c4)))
@[reducible] def BK (n2 c5:Int) (c6:List UInt8) (c7:Int) (s:(List Ext)×Int×(List Ext)×Int×(List UInt8)×Int):St:=⟨[(1,I n2),(2,.ptr 1000 0 0 1),(4,.ptr 1001 0 0 1),(6,.sl 2000 0 s.1.length),(7,I s.2.1)],[(1000,⟨4,true,[[sl ae s.2.2.1,I s.2.2.2.1,S s.2.2.2.2.1,I s.2.2.2.2.2]]⟩),(1001,⟨4,true,[[.lit (.slice none 0 0),I c5,S c6,I c7]]⟩),(2000,⟨2,false,rws ae s.1⟩)]⟩
@[reducible] def B7 (n2 c5:Int) (c6:List UInt8) (c7:Int):((List Ext)×Int×Bool×(List Ext)×Int×(List UInt8)×Int)→ai×St:=fun e=>(.exit 0,⟨[(1,I n2),(2,.ptr 1000 0 0 1),(4,.ptr 1001 0 0 1),(6,.sl 2000 0 e.1.length),(7,I e.2.1),(13,B e.2.2.1)],[(1000,⟨4,true,[[sl ae e.2.2.2.1,I e.2.2.2.2.1,S e.2.2.2.2.2.1,I e.2.2.2.2.2.2]]⟩),(1001,⟨4,true,[[.lit (.slice none 0 0),I c5,S c6,I c7]]⟩),(2000,⟨2,false,rws ae e.1⟩)]⟩)
theorem NE {n2 c5 c6 c7 s e} (h:Loop (g6 n2 c5 c6 c7) s=some e):aD tab ow (.close [6001,6005,6006,8002,8003]) uH (BK n2 c5 c6 c7 s)=some (B7 n2 c5 c6 c7 e):=by
 refine lrG (fun s o h=> ?_) h
 obtain ⟨_,_,_,_,_,_⟩:=s
 simp only [g6] at h
 simp+decide only [BK,B7,uH,go_sem,reduceIte,Nat.reduceAdd]
 have d1:= @oc
 all_goals exact go
noncomputable def vw (s:Source) (n:Int):Option (Source×(List Ext)):=
 (Loop (g6 n (0:Int) (([]:List UInt8)) (0:Int)) (([]:List Ext),(0:Int),s.Script,s.At,s.State,s.Count)).bind fun e_=>
 some ((Source.mk e_.2.2.2.1 e_.2.2.2.2.1 e_.2.2.2.2.2.1 e_.2.2.2.2.2.2),e_.1)
theorem Sm {s n r} (h:vw s n=some r):Call tab ow 215 [.agg [sl ae s.Script,I s.At,S s.State,I s.Count],I n] []=some (.tup [.agg [sl ae r.1.Script,I r.1.At,S r.1.State,I r.1.Count],sl ae r.2],[]):=by
 rw [ab (af:=tj) rfl]
 unfold vw at h
 simp+decide only [tj,Hq,go_sem,reduceIte,Nat.reduceAdd]
 have d1:= @NE
 all_goals exact go
end
section
noncomputable def eu (n2 most2:Int) (list c:List Ext) (c2:Int) (c3:List UInt8) (c4 c5:Int) (c6:List UInt8) (c7:Int) (c8:List Ext) (c9:Int) (c10:List UInt8) (c11:Int):(List Int)×Int→Option (((List Int)×Int)⊕(((List Int)×Int×Bool)))
 | (l,i)=>
   br (decide (i<n2)) (
   (atL list i).bind fun x=>
   br (decide (most2≠0)) (
   br (aZ ((l++([(x.A.tmod most2)]:List Int)).length) 8) (
   some (.inl ((l++([(x.A.tmod most2)]:List Int)),(IntKind.wrap .i64 (i+(1:Int)))))) none) none) (
   some (.inr (l,i,decide (i<n2))))
@[reducible] def xR (n2 most2:Int) (list c:List Ext) (c2:Int) (c3:List UInt8) (c4 c5:Int) (c6:List UInt8) (c7:Int) (c8:List Ext) (c9:Int) (c10:List UInt8) (c11:Int) (s:(List Int)×Int):St:=⟨[(1,I n2),(2,I most2),(6,.ptr 1001 0 0 1),(8,.ptr 2006 0 0 1),(9,sl ae list),(10,.sl 3000 0 s.1.length),(11,I s.2)],[(1000,⟨4,true,[[sl ae c,I c2,S c3,I c4]]⟩),(1001,⟨4,true,[[.lit (.slice none 0 0),I c5,S c6,I c7]]⟩),(2006,⟨4,true,[[sl ae c8,I c9,S c10,I c11]]⟩),(3000,⟨1,false,rws eI s.1⟩)]⟩
@[reducible] def yr (n2 most2:Int) (list c:List Ext) (c2:Int) (c3:List UInt8) (c4 c5:Int) (c6:List UInt8) (c7:Int) (c8:List Ext) (c9:Int) (c10:List UInt8) (c11:Int):((List Int)×Int×Bool)→ai×St:=fun e=>(.exit 0,⟨[(1,I n2),(2,I most2),(6,.ptr 1001 0 0 1),(8,.ptr 2006 0 0 1),(9,sl ae list),(10,.sl 3000 0 e.1.length),(11,I e.2.1),(21,B e.2.2)],[(1000,⟨4,true,[[sl ae c,I c2,S c3,I c4]]⟩),(1001,⟨4,true,[[.lit (.slice none 0 0),I c5,S c6,I c7]]⟩),(2006,⟨4,true,[[sl ae c8,I c9,S c10,I c11]]⟩),(3000,⟨1,false,rws eI e.1⟩)]⟩)
theorem Iw {n2 most2 list c c2 c3 c4 c5 c6 c7 c8 c9 c10 c11 s e} (h:Loop (eu n2 most2 list c c2 c3 c4 c5 c6 c7 c8 c9 c10 c11) s=some e):aD tab ow (.close [7008,7009]) oO (xR n2 most2 list c c2 c3 c4 c5 c6 c7 c8 c9 c10 c11 s)=some (yr n2 most2 list c c2 c3 c4 c5 c6 c7 c8 c9 c10 c11 e):=by
 refine lrG (fun s o h=> ?_) h
 obtain ⟨_,_⟩:=s
 simp only [eu] at h
 simp+decide only [xR,yr,oO,go_sem,reduceIte,Nat.reduceAdd]
 all_goals exact go
noncomputable def lN (s:Source) (n most:Int):Option (Source×(List Int)):=
 (vw s n).bind fun r_=>
 (Loop (eu n most r_.2 s.Script s.At s.State s.Count (0:Int) (([]:List UInt8)) (0:Int) r_.1.Script r_.1.At r_.1.State r_.1.Count) (([]:List Int),(0:Int))).bind fun e_=>
 some (r_.1,e_.1)
theorem Cj {s n most r} (h:lN s n most=some r):Call tab ow 180 [.agg [sl ae s.Script,I s.At,S s.State,I s.Count],I n,I most] []=some (.tup [.agg [sl ae r.1.Script,I r.1.At,S r.1.State,I r.1.Count],sl eI r.2],[]):=by
 rw [ab (af:=np) rfl]
 unfold lN at h
 simp+decide only [np,C9,go_sem,reduceIte,Nat.reduceAdd]
 have d1:= @Sm
 have d2:= @Iw
 all_goals exact go
end
section
noncomputable def ga (levels2:List (List (List UInt8))):(List (List UInt8))×Int×Int→Option (((List (List UInt8))×Int×Int)⊕(((List (List UInt8))×Int×Int×Bool)))
 | (l,i2,k)=>
   br (decide ((IntKind.wrap .i64 (k+(1:Int)))<((levels2.length:Nat):Int))) (
   (atL levels2 k).bind fun x=>
   (atL x (fT .i64 i2 (1:Int))).bind fun x2=>
   br (aZ ((l++([x2]:List (List UInt8))).length) 16) (
   some (.inl ((l++([x2]:List (List UInt8))),(IntKind.wrap .i64 (i2.tdiv (2:Int))),(IntKind.wrap .i64 (k+(1:Int)))))) none) (
   some (.inr (l,i2,k,decide ((IntKind.wrap .i64 (k+(1:Int)))<((levels2.length:Nat):Int)))))
@[reducible] def Bi (levels2:List (List (List UInt8))) (s:(List (List UInt8))×Int×Int):St:=⟨[(0,sl (eL eS) levels2),(1,I s.2.1),(5,.sl 2000 0 s.1.length),(6,I s.2.2)],[(2000,⟨1,false,rws eS s.1⟩)]⟩
@[reducible] def B6 (levels2:List (List (List UInt8))):((List (List UInt8))×Int×Int×Bool)→ai×St:=fun e=>(.exit 0,⟨[(0,sl (eL eS) levels2),(1,I e.2.1),(5,.sl 2000 0 e.1.length),(6,I e.2.2.1),(12,B e.2.2.2)],[(2000,⟨1,false,rws eS e.1⟩)]⟩)
theorem MN {levels2 s e} (h:Loop (ga levels2) s=some e):aD tab ow (.close [6009,6010]) ux (Bi levels2 s)=some (B6 levels2 e):=by
 refine lrG (fun s o h=> ?_) h
 obtain ⟨_,_,_⟩:=s
 simp only [ga] at h
 simp+decide only [Bi,B6,ux,go_sem,reduceIte,Nat.reduceAdd]
 all_goals exact go
noncomputable def vT (levels:(List (List (List UInt8)))) (i:Int):Option ((List (List UInt8))):=
 (Loop (ga levels) (([]:List (List UInt8)),i,(0:Int))).bind fun e_=>
 some e_.1
theorem RR {levels i r} (h:vT levels i=some r):Call tab ow 181 [sl (eL eS) levels,I i] []=some (sl eS r,[]):=by
 rw [ab (af:=ub) rfl]
 unfold vT at h
 simp+decide only [ub,Im,go_sem,reduceIte,Nat.reduceAdd]
 have d1:= @MN
 all_goals exact go
end
section
noncomputable def iB (l3:List aB) (c c2 c3 c8 c9 c10 c11:Int) (c12:List UInt8) (c13 c14 c15 c16:Int):(List (List Ext))×(List (List UInt8))×(List (List Ext))×(List (List Ext))×(List Ext)×(List Ext)×Int×(List UInt8)×Int→Option (((List (List Ext))×(List (List UInt8))×(List (List Ext))×(List (List Ext))×(List Ext)×(List Ext)×Int×(List UInt8)×Int)⊕(((List (List Ext))×(List (List UInt8))×(List (List Ext))×(List (List Ext))×(List Ext)×Bool×(List Ext)×Int×(List UInt8)×Int)))
 | (l,l2,l4,t,t2,c4,c5,c6,c7)=>
   (atL t (0:Int)).bind fun x=>
   br (decide (((x.length:Nat):Int)>(1:Int))) (
   br (aZ ((l4++([t2]:List (List Ext))).length) 24) (
   (ni (1:Int) t).bind fun r_3=>
   (lI (Source.mk c4 c5 c6 c7) r_3).bind fun r_4=>
   (iK r_4).bind fun r_5=>
   (qN t r_5.2).bind fun r_6=>
   (vv t2 r_5.2).bind fun r_7=>
   br (aZ ((l++([r_3]:List (List Ext))).length) 24) (
   (atL r_6 (0:Int)).bind fun x2=>
   br (decide (((x2.length:Nat):Int)>(1:Int))) (
   (ju r_7).bind fun r_8=>
   (mY r_8).bind fun r_9=>
   (dP r_5.1 r_9).bind fun r_10=>
   br (aZ ((l2++([r_9]:List (List UInt8))).length) 16) (
   some (.inl ((l++([r_3]:List (List Ext))),(l2++([r_9]:List (List UInt8))),(l4++([t2]:List (List Ext))),r_6,r_7,r_10.Script,r_10.At,r_10.State,r_10.Count))) none) (
   some (.inl ((l++([r_3]:List (List Ext))),l2,(l4++([t2]:List (List Ext))),r_6,r_7,r_5.1.Script,r_5.1.At,r_5.1.State,r_5.1.Count)))) none) none) (
   some (.inr (l,l2,l4,t,t2,decide (((x.length:Nat):Int)>(1:Int)),c4,c5,c6,c7)))
@[reducible] def Bb (l3:List aB) (c c2 c3 c8 c9 c10 c11:Int) (c12:List UInt8) (c13 c14 c15 c16:Int) (s:(List (List Ext))×(List (List UInt8))×(List (List Ext))×(List (List Ext))×(List Ext)×(List Ext)×Int×(List UInt8)×Int):St:=⟨[(6,.ptr 1000 0 0 1),(7,.ptr 1001 0 0 1),(8,.ptr 1002 0 0 1),(9,.ptr 1003 0 0 1),(11,.ptr 2004 0 0 1),(12,sl (eL ae) s.2.2.2.1),(13,sl ae s.2.2.2.2.1),(14,.sl 5000 0 s.2.2.1.length),(79,.undef)],[(1000,⟨3,true,[[I c,I c2,I c3]]⟩),(1001,⟨4,true,[[sl ae s.2.2.2.2.2.1,I s.2.2.2.2.2.2.1,S s.2.2.2.2.2.2.2.1,I s.2.2.2.2.2.2.2.2]]⟩),(1002,⟨6,true,[[.lit (.slice none 0 0),.lit (.slice none 0 0),I c8,I c9,I c10,.lit (.slice none 0 0)]]⟩),(1003,⟨4,true,[[.lit (.slice none 0 0),I c11,S c12,I c13]]⟩),(2000,⟨1,false,rws (eL ae) s.1⟩),(2001,⟨1,false,rws eS s.2.1⟩),(2002,⟨2,false,rws aG l3⟩),(2004,⟨6,true,[[.sl 2000 0 s.1.length,.sl 2001 0 s.2.1.length,I c14,I c15,I c16,.sl 2002 0 l3.length]]⟩),(3000,cu),(5000,⟨1,false,rws (eL ae) s.2.2.1⟩)]⟩
@[reducible] def Bv (l3:List aB) (c c2 c3 c8 c9 c10 c11:Int) (c12:List UInt8) (c13 c14 c15 c16:Int):((List (List Ext))×(List (List UInt8))×(List (List Ext))×(List (List Ext))×(List Ext)×Bool×(List Ext)×Int×(List UInt8)×Int)→ai×St:=fun e=>(.exit 0,⟨[(6,.ptr 1000 0 0 1),(7,.ptr 1001 0 0 1),(8,.ptr 1002 0 0 1),(9,.ptr 1003 0 0 1),(11,.ptr 2004 0 0 1),(12,sl (eL ae) e.2.2.2.1),(13,sl ae e.2.2.2.2.1),(14,.sl 5000 0 e.2.2.1.length),(47,B e.2.2.2.2.2.1)],[(1000,⟨3,true,[[I c,I c2,I c3]]⟩),(1001,⟨4,true,[[sl ae e.2.2.2.2.2.2.1,I e.2.2.2.2.2.2.2.1,S e.2.2.2.2.2.2.2.2.1,I e.2.2.2.2.2.2.2.2.2]]⟩),(1002,⟨6,true,[[.lit (.slice none 0 0),.lit (.slice none 0 0),I c8,I c9,I c10,.lit (.slice none 0 0)]]⟩),(1003,⟨4,true,[[.lit (.slice none 0 0),I c11,S c12,I c13]]⟩),(2000,⟨1,false,rws (eL ae) e.1⟩),(2001,⟨1,false,rws eS e.2.1⟩),(2002,⟨2,false,rws aG l3⟩),(2004,⟨6,true,[[.sl 2000 0 e.1.length,.sl 2001 0 e.2.1.length,I c14,I c15,I c16,.sl 2002 0 l3.length]]⟩),(3000,cu),(5000,⟨1,false,rws (eL ae) e.2.2.1⟩)]⟩)
theorem N8 {l3 c c2 c3 c8 c9 c10 c11 c12 c13 c14 c15 c16 s e} (h:Loop (iB l3 c c2 c3 c8 c9 c10 c11 c12 c13 c14 c15 c16) s=some e):aD tab ow (.both (.close [7002,7003,8001,9002,10001,10005,10006,12002,13002,14003,14004,16001,16002,17002,18003,18004,3005]) (.drop [79])) uN (Bb l3 c c2 c3 c8 c9 c10 c11 c12 c13 c14 c15 c16 s)=some (Bv l3 c c2 c3 c8 c9 c10 c11 c12 c13 c14 c15 c16 e):=by
 refine lrG (fun s o h=> ?_) h
 obtain ⟨_,_,_,_,_,_,_,_,_⟩:=s
 simp only [iB] at h
 simp+decide only [Bb,Bv,uN,go_sem,reduceIte,Nat.reduceAdd]
 have d1:= @Pc
 have d2:= @th
 have d3:= @oc
 have d4:= @GV
 have d5:= @Tu
 have d6:= @ui
 have d7:= @HM
 have d8:= @gj
 all_goals exact go
noncomputable def iP (l9:List (List Ext)) (l10:List (List UInt8)) (l11:List aB) (l12:List (List Ext)) (t5:List Int) (t6 c37 c38 c39:Int) (c40:List Ext) (c41:Int) (c42:List UInt8) (c43 c44 c45 c46 c47:Int) (c48:List UInt8) (c49 c50 c51 c52:Int) (c53:List Ext) (c54:Int) (c55:List UInt8) (c56:Int):(List Ext)×(List (List (List UInt8)))×Int×Int→Option (((List Ext)×(List (List (List UInt8)))×Int×Int)⊕(((List Ext)×(List (List (List UInt8)))×Int×Int×Bool)))
 | (l13,l14,t7,t8)=>
   br (decide (t8<((l12.length:Nat):Int))) (
   br (decide (0≤t8)) (
   br (decide (t8.toNat<l12.length)) (
   (l12[t8.toNat]?).bind fun x7=>
   br (decide ((IntKind.wrap .i64 (((x7.length:Nat):Int).tdiv (2:Int)))≠0)) (
   br (decide (0≤t8)) (
   br (decide (t8.toNat<l12.length)) (
   (l12[t8.toNat]?).bind fun x8=>
   (atL x8 (t7.tmod (IntKind.wrap .i64 (((x7.length:Nat):Int).tdiv (2:Int))))).bind fun x9=>
   br (decide (0≤t8)) (
   br (decide (t8.toNat<l12.length)) (
   (l12[t8.toNat]?).bind fun x10=>
   (atL x10 (IntKind.wrap .i64 ((t7.tmod (IntKind.wrap .i64 (((x7.length:Nat):Int).tdiv (2:Int))))+(IntKind.wrap .i64 (((x7.length:Nat):Int).tdiv (2:Int)))))).bind fun x11=>
   br (aZ ((l13++([x9,x11]:List Ext)).length) 16) (
   br (decide (0≤t8)) (
   br (decide (t8.toNat<l12.length)) (
   (l12[t8.toNat]?).bind fun x12=>
   (ju x12).bind fun r_16=>
   (lB r_16).bind fun r_17=>
   (vT r_17 (t7.tmod (IntKind.wrap .i64 (((x7.length:Nat):Int).tdiv (2:Int))))).bind fun r_18=>
   br (aZ ((l14++([r_18]:List (List (List UInt8)))).length) 24) (
   some (.inl ((l13++([x9,x11]:List Ext)),(l14++([r_18]:List (List (List UInt8)))),(t7.tmod (IntKind.wrap .i64 (((x7.length:Nat):Int).tdiv (2:Int)))),(IntKind.wrap .i64 (t8+(1:Int)))))) none) none) none) none) none) none) none) none) none) none) none) (
   some (.inr (l13,l14,t7,t8,decide (t8<((l12.length:Nat):Int)))))
@[reducible] def Ba (l9:List (List Ext)) (l10:List (List UInt8)) (l11:List aB) (l12:List (List Ext)) (t5:List Int) (t6 c37 c38 c39:Int) (c40:List Ext) (c41:Int) (c42:List UInt8) (c43 c44 c45 c46 c47:Int) (c48:List UInt8) (c49 c50 c51 c52:Int) (c53:List Ext) (c54:Int) (c55:List UInt8) (c56:Int) (s:(List Ext)×(List (List (List UInt8)))×Int×Int):St:=⟨[(7,.ptr 1001 0 0 1),(8,.ptr 1002 0 0 1),(9,.ptr 1003 0 0 1),(11,.ptr 2004 0 0 1),(14,.sl 5000 0 l12.length),(22,sl eI t5),(23,I t6),(24,.ptr 31003 0 0 1),(25,I s.2.2.1),(26,I s.2.2.2)],[(1000,⟨3,true,[[I c37,I c38,I c39]]⟩),(1001,⟨4,true,[[sl ae c40,I c41,S c42,I c43]]⟩),(1002,⟨6,true,[[.lit (.slice none 0 0),.lit (.slice none 0 0),I c44,I c45,I c46,.lit (.slice none 0 0)]]⟩),(1003,⟨4,true,[[.lit (.slice none 0 0),I c47,S c48,I c49]]⟩),(2000,⟨1,false,rws (eL ae) l9⟩),(2001,⟨1,false,rws eS l10⟩),(2002,⟨2,false,rws aG l11⟩),(2004,⟨6,true,[[.sl 2000 0 l9.length,.sl 2001 0 l10.length,I c50,I c51,I c52,.sl 2002 0 l11.length]]⟩),(3000,cu),(5000,⟨1,false,rws (eL ae) l12⟩),(20003,cu),(26012,⟨4,true,[[sl ae c53,I c54,S c55,I c56]]⟩),(31000,⟨2,false,rws ae s.1⟩),(31001,⟨1,false,rws (eL eS) s.2.1⟩),(31003,⟨2,true,[[.sl 31000 0 s.1.length,.sl 31001 0 s.2.1.length]]⟩)]⟩
@[reducible] def Bz (l9:List (List Ext)) (l10:List (List UInt8)) (l11:List aB) (l12:List (List Ext)) (t5:List Int) (t6 c37 c38 c39:Int) (c40:List Ext) (c41:Int) (c42:List UInt8) (c43 c44 c45 c46 c47:Int) (c48:List UInt8) (c49 c50 c51 c52:Int) (c53:List Ext) (c54:Int) (c55:List UInt8) (c56:Int):((List Ext)×(List (List (List UInt8)))×Int×Int×Bool)→ai×St:=fun e=>(.exit 4,⟨[(7,.ptr 1001 0 0 1),(8,.ptr 1002 0 0 1),(9,.ptr 1003 0 0 1),(11,.ptr 2004 0 0 1),(14,.sl 5000 0 l12.length),(22,sl eI t5),(23,I t6),(24,.ptr 31003 0 0 1),(25,I e.2.2.1),(26,I e.2.2.2.1),(150,B e.2.2.2.2)],[(1000,⟨3,true,[[I c37,I c38,I c39]]⟩),(1001,⟨4,true,[[sl ae c40,I c41,S c42,I c43]]⟩),(1002,⟨6,true,[[.lit (.slice none 0 0),.lit (.slice none 0 0),I c44,I c45,I c46,.lit (.slice none 0 0)]]⟩),(1003,⟨4,true,[[.lit (.slice none 0 0),I c47,S c48,I c49]]⟩),(2000,⟨1,false,rws (eL ae) l9⟩),(2001,⟨1,false,rws eS l10⟩),(2002,⟨2,false,rws aG l11⟩),(2004,⟨6,true,[[.sl 2000 0 l9.length,.sl 2001 0 l10.length,I c50,I c51,I c52,.sl 2002 0 l11.length]]⟩),(3000,cu),(5000,⟨1,false,rws (eL ae) l12⟩),(20003,cu),(26012,⟨4,true,[[sl ae c53,I c54,S c55,I c56]]⟩),(31000,⟨2,false,rws ae e.1⟩),(31001,⟨1,false,rws (eL eS) e.2.1⟩),(31003,⟨2,true,[[.sl 31000 0 e.1.length,.sl 31001 0 e.2.1.length]]⟩)]⟩)
theorem NC {l9 l10 l11 l12 t5 t6 c37 c38 c39 c40 c41 c42 c43 c44 c45 c46 c47 c48 c49 c50 c51 c52 c53 c54 c55 c56 s e} (h:Loop (iP l9 l10 l11 l12 t5 t6 c37 c38 c39 c40 c41 c42 c43 c44 c45 c46 c47 c48 c49 c50 c51 c52 c53 c54 c55 c56) s=some e):aD tab ow (.close [38018,38019,39006,39007,39009,39010,39011]) sB (Ba l9 l10 l11 l12 t5 t6 c37 c38 c39 c40 c41 c42 c43 c44 c45 c46 c47 c48 c49 c50 c51 c52 c53 c54 c55 c56 s)=some (Bz l9 l10 l11 l12 t5 t6 c37 c38 c39 c40 c41 c42 c43 c44 c45 c46 c47 c48 c49 c50 c51 c52 c53 c54 c55 c56 e):=by
 refine lrG (fun s o h=> ?_) h
 obtain ⟨_,_,_,_⟩:=s
 simp only [iP] at h
 simp+decide only [Ba,Bz,sB,go_sem,reduceIte,Nat.reduceAdd]
 have d1:= @ui
 have d2:= @B9
 have d3:= @RR
 all_goals exact go
noncomputable def g9 (l5:List (List Ext)) (l6:List (List UInt8)) (l8:List (List Ext)) (t3:List Int) (c17 c18 c19:Int) (c20:List Ext) (c21:Int) (c22:List UInt8) (c23 c24 c25 c26 c27:Int) (c28:List UInt8) (c29 c30 c31 c32:Int) (c33:List Ext) (c34:Int) (c35:List UInt8) (c36:Int):(List aB)×Int→Option (((List aB)×Int)⊕(((List aB)×Int×Bool)))
 | (l7,t4)=>
   br (decide (t4<((t3.length:Nat):Int))) (
   (atL t3 t4).bind fun x6=>
   (Loop (iP l5 l6 l7 l8 t3 t4 c17 c18 c19 c20 c21 c22 c23 c24 c25 c26 c27 c28 c29 c30 c31 c32 c33 c34 c35 c36) (([]:List Ext),([]:List (List (List UInt8))),x6,(0:Int))).bind fun e_2=>
   br (aZ ((l7++([(aB.mk e_2.1 e_2.2.1)]:List aB)).length) 48) (
   some (.inl ((l7++([(aB.mk e_2.1 e_2.2.1)]:List aB)),(IntKind.wrap .i64 (t4+(1:Int)))))) none) (
   some (.inr (l7,t4,decide (t4<((t3.length:Nat):Int)))))
@[reducible] def BY (l5:List (List Ext)) (l6:List (List UInt8)) (l8:List (List Ext)) (t3:List Int) (c17 c18 c19:Int) (c20:List Ext) (c21:Int) (c22:List UInt8) (c23 c24 c25 c26 c27:Int) (c28:List UInt8) (c29 c30 c31 c32:Int) (c33:List Ext) (c34:Int) (c35:List UInt8) (c36:Int) (s:(List aB)×Int):St:=⟨[(7,.ptr 1001 0 0 1),(8,.ptr 1002 0 0 1),(9,.ptr 1003 0 0 1),(11,.ptr 2004 0 0 1),(14,.sl 5000 0 l8.length),(22,sl eI t3),(23,I s.2)],[(1000,⟨3,true,[[I c17,I c18,I c19]]⟩),(1001,⟨4,true,[[sl ae c20,I c21,S c22,I c23]]⟩),(1002,⟨6,true,[[.lit (.slice none 0 0),.lit (.slice none 0 0),I c24,I c25,I c26,.lit (.slice none 0 0)]]⟩),(1003,⟨4,true,[[.lit (.slice none 0 0),I c27,S c28,I c29]]⟩),(2000,⟨1,false,rws (eL ae) l5⟩),(2001,⟨1,false,rws eS l6⟩),(2002,⟨2,false,rws aG s.1⟩),(2004,⟨6,true,[[.sl 2000 0 l5.length,.sl 2001 0 l6.length,I c30,I c31,I c32,.sl 2002 0 s.1.length]]⟩),(3000,cu),(5000,⟨1,false,rws (eL ae) l8⟩),(20003,cu),(26012,⟨4,true,[[sl ae c33,I c34,S c35,I c36]]⟩)]⟩
@[reducible] def Ci (l5:List (List Ext)) (l6:List (List UInt8)) (l8:List (List Ext)) (t3:List Int) (c17 c18 c19:Int) (c20:List Ext) (c21:Int) (c22:List UInt8) (c23 c24 c25 c26 c27:Int) (c28:List UInt8) (c29 c30 c31 c32:Int) (c33:List Ext) (c34:Int) (c35:List UInt8) (c36:Int):((List aB)×Int×Bool)→ai×St:=fun e=>(.exit 2,⟨[(7,.ptr 1001 0 0 1),(8,.ptr 1002 0 0 1),(9,.ptr 1003 0 0 1),(11,.ptr 2004 0 0 1),(14,.sl 5000 0 l8.length),(22,sl eI t3),(23,I e.2.1),(137,B e.2.2)],[(1000,⟨3,true,[[I c17,I c18,I c19]]⟩),(1001,⟨4,true,[[sl ae c20,I c21,S c22,I c23]]⟩),(1002,⟨6,true,[[.lit (.slice none 0 0),.lit (.slice none 0 0),I c24,I c25,I c26,.lit (.slice none 0 0)]]⟩),(1003,⟨4,true,[[.lit (.slice none 0 0),I c27,S c28,I c29]]⟩),(2000,⟨1,false,rws (eL ae) l5⟩),(2001,⟨1,false,rws eS l6⟩),(2002,⟨2,false,rws aG e.1⟩),(2004,⟨6,true,[[.sl 2000 0 l5.length,.sl 2001 0 l6.length,I c30,I c31,I c32,.sl 2002 0 e.1.length]]⟩),(3000,cu),(5000,⟨1,false,rws (eL ae) l8⟩),(20003,cu),(26012,⟨4,true,[[sl ae c33,I c34,S c35,I c36]]⟩)]⟩)
theorem Nd {l5 l6 l8 t3 c17 c18 c19 c20 c21 c22 c23 c24 c25 c26 c27 c28 c29 c30 c31 c32 c33 c34 c35 c36 s e} (h:Loop (g9 l5 l6 l8 t3 c17 c18 c19 c20 c21 c22 c23 c24 c25 c26 c27 c28 c29 c30 c31 c32 c33 c34 c35 c36) s=some e):aD tab ow (.close [31000,31001,31003,38018,38019,39006,39007,39009,39010,39011,40003,40004]) sA (BY l5 l6 l8 t3 c17 c18 c19 c20 c21 c22 c23 c24 c25 c26 c27 c28 c29 c30 c31 c32 c33 c34 c35 c36 s)=some (Ci l5 l6 l8 t3 c17 c18 c19 c20 c21 c22 c23 c24 c25 c26 c27 c28 c29 c30 c31 c32 c33 c34 c35 c36 e):=by
 refine lrG (fun s o h=> ?_) h
 obtain ⟨_,_⟩:=s
 simp only [g9] at h
 simp+decide only [BY,Ci,sA,go_sem,reduceIte,Nat.reduceAdd]
 have d1:= @NC
 all_goals exact go
noncomputable def vj (ListtoArray a:(List Ext)) (a2:Setting) (a3:Source):Option (aC×Source×Bool):=
 br (aZ ((([]:List Ext)++ListtoArray).length) 16) (
 (Dn a).bind fun r_=>
 (qR ListtoArray a2.Rate).bind fun r_2=>
 (Loop (iB ([]:List aB) a2.Rate a2.Queries a2.Grind (0:Int) (0:Int) (0:Int) (0:Int) (([]:List UInt8)) (0:Int) (0:Int) (0:Int) (0:Int)) (([]:List (List Ext)),([]:List (List UInt8)),([]:List (List Ext)),([(([]:List Ext)++ListtoArray),r_]:List (List Ext)),r_2,a3.Script,a3.At,a3.State,a3.Count)).bind fun e_=>
 (atL e_.2.2.2.1 (0:Int)).bind fun x3=>
 (atL x3 (0:Int)).bind fun x4=>
 (lI (Source.mk e_.2.2.2.2.2.2.1 e_.2.2.2.2.2.2.2.1 e_.2.2.2.2.2.2.2.2.1 e_.2.2.2.2.2.2.2.2.2) ([x4]:List Ext)).bind fun r_11=>
 (sr r_11 a2.Grind).bind fun r_12=>
 br (!r_12.2) (
 some ((aC.mk ([]:List (List Ext)) ([]:List (List UInt8)) (Ext.mk (0:Int) (0:Int)) (0:Int) ([]:List aB)),r_11,false)) (
 (dR r_12.1 (4:Int)).bind fun r_13=>
 (dP r_11 r_13).bind fun r_14=>
 br (decide (0<e_.2.2.1.length)) (
 (e_.2.2.1[0]?).bind fun x5=>
 (lN r_14 a2.Queries (IntKind.wrap .i64 (((x5.length:Nat):Int).tdiv (2:Int)))).bind fun r_15=>
 (Loop (g9 e_.1 e_.2.1 e_.2.2.1 r_15.2 a2.Rate a2.Queries a2.Grind r_15.1.Script r_15.1.At r_15.1.State r_15.1.Count (0:Int) (0:Int) (0:Int) (0:Int) (([]:List UInt8)) (0:Int) x4.A x4.B r_12.1 r_15.1.Script r_15.1.At r_15.1.State r_15.1.Count) (([]:List aB),(0:Int))).bind fun e_3=>
 some ((aC.mk e_.1 e_.2.1 x4 r_12.1 e_3.1),r_15.1,true)) none)) none
theorem Uf {ListtoArray a a2 a3 r} (h:vj ListtoArray a a2 a3=some r):Call tab ow 82 [sl ae ListtoArray,sl ae a,.agg [I a2.Rate,I a2.Queries,I a2.Grind],.agg [sl ae a3.Script,I a3.At,S a3.State,I a3.Count]] []=some (.tup [.agg [sl (eL ae) r.1.Rounds,sl eS r.1.Roots,I r.1.Last.A,I r.1.Last.B,I r.1.Nonce,sl aG r.1.Queries],.agg [sl ae r.2.1.Script,I r.2.1.At,S r.2.1.State,I r.2.1.Count],B r.2.2],[]):=by
 rw [ab (af:=tT) rfl]
 unfold vj at h
 simp+decide only [tT,Ht,go_sem,reduceIte,Nat.reduceAdd]
 have d1:= @Yo
 have d2:= @HI
 have d3:= @N8
 have d4:= @th
 have d5:= @Rd
 have d6:= @iL
 have d7:= @gj
 have d8:= @Cj
 have d9:= @Nd
 all_goals exact go
end
noncomputable def oz (ListtoArray a:(List Ext)) (a2:Setting) (a3:Source):Option (aC×Source×Int):=
 br (decide (((ListtoArray.length:Nat):Int)>(4096:Int))) (
 some ((aC.mk ([]:List (List Ext)) ([]:List (List UInt8)) (Ext.mk (0:Int) (0:Int)) (0:Int) ([]:List aB)),(Source.mk ([]:List Ext) (0:Int) (([]:List UInt8)) (0:Int)),(2:Int))) (
 br (decide (((a.length:Nat):Int)>(4096:Int))) (
 some ((aC.mk ([]:List (List Ext)) ([]:List (List UInt8)) (Ext.mk (0:Int) (0:Int)) (0:Int) ([]:List aB)),(Source.mk ([]:List Ext) (0:Int) (([]:List UInt8)) (0:Int)),(2:Int))) (
 (rb ListtoArray).bind fun r_=>
 br (!r_) (
 some ((aC.mk ([]:List (List Ext)) ([]:List (List UInt8)) (Ext.mk (0:Int) (0:Int)) (0:Int) ([]:List aB)),(Source.mk ([]:List Ext) (0:Int) (([]:List UInt8)) (0:Int)),(1:Int))) (
 (nk a).bind fun r_2=>
 br (!r_2) (
 some ((aC.mk ([]:List (List Ext)) ([]:List (List UInt8)) (Ext.mk (0:Int) (0:Int)) (0:Int) ([]:List aB)),(Source.mk ([]:List Ext) (0:Int) (([]:List UInt8)) (0:Int)),(1:Int))) (
 (jq a2).bind fun r_3=>
 br (!r_3) (
 some ((aC.mk ([]:List (List Ext)) ([]:List (List UInt8)) (Ext.mk (0:Int) (0:Int)) (0:Int) ([]:List aB)),(Source.mk ([]:List Ext) (0:Int) (([]:List UInt8)) (0:Int)),(1:Int))) (
 (lu a3).bind fun r_4=>
 br (!r_4) (
 some ((aC.mk ([]:List (List Ext)) ([]:List (List UInt8)) (Ext.mk (0:Int) (0:Int)) (0:Int) ([]:List aB)),(Source.mk ([]:List Ext) (0:Int) (([]:List UInt8)) (0:Int)),(1:Int))) (
 (qF ((ListtoArray.length:Nat):Int)).bind fun r_5=>
 br (!r_5) (
 some ((aC.mk ([]:List (List Ext)) ([]:List (List UInt8)) (Ext.mk (0:Int) (0:Int)) (0:Int) ([]:List aB)),(Source.mk ([]:List Ext) (0:Int) (([]:List UInt8)) (0:Int)),(4:Int))) (
 br (decide (0≤(IntKind.wrap .u64 ((a.length:Nat):Int)))) (
 br (((ListtoArray.length:Nat):Int) !=(bW .i64 (1:Int) (IntKind.wrap .u64 ((a.length:Nat):Int)))) (
 some ((aC.mk ([]:List (List Ext)) ([]:List (List UInt8)) (Ext.mk (0:Int) (0:Int)) (0:Int) ([]:List aB)),(Source.mk ([]:List Ext) (0:Int) (([]:List UInt8)) (0:Int)),(8:Int))) (
 (ji a3 (100:Int)).bind fun r_6=>
 br r_6 (
 some ((aC.mk ([]:List (List Ext)) ([]:List (List UInt8)) (Ext.mk (0:Int) (0:Int)) (0:Int) ([]:List aB)),(Source.mk ([]:List Ext) (0:Int) (([]:List UInt8)) (0:Int)),(6:Int))) (
 (vj ListtoArray a a2 a3).bind fun r_7=>
 br (!r_7.2.2) (
 some ((aC.mk ([]:List (List Ext)) ([]:List (List UInt8)) (Ext.mk (0:Int) (0:Int)) (0:Int) ([]:List aB)),(Source.mk ([]:List Ext) (0:Int) (([]:List UInt8)) (0:Int)),(14:Int))) (
 (o9 r_7.2.1).bind fun r_8=>
 some (r_7.1,r_8,(0:Int)))))) none)))))))
theorem Nn {ListtoArray a a2 a3 r} (h:oz ListtoArray a a2 a3=some r):Call tab ow 16 [sl ae ListtoArray,sl ae a,.agg [I a2.Rate,I a2.Queries,I a2.Grind],.agg [sl ae a3.Script,I a3.At,S a3.State,I a3.Count]] []=some (.tup [.agg [sl (eL ae) r.1.Rounds,sl eS r.1.Roots,I r.1.Last.A,I r.1.Last.B,I r.1.Nonce,sl aG r.1.Queries],.agg [sl ae r.2.1.Script,I r.2.1.At,S r.2.1.State,I r.2.1.Count],I r.2.2],[]):=by
 rw [ab (af:=nN) rfl]
 unfold oz at h
 simp+decide only [nN,Bw,go_sem,reduceIte,Nat.reduceAdd]
 have d1:= @GU
 have d2:= @Ew
 have d3:= @uO
 have d4:= @Dg
 have d5:= @H9
 have d6:= @Du
 have d7:= @Uf
 have d8:= @CL
 all_goals exact go
noncomputable def fu (a2 b2:List Ext):Int→Option ((Int)⊕(Unit⊕(Int×Bool)))
 |i=>
  br (decide (i<((a2.length:Nat):Int))) (
  (atL a2 i).bind fun x=>
  (atL b2 i).bind fun x2=>
  br (x.A==x2.A) (
  br (x.B==x2.B) (
  some (.inl (IntKind.wrap .i64 (i+(1:Int))))) (
  some (.inr (.inl ())))) (
  some (.inr (.inl ())))) (
  some (.inr (.inr (i,decide (i<((a2.length:Nat):Int))))))
@[reducible] def zC (a2 b2:List Ext) (s:Int):St:=⟨[(0,sl ae a2),(1,sl ae b2),(5,I s)],[]⟩
@[reducible] def zr (a2 b2:List Ext):(Unit⊕(Int×Bool))→ai×St:=alt (fun e=>((.ret,⟨[(4,B false)],[]⟩):ai×St)) (fun e=>(.exit 0,⟨[(0,sl ae a2),(1,sl ae b2),(5,I e.1),(14,B e.2)],[]⟩))
theorem LU {a2 b2 s e} (h:Loop (fu a2 b2) s=some e):aD tab ow (.close []) rk (zC a2 b2 s)=some (zr a2 b2 e):=by
 refine lrG (fun s o h=> ?_) h
 simp only [fu] at h
 simp+decide only [zC,zr,rk,go_sem,reduceIte,Nat.reduceAdd]
 all_goals exact go
noncomputable def lj (a b:(List Ext)):Option (Bool):=
 br (((a.length:Nat):Int) !=((b.length:Nat):Int)) (
 some false) (
 (Loop (fu a b) (0:Int)).bind (alt (fun e_2=>
 some false) (fun e_3=>
 some true)))
theorem wD {a b r} (h:lj a b=some r):Call tab ow 86 [sl ae a,sl ae b] []=some (B r,[]):=by
 rw [ab (af:=pv) rfl]
 unfold lj at h
 simp+decide only [pv,ED,go_sem,reduceIte,Nat.reduceAdd]
 have d1:= @LU
 all_goals exact go
noncomputable def dI (a2 b2:List (List Ext)):Int→Option ((Int)⊕(Unit⊕(Int×Bool)))
 |i=>
  br (decide (i<((a2.length:Nat):Int))) (
  (atL a2 i).bind fun x=>
  (atL b2 i).bind fun x2=>
  (lj x x2).bind fun r_=>
  br (!r_) (
  some (.inr (.inl ()))) (
  some (.inl (IntKind.wrap .i64 (i+(1:Int)))))) (
  some (.inr (.inr (i,decide (i<((a2.length:Nat):Int))))))
@[reducible] def vV (a2 b2:List (List Ext)) (s:Int):St:=⟨[(0,sl (eL ae) a2),(1,sl (eL ae) b2),(5,I s)],[]⟩
@[reducible] def uY (a2 b2:List (List Ext)):(Unit⊕(Int×Bool))→ai×St:=alt (fun e=>((.ret,⟨[(4,B false)],[]⟩):ai×St)) (fun e=>(.exit 0,⟨[(0,sl (eL ae) a2),(1,sl (eL ae) b2),(5,I e.1),(14,B e.2)],[]⟩))
theorem FR {a2 b2 s e} (h:Loop (dI a2 b2) s=some e):aD tab ow (.close [7008]) mQ (vV a2 b2 s)=some (uY a2 b2 e):=by
 refine lrG (fun s o h=> ?_) h
 simp only [dI] at h
 simp+decide only [vV,uY,mQ,go_sem,reduceIte,Nat.reduceAdd]
 have d1:= @wD
 all_goals exact go
noncomputable def mo (a b:(List (List Ext))):Option (Bool):=
 br (((a.length:Nat):Int) !=((b.length:Nat):Int)) (
 some false) (
 (Loop (dI a b) (0:Int)).bind (alt (fun e_2=>
 some false) (fun e_3=>
 some true)))
theorem Kk {a b r} (h:mo a b=some r):Call tab ow 84 [sl (eL ae) a,sl (eL ae) b] []=some (B r,[]):=by
 rw [ab (af:=mH) rfl]
 unfold mo at h
 simp+decide only [mH,zm,go_sem,reduceIte,Nat.reduceAdd]
 have d1:= @FR
 all_goals exact go
noncomputable def ej (a2 b2:List (List UInt8)):Int→Option ((Int)⊕(Unit⊕(Int×Bool)))
 |i=>
  br (decide (i<((a2.length:Nat):Int))) (
  (atL a2 i).bind fun x=>
  (atL b2 i).bind fun x2=>
  br (x !=x2) (
  some (.inr (.inl ()))) (
  some (.inl (IntKind.wrap .i64 (i+(1:Int)))))) (
  some (.inr (.inr (i,decide (i<((a2.length:Nat):Int))))))
@[reducible] def yq (a2 b2:List (List UInt8)) (s:Int):St:=⟨[(0,sl eS a2),(1,sl eS b2),(5,I s)],[]⟩
@[reducible] def yp (a2 b2:List (List UInt8)):(Unit⊕(Int×Bool))→ai×St:=alt (fun e=>((.ret,⟨[(4,B false)],[]⟩):ai×St)) (fun e=>(.exit 0,⟨[(0,sl eS a2),(1,sl eS b2),(5,I e.1),(14,B e.2)],[]⟩))
theorem J6 {a2 b2 s e} (h:Loop (ej a2 b2) s=some e):aD tab ow (.close []) oU (yq a2 b2 s)=some (yp a2 b2 e):=by
 refine lrG (fun s o h=> ?_) h
 simp only [ej] at h
 simp+decide only [yq,yp,oU,go_sem,reduceIte,Nat.reduceAdd]
 all_goals exact go
noncomputable def lM (a b:(List (List UInt8))):Option (Bool):=
 br (((a.length:Nat):Int) !=((b.length:Nat):Int)) (
 some false) (
 (Loop (ej a b) (0:Int)).bind (alt (fun e_2=>
 some false) (fun e_3=>
 some true)))
theorem Bn {a b r} (h:lM a b=some r):Call tab ow 85 [sl eS a,sl eS b] []=some (B r,[]):=by
 rw [ab (af:=nM) rfl]
 unfold lM at h
 simp+decide only [nM,C0,go_sem,reduceIte,Nat.reduceAdd]
 have d1:= @J6
 all_goals exact go
noncomputable def dj (t2:Int) (c13:List (List Ext)) (c14:List (List UInt8)) (c15 c16 c17:Int) (c18:List aB) (c19:List (List Ext)) (c20:List (List UInt8)) (c21 c22 c23:Int) (c24:List aB) (c25:List Ext) (c26:List (List (List UInt8))) (c27:List Ext) (c28:List (List (List UInt8))):Int→Option ((Int)⊕(Unit⊕(Int×Bool)))
 |t3=>
  br (decide (t3<((c26.length:Nat):Int))) (
  (atL c26 t3).bind fun x3=>
  (atL c28 t3).bind fun x4=>
  (lM x3 x4).bind fun r_4=>
  br (!r_4) (
  some (.inr (.inl ()))) (
  some (.inl (IntKind.wrap .i64 (t3+(1:Int)))))) (
  some (.inr (.inr (t3,decide (t3<((c26.length:Nat):Int))))))
@[reducible] def sO (t2:Int) (c13:List (List Ext)) (c14:List (List UInt8)) (c15 c16 c17:Int) (c18:List aB) (c19:List (List Ext)) (c20:List (List UInt8)) (c21 c22 c23:Int) (c24:List aB) (c25:List Ext) (c26:List (List (List UInt8))) (c27:List Ext) (c28:List (List (List UInt8))) (s:Int):St:=⟨[(2,.ptr 1000 0 0 1),(3,.ptr 1001 0 0 1),(5,I t2),(6,.ptr 7005 0 0 1),(7,.ptr 8005 0 0 1),(8,I s)],[(1000,⟨6,true,[[sl (eL ae) c13,sl eS c14,I c15,I c16,I c17,sl aG c18]]⟩),(1001,⟨6,true,[[sl (eL ae) c19,sl eS c20,I c21,I c22,I c23,sl aG c24]]⟩),(7005,⟨2,true,[[sl ae c25,sl (eL eS) c26]]⟩),(8005,⟨2,true,[[sl ae c27,sl (eL eS) c28]]⟩)]⟩
@[reducible] def tX (t2:Int) (c13:List (List Ext)) (c14:List (List UInt8)) (c15 c16 c17:Int) (c18:List aB) (c19:List (List Ext)) (c20:List (List UInt8)) (c21 c22 c23:Int) (c24:List aB) (c25:List Ext) (c26:List (List (List UInt8))) (c27:List Ext) (c28:List (List (List UInt8))):(Unit⊕(Int×Bool))→ai×St:=alt (fun e=>((.ret,⟨[(4,B false)],[(1000,⟨6,true,[[sl (eL ae) c13,sl eS c14,I c15,I c16,I c17,sl aG c18]]⟩),(1001,⟨6,true,[[sl (eL ae) c19,sl eS c20,I c21,I c22,I c23,sl aG c24]]⟩),(7005,⟨2,true,[[sl ae c25,sl (eL eS) c26]]⟩),(8005,⟨2,true,[[sl ae c27,sl (eL eS) c28]]⟩)]⟩):ai×St)) (fun e=>(.exit 2,⟨[(2,.ptr 1000 0 0 1),(3,.ptr 1001 0 0 1),(5,I t2),(6,.ptr 7005 0 0 1),(7,.ptr 8005 0 0 1),(8,I e.1),(82,B e.2)],[(1000,⟨6,true,[[sl (eL ae) c13,sl eS c14,I c15,I c16,I c17,sl aG c18]]⟩),(1001,⟨6,true,[[sl (eL ae) c19,sl eS c20,I c21,I c22,I c23,sl aG c24]]⟩),(7005,⟨2,true,[[sl ae c25,sl (eL eS) c26]]⟩),(8005,⟨2,true,[[sl ae c27,sl (eL eS) c28]]⟩)]⟩))
theorem Db {t2 c13 c14 c15 c16 c17 c18 c19 c20 c21 c22 c23 c24 c25 c26 c27 c28 s e} (h:Loop (dj t2 c13 c14 c15 c16 c17 c18 c19 c20 c21 c22 c23 c24 c25 c26 c27 c28) s=some e):aD tab ow (.close [14010]) lA (sO t2 c13 c14 c15 c16 c17 c18 c19 c20 c21 c22 c23 c24 c25 c26 c27 c28 s)=some (tX t2 c13 c14 c15 c16 c17 c18 c19 c20 c21 c22 c23 c24 c25 c26 c27 c28 e):=by
 refine lrG (fun s o h=> ?_) h
 simp only [dj] at h
 simp+decide only [sO,tX,lA,go_sem,reduceIte,Nat.reduceAdd]
 have d1:= @Bn
 all_goals exact go
noncomputable def dl (c:List (List Ext)) (c2:List (List UInt8)) (c3 c4 c5:Int) (c6:List aB) (c7:List (List Ext)) (c8:List (List UInt8)) (c9 c10 c11:Int) (c12:List aB):Int→Option ((Int)⊕(((List Ext)×(List (List (List UInt8)))×(List Ext)×(List (List (List UInt8))))⊕(Int×Bool)))
 |t=>
  br (decide (t<((c6.length:Nat):Int))) (
  (atL c6 t).bind fun x=>
  (atL c12 t).bind fun x2=>
  (lj x.Pairs x2.Pairs).bind fun r_3=>
  br (!r_3) (
  some (.inr (.inl (x.Pairs,x.Paths,x2.Pairs,x2.Paths)))) (
  br (((x.Paths.length:Nat):Int) !=((x2.Paths.length:Nat):Int)) (
  some (.inr (.inl (x.Pairs,x.Paths,x2.Pairs,x2.Paths)))) (
  (Loop (dj t c c2 c3 c4 c5 c6 c7 c8 c9 c10 c11 c12 x.Pairs x.Paths x2.Pairs x2.Paths) (0:Int)).bind (alt (fun e_2=>
  some (.inr (.inl (x.Pairs,x.Paths,x2.Pairs,x2.Paths)))) (fun e_3=>
  some (.inl (IntKind.wrap .i64 (t+(1:Int))))))))) (
  some (.inr (.inr (t,decide (t<((c6.length:Nat):Int))))))
@[reducible] def tu (c:List (List Ext)) (c2:List (List UInt8)) (c3 c4 c5:Int) (c6:List aB) (c7:List (List Ext)) (c8:List (List UInt8)) (c9 c10 c11:Int) (c12:List aB) (s:Int):St:=⟨[(2,.ptr 1000 0 0 1),(3,.ptr 1001 0 0 1),(5,I s)],[(1000,⟨6,true,[[sl (eL ae) c,sl eS c2,I c3,I c4,I c5,sl aG c6]]⟩),(1001,⟨6,true,[[sl (eL ae) c7,sl eS c8,I c9,I c10,I c11,sl aG c12]]⟩)]⟩
@[reducible] def u9 (c:List (List Ext)) (c2:List (List UInt8)) (c3 c4 c5:Int) (c6:List aB) (c7:List (List Ext)) (c8:List (List UInt8)) (c9 c10 c11:Int) (c12:List aB):(((List Ext)×(List (List (List UInt8)))×(List Ext)×(List (List (List UInt8))))⊕(Int×Bool))→ai×St:=alt (fun e=>((.ret,⟨[(4,B false)],[(1000,⟨6,true,[[sl (eL ae) c,sl eS c2,I c3,I c4,I c5,sl aG c6]]⟩),(1001,⟨6,true,[[sl (eL ae) c7,sl eS c8,I c9,I c10,I c11,sl aG c12]]⟩),(7005,⟨2,true,[[sl ae e.1,sl (eL eS) e.2.1]]⟩),(8005,⟨2,true,[[sl ae e.2.2.1,sl (eL eS) e.2.2.2]]⟩)]⟩):ai×St)) (fun e=>(.exit 0,⟨[(2,.ptr 1000 0 0 1),(3,.ptr 1001 0 0 1),(5,I e.1),(50,B e.2)],[(1000,⟨6,true,[[sl (eL ae) c,sl eS c2,I c3,I c4,I c5,sl aG c6]]⟩),(1001,⟨6,true,[[sl (eL ae) c7,sl eS c8,I c9,I c10,I c11,sl aG c12]]⟩)]⟩))
theorem Fb {c c2 c3 c4 c5 c6 c7 c8 c9 c10 c11 c12 s e} (h:Loop (dl c c2 c3 c4 c5 c6 c7 c8 c9 c10 c11 c12) s=some e):aD tab ow (.close [7005,8005,9004,14010]) mB (tu c c2 c3 c4 c5 c6 c7 c8 c9 c10 c11 c12 s)=some (u9 c c2 c3 c4 c5 c6 c7 c8 c9 c10 c11 c12 e):=by
 refine lrG (fun s o h=> ?_) h
 simp only [dl] at h
 simp+decide only [tu,u9,mB,go_sem,reduceIte,Nat.reduceAdd]
 have d1:= @wD
 have d2:= @Db
 all_goals exact go
noncomputable def iD (ListtoArray a:aC):Option (Bool):=
 (mo ListtoArray.Rounds a.Rounds).bind fun r_=>
 br (!r_) (
 some false) (
 (lM ListtoArray.Roots a.Roots).bind fun r_2=>
 br (!r_2) (
 some false) (
 br (ListtoArray.Last.A==a.Last.A) (
 br (ListtoArray.Last.B==a.Last.B) (
 br (ListtoArray.Nonce !=a.Nonce) (
 some false) (
 br (((ListtoArray.Queries.length:Nat):Int) !=((a.Queries.length:Nat):Int)) (
 some false) (
 (Loop (dl ListtoArray.Rounds ListtoArray.Roots ListtoArray.Last.A ListtoArray.Last.B ListtoArray.Nonce ListtoArray.Queries a.Rounds a.Roots a.Last.A a.Last.B a.Nonce a.Queries) (0:Int)).bind (alt (fun e_5=>
 some false) (fun e_6=>
 some true))))) (
 some false)) (
 some false)))
theorem IV {ListtoArray a r} (h:iD ListtoArray a=some r):Call tab ow 17 [.agg [sl (eL ae) ListtoArray.Rounds,sl eS ListtoArray.Roots,I ListtoArray.Last.A,I ListtoArray.Last.B,I ListtoArray.Nonce,sl aG ListtoArray.Queries],.agg [sl (eL ae) a.Rounds,sl eS a.Roots,I a.Last.A,I a.Last.B,I a.Nonce,sl aG a.Queries]] []=some (B r,[]):=by
 rw [ab (af:=kZ) rfl]
 unfold iD at h
 simp+decide only [kZ,yc,go_sem,reduceIte,Nat.reduceAdd]
 have d1:= @Kk
 have d2:= @Bn
 have d3:= @Fb
 all_goals exact go
noncomputable def jJ (a b:Source):Option (Bool):=
 (lj a.Script b.Script).bind fun r_=>
 br r_ (
 br (a.At==b.At) (
 br (a.State==b.State) (
 some (a.Count==b.Count)) (
 some false)) (
 some false)) (
 some false)
theorem Jy {a b r} (h:jJ a b=some r):Call tab ow 18 [.agg [sl ae a.Script,I a.At,S a.State,I a.Count],.agg [sl ae b.Script,I b.At,S b.State,I b.Count]] []=some (B r,[]):=by
 rw [ab (af:=lW) rfl]
 unfold jJ at h
 simp+decide only [lW,zM,go_sem,reduceIte,Nat.reduceAdd]
 have d1:= @wD
 all_goals exact go
end Go.AI.Fn
set_option linter.unusedVariables false
set_option linter.unusedSimpArgs false
set_option maxRecDepth 100000
set_option maxHeartbeats 1000000
namespace Go.AI.Fn
noncomputable def qO (b2 t:List Ext) (t2 c c2:Int):Int×Int×Int→Option ((Int×Int×Int)⊕((Int×Bool×Int×Int)))
 | (t3,c3,c4)=>
   br (decide (t3<t2)) (
   (atL t t3).bind fun x=>
   (atL b2 t3).bind fun x2=>
   (bV x x2).bind fun r_=>
   (dh (Ext.mk c3 c4) r_).bind fun r_2=>
   some (.inl ((IntKind.wrap .i64 (t3+(1:Int))),r_2.A,r_2.B))) (
   some (.inr (t3,decide (t3<t2),c3,c4)))
@[reducible] def OR (b2 t:List Ext) (t2 c c2:Int) (s:Int×Int×Int):St:=⟨[(1,sl ae b2),(4,.ptr 1000 0 0 1),(5,.ptr 2001 0 0 1),(9,sl ae t),(10,I t2),(11,I s.1)],[(1000,⟨2,true,[[I c,I c2]]⟩),(2001,⟨2,true,[[I s.2.1,I s.2.2]]⟩)]⟩
@[reducible] def O3 (b2 t:List Ext) (t2 c c2:Int):(Int×Bool×Int×Int)→ai×St:=fun e=>(.exit 0,⟨[(1,sl ae b2),(4,.ptr 1000 0 0 1),(5,.ptr 2001 0 0 1),(9,sl ae t),(10,I t2),(11,I e.1),(12,B e.2.1)],[(1000,⟨2,true,[[I c,I c2]]⟩),(2001,⟨2,true,[[I e.2.2.1,I e.2.2.2]]⟩)]⟩)
theorem YS {b2 t t2 c c2 s e} (h:Loop (qO b2 t t2 c c2) s=some e):aD tab ow (.close [5003,6006,6007]) FD (OR b2 t t2 c c2 s)=some (O3 b2 t t2 c c2 e):=by
 refine lrG (fun s o h=> ?_) h
 obtain ⟨_,_,_⟩:=s
 simp only [qO] at h
 simp+decide only [OR,O3,FD,go_sem,reduceIte,Nat.reduceAdd]
 have d1:= @eR
 have d2:= @eO
 all_goals exact go
noncomputable def TU (a b:(List Ext)):Option (Ext):=
 (Loop (qO b a ((a.length:Nat):Int) (0:Int) (0:Int)) ((0:Int),(0:Int),(0:Int))).bind fun e_=>
 some (Ext.mk e_.2.2.1 e_.2.2.2)
theorem a37 {a b r} (h:TU a b=some r):Call tab ow 87 [sl ae a,sl ae b] []=some (.agg [I r.A,I r.B],[]):=by
 rw [ab (af:=Jh) rfl]
 unfold TU at h
 simp+decide only [Jh,WS,go_sem,reduceIte,Nat.reduceAdd]
 have d1:= @YS
 all_goals exact go
noncomputable def qP (table point:(List Ext)):Option (Ext×Int):=
 br (decide (((table.length:Nat):Int)>(4096:Int))) (
 some ((Ext.mk (0:Int) (0:Int)),(2:Int))) (
 br (decide (((point.length:Nat):Int)>(4096:Int))) (
 some ((Ext.mk (0:Int) (0:Int)),(2:Int))) (
 (lL table).bind fun r_=>
 br (!r_) (
 some ((Ext.mk (0:Int) (0:Int)),(1:Int))) (
 (qz point).bind fun r_2=>
 br (!r_2) (
 some ((Ext.mk (0:Int) (0:Int)),(1:Int))) (
 br (decide (0≤((point.length:Nat):Int))) (
 br (((table.length:Nat):Int) !=(bW .i64 (1:Int) ((point.length:Nat):Int))) (
 some ((Ext.mk (0:Int) (0:Int)),(8:Int))) (
 (qw point).bind fun r_3=>
 (TU table r_3).bind fun r_4=>
 some (r_4,(0:Int)))) none))))
theorem Sv {table point r} (h:qP table point=some r):Call tab ow 19 [sl ae table,sl ae point] []=some (.tup [.agg [I r.1.A,I r.1.B],I r.2],[]):=by
 rw [ab (af:=sS) rfl]
 unfold qP at h
 simp+decide only [sS,Ih,go_sem,reduceIte,Nat.reduceAdd]
 have d1:= @yS
 have d2:= @HD
 have d3:= @GM
 have d4:= @a37
 all_goals exact go
noncomputable def E0 (t:(List UInt8)):Option (Bool):=
 some (decide (((t.length:Nat):Int)>(65536:Int)))
theorem V2 {t r} (h:E0 t=some r):Call tab ow 89 [S t] []=some (B r,[]):=by
 rw [ab (af:=wx) rfl]
 unfold E0 at h
 simp+decide only [wx,JE,go_sem,reduceIte,Nat.reduceAdd]
 all_goals exact go
noncomputable def kB (round:(List Ext)) (m:Int):Option (Bool×Int):=
 br (((round.length:Nat):Int) !=m) (
 some (true,m)) (
 (bU round).bind fun r_=>
 some ((!r_),m))
theorem IA {round m r} (h:kB round m=some r):Call tab ow 204 [sl ae round,.ptr 0 0 0 1] [⟨1,true,[[I m]]⟩]=some (B r.1,[⟨1,true,[[I r.2]]⟩]):=by
 rw [ab (af:=kV) rfl]
 unfold kB at h
 simp+decide only [kV,xF,go_sem,reduceIte,Nat.reduceAdd]
 have d1:= @dt
 all_goals exact go
noncomputable def bg (s2:List (List Ext)) (t:Int):Int×Int→Option ((Int×Int)⊕((Int×Int)⊕(Int×Bool×Int)))
 | (t2,c)=>
   br (decide (t2<t)) (
   (atL s2 t2).bind fun x=>
   (kB x c).bind fun r_=>
   br r_.1 (
   some (.inr (.inl (t2,r_.2)))) (
   some (.inl ((IntKind.wrap .i64 (t2+(1:Int))),r_.2)))) (
   some (.inr (.inr (t2,decide (t2<t),c))))
@[reducible] def cJ (s2:List (List Ext)) (t:Int) (s:Int×Int):St:=⟨[(0,sl (eL ae) s2),(1,.fn 204 [.ptr 0 0 0 1]),(7,I t),(8,I s.1)],[(0,⟨1,true,[[I s.2]]⟩)]⟩
@[reducible] def cK (s2:List (List Ext)) (t:Int):((Int×Int)⊕(Int×Bool×Int))→ai×St:=alt (fun e=>((.ret,⟨[(4,I e.1)],[(0,⟨1,true,[[I e.2]]⟩)]⟩):ai×St)) (fun e=>(.exit 0,⟨[(0,sl (eL ae) s2),(1,.fn 204 [.ptr 0 0 0 1]),(7,I t),(8,I e.1),(9,B e.2.1)],[(0,⟨1,true,[[I e.2.2]]⟩)]⟩))
theorem fU {s2 t s e} (h:Loop (bg s2 t) s=some e):aD tab ow (.close [5005]) cL (cJ s2 t s)=some (cK s2 t e):=by
 refine lrG (fun s o h=> ?_) h
 obtain ⟨_,_⟩:=s
 simp only [bg] at h
 simp+decide only [cJ,cK,cL,go_sem,reduceIte,Nat.reduceAdd]
 have d1:= @IA
 all_goals exact go
noncomputable def bu (s:(List (List Ext))) (m:Int):Option (Int×Int):=
 (Loop (bg s ((s.length:Nat):Int)) ((0:Int),m)).bind (alt (fun e_2=>
 some (e_2.1,e_2.2)) (fun e_3=>
 some ((-1:Int),e_3.2.2)))
theorem gt {s m r} (h:bu s m=some r):Call tab ow 300 [sl (eL ae) s,.fn 204 [.ptr 0 0 0 1]] [⟨1,true,[[I m]]⟩]=some (I r.1,[⟨1,true,[[I r.2]]⟩]):=by
 rw [ab (af:=cg) rfl]
 unfold bu at h
 simp+decide only [cg,fI,go_sem,reduceIte,Nat.reduceAdd]
 have d1:= @fU
 all_goals exact go
noncomputable def bj (s:(List (List Ext))) (m:Int):Option (Bool×Int):=
 (bu s m).bind fun r_=>
 some (decide (r_.1≥(0:Int)),r_.2)
theorem fJ {s m r} (h:bj s m=some r):Call tab ow 203 [sl (eL ae) s,.fn 204 [.ptr 0 0 0 1]] [⟨1,true,[[I m]]⟩]=some (B r.1,[⟨1,true,[[I r.2]]⟩]):=by
 rw [ab (af:=bP) rfl]
 unfold bj at h
 simp+decide only [bP,ex,go_sem,reduceIte,Nat.reduceAdd]
 have d1:= @gt
 all_goals exact go
noncomputable def ov (rounds:(List (List Ext))) (many size:Int):Option (Bool):=
 br (((rounds.length:Nat):Int)==many) (
 (bj rounds size).bind fun r_=>
 some (!r_.1)) (
 some false)
theorem Nu {rounds many size r} (h:ov rounds many size=some r):Call tab ow 98 [sl (eL ae) rounds,I many,I size] []=some (B r,[]):=by
 rw [ab (af:=nF) rfl]
 unfold ov at h
 simp+decide only [nF,Bq,go_sem,reduceIte,Nat.reduceAdd]
 have d1:= @fJ
 all_goals exact go
noncomputable def dG (x:(List UInt8)):Option (Bool):=
 (sa x).bind fun r_=>
 some (!r_)
theorem w7 {x r} (h:dG x=some r):Call tab ow 206 [S x,.ptr 0 0 0 1] [⟨1,true,[[.fn 100 []]]⟩]=some (B r,[⟨1,true,[[.fn 100 []]]⟩]):=by
 rw [ab (af:=jT) rfl]
 unfold dG at h
 simp+decide only [jT,vl,go_sem,reduceIte,Nat.reduceAdd]
 have d1:= @CJ
 all_goals exact go
noncomputable def aM (s2:List (List UInt8)) (t:Int):Int→Option ((Int)⊕(Int⊕(Int×Bool)))
 |t2=>
  br (decide (t2<t)) (
  (atL s2 t2).bind fun x=>
  (dG x).bind fun r_=>
  br r_ (
  some (.inr (.inl t2))) (
  some (.inl (IntKind.wrap .i64 (t2+(1:Int)))))) (
  some (.inr (.inr (t2,decide (t2<t)))))
@[reducible] def cc (s2:List (List UInt8)) (t s:Int):St:=⟨[(0,sl eS s2),(1,.fn 206 [.ptr 0 0 0 1]),(7,I t),(8,I s)],[(0,⟨1,true,[[.fn 100 []]]⟩)]⟩
@[reducible] def ce (s2:List (List UInt8)) (t:Int):(Int⊕(Int×Bool))→ai×St:=alt (fun e=>((.ret,⟨[(4,I e)],[(0,⟨1,true,[[.fn 100 []]]⟩)]⟩):ai×St)) (fun e=>(.exit 0,⟨[(0,sl eS s2),(1,.fn 206 [.ptr 0 0 0 1]),(7,I t),(8,I e.1),(9,B e.2)],[(0,⟨1,true,[[.fn 100 []]]⟩)]⟩))
theorem dX {s2 t s e} (h:Loop (aM s2 t) s=some e):aD tab ow (.close [5005]) bA (cc s2 t s)=some (ce s2 t e):=by
 refine lrG (fun s o h=> ?_) h
 simp only [aM] at h
 simp+decide only [cc,ce,bA,go_sem,reduceIte,Nat.reduceAdd]
 have d1:= @w7
 all_goals exact go
noncomputable def aS (s:(List (List UInt8))):Option (Int):=
 (Loop (aM s ((s.length:Nat):Int)) (0:Int)).bind (alt (fun e_2=>
 some e_2) (fun e_3=>
 some (-1:Int)))
theorem eG {s r} (h:aS s=some r):Call tab ow 301 [sl eS s,.fn 206 [.ptr 0 0 0 1]] [⟨1,true,[[.fn 100 []]]⟩]=some (I r,[⟨1,true,[[.fn 100 []]]⟩]):=by
 rw [ab (af:=bn) rfl]
 unfold aS at h
 simp+decide only [bn,db,go_sem,reduceIte,Nat.reduceAdd]
 have d1:= @dX
 all_goals exact go
noncomputable def aO (s:(List (List UInt8))):Option (Bool):=
 (aS s).bind fun r_=>
 some (decide (r_≥(0:Int)))
theorem dQ {s r} (h:aO s=some r):Call tab ow 205 [sl eS s,.fn 206 [.ptr 0 0 0 1]] [⟨1,true,[[.fn 100 []]]⟩]=some (B r,[⟨1,true,[[.fn 100 []]]⟩]):=by
 rw [ab (af:=aX) rfl]
 unfold aO at h
 simp+decide only [aX,cI,go_sem,reduceIte,Nat.reduceAdd]
 have d1:= @eG
 all_goals exact go
noncomputable def dq (list:(List (List UInt8))):Option (Bool):=
 (aO list).bind fun r_=>
 some (!r_)
theorem mK {list r} (h:dq list=some r):Call tab ow 99 [.fn 100 [],sl eS list] []=some (B r,[]):=by
 rw [ab (af:=mA) rfl]
 unfold dq at h
 simp+decide only [mA,A9,go_sem,reduceIte,Nat.reduceAdd]
 have d1:= @dQ
 all_goals exact go
noncomputable def gg (vars2:Int) (t2:List (List (List UInt8))) (t3:Int) (c:List Ext) (c2:List (List (List UInt8))) (c3 c4 c5:Int):Int→Option ((Int)⊕(Unit⊕(Int×Bool)))
 |t4=>
  br (decide (t4<t3)) (
  (atL t2 t4).bind fun x=>
  br (((x.length:Nat):Int) !=(IntKind.wrap .i64 ((IntKind.wrap .i64 ((IntKind.wrap .i64 (vars2+c3))-(1:Int)))-t4))) (
  some (.inr (.inl ()))) (
  (dq x).bind fun r_2=>
  br (!r_2) (
  some (.inr (.inl ()))) (
  some (.inl (IntKind.wrap .i64 (t4+(1:Int))))))) (
  some (.inr (.inr (t4,decide (t4<t3)))))
@[reducible] def BD (vars2:Int) (t2:List (List (List UInt8))) (t3:Int) (c:List Ext) (c2:List (List (List UInt8))) (c3 c4 c5 s:Int):St:=⟨[(1,I vars2),(5,.ptr 1001 0 0 1),(29,sl (eL eS) t2),(30,I t3),(31,I s)],[(1000,⟨2,true,[[sl ae c,sl (eL eS) c2]]⟩),(1001,⟨3,true,[[I c3,I c4,I c5]]⟩)]⟩
@[reducible] def BU (vars2:Int) (t2:List (List (List UInt8))) (t3:Int) (c:List Ext) (c2:List (List (List UInt8))) (c3 c4 c5:Int):(Unit⊕(Int×Bool))→ai×St:=alt (fun e=>((.ret,⟨[(6,B false)],[(1000,⟨2,true,[[sl ae c,sl (eL eS) c2]]⟩),(1001,⟨3,true,[[I c3,I c4,I c5]]⟩)]⟩):ai×St)) (fun e=>(.exit 0,⟨[(1,I vars2),(5,.ptr 1001 0 0 1),(29,sl (eL eS) t2),(30,I t3),(31,I e.1),(32,B e.2)],[(1000,⟨2,true,[[sl ae c,sl (eL eS) c2]]⟩),(1001,⟨3,true,[[I c3,I c4,I c5]]⟩)]⟩))
theorem Nb {vars2 t2 t3 c c2 c3 c4 c5 s e} (h:Loop (gg vars2 t2 t3 c c2 c3 c4 c5) s=some e):aD tab ow (.close [7012]) uW (BD vars2 t2 t3 c c2 c3 c4 c5 s)=some (BU vars2 t2 t3 c c2 c3 c4 c5 e):=by
 refine lrG (fun s o h=> ?_) h
 simp only [gg] at h
 simp+decide only [BD,BU,uW,go_sem,reduceIte,Nat.reduceAdd]
 have d1:= @mK
 all_goals exact go
noncomputable def qY (q:aB) (vars:Int) (t:Setting):Option (Bool):=
 br (((q.Pairs.length:Nat):Int) !=(IntKind.wrap .i64 ((2:Int)*vars))) (
 some false) (
 (bU q.Pairs).bind fun r_=>
 br (!r_) (
 some false) (
 br (((q.Paths.length:Nat):Int) !=vars) (
 some false) (
 (Loop (gg vars q.Paths ((q.Paths.length:Nat):Int) q.Pairs q.Paths t.Rate t.Queries t.Grind) (0:Int)).bind (alt (fun e_2=>
 some false) (fun e_3=>
 some true)))))
theorem U2 {q vars t r} (h:qY q vars t=some r):Call tab ow 103 [.agg [sl ae q.Pairs,sl (eL eS) q.Paths],I vars,.agg [I t.Rate,I t.Queries,I t.Grind]] []=some (B r,[]):=by
 rw [ab (af:=sT) rfl]
 unfold qY at h
 simp+decide only [sT,Hl,go_sem,reduceIte,Nat.reduceAdd]
 have d1:= @dt
 have d2:= @Nb
 all_goals exact go
noncomputable def nC (q:aB) (m:Int) (m2:Setting):Option (Bool×Int×Setting):=
 (qY q m m2).bind fun r_=>
 some (r_,m,m2)
theorem IN {q m m2 r} (h:nC q m m2=some r):Call tab ow 102 [.agg [sl ae q.Pairs,sl (eL eS) q.Paths],.ptr 0 0 0 1,.ptr 1 0 0 1] [⟨1,true,[[I m]]⟩,⟨3,true,[[I m2.Rate,I m2.Queries,I m2.Grind]]⟩]=some (B r.1,[⟨1,true,[[I r.2.1]]⟩,⟨3,true,[[I r.2.2.Rate,I r.2.2.Queries,I r.2.2.Grind]]⟩]):=by
 rw [ab (af:=kW) rfl]
 unfold nC at h
 simp+decide only [kW,yf,go_sem,reduceIte,Nat.reduceAdd]
 have d1:= @U2
 all_goals exact go
noncomputable def bL (x:aB) (m:Int) (m2:Setting):Option (Bool×Int×Setting):=
 (nC x m m2).bind fun r_=>
 some ((!r_.1),r_.2.1,r_.2.2)
theorem oi {x m m2 r} (h:bL x m m2=some r):Call tab ow 208 [.agg [sl ae x.Pairs,sl (eL eS) x.Paths],.ptr 0 0 0 1] [⟨1,true,[[.fn 102 [.ptr 1 0 0 1,.ptr 2 0 0 1]]]⟩,⟨1,true,[[I m]]⟩,⟨3,true,[[I m2.Rate,I m2.Queries,I m2.Grind]]⟩]=some (B r.1,[⟨1,true,[[.fn 102 [.ptr 1 0 0 1,.ptr 2 0 0 1]]]⟩,⟨1,true,[[I r.2.1]]⟩,⟨3,true,[[I r.2.2.Rate,I r.2.2.Queries,I r.2.2.Grind]]⟩]):=by
 rw [ab (af:=j3) rfl]
 unfold bL at h
 simp+decide only [j3,t0,go_sem,reduceIte,Nat.reduceAdd]
 have d1:= @IN
 all_goals exact go
noncomputable def aw (s2:List aB) (t:Int):Int×Int×Int×Int×Int→Option ((Int×Int×Int×Int×Int)⊕((Int×Int×Int×Int×Int)⊕(Int×Bool×Int×Int×Int×Int)))
 | (t2,c,c2,c3,c4)=>
   br (decide (t2<t)) (
   (atL s2 t2).bind fun x=>
   (bL x c (Setting.mk c2 c3 c4)).bind fun r_=>
   br r_.1 (
   some (.inr (.inl (t2,r_.2.1,r_.2.2.Rate,r_.2.2.Queries,r_.2.2.Grind)))) (
   some (.inl ((IntKind.wrap .i64 (t2+(1:Int))),r_.2.1,r_.2.2.Rate,r_.2.2.Queries,r_.2.2.Grind)))) (
   some (.inr (.inr (t2,decide (t2<t),c,c2,c3,c4))))
@[reducible] def bG (s2:List aB) (t:Int) (s:Int×Int×Int×Int×Int):St:=⟨[(0,sl aG s2),(1,.fn 208 [.ptr 0 0 0 1]),(7,I t),(8,I s.1)],[(0,⟨1,true,[[.fn 102 [.ptr 1 0 0 1,.ptr 2 0 0 1]]]⟩),(1,⟨1,true,[[I s.2.1]]⟩),(2,⟨3,true,[[I s.2.2.1,I s.2.2.2.1,I s.2.2.2.2]]⟩)]⟩
@[reducible] def bF (s2:List aB) (t:Int):((Int×Int×Int×Int×Int)⊕(Int×Bool×Int×Int×Int×Int))→ai×St:=alt (fun e=>((.ret,⟨[(4,I e.1)],[(0,⟨1,true,[[.fn 102 [.ptr 1 0 0 1,.ptr 2 0 0 1]]]⟩),(1,⟨1,true,[[I e.2.1]]⟩),(2,⟨3,true,[[I e.2.2.1,I e.2.2.2.1,I e.2.2.2.2]]⟩)]⟩):ai×St)) (fun e=>(.exit 0,⟨[(0,sl aG s2),(1,.fn 208 [.ptr 0 0 0 1]),(7,I t),(8,I e.1),(9,B e.2.1)],[(0,⟨1,true,[[.fn 102 [.ptr 1 0 0 1,.ptr 2 0 0 1]]]⟩),(1,⟨1,true,[[I e.2.2.1]]⟩),(2,⟨3,true,[[I e.2.2.2.1,I e.2.2.2.2.1,I e.2.2.2.2.2]]⟩)]⟩))
theorem de {s2 t s e} (h:Loop (aw s2 t) s=some e):aD tab ow (.close [5005]) cE (bG s2 t s)=some (bF s2 t e):=by
 refine lrG (fun s o h=> ?_) h
 obtain ⟨_,_,_,_,_⟩:=s
 simp only [aw] at h
 simp+decide only [bG,bF,cE,go_sem,reduceIte,Nat.reduceAdd]
 have d1:= @oi
 all_goals exact go
noncomputable def aJ (s:(List aB)) (m:Int) (m2:Setting):Option (Int×Int×Setting):=
 (Loop (aw s ((s.length:Nat):Int)) ((0:Int),m,m2.Rate,m2.Queries,m2.Grind)).bind (alt (fun e_2=>
 some (e_2.1,e_2.2.1,(Setting.mk e_2.2.2.1 e_2.2.2.2.1 e_2.2.2.2.2))) (fun e_3=>
 some ((-1:Int),e_3.2.2.1,(Setting.mk e_3.2.2.2.1 e_3.2.2.2.2.1 e_3.2.2.2.2.2))))
theorem dx {s m m2 r} (h:aJ s m m2=some r):Call tab ow 302 [sl aG s,.fn 208 [.ptr 0 0 0 1]] [⟨1,true,[[.fn 102 [.ptr 1 0 0 1,.ptr 2 0 0 1]]]⟩,⟨1,true,[[I m]]⟩,⟨3,true,[[I m2.Rate,I m2.Queries,I m2.Grind]]⟩]=some (I r.1,[⟨1,true,[[.fn 102 [.ptr 1 0 0 1,.ptr 2 0 0 1]]]⟩,⟨1,true,[[I r.2.1]]⟩,⟨3,true,[[I r.2.2.Rate,I r.2.2.Queries,I r.2.2.Grind]]⟩]):=by
 rw [ab (af:=bT) rfl]
 unfold aJ at h
 simp+decide only [bT,eW,go_sem,reduceIte,Nat.reduceAdd]
 have d1:= @de
 all_goals exact go
noncomputable def aI (s:(List aB)) (m:Int) (m2:Setting):Option (Bool×Int×Setting):=
 (aJ s m m2).bind fun r_=>
 some (decide (r_.1≥(0:Int)),r_.2.1,r_.2.2)
theorem cZ {s m m2 r} (h:aI s m m2=some r):Call tab ow 207 [sl aG s,.fn 208 [.ptr 0 0 0 1]] [⟨1,true,[[.fn 102 [.ptr 1 0 0 1,.ptr 2 0 0 1]]]⟩,⟨1,true,[[I m]]⟩,⟨3,true,[[I m2.Rate,I m2.Queries,I m2.Grind]]⟩]=some (B r.1,[⟨1,true,[[.fn 102 [.ptr 1 0 0 1,.ptr 2 0 0 1]]]⟩,⟨1,true,[[I r.2.1]]⟩,⟨3,true,[[I r.2.2.Rate,I r.2.2.Queries,I r.2.2.Grind]]⟩]):=by
 rw [ab (af:=bJ) rfl]
 unfold aI at h
 simp+decide only [bJ,dW,go_sem,reduceIte,Nat.reduceAdd]
 have d1:= @dx
 all_goals exact go
noncomputable def dE (list:(List aB)) (m:Int) (m2:Setting):Option (Bool×Int×Setting):=
 (aI list m m2).bind fun r_=>
 some ((!r_.1),r_.2.1,r_.2.2)
theorem pP {list m m2 r} (h:dE list m m2=some r):Call tab ow 101 [.fn 102 [.ptr 0 0 0 1,.ptr 1 0 0 1],sl aG list] [⟨1,true,[[I m]]⟩,⟨3,true,[[I m2.Rate,I m2.Queries,I m2.Grind]]⟩]=some (B r.1,[⟨1,true,[[I r.2.1]]⟩,⟨3,true,[[I r.2.2.Rate,I r.2.2.Queries,I r.2.2.Grind]]⟩]):=by
 rw [ab (af:=le) rfl]
 unfold dE at h
 simp+decide only [le,xW,go_sem,reduceIte,Nat.reduceAdd]
 have d1:= @cZ
 all_goals exact go
noncomputable def lH (o_:aC) (vars:Int) (t:Setting):Option (Bool):=
 (we vars (1:Int) (6:Int)).bind fun r_=>
 br r_ (
 (gX t).bind fun r_2=>
 br r_2 (
 (ov o_.Rounds vars (3:Int)).bind fun r_3=>
 br r_3 (
 br (((o_.Roots.length:Nat):Int)==(IntKind.wrap .i64 (vars-(1:Int)))) (
 (dq o_.Roots).bind fun r_4=>
 br r_4 (
 (pM o_.Last).bind fun r_5=>
 br r_5 (
 (we o_.Nonce (0:Int) (65535:Int)).bind fun r_6=>
 br r_6 (
 br (((o_.Queries.length:Nat):Int)==t.Queries) (
 (dE o_.Queries vars t).bind fun r_7=>
 some r_7.1) (
 some false)) (
 some false)) (
 some false)) (
 some false)) (
 some false)) (
 some false)) (
 some false)) (
 some false)
theorem Be {o_ vars t r} (h:lH o_ vars t=some r):Call tab ow 25 [.agg [sl (eL ae) o_.Rounds,sl eS o_.Roots,I o_.Last.A,I o_.Last.B,I o_.Nonce,sl aG o_.Queries],I vars,.agg [I t.Rate,I t.Queries,I t.Grind]] []=some (B r,[]):=by
 rw [ab (af:=nu) rfl]
 unfold lH at h
 simp+decide only [nu,Ck,go_sem,reduceIte,Nat.reduceAdd]
 have d1:= @zi
 have d2:= @nv
 have d3:= @Nu
 have d4:= @mK
 have d5:= @Ar
 have d6:= @pP
 all_goals exact go
noncomputable def ip (values3:List Ext) (i:Int) (t4:List Ext) (t5 t6 t7 c7 c8 c9 c10 c11 c12 c13 c14:Int):Int×Int×Int→Option ((Int×Int×Int)⊕((Int×Bool×Int×Int)))
 | (t8,c15,c16)=>
   br (decide (t8<t7)) (
   br (t8 !=i) (
   (cW (Ext.mk c7 c8) (Ext.mk t8 (0:Int))).bind fun r_=>
   (bV (Ext.mk c15 c16) r_).bind fun r_2=>
   (Lj i t8).bind fun r_3=>
   (mU r_3).bind fun r_4=>
   (fS r_2 r_4).bind fun r_5=>
   some (.inl ((IntKind.wrap .i64 (t8+(1:Int))),r_5.A,r_5.B))) (
   some (.inl ((IntKind.wrap .i64 (t8+(1:Int))),c15,c16)))) (
   some (.inr (t8,decide (t8<t7),c15,c16)))
@[reducible] def Ft (values3:List Ext) (i:Int) (t4:List Ext) (t5 t6 t7 c7 c8 c9 c10 c11 c12 c13 c14:Int) (s:Int×Int×Int):St:=⟨[(0,sl ae values3),(3,.ptr 1000 0 0 1),(4,.ptr 1001 0 0 1),(5,.ptr 2001 0 0 1),(6,I i),(8,.ptr 6001 0 0 1),(11,sl ae t4),(12,I t5),(13,I t6),(20,I t7),(21,I s.1)],[(1000,⟨2,true,[[I c7,I c8]]⟩),(1001,⟨2,true,[[I c9,I c10]]⟩),(2001,⟨2,true,[[I c11,I c12]]⟩),(5003,⟨2,true,[[I c13,I c14]]⟩),(6001,⟨2,true,[[I s.2.1,I s.2.2]]⟩)]⟩
@[reducible] def D5 (values3:List Ext) (i:Int) (t4:List Ext) (t5 t6 t7 c7 c8 c9 c10 c11 c12 c13 c14:Int):(Int×Bool×Int×Int)→ai×St:=fun e=>(.exit 2,⟨[(0,sl ae values3),(3,.ptr 1000 0 0 1),(4,.ptr 1001 0 0 1),(5,.ptr 2001 0 0 1),(6,I i),(8,.ptr 6001 0 0 1),(11,sl ae t4),(12,I t5),(13,I t6),(20,I t7),(21,I e.1),(22,B e.2.1)],[(1000,⟨2,true,[[I c7,I c8]]⟩),(1001,⟨2,true,[[I c9,I c10]]⟩),(2001,⟨2,true,[[I c11,I c12]]⟩),(5003,⟨2,true,[[I c13,I c14]]⟩),(6001,⟨2,true,[[I e.2.2.1,I e.2.2.2]]⟩)]⟩)
theorem Ph {values3 i t4 t5 t6 t7 c7 c8 c9 c10 c11 c12 c13 c14 s e} (h:Loop (ip values3 i t4 t5 t6 t7 c7 c8 c9 c10 c11 c12 c13 c14) s=some e):aD tab ow (.close [11004,11005,11008,11009,11010]) wd (Ft values3 i t4 t5 t6 t7 c7 c8 c9 c10 c11 c12 c13 c14 s)=some (D5 values3 i t4 t5 t6 t7 c7 c8 c9 c10 c11 c12 c13 c14 e):=by
 refine lrG (fun s o h=> ?_) h
 obtain ⟨_,_,_⟩:=s
 simp only [ip] at h
 simp+decide only [Ft,D5,wd,go_sem,reduceIte,Nat.reduceAdd]
 have d1:= @eV
 have d2:= @eR
 have d3:= @W8
 have d4:= @Iq
 have d5:= @rY
 all_goals exact go
noncomputable def io (values2 t:List Ext) (t2 c c2 c3 c4:Int):Int×Int×Int→Option ((Int×Int×Int)⊕((Int×Bool×Int×Int)))
 | (t3,c5,c6)=>
   br (decide (t3<t2)) (
   (atL t t3).bind fun x2=>
   (Loop (ip values2 t3 t t2 t3 ((values2.length:Nat):Int) c c2 c3 c4 c5 c6 x2.A x2.B) ((0:Int),x2.A,x2.B)).bind fun e_=>
   (dh (Ext.mk c5 c6) (Ext.mk e_.2.2.1 e_.2.2.2)).bind fun r_6=>
   some (.inl ((IntKind.wrap .i64 (t3+(1:Int))),r_6.A,r_6.B))) (
   some (.inr (t3,decide (t3<t2),c5,c6)))
@[reducible] def DN (values2 t:List Ext) (t2 c c2 c3 c4:Int) (s:Int×Int×Int):St:=⟨[(0,sl ae values2),(3,.ptr 1000 0 0 1),(4,.ptr 1001 0 0 1),(5,.ptr 2001 0 0 1),(11,sl ae t),(12,I t2),(13,I s.1)],[(1000,⟨2,true,[[I c,I c2]]⟩),(1001,⟨2,true,[[I c3,I c4]]⟩),(2001,⟨2,true,[[I s.2.1,I s.2.2]]⟩)]⟩
@[reducible] def DT (values2 t:List Ext) (t2 c c2 c3 c4:Int):(Int×Bool×Int×Int)→ai×St:=fun e=>(.exit 0,⟨[(0,sl ae values2),(3,.ptr 1000 0 0 1),(4,.ptr 1001 0 0 1),(5,.ptr 2001 0 0 1),(11,sl ae t),(12,I t2),(13,I e.1),(14,B e.2.1)],[(1000,⟨2,true,[[I c,I c2]]⟩),(1001,⟨2,true,[[I c3,I c4]]⟩),(2001,⟨2,true,[[I e.2.2.1,I e.2.2.2]]⟩)]⟩)
theorem Rm {values2 t t2 c c2 c3 c4 s e} (h:Loop (io values2 t t2 c c2 c3 c4) s=some e):aD tab ow (.close [5003,6001,11004,11005,11008,11009,11010,13002]) wV (DN values2 t t2 c c2 c3 c4 s)=some (DT values2 t t2 c c2 c3 c4 e):=by
 refine lrG (fun s o h=> ?_) h
 obtain ⟨_,_,_⟩:=s
 simp only [io] at h
 simp+decide only [DN,DT,wV,go_sem,reduceIte,Nat.reduceAdd]
 have d1:= @Ph
 have d2:= @eO
 all_goals exact go
noncomputable def zE (values:(List Ext)) (x:Ext):Option (Ext):=
 (Loop (io values values ((values.length:Nat):Int) x.A x.B (0:Int) (0:Int)) ((0:Int),(0:Int),(0:Int))).bind fun e_2=>
 some (Ext.mk e_2.2.2.1 e_2.2.2.2)
theorem UB {values x r} (h:zE values x=some r):Call tab ow 294 [sl ae values,.agg [I x.A,I x.B]] []=some (.agg [I r.A,I r.B],[]):=by
 rw [ab (af:=xu) rfl]
 unfold zE at h
 simp+decide only [xu,K7,go_sem,reduceIte,Nat.reduceAdd]
 have d1:= @Rm
 all_goals exact go
noncomputable def gB (k m:Int) (m2:aC) (m3:Source):Option (Int×aC×Source):=
 br (decide (k<(IntKind.wrap .i64 (m-(1:Int))))) (
 (atL m2.Roots k).bind fun x=>
 br (aZ x.length 1) (
 (cO x m3).bind fun r_=>
 some (m,m2,r_)) none) (
 some (m,m2,m3))
theorem Cy {k m m2 m3 r} (h:gB k m m2 m3=some r):Call tab ow 188 [I k,.ptr 0 0 0 1,.ptr 1 0 0 1,.ptr 2 0 0 1] [⟨1,true,[[I m]]⟩,⟨1,true,[[.ptr 3 0 0 1]]⟩,⟨6,true,[[sl (eL ae) m2.Rounds,sl eS m2.Roots,I m2.Last.A,I m2.Last.B,I m2.Nonce,sl aG m2.Queries]]⟩,⟨4,true,[[sl ae m3.Script,I m3.At,S m3.State,I m3.Count]]⟩]=some (.tup [],[⟨1,true,[[I r.1]]⟩,⟨1,true,[[.ptr 3 0 0 1]]⟩,⟨6,true,[[sl (eL ae) r.2.1.Rounds,sl eS r.2.1.Roots,I r.2.1.Last.A,I r.2.1.Last.B,I r.2.1.Nonce,sl aG r.2.1.Queries]]⟩,⟨4,true,[[sl ae r.2.2.Script,I r.2.2.At,S r.2.2.State,I r.2.2.Count]]⟩]):=by
 rw [ab (af:=iq) rfl]
 unfold gB at h
 simp+decide only [iq,rA,go_sem,reduceIte,Nat.reduceAdd]
 have d1:= @fW
 all_goals exact go
section
noncomputable def aA (kind2:Int) (t:List (List Ext)) (t2 c14 c15:Int):(List Ext)×Int×(List Ext)×Int×(List UInt8)×Int×Int×(List (List Ext))×(List (List UInt8))×Int×Int×Int×(List aB)×Int×Int→Option (((List Ext)×Int×(List Ext)×Int×(List UInt8)×Int×Int×(List (List Ext))×(List (List UInt8))×Int×Int×Int×(List aB)×Int×Int)⊕(((List Ext)×Int×(List Ext)×Int×(List UInt8)×Int×Int×(List (List Ext))×(List (List UInt8))×Int×Int×Int×(List aB)×Int×Int)⊕((List Ext)×Int×Bool×(List Ext)×Int×(List UInt8)×Int×Int×(List (List Ext))×(List (List UInt8))×Int×Int×Int×(List aB)×Int×Int)))
 | (l,t3,c,c2,c3,c4,c5,c6,c7,c8,c9,c10,c11,c12,c13)=>
   br (decide (t3<t2)) (
   (atL t t3).bind fun x=>
   (lg kind2).bind fun r_=>
   br (((x.length:Nat):Int) !=(IntKind.wrap .i64 (r_+(1:Int)))) (
   some (.inr (.inl (l,(18:Int),c,c2,c3,c4,c5,c6,c7,c8,c9,c10,c11,c12,c13)))) (
   (atL x (0:Int)).bind fun x2=>
   (atL x (1:Int)).bind fun x3=>
   (dh x2 x3).bind fun r_2=>
   br (r_2.A==c12) (
   br (r_2.B==c13) (
   (ci x (Source.mk c c2 c3 c4)).bind fun r_3=>
   (eP r_3).bind fun r_4=>
   (zE x r_4.1).bind fun r_5=>
   br (aZ ((l++([r_4.1]:List Ext)).length) 16) (
   (gB t3 c5 (aC.mk c6 c7 (Ext.mk c8 c9) c10 c11) r_4.2).bind fun r_6=>
   some (.inl ((l++([r_4.1]:List Ext)),(IntKind.wrap .i64 (t3+(1:Int))),r_6.2.2.Script,r_6.2.2.At,r_6.2.2.State,r_6.2.2.Count,r_6.1,r_6.2.1.Rounds,r_6.2.1.Roots,r_6.2.1.Last.A,r_6.2.1.Last.B,r_6.2.1.Nonce,r_6.2.1.Queries,r_5.A,r_5.B))) none) (
   some (.inr (.inl (l,(10:Int),c,c2,c3,c4,c5,c6,c7,c8,c9,c10,c11,c12,c13))))) (
   some (.inr (.inl (l,(10:Int),c,c2,c3,c4,c5,c6,c7,c8,c9,c10,c11,c12,c13)))))) (
   some (.inr (.inr (l,t3,decide (t3<t2),c,c2,c3,c4,c5,c6,c7,c8,c9,c10,c11,c12,c13))))
@[reducible] def ed (kind2:Int) (t:List (List Ext)) (t2 c14 c15:Int) (s:(List Ext)×Int×(List Ext)×Int×(List UInt8)×Int×Int×(List (List Ext))×(List (List UInt8))×Int×Int×Int×(List aB)×Int×Int):St:=⟨[(0,.ptr 0 0 0 1),(1,I kind2),(4,.fn 188 [.ptr 1 0 0 1,.ptr 2 0 0 1,.ptr 3 0 0 1]),(7,.ptr 1000 0 0 1),(11,.ptr 1002 0 0 1),(13,.sl 2000 0 s.1.length),(18,sl (eL ae) t),(19,I t2),(20,I s.2.1)],[(0,⟨4,true,[[sl ae s.2.2.1,I s.2.2.2.1,S s.2.2.2.2.1,I s.2.2.2.2.2.1]]⟩),(1,⟨1,true,[[I s.2.2.2.2.2.2.1]]⟩),(2,⟨1,true,[[.ptr 0 0 0 1]]⟩),(3,⟨6,true,[[sl (eL ae) s.2.2.2.2.2.2.2.1,sl eS s.2.2.2.2.2.2.2.2.1,I s.2.2.2.2.2.2.2.2.2.1,I s.2.2.2.2.2.2.2.2.2.2.1,I s.2.2.2.2.2.2.2.2.2.2.2.1,sl aG s.2.2.2.2.2.2.2.2.2.2.2.2.1]]⟩),(1000,⟨2,true,[[I s.2.2.2.2.2.2.2.2.2.2.2.2.2.1,I s.2.2.2.2.2.2.2.2.2.2.2.2.2.2]]⟩),(1002,⟨2,true,[[I c14,I c15]]⟩),(2000,⟨2,false,rws ae s.1⟩)]⟩
@[reducible] def dZ (kind2:Int) (t:List (List Ext)) (t2 c14 c15:Int):(((List Ext)×Int×(List Ext)×Int×(List UInt8)×Int×Int×(List (List Ext))×(List (List UInt8))×Int×Int×Int×(List aB)×Int×Int)⊕((List Ext)×Int×Bool×(List Ext)×Int×(List UInt8)×Int×Int×(List (List Ext))×(List (List UInt8))×Int×Int×Int×(List aB)×Int×Int))→ai×St:=alt (fun e=>((.ret,⟨[(10,.lit (.slice none 0 0)),(11,.ptr 1002 0 0 1),(12,I e.2.1)],[(0,⟨4,true,[[sl ae e.2.2.1,I e.2.2.2.1,S e.2.2.2.2.1,I e.2.2.2.2.2.1]]⟩),(1,⟨1,true,[[I e.2.2.2.2.2.2.1]]⟩),(2,⟨1,true,[[.ptr 0 0 0 1]]⟩),(3,⟨6,true,[[sl (eL ae) e.2.2.2.2.2.2.2.1,sl eS e.2.2.2.2.2.2.2.2.1,I e.2.2.2.2.2.2.2.2.2.1,I e.2.2.2.2.2.2.2.2.2.2.1,I e.2.2.2.2.2.2.2.2.2.2.2.1,sl aG e.2.2.2.2.2.2.2.2.2.2.2.2.1]]⟩),(1000,⟨2,true,[[I e.2.2.2.2.2.2.2.2.2.2.2.2.2.1,I e.2.2.2.2.2.2.2.2.2.2.2.2.2.2]]⟩),(1002,⟨2,true,[[I (0:Int),I (0:Int)]]⟩),(2000,⟨2,false,rws ae e.1⟩)]⟩):ai×St)) (fun e=>(.exit 0,⟨[(0,.ptr 0 0 0 1),(1,I kind2),(4,.fn 188 [.ptr 1 0 0 1,.ptr 2 0 0 1,.ptr 3 0 0 1]),(7,.ptr 1000 0 0 1),(11,.ptr 1002 0 0 1),(13,.sl 2000 0 e.1.length),(18,sl (eL ae) t),(19,I t2),(20,I e.2.1),(21,B e.2.2.1)],[(0,⟨4,true,[[sl ae e.2.2.2.1,I e.2.2.2.2.1,S e.2.2.2.2.2.1,I e.2.2.2.2.2.2.1]]⟩),(1,⟨1,true,[[I e.2.2.2.2.2.2.2.1]]⟩),(2,⟨1,true,[[.ptr 0 0 0 1]]⟩),(3,⟨6,true,[[sl (eL ae) e.2.2.2.2.2.2.2.2.1,sl eS e.2.2.2.2.2.2.2.2.2.1,I e.2.2.2.2.2.2.2.2.2.2.1,I e.2.2.2.2.2.2.2.2.2.2.2.1,I e.2.2.2.2.2.2.2.2.2.2.2.2.1,sl aG e.2.2.2.2.2.2.2.2.2.2.2.2.2.1]]⟩),(1000,⟨2,true,[[I e.2.2.2.2.2.2.2.2.2.2.2.2.2.2.1,I e.2.2.2.2.2.2.2.2.2.2.2.2.2.2.2]]⟩),(1002,⟨2,true,[[I c14,I c15]]⟩),(2000,⟨2,false,rws ae e.1⟩)]⟩))
theorem jN {kind2 t t2 c14 c15 s e} (h:Loop (aA kind2 t t2 c14 c15) s=some e):aD tab ow (.close [6003,8006,10002,11001,11002,12002,12005,12006,13002]) ia (ed kind2 t t2 c14 c15 s)=some (dZ kind2 t t2 c14 c15 e):=by
 refine lrG (fun s o h=> ?_) h
 obtain ⟨_,_,_,_,_,_,_,_,_,_,_,_,_,_,_⟩:=s
 simp only [aA] at h
 simp+decide only [ed,dZ,ia,go_sem,reduceIte,Nat.reduceAdd]
 have d1:= @Fo
 have d2:= @eO
 have d3:= @fD
 have d4:= @oR
 have d5:= @UB
 have d6:= @Cy
 all_goals exact go
noncomputable def cf (kind:Int) (claim:Ext) (rounds:(List (List Ext))) (m:Source) (m2:Int) (m3:aC):Option ((List Ext)×Ext×Int×Source×Int×aC):=
 (Loop (aA kind rounds ((rounds.length:Nat):Int) (0:Int) (0:Int)) (([]:List Ext),(0:Int),m.Script,m.At,m.State,m.Count,m2,m3.Rounds,m3.Roots,m3.Last.A,m3.Last.B,m3.Nonce,m3.Queries,claim.A,claim.B)).bind (alt (fun e_2=>
 some (([]:List Ext),(Ext.mk (0:Int) (0:Int)),e_2.2.1,(Source.mk e_2.2.2.1 e_2.2.2.2.1 e_2.2.2.2.2.1 e_2.2.2.2.2.2.1),e_2.2.2.2.2.2.2.1,(aC.mk e_2.2.2.2.2.2.2.2.1 e_2.2.2.2.2.2.2.2.2.1 (Ext.mk e_2.2.2.2.2.2.2.2.2.2.1 e_2.2.2.2.2.2.2.2.2.2.2.1) e_2.2.2.2.2.2.2.2.2.2.2.2.1 e_2.2.2.2.2.2.2.2.2.2.2.2.2.1))) (fun e_3=>
 some (e_3.1,(Ext.mk e_3.2.2.2.2.2.2.2.2.2.2.2.2.2.2.1 e_3.2.2.2.2.2.2.2.2.2.2.2.2.2.2.2),(0:Int),(Source.mk e_3.2.2.2.1 e_3.2.2.2.2.1 e_3.2.2.2.2.2.1 e_3.2.2.2.2.2.2.1),e_3.2.2.2.2.2.2.2.1,(aC.mk e_3.2.2.2.2.2.2.2.2.1 e_3.2.2.2.2.2.2.2.2.2.1 (Ext.mk e_3.2.2.2.2.2.2.2.2.2.2.1 e_3.2.2.2.2.2.2.2.2.2.2.2.1) e_3.2.2.2.2.2.2.2.2.2.2.2.2.1 e_3.2.2.2.2.2.2.2.2.2.2.2.2.2.1))))
theorem kz {kind claim rounds m m2 m3 r} (h:cf kind claim rounds m m2 m3=some r):Call tab ow 187 [.ptr 0 0 0 1,I kind,.agg [I claim.A,I claim.B],sl (eL ae) rounds,.fn 188 [.ptr 1 0 0 1,.ptr 2 0 0 1,.ptr 3 0 0 1]] [⟨4,true,[[sl ae m.Script,I m.At,S m.State,I m.Count]]⟩,⟨1,true,[[I m2]]⟩,⟨1,true,[[.ptr 0 0 0 1]]⟩,⟨6,true,[[sl (eL ae) m3.Rounds,sl eS m3.Roots,I m3.Last.A,I m3.Last.B,I m3.Nonce,sl aG m3.Queries]]⟩]=some (.tup [sl ae r.1,.agg [I r.2.1.A,I r.2.1.B],I r.2.2.1],[⟨4,true,[[sl ae r.2.2.2.1.Script,I r.2.2.2.1.At,S r.2.2.2.1.State,I r.2.2.2.1.Count]]⟩,⟨1,true,[[I r.2.2.2.2.1]]⟩,⟨1,true,[[.ptr 0 0 0 1]]⟩,⟨6,true,[[sl (eL ae) r.2.2.2.2.2.Rounds,sl eS r.2.2.2.2.2.Roots,I r.2.2.2.2.2.Last.A,I r.2.2.2.2.2.Last.B,I r.2.2.2.2.2.Nonce,sl aG r.2.2.2.2.2.Queries]]⟩]):=by
 rw [ab (af:=fQ) rfl]
 unfold cf at h
 simp+decide only [fQ,oj,go_sem,reduceIte,Nat.reduceAdd]
 have d1:= @jN
 all_goals exact go
end
noncomputable def lx (b2 t:List Ext) (t2 c c2:Int):Int×Int×Int→Option ((Int×Int×Int)⊕((Int×Bool×Int×Int)))
 | (t3,c3,c4)=>
   br (decide (t3<t2)) (
   (atL t t3).bind fun x=>
   (atL b2 t3).bind fun x2=>
   (bV x x2).bind fun r_2=>
   (GS).bind fun r_3=>
   (cW r_3 x).bind fun r_4=>
   (GS).bind fun r_5=>
   (atL b2 t3).bind fun x3=>
   (cW r_5 x3).bind fun r_6=>
   (bV r_4 r_6).bind fun r_7=>
   (dh r_2 r_7).bind fun r_8=>
   (bV (Ext.mk c3 c4) r_8).bind fun r_9=>
   some (.inl ((IntKind.wrap .i64 (t3+(1:Int))),r_9.A,r_9.B))) (
   some (.inr (t3,decide (t3<t2),c3,c4)))
@[reducible] def M0 (b2 t:List Ext) (t2 c c2:Int) (s:Int×Int×Int):St:=⟨[(1,sl ae b2),(4,.ptr 1000 0 0 1),(5,.ptr 2001 0 0 1),(9,sl ae t),(10,I t2),(11,I s.1)],[(1000,⟨2,true,[[I c,I c2]]⟩),(2001,⟨2,true,[[I s.2.1,I s.2.2]]⟩)]⟩
@[reducible] def JL (b2 t:List Ext) (t2 c c2:Int):(Int×Bool×Int×Int)→ai×St:=fun e=>(.exit 0,⟨[(1,sl ae b2),(4,.ptr 1000 0 0 1),(5,.ptr 2001 0 0 1),(9,sl ae t),(10,I t2),(11,I e.1),(12,B e.2.1)],[(1000,⟨2,true,[[I c,I c2]]⟩),(2001,⟨2,true,[[I e.2.2.1,I e.2.2.2]]⟩)]⟩)
theorem V0 {b2 t t2 c c2 s e} (h:Loop (lx b2 t t2 c c2) s=some e):aD tab ow (.close [5003,6006,6007,6009,6010,6015,6016,6017,6018]) Cz (M0 b2 t t2 c c2 s)=some (JL b2 t t2 c c2 e):=by
 refine lrG (fun s o h=> ?_) h
 obtain ⟨_,_,_⟩:=s
 simp only [lx] at h
 simp+decide only [M0,JL,Cz,go_sem,reduceIte,Nat.reduceAdd]
 have d1:= @eR
 have d2:= @Jl
 have d3:= @eV
 have d4:= @eO
 all_goals exact go
noncomputable def JD (a b:(List Ext)):Option (Ext):=
 (GS).bind fun r_=>
 (Loop (lx b a ((a.length:Nat):Int) (0:Int) (0:Int)) ((0:Int),r_.A,r_.B)).bind fun e_=>
 some (Ext.mk e_.2.2.1 e_.2.2.2)
theorem a0S {a b r} (h:JD a b=some r):Call tab ow 189 [sl ae a,sl ae b] []=some (.agg [I r.A,I r.B],[]):=by
 rw [ab (af:=Dr) rfl]
 unfold JD at h
 simp+decide only [Dr,RT,go_sem,reduceIte,Nat.reduceAdd]
 have d1:= @Jl
 have d2:= @V0
 all_goals exact go
noncomputable def vx (h_:(List UInt8)):Option (Bool):=
 (sa h_).bind fun r_=>
 some (!r_)
theorem RP {h_ r} (h:vx h_=some r):Call tab ow 340 [S h_] []=some (B r,[]):=by
 rw [ab (af:=tA) rfl]
 unfold vx at h
 simp+decide only [tA,HY,go_sem,reduceIte,Nat.reduceAdd]
 have d1:= @CJ
 all_goals exact go
noncomputable def bt (s2:List (List UInt8)) (t:Int):Int→Option ((Int)⊕(Int⊕(Int×Bool)))
 |t2=>
  br (decide (t2<t)) (
  (atL s2 t2).bind fun x=>
  (vx x).bind fun r_=>
  br r_ (
  some (.inr (.inl t2))) (
  some (.inl (IntKind.wrap .i64 (t2+(1:Int)))))) (
  some (.inr (.inr (t2,decide (t2<t)))))
@[reducible] def dd (s2:List (List UInt8)) (t s:Int):St:=⟨[(0,sl eS s2),(1,.fn 340 []),(7,I t),(8,I s)],[]⟩
@[reducible] def dc (s2:List (List UInt8)) (t:Int):(Int⊕(Int×Bool))→ai×St:=alt (fun e=>((.ret,⟨[(4,I e)],[]⟩):ai×St)) (fun e=>(.exit 0,⟨[(0,sl eS s2),(1,.fn 340 []),(7,I t),(8,I e.1),(9,B e.2)],[]⟩))
theorem gU {s2 t s e} (h:Loop (bt s2 t) s=some e):aD tab ow (.close [5005]) bA (dd s2 t s)=some (dc s2 t e):=by
 refine lrG (fun s o h=> ?_) h
 simp only [bt] at h
 simp+decide only [dd,dc,bA,go_sem,reduceIte,Nat.reduceAdd]
 have d1:= @RP
 all_goals exact go
noncomputable def bE (s:(List (List UInt8))):Option (Int):=
 (Loop (bt s ((s.length:Nat):Int)) (0:Int)).bind (alt (fun e_2=>
 some e_2) (fun e_3=>
 some (-1:Int)))
theorem iz {s r} (h:bE s=some r):Call tab ow 301 [sl eS s,.fn 340 []] []=some (I r,[]):=by
 rw [ab (af:=bn) rfl]
 unfold bE at h
 simp+decide only [bn,db,go_sem,reduceIte,Nat.reduceAdd]
 have d1:= @gU
 all_goals exact go
noncomputable def aW (s:(List (List UInt8))):Option (Bool):=
 (bE s).bind fun r_=>
 some (decide (r_≥(0:Int)))
theorem gP {s r} (h:aW s=some r):Call tab ow 205 [sl eS s,.fn 340 []] []=some (B r,[]):=by
 rw [ab (af:=aX) rfl]
 unfold aW at h
 simp+decide only [aX,cI,go_sem,reduceIte,Nat.reduceAdd]
 have d1:= @iz
 all_goals exact go
section
noncomputable def jp (i2:Int) (t:List (List UInt8)) (t2:Int):(List (List UInt8))×Int→Option (((List (List UInt8))×Int)⊕(((List (List UInt8))×Int×Bool)))
 | (l,t3)=>
   br (decide (t3<t2)) (
   (atL t t3).bind fun x=>
   br (decide (0≤t3)) (
   br (decide (t3.toNat<l.length)) (
   (l[t3.toNat]?).bind fun x2=>
   (oD x2).bind fun r_2=>
   br (decide (0≤t3)) (
   br ((bk .i64 (aL .i64 i2 t3) (1:Int))==(1:Int)) (
   (lw x r_2).bind fun r_3=>
   br (aZ ((l++([r_3]:List (List UInt8))).length) 16) (
   some (.inl ((l++([r_3]:List (List UInt8))),(IntKind.wrap .i64 (t3+(1:Int)))))) none) (
   (lw r_2 x).bind fun r_4=>
   br (aZ ((l++([r_4]:List (List UInt8))).length) 16) (
   some (.inl ((l++([r_4]:List (List UInt8))),(IntKind.wrap .i64 (t3+(1:Int)))))) none)) none) none) none) (
   some (.inr (l,t3,decide (t3<t2))))
@[reducible] def HN (i2:Int) (t:List (List UInt8)) (t2:Int) (s:(List (List UInt8))×Int):St:=⟨[(0,I i2),(7,.sl 2002 0 s.1.length),(14,sl eS t),(15,I t2),(16,I s.2)],[(2002,⟨1,false,rws eS s.1⟩)]⟩
@[reducible] def Ij (i2:Int) (t:List (List UInt8)) (t2:Int):((List (List UInt8))×Int×Bool)→ai×St:=fun e=>(.exit 0,⟨[(0,I i2),(7,.sl 2002 0 e.1.length),(14,sl eS t),(15,I t2),(16,I e.2.1),(17,B e.2.2)],[(2002,⟨1,false,rws eS e.1⟩)]⟩)
theorem S4 {i2 t t2 s e} (h:Loop (jp i2 t t2) s=some e):aD tab ow (.close [6004,9003,9004,9005]) A2 (HN i2 t t2 s)=some (Ij i2 t t2 e):=by
 refine lrG (fun s o h=> ?_) h
 obtain ⟨_,_⟩:=s
 simp only [jp] at h
 simp+decide only [HN,Ij,A2,go_sem,reduceIte,Nat.reduceAdd]
 have d1:= @wU
 have d2:= @DX
 all_goals exact go
noncomputable def Dy (i:Int) (leaf:(List UInt8)) (path:(List (List UInt8))):Option ((List (List UInt8))):=
 (ne leaf).bind fun r_=>
 (Loop (jp i path ((path.length:Nat):Int)) (([r_]:List (List UInt8)),(0:Int))).bind fun e_=>
 some e_.1
theorem Xu {i leaf path r} (h:Dy i leaf path=some r):Call tab ow 341 [I i,S leaf,sl eS path] []=some (sl eS r,[]):=by
 rw [ab (af:=Am) rfl]
 unfold Dy at h
 simp+decide only [Am,Oi,go_sem,reduceIte,Nat.reduceAdd]
 have d1:= @E6
 have d2:= @S4
 all_goals exact go
end
noncomputable def Aq (root:(List UInt8)) (n i:Int) (leaf:(List UInt8)) (path:(List (List UInt8))):Option (Bool):=
 br (decide (((leaf.length:Nat):Int)>(64:Int))) (
 some false) (
 (AD n).bind fun r_=>
 br (((path.length:Nat):Int) !=r_) (
 some false) (
 (aW path).bind fun r_2=>
 br r_2 (
 some false) (
 (Dy i leaf path).bind fun r_3=>
 (atL r_3 (IntKind.wrap .i64 (((r_3.length:Nat):Int)-(1:Int)))).bind fun x=>
 (oD x).bind fun r_4=>
 some (r_4==root))))
theorem XX {root n i leaf path r} (h:Aq root n i leaf path=some r):Call tab ow 296 [S root,I n,I i,S leaf,sl eS path] []=some (B r,[]):=by
 rw [ab (af:=As) rfl]
 unfold Aq at h
 simp+decide only [As,On,go_sem,reduceIte,Nat.reduceAdd]
 have d1:= @G2
 have d2:= @gP
 have d3:= @Xu
 have d4:= @wU
 all_goals exact go
section
noncomputable def cC (t:List Ext) (t2:Int) (t4:List (List UInt8)) (t5:Int) (c:List (List Ext)) (c2:List (List UInt8)) (c3 c4 c5:Int) (c6:List aB) (c7:List Ext) (c8:List (List (List UInt8))):Int×Int×Int×Int→Option ((Int×Int×Int×Int)⊕((Int×Int×Int×Int×Int×Int)⊕(Int×Int×Int×Int×Int×Int×Int×Int)⊕(Int×Int×Bool×Int×Int)))
 | (t3,t6,c9,c10)=>
   br (decide (t6<t5)) (
   (atL t4 t6).bind fun x=>
   br (decide (0≤t6)) (
   br (decide ((IntKind.wrap .i64 ((aL .i64 t2 t6).tdiv (2:Int)))≠0)) (
   (atL c7 (IntKind.wrap .i64 ((2:Int)*t6))).bind fun x2=>
   (atL c7 (IntKind.wrap .i64 ((IntKind.wrap .i64 ((2:Int)*t6))+(1:Int)))).bind fun x3=>
   (ls ([x2,x3]:List Ext)).bind fun r_=>
   (atL c8 t6).bind fun x4=>
   (Aq x (IntKind.wrap .i64 ((aL .i64 t2 t6).tdiv (2:Int))) (t3.tmod (IntKind.wrap .i64 ((aL .i64 t2 t6).tdiv (2:Int)))) r_ x4).bind fun r_2=>
   br (!r_2) (
   some (.inr (.inl (c9,c10,x2.A,x2.B,x3.A,x3.B)))) (
   br (decide (t3≥(IntKind.wrap .i64 ((aL .i64 t2 t6).tdiv (2:Int))))) (
   br (decide (t6>(0:Int))) (
   br (x3.A==c9) (
   br (x3.B==c10) (
   (atL t t6).bind fun x5=>
   (i4 (aL .i64 t2 t6) (t3.tmod (IntKind.wrap .i64 ((aL .i64 t2 t6).tdiv (2:Int)))) x2 x3 x5).bind fun r_3=>
   some (.inl ((t3.tmod (IntKind.wrap .i64 ((aL .i64 t2 t6).tdiv (2:Int)))),(IntKind.wrap .i64 (t6+(1:Int))),r_3.A,r_3.B))) (
   some (.inr (.inr (.inl (c9,c10,x2.A,x2.B,x3.A,x3.B,x3.A,x3.B)))))) (
   some (.inr (.inr (.inl (c9,c10,x2.A,x2.B,x3.A,x3.B,x3.A,x3.B)))))) (
   (atL t t6).bind fun x6=>
   (i4 (aL .i64 t2 t6) (t3.tmod (IntKind.wrap .i64 ((aL .i64 t2 t6).tdiv (2:Int)))) x2 x3 x6).bind fun r_4=>
   some (.inl ((t3.tmod (IntKind.wrap .i64 ((aL .i64 t2 t6).tdiv (2:Int)))),(IntKind.wrap .i64 (t6+(1:Int))),r_4.A,r_4.B)))) (
   br (decide (t6>(0:Int))) (
   br (x2.A==c9) (
   br (x2.B==c10) (
   (atL t t6).bind fun x7=>
   (i4 (aL .i64 t2 t6) (t3.tmod (IntKind.wrap .i64 ((aL .i64 t2 t6).tdiv (2:Int)))) x2 x3 x7).bind fun r_5=>
   some (.inl ((t3.tmod (IntKind.wrap .i64 ((aL .i64 t2 t6).tdiv (2:Int)))),(IntKind.wrap .i64 (t6+(1:Int))),r_5.A,r_5.B))) (
   some (.inr (.inr (.inl (c9,c10,x2.A,x2.B,x3.A,x3.B,x2.A,x2.B)))))) (
   some (.inr (.inr (.inl (c9,c10,x2.A,x2.B,x3.A,x3.B,x2.A,x2.B)))))) (
   (atL t t6).bind fun x8=>
   (i4 (aL .i64 t2 t6) (t3.tmod (IntKind.wrap .i64 ((aL .i64 t2 t6).tdiv (2:Int)))) x2 x3 x8).bind fun r_6=>
   some (.inl ((t3.tmod (IntKind.wrap .i64 ((aL .i64 t2 t6).tdiv (2:Int)))),(IntKind.wrap .i64 (t6+(1:Int))),r_6.A,r_6.B)))))) none) none) (
   some (.inr (.inr (.inr (t3,t6,decide (t6<t5),c9,c10)))))
@[reducible] def vb (t:List Ext) (t2:Int) (t4:List (List UInt8)) (t5:Int) (c:List (List Ext)) (c2:List (List UInt8)) (c3 c4 c5:Int) (c6:List aB) (c7:List Ext) (c8:List (List (List UInt8))) (s:Int×Int×Int×Int):St:=⟨[(1,sl ae t),(2,I t2),(3,I s.1),(10,.ptr 1000 0 0 1),(11,.ptr 1001 0 0 1),(13,.ptr 2001 0 0 1),(22,sl eS t4),(23,I t5),(24,I s.2.1)],[(1000,⟨6,true,[[sl (eL ae) c,sl eS c2,I c3,I c4,I c5,sl aG c6]]⟩),(1001,⟨2,true,[[sl ae c7,sl (eL eS) c8]]⟩),(2001,⟨2,true,[[I s.2.2.1,I s.2.2.2]]⟩)]⟩
@[reducible] def v9 (t:List Ext) (t2:Int) (t4:List (List UInt8)) (t5:Int) (c:List (List Ext)) (c2:List (List UInt8)) (c3 c4 c5:Int) (c6:List aB) (c7:List Ext) (c8:List (List (List UInt8))):((Int×Int×Int×Int×Int×Int)⊕(Int×Int×Int×Int×Int×Int×Int×Int)⊕(Int×Int×Bool×Int×Int))→ai×St:=alt (fun e=>((.ret,⟨[(12,I (9:Int))],[(1000,⟨6,true,[[sl (eL ae) c,sl eS c2,I c3,I c4,I c5,sl aG c6]]⟩),(1001,⟨2,true,[[sl ae c7,sl (eL eS) c8]]⟩),(2001,⟨2,true,[[I e.1,I e.2.1]]⟩),(7017,⟨2,true,[[I e.2.2.1,I e.2.2.2.1]]⟩),(7018,⟨2,true,[[I e.2.2.2.2.1,I e.2.2.2.2.2]]⟩),(8006,cu)]⟩):ai×St)) (alt (fun e=>((.ret,⟨[(12,I (12:Int))],[(1000,⟨6,true,[[sl (eL ae) c,sl eS c2,I c3,I c4,I c5,sl aG c6]]⟩),(1001,⟨2,true,[[sl ae c7,sl (eL eS) c8]]⟩),(2001,⟨2,true,[[I e.1,I e.2.1]]⟩),(7017,⟨2,true,[[I e.2.2.1,I e.2.2.2.1]]⟩),(7018,⟨2,true,[[I e.2.2.2.2.1,I e.2.2.2.2.2.1]]⟩),(8006,cu),(10001,⟨2,true,[[I e.2.2.2.2.2.2.1,I e.2.2.2.2.2.2.2]]⟩)]⟩):ai×St)) (fun e=>(.exit 0,⟨[(1,sl ae t),(2,I t2),(3,I e.1),(10,.ptr 1000 0 0 1),(11,.ptr 1001 0 0 1),(13,.ptr 2001 0 0 1),(22,sl eS t4),(23,I t5),(24,I e.2.1),(25,B e.2.2.1)],[(1000,⟨6,true,[[sl (eL ae) c,sl eS c2,I c3,I c4,I c5,sl aG c6]]⟩),(1001,⟨2,true,[[sl ae c7,sl (eL eS) c8]]⟩),(2001,⟨2,true,[[I e.2.2.2.1,I e.2.2.2.2]]⟩)]⟩)))
theorem Gt {t t2 t4 t5 c c2 c3 c4 c5 c6 c7 c8 s e} (h:Loop (cC t t2 t4 t5 c c2 c3 c4 c5 c6 c7 c8) s=some e):aD tab ow (.close [7017,7018,8006,8007,8014,10001,15008]) mT (vb t t2 t4 t5 c c2 c3 c4 c5 c6 c7 c8 s)=some (v9 t t2 t4 t5 c c2 c3 c4 c5 c6 c7 c8 e):=by
 refine lrG (fun s o h=> ?_) h
 obtain ⟨_,_,_,_⟩:=s
 simp only [cC] at h
 simp+decide only [vb,v9,mT,go_sem,reduceIte,Nat.reduceAdd]
 have d1:= @xB
 have d2:= @XX
 have d3:= @EC
 all_goals exact go
noncomputable def pS (ListtoArray:(List (List UInt8))) (a:(List Ext)) (a2 a3:Int) (a4:aC) (a5:aB):Option (Int):=
 (Loop (cC a a2 ListtoArray ((ListtoArray.length:Nat):Int) a4.Rounds a4.Roots a4.Last.A a4.Last.B a4.Nonce a4.Queries a5.Pairs a5.Paths) (a3,(0:Int),(0:Int),(0:Int))).bind (alt (fun e_2=>
 some (9:Int)) (alt (fun e_3=>
 some (12:Int)) (fun e_4=>
 br (e_4.2.2.2.1==a4.Last.A) (
 br (e_4.2.2.2.2==a4.Last.B) (
 some (0:Int)) (
 some (13:Int))) (
 some (13:Int)))))
theorem KE {ListtoArray a a2 a3 a4 a5 r} (h:pS ListtoArray a a2 a3 a4 a5=some r):Call tab ow 191 [sl eS ListtoArray,sl ae a,I a2,I a3,.agg [sl (eL ae) a4.Rounds,sl eS a4.Roots,I a4.Last.A,I a4.Last.B,I a4.Nonce,sl aG a4.Queries],.agg [sl ae a5.Pairs,sl (eL eS) a5.Paths]] []=some (I r,[]):=by
 rw [ab (af:=mj) rfl]
 unfold pS at h
 simp+decide only [mj,A6,go_sem,reduceIte,Nat.reduceAdd]
 have d1:= @Gt
 all_goals exact go
end
end Go.AI.Fn
set_option linter.unusedVariables false
set_option linter.unusedSimpArgs false
set_option maxRecDepth 100000
set_option maxHeartbeats 1000000
namespace Go.AI.Fn
section
noncomputable def cx (l:List (List UInt8)) (t:List Ext) (t2:Int) (t3:List Int) (t4:Int) (c:List Ext) (c2:Int) (c3:List UInt8) (c4 c5 c6 c7 c8 c9:Int) (c10:List (List Ext)) (c11:List (List UInt8)) (c12 c13 c14:Int) (c15:List aB) (c16 c17 c18:Int):Int→Option ((Int)⊕(Int⊕(Int×Bool)))
 |t5=>
  br (decide (t5<t4)) (
  (atL t3 t5).bind fun x=>
  (atL c15 t5).bind fun x2=>
  (pS l t t2 x (aC.mk c10 c11 (Ext.mk c12 c13) c14 c15) x2).bind fun r_10=>
  br (r_10 !=(0:Int)) (
  some (.inr (.inl r_10))) (
  some (.inl (IntKind.wrap .i64 (t5+(1:Int)))))) (
  some (.inr (.inr (t5,decide (t5<t4)))))
@[reducible] def rq (l:List (List UInt8)) (t:List Ext) (t2:Int) (t3:List Int) (t4:Int) (c:List Ext) (c2:Int) (c3:List UInt8) (c4 c5 c6 c7 c8 c9:Int) (c10:List (List Ext)) (c11:List (List UInt8)) (c12 c13 c14:Int) (c15:List aB) (c16 c17 c18 s:Int):St:=⟨[(11,.ptr 1003 0 0 1),(14,sl ae t),(17,I t2),(18,.sl 12006 0 l.length),(82,sl eI t3),(83,I t4),(84,I s)],[(0,⟨4,true,[[sl ae c,I c2,S c3,I c4]]⟩),(1000,⟨1,true,[[.ptr 0 0 0 1]]⟩),(1001,⟨2,true,[[I c5,I c6]]⟩),(1002,⟨3,true,[[I c7,I c8,I c9]]⟩),(1003,⟨6,true,[[sl (eL ae) c10,sl eS c11,I c12,I c13,I c14,sl aG c15]]⟩),(2002,⟨1,true,[[I c16]]⟩),(3010,⟨2,true,[[I c17,I c18]]⟩),(8003,cu),(12006,⟨1,false,rws eS l⟩)]⟩
@[reducible] def rV (l:List (List UInt8)) (t:List Ext) (t2:Int) (t3:List Int) (t4:Int) (c:List Ext) (c2:Int) (c3:List UInt8) (c4 c5 c6 c7 c8 c9:Int) (c10:List (List Ext)) (c11:List (List UInt8)) (c12 c13 c14:Int) (c15:List aB) (c16 c17 c18:Int):(Int⊕(Int×Bool))→ai×St:=alt (fun e=>((.ret,⟨[(12,I e)],[(0,⟨4,true,[[sl ae c,I c2,S c3,I c4]]⟩),(1000,⟨1,true,[[.ptr 0 0 0 1]]⟩),(1001,⟨2,true,[[I c5,I c6]]⟩),(1002,⟨3,true,[[I c7,I c8,I c9]]⟩),(1003,⟨6,true,[[sl (eL ae) c10,sl eS c11,I c12,I c13,I c14,sl aG c15]]⟩),(2002,⟨1,true,[[I c16]]⟩),(3010,⟨2,true,[[I c17,I c18]]⟩),(8003,cu),(12006,⟨1,false,rws eS l⟩)]⟩):ai×St)) (fun e=>(.exit 1,⟨[(11,.ptr 1003 0 0 1),(14,sl ae t),(17,I t2),(18,.sl 12006 0 l.length),(82,sl eI t3),(83,I t4),(84,I e.1),(85,B e.2)],[(0,⟨4,true,[[sl ae c,I c2,S c3,I c4]]⟩),(1000,⟨1,true,[[.ptr 0 0 0 1]]⟩),(1001,⟨2,true,[[I c5,I c6]]⟩),(1002,⟨3,true,[[I c7,I c8,I c9]]⟩),(1003,⟨6,true,[[sl (eL ae) c10,sl eS c11,I c12,I c13,I c14,sl aG c15]]⟩),(2002,⟨1,true,[[I c16]]⟩),(3010,⟨2,true,[[I c17,I c18]]⟩),(8003,cu),(12006,⟨1,false,rws eS l⟩)]⟩))
theorem CX {l t t2 t3 t4 c c2 c3 c4 c5 c6 c7 c8 c9 c10 c11 c12 c13 c14 c15 c16 c17 c18 s e} (h:Loop (cx l t t2 t3 t4 c c2 c3 c4 c5 c6 c7 c8 c9 c10 c11 c12 c13 c14 c15 c16 c17 c18) s=some e):aD tab ow (.close [16010]) ko (rq l t t2 t3 t4 c c2 c3 c4 c5 c6 c7 c8 c9 c10 c11 c12 c13 c14 c15 c16 c17 c18 s)=some (rV l t t2 t3 t4 c c2 c3 c4 c5 c6 c7 c8 c9 c10 c11 c12 c13 c14 c15 c16 c17 c18 e):=by
 refine lrG (fun s o h=> ?_) h
 simp only [cx] at h
 simp+decide only [rq,rV,ko,go_sem,reduceIte,Nat.reduceAdd]
 have d1:= @KE
 all_goals exact go
noncomputable def jB (a:(List UInt8)) (a2:(List Ext)) (a3:Ext) (a4:Setting) (a5:aC) (m:Source):Option (Int×Source):=
 (cf (1:Int) a3 a5.Rounds m ((a2.length:Nat):Int) a5).bind fun r_=>
 br (r_.2.2.1 !=(0:Int)) (
 some (r_.2.2.1,r_.2.2.2.1)) (
 (JD r_.1 a2).bind fun r_2=>
 (bV r_.2.2.2.2.2.Last r_2).bind fun r_3=>
 br (r_3.A==r_.2.1.A) (
 br (r_3.B==r_.2.1.B) (
 (ci ([r_.2.2.2.2.2.Last]:List Ext) r_.2.2.2.1).bind fun r_4=>
 (iA r_4 a4.Grind r_.2.2.2.2.2.Nonce).bind fun r_5=>
 br (!r_5) (
 some ((14:Int),r_4)) (
 (xi r_.2.2.2.2.2.Nonce).bind fun r_6=>
 (cO r_6 r_4).bind fun r_7=>
 br (decide (0≤(IntKind.wrap .i64 (r_.2.2.2.2.1+a4.Rate)))) (
 br (aZ ((([a]:List (List UInt8))++r_.2.2.2.2.2.Roots).length) 16) (
 (gE a4.Queries r_7).bind fun r_8=>
 (vM r_8.1 (IntKind.wrap .i64 ((bW .i64 (1:Int) (IntKind.wrap .i64 (r_.2.2.2.2.1+a4.Rate))).tdiv (2:Int)))).bind fun r_9=>
 (Loop (cx (([a]:List (List UInt8))++r_.2.2.2.2.2.Roots) r_.1 (bW .i64 (1:Int) (IntKind.wrap .i64 (r_.2.2.2.2.1+a4.Rate))) r_9 ((r_9.length:Nat):Int) r_8.2.Script r_8.2.At r_8.2.State r_8.2.Count a3.A a3.B a4.Rate a4.Queries a4.Grind r_.2.2.2.2.2.Rounds r_.2.2.2.2.2.Roots r_.2.2.2.2.2.Last.A r_.2.2.2.2.2.Last.B r_.2.2.2.2.2.Nonce r_.2.2.2.2.2.Queries r_.2.2.2.2.1 r_.2.1.A r_.2.1.B) (0:Int)).bind (alt (fun e_2=>
 some (e_2,r_8.2)) (fun e_3=>
 some ((0:Int),r_8.2)))) none) none)) (
 some ((11:Int),r_.2.2.2.1))) (
 some ((11:Int),r_.2.2.2.1)))
theorem Gw {a a2 a3 a4 a5 m r} (h:jB a a2 a3 a4 a5 m=some r):Call tab ow 92 [.ptr 0 0 0 1,S a,sl ae a2,.agg [I a3.A,I a3.B],.agg [I a4.Rate,I a4.Queries,I a4.Grind],.agg [sl (eL ae) a5.Rounds,sl eS a5.Roots,I a5.Last.A,I a5.Last.B,I a5.Nonce,sl aG a5.Queries]] [⟨4,true,[[sl ae m.Script,I m.At,S m.State,I m.Count]]⟩]=some (I r.1,[⟨4,true,[[sl ae r.2.Script,I r.2.At,S r.2.State,I r.2.Count]]⟩]):=by
 rw [ab (af:=jW) rfl]
 unfold jB at h
 simp+decide only [jW,vJ,go_sem,reduceIte,Nat.reduceAdd]
 have d1:= @kz
 have d2:= @a0S
 have d3:= @eR
 have d4:= @fD
 have d5:= @xD
 have d6:= @zQ
 have d7:= @fW
 have d8:= @vY
 have d9:= @KA
 have d10:= @CX
 all_goals exact go
end
noncomputable def ft (ListtoArray:(List UInt8)) (a:Int) (a2:(List Ext)) (a3:Ext) (a4:Setting) (a5:aC) (a6:Source):Option (Source×Int):=
 (E0 ListtoArray).bind fun r_=>
 br r_ (
 some ((Source.mk ([]:List Ext) (0:Int) (([]:List UInt8)) (0:Int)),(2:Int))) (
 br (decide (((a2.length:Nat):Int)>(4096:Int))) (
 some ((Source.mk ([]:List Ext) (0:Int) (([]:List UInt8)) (0:Int)),(2:Int))) (
 (bU a2).bind fun r_2=>
 br (!r_2) (
 some ((Source.mk ([]:List Ext) (0:Int) (([]:List UInt8)) (0:Int)),(1:Int))) (
 (pM a3).bind fun r_3=>
 br (!r_3) (
 some ((Source.mk ([]:List Ext) (0:Int) (([]:List UInt8)) (0:Int)),(1:Int))) (
 (gX a4).bind fun r_4=>
 br (!r_4) (
 some ((Source.mk ([]:List Ext) (0:Int) (([]:List UInt8)) (0:Int)),(1:Int))) (
 (ln a6).bind fun r_5=>
 br (!r_5) (
 some ((Source.mk ([]:List Ext) (0:Int) (([]:List UInt8)) (0:Int)),(1:Int))) (
 (we a (1:Int) (6:Int)).bind fun r_6=>
 br (!r_6) (
 some ((Source.mk ([]:List Ext) (0:Int) (([]:List UInt8)) (0:Int)),(4:Int))) (
 br (((a2.length:Nat):Int) !=a) (
 some ((Source.mk ([]:List Ext) (0:Int) (([]:List UInt8)) (0:Int)),(4:Int))) (
 (lH a5 a a4).bind fun r_7=>
 br (!r_7) (
 some ((Source.mk ([]:List Ext) (0:Int) (([]:List UInt8)) (0:Int)),(18:Int))) (
 (iJ a6).bind fun r_8=>
 br (decide (r_8<(100:Int))) (
 some ((Source.mk ([]:List Ext) (0:Int) (([]:List UInt8)) (0:Int)),(6:Int))) (
 (fO a6).bind fun r_9=>
 (jB ListtoArray a2 a3 a4 a5 r_9).bind fun r_10=>
 br (r_10.1 !=(0:Int)) (
 some ((Source.mk ([]:List Ext) (0:Int) (([]:List UInt8)) (0:Int)),r_10.1)) (
 some (r_10.2,(0:Int)))))))))))))
theorem G5 {ListtoArray a a2 a3 a4 a5 a6 r} (h:ft ListtoArray a a2 a3 a4 a5 a6=some r):Call tab ow 20 [S ListtoArray,I a,sl ae a2,.agg [I a3.A,I a3.B],.agg [I a4.Rate,I a4.Queries,I a4.Grind],.agg [sl (eL ae) a5.Rounds,sl eS a5.Roots,I a5.Last.A,I a5.Last.B,I a5.Nonce,sl aG a5.Queries],.agg [sl ae a6.Script,I a6.At,S a6.State,I a6.Count]] []=some (.tup [.agg [sl ae r.1.Script,I r.1.At,S r.1.State,I r.1.Count],I r.2],[]):=by
 rw [ab (af:=jZ) rfl]
 unfold ft at h
 simp+decide only [jZ,v7,go_sem,reduceIte,Nat.reduceAdd]
 have d1:= @V2
 have d2:= @dt
 have d3:= @Ar
 have d4:= @nv
 have d5:= @EV
 have d6:= @zi
 have d7:= @Be
 have d8:= @xL
 have d9:= @tB
 have d10:= @Gw
 all_goals exact go
noncomputable def WN:Option (Ext):=
 some (Ext.mk (1:Int) (0:Int))
theorem a3z {r} (h:WN=some r):Call tab ow 22 [] []=some (.agg [I r.A,I r.B],[]):=by
 rw [ab (af:=Jn) rfl]
 unfold WN at h
 simp+decide only [Jn,Xn,go_sem,reduceIte,Nat.reduceAdd]
 all_goals exact go
noncomputable def nW (a b:Ext):Option (Ext×Int):=
 (pM a).bind fun r_=>
 br (!r_) (
 some ((Ext.mk (0:Int) (0:Int)),(1:Int))) (
 (pM b).bind fun r_2=>
 br (!r_2) (
 some ((Ext.mk (0:Int) (0:Int)),(1:Int))) (
 (dh a b).bind fun r_3=>
 some (r_3,(0:Int))))
theorem IR {a b r} (h:nW a b=some r):Call tab ow 93 [.agg [I a.A,I a.B],.agg [I b.A,I b.B],.fn 94 []] []=some (.tup [.agg [I r.1.A,I r.1.B],I r.2],[]):=by
 rw [ab (af:=xl) rfl]
 unfold nW at h
 simp+decide only [xl,JR,go_sem,reduceIte,Nat.reduceAdd]
 have d1:= @Ar
 have d2:= @eO
 all_goals exact go
noncomputable def Ag (a b:Ext):Option (Ext×Int):=
 (nW a b).bind fun r_=>
 some (r_.1,r_.2)
theorem Vo {a b r} (h:Ag a b=some r):Call tab ow 21 [.agg [I a.A,I a.B],.agg [I b.A,I b.B]] []=some (.tup [.agg [I r.1.A,I r.1.B],I r.2],[]):=by
 rw [ab (af:=xx) rfl]
 unfold Ag at h
 simp+decide only [xx,M3,go_sem,reduceIte,Nat.reduceAdd]
 have d1:= @IR
 all_goals exact go
section
noncomputable def lQ (b:(List UInt8)):Option ((List UInt8)):=
 br (decide (((b.length:Nat):Int)>(65536:Int))) (
 some (([]:List UInt8))) (
 (mf ([b]:List (List UInt8))).bind fun r_=>
 some r_)
theorem MK {b r} (h:lQ b=some r):Call tab ow 23 [sl eU8 b] []=some (S r,[]):=by
 rw [ab (af:=nB) rfl]
 unfold lQ at h
 simp+decide only [nB,Cg,go_sem,reduceIte,Nat.reduceAdd]
 have d1:= @rP
 all_goals exact go
end
noncomputable def er (t:Int) (c:List (List Ext)) (c2:List (List UInt8)) (c3 c4 c5:Int) (c6:List aB) (c7 c8 c9:Int):Int→Option ((Int)⊕(Unit⊕(Int×Bool)))
 |t2=>
  br (decide (t2<t)) (
  (atL c t2).bind fun x=>
  br (((x.length:Nat):Int) !=(3:Int)) (
  some (.inr (.inl ()))) (
  (atL c t2).bind fun x2=>
  (k8 x2).bind fun r_5=>
  br (!r_5) (
  some (.inr (.inl ()))) (
  br (decide (t2>(0:Int))) (
  (atL c2 (IntKind.wrap .i64 (t2-(1:Int)))).bind fun x3=>
  br (((x3.length:Nat):Int) !=(32:Int)) (
  some (.inr (.inl ()))) (
  some (.inl (IntKind.wrap .i64 (t2+(1:Int)))))) (
  some (.inl (IntKind.wrap .i64 (t2+(1:Int)))))))) (
  some (.inr (.inr (t2,decide (t2<t)))))
@[reducible] def ya (t:Int) (c:List (List Ext)) (c2:List (List UInt8)) (c3 c4 c5:Int) (c6:List aB) (c7 c8 c9 s:Int):St:=⟨[(1,I t),(3,.ptr 1000 0 0 1),(5,.ptr 1001 0 0 1),(7,I s)],[(1000,⟨6,true,[[sl (eL ae) c,sl eS c2,I c3,I c4,I c5,sl aG c6]]⟩),(1001,⟨3,true,[[I c7,I c8,I c9]]⟩)]⟩
@[reducible] def y4 (t:Int) (c:List (List Ext)) (c2:List (List UInt8)) (c3 c4 c5:Int) (c6:List aB) (c7 c8 c9:Int):(Unit⊕(Int×Bool))→ai×St:=alt (fun e=>((.ret,⟨[(6,B false)],[(1000,⟨6,true,[[sl (eL ae) c,sl eS c2,I c3,I c4,I c5,sl aG c6]]⟩),(1001,⟨3,true,[[I c7,I c8,I c9]]⟩)]⟩):ai×St)) (fun e=>(.exit 0,⟨[(1,I t),(3,.ptr 1000 0 0 1),(5,.ptr 1001 0 0 1),(7,I e.1),(57,B e.2)],[(1000,⟨6,true,[[sl (eL ae) c,sl eS c2,I c3,I c4,I c5,sl aG c6]]⟩),(1001,⟨3,true,[[I c7,I c8,I c9]]⟩)]⟩))
theorem J9 {t c c2 c3 c4 c5 c6 c7 c8 c9 s e} (h:Loop (er t c c2 c3 c4 c5 c6 c7 c8 c9) s=some e):aD tab ow (.close [7013]) oP (ya t c c2 c3 c4 c5 c6 c7 c8 c9 s)=some (y4 t c c2 c3 c4 c5 c6 c7 c8 c9 e):=by
 refine lrG (fun s o h=> ?_) h
 simp only [er] at h
 simp+decide only [ya,y4,oP,go_sem,reduceIte,Nat.reduceAdd]
 have d1:= @ol
 all_goals exact go
noncomputable def ep (t8 t9 t10:Int) (c30:List (List Ext)) (c31:List (List UInt8)) (c32 c33 c34:Int) (c35:List aB) (c36 c37 c38:Int) (c39:List Ext) (c40:List (List (List UInt8))):Int→Option ((Int)⊕(Unit⊕(Int×Bool)))
 |t11=>
  (atL c40 t10).bind fun x6=>
  br (decide (t11<((x6.length:Nat):Int))) (
  (atL c40 t10).bind fun x7=>
  (atL x7 t11).bind fun x8=>
  br (((x8.length:Nat):Int) !=(32:Int)) (
  some (.inr (.inl ()))) (
  some (.inl (IntKind.wrap .i64 (t11+(1:Int)))))) (
  some (.inr (.inr (t11,decide (t11<((x6.length:Nat):Int))))))
@[reducible] def yh (t8 t9 t10:Int) (c30:List (List Ext)) (c31:List (List UInt8)) (c32 c33 c34:Int) (c35:List aB) (c36 c37 c38:Int) (c39:List Ext) (c40:List (List (List UInt8))) (s:Int):St:=⟨[(1,I t8),(3,.ptr 1000 0 0 1),(5,.ptr 1001 0 0 1),(8,I t9),(9,.ptr 12005 0 0 1),(10,I t10),(11,I s)],[(1000,⟨6,true,[[sl (eL ae) c30,sl eS c31,I c32,I c33,I c34,sl aG c35]]⟩),(1001,⟨3,true,[[I c36,I c37,I c38]]⟩),(12005,⟨2,true,[[sl ae c39,sl (eL eS) c40]]⟩)]⟩
@[reducible] def xU (t8 t9 t10:Int) (c30:List (List Ext)) (c31:List (List UInt8)) (c32 c33 c34:Int) (c35:List aB) (c36 c37 c38:Int) (c39:List Ext) (c40:List (List (List UInt8))):(Unit⊕(Int×Bool))→ai×St:=alt (fun e=>((.ret,⟨[(6,B false)],[(1000,⟨6,true,[[sl (eL ae) c30,sl eS c31,I c32,I c33,I c34,sl aG c35]]⟩),(1001,⟨3,true,[[I c36,I c37,I c38]]⟩),(12005,⟨2,true,[[sl ae c39,sl (eL eS) c40]]⟩)]⟩):ai×St)) (fun e=>(.exit 6,⟨[(1,I t8),(3,.ptr 1000 0 0 1),(5,.ptr 1001 0 0 1),(8,I t9),(9,.ptr 12005 0 0 1),(10,I t10),(11,I e.1),(147,B e.2)],[(1000,⟨6,true,[[sl (eL ae) c30,sl eS c31,I c32,I c33,I c34,sl aG c35]]⟩),(1001,⟨3,true,[[I c36,I c37,I c38]]⟩),(12005,⟨2,true,[[sl ae c39,sl (eL eS) c40]]⟩)]⟩))
theorem IX {t8 t9 t10 c30 c31 c32 c33 c34 c35 c36 c37 c38 c39 c40 s e} (h:Loop (ep t8 t9 t10 c30 c31 c32 c33 c34 c35 c36 c37 c38 c39 c40) s=some e):aD tab ow (.close []) ng (yh t8 t9 t10 c30 c31 c32 c33 c34 c35 c36 c37 c38 c39 c40 s)=some (xU t8 t9 t10 c30 c31 c32 c33 c34 c35 c36 c37 c38 c39 c40 e):=by
 refine lrG (fun s o h=> ?_) h
 simp only [ep] at h
 simp+decide only [yh,xU,ng,go_sem,reduceIte,Nat.reduceAdd]
 all_goals exact go
noncomputable def eo (t5 t6:Int) (c19:List (List Ext)) (c20:List (List UInt8)) (c21 c22 c23:Int) (c24:List aB) (c25 c26 c27:Int) (c28:List Ext) (c29:List (List (List UInt8))):Int→Option ((Int)⊕(Unit⊕(Int×Bool)))
 |t7=>
  br (decide (t7<t5)) (
  (atL c29 t7).bind fun x5=>
  br (((x5.length:Nat):Int) !=(IntKind.wrap .i64 ((IntKind.wrap .i64 ((IntKind.wrap .i64 (t5+c25))-(1:Int)))-t7))) (
  some (.inr (.inl ()))) (
  (Loop (ep t5 t6 t7 c19 c20 c21 c22 c23 c24 c25 c26 c27 c28 c29) (0:Int)).bind (alt (fun e_5=>
  some (.inr (.inl ()))) (fun e_6=>
  some (.inl (IntKind.wrap .i64 (t7+(1:Int)))))))) (
  some (.inr (.inr (t7,decide (t7<t5)))))
@[reducible] def xV (t5 t6:Int) (c19:List (List Ext)) (c20:List (List UInt8)) (c21 c22 c23:Int) (c24:List aB) (c25 c26 c27:Int) (c28:List Ext) (c29:List (List (List UInt8))) (s:Int):St:=⟨[(1,I t5),(3,.ptr 1000 0 0 1),(5,.ptr 1001 0 0 1),(8,I t6),(9,.ptr 12005 0 0 1),(10,I s)],[(1000,⟨6,true,[[sl (eL ae) c19,sl eS c20,I c21,I c22,I c23,sl aG c24]]⟩),(1001,⟨3,true,[[I c25,I c26,I c27]]⟩),(12005,⟨2,true,[[sl ae c28,sl (eL eS) c29]]⟩)]⟩
@[reducible] def xN (t5 t6:Int) (c19:List (List Ext)) (c20:List (List UInt8)) (c21 c22 c23:Int) (c24:List aB) (c25 c26 c27:Int) (c28:List Ext) (c29:List (List (List UInt8))):(Unit⊕(Int×Bool))→ai×St:=alt (fun e=>((.ret,⟨[(6,B false)],[(1000,⟨6,true,[[sl (eL ae) c19,sl eS c20,I c21,I c22,I c23,sl aG c24]]⟩),(1001,⟨3,true,[[I c25,I c26,I c27]]⟩),(12005,⟨2,true,[[sl ae c28,sl (eL eS) c29]]⟩)]⟩):ai×St)) (fun e=>(.exit 4,⟨[(1,I t5),(3,.ptr 1000 0 0 1),(5,.ptr 1001 0 0 1),(8,I t6),(9,.ptr 12005 0 0 1),(10,I e.1),(123,B e.2)],[(1000,⟨6,true,[[sl (eL ae) c19,sl eS c20,I c21,I c22,I c23,sl aG c24]]⟩),(1001,⟨3,true,[[I c25,I c26,I c27]]⟩),(12005,⟨2,true,[[sl ae c28,sl (eL eS) c29]]⟩)]⟩))
theorem IG {t5 t6 c19 c20 c21 c22 c23 c24 c25 c26 c27 c28 c29 s e} (h:Loop (eo t5 t6 c19 c20 c21 c22 c23 c24 c25 c26 c27 c28 c29) s=some e):aD tab ow (.close []) mS (xV t5 t6 c19 c20 c21 c22 c23 c24 c25 c26 c27 c28 c29 s)=some (xN t5 t6 c19 c20 c21 c22 c23 c24 c25 c26 c27 c28 c29 e):=by
 refine lrG (fun s o h=> ?_) h
 simp only [eo] at h
 simp+decide only [xV,xN,mS,go_sem,reduceIte,Nat.reduceAdd]
 have d1:= @IX
 all_goals exact go
noncomputable def dy (t3:Int) (c10:List (List Ext)) (c11:List (List UInt8)) (c12 c13 c14:Int) (c15:List aB) (c16 c17 c18:Int):Int→Option ((Int)⊕(((List Ext)×(List (List (List UInt8))))⊕(Int×Bool)))
 |t4=>
  br (decide (t4<((c15.length:Nat):Int))) (
  (atL c15 t4).bind fun x4=>
  br (((x4.Pairs.length:Nat):Int) !=(IntKind.wrap .i64 ((2:Int)*t3))) (
  some (.inr (.inl (x4.Pairs,x4.Paths)))) (
  (k8 x4.Pairs).bind fun r_6=>
  br (!r_6) (
  some (.inr (.inl (x4.Pairs,x4.Paths)))) (
  br (((x4.Paths.length:Nat):Int) !=t3) (
  some (.inr (.inl (x4.Pairs,x4.Paths)))) (
  (Loop (eo t3 t4 c10 c11 c12 c13 c14 c15 c16 c17 c18 x4.Pairs x4.Paths) (0:Int)).bind (alt (fun e_8=>
  some (.inr (.inl (x4.Pairs,x4.Paths)))) (fun e_9=>
  some (.inl (IntKind.wrap .i64 (t4+(1:Int)))))))))) (
  some (.inr (.inr (t4,decide (t4<((c15.length:Nat):Int))))))
@[reducible] def xM (t3:Int) (c10:List (List Ext)) (c11:List (List UInt8)) (c12 c13 c14:Int) (c15:List aB) (c16 c17 c18 s:Int):St:=⟨[(1,I t3),(3,.ptr 1000 0 0 1),(5,.ptr 1001 0 0 1),(8,I s)],[(1000,⟨6,true,[[sl (eL ae) c10,sl eS c11,I c12,I c13,I c14,sl aG c15]]⟩),(1001,⟨3,true,[[I c16,I c17,I c18]]⟩)]⟩
@[reducible] def yu (t3:Int) (c10:List (List Ext)) (c11:List (List UInt8)) (c12 c13 c14:Int) (c15:List aB) (c16 c17 c18:Int):(((List Ext)×(List (List (List UInt8))))⊕(Int×Bool))→ai×St:=alt (fun e=>((.ret,⟨[(6,B false)],[(1000,⟨6,true,[[sl (eL ae) c10,sl eS c11,I c12,I c13,I c14,sl aG c15]]⟩),(1001,⟨3,true,[[I c16,I c17,I c18]]⟩),(12005,⟨2,true,[[sl ae e.1,sl (eL eS) e.2]]⟩)]⟩):ai×St)) (fun e=>(.exit 2,⟨[(1,I t3),(3,.ptr 1000 0 0 1),(5,.ptr 1001 0 0 1),(8,I e.1),(94,B e.2)],[(1000,⟨6,true,[[sl (eL ae) c10,sl eS c11,I c12,I c13,I c14,sl aG c15]]⟩),(1001,⟨3,true,[[I c16,I c17,I c18]]⟩)]⟩))
theorem II {t3 c10 c11 c12 c13 c14 c15 c16 c17 c18 s e} (h:Loop (dy t3 c10 c11 c12 c13 c14 c15 c16 c17 c18) s=some e):aD tab ow (.close [12005,13009]) p6 (xM t3 c10 c11 c12 c13 c14 c15 c16 c17 c18 s)=some (yu t3 c10 c11 c12 c13 c14 c15 c16 c17 c18 e):=by
 refine lrG (fun s o h=> ?_) h
 simp only [dy] at h
 simp+decide only [xM,yu,p6,go_sem,reduceIte,Nat.reduceAdd]
 have d1:= @ol
 have d2:= @IG
 all_goals exact go
noncomputable def of (ListtoArray:aC) (a:Int) (a2:Setting):Option (Bool):=
 (gx a (1:Int) (6:Int)).bind fun r_=>
 br (!r_) (
 some false) (
 (jq a2).bind fun r_2=>
 br (!r_2) (
 some false) (
 br (((ListtoArray.Rounds.length:Nat):Int) !=a) (
 some false) (
 br (((ListtoArray.Roots.length:Nat):Int) !=(IntKind.wrap .i64 (a-(1:Int)))) (
 some false) (
 br (((ListtoArray.Queries.length:Nat):Int) !=a2.Queries) (
 some false) (
 (tW ListtoArray.Last).bind fun r_3=>
 br (!r_3) (
 some false) (
 (gx ListtoArray.Nonce (0:Int) (65535:Int)).bind fun r_4=>
 br (!r_4) (
 some false) (
 (Loop (er a ListtoArray.Rounds ListtoArray.Roots ListtoArray.Last.A ListtoArray.Last.B ListtoArray.Nonce ListtoArray.Queries a2.Rate a2.Queries a2.Grind) (0:Int)).bind (alt (fun e_2=>
 some false) (fun e_3=>
 (Loop (dy a ListtoArray.Rounds ListtoArray.Roots ListtoArray.Last.A ListtoArray.Last.B ListtoArray.Nonce ListtoArray.Queries a2.Rate a2.Queries a2.Grind) (0:Int)).bind (alt (fun e_11=>
 some false) (fun e_12=>
 some true)))))))))))
theorem NQ {ListtoArray a a2 r} (h:of ListtoArray a a2=some r):Call tab ow 28 [.agg [sl (eL ae) ListtoArray.Rounds,sl eS ListtoArray.Roots,I ListtoArray.Last.A,I ListtoArray.Last.B,I ListtoArray.Nonce,sl aG ListtoArray.Queries],I a,.agg [I a2.Rate,I a2.Queries,I a2.Grind]] []=some (B r,[]):=by
 rw [ab (af:=o1) rfl]
 unfold of at h
 simp+decide only [o1,Cp,go_sem,reduceIte,Nat.reduceAdd]
 have d1:= @ra
 have d2:= @uO
 have d3:= @Gn
 have d4:= @J9
 have d5:= @II
 all_goals exact go
noncomputable def gp (values3:List Ext) (i2 c7 c8 c9 c10 c11 c12:Int):Int×Int×Int×Int→Option ((Int×Int×Int×Int)⊕((Int×Int×Bool×Int×Int)))
 | (d,k,c13,c14)=>
   br (decide (k<((values3.length:Nat):Int))) (
   br (k !=i2) (
   (nE k).bind fun r_=>
   (jC (Ext.mk c7 c8) r_).bind fun r_2=>
   (cU (Ext.mk c13 c14) r_2).bind fun r_3=>
   (rL i2 k).bind fun r_4=>
   (eF d r_4).bind fun r_5=>
   some (.inl (r_5,(IntKind.wrap .i64 (k+(1:Int))),r_3.A,r_3.B))) (
   some (.inl (d,(IntKind.wrap .i64 (k+(1:Int))),c13,c14)))) (
   some (.inr (d,k,decide (k<((values3.length:Nat):Int)),c13,c14)))
@[reducible] def BF (values3:List Ext) (i2 c7 c8 c9 c10 c11 c12:Int) (s:Int×Int×Int×Int):St:=⟨[(0,sl ae values3),(3,.ptr 1000 0 0 1),(4,.ptr 1001 0 0 1),(5,.ptr 2001 0 0 1),(6,I i2),(7,.ptr 6004 0 0 1),(8,I s.1),(9,I s.2.1)],[(1000,⟨2,true,[[I c7,I c8]]⟩),(1001,⟨2,true,[[I c9,I c10]]⟩),(2001,⟨2,true,[[I c11,I c12]]⟩),(6004,⟨2,true,[[I s.2.2.1,I s.2.2.2]]⟩)]⟩
@[reducible] def Cf (values3:List Ext) (i2 c7 c8 c9 c10 c11 c12:Int):(Int×Int×Bool×Int×Int)→ai×St:=fun e=>(.exit 2,⟨[(0,sl ae values3),(3,.ptr 1000 0 0 1),(4,.ptr 1001 0 0 1),(5,.ptr 2001 0 0 1),(6,I i2),(7,.ptr 6004 0 0 1),(8,I e.1),(9,I e.2.1),(24,B e.2.2.1)],[(1000,⟨2,true,[[I c7,I c8]]⟩),(1001,⟨2,true,[[I c9,I c10]]⟩),(2001,⟨2,true,[[I c11,I c12]]⟩),(6004,⟨2,true,[[I e.2.2.2.1,I e.2.2.2.2]]⟩)]⟩)
theorem Ny {values3 i2 c7 c8 c9 c10 c11 c12 s e} (h:Loop (gp values3 i2 c7 c8 c9 c10 c11 c12) s=some e):aD tab ow (.close [12003,12004,12005,13003,13004]) uu (BF values3 i2 c7 c8 c9 c10 c11 c12 s)=some (Cf values3 i2 c7 c8 c9 c10 c11 c12 e):=by
 refine lrG (fun s o h=> ?_) h
 obtain ⟨_,_,_,_⟩:=s
 simp only [gp] at h
 simp+decide only [BF,Cf,uu,go_sem,reduceIte,Nat.reduceAdd]
 have d1:= @qK
 have d2:= @li
 have d3:= @i7
 have d4:= @K5
 have d5:= @mP
 all_goals exact go
noncomputable def fY (values2:List Ext) (c c2 c3 c4:Int):Int×Int×Int→Option ((Int×Int×Int)⊕((Int×Bool×Int×Int)))
 | (i,c5,c6)=>
   br (decide (i<((values2.length:Nat):Int))) (
   (atL values2 i).bind fun x2=>
   (Loop (gp values2 i c c2 c3 c4 c5 c6) ((1:Int),(0:Int),x2.A,x2.B)).bind fun e_=>
   (i8 e_.1).bind fun r_6=>
   (nE r_6).bind fun r_7=>
   (cU (Ext.mk e_.2.2.2.1 e_.2.2.2.2) r_7).bind fun r_8=>
   (gG (Ext.mk c5 c6) r_8).bind fun r_9=>
   some (.inl ((IntKind.wrap .i64 (i+(1:Int))),r_9.A,r_9.B))) (
   some (.inr (i,decide (i<((values2.length:Nat):Int)),c5,c6)))
@[reducible] def Bd (values2:List Ext) (c c2 c3 c4:Int) (s:Int×Int×Int):St:=⟨[(0,sl ae values2),(3,.ptr 1000 0 0 1),(4,.ptr 1001 0 0 1),(5,.ptr 2001 0 0 1),(6,I s.1)],[(1000,⟨2,true,[[I c,I c2]]⟩),(1001,⟨2,true,[[I c3,I c4]]⟩),(2001,⟨2,true,[[I s.2.1,I s.2.2]]⟩)]⟩
@[reducible] def Cc (values2:List Ext) (c c2 c3 c4:Int):(Int×Bool×Int×Int)→ai×St:=fun e=>(.exit 0,⟨[(0,sl ae values2),(3,.ptr 1000 0 0 1),(4,.ptr 1001 0 0 1),(5,.ptr 2001 0 0 1),(6,I e.1),(14,B e.2.1)],[(1000,⟨2,true,[[I c,I c2]]⟩),(1001,⟨2,true,[[I c3,I c4]]⟩),(2001,⟨2,true,[[I e.2.2.1,I e.2.2.2]]⟩)]⟩)
theorem MQ {values2 c c2 c3 c4 s e} (h:Loop (fY values2 c c2 c3 c4) s=some e):aD tab ow (.close [6004,12003,12004,12005,13003,13004,14003,14004,14005,14006]) uz (Bd values2 c c2 c3 c4 s)=some (Cc values2 c c2 c3 c4 e):=by
 refine lrG (fun s o h=> ?_) h
 obtain ⟨_,_,_⟩:=s
 simp only [fY] at h
 simp+decide only [Bd,Cc,uz,go_sem,reduceIte,Nat.reduceAdd]
 have d1:= @Ny
 have d2:= @zY
 have d3:= @qK
 have d4:= @i7
 have d5:= @jk
 all_goals exact go
noncomputable def vi (values:(List Ext)) (x:Ext):Option (Ext):=
 (Loop (fY values x.A x.B (0:Int) (0:Int)) ((0:Int),(0:Int),(0:Int))).bind fun e_2=>
 some (Ext.mk e_2.2.2.1 e_2.2.2.2)
theorem Uh {values x r} (h:vi values x=some r):Call tab ow 198 [sl ae values,.agg [I x.A,I x.B]] []=some (.agg [I r.A,I r.B],[]):=by
 rw [ab (af:=sZ) rfl]
 unfold vi at h
 simp+decide only [sZ,Ic,go_sem,reduceIte,Nat.reduceAdd]
 have d1:= @MQ
 all_goals exact go
noncomputable def gn (a2 b2:List Ext) (c c2:Int):Int×Int×Int→Option ((Int×Int×Int)⊕((Int×Bool×Int×Int)))
 | (i,c3,c4)=>
   br (decide (i<((a2.length:Nat):Int))) (
   (atL a2 i).bind fun x=>
   (atL b2 i).bind fun x2=>
   (cU x x2).bind fun r_2=>
   (atL a2 i).bind fun x3=>
   (mX x3).bind fun r_3=>
   (atL b2 i).bind fun x4=>
   (mX x4).bind fun r_4=>
   (cU r_3 r_4).bind fun r_5=>
   (gG r_2 r_5).bind fun r_6=>
   (cU (Ext.mk c3 c4) r_6).bind fun r_7=>
   some (.inl ((IntKind.wrap .i64 (i+(1:Int))),r_7.A,r_7.B))) (
   some (.inr (i,decide (i<((a2.length:Nat):Int)),c3,c4)))
@[reducible] def BQ (a2 b2:List Ext) (c c2:Int) (s:Int×Int×Int):St:=⟨[(0,sl ae a2),(1,sl ae b2),(4,.ptr 1000 0 0 1),(5,.ptr 2001 0 0 1),(6,I s.1)],[(1000,⟨2,true,[[I c,I c2]]⟩),(2001,⟨2,true,[[I s.2.1,I s.2.2]]⟩)]⟩
@[reducible] def BV (a2 b2:List Ext) (c c2:Int):(Int×Bool×Int×Int)→ai×St:=fun e=>(.exit 0,⟨[(0,sl ae a2),(1,sl ae b2),(4,.ptr 1000 0 0 1),(5,.ptr 2001 0 0 1),(6,I e.1),(11,B e.2.1)],[(1000,⟨2,true,[[I c,I c2]]⟩),(2001,⟨2,true,[[I e.2.2.1,I e.2.2.2]]⟩)]⟩)
theorem NG {a2 b2 c c2 s e} (h:Loop (gn a2 b2 c c2) s=some e):aD tab ow (.close [6009,6014,6019,6020,6021,6022]) uV (BQ a2 b2 c c2 s)=some (BV a2 b2 c c2 e):=by
 refine lrG (fun s o h=> ?_) h
 obtain ⟨_,_,_⟩:=s
 simp only [gn] at h
 simp+decide only [BQ,BV,uV,go_sem,reduceIte,Nat.reduceAdd]
 have d1:= @i7
 have d2:= @Hx
 have d3:= @jk
 all_goals exact go
noncomputable def vD (a b:(List Ext)):Option (Ext):=
 (vH).bind fun r_=>
 (Loop (gn a b (0:Int) (0:Int)) ((0:Int),r_.A,r_.B)).bind fun e_=>
 some (Ext.mk e_.2.2.1 e_.2.2.2)
theorem Tf {a b r} (h:vD a b=some r):Call tab ow 200 [sl ae a,sl ae b] []=some (.agg [I r.A,I r.B],[]):=by
 rw [ab (af:=tZ) rfl]
 unfold vD at h
 simp+decide only [tZ,HF,go_sem,reduceIte,Nat.reduceAdd]
 have d1:= @CW
 have d2:= @NG
 all_goals exact go
section
noncomputable def jE (path2:List (List UInt8)):(List (List UInt8))×Int×(List UInt8)×Int→Option (((List (List UInt8))×Int×(List UInt8)×Int)⊕(((List (List UInt8))×Int×(List UInt8)×Int×Bool)))
 | (l,i2,h_,k)=>
   br (decide (k<((path2.length:Nat):Int))) (
   br (aZ ((([1]:List UInt8)).length+h_.length) 1) (
   (atL path2 k).bind fun x=>
   br (aZ (((([1]:List UInt8))++h_).length+x.length) 1) (
   br ((i2.tmod (2:Int))==(1:Int)) (
   (atL path2 k).bind fun x2=>
   br (aZ ((([1]:List UInt8)).length+x2.length) 1) (
   br (aZ (((([1]:List UInt8))++x2).length+h_.length) 1) (
   br (aZ ((l++([(((([1]:List UInt8))++x2)++h_)]:List (List UInt8))).length) 16) (
   (fL (((([1]:List UInt8))++x2)++h_)).bind fun r_2=>
   some (.inl ((l++([(((([1]:List UInt8))++x2)++h_)]:List (List UInt8))),(IntKind.wrap .i64 (i2.tdiv (2:Int))),r_2,(IntKind.wrap .i64 (k+(1:Int)))))) none) none) none) (
   br (aZ ((l++([(((([1]:List UInt8))++h_)++x)]:List (List UInt8))).length) 16) (
   (fL (((([1]:List UInt8))++h_)++x)).bind fun r_3=>
   some (.inl ((l++([(((([1]:List UInt8))++h_)++x)]:List (List UInt8))),(IntKind.wrap .i64 (i2.tdiv (2:Int))),r_3,(IntKind.wrap .i64 (k+(1:Int)))))) none)) none) none) (
   some (.inr (l,i2,h_,k,decide (k<((path2.length:Nat):Int)))))
@[reducible] def Hp (path2:List (List UInt8)) (s:(List (List UInt8))×Int×(List UInt8)×Int):St:=⟨[(0,I s.2.1),(2,sl eS path2),(8,.sl 2002 0 s.1.length),(9,S s.2.2.1),(10,I s.2.2.2)],[(2002,⟨1,false,rws eS s.1⟩)]⟩
@[reducible] def H4 (path2:List (List UInt8)):((List (List UInt8))×Int×(List UInt8)×Int×Bool)→ai×St:=fun e=>(.exit 0,⟨[(0,I e.2.1),(2,sl eS path2),(8,.sl 2002 0 e.1.length),(9,S e.2.2.1),(10,I e.2.2.2.1),(20,B e.2.2.2.2)],[(2002,⟨1,false,rws eS e.1⟩)]⟩)
theorem U8 {path2 s e} (h:Loop (jE path2) s=some e):aD tab ow (.close [10002,10003,11001]) yN (Hp path2 s)=some (H4 path2 e):=by
 refine lrG (fun s o h=> ?_) h
 obtain ⟨_,_,_,_⟩:=s
 simp only [jE] at h
 simp+decide only [Hp,H4,yN,go_sem,reduceIte,Nat.reduceAdd]
 have d1:= @jy
 all_goals exact go
noncomputable def Fq (i:Int) (leaf:(List UInt8)) (path:(List (List UInt8))):Option ((List (List UInt8))×(List UInt8)):=
 br (aZ ((([0]:List UInt8)).length+leaf.length) 1) (
 (qE leaf).bind fun r_=>
 (Loop (jE path) (([((([0]:List UInt8))++leaf)]:List (List UInt8)),i,r_,(0:Int))).bind fun e_=>
 some (e_.1,e_.2.2.1)) none
theorem YQ {i leaf path r} (h:Fq i leaf path=some r):Call tab ow 342 [I i,S leaf,sl eS path] []=some (.tup [sl eS r.1,S r.2],[]):=by
 rw [ab (af:=AT) rfl]
 unfold Fq at h
 simp+decide only [AT,Oy,go_sem,reduceIte,Nat.reduceAdd]
 have d1:= @HJ
 have d2:= @U8
 all_goals exact go
end
noncomputable def fq (root2:List UInt8) (i2:Int) (leaf2:List UInt8) (path2:List (List UInt8)):Int→Option ((Int)⊕(Unit⊕(Int×Bool)))
 |k=>
  br (decide (k<((path2.length:Nat):Int))) (
  (atL path2 k).bind fun x=>
  br (((x.length:Nat):Int) !=(32:Int)) (
  some (.inr (.inl ()))) (
  some (.inl (IntKind.wrap .i64 (k+(1:Int)))))) (
  some (.inr (.inr (k,decide (k<((path2.length:Nat):Int))))))
@[reducible] def A8 (root2:List UInt8) (i2:Int) (leaf2:List UInt8) (path2:List (List UInt8)) (s:Int):St:=⟨[(0,S root2),(2,I i2),(3,S leaf2),(4,sl eS path2),(11,I s)],[]⟩
@[reducible] def zV (root2:List UInt8) (i2:Int) (leaf2:List UInt8) (path2:List (List UInt8)):(Unit⊕(Int×Bool))→ai×St:=alt (fun e=>((.ret,⟨[(10,B false)],[]⟩):ai×St)) (fun e=>(.exit 0,⟨[(0,S root2),(2,I i2),(3,S leaf2),(4,sl eS path2),(11,I e.1),(29,B e.2)],[]⟩))
theorem LD {root2 i2 leaf2 path2 s e} (h:Loop (fq root2 i2 leaf2 path2) s=some e):aD tab ow (.close []) rR (A8 root2 i2 leaf2 path2 s)=some (zV root2 i2 leaf2 path2 e):=by
 refine lrG (fun s o h=> ?_) h
 simp only [fq] at h
 simp+decide only [A8,zV,rR,go_sem,reduceIte,Nat.reduceAdd]
 all_goals exact go
noncomputable def n9 (root:(List UInt8)) (n i:Int) (leaf:(List UInt8)) (path:(List (List UInt8))):Option (Bool):=
 br (decide (((leaf.length:Nat):Int)>(64:Int))) (
 some false) (
 br (decide (0≤(IntKind.wrap .u64 (mn (20:Int) ((path.length:Nat):Int))))) (
 br (n !=(bW .i64 (1:Int) (IntKind.wrap .u64 (mn (20:Int) ((path.length:Nat):Int))))) (
 some false) (
 (Loop (fq root i leaf path) (0:Int)).bind (alt (fun e_2=>
 some false) (fun e_3=>
 (Fq i leaf path).bind fun r_=>
 some (r_.2==root))))) none)
theorem Pp {root n i leaf path r} (h:n9 root n i leaf path=some r):Call tab ow 299 [S root,I n,I i,S leaf,sl eS path] []=some (B r,[]):=by
 rw [ab (af:=pE) rfl]
 unfold n9 at h
 simp+decide only [pE,Dq,go_sem,reduceIte,Nat.reduceAdd]
 have d1:= @LD
 have d2:= @YQ
 all_goals exact go
section
noncomputable def fx (ListtoArray2:List (List UInt8)) (t:Int) (t4:List Ext) (c:List (List Ext)) (c2:List (List UInt8)) (c3 c4 c5:Int) (c6:List aB) (c7:List Ext) (c8:List (List (List UInt8))):Int×Int×Int×Int×Int→Option ((Int×Int×Int×Int×Int)⊕((Int×Int×Int×Int×Int×Int×Int)⊕(Int×Int×Int×Bool×Int×Int)))
 | (t2,t3,t5,c9,c10)=>
   br (decide (t5<t)) (
   br (decide ((IntKind.wrap .i64 (t2.tdiv (2:Int)))≠0)) (
   (atL c7 (IntKind.wrap .i64 ((2:Int)*t5))).bind fun x=>
   (atL c7 (IntKind.wrap .i64 ((IntKind.wrap .i64 ((2:Int)*t5))+(1:Int)))).bind fun x2=>
   (atL ListtoArray2 t5).bind fun x3=>
   (ll ([x,x2]:List Ext)).bind fun r_=>
   (atL c8 t5).bind fun x4=>
   (n9 x3 (IntKind.wrap .i64 (t2.tdiv (2:Int))) (t3.tmod (IntKind.wrap .i64 (t2.tdiv (2:Int)))) r_ x4).bind fun r_2=>
   br (!r_2) (
   some (.inr (.inl ((9:Int),c9,c10,x.A,x.B,x2.A,x2.B)))) (
   br (decide (t5>(0:Int))) (
   br (decide (t3<(IntKind.wrap .i64 (t2.tdiv (2:Int))))) (
   br (x.A==c9) (
   br (x.B==c10) (
   br (!decide (t3<(IntKind.wrap .i64 (t2.tdiv (2:Int))))) (
   br (x2.A==c9) (
   br (x2.B==c10) (
   (atL t4 t5).bind fun x5=>
   (iQ t2 (t3.tmod (IntKind.wrap .i64 (t2.tdiv (2:Int)))) x x2 x5).bind fun r_3=>
   some (.inl ((IntKind.wrap .i64 (t2.tdiv (2:Int))),(t3.tmod (IntKind.wrap .i64 (t2.tdiv (2:Int)))),(IntKind.wrap .i64 (t5+(1:Int))),r_3.A,r_3.B))) (
   some (.inr (.inl ((12:Int),c9,c10,x.A,x.B,x2.A,x2.B))))) (
   some (.inr (.inl ((12:Int),c9,c10,x.A,x.B,x2.A,x2.B))))) (
   (atL t4 t5).bind fun x6=>
   (iQ t2 (t3.tmod (IntKind.wrap .i64 (t2.tdiv (2:Int)))) x x2 x6).bind fun r_4=>
   some (.inl ((IntKind.wrap .i64 (t2.tdiv (2:Int))),(t3.tmod (IntKind.wrap .i64 (t2.tdiv (2:Int)))),(IntKind.wrap .i64 (t5+(1:Int))),r_4.A,r_4.B)))) (
   some (.inr (.inl ((12:Int),c9,c10,x.A,x.B,x2.A,x2.B))))) (
   some (.inr (.inl ((12:Int),c9,c10,x.A,x.B,x2.A,x2.B))))) (
   br (!decide (t3<(IntKind.wrap .i64 (t2.tdiv (2:Int))))) (
   br (x2.A==c9) (
   br (x2.B==c10) (
   (atL t4 t5).bind fun x7=>
   (iQ t2 (t3.tmod (IntKind.wrap .i64 (t2.tdiv (2:Int)))) x x2 x7).bind fun r_5=>
   some (.inl ((IntKind.wrap .i64 (t2.tdiv (2:Int))),(t3.tmod (IntKind.wrap .i64 (t2.tdiv (2:Int)))),(IntKind.wrap .i64 (t5+(1:Int))),r_5.A,r_5.B))) (
   some (.inr (.inl ((12:Int),c9,c10,x.A,x.B,x2.A,x2.B))))) (
   some (.inr (.inl ((12:Int),c9,c10,x.A,x.B,x2.A,x2.B))))) (
   (atL t4 t5).bind fun x8=>
   (iQ t2 (t3.tmod (IntKind.wrap .i64 (t2.tdiv (2:Int)))) x x2 x8).bind fun r_6=>
   some (.inl ((IntKind.wrap .i64 (t2.tdiv (2:Int))),(t3.tmod (IntKind.wrap .i64 (t2.tdiv (2:Int)))),(IntKind.wrap .i64 (t5+(1:Int))),r_6.A,r_6.B))))) (
   (atL t4 t5).bind fun x9=>
   (iQ t2 (t3.tmod (IntKind.wrap .i64 (t2.tdiv (2:Int)))) x x2 x9).bind fun r_7=>
   some (.inl ((IntKind.wrap .i64 (t2.tdiv (2:Int))),(t3.tmod (IntKind.wrap .i64 (t2.tdiv (2:Int)))),(IntKind.wrap .i64 (t5+(1:Int))),r_7.A,r_7.B))))) none) (
   some (.inr (.inr (t2,t3,t5,decide (t5<t),c9,c10))))
@[reducible] def yV (ListtoArray2:List (List UInt8)) (t:Int) (t4:List Ext) (c:List (List Ext)) (c2:List (List UInt8)) (c3 c4 c5:Int) (c6:List aB) (c7:List Ext) (c8:List (List (List UInt8))) (s:Int×Int×Int×Int×Int):St:=⟨[(0,sl eS ListtoArray2),(1,I t),(2,I s.1),(3,I s.2.1),(4,sl ae t4),(12,.ptr 1000 0 0 1),(13,.ptr 1001 0 0 1),(15,.ptr 2001 0 0 1),(16,I s.2.2.1)],[(1000,⟨6,true,[[sl (eL ae) c,sl eS c2,I c3,I c4,I c5,sl aG c6]]⟩),(1001,⟨2,true,[[sl ae c7,sl (eL eS) c8]]⟩),(2001,⟨2,true,[[I s.2.2.2.1,I s.2.2.2.2]]⟩)]⟩
@[reducible] def z8 (ListtoArray2:List (List UInt8)) (t:Int) (t4:List Ext) (c:List (List Ext)) (c2:List (List UInt8)) (c3 c4 c5:Int) (c6:List aB) (c7:List Ext) (c8:List (List (List UInt8))):((Int×Int×Int×Int×Int×Int×Int)⊕(Int×Int×Int×Bool×Int×Int))→ai×St:=alt (fun e=>((.ret,⟨[(14,I e.1)],[(1000,⟨6,true,[[sl (eL ae) c,sl eS c2,I c3,I c4,I c5,sl aG c6]]⟩),(1001,⟨2,true,[[sl ae c7,sl (eL eS) c8]]⟩),(2001,⟨2,true,[[I e.2.1,I e.2.2.1]]⟩),(9006,⟨2,true,[[I e.2.2.2.1,I e.2.2.2.2.1]]⟩),(10007,⟨2,true,[[I e.2.2.2.2.2.1,I e.2.2.2.2.2.2]]⟩),(11008,cu)]⟩):ai×St)) (fun e=>(.exit 0,⟨[(0,sl eS ListtoArray2),(1,I t),(2,I e.1),(3,I e.2.1),(4,sl ae t4),(12,.ptr 1000 0 0 1),(13,.ptr 1001 0 0 1),(15,.ptr 2001 0 0 1),(16,I e.2.2.1),(24,B e.2.2.2.1)],[(1000,⟨6,true,[[sl (eL ae) c,sl eS c2,I c3,I c4,I c5,sl aG c6]]⟩),(1001,⟨2,true,[[sl ae c7,sl (eL eS) c8]]⟩),(2001,⟨2,true,[[I e.2.2.2.2.1,I e.2.2.2.2.2]]⟩)]⟩))
theorem M7 {ListtoArray2 t t4 c c2 c3 c4 c5 c6 c7 c8 s e} (h:Loop (fx ListtoArray2 t t4 c c2 c3 c4 c5 c6 c7 c8) s=some e):aD tab ow (.close [9006,10007,11008,11009,11016,15008]) rj (yV ListtoArray2 t t4 c c2 c3 c4 c5 c6 c7 c8 s)=some (z8 ListtoArray2 t t4 c c2 c3 c4 c5 c6 c7 c8 e):=by
 refine lrG (fun s o h=> ?_) h
 obtain ⟨_,_,_,_,_⟩:=s
 simp only [fx] at h
 simp+decide only [yV,z8,rj,go_sem,reduceIte,Nat.reduceAdd]
 have d1:= @xv
 have d2:= @Pp
 have d3:= @GQ
 all_goals exact go
noncomputable def xr (ListtoArray:(List (List UInt8))) (a a2 a3:Int) (a4:(List Ext)) (a5:aC) (a6:aB):Option (Int):=
 (Loop (fx ListtoArray a a4 a5.Rounds a5.Roots a5.Last.A a5.Last.B a5.Nonce a5.Queries a6.Pairs a6.Paths) (a2,a3,(0:Int),(0:Int),(0:Int))).bind (alt (fun e_2=>
 some e_2.1) (fun e_3=>
 br (e_3.2.2.2.2.1==a5.Last.A) (
 br (e_3.2.2.2.2.2==a5.Last.B) (
 some (0:Int)) (
 some (13:Int))) (
 some (13:Int))))
theorem Pd {ListtoArray a a2 a3 a4 a5 a6 r} (h:xr ListtoArray a a2 a3 a4 a5 a6=some r):Call tab ow 202 [sl eS ListtoArray,I a,I a2,I a3,sl ae a4,.agg [sl (eL ae) a5.Rounds,sl eS a5.Roots,I a5.Last.A,I a5.Last.B,I a5.Nonce,sl aG a5.Queries],.agg [sl ae a6.Pairs,sl (eL eS) a6.Paths]] []=some (I r,[]):=by
 rw [ab (af:=pK) rfl]
 unfold xr at h
 simp+decide only [pK,EE,go_sem,reduceIte,Nat.reduceAdd]
 have d1:= @M7
 all_goals exact go
end
section
noncomputable def ct (l:List (List UInt8)) (t:Int) (t2:List Ext) (c c2 c3 c4 c5:Int) (c6:List (List Ext)) (c7:List (List UInt8)) (c8 c9 c10:Int) (c11:List aB) (c16:Int) (c17:List UInt8) (c18:Int):(List Ext)×Int×(List Ext)×Int×(List UInt8)×Int×Int×Int→Option (((List Ext)×Int×(List Ext)×Int×(List UInt8)×Int×Int×Int)⊕(((List Ext)×(List Ext)×Int×(List UInt8)×Int×(List Ext)×Int×(List UInt8)×Int×Int×Int)⊕((List Ext)×Int×Bool×(List Ext)×Int×(List UInt8)×Int×Int×Int)))
 | (l2,t3,c12,c13,c14,c15,c19,c20)=>
   br (decide (t3<t)) (
   (atL c6 t3).bind fun x=>
   (atL x (0:Int)).bind fun x2=>
   (atL x (1:Int)).bind fun x3=>
   (gG x2 x3).bind fun r_=>
   br (r_.A==c19) (
   br (r_.B==c20) (
   (lI (Source.mk c12 c13 c14 c15) x).bind fun r_2=>
   (iK r_2).bind fun r_3=>
   (vi x r_3.2).bind fun r_4=>
   br (aZ ((l2++([r_3.2]:List Ext)).length) 16) (
   br (decide ((IntKind.wrap .i64 (t3+(1:Int)))<t)) (
   (atL c7 t3).bind fun x4=>
   (dP r_3.1 x4).bind fun r_5=>
   some (.inl ((l2++([r_3.2]:List Ext)),(IntKind.wrap .i64 (t3+(1:Int))),r_5.Script,r_5.At,r_5.State,r_5.Count,r_4.A,r_4.B))) (
   some (.inl ((l2++([r_3.2]:List Ext)),(IntKind.wrap .i64 (t3+(1:Int))),r_3.1.Script,r_3.1.At,r_3.1.State,r_3.1.Count,r_4.A,r_4.B)))) none) (
   some (.inr (.inl (l2,c12,c13,c14,c15,c12,c13,c14,c15,c19,c20))))) (
   some (.inr (.inl (l2,c12,c13,c14,c15,c12,c13,c14,c15,c19,c20))))) (
   some (.inr (.inr (l2,t3,decide (t3<t),c12,c13,c14,c15,c19,c20))))
@[reducible] def yJ (l:List (List UInt8)) (t:Int) (t2:List Ext) (c c2 c3 c4 c5:Int) (c6:List (List Ext)) (c7:List (List UInt8)) (c8 c9 c10:Int) (c11:List aB) (c16:Int) (c17:List UInt8) (c18:Int) (s:(List Ext)×Int×(List Ext)×Int×(List UInt8)×Int×Int×Int):St:=⟨[(1,I t),(2,sl ae t2),(11,.ptr 1001 0 0 1),(12,.ptr 1002 0 0 1),(13,.ptr 1003 0 0 1),(14,.ptr 1004 0 0 1),(16,.sl 2001 0 l.length),(17,.sl 3000 0 s.1.length),(18,.ptr 4001 0 0 1),(19,I s.2.1)],[(1000,⟨2,true,[[I c,I c2]]⟩),(1001,⟨3,true,[[I c3,I c4,I c5]]⟩),(1002,⟨6,true,[[sl (eL ae) c6,sl eS c7,I c8,I c9,I c10,sl aG c11]]⟩),(1003,⟨4,true,[[sl ae s.2.2.1,I s.2.2.2.1,S s.2.2.2.2.1,I s.2.2.2.2.2.1]]⟩),(1004,⟨4,true,[[.lit (.slice none 0 0),I c16,S c17,I c18]]⟩),(2001,⟨1,false,rws eS l⟩),(3000,⟨2,false,rws ae s.1⟩),(4001,⟨2,true,[[I s.2.2.2.2.2.2.1,I s.2.2.2.2.2.2.2]]⟩)]⟩
@[reducible] def Ad (l:List (List UInt8)) (t:Int) (t2:List Ext) (c c2 c3 c4 c5:Int) (c6:List (List Ext)) (c7:List (List UInt8)) (c8 c9 c10:Int) (c11:List aB) (c16:Int) (c17:List UInt8) (c18:Int):(((List Ext)×(List Ext)×Int×(List UInt8)×Int×(List Ext)×Int×(List UInt8)×Int×Int×Int)⊕((List Ext)×Int×Bool×(List Ext)×Int×(List UInt8)×Int×Int×Int))→ai×St:=alt (fun e=>((.ret,⟨[(14,.ptr 1004 0 0 1),(15,I (10:Int))],[(1000,⟨2,true,[[I c,I c2]]⟩),(1001,⟨3,true,[[I c3,I c4,I c5]]⟩),(1002,⟨6,true,[[sl (eL ae) c6,sl eS c7,I c8,I c9,I c10,sl aG c11]]⟩),(1003,⟨4,true,[[sl ae e.2.1,I e.2.2.1,S e.2.2.2.1,I e.2.2.2.2.1]]⟩),(1004,⟨4,true,[[sl ae e.2.2.2.2.2.1,I e.2.2.2.2.2.2.1,S e.2.2.2.2.2.2.2.1,I e.2.2.2.2.2.2.2.2.1]]⟩),(2001,⟨1,false,rws eS l⟩),(3000,⟨2,false,rws ae e.1⟩),(4001,⟨2,true,[[I e.2.2.2.2.2.2.2.2.2.1,I e.2.2.2.2.2.2.2.2.2.2]]⟩)]⟩):ai×St)) (fun e=>(.exit 0,⟨[(1,I t),(2,sl ae t2),(11,.ptr 1001 0 0 1),(12,.ptr 1002 0 0 1),(13,.ptr 1003 0 0 1),(14,.ptr 1004 0 0 1),(16,.sl 2001 0 l.length),(17,.sl 3000 0 e.1.length),(18,.ptr 4001 0 0 1),(19,I e.2.1),(36,B e.2.2.1)],[(1000,⟨2,true,[[I c,I c2]]⟩),(1001,⟨3,true,[[I c3,I c4,I c5]]⟩),(1002,⟨6,true,[[sl (eL ae) c6,sl eS c7,I c8,I c9,I c10,sl aG c11]]⟩),(1003,⟨4,true,[[sl ae e.2.2.2.1,I e.2.2.2.2.1,S e.2.2.2.2.2.1,I e.2.2.2.2.2.2.1]]⟩),(1004,⟨4,true,[[.lit (.slice none 0 0),I c16,S c17,I c18]]⟩),(2001,⟨1,false,rws eS l⟩),(3000,⟨2,false,rws ae e.1⟩),(4001,⟨2,true,[[I e.2.2.2.2.2.2.2.1,I e.2.2.2.2.2.2.2.2]]⟩)]⟩))
theorem KN {l t t2 c c2 c3 c4 c5 c6 c7 c8 c9 c10 c11 c16 c17 c18 s e} (h:Loop (ct l t t2 c c2 c3 c4 c5 c6 c7 c8 c9 c10 c11 c16 c17 c18) s=some e):aD tab ow (.close [9006,11002,12001,12005,12006,14002,15002,15003,17006]) se (yJ l t t2 c c2 c3 c4 c5 c6 c7 c8 c9 c10 c11 c16 c17 c18 s)=some (Ad l t t2 c c2 c3 c4 c5 c6 c7 c8 c9 c10 c11 c16 c17 c18 e):=by
 refine lrG (fun s o h=> ?_) h
 obtain ⟨_,_,_,_,_,_,_,_⟩:=s
 simp only [ct] at h
 simp+decide only [yJ,Ad,se,go_sem,reduceIte,Nat.reduceAdd]
 have d1:= @jk
 have d2:= @th
 have d3:= @oc
 have d4:= @Uh
 have d5:= @gj
 all_goals exact go
noncomputable def dT (l3:List (List UInt8)) (l4:List Ext) (t4 t5:Int) (t6:List Int) (c21 c22 c23 c24 c25:Int) (c26:List (List Ext)) (c27:List (List UInt8)) (c28 c29 c30:Int) (c31:List aB) (c32:List Ext) (c33:Int) (c34:List UInt8) (c35 c36:Int) (c37:List UInt8) (c38 c39 c40:Int):Int→Option ((Int)⊕(Int⊕(Int×Bool)))
 |t7=>
  br (decide (t7<((t6.length:Nat):Int))) (
  (atL t6 t7).bind fun x5=>
  (atL c31 t7).bind fun x6=>
  (xr l3 t4 t5 x5 l4 (aC.mk c26 c27 (Ext.mk c28 c29) c30 c31) x6).bind fun r_13=>
  br (r_13 !=(0:Int)) (
  some (.inr (.inl r_13))) (
  some (.inl (IntKind.wrap .i64 (t7+(1:Int)))))) (
  some (.inr (.inr (t7,decide (t7<((t6.length:Nat):Int))))))
@[reducible] def yO (l3:List (List UInt8)) (l4:List Ext) (t4 t5:Int) (t6:List Int) (c21 c22 c23 c24 c25:Int) (c26:List (List Ext)) (c27:List (List UInt8)) (c28 c29 c30:Int) (c31:List aB) (c32:List Ext) (c33:Int) (c34:List UInt8) (c35 c36:Int) (c37:List UInt8) (c38 c39 c40 s:Int):St:=⟨[(1,I t4),(12,.ptr 1002 0 0 1),(13,.ptr 1003 0 0 1),(14,.ptr 1004 0 0 1),(16,.sl 2001 0 l3.length),(17,.sl 3000 0 l4.length),(23,I t5),(24,sl eI t6),(25,I s)],[(1000,⟨2,true,[[I c21,I c22]]⟩),(1001,⟨3,true,[[I c23,I c24,I c25]]⟩),(1002,⟨6,true,[[sl (eL ae) c26,sl eS c27,I c28,I c29,I c30,sl aG c31]]⟩),(1003,⟨4,true,[[sl ae c32,I c33,S c34,I c35]]⟩),(1004,⟨4,true,[[.lit (.slice none 0 0),I c36,S c37,I c38]]⟩),(2001,⟨1,false,rws eS l3⟩),(3000,⟨2,false,rws ae l4⟩),(4001,⟨2,true,[[I c39,I c40]]⟩),(20003,cu)]⟩
@[reducible] def A5 (l3:List (List UInt8)) (l4:List Ext) (t4 t5:Int) (t6:List Int) (c21 c22 c23 c24 c25:Int) (c26:List (List Ext)) (c27:List (List UInt8)) (c28 c29 c30:Int) (c31:List aB) (c32:List Ext) (c33:Int) (c34:List UInt8) (c35 c36:Int) (c37:List UInt8) (c38 c39 c40:Int):(Int⊕(Int×Bool))→ai×St:=alt (fun e=>((.ret,⟨[(14,.ptr 1004 0 0 1),(15,I e)],[(1000,⟨2,true,[[I c21,I c22]]⟩),(1001,⟨3,true,[[I c23,I c24,I c25]]⟩),(1002,⟨6,true,[[sl (eL ae) c26,sl eS c27,I c28,I c29,I c30,sl aG c31]]⟩),(1003,⟨4,true,[[sl ae c32,I c33,S c34,I c35]]⟩),(1004,⟨4,true,[[sl ae c32,I c33,S c34,I c35]]⟩),(2001,⟨1,false,rws eS l3⟩),(3000,⟨2,false,rws ae l4⟩),(4001,⟨2,true,[[I c39,I c40]]⟩),(20003,cu)]⟩):ai×St)) (fun e=>(.exit 2,⟨[(1,I t4),(12,.ptr 1002 0 0 1),(13,.ptr 1003 0 0 1),(14,.ptr 1004 0 0 1),(16,.sl 2001 0 l3.length),(17,.sl 3000 0 l4.length),(23,I t5),(24,sl eI t6),(25,I e.1),(127,B e.2)],[(1000,⟨2,true,[[I c21,I c22]]⟩),(1001,⟨3,true,[[I c23,I c24,I c25]]⟩),(1002,⟨6,true,[[sl (eL ae) c26,sl eS c27,I c28,I c29,I c30,sl aG c31]]⟩),(1003,⟨4,true,[[sl ae c32,I c33,S c34,I c35]]⟩),(1004,⟨4,true,[[.lit (.slice none 0 0),I c36,S c37,I c38]]⟩),(2001,⟨1,false,rws eS l3⟩),(3000,⟨2,false,rws ae l4⟩),(4001,⟨2,true,[[I c39,I c40]]⟩),(20003,cu)]⟩))
theorem LQ {l3 l4 t4 t5 t6 c21 c22 c23 c24 c25 c26 c27 c28 c29 c30 c31 c32 c33 c34 c35 c36 c37 c38 c39 c40 s e} (h:Loop (dT l3 l4 t4 t5 t6 c21 c22 c23 c24 c25 c26 c27 c28 c29 c30 c31 c32 c33 c34 c35 c36 c37 c38 c39 c40) s=some e):aD tab ow (.close [29014]) oK (yO l3 l4 t4 t5 t6 c21 c22 c23 c24 c25 c26 c27 c28 c29 c30 c31 c32 c33 c34 c35 c36 c37 c38 c39 c40 s)=some (A5 l3 l4 t4 t5 t6 c21 c22 c23 c24 c25 c26 c27 c28 c29 c30 c31 c32 c33 c34 c35 c36 c37 c38 c39 c40 e):=by
 refine lrG (fun s o h=> ?_) h
 simp only [dT] at h
 simp+decide only [yO,A5,oK,go_sem,reduceIte,Nat.reduceAdd]
 have d1:= @Pd
 all_goals exact go
noncomputable def rB (ListtoArray:(List UInt8)) (a:Int) (a2:(List Ext)) (a3:Ext) (a4:Setting) (a5:aC) (a6:Source):Option (Source×Int):=
 br (aZ ((([ListtoArray]:List (List UInt8))++a5.Roots).length) 16) (
 (Loop (ct (([ListtoArray]:List (List UInt8))++a5.Roots) a a2 a3.A a3.B a4.Rate a4.Queries a4.Grind a5.Rounds a5.Roots a5.Last.A a5.Last.B a5.Nonce a5.Queries (0:Int) (([]:List UInt8)) (0:Int)) (([]:List Ext),(0:Int),a6.Script,a6.At,a6.State,a6.Count,a3.A,a3.B)).bind (alt (fun e_2=>
 some ((Source.mk e_2.2.2.2.2.2.1 e_2.2.2.2.2.2.2.1 e_2.2.2.2.2.2.2.2.1 e_2.2.2.2.2.2.2.2.2.1),(10:Int))) (fun e_3=>
 (vD e_3.1 a2).bind fun r_6=>
 (cU a5.Last r_6).bind fun r_7=>
 br (r_7.A==e_3.2.2.2.2.2.2.2.1) (
 br (r_7.B==e_3.2.2.2.2.2.2.2.2) (
 (lI (Source.mk e_3.2.2.2.1 e_3.2.2.2.2.1 e_3.2.2.2.2.2.1 e_3.2.2.2.2.2.2.1) ([a5.Last]:List Ext)).bind fun r_8=>
 (qM r_8 a4.Grind a5.Nonce).bind fun r_9=>
 br (!r_9) (
 some (r_8,(14:Int))) (
 (dR a5.Nonce (4:Int)).bind fun r_10=>
 (dP r_8 r_10).bind fun r_11=>
 br (decide (0≤(IntKind.wrap .u64 (IntKind.wrap .i64 (a+a4.Rate))))) (
 (lN r_11 a4.Queries (IntKind.wrap .i64 ((bW .i64 (1:Int) (IntKind.wrap .u64 (IntKind.wrap .i64 (a+a4.Rate)))).tdiv (2:Int)))).bind fun r_12=>
 (Loop (dT (([ListtoArray]:List (List UInt8))++a5.Roots) e_3.1 a (bW .i64 (1:Int) (IntKind.wrap .u64 (IntKind.wrap .i64 (a+a4.Rate)))) r_12.2 a3.A a3.B a4.Rate a4.Queries a4.Grind a5.Rounds a5.Roots a5.Last.A a5.Last.B a5.Nonce a5.Queries r_12.1.Script r_12.1.At r_12.1.State r_12.1.Count (0:Int) (([]:List UInt8)) (0:Int) e_3.2.2.2.2.2.2.2.1 e_3.2.2.2.2.2.2.2.2) (0:Int)).bind (alt (fun e_5=>
 some (r_12.1,e_5)) (fun e_6=>
 some (r_12.1,(0:Int))))) none)) (
 some ((Source.mk e_3.2.2.2.1 e_3.2.2.2.2.1 e_3.2.2.2.2.2.1 e_3.2.2.2.2.2.2.1),(11:Int)))) (
 some ((Source.mk e_3.2.2.2.1 e_3.2.2.2.2.1 e_3.2.2.2.2.2.1 e_3.2.2.2.2.2.2.1),(11:Int)))))) none
theorem Pk {ListtoArray a a2 a3 a4 a5 a6 r} (h:rB ListtoArray a a2 a3 a4 a5 a6=some r):Call tab ow 97 [S ListtoArray,I a,sl ae a2,.agg [I a3.A,I a3.B],.agg [I a4.Rate,I a4.Queries,I a4.Grind],.agg [sl (eL ae) a5.Rounds,sl eS a5.Roots,I a5.Last.A,I a5.Last.B,I a5.Nonce,sl aG a5.Queries],.agg [sl ae a6.Script,I a6.At,S a6.State,I a6.Count]] []=some (.tup [.agg [sl ae r.1.Script,I r.1.At,S r.1.State,I r.1.Count],I r.2],[]):=by
 rw [ab (af:=pz) rfl]
 unfold rB at h
 simp+decide only [pz,DP,go_sem,reduceIte,Nat.reduceAdd]
 have d1:= @KN
 have d2:= @Tf
 have d3:= @i7
 have d4:= @th
 have d5:= @I7
 have d6:= @iL
 have d7:= @gj
 have d8:= @Cj
 have d9:= @LQ
 all_goals exact go
end
end Go.AI.Fn
set_option linter.unusedVariables false
set_option linter.unusedSimpArgs false
set_option maxRecDepth 100000
set_option maxHeartbeats 1000000
namespace Go.AI.Fn
noncomputable def jm (ListtoArray:(List UInt8)) (a:Int) (a2:(List Ext)) (a3:Ext) (a4:Setting) (a5:aC) (a6:Source):Option (Source×Int):=
 br (decide (((ListtoArray.length:Nat):Int)>(65536:Int))) (
 some ((Source.mk ([]:List Ext) (0:Int) (([]:List UInt8)) (0:Int)),(2:Int))) (
 br (decide (((a2.length:Nat):Int)>(4096:Int))) (
 some ((Source.mk ([]:List Ext) (0:Int) (([]:List UInt8)) (0:Int)),(2:Int))) (
 (nk a2).bind fun r_=>
 br (!r_) (
 some ((Source.mk ([]:List Ext) (0:Int) (([]:List UInt8)) (0:Int)),(1:Int))) (
 (tW a3).bind fun r_2=>
 br (!r_2) (
 some ((Source.mk ([]:List Ext) (0:Int) (([]:List UInt8)) (0:Int)),(1:Int))) (
 (jq a4).bind fun r_3=>
 br (!r_3) (
 some ((Source.mk ([]:List Ext) (0:Int) (([]:List UInt8)) (0:Int)),(1:Int))) (
 (lu a6).bind fun r_4=>
 br (!r_4) (
 some ((Source.mk ([]:List Ext) (0:Int) (([]:List UInt8)) (0:Int)),(1:Int))) (
 (gx a (1:Int) (6:Int)).bind fun r_5=>
 br (!r_5) (
 some ((Source.mk ([]:List Ext) (0:Int) (([]:List UInt8)) (0:Int)),(4:Int))) (
 br (((a2.length:Nat):Int) !=a) (
 some ((Source.mk ([]:List Ext) (0:Int) (([]:List UInt8)) (0:Int)),(4:Int))) (
 (of a5 a a4).bind fun r_6=>
 br (!r_6) (
 some ((Source.mk ([]:List Ext) (0:Int) (([]:List UInt8)) (0:Int)),(18:Int))) (
 (ji a6 (100:Int)).bind fun r_7=>
 br r_7 (
 some ((Source.mk ([]:List Ext) (0:Int) (([]:List UInt8)) (0:Int)),(6:Int))) (
 (rB ListtoArray a a2 a3 a4 a5 a6).bind fun r_8=>
 br (r_8.2 !=(0:Int)) (
 some ((Source.mk ([]:List Ext) (0:Int) (([]:List UInt8)) (0:Int)),r_8.2)) (
 (o9 r_8.1).bind fun r_9=>
 some (r_9,(0:Int)))))))))))))
theorem Gy {ListtoArray a a2 a3 a4 a5 a6 r} (h:jm ListtoArray a a2 a3 a4 a5 a6=some r):Call tab ow 24 [S ListtoArray,I a,sl ae a2,.agg [I a3.A,I a3.B],.agg [I a4.Rate,I a4.Queries,I a4.Grind],.agg [sl (eL ae) a5.Rounds,sl eS a5.Roots,I a5.Last.A,I a5.Last.B,I a5.Nonce,sl aG a5.Queries],.agg [sl ae a6.Script,I a6.At,S a6.State,I a6.Count]] []=some (.tup [.agg [sl ae r.1.Script,I r.1.At,S r.1.State,I r.1.Count],I r.2],[]):=by
 rw [ab (af:=jP) rfl]
 unfold jm at h
 simp+decide only [jP,vL,go_sem,reduceIte,Nat.reduceAdd]
 have d1:= @Ew
 have d2:= @Gn
 have d3:= @uO
 have d4:= @Dg
 have d5:= @ra
 have d6:= @NQ
 have d7:= @Du
 have d8:= @Pk
 have d9:= @CL
 all_goals exact go
noncomputable def AE (ListtoArray a:(List UInt8)):Option (Bool):=
 br (decide (((ListtoArray.length:Nat):Int)>(1048576:Int))) (
 some true) (
 br (decide (((a.length:Nat):Int)>(1048576:Int))) (
 some true) (
 (Zv a (0:Int) (3:Int)).bind fun r_=>
 br (decide (0≤(IntKind.wrap .u64 (IntKind.wrap .i64 ((1:Int)+r_))))) (
 (vO ListtoArray (bW .i64 (1:Int) (IntKind.wrap .u64 (IntKind.wrap .i64 ((1:Int)+r_))))).bind fun r_2=>
 (vO a (IntKind.wrap .i64 ((1:Int)+r_))).bind fun r_3=>
 (oF a).bind fun r_4=>
 (so ListtoArray).bind fun r_5=>
 (kD r_2 r_4.Rate).bind fun r_6=>
 (kH r_2 r_4.Rate).bind fun r_7=>
 (oH r_2 r_3 r_4 r_5).bind fun r_8=>
 (oz r_2 r_3 r_4 r_5).bind fun r_9=>
 br (r_6.2 !=(0:Int)) (
 some false) (
 br (r_6.1 !=r_7.1) (
 some false) (
 br (r_8.2.2 !=r_9.2.2) (
 some false) (
 (iD r_8.1 r_9.1).bind fun r_10=>
 br (!r_10) (
 some false) (
 (jJ r_8.2.1 r_9.2.1).bind fun r_11=>
 br (!r_11) (
 some false) (
 br (r_8.2.2 !=(0:Int)) (
 some (r_8.2.2==(14:Int))) (
 (qP r_2 r_3).bind fun r_12=>
 (ft r_6.1 (IntKind.wrap .i64 ((1:Int)+r_)) r_3 r_12.1 r_4 r_8.1 r_5).bind fun r_13=>
 (WN).bind fun r_14=>
 (Ag r_12.1 r_14).bind fun r_15=>
 (ft r_6.1 (IntKind.wrap .i64 ((1:Int)+r_)) r_3 r_15.1 r_4 r_8.1 r_5).bind fun r_16=>
 br (aZ r_6.1.length 1) (
 (lQ r_6.1).bind fun r_17=>
 (ft r_17 (IntKind.wrap .i64 ((1:Int)+r_)) r_3 r_12.1 r_4 r_8.1 r_5).bind fun r_18=>
 br (aZ r_6.1.length 1) (
 (lQ r_6.1).bind fun r_19=>
 (jm r_19 (IntKind.wrap .i64 ((1:Int)+r_)) r_3 r_12.1 r_4 r_8.1 r_5).bind fun r_20=>
 br (r_12.2==(0:Int)) (
 br (r_13.2==(0:Int)) (
 (jJ r_13.1 r_8.2.1).bind fun r_21=>
 br r_21 (
 br (r_15.2==(0:Int)) (
 br (r_16.2==(10:Int)) (
 br (r_18.2==r_20.2) (
 (lH r_8.1 (IntKind.wrap .i64 ((1:Int)+r_)) r_4).bind fun r_22=>
 br r_22 (
 (gX r_4).bind fun r_23=>
 some r_23) (
 some false)) (
 some false)) (
 some false)) (
 some false)) (
 some false)) (
 some false)) (
 some false)) none) none))))))) none))
theorem w_FnOpens_c {ListtoArray a r} (h:AE ListtoArray a=some r):Call tab ow 3 [sl eU8 ListtoArray,sl eU8 a] []=some (B r,[]):=by
 rw [ab (af:=a_w_FnOpens) rfl]
 unfold AE at h
 simp+decide only [a_w_FnOpens,Hg,go_sem,reduceIte,Nat.reduceAdd]
 have d1:= @a4M
 have d2:= @VY
 have d3:= @Nw
 have d4:= @QF
 have d5:= @Iy
 have d6:= @J2
 have d7:= @NR
 have d8:= @Nn
 have d9:= @IV
 have d10:= @Jy
 have d11:= @Sv
 have d12:= @G5
 have d13:= @a3z
 have d14:= @Vo
 have d15:= @MK
 have d16:= @Gy
 have d17:= @Be
 have d18:= @nv
 all_goals exact go
end Go.AI.Fn
