/- Walks through the program, with open values. -/
import Derived.Test.YtdmhkkcihecndaaGreatStr
set_option linter.unusedVariables false
set_option linter.unusedSimpArgs false
set_option maxRecDepth 100000
set_option maxHeartbeats 1000000
namespace Go.AI.Fn
noncomputable def Zv (more:(List UInt8)) (i n:Int):Option (Int):=
 br (decide (n≤(1:Int))) (
 some (0:Int)) (
 br (((more.length:Nat):Int)==(0:Int)) (
 br (decide (n≠0)) (
 some ((IntKind.wrap .i64 (i*(7:Int))).tmod n)) none) (
 br (decide (((more.length:Nat):Int)≠0)) (
 (atL more (i.tmod ((more.length:Nat):Int))).bind fun x=>
 br (decide (((more.length:Nat):Int)≠0)) (
 (atL more ((IntKind.wrap .i64 (i+(1:Int))).tmod ((more.length:Nat):Int))).bind fun x2=>
 br (decide (((more.length:Nat):Int)≠0)) (
 br (decide (n≠0)) (
 some ((IntKind.wrap .i64 ((IntKind.wrap .i64 ((IntKind.wrap .i64 ((IntKind.wrap .i64 (x.toNat:Int))*(31:Int)))+(IntKind.wrap .i64 (x2.toNat:Int))))+(IntKind.wrap .i64 (i.tdiv ((more.length:Nat):Int))))).tmod n)) none) none) none) none))
theorem a4M {more i n r} (h:Zv more i n=some r):Call tab ow 9 [sl eU8 more,I i,I n] []=some (I r,[]):=by
 rw [ab (af:=P4) rfl]
 unfold Zv at h
 simp+decide only [P4,Zd,go_sem,reduceIte,Nat.reduceAdd]
 all_goals exact go
noncomputable def lK (code:(List UInt8)):Option (bI):=
 some (bI.mk code (0:Int) (((code.length:Nat):Int).tmod (1000:Int)))
theorem ur {code r} (h:lK code=some r):Call tab ow 57 [sl eU8 code] []=some (.ptr 0 0 0 1,[⟨3,true,[[sl eU8 r.code,I r.at_,I r.seed]]⟩]):=by
 rw [ab (af:=o3) rfl]
 unfold lK at h
 simp+decide only [o3,BP,go_sem,reduceIte,Nat.reduceAdd]
 all_goals exact go
noncomputable def eQ (m:bI):Option (Int×bI):=
 br (decide ((IntKind.wrap .i64 (m.at_+(1:Int)))≤((m.code.length:Nat):Int))) (
 (atL m.code (IntKind.wrap .i64 ((IntKind.wrap .i64 (m.at_+(1:Int)))-(1:Int)))).bind fun x=>
 (atL m.code (IntKind.wrap .i64 ((IntKind.wrap .i64 (m.at_+(1:Int)))-(1:Int)))).bind fun x2=>
 some ((IntKind.wrap .i64 (x2.toNat:Int)),(bI.mk m.code (IntKind.wrap .i64 (m.at_+(1:Int))) ((IntKind.wrap .i64 ((IntKind.wrap .i64 ((IntKind.wrap .i64 (m.seed*(31:Int)))+(IntKind.wrap .i64 (x.toNat:Int))))+(7:Int))).tmod (2147483648:Int))))) (
 br (decide ((IntKind.wrap .i64 (m.at_+(1:Int)))>(3000:Int))) (
 some ((0:Int),(bI.mk m.code (IntKind.wrap .i64 (m.at_+(1:Int))) m.seed))) (
 some (((IntKind.wrap .i64 (((IntKind.wrap .i64 ((IntKind.wrap .i64 (m.seed*(1103515245:Int)))+(12345:Int))).tmod (2147483648:Int)).tdiv (65536:Int))).tmod (256:Int)),(bI.mk m.code (IntKind.wrap .i64 (m.at_+(1:Int))) ((IntKind.wrap .i64 ((IntKind.wrap .i64 (m.seed*(1103515245:Int)))+(12345:Int))).tmod (2147483648:Int))))))
theorem J7 {m r} (h:eQ m=some r):Call tab ow 265 [.ptr 0 0 0 1] [⟨3,true,[[sl eU8 m.code,I m.at_,I m.seed]]⟩]=some (I r.1,[⟨3,true,[[sl eU8 r.2.code,I r.2.at_,I r.2.seed]]⟩]):=by
 rw [ab (af:=kS) rfl]
 unfold eQ at h
 simp+decide only [kS,yb,go_sem,reduceIte,Nat.reduceAdd]
 all_goals exact go
noncomputable def bC (n:Int) (m:bI):Option (Int×bI):=
 br (decide (n≤(1:Int))) (
 some ((0:Int),m)) (
 br (decide (n≤(256:Int))) (
 (eQ m).bind fun r_=>
 br (decide (n≠0)) (
 some ((r_.1.tmod n),r_.2)) none) (
 (eQ m).bind fun r_2=>
 (eQ r_2.2).bind fun r_3=>
 (eQ r_3.2).bind fun r_4=>
 br (decide (n≠0)) (
 some (((IntKind.wrap .i64 ((IntKind.wrap .i64 ((IntKind.wrap .i64 (r_2.1*(65536:Int)))+(IntKind.wrap .i64 (r_3.1*(256:Int)))))+r_4.1)).tmod n),r_4.2)) none))
theorem fM {n m r} (h:bC n m=some r):Call tab ow 144 [.ptr 0 0 0 1,I n] [⟨3,true,[[sl eU8 m.code,I m.at_,I m.seed]]⟩]=some (I r.1,[⟨3,true,[[sl eU8 r.2.code,I r.2.at_,I r.2.seed]]⟩]):=by
 rw [ab (af:=kT) rfl]
 unfold bC at h
 simp+decide only [kT,yy,go_sem,reduceIte,Nat.reduceAdd]
 have d1:= @J7
 all_goals exact go
noncomputable def dz (n:Int) (m:bI):Option (Bool×bI):=
 (bC n m).bind fun r_=>
 some ((r_.1==(IntKind.wrap .i64 (n-(1:Int)))),r_.2)
theorem j9 {n m r} (h:dz n m=some r):Call tab ow 147 [.ptr 0 0 0 1,I n] [⟨3,true,[[sl eU8 m.code,I m.at_,I m.seed]]⟩]=some (B r.1,[⟨3,true,[[sl eU8 r.2.code,I r.2.at_,I r.2.seed]]⟩]):=by
 rw [ab (af:=j5) rfl]
 unfold dz at h
 simp+decide only [j5,tg,go_sem,reduceIte,Nat.reduceAdd]
 have d1:= @fM
 all_goals exact go
noncomputable def dJ:Int×Int×(List UInt8)×Int×Int→Option ((Int×Int×(List UInt8)×Int×Int)⊕((Int×Int×Bool×(List UInt8)×Int×Int)))
 | (n,i,c,c2,c3)=>
   br (decide (i<(5:Int))) (
   (bC (256:Int) (bI.mk c c2 c3)).bind fun r_4=>
   some (.inl (((IntKind.wrap .i64 ((IntKind.wrap .i64 (n*(256:Int)))+r_4.1)).tmod (2130706433:Int)),(IntKind.wrap .i64 (i+(1:Int))),r_4.2.code,r_4.2.at_,r_4.2.seed))) (
   some (.inr (n,i,decide (i<(5:Int)),c,c2,c3)))
@[reducible] def sf (s:Int×Int×(List UInt8)×Int×Int):St:=⟨[(0,.ptr 0 0 0 1),(3,I s.1),(4,I s.2.1)],[(0,⟨3,true,[[sl eU8 s.2.2.1,I s.2.2.2.1,I s.2.2.2.2]]⟩)]⟩
@[reducible] def sj:(Int×Int×Bool×(List UInt8)×Int×Int)→ai×St:=fun e=>(.exit 1,⟨[(0,.ptr 0 0 0 1),(3,I e.1),(4,I e.2.1),(17,B e.2.2.1)],[(0,⟨3,true,[[sl eU8 e.2.2.2.1,I e.2.2.2.2.1,I e.2.2.2.2.2]]⟩)]⟩)
theorem CE { s e} (h:Loop (dJ) s=some e):aD tab ow (.close [11003]) lh (sf s)=some (sj e):=by
 refine lrG (fun s o h=> ?_) h
 obtain ⟨_,_,_,_,_⟩:=s
 simp only [dJ] at h
 simp+decide only [sf,sj,lh,go_sem,reduceIte,Nat.reduceAdd]
 have d1:= @fM
 all_goals exact go
noncomputable def fl (m:bI):Option (Int×bI):=
 (bC (5:Int) m).bind fun r_=>
 br (r_.1==(0:Int)) (
 (bC (4:Int) r_.2).bind fun r_2=>
 some (r_2.1,r_2.2)) (
 br (r_.1==(1:Int)) (
 (bC (3:Int) r_.2).bind fun r_3=>
 some ((IntKind.wrap .i64 ((2130706432:Int)-r_3.1)),r_3.2)) (
 (Loop (dJ) ((0:Int),(0:Int),r_.2.code,r_.2.at_,r_.2.seed)).bind fun e_=>
 some (e_.1,(bI.mk e_.2.2.2.1 e_.2.2.2.2.1 e_.2.2.2.2.2))))
theorem Gh {m r} (h:fl m=some r):Call tab ow 242 [.ptr 0 0 0 1] [⟨3,true,[[sl eU8 m.code,I m.at_,I m.seed]]⟩]=some (I r.1,[⟨3,true,[[sl eU8 r.2.code,I r.2.at_,I r.2.seed]]⟩]):=by
 rw [ab (af:=jI) rfl]
 unfold fl at h
 simp+decide only [jI,vB,go_sem,reduceIte,Nat.reduceAdd]
 have d1:= @fM
 have d2:= @CE
 all_goals exact go
noncomputable def mb (m:bI):Option (Ext×bI):=
 (dz (4:Int) m).bind fun r_=>
 br r_.1 (
 (fl r_.2).bind fun r_2=>
 some ((Ext.mk r_2.1 (0:Int)),r_2.2)) (
 (fl r_.2).bind fun r_3=>
 (fl r_3.2).bind fun r_4=>
 some ((Ext.mk r_3.1 r_4.1),r_4.2))
theorem Mz {m r} (h:mb m=some r):Call tab ow 143 [.ptr 0 0 0 1] [⟨3,true,[[sl eU8 m.code,I m.at_,I m.seed]]⟩]=some (.agg [I r.1.A,I r.1.B],[⟨3,true,[[sl eU8 r.2.code,I r.2.at_,I r.2.seed]]⟩]):=by
 rw [ab (af:=lS) rfl]
 unfold mb at h
 simp+decide only [lS,zq,go_sem,reduceIte,Nat.reduceAdd]
 have d1:= @j9
 have d2:= @Gh
 all_goals exact go
section
noncomputable def dY (n2:Int):(List Ext)×Int×(List UInt8)×Int×Int→Option (((List Ext)×Int×(List UInt8)×Int×Int)⊕(((List Ext)×Int×Bool×(List UInt8)×Int×Int)))
 | (l,i,c,c2,c3)=>
   br (decide (i<n2)) (
   (mb (bI.mk c c2 c3)).bind fun r_=>
   br (aZ ((l++([r_.1]:List Ext)).length) 16) (
   some (.inl ((l++([r_.1]:List Ext)),(IntKind.wrap .i64 (i+(1:Int))),r_.2.code,r_.2.at_,r_.2.seed))) none) (
   some (.inr (l,i,decide (i<n2),c,c2,c3)))
@[reducible] def tO (n2:Int) (s:(List Ext)×Int×(List UInt8)×Int×Int):St:=⟨[(0,.ptr 0 0 0 1),(1,I n2),(5,.sl 2000 0 s.1.length),(6,I s.2.1)],[(0,⟨3,true,[[sl eU8 s.2.2.1,I s.2.2.2.1,I s.2.2.2.2]]⟩),(2000,⟨2,false,rws ae s.1⟩)]⟩
@[reducible] def tI (n2:Int):((List Ext)×Int×Bool×(List UInt8)×Int×Int)→ai×St:=fun e=>(.exit 0,⟨[(0,.ptr 0 0 0 1),(1,I n2),(5,.sl 2000 0 e.1.length),(6,I e.2.1),(10,B e.2.2.1)],[(0,⟨3,true,[[sl eU8 e.2.2.2.1,I e.2.2.2.2.1,I e.2.2.2.2.2]]⟩),(2000,⟨2,false,rws ae e.1⟩)]⟩)
theorem ER {n2 s e} (h:Loop (dY n2) s=some e):aD tab ow (.close [6002,6003,6004]) ml (tO n2 s)=some (tI n2 e):=by
 refine lrG (fun s o h=> ?_) h
 obtain ⟨_,_,_,_,_⟩:=s
 simp only [dY] at h
 simp+decide only [tO,tI,ml,go_sem,reduceIte,Nat.reduceAdd]
 have d1:= @Mz
 all_goals exact go
noncomputable def iM (n:Int) (m:bI):Option ((List Ext)×bI):=
 (Loop (dY n) (([]:List Ext),(0:Int),m.code,m.at_,m.seed)).bind fun e_=>
 some (e_.1,(bI.mk e_.2.2.2.1 e_.2.2.2.2.1 e_.2.2.2.2.2))
theorem yA {n m r} (h:iM n m=some r):Call tab ow 58 [.ptr 0 0 0 1,I n] [⟨3,true,[[sl eU8 m.code,I m.at_,I m.seed]]⟩]=some (sl ae r.1,[⟨3,true,[[sl eU8 r.2.code,I r.2.at_,I r.2.seed]]⟩]):=by
 rw [ab (af:=kO) rfl]
 unfold iM at h
 simp+decide only [kO,xX,go_sem,reduceIte,Nat.reduceAdd]
 have d1:= @ER
 all_goals exact go
end
noncomputable def vO (code:(List UInt8)) (n:Int):Option ((List Ext)):=
 (lK code).bind fun r_=>
 (iM n r_).bind fun r_2=>
 some r_2.1
theorem VY {code n r} (h:vO code n=some r):Call tab ow 10 [sl eU8 code,I n] []=some (sl ae r,[]):=by
 rw [ab (af:=xa) rfl]
 unfold vO at h
 simp+decide only [xa,Lh,go_sem,reduceIte,Nat.reduceAdd]
 have d1:= @ur
 have d2:= @yA
 all_goals exact go
noncomputable def ka (m:bI):Option (Setting×bI):=
 (bC (2:Int) m).bind fun r_=>
 (bC (3:Int) r_.2).bind fun r_2=>
 (bC (3:Int) r_2.2).bind fun r_3=>
 some ((Setting.mk (IntKind.wrap .i64 ((1:Int)+r_.1)) (IntKind.wrap .i64 ((1:Int)+r_2.1)) r_3.1),r_3.2)
theorem CO {m r} (h:ka m=some r):Call tab ow 59 [.ptr 0 0 0 1] [⟨3,true,[[sl eU8 m.code,I m.at_,I m.seed]]⟩]=some (.agg [I r.1.Rate,I r.1.Queries,I r.1.Grind],[⟨3,true,[[sl eU8 r.2.code,I r.2.at_,I r.2.seed]]⟩]):=by
 rw [ab (af:=is) rfl]
 unfold ka at h
 simp+decide only [is,rW,go_sem,reduceIte,Nat.reduceAdd]
 have d1:= @fM
 all_goals exact go
noncomputable def oF (code:(List UInt8)):Option (Setting):=
 (lK code).bind fun r_=>
 (ka r_).bind fun r_2=>
 some r_2.1
theorem Nw {code r} (h:oF code=some r):Call tab ow 11 [sl eU8 code] []=some (.agg [I r.Rate,I r.Queries,I r.Grind],[]):=by
 rw [ab (af:=o5) rfl]
 unfold oF at h
 simp+decide only [o5,Cb,go_sem,reduceIte,Nat.reduceAdd]
 have d1:= @ur
 have d2:= @CO
 all_goals exact go
noncomputable def gk (list:(List (List UInt8))) (m:bI):Option ((List UInt8)×bI):=
 br (((list.length:Nat):Int)==(0:Int)) (
 some ((([]:List UInt8)),m)) (
 (bC ((list.length:Nat):Int) m).bind fun r_=>
 (atL list r_.1).bind fun x=>
 some (x,r_.2))
theorem oM {list m r} (h:gk list m=some r):Call tab ow 146 [.ptr 0 0 0 1,sl eS list] [⟨3,true,[[sl eU8 m.code,I m.at_,I m.seed]]⟩]=some (S r.1,[⟨3,true,[[sl eU8 r.2.code,I r.2.at_,I r.2.seed]]⟩]):=by
 rw [ab (af:=kU) rfl]
 unfold gk at h
 simp+decide only [kU,y5,go_sem,reduceIte,Nat.reduceAdd]
 have d1:= @fM
 all_goals exact go
noncomputable def gC (m:List Int) (t2:List UInt8):(List Int)×Int→Option (((List Int)×Int)⊕(((List Int)×Int×Bool)))
 | (m2,i)=>
   br (decide (i<((t2.length:Nat):Int))) (
   br (decide (0≤(IntKind.wrap .i64 (i.tdiv (8:Int))))&&decide ((IntKind.wrap .i64 (i.tdiv (8:Int))).toNat<25)) (
   (m2[(IntKind.wrap .i64 (i.tdiv (8:Int))).toNat]?).bind fun x=>
   (atL t2 i).bind fun c=>
   br (decide (0≤(IntKind.wrap .u64 (IntKind.wrap .i64 ((8:Int)*(i.tmod (8:Int))))))) (
   br (decide (0≤(IntKind.wrap .i64 (i.tdiv (8:Int))))&&decide ((IntKind.wrap .i64 (i.tdiv (8:Int))).toNat<25)) (
   br (decide ((IntKind.wrap .i64 (i.tdiv (8:Int))).toNat<m2.length)) (
   some (.inl ((m2.set ((IntKind.wrap .i64 (i.tdiv (8:Int))).toNat) (uq .u64 x (bW .u64 (IntKind.wrap .u64 (c.toNat:Int)) (IntKind.wrap .u64 (IntKind.wrap .i64 ((8:Int)*(i.tmod (8:Int)))))))),(IntKind.wrap .i64 (i+(1:Int)))))) none) none) none) none) (
   some (.inr (m2,i,decide (i<((t2.length:Nat):Int)))))
@[reducible] def A0 (m:List Int) (t2:List UInt8) (s:(List Int)×Int):St:=⟨[(0,S t2),(2,.ptr 1000 0 0 1),(3,.ptr 2001 0 0 1),(4,I s.2)],[(1000,⟨25,true,[ar .u64 m]⟩),(2001,⟨25,true,[ar .u64 s.1]⟩)]⟩
@[reducible] def yR (m:List Int) (t2:List UInt8):((List Int)×Int×Bool)→ai×St:=fun e=>(.exit 0,⟨[(0,S t2),(2,.ptr 1000 0 0 1),(3,.ptr 2001 0 0 1),(4,I e.2.1),(9,B e.2.2)],[(1000,⟨25,true,[ar .u64 m]⟩),(2001,⟨25,true,[ar .u64 e.1]⟩)]⟩)
theorem JK {m t2 s e} (h:Loop (gC m t2) s=some e):aD tab ow (.close []) si (A0 m t2 s)=some (yR m t2 e):=by
 refine lrG (fun s o h=> ?_) h
 obtain ⟨_,_⟩:=s
 simp only [gC] at h
 simp+decide only [A0,yR,si,go_sem,reduceIte,Nat.reduceAdd]
 all_goals exact go
noncomputable def sg (t:(List UInt8)):Option ((List Int)):=
 (Loop (gC (nZ 25) t) ((nZ 25),(0:Int))).bind fun e_=>
 br (decide (e_.1.length=25)) (
 br (decide (e_.1.length=25)) (
 br (decide (e_.1.length=25)) (
 some e_.1) none) none) none
theorem PX {t r} (h:sg t=some r):Call tab ow 304 [S t] []=some (.agg (ar .u64 r),[]):=by
 rw [ab (af:=q9) rfl]
 unfold sg at h
 simp+decide only [q9,Fh,go_sem,reduceIte,Nat.reduceAdd]
 have d1:= @JK
 all_goals exact go
noncomputable def yP:Option ((List Int)):=
 some ([1,32898,9223372036854808714,9223372039002292224,32907,2147483649,9223372039002292353,9223372036854808585,138,136,2147516425,2147483658,2147516555,9223372036854775947,9223372036854808713,9223372036854808579,9223372036854808578,9223372036854775936,32778,9223372039002259466,9223372039002292353,9223372036854808704,2147483649,9223372039002292232]:List Int)
theorem Nc {r} (h:yP=some r):Call tab ow 343 [] []=some (.agg (ar .u64 r),[]):=by
 rw [ab (af:=nQ) rfl]
 unfold yP at h
 simp+decide only [nQ,C8,go_sem,reduceIte,Nat.reduceAdd]
 all_goals exact go
noncomputable def zP:Option ((List Int)):=
 some ([0,1,62,28,27,36,44,6,55,20,3,10,43,25,39,41,45,15,21,8,18,2,61,56,14]:List Int)
theorem Nq {r} (h:zP=some r):Call tab ow 344 [] []=some (.agg (ar .u64 r),[]):=by
 rw [ab (af:=nU) rfl]
 unfold zP at h
 simp+decide only [nU,C6,go_sem,reduceIte,Nat.reduceAdd]
 all_goals exact go
noncomputable def rg (x n:Int):Option (Int):=
 br (n==(0:Int)) (
 some x) (
 br (decide (0≤n)) (
 br (decide (0≤(IntKind.wrap .u64 ((64:Int)-n)))) (
 some (uq .u64 (bW .u64 x n) (aL .u64 x (IntKind.wrap .u64 ((64:Int)-n))))) none) none)
theorem GR {x n r} (h:rg x n=some r):Call tab ow 345 [.lit (.int .u64 x),.lit (.int .u64 n)] []=some (.lit (.int .u64 r),[]):=by
 rw [ab (af:=to) rfl]
 unfold rg at h
 simp+decide only [to,It,go_sem,reduceIte,Nat.reduceAdd]
 all_goals exact go
noncomputable def f6 (m5 m6 m7 m8:List Int) (t2:Int):(List Int)×Int→Option (((List Int)×Int)⊕(((List Int)×Int×Bool)))
 | (m9,t3)=>
   br (decide (t3<(5:Int))) (
   br (decide (0≤t3)&&decide (t3.toNat<25)) (
   (m5[t3.toNat]?).bind fun x=>
   br (decide (0≤(IntKind.wrap .i64 (t3+(5:Int))))&&decide ((IntKind.wrap .i64 (t3+(5:Int))).toNat<25)) (
   (m5[(IntKind.wrap .i64 (t3+(5:Int))).toNat]?).bind fun x2=>
   br (decide (0≤(IntKind.wrap .i64 (t3+(10:Int))))&&decide ((IntKind.wrap .i64 (t3+(10:Int))).toNat<25)) (
   (m5[(IntKind.wrap .i64 (t3+(10:Int))).toNat]?).bind fun x3=>
   br (decide (0≤(IntKind.wrap .i64 (t3+(15:Int))))&&decide ((IntKind.wrap .i64 (t3+(15:Int))).toNat<25)) (
   (m5[(IntKind.wrap .i64 (t3+(15:Int))).toNat]?).bind fun x4=>
   br (decide (0≤(IntKind.wrap .i64 (t3+(20:Int))))&&decide ((IntKind.wrap .i64 (t3+(20:Int))).toNat<25)) (
   (m5[(IntKind.wrap .i64 (t3+(20:Int))).toNat]?).bind fun x5=>
   br (decide (0≤t3)&&decide (t3.toNat<5)) (
   br (decide (t3.toNat<m9.length)) (
   some (.inl ((m9.set t3.toNat (fT .u64 (fT .u64 (fT .u64 (fT .u64 x x2) x3) x4) x5)),(IntKind.wrap .i64 (t3+(1:Int)))))) none) none) none) none) none) none) none) (
   some (.inr (m9,t3,decide (t3<(5:Int)))))
@[reducible] def vt (m5 m6 m7 m8:List Int) (t2:Int) (s:(List Int)×Int):St:=⟨[(1,.ptr 1000 0 0 1),(2,.ptr 1001 0 0 1),(3,.ptr 2001 0 0 1),(4,.ptr 3001 0 0 1),(5,I t2),(6,.ptr 7001 0 0 1),(7,I s.2)],[(1000,⟨25,true,[ar .u64 m5]⟩),(1001,⟨25,true,[ar .u64 m6]⟩),(2001,⟨24,true,[ar .u64 m7]⟩),(3001,⟨25,true,[ar .u64 m8]⟩),(7001,⟨5,true,[ar .u64 s.1]⟩)]⟩
@[reducible] def v5 (m5 m6 m7 m8:List Int) (t2:Int):((List Int)×Int×Bool)→ai×St:=fun e=>(.exit 2,⟨[(1,.ptr 1000 0 0 1),(2,.ptr 1001 0 0 1),(3,.ptr 2001 0 0 1),(4,.ptr 3001 0 0 1),(5,I t2),(6,.ptr 7001 0 0 1),(7,I e.2.1),(22,B e.2.2)],[(1000,⟨25,true,[ar .u64 m5]⟩),(1001,⟨25,true,[ar .u64 m6]⟩),(2001,⟨24,true,[ar .u64 m7]⟩),(3001,⟨25,true,[ar .u64 m8]⟩),(7001,⟨5,true,[ar .u64 e.1]⟩)]⟩)
theorem GA {m5 m6 m7 m8 t2 s e} (h:Loop (f6 m5 m6 m7 m8 t2) s=some e):aD tab ow (.close []) n6 (vt m5 m6 m7 m8 t2 s)=some (v5 m5 m6 m7 m8 t2 e):=by
 refine lrG (fun s o h=> ?_) h
 obtain ⟨_,_⟩:=s
 simp only [f6] at h
 simp+decide only [vt,v5,n6,go_sem,reduceIte,Nat.reduceAdd]
 all_goals exact go
noncomputable def fe (m11 m12 m13 m14:List Int) (t4:Int):(List Int)×Int→Option (((List Int)×Int)⊕(((List Int)×Int×Bool)))
 | (m10,t5)=>
   br (decide (t5<(25:Int))) (
   br (decide (0≤t5)&&decide (t5.toNat<25)) (
   (m10[t5.toNat]?).bind fun x6=>
   br (decide (0≤((IntKind.wrap .i64 (t5+(4:Int))).tmod (5:Int)))&&decide (((IntKind.wrap .i64 (t5+(4:Int))).tmod (5:Int)).toNat<5)) (
   (m14[((IntKind.wrap .i64 (t5+(4:Int))).tmod (5:Int)).toNat]?).bind fun x7=>
   br (decide (0≤((IntKind.wrap .i64 (t5+(1:Int))).tmod (5:Int)))&&decide (((IntKind.wrap .i64 (t5+(1:Int))).tmod (5:Int)).toNat<5)) (
   (m14[((IntKind.wrap .i64 (t5+(1:Int))).tmod (5:Int)).toNat]?).bind fun x8=>
   (rg x8 (1:Int)).bind fun r_3=>
   br (decide (0≤t5)&&decide (t5.toNat<25)) (
   br (decide (t5.toNat<m10.length)) (
   some (.inl ((m10.set t5.toNat (fT .u64 x6 (fT .u64 x7 r_3))),(IntKind.wrap .i64 (t5+(1:Int)))))) none) none) none) none) none) (
   some (.inr (m10,t5,decide (t5<(25:Int)))))
@[reducible] def vh (m11 m12 m13 m14:List Int) (t4:Int) (s:(List Int)×Int):St:=⟨[(1,.ptr 1000 0 0 1),(2,.ptr 1001 0 0 1),(3,.ptr 2001 0 0 1),(4,.ptr 3001 0 0 1),(5,I t4),(6,.ptr 7001 0 0 1),(8,I s.2)],[(1000,⟨25,true,[ar .u64 s.1]⟩),(1001,⟨25,true,[ar .u64 m11]⟩),(2001,⟨24,true,[ar .u64 m12]⟩),(3001,⟨25,true,[ar .u64 m13]⟩),(7001,⟨5,true,[ar .u64 m14]⟩)]⟩
@[reducible] def vA (m11 m12 m13 m14:List Int) (t4:Int):((List Int)×Int×Bool)→ai×St:=fun e=>(.exit 4,⟨[(1,.ptr 1000 0 0 1),(2,.ptr 1001 0 0 1),(3,.ptr 2001 0 0 1),(4,.ptr 3001 0 0 1),(5,I t4),(6,.ptr 7001 0 0 1),(8,I e.2.1),(51,B e.2.2)],[(1000,⟨25,true,[ar .u64 e.1]⟩),(1001,⟨25,true,[ar .u64 m11]⟩),(2001,⟨24,true,[ar .u64 m12]⟩),(3001,⟨25,true,[ar .u64 m13]⟩),(7001,⟨5,true,[ar .u64 m14]⟩)]⟩)
theorem FG {m11 m12 m13 m14 t4 s e} (h:Loop (fe m11 m12 m13 m14 t4) s=some e):aD tab ow (.close [15013]) mi (vh m11 m12 m13 m14 t4 s)=some (vA m11 m12 m13 m14 t4 e):=by
 refine lrG (fun s o h=> ?_) h
 obtain ⟨_,_⟩:=s
 simp only [fe] at h
 simp+decide only [vh,vA,mi,go_sem,reduceIte,Nat.reduceAdd]
 have d1:= @GR
 all_goals exact go
noncomputable def fb (m21 m22 m23 m24 m25:List Int) (t8 t9:Int):(List Int)×Int→Option (((List Int)×Int)⊕(((List Int)×Int×Bool)))
 | (m26,t10)=>
   br (decide (t10<(5:Int))) (
   br (decide (0≤(IntKind.wrap .i64 (t9+(IntKind.wrap .i64 ((5:Int)*t10)))))&&decide ((IntKind.wrap .i64 (t9+(IntKind.wrap .i64 ((5:Int)*t10)))).toNat<25)) (
   (m21[(IntKind.wrap .i64 (t9+(IntKind.wrap .i64 ((5:Int)*t10)))).toNat]?).bind fun x9=>
   br (decide (0≤(IntKind.wrap .i64 (t9+(IntKind.wrap .i64 ((5:Int)*t10)))))&&decide ((IntKind.wrap .i64 (t9+(IntKind.wrap .i64 ((5:Int)*t10)))).toNat<25)) (
   (m24[(IntKind.wrap .i64 (t9+(IntKind.wrap .i64 ((5:Int)*t10)))).toNat]?).bind fun x10=>
   (rg x9 x10).bind fun r_4=>
   br (decide (0≤(IntKind.wrap .i64 (t10+(IntKind.wrap .i64 ((5:Int)*((IntKind.wrap .i64 ((IntKind.wrap .i64 ((2:Int)*t9))+(IntKind.wrap .i64 ((3:Int)*t10)))).tmod (5:Int)))))))&&decide ((IntKind.wrap .i64 (t10+(IntKind.wrap .i64 ((5:Int)*((IntKind.wrap .i64 ((IntKind.wrap .i64 ((2:Int)*t9))+(IntKind.wrap .i64 ((3:Int)*t10)))).tmod (5:Int)))))).toNat<25)) (
   br (decide ((IntKind.wrap .i64 (t10+(IntKind.wrap .i64 ((5:Int)*((IntKind.wrap .i64 ((IntKind.wrap .i64 ((2:Int)*t9))+(IntKind.wrap .i64 ((3:Int)*t10)))).tmod (5:Int)))))).toNat<m26.length)) (
   some (.inl ((m26.set ((IntKind.wrap .i64 (t10+(IntKind.wrap .i64 ((5:Int)*((IntKind.wrap .i64 ((IntKind.wrap .i64 ((2:Int)*t9))+(IntKind.wrap .i64 ((3:Int)*t10)))).tmod (5:Int)))))).toNat) r_4),(IntKind.wrap .i64 (t10+(1:Int)))))) none) none) none) none) (
   some (.inr (m26,t10,decide (t10<(5:Int)))))
@[reducible] def vk (m21 m22 m23 m24 m25:List Int) (t8 t9:Int) (s:(List Int)×Int):St:=⟨[(1,.ptr 1000 0 0 1),(2,.ptr 1001 0 0 1),(3,.ptr 2001 0 0 1),(4,.ptr 3001 0 0 1),(5,I t8),(9,.ptr 16001 0 0 1),(10,I t9),(11,I s.2)],[(1000,⟨25,true,[ar .u64 m21]⟩),(1001,⟨25,true,[ar .u64 m22]⟩),(2001,⟨24,true,[ar .u64 m23]⟩),(3001,⟨25,true,[ar .u64 m24]⟩),(7001,⟨5,true,[ar .u64 m25]⟩),(16001,⟨25,true,[ar .u64 s.1]⟩)]⟩
@[reducible] def vG (m21 m22 m23 m24 m25:List Int) (t8 t9:Int):((List Int)×Int×Bool)→ai×St:=fun e=>(.exit 8,⟨[(1,.ptr 1000 0 0 1),(2,.ptr 1001 0 0 1),(3,.ptr 2001 0 0 1),(4,.ptr 3001 0 0 1),(5,I t8),(9,.ptr 16001 0 0 1),(10,I t9),(11,I e.2.1),(77,B e.2.2)],[(1000,⟨25,true,[ar .u64 m21]⟩),(1001,⟨25,true,[ar .u64 m22]⟩),(2001,⟨24,true,[ar .u64 m23]⟩),(3001,⟨25,true,[ar .u64 m24]⟩),(7001,⟨5,true,[ar .u64 m25]⟩),(16001,⟨25,true,[ar .u64 e.1]⟩)]⟩)
theorem Gj {m21 m22 m23 m24 m25 t8 t9 s e} (h:Loop (fb m21 m22 m23 m24 m25 t8 t9) s=some e):aD tab ow (.close [23021]) mh (vk m21 m22 m23 m24 m25 t8 t9 s)=some (vG m21 m22 m23 m24 m25 t8 t9 e):=by
 refine lrG (fun s o h=> ?_) h
 obtain ⟨_,_⟩:=s
 simp only [fb] at h
 simp+decide only [vk,vG,mh,go_sem,reduceIte,Nat.reduceAdd]
 have d1:= @GR
 all_goals exact go
noncomputable def f8 (m15 m16 m17 m18 m19:List Int) (t6:Int):(List Int)×Int→Option (((List Int)×Int)⊕(((List Int)×Int×Bool)))
 | (m20,t7)=>
   br (decide (t7<(5:Int))) (
   (Loop (fb m15 m16 m17 m18 m19 t6 t7) (m20,(0:Int))).bind fun e_3=>
   some (.inl (e_3.1,(IntKind.wrap .i64 (t7+(1:Int)))))) (
   some (.inr (m20,t7,decide (t7<(5:Int)))))
@[reducible] def vP (m15 m16 m17 m18 m19:List Int) (t6:Int) (s:(List Int)×Int):St:=⟨[(1,.ptr 1000 0 0 1),(2,.ptr 1001 0 0 1),(3,.ptr 2001 0 0 1),(4,.ptr 3001 0 0 1),(5,I t6),(9,.ptr 16001 0 0 1),(10,I s.2)],[(1000,⟨25,true,[ar .u64 m15]⟩),(1001,⟨25,true,[ar .u64 m16]⟩),(2001,⟨24,true,[ar .u64 m17]⟩),(3001,⟨25,true,[ar .u64 m18]⟩),(7001,⟨5,true,[ar .u64 m19]⟩),(16001,⟨25,true,[ar .u64 s.1]⟩)]⟩
@[reducible] def v8 (m15 m16 m17 m18 m19:List Int) (t6:Int):((List Int)×Int×Bool)→ai×St:=fun e=>(.exit 6,⟨[(1,.ptr 1000 0 0 1),(2,.ptr 1001 0 0 1),(3,.ptr 2001 0 0 1),(4,.ptr 3001 0 0 1),(5,I t6),(9,.ptr 16001 0 0 1),(10,I e.2.1),(73,B e.2.2)],[(1000,⟨25,true,[ar .u64 m15]⟩),(1001,⟨25,true,[ar .u64 m16]⟩),(2001,⟨24,true,[ar .u64 m17]⟩),(3001,⟨25,true,[ar .u64 m18]⟩),(7001,⟨5,true,[ar .u64 m19]⟩),(16001,⟨25,true,[ar .u64 e.1]⟩)]⟩)
theorem G8 {m15 m16 m17 m18 m19 t6 s e} (h:Loop (f8 m15 m16 m17 m18 m19 t6) s=some e):aD tab ow (.close [23021]) mC (vP m15 m16 m17 m18 m19 t6 s)=some (v8 m15 m16 m17 m18 m19 t6 e):=by
 refine lrG (fun s o h=> ?_) h
 obtain ⟨_,_⟩:=s
 simp only [f8] at h
 simp+decide only [vP,v8,mC,go_sem,reduceIte,Nat.reduceAdd]
 have d1:= @Gj
 all_goals exact go
noncomputable def eZ (m34 m35 m36 m37 m38:List Int) (t13 t14:Int):(List Int)×Int→Option (((List Int)×Int)⊕(((List Int)×Int×Bool)))
 | (m33,t15)=>
   br (decide (t15<(5:Int))) (
   br (decide (0≤(IntKind.wrap .i64 (t14+(IntKind.wrap .i64 ((5:Int)*t15)))))&&decide ((IntKind.wrap .i64 (t14+(IntKind.wrap .i64 ((5:Int)*t15)))).toNat<25)) (
   (m38[(IntKind.wrap .i64 (t14+(IntKind.wrap .i64 ((5:Int)*t15)))).toNat]?).bind fun x11=>
   br (decide (0≤(IntKind.wrap .i64 (((IntKind.wrap .i64 (t14+(1:Int))).tmod (5:Int))+(IntKind.wrap .i64 ((5:Int)*t15)))))&&decide ((IntKind.wrap .i64 (((IntKind.wrap .i64 (t14+(1:Int))).tmod (5:Int))+(IntKind.wrap .i64 ((5:Int)*t15)))).toNat<25)) (
   (m38[(IntKind.wrap .i64 (((IntKind.wrap .i64 (t14+(1:Int))).tmod (5:Int))+(IntKind.wrap .i64 ((5:Int)*t15)))).toNat]?).bind fun x12=>
   br (decide (0≤(IntKind.wrap .i64 (((IntKind.wrap .i64 (t14+(2:Int))).tmod (5:Int))+(IntKind.wrap .i64 ((5:Int)*t15)))))&&decide ((IntKind.wrap .i64 (((IntKind.wrap .i64 (t14+(2:Int))).tmod (5:Int))+(IntKind.wrap .i64 ((5:Int)*t15)))).toNat<25)) (
   (m38[(IntKind.wrap .i64 (((IntKind.wrap .i64 (t14+(2:Int))).tmod (5:Int))+(IntKind.wrap .i64 ((5:Int)*t15)))).toNat]?).bind fun x13=>
   br (decide (0≤(IntKind.wrap .i64 (t14+(IntKind.wrap .i64 ((5:Int)*t15)))))&&decide ((IntKind.wrap .i64 (t14+(IntKind.wrap .i64 ((5:Int)*t15)))).toNat<25)) (
   br (decide ((IntKind.wrap .i64 (t14+(IntKind.wrap .i64 ((5:Int)*t15)))).toNat<m33.length)) (
   some (.inl ((m33.set ((IntKind.wrap .i64 (t14+(IntKind.wrap .i64 ((5:Int)*t15)))).toNat) (fT .u64 x11 (bk .u64 (bO .u64 x12) x13))),(IntKind.wrap .i64 (t15+(1:Int)))))) none) none) none) none) none) (
   some (.inr (m33,t15,decide (t15<(5:Int)))))
@[reducible] def vS (m34 m35 m36 m37 m38:List Int) (t13 t14:Int) (s:(List Int)×Int):St:=⟨[(1,.ptr 1000 0 0 1),(2,.ptr 1001 0 0 1),(3,.ptr 2001 0 0 1),(4,.ptr 3001 0 0 1),(5,I t13),(9,.ptr 16001 0 0 1),(12,I t14),(13,I s.2)],[(1000,⟨25,true,[ar .u64 s.1]⟩),(1001,⟨25,true,[ar .u64 m34]⟩),(2001,⟨24,true,[ar .u64 m35]⟩),(3001,⟨25,true,[ar .u64 m36]⟩),(7001,⟨5,true,[ar .u64 m37]⟩),(16001,⟨25,true,[ar .u64 m38]⟩)]⟩
@[reducible] def vF (m34 m35 m36 m37 m38:List Int) (t13 t14:Int):((List Int)×Int×Bool)→ai×St:=fun e=>(.exit 12,⟨[(1,.ptr 1000 0 0 1),(2,.ptr 1001 0 0 1),(3,.ptr 2001 0 0 1),(4,.ptr 3001 0 0 1),(5,I t13),(9,.ptr 16001 0 0 1),(12,I t14),(13,I e.2.1),(108,B e.2.2)],[(1000,⟨25,true,[ar .u64 e.1]⟩),(1001,⟨25,true,[ar .u64 m34]⟩),(2001,⟨24,true,[ar .u64 m35]⟩),(3001,⟨25,true,[ar .u64 m36]⟩),(7001,⟨5,true,[ar .u64 m37]⟩),(16001,⟨25,true,[ar .u64 m38]⟩)]⟩)
theorem GD {m34 m35 m36 m37 m38 t13 t14 s e} (h:Loop (eZ m34 m35 m36 m37 m38 t13 t14) s=some e):aD tab ow (.close []) ma (vS m34 m35 m36 m37 m38 t13 t14 s)=some (vF m34 m35 m36 m37 m38 t13 t14 e):=by
 refine lrG (fun s o h=> ?_) h
 obtain ⟨_,_⟩:=s
 simp only [eZ] at h
 simp+decide only [vS,vF,ma,go_sem,reduceIte,Nat.reduceAdd]
 all_goals exact go
noncomputable def f4 (m28 m29 m30 m31 m32:List Int) (t11:Int):(List Int)×Int→Option (((List Int)×Int)⊕(((List Int)×Int×Bool)))
 | (m27,t12)=>
   br (decide (t12<(5:Int))) (
   (Loop (eZ m28 m29 m30 m31 m32 t11 t12) (m27,(0:Int))).bind fun e_5=>
   some (.inl (e_5.1,(IntKind.wrap .i64 (t12+(1:Int)))))) (
   some (.inr (m27,t12,decide (t12<(5:Int)))))
@[reducible] def vZ (m28 m29 m30 m31 m32:List Int) (t11:Int) (s:(List Int)×Int):St:=⟨[(1,.ptr 1000 0 0 1),(2,.ptr 1001 0 0 1),(3,.ptr 2001 0 0 1),(4,.ptr 3001 0 0 1),(5,I t11),(9,.ptr 16001 0 0 1),(12,I s.2)],[(1000,⟨25,true,[ar .u64 s.1]⟩),(1001,⟨25,true,[ar .u64 m28]⟩),(2001,⟨24,true,[ar .u64 m29]⟩),(3001,⟨25,true,[ar .u64 m30]⟩),(7001,⟨5,true,[ar .u64 m31]⟩),(16001,⟨25,true,[ar .u64 m32]⟩)]⟩
@[reducible] def ve (m28 m29 m30 m31 m32:List Int) (t11:Int):((List Int)×Int×Bool)→ai×St:=fun e=>(.exit 10,⟨[(1,.ptr 1000 0 0 1),(2,.ptr 1001 0 0 1),(3,.ptr 2001 0 0 1),(4,.ptr 3001 0 0 1),(5,I t11),(9,.ptr 16001 0 0 1),(12,I e.2.1),(104,B e.2.2)],[(1000,⟨25,true,[ar .u64 e.1]⟩),(1001,⟨25,true,[ar .u64 m28]⟩),(2001,⟨24,true,[ar .u64 m29]⟩),(3001,⟨25,true,[ar .u64 m30]⟩),(7001,⟨5,true,[ar .u64 m31]⟩),(16001,⟨25,true,[ar .u64 m32]⟩)]⟩)
theorem GF {m28 m29 m30 m31 m32 t11 s e} (h:Loop (f4 m28 m29 m30 m31 m32 t11) s=some e):aD tab ow (.close []) mc (vZ m28 m29 m30 m31 m32 t11 s)=some (ve m28 m29 m30 m31 m32 t11 e):=by
 refine lrG (fun s o h=> ?_) h
 obtain ⟨_,_⟩:=s
 simp only [f4] at h
 simp+decide only [vZ,ve,mc,go_sem,reduceIte,Nat.reduceAdd]
 have d1:= @GD
 all_goals exact go
noncomputable def f9 (m2 m3 m4:List Int):(List Int)×Int→Option (((List Int)×Int)⊕(((List Int)×Int×Bool)))
 | (m,t)=>
   br (decide (t<(24:Int))) (
   (Loop (f6 m m2 m3 m4 t) ((nZ 5),(0:Int))).bind fun e_=>
   (Loop (fe m2 m3 m4 e_.1 t) (m,(0:Int))).bind fun e_2=>
   (Loop (f8 e_2.1 m2 m3 m4 e_.1 t) ((nZ 25),(0:Int))).bind fun e_4=>
   (Loop (f4 m2 m3 m4 e_.1 e_4.1 t) (e_2.1,(0:Int))).bind fun e_6=>
   (e_6.1[0]?).bind fun x14=>
   br (decide (0≤t)&&decide (t.toNat<24)) (
   (m3[t.toNat]?).bind fun x15=>
   br (decide (0<e_6.1.length)) (
   some (.inl ((e_6.1.set 0 (fT .u64 x14 x15)),(IntKind.wrap .i64 (t+(1:Int)))))) none) none) (
   some (.inr (m,t,decide (t<(24:Int)))))
@[reducible] def w8 (m2 m3 m4:List Int) (s:(List Int)×Int):St:=⟨[(1,.ptr 1000 0 0 1),(2,.ptr 1001 0 0 1),(3,.ptr 2001 0 0 1),(4,.ptr 3001 0 0 1),(5,I s.2)],[(1000,⟨25,true,[ar .u64 s.1]⟩),(1001,⟨25,true,[ar .u64 m2]⟩),(2001,⟨24,true,[ar .u64 m3]⟩),(3001,⟨25,true,[ar .u64 m4]⟩)]⟩
@[reducible] def v4 (m2 m3 m4:List Int):((List Int)×Int×Bool)→ai×St:=fun e=>(.exit 0,⟨[(1,.ptr 1000 0 0 1),(2,.ptr 1001 0 0 1),(3,.ptr 2001 0 0 1),(4,.ptr 3001 0 0 1),(5,I e.2.1),(17,B e.2.2)],[(1000,⟨25,true,[ar .u64 e.1]⟩),(1001,⟨25,true,[ar .u64 m2]⟩),(2001,⟨24,true,[ar .u64 m3]⟩),(3001,⟨25,true,[ar .u64 m4]⟩)]⟩)
theorem Fy {m2 m3 m4 s e} (h:Loop (f9 m2 m3 m4) s=some e):aD tab ow (.close [7001,15013,16001,23021]) n8 (w8 m2 m3 m4 s)=some (v4 m2 m3 m4 e):=by
 refine lrG (fun s o h=> ?_) h
 obtain ⟨_,_⟩:=s
 simp only [f9] at h
 simp+decide only [w8,v4,n8,go_sem,reduceIte,Nat.reduceAdd]
 have d1:= @GA
 have d2:= @FG
 have d3:= @G8
 have d4:= @GF
 all_goals exact go
noncomputable def lV (ListtoArray:(List Int)):Option ((List Int)):=
 br (decide (ListtoArray.length=25)) (
 (yP).bind fun r_=>
 br (decide (r_.length=24)) (
 (zP).bind fun r_2=>
 br (decide (r_2.length=25)) (
 (Loop (f9 (nZ 25) r_ r_2) (ListtoArray,(0:Int))).bind fun e_7=>
 br (decide (e_7.1.length=25)) (
 br (decide (e_7.1.length=25)) (
 br (decide (e_7.1.length=25)) (
 some e_7.1) none) none) none) none) none) none
theorem Mm {ListtoArray r} (h:lV ListtoArray=some r):Call tab ow 305 [.agg (ar .u64 ListtoArray)] []=some (.agg (ar .u64 r),[]):=by
 rw [ab (af:=mp) rfl]
 unfold lV at h
 simp+decide only [mp,zt,go_sem,reduceIte,Nat.reduceAdd]
 have d1:= @Nc
 have d2:= @Nq
 have d3:= @Fy
 all_goals exact go
section
noncomputable def iO (m:List Int) (n2:Int):(List UInt8)×Int→Option (((List UInt8)×Int)⊕(((List UInt8)×Int×Bool)))
 | (l,i)=>
   br (decide (i<n2)) (
   br (decide (0≤(IntKind.wrap .i64 (i.tdiv (8:Int))))&&decide ((IntKind.wrap .i64 (i.tdiv (8:Int))).toNat<25)) (
   (m[(IntKind.wrap .i64 (i.tdiv (8:Int))).toNat]?).bind fun x=>
   br (decide (0≤(IntKind.wrap .u64 (IntKind.wrap .i64 ((8:Int)*(i.tmod (8:Int))))))) (
   br (aZ ((l++([(UInt8.ofInt (aL .u64 x (IntKind.wrap .u64 (IntKind.wrap .i64 ((8:Int)*(i.tmod (8:Int)))))))]:List UInt8)).length) 1) (
   some (.inl ((l++([(UInt8.ofInt (aL .u64 x (IntKind.wrap .u64 (IntKind.wrap .i64 ((8:Int)*(i.tmod (8:Int)))))))]:List UInt8)),(IntKind.wrap .i64 (i+(1:Int)))))) none) none) none) (
   some (.inr (l,i,decide (i<n2))))
@[reducible] def Bs (m:List Int) (n2:Int) (s:(List UInt8)×Int):St:=⟨[(1,I n2),(2,.ptr 1000 0 0 1),(5,.sl 2000 0 s.1.length),(6,I s.2)],[(1000,⟨25,true,[ar .u64 m]⟩),(2000,⟨1,false,rws eU8 s.1⟩)]⟩
@[reducible] def C4 (m:List Int) (n2:Int):((List UInt8)×Int×Bool)→ai×St:=fun e=>(.exit 0,⟨[(1,I n2),(2,.ptr 1000 0 0 1),(5,.sl 2000 0 e.1.length),(6,I e.2.1),(10,B e.2.2)],[(1000,⟨25,true,[ar .u64 m]⟩),(2000,⟨1,false,rws eU8 e.1⟩)]⟩)
theorem MX {m n2 s e} (h:Loop (iO m n2) s=some e):aD tab ow (.close [6011,6012]) uF (Bs m n2 s)=some (C4 m n2 e):=by
 refine lrG (fun s o h=> ?_) h
 obtain ⟨_,_⟩:=s
 simp only [iO] at h
 simp+decide only [Bs,C4,uF,go_sem,reduceIte,Nat.reduceAdd]
 all_goals exact go
noncomputable def va (a:(List Int)) (n:Int):Option ((List UInt8)):=
 br (decide (a.length=25)) (
 (Loop (iO a n) (([]:List UInt8),(0:Int))).bind fun e_=>
 some e_.1) none
theorem Tl {a n r} (h:va a n=some r):Call tab ow 306 [.agg (ar .u64 a),I n] []=some (S r,[]):=by
 rw [ab (af:=tQ) rfl]
 unfold va at h
 simp+decide only [tQ,H5,go_sem,reduceIte,Nat.reduceAdd]
 have d1:= @MX
 all_goals exact go
end
section
noncomputable def ge (l2:List UInt8):(List UInt8)→Option (((List UInt8))⊕(((List UInt8)×Bool)))
 |l=>
  br ((((l.length:Nat):Int).tmod (136:Int)) !=(0:Int)) (
  br (aZ ((l++([(0:UInt8)]:List UInt8)).length) 1) (
  some (.inl (l++([(0:UInt8)]:List UInt8)))) none) (
  some (.inr (l,((((l.length:Nat):Int).tmod (136:Int)) !=(0:Int)))))
@[reducible] def Cn (l2:List UInt8) (s:(List UInt8)):St:=⟨[(3,.sl 2001 0 s.length)],[(2001,⟨1,false,rws eU8 s⟩),(2002,⟨1,false,rws eU8 l2⟩)]⟩
@[reducible] def B5 (l2:List UInt8):((List UInt8)×Bool)→ai×St:=fun e=>(.exit 0,⟨[(3,.sl 2001 0 e.1.length),(15,B e.2)],[(2001,⟨1,false,rws eU8 e.1⟩),(2002,⟨1,false,rws eU8 l2⟩)]⟩)
theorem Nz {l2 s e} (h:Loop (ge l2) s=some e):aD tab ow (.close [4001,4002]) uS (Cn l2 s)=some (B5 l2 e):=by
 refine lrG (fun s o h=> ?_) h
 simp only [ge] at h
 simp+decide only [Cn,B5,uS,go_sem,reduceIte,Nat.reduceAdd]
 all_goals exact go
noncomputable def iI (l4:List UInt8) (m4:List Int) (m5:List UInt8) (at_2:Int):(List Int)×Int→Option (((List Int)×Int)⊕(((List Int)×Int×Bool)))
 | (m3,i)=>
   br (decide (i<(25:Int))) (
   br (decide (0≤i)&&decide (i.toNat<25)) (
   (m3[i.toNat]?).bind fun x3=>
   br (decide (0≤i)&&decide (i.toNat<25)) (
   (m4[i.toNat]?).bind fun x4=>
   br (decide (0≤i)&&decide (i.toNat<25)) (
   br (decide (i.toNat<m3.length)) (
   some (.inl ((m3.set i.toNat (fT .u64 x3 x4)),(IntKind.wrap .i64 (i+(1:Int)))))) none) none) none) none) (
   some (.inr (m3,i,decide (i<(25:Int)))))
@[reducible] def BZ (l4:List UInt8) (m4:List Int) (m5:List UInt8) (at_2:Int) (s:(List Int)×Int):St:=⟨[(3,sl eU8 m5),(4,.ptr 6001 0 0 1),(5,I at_2),(6,.ptr 10007 0 0 1),(7,I s.2)],[(2002,⟨1,false,rws eU8 l4⟩),(6001,⟨25,true,[ar .u64 s.1]⟩),(10007,⟨25,true,[ar .u64 m4]⟩)]⟩
@[reducible] def BB (l4:List UInt8) (m4:List Int) (m5:List UInt8) (at_2:Int):((List Int)×Int×Bool)→ai×St:=fun e=>(.exit 4,⟨[(3,sl eU8 m5),(4,.ptr 6001 0 0 1),(5,I at_2),(6,.ptr 10007 0 0 1),(7,I e.2.1),(42,B e.2.2)],[(2002,⟨1,false,rws eU8 l4⟩),(6001,⟨25,true,[ar .u64 e.1]⟩),(10007,⟨25,true,[ar .u64 m4]⟩)]⟩)
theorem NH {l4 m4 m5 at_2 s e} (h:Loop (iI l4 m4 m5 at_2) s=some e):aD tab ow (.close []) rE (BZ l4 m4 m5 at_2 s)=some (BB l4 m4 m5 at_2 e):=by
 refine lrG (fun s o h=> ?_) h
 obtain ⟨_,_⟩:=s
 simp only [iI] at h
 simp+decide only [BZ,BB,rE,go_sem,reduceIte,Nat.reduceAdd]
 all_goals exact go
noncomputable def iN (l3 m2:List UInt8):(List Int)×Int→Option (((List Int)×Int)⊕(((List Int)×Int×Bool)))
 | (m,at_)=>
   br (decide (at_<((m2.length:Nat):Int))) (
   (sK m2 at_ (IntKind.wrap .i64 (at_+(136:Int)))).bind fun y=>
   (sg y).bind fun r_=>
   br (decide (r_.length=25)) (
   (Loop (iI l3 r_ m2 at_) (m,(0:Int))).bind fun e_2=>
   br (decide (e_2.1.length=25)) (
   (lV e_2.1).bind fun r_2=>
   br (decide (r_2.length=25)&&decide (e_2.1.length=25)) (
   some (.inl (r_2,(IntKind.wrap .i64 (at_+(136:Int)))))) none) none) none) (
   some (.inr (m,at_,decide (at_<((m2.length:Nat):Int)))))
@[reducible] def uK (l3 m2:List UInt8) (s:(List Int)×Int):St:=⟨[(3,sl eU8 m2),(4,.ptr 6001 0 0 1),(5,I s.2)],[(2002,⟨1,false,rws eU8 l3⟩),(6001,⟨25,true,[ar .u64 s.1]⟩)]⟩
@[reducible] def BW (l3 m2:List UInt8):((List Int)×Int×Bool)→ai×St:=fun e=>(.exit 2,⟨[(3,sl eU8 m2),(4,.ptr 6001 0 0 1),(5,I e.2.1),(31,B e.2.2)],[(2002,⟨1,false,rws eU8 l3⟩),(6001,⟨25,true,[ar .u64 e.1]⟩)]⟩)
theorem Nh {l3 m2 s e} (h:Loop (iN l3 m2) s=some e):aD tab ow (.close [10006,10007,15001,2001]) uX (uK l3 m2 s)=some (BW l3 m2 e):=by
 refine lrG (fun s o h=> ?_) h
 obtain ⟨_,_⟩:=s
 simp only [iN] at h
 simp+decide only [uK,BW,uX,go_sem,reduceIte,Nat.reduceAdd]
 have d1:= @PX
 have d2:= @NH
 have d3:= @Mm
 all_goals exact go
noncomputable def fL (b:(List UInt8)):Option ((List UInt8)):=
 br (aZ b.length 1) (
 br (aZ ((b++([(1:UInt8)]:List UInt8)).length) 1) (
 (Loop (ge ([(1:UInt8)]:List UInt8)) (b++([(1:UInt8)]:List UInt8))).bind fun e_=>
 br (decide (0≤(IntKind.wrap .i64 (((e_.1.length:Nat):Int)-(1:Int))))) (
 br (decide ((IntKind.wrap .i64 (((e_.1.length:Nat):Int)-(1:Int))).toNat<e_.1.length)) (
 (e_.1[(IntKind.wrap .i64 (((e_.1.length:Nat):Int)-(1:Int))).toNat]?).bind fun x=>
 br (decide (0≤(IntKind.wrap .i64 (((e_.1.length:Nat):Int)-(1:Int))))) (
 br (decide ((IntKind.wrap .i64 (((e_.1.length:Nat):Int)-(1:Int))).toNat<e_.1.length)) (
 (e_.1[(IntKind.wrap .i64 (((e_.1.length:Nat):Int)-(1:Int))).toNat]?).bind fun x2=>
 (Loop (iN ([(1:UInt8)]:List UInt8) (e_.1.set ((IntKind.wrap .i64 (((e_.1.length:Nat):Int)-(1:Int))).toNat) (UInt8.ofInt (uq .u8 (x.toNat:Int) (128:Int))))) ((nZ 25),(0:Int))).bind fun e_3=>
 br (decide (e_3.1.length=25)) (
 (va e_3.1 (32:Int)).bind fun r_3=>
 some r_3) none) none) none) none) none) none) none
theorem jy {b r} (h:fL b=some r):Call tab ow 210 [S b] []=some (S r,[]):=by
 rw [ab (af:=tY) rfl]
 unfold fL at h
 simp+decide only [tY,HU,go_sem,reduceIte,Nat.reduceAdd]
 have d1:= @Nz
 have d2:= @Nh
 simp only [uK] at d2
 have d3:= @Tl
 all_goals exact go
end
noncomputable def yL (label:(List UInt8)) (list:(List Ext)):Option (Source):=
 br (aZ ((([115,111,117,114,99,101]:List UInt8)).length+label.length) 1) (
 (fL ((([115,111,117,114,99,101]:List UInt8))++label)).bind fun r_=>
 some (Source.mk list (0:Int) r_ (0:Int))) none
theorem VH {label list r} (h:yL label list=some r):Call tab ow 145 [S label,sl ae list] []=some (.agg [sl ae r.Script,I r.At,S r.State,I r.Count],[]):=by
 rw [ab (af:=xk) rfl]
 unfold yL at h
 simp+decide only [xk,KD,go_sem,reduceIte,Nat.reduceAdd]
 have d1:= @jy
 all_goals exact go
section
noncomputable def oV (n2:Int):(List UInt8)×Int→Option (((List UInt8)×Int)⊕(((List UInt8)×Int×Bool)))
 | (l,i)=>
   br (decide (i≥(0:Int))) (
   br (decide (0≤(IntKind.wrap .u64 (IntKind.wrap .i64 ((8:Int)*i))))) (
   br (aZ ((l++([(UInt8.ofInt (aL .i64 n2 (IntKind.wrap .u64 (IntKind.wrap .i64 ((8:Int)*i)))))]:List UInt8)).length) 1) (
   some (.inl ((l++([(UInt8.ofInt (aL .i64 n2 (IntKind.wrap .u64 (IntKind.wrap .i64 ((8:Int)*i)))))]:List UInt8)),(IntKind.wrap .i64 (i-(1:Int)))))) none) none) (
   some (.inr (l,i,decide (i≥(0:Int)))))
@[reducible] def yj (n2:Int) (s:(List UInt8)×Int):St:=⟨[(0,I n2),(5,.sl 2000 0 s.1.length),(6,I s.2)],[(2000,⟨1,false,rws eU8 s.1⟩)]⟩
@[reducible] def xE (n2:Int):((List UInt8)×Int×Bool)→ai×St:=fun e=>(.exit 0,⟨[(0,I n2),(5,.sl 2000 0 e.1.length),(6,I e.2.1),(11,B e.2.2)],[(2000,⟨1,false,rws eU8 e.1⟩)]⟩)
theorem IU {n2 s e} (h:Loop (oV n2) s=some e):aD tab ow (.close [6007,6008]) oS (yj n2 s)=some (xE n2 e):=by
 refine lrG (fun s o h=> ?_) h
 obtain ⟨_,_⟩:=s
 simp only [oV] at h
 simp+decide only [yj,xE,oS,go_sem,reduceIte,Nat.reduceAdd]
 all_goals exact go
noncomputable def dR (n size:Int):Option ((List UInt8)):=
 (Loop (oV n) (([]:List UInt8),(IntKind.wrap .i64 (size-(1:Int))))).bind fun e_=>
 some e_.1
theorem iL {n size r} (h:dR n size=some r):Call tab ow 179 [I n,I size] []=some (sl eU8 r,[]):=by
 rw [ab (af:=nR) rfl]
 unfold dR at h
 simp+decide only [nR,Co,go_sem,reduceIte,Nat.reduceAdd]
 have d1:= @IU
 all_goals exact go
end
noncomputable def dP (s:Source) (t:(List UInt8)):Option (Source):=
 br (aZ (s.State.length+(([97,98,115,111,114,98]:List UInt8)).length) 1) (
 (dR ((t.length:Nat):Int) (4:Int)).bind fun r_=>
 br (aZ ((s.State++(([97,98,115,111,114,98]:List UInt8))).length+r_.length) 1) (
 br (aZ (((s.State++(([97,98,115,111,114,98]:List UInt8)))++r_).length+t.length) 1) (
 (fL (((s.State++(([97,98,115,111,114,98]:List UInt8)))++r_)++t)).bind fun r_2=>
 some (Source.mk s.Script s.At r_2 (0:Int))) none) none) none
theorem gj {s t r} (h:dP s t=some r):Call tab ow 148 [.agg [sl ae s.Script,I s.At,S s.State,I s.Count],S t] []=some (.agg [sl ae r.Script,I r.At,S r.State,I r.Count],[]):=by
 rw [ab (af:=nO) rfl]
 unfold dP at h
 simp+decide only [nO,BI,go_sem,reduceIte,Nat.reduceAdd]
 have d1:= @iL
 have d2:= @jy
 all_goals exact go
noncomputable def gN (t2:List UInt8):Int×Int→Option ((Int×Int)⊕((Int×Int×Bool)))
 | (n,i)=>
   br (decide (i<(8:Int))) (
   (atL t2 i).bind fun c=>
   some (.inl (((IntKind.wrap .i64 ((IntKind.wrap .i64 (n*(256:Int)))+(IntKind.wrap .i64 (c.toNat:Int)))).tmod (2130706433:Int)),(IntKind.wrap .i64 (i+(1:Int)))))) (
   some (.inr (n,i,decide (i<(8:Int)))))
@[reducible] def yE (t2:List UInt8) (s:Int×Int):St:=⟨[(0,S t2),(3,I s.1),(4,I s.2)],[]⟩
@[reducible] def zT (t2:List UInt8):(Int×Int×Bool)→ai×St:=fun e=>(.exit 0,⟨[(0,S t2),(3,I e.1),(4,I e.2.1),(6,B e.2.2)],[]⟩)
theorem LB {t2 s e} (h:Loop (gN t2) s=some e):aD tab ow (.close []) rK (yE t2 s)=some (zT t2 e):=by
 refine lrG (fun s o h=> ?_) h
 obtain ⟨_,_⟩:=s
 simp only [gN] at h
 simp+decide only [yE,zT,rK,go_sem,reduceIte,Nat.reduceAdd]
 all_goals exact go
noncomputable def nb (t:(List UInt8)):Option (Int):=
 (Loop (gN t) ((0:Int),(0:Int))).bind fun e_=>
 some e_.1
theorem Rz {t r} (h:nb t=some r):Call tab ow 266 [S t] []=some (I r,[]):=by
 rw [ab (af:=qd) rfl]
 unfold nb at h
 simp+decide only [qd,F0,go_sem,reduceIte,Nat.reduceAdd]
 have d1:= @LB
 all_goals exact go
noncomputable def iK (s:Source):Option (Source×Ext):=
 br (decide (((s.Script.length:Nat):Int)>(0:Int))) (
 br (decide (((s.Script.length:Nat):Int)≠0)) (
 (atL s.Script (s.At.tmod ((s.Script.length:Nat):Int))).bind fun x=>
 some ((Source.mk s.Script (IntKind.wrap .i64 (s.At+(1:Int))) s.State s.Count),x)) none) (
 br (aZ (s.State.length+(([100,114,97,119]:List UInt8)).length) 1) (
 (dR s.Count (4:Int)).bind fun r_=>
 br (aZ ((s.State++(([100,114,97,119]:List UInt8))).length+r_.length) 1) (
 (fL ((s.State++(([100,114,97,119]:List UInt8)))++r_)).bind fun r_2=>
 (sK r_2 (0:Int) (8:Int)).bind fun y=>
 (nb y).bind fun r_3=>
 (sK r_2 (8:Int) (16:Int)).bind fun y2=>
 (nb y2).bind fun r_4=>
 some ((Source.mk s.Script s.At s.State (IntKind.wrap .i64 (s.Count+(1:Int)))),(Ext.mk r_3 r_4))) none) none)
theorem oc {s r} (h:iK s=some r):Call tab ow 149 [.agg [sl ae s.Script,I s.At,S s.State,I s.Count]] []=some (.tup [.agg [sl ae r.1.Script,I r.1.At,S r.1.State,I r.1.Count],.agg [I r.2.A,I r.2.B]],[]):=by
 rw [ab (af:=u4) rfl]
 unfold iK at h
 simp+decide only [u4,Hm,go_sem,reduceIte,Nat.reduceAdd]
 have d1:= @iL
 have d2:= @jy
 have d3:= @Rz
 all_goals exact go
section
noncomputable def o9 (s:Source):Option (Source):=
 br (aZ ((([]:List Ext)++s.Script).length) 16) (
 some (Source.mk (([]:List Ext)++s.Script) s.At s.State s.Count)) none
theorem CL {s r} (h:o9 s=some r):Call tab ow 83 [.agg [sl ae s.Script,I s.At,S s.State,I s.Count]] []=some (.agg [sl ae r.Script,I r.At,S r.State,I r.Count],[]):=by
 rw [ab (af:=xA) rfl]
 unfold o9 at h
 simp+decide only [xA,Kz,go_sem,reduceIte,Nat.reduceAdd]
 all_goals exact go
end
end Go.AI.Fn
set_option linter.unusedVariables false
set_option linter.unusedSimpArgs false
set_option maxRecDepth 100000
set_option maxHeartbeats 1000000
namespace Go.AI.Fn
section
noncomputable def dm (c4:Int) (c5:List UInt8) (c6:Int):Int×(List UInt8)×Int×Int×(List Ext)×Int×(List UInt8)×Int→Option ((Int×(List UInt8)×Int×Int×(List Ext)×Int×(List UInt8)×Int)⊕((Int×Bool×(List UInt8)×Int×Int×(List Ext)×Int×(List UInt8)×Int)))
 | (i,c,c2,c3,c7,c8,c9,c10)=>
   br (decide (i>(0:Int))) (
   (dz (2:Int) (bI.mk c c2 c3)).bind fun r_7=>
   br r_7.1 (
   (gk ([(([]:List UInt8)),(([116,101,120,116]:List UInt8))]:List (List UInt8)) r_7.2).bind fun r_8=>
   (dP (Source.mk c7 c8 c9 c10) r_8.1).bind fun r_9=>
   some (.inl ((IntKind.wrap .i64 (i-(1:Int))),r_8.2.code,r_8.2.at_,r_8.2.seed,r_9.Script,r_9.At,r_9.State,r_9.Count))) (
   (iK (Source.mk c7 c8 c9 c10)).bind fun r_10=>
   some (.inl ((IntKind.wrap .i64 (i-(1:Int))),r_7.2.code,r_7.2.at_,r_7.2.seed,r_10.1.Script,r_10.1.At,r_10.1.State,r_10.1.Count)))) (
   some (.inr (i,decide (i>(0:Int)),c,c2,c3,c7,c8,c9,c10)))
@[reducible] def p8 (c4:Int) (c5:List UInt8) (c6:Int) (s:Int×(List UInt8)×Int×Int×(List Ext)×Int×(List UInt8)×Int):St:=⟨[(0,.ptr 0 0 0 1),(2,.ptr 1000 0 0 1),(3,.ptr 2005 0 0 1),(4,I s.1)],[(0,⟨3,true,[[sl eU8 s.2.1,I s.2.2.1,I s.2.2.2.1]]⟩),(1000,⟨4,true,[[.lit (.slice none 0 0),I c4,S c5,I c6]]⟩),(2001,cu),(2003,cu),(2005,⟨4,true,[[sl ae s.2.2.2.2.1,I s.2.2.2.2.2.1,S s.2.2.2.2.2.2.1,I s.2.2.2.2.2.2.2]]⟩)]⟩
@[reducible] def pc (c4:Int) (c5:List UInt8) (c6:Int):(Int×Bool×(List UInt8)×Int×Int×(List Ext)×Int×(List UInt8)×Int)→ai×St:=fun e=>(.exit 0,⟨[(0,.ptr 0 0 0 1),(2,.ptr 1000 0 0 1),(3,.ptr 2005 0 0 1),(4,I e.1),(21,B e.2.1)],[(0,⟨3,true,[[sl eU8 e.2.2.1,I e.2.2.2.1,I e.2.2.2.2.1]]⟩),(1000,⟨4,true,[[.lit (.slice none 0 0),I c4,S c5,I c6]]⟩),(2001,cu),(2003,cu),(2005,⟨4,true,[[sl ae e.2.2.2.2.2.1,I e.2.2.2.2.2.2.1,S e.2.2.2.2.2.2.2.1,I e.2.2.2.2.2.2.2.2]]⟩)]⟩)
theorem B1 {c4 c5 c6 s e} (h:Loop (dm c4 c5 c6) s=some e):aD tab ow (.close [8001,9002,9003,9004,10001]) ez (p8 c4 c5 c6 s)=some (pc c4 c5 c6 e):=by
 refine lrG (fun s o h=> ?_) h
 obtain ⟨_,_,_,_,_,_,_,_⟩:=s
 simp only [dm] at h
 simp+decide only [p8,pc,ez,go_sem,reduceIte,Nat.reduceAdd]
 have d1:= @j9
 have d2:= @oM
 have d3:= @gj
 have d4:= @oc
 all_goals exact go
noncomputable def gz (c14:Int) (c15:List UInt8) (c16:Int):Int×(List UInt8)×Int×Int×(List Ext)×Int×(List UInt8)×Int→Option ((Int×(List UInt8)×Int×Int×(List Ext)×Int×(List UInt8)×Int)⊕((Int×Bool×(List UInt8)×Int×Int×(List Ext)×Int×(List UInt8)×Int)))
 | (i2,c11,c12,c13,c17,c18,c19,c20)=>
   br (decide (i2>(0:Int))) (
   (dz (2:Int) (bI.mk c11 c12 c13)).bind fun r_13=>
   br r_13.1 (
   (gk ([(([]:List UInt8)),(([116,101,120,116]:List UInt8))]:List (List UInt8)) r_13.2).bind fun r_14=>
   (dP (Source.mk c17 c18 c19 c20) r_14.1).bind fun r_15=>
   some (.inl ((IntKind.wrap .i64 (i2-(1:Int))),r_14.2.code,r_14.2.at_,r_14.2.seed,r_15.Script,r_15.At,r_15.State,r_15.Count))) (
   (iK (Source.mk c17 c18 c19 c20)).bind fun r_16=>
   some (.inl ((IntKind.wrap .i64 (i2-(1:Int))),r_13.2.code,r_13.2.at_,r_13.2.seed,r_16.1.Script,r_16.1.At,r_16.1.State,r_16.1.Count)))) (
   some (.inr (i2,decide (i2>(0:Int)),c11,c12,c13,c17,c18,c19,c20)))
@[reducible] def p9 (c14:Int) (c15:List UInt8) (c16:Int) (s:Int×(List UInt8)×Int×Int×(List Ext)×Int×(List UInt8)×Int):St:=⟨[(0,.ptr 0 0 0 1),(2,.ptr 1000 0 0 1),(3,.ptr 2005 0 0 1),(4,I s.1)],[(0,⟨3,true,[[sl eU8 s.2.1,I s.2.2.1,I s.2.2.2.1]]⟩),(1000,⟨4,true,[[.lit (.slice none 0 0),I c14,S c15,I c16]]⟩),(2001,cu),(2003,cu),(2005,⟨4,true,[[sl ae s.2.2.2.2.1,I s.2.2.2.2.2.1,S s.2.2.2.2.2.2.1,I s.2.2.2.2.2.2.2]]⟩)]⟩
@[reducible] def pn (c14:Int) (c15:List UInt8) (c16:Int):(Int×Bool×(List UInt8)×Int×Int×(List Ext)×Int×(List UInt8)×Int)→ai×St:=fun e=>(.exit 0,⟨[(0,.ptr 0 0 0 1),(2,.ptr 1000 0 0 1),(3,.ptr 2005 0 0 1),(4,I e.1),(21,B e.2.1)],[(0,⟨3,true,[[sl eU8 e.2.2.1,I e.2.2.2.1,I e.2.2.2.2.1]]⟩),(1000,⟨4,true,[[.lit (.slice none 0 0),I c14,S c15,I c16]]⟩),(2001,cu),(2003,cu),(2005,⟨4,true,[[sl ae e.2.2.2.2.2.1,I e.2.2.2.2.2.2.1,S e.2.2.2.2.2.2.2.1,I e.2.2.2.2.2.2.2.2]]⟩)]⟩)
theorem AV {c14 c15 c16 s e} (h:Loop (gz c14 c15 c16) s=some e):aD tab ow (.close [8001,9002,9003,9004,10001]) ez (p9 c14 c15 c16 s)=some (pn c14 c15 c16 e):=by
 refine lrG (fun s o h=> ?_) h
 obtain ⟨_,_,_,_,_,_,_,_⟩:=s
 simp only [gz] at h
 simp+decide only [p9,pn,ez,go_sem,reduceIte,Nat.reduceAdd]
 have d1:= @j9
 have d2:= @oM
 have d3:= @gj
 have d4:= @oc
 all_goals exact go
noncomputable def kR (m:bI):Option (Source×bI):=
 (gk ([(([]:List UInt8)),(([97]:List UInt8)),(([108,97,98,101,108]:List UInt8))]:List (List UInt8)) m).bind fun r_=>
 (yL r_.1 ([]:List Ext)).bind fun r_2=>
 (dz (3:Int) r_.2).bind fun r_3=>
 br r_3.1 (
 (bC (5:Int) r_3.2).bind fun r_4=>
 (iM (IntKind.wrap .i64 ((1:Int)+r_4.1)) r_4.2).bind fun r_5=>
 (bC (4:Int) r_5.2).bind fun r_6=>
 (Loop (dm (0:Int) (([]:List UInt8)) (0:Int)) (r_6.1,r_6.2.code,r_6.2.at_,r_6.2.seed,r_5.1,r_2.At,r_2.State,r_2.Count)).bind fun e_=>
 (o9 (Source.mk e_.2.2.2.2.2.1 e_.2.2.2.2.2.2.1 e_.2.2.2.2.2.2.2.1 e_.2.2.2.2.2.2.2.2)).bind fun r_11=>
 some (r_11,(bI.mk e_.2.2.1 e_.2.2.2.1 e_.2.2.2.2.1))) (
 (bC (4:Int) r_3.2).bind fun r_12=>
 (Loop (gz (0:Int) (([]:List UInt8)) (0:Int)) (r_12.1,r_12.2.code,r_12.2.at_,r_12.2.seed,r_2.Script,r_2.At,r_2.State,r_2.Count)).bind fun e_2=>
 (o9 (Source.mk e_2.2.2.2.2.2.1 e_2.2.2.2.2.2.2.1 e_2.2.2.2.2.2.2.2.1 e_2.2.2.2.2.2.2.2.2)).bind fun r_17=>
 some (r_17,(bI.mk e_2.2.2.1 e_2.2.2.2.1 e_2.2.2.2.2.1)))
theorem Dx {m r} (h:kR m=some r):Call tab ow 60 [.ptr 0 0 0 1] [⟨3,true,[[sl eU8 m.code,I m.at_,I m.seed]]⟩]=some (.agg [sl ae r.1.Script,I r.1.At,S r.1.State,I r.1.Count],[⟨3,true,[[sl eU8 r.2.code,I r.2.at_,I r.2.seed]]⟩]):=by
 rw [ab (af:=j8) rfl]
 unfold kR at h
 simp+decide only [j8,tE,go_sem,reduceIte,Nat.reduceAdd]
 have d1:= @oM
 have d2:= @VH
 have d3:= @j9
 have d4:= @fM
 have d5:= @yA
 have d6:= @B1
 have d7:= @CL
 have d8:= @AV
 all_goals exact go
end
noncomputable def so (code:(List UInt8)):Option (Source):=
 (lK code).bind fun r_=>
 (kR r_).bind fun r_2=>
 some r_2.1
theorem QF {code r} (h:so code=some r):Call tab ow 12 [sl eU8 code] []=some (.agg [sl ae r.Script,I r.At,S r.State,I r.Count],[]):=by
 rw [ab (af:=qh) rfl]
 unfold so at h
 simp+decide only [qh,Fa,go_sem,reduceIte,Nat.reduceAdd]
 have d1:= @ur
 have d2:= @Dx
 all_goals exact go
noncomputable def we (n low high:Int):Option (Bool):=
 br (decide (low≤n)) (
 some (decide (n≤high))) (
 some false)
theorem zi {n low high r} (h:we n low high=some r):Call tab ow 62 [I n,I low,I high] []=some (B r,[]):=by
 rw [ab (af:=QP) rfl]
 unfold we at h
 simp+decide only [QP,ZW,go_sem,reduceIte,Nat.reduceAdd]
 all_goals exact go
noncomputable def vN (n most:Int):Option (Bool):=
 (we n (1:Int) most).bind fun r_=>
 br r_ (
 some ((bk .i64 n (IntKind.wrap .i64 (n-(1:Int))))==(0:Int))) (
 some false)
theorem Sy {n most r} (h:vN n most=some r):Call tab ow 150 [I n,I most] []=some (B r,[]):=by
 rw [ab (af:=tr) rfl]
 unfold vN at h
 simp+decide only [tr,I8,go_sem,reduceIte,Nat.reduceAdd]
 have d1:= @zi
 all_goals exact go
noncomputable def qZ (a:Int):Option (Bool):=
 (we a (0:Int) (2130706432:Int)).bind fun r_=>
 some r_
theorem Sd {a r} (h:qZ a=some r):Call tab ow 186 [I a] []=some (B r,[]):=by
 rw [ab (af:=sX) rfl]
 unfold qZ at h
 simp+decide only [sX,I5,go_sem,reduceIte,Nat.reduceAdd]
 have d1:= @zi
 all_goals exact go
noncomputable def pM (a:Ext):Option (Bool):=
 (qZ a.A).bind fun r_=>
 br r_ (
 (qZ a.B).bind fun r_2=>
 some r_2) (
 some false)
theorem Ar {a r} (h:pM a=some r):Call tab ow 91 [.agg [I a.A,I a.B]] []=some (B r,[]):=by
 rw [ab (af:=An) rfl]
 unfold pM at h
 simp+decide only [An,P0,go_sem,reduceIte,Nat.reduceAdd]
 have d1:= @Sd
 all_goals exact go
noncomputable def eD (x:Ext):Option (Bool):=
 (pM x).bind fun r_=>
 some (!r_)
theorem yC {x r} (h:eD x=some r):Call tab ow 185 [.agg [I x.A,I x.B],.ptr 0 0 0 1] [⟨1,true,[[.fn 91 []]]⟩]=some (B r,[⟨1,true,[[.fn 91 []]]⟩]):=by
 rw [ab (af:=kQ) rfl]
 unfold eD at h
 simp+decide only [kQ,xH,go_sem,reduceIte,Nat.reduceAdd]
 have d1:= @Ar
 all_goals exact go
noncomputable def aR (s2:List Ext) (t:Int):Int→Option ((Int)⊕(Int⊕(Int×Bool)))
 |t2=>
  br (decide (t2<t)) (
  (atL s2 t2).bind fun x=>
  (eD x).bind fun r_=>
  br r_ (
  some (.inr (.inl t2))) (
  some (.inl (IntKind.wrap .i64 (t2+(1:Int)))))) (
  some (.inr (.inr (t2,decide (t2<t)))))
@[reducible] def co (s2:List Ext) (t s:Int):St:=⟨[(0,sl ae s2),(1,.fn 185 [.ptr 0 0 0 1]),(7,I t),(8,I s)],[(0,⟨1,true,[[.fn 91 []]]⟩)]⟩
@[reducible] def cn (s2:List Ext) (t:Int):(Int⊕(Int×Bool))→ai×St:=alt (fun e=>((.ret,⟨[(4,I e)],[(0,⟨1,true,[[.fn 91 []]]⟩)]⟩):ai×St)) (fun e=>(.exit 0,⟨[(0,sl ae s2),(1,.fn 185 [.ptr 0 0 0 1]),(7,I t),(8,I e.1),(9,B e.2)],[(0,⟨1,true,[[.fn 91 []]]⟩)]⟩))
theorem fc {s2 t s e} (h:Loop (aR s2 t) s=some e):aD tab ow (.close [5005]) da (co s2 t s)=some (cn s2 t e):=by
 refine lrG (fun s o h=> ?_) h
 simp only [aR] at h
 simp+decide only [co,cn,da,go_sem,reduceIte,Nat.reduceAdd]
 have d1:= @yC
 all_goals exact go
noncomputable def bc (s:(List Ext)):Option (Int):=
 (Loop (aR s ((s.length:Nat):Int)) (0:Int)).bind (alt (fun e_2=>
 some e_2) (fun e_3=>
 some (-1:Int)))
theorem fG {s r} (h:bc s=some r):Call tab ow 292 [sl ae s,.fn 185 [.ptr 0 0 0 1]] [⟨1,true,[[.fn 91 []]]⟩]=some (I r,[⟨1,true,[[.fn 91 []]]⟩]):=by
 rw [ab (af:=cr) rfl]
 unfold bc at h
 simp+decide only [cr,gr,go_sem,reduceIte,Nat.reduceAdd]
 have d1:= @fc
 all_goals exact go
noncomputable def aU (s:(List Ext)):Option (Bool):=
 (bc s).bind fun r_=>
 some (decide (r_≥(0:Int)))
theorem eH {s r} (h:aU s=some r):Call tab ow 184 [sl ae s,.fn 185 [.ptr 0 0 0 1]] [⟨1,true,[[.fn 91 []]]⟩]=some (B r,[⟨1,true,[[.fn 91 []]]⟩]):=by
 rw [ab (af:=bZ) rfl]
 unfold aU at h
 simp+decide only [bZ,fg,go_sem,reduceIte,Nat.reduceAdd]
 have d1:= @fG
 all_goals exact go
noncomputable def bU (list:(List Ext)):Option (Bool):=
 (aU list).bind fun r_=>
 some (!r_)
theorem dt {list r} (h:bU list=some r):Call tab ow 90 [.fn 91 [],sl ae list] []=some (B r,[]):=by
 rw [ab (af:=o6) rfl]
 unfold bU at h
 simp+decide only [o6,Bl,go_sem,reduceIte,Nat.reduceAdd]
 have d1:= @eH
 all_goals exact go
noncomputable def lL (list:(List Ext)):Option (Bool):=
 (vN ((list.length:Nat):Int) (64:Int)).bind fun r_=>
 br r_ (
 (bU list).bind fun r_2=>
 some r_2) (
 some false)
theorem yS {list r} (h:lL list=some r):Call tab ow 61 [sl ae list] []=some (B r,[]):=by
 rw [ab (af:=u3) rfl]
 unfold lL at h
 simp+decide only [u3,H6,go_sem,reduceIte,Nat.reduceAdd]
 have d1:= @Sy
 have d2:= @dt
 all_goals exact go
noncomputable def Lj (a b:Int):Option (Int):=
 some ((IntKind.wrap .i64 ((IntKind.wrap .i64 (a-b))+(2130706433:Int))).tmod (2130706433:Int))
theorem W8 {a b r} (h:Lj a b=some r):Call tab ow 274 [I a,I b] []=some (I r,[]):=by
 rw [ab (af:=Jo) rfl]
 unfold Lj at h
 simp+decide only [Jo,Wy,go_sem,reduceIte,Nat.reduceAdd]
 all_goals exact go
noncomputable def cW (a b:Ext):Option (Ext):=
 (Lj a.A b.A).bind fun r_=>
 (Lj a.B b.B).bind fun r_2=>
 some (Ext.mk r_ r_2)
theorem eV {a b r} (h:cW a b=some r):Call tab ow 155 [.agg [I a.A,I a.B],.agg [I b.A,I b.B]] []=some (.agg [I r.A,I r.B],[]):=by
 rw [ab (af:=ny) rfl]
 unfold cW at h
 simp+decide only [ny,BE,go_sem,reduceIte,Nat.reduceAdd]
 have d1:= @W8
 all_goals exact go
section
noncomputable def cw (step2 t:Int):(List Ext)×Int→Option (((List Ext)×Int)⊕(((List Ext)×Int×Bool)))
 | (l2,t2)=>
   br (decide (t2<t)) (
   br ((bk .i64 t2 step2) !=(0:Int)) (
   br (decide (0≤t2)) (
   br (decide (t2.toNat<l2.length)) (
   (l2[t2.toNat]?).bind fun x=>
   br (decide (0≤(IntKind.wrap .i64 (t2-step2)))) (
   br (decide ((IntKind.wrap .i64 (t2-step2)).toNat<l2.length)) (
   (l2[(IntKind.wrap .i64 (t2-step2)).toNat]?).bind fun x2=>
   (cW x x2).bind fun r_=>
   br (decide (0≤t2)) (
   br (decide (t2.toNat<l2.length)) (
   (l2[t2.toNat]?).bind fun x3=>
   some (.inl ((l2.set t2.toNat r_),(IntKind.wrap .i64 (t2+(1:Int)))))) none) none) none) none) none) none) (
   some (.inl (l2,(IntKind.wrap .i64 (t2+(1:Int))))))) (
   some (.inr (l2,t2,decide (t2<t))))
@[reducible] def rm (step2 t:Int) (s:(List Ext)×Int):St:=⟨[(1,.fn 155 []),(5,.sl 2000 0 s.1.length),(6,I step2),(18,I t),(19,I s.2)],[(2000,⟨2,false,rws ae s.1⟩)]⟩
@[reducible] def s8 (step2 t:Int):((List Ext)×Int×Bool)→ai×St:=fun e=>(.exit 2,⟨[(1,.fn 155 []),(5,.sl 2000 0 e.1.length),(6,I step2),(18,I t),(19,I e.2.1),(20,B e.2.2)],[(2000,⟨2,false,rws ae e.1⟩)]⟩)
theorem CC {step2 t s e} (h:Loop (cw step2 t) s=some e):aD tab ow (.close [10013]) wQ (rm step2 t s)=some (s8 step2 t e):=by
 refine lrG (fun s o h=> ?_) h
 obtain ⟨_,_⟩:=s
 simp only [cw] at h
 simp+decide only [rm,s8,wQ,go_sem,reduceIte,Nat.reduceAdd]
 have d1:= @eV
 all_goals exact go
noncomputable def cQ:(List Ext)×Int→Option (((List Ext)×Int)⊕(((List Ext)×Int×Bool)))
 | (l,step)=>
   br (decide (step<((l.length:Nat):Int))) (
   (Loop (cw step ((l.length:Nat):Int)) (l,(0:Int))).bind fun e_=>
   some (.inl (e_.1,(IntKind.wrap .i64 (step*(2:Int)))))) (
   some (.inr (l,step,decide (step<((l.length:Nat):Int)))))
@[reducible] def rD (s:(List Ext)×Int):St:=⟨[(1,.fn 155 []),(5,.sl 2000 0 s.1.length),(6,I s.2)],[(2000,⟨2,false,rws ae s.1⟩)]⟩
@[reducible] def rG:((List Ext)×Int×Bool)→ai×St:=fun e=>(.exit 0,⟨[(1,.fn 155 []),(5,.sl 2000 0 e.1.length),(6,I e.2.1),(14,B e.2.2)],[(2000,⟨2,false,rws ae e.1⟩)]⟩)
theorem CK { s e} (h:Loop (cQ) s=some e):aD tab ow (.close [10013]) wF (rD s)=some (rG e):=by
 refine lrG (fun s o h=> ?_) h
 obtain ⟨_,_⟩:=s
 simp only [cQ] at h
 simp+decide only [rD,rG,wF,go_sem,reduceIte,Nat.reduceAdd]
 have d1:= @CC
 all_goals exact go
noncomputable def mg (table:(List Ext)):Option ((List Ext)):=
 br (aZ ((([]:List Ext)++table).length) 16) (
 (Loop (cQ) ((([]:List Ext)++table),(1:Int))).bind fun e_2=>
 some e_2.1) none
theorem Gx {table r} (h:mg table=some r):Call tab ow 154 [sl ae table,.fn 155 []] []=some (sl ae r,[]):=by
 rw [ab (af:=xC) rfl]
 unfold mg at h
 simp+decide only [xC,L0,go_sem,reduceIte,Nat.reduceAdd]
 have d1:= @CK
 all_goals exact go
end
noncomputable def re (table:(List Ext)):Option ((List Ext)):=
 (mg table).bind fun r_=>
 some r_
theorem Ii {table r} (h:re table=some r):Call tab ow 66 [sl ae table] []=some (sl ae r,[]):=by
 rw [ab (af:=tK) rfl]
 unfold re at h
 simp+decide only [tK,Iv,go_sem,reduceIte,Nat.reduceAdd]
 have d1:= @Gx
 all_goals exact go
noncomputable def oN (x:Int):Option (Int):=
 br (decide (x≥(4294967296:Int))) (
 br (decide ((aL .u64 x (32:Int))≥(65536:Int))) (
 br (decide ((aL .u64 (aL .u64 x (32:Int)) (16:Int))≥(256:Int))) (
 (atL (([0,1,2,2,3,3,3,3,4,4,4,4,4,4,4,4,5,5,5,5,5,5,5,5,5,5,5,5,5,5,5,5,6,6,6,6,6,6,6,6,6,6,6,6,6,6,6,6,6,6,6,6,6,6,6,6,6,6,6,6,6,6,6,6,7,7,7,7,7,7,7,7,7,7,7,7,7,7,7,7,7,7,7,7,7,7,7,7,7,7,7,7,7,7,7,7,7,7,7,7,7,7,7,7,7,7,7,7,7,7,7,7,7,7,7,7,7,7,7,7,7,7,7,7,7,7,7,7,8,8,8,8,8,8,8,8,8,8,8,8,8,8,8,8,8,8,8,8,8,8,8,8,8,8,8,8,8,8,8,8,8,8,8,8,8,8,8,8,8,8,8,8,8,8,8,8,8,8,8,8,8,8,8,8,8,8,8,8,8,8,8,8,8,8,8,8,8,8,8,8,8,8,8,8,8,8,8,8,8,8,8,8,8,8,8,8,8,8,8,8,8,8,8,8,8,8,8,8,8,8,8,8,8,8,8,8,8,8,8,8,8,8,8,8,8,8,8,8,8,8,8,8,8,8,8,8]:List UInt8)) (IntKind.wrap .u8 (aL .u64 (aL .u64 (aL .u64 x (32:Int)) (16:Int)) (8:Int)))).bind fun c=>
 some (IntKind.wrap .i64 ((56:Int)+(IntKind.wrap .i64 (c.toNat:Int))))) (
 (atL (([0,1,2,2,3,3,3,3,4,4,4,4,4,4,4,4,5,5,5,5,5,5,5,5,5,5,5,5,5,5,5,5,6,6,6,6,6,6,6,6,6,6,6,6,6,6,6,6,6,6,6,6,6,6,6,6,6,6,6,6,6,6,6,6,7,7,7,7,7,7,7,7,7,7,7,7,7,7,7,7,7,7,7,7,7,7,7,7,7,7,7,7,7,7,7,7,7,7,7,7,7,7,7,7,7,7,7,7,7,7,7,7,7,7,7,7,7,7,7,7,7,7,7,7,7,7,7,7,8,8,8,8,8,8,8,8,8,8,8,8,8,8,8,8,8,8,8,8,8,8,8,8,8,8,8,8,8,8,8,8,8,8,8,8,8,8,8,8,8,8,8,8,8,8,8,8,8,8,8,8,8,8,8,8,8,8,8,8,8,8,8,8,8,8,8,8,8,8,8,8,8,8,8,8,8,8,8,8,8,8,8,8,8,8,8,8,8,8,8,8,8,8,8,8,8,8,8,8,8,8,8,8,8,8,8,8,8,8,8,8,8,8,8,8,8,8,8,8,8,8,8,8,8,8,8,8]:List UInt8)) (IntKind.wrap .u8 (aL .u64 (aL .u64 x (32:Int)) (16:Int)))).bind fun c2=>
 some (IntKind.wrap .i64 ((48:Int)+(IntKind.wrap .i64 (c2.toNat:Int)))))) (
 br (decide ((aL .u64 x (32:Int))≥(256:Int))) (
 (atL (([0,1,2,2,3,3,3,3,4,4,4,4,4,4,4,4,5,5,5,5,5,5,5,5,5,5,5,5,5,5,5,5,6,6,6,6,6,6,6,6,6,6,6,6,6,6,6,6,6,6,6,6,6,6,6,6,6,6,6,6,6,6,6,6,7,7,7,7,7,7,7,7,7,7,7,7,7,7,7,7,7,7,7,7,7,7,7,7,7,7,7,7,7,7,7,7,7,7,7,7,7,7,7,7,7,7,7,7,7,7,7,7,7,7,7,7,7,7,7,7,7,7,7,7,7,7,7,7,8,8,8,8,8,8,8,8,8,8,8,8,8,8,8,8,8,8,8,8,8,8,8,8,8,8,8,8,8,8,8,8,8,8,8,8,8,8,8,8,8,8,8,8,8,8,8,8,8,8,8,8,8,8,8,8,8,8,8,8,8,8,8,8,8,8,8,8,8,8,8,8,8,8,8,8,8,8,8,8,8,8,8,8,8,8,8,8,8,8,8,8,8,8,8,8,8,8,8,8,8,8,8,8,8,8,8,8,8,8,8,8,8,8,8,8,8,8,8,8,8,8,8,8,8,8,8,8]:List UInt8)) (IntKind.wrap .u8 (aL .u64 (aL .u64 x (32:Int)) (8:Int)))).bind fun c3=>
 some (IntKind.wrap .i64 ((40:Int)+(IntKind.wrap .i64 (c3.toNat:Int))))) (
 (atL (([0,1,2,2,3,3,3,3,4,4,4,4,4,4,4,4,5,5,5,5,5,5,5,5,5,5,5,5,5,5,5,5,6,6,6,6,6,6,6,6,6,6,6,6,6,6,6,6,6,6,6,6,6,6,6,6,6,6,6,6,6,6,6,6,7,7,7,7,7,7,7,7,7,7,7,7,7,7,7,7,7,7,7,7,7,7,7,7,7,7,7,7,7,7,7,7,7,7,7,7,7,7,7,7,7,7,7,7,7,7,7,7,7,7,7,7,7,7,7,7,7,7,7,7,7,7,7,7,8,8,8,8,8,8,8,8,8,8,8,8,8,8,8,8,8,8,8,8,8,8,8,8,8,8,8,8,8,8,8,8,8,8,8,8,8,8,8,8,8,8,8,8,8,8,8,8,8,8,8,8,8,8,8,8,8,8,8,8,8,8,8,8,8,8,8,8,8,8,8,8,8,8,8,8,8,8,8,8,8,8,8,8,8,8,8,8,8,8,8,8,8,8,8,8,8,8,8,8,8,8,8,8,8,8,8,8,8,8,8,8,8,8,8,8,8,8,8,8,8,8,8,8,8,8,8,8]:List UInt8)) (IntKind.wrap .u8 (aL .u64 x (32:Int)))).bind fun c4=>
 some (IntKind.wrap .i64 ((32:Int)+(IntKind.wrap .i64 (c4.toNat:Int))))))) (
 br (decide (x≥(65536:Int))) (
 br (decide ((aL .u64 x (16:Int))≥(256:Int))) (
 (atL (([0,1,2,2,3,3,3,3,4,4,4,4,4,4,4,4,5,5,5,5,5,5,5,5,5,5,5,5,5,5,5,5,6,6,6,6,6,6,6,6,6,6,6,6,6,6,6,6,6,6,6,6,6,6,6,6,6,6,6,6,6,6,6,6,7,7,7,7,7,7,7,7,7,7,7,7,7,7,7,7,7,7,7,7,7,7,7,7,7,7,7,7,7,7,7,7,7,7,7,7,7,7,7,7,7,7,7,7,7,7,7,7,7,7,7,7,7,7,7,7,7,7,7,7,7,7,7,7,8,8,8,8,8,8,8,8,8,8,8,8,8,8,8,8,8,8,8,8,8,8,8,8,8,8,8,8,8,8,8,8,8,8,8,8,8,8,8,8,8,8,8,8,8,8,8,8,8,8,8,8,8,8,8,8,8,8,8,8,8,8,8,8,8,8,8,8,8,8,8,8,8,8,8,8,8,8,8,8,8,8,8,8,8,8,8,8,8,8,8,8,8,8,8,8,8,8,8,8,8,8,8,8,8,8,8,8,8,8,8,8,8,8,8,8,8,8,8,8,8,8,8,8,8,8,8,8]:List UInt8)) (IntKind.wrap .u8 (aL .u64 (aL .u64 x (16:Int)) (8:Int)))).bind fun c5=>
 some (IntKind.wrap .i64 ((24:Int)+(IntKind.wrap .i64 (c5.toNat:Int))))) (
 (atL (([0,1,2,2,3,3,3,3,4,4,4,4,4,4,4,4,5,5,5,5,5,5,5,5,5,5,5,5,5,5,5,5,6,6,6,6,6,6,6,6,6,6,6,6,6,6,6,6,6,6,6,6,6,6,6,6,6,6,6,6,6,6,6,6,7,7,7,7,7,7,7,7,7,7,7,7,7,7,7,7,7,7,7,7,7,7,7,7,7,7,7,7,7,7,7,7,7,7,7,7,7,7,7,7,7,7,7,7,7,7,7,7,7,7,7,7,7,7,7,7,7,7,7,7,7,7,7,7,8,8,8,8,8,8,8,8,8,8,8,8,8,8,8,8,8,8,8,8,8,8,8,8,8,8,8,8,8,8,8,8,8,8,8,8,8,8,8,8,8,8,8,8,8,8,8,8,8,8,8,8,8,8,8,8,8,8,8,8,8,8,8,8,8,8,8,8,8,8,8,8,8,8,8,8,8,8,8,8,8,8,8,8,8,8,8,8,8,8,8,8,8,8,8,8,8,8,8,8,8,8,8,8,8,8,8,8,8,8,8,8,8,8,8,8,8,8,8,8,8,8,8,8,8,8,8,8]:List UInt8)) (IntKind.wrap .u8 (aL .u64 x (16:Int)))).bind fun c6=>
 some (IntKind.wrap .i64 ((16:Int)+(IntKind.wrap .i64 (c6.toNat:Int)))))) (
 br (decide (x≥(256:Int))) (
 (atL (([0,1,2,2,3,3,3,3,4,4,4,4,4,4,4,4,5,5,5,5,5,5,5,5,5,5,5,5,5,5,5,5,6,6,6,6,6,6,6,6,6,6,6,6,6,6,6,6,6,6,6,6,6,6,6,6,6,6,6,6,6,6,6,6,7,7,7,7,7,7,7,7,7,7,7,7,7,7,7,7,7,7,7,7,7,7,7,7,7,7,7,7,7,7,7,7,7,7,7,7,7,7,7,7,7,7,7,7,7,7,7,7,7,7,7,7,7,7,7,7,7,7,7,7,7,7,7,7,8,8,8,8,8,8,8,8,8,8,8,8,8,8,8,8,8,8,8,8,8,8,8,8,8,8,8,8,8,8,8,8,8,8,8,8,8,8,8,8,8,8,8,8,8,8,8,8,8,8,8,8,8,8,8,8,8,8,8,8,8,8,8,8,8,8,8,8,8,8,8,8,8,8,8,8,8,8,8,8,8,8,8,8,8,8,8,8,8,8,8,8,8,8,8,8,8,8,8,8,8,8,8,8,8,8,8,8,8,8,8,8,8,8,8,8,8,8,8,8,8,8,8,8,8,8,8,8]:List UInt8)) (IntKind.wrap .u8 (aL .u64 x (8:Int)))).bind fun c7=>
 some (IntKind.wrap .i64 ((8:Int)+(IntKind.wrap .i64 (c7.toNat:Int))))) (
 (atL (([0,1,2,2,3,3,3,3,4,4,4,4,4,4,4,4,5,5,5,5,5,5,5,5,5,5,5,5,5,5,5,5,6,6,6,6,6,6,6,6,6,6,6,6,6,6,6,6,6,6,6,6,6,6,6,6,6,6,6,6,6,6,6,6,7,7,7,7,7,7,7,7,7,7,7,7,7,7,7,7,7,7,7,7,7,7,7,7,7,7,7,7,7,7,7,7,7,7,7,7,7,7,7,7,7,7,7,7,7,7,7,7,7,7,7,7,7,7,7,7,7,7,7,7,7,7,7,7,8,8,8,8,8,8,8,8,8,8,8,8,8,8,8,8,8,8,8,8,8,8,8,8,8,8,8,8,8,8,8,8,8,8,8,8,8,8,8,8,8,8,8,8,8,8,8,8,8,8,8,8,8,8,8,8,8,8,8,8,8,8,8,8,8,8,8,8,8,8,8,8,8,8,8,8,8,8,8,8,8,8,8,8,8,8,8,8,8,8,8,8,8,8,8,8,8,8,8,8,8,8,8,8,8,8,8,8,8,8,8,8,8,8,8,8,8,8,8,8,8,8,8,8,8,8,8,8]:List UInt8)) (IntKind.wrap .u8 x)).bind fun c8=>
 some (IntKind.wrap .i64 ((0:Int)+(IntKind.wrap .i64 (c8.toNat:Int)))))))
theorem Er {x r} (h:oN x=some r):Call tab ow 356 [.lit (.int .u64 x)] []=some (I r,[]):=by
 rw [ab (af:=ja) rfl]
 unfold oN at h
 simp+decide only [ja,tH,go_sem,reduceIte,Nat.reduceAdd]
 all_goals exact go
noncomputable def uD (x:Int):Option (Int):=
 (oN x).bind fun r_=>
 some r_
theorem IK {x r} (h:uD x=some r):Call tab ow 333 [.lit (.int .u64 x)] []=some (I r,[]):=by
 rw [ab (af:=kP) rfl]
 unfold uD at h
 simp+decide only [kP,xP,go_sem,reduceIte,Nat.reduceAdd]
 have d1:= @Er
 all_goals exact go
noncomputable def AD (n:Int):Option (Int):=
 (uD (IntKind.wrap .u64 n)).bind fun r_=>
 some (IntKind.wrap .i64 (r_-(1:Int)))
theorem G2 {n r} (h:AD n=some r):Call tab ow 273 [I n] []=some (I r,[]):=by
 rw [ab (af:=AP) rfl]
 unfold AD at h
 simp+decide only [AP,Ox,go_sem,reduceIte,Nat.reduceAdd]
 have d1:= @IK
 all_goals exact go
noncomputable def mI (a b:Int):Option (Int):=
 some ((IntKind.wrap .i64 (a*b)).tmod (2130706433:Int))
theorem AM {a b r} (h:mI a b=some r):Call tab ow 291 [I a,I b] []=some (I r,[]):=by
 rw [ab (af:=Jw) rfl]
 unfold mI at h
 simp+decide only [Jw,Wx,go_sem,reduceIte,Nat.reduceAdd]
 all_goals exact go
noncomputable def rd:Int×Int×Int→Option ((Int×Int×Int)⊕((Int×Int×Int×Bool)))
 | (a2,n2,out)=>
   br (decide (n2>(0:Int))) (
   br ((bk .i64 n2 (1:Int))==(1:Int)) (
   (mI out a2).bind fun r_=>
   (mI a2 a2).bind fun r_2=>
   some (.inl (r_2,(aL .i64 n2 (1:Int)),r_))) (
   (mI a2 a2).bind fun r_3=>
   some (.inl (r_3,(aL .i64 n2 (1:Int)),out)))) (
   some (.inr (a2,n2,out,decide (n2>(0:Int)))))
@[reducible] def OO (s:Int×Int×Int):St:=⟨[(0,I s.1),(1,I s.2.1),(5,I s.2.2)],[]⟩
@[reducible] def OE:(Int×Int×Int×Bool)→ai×St:=fun e=>(.exit 0,⟨[(0,I e.1),(1,I e.2.1),(5,I e.2.2.1),(7,B e.2.2.2)],[]⟩)
theorem Y2 { s e} (h:Loop (rd) s=some e):aD tab ow (.close [6002,7002]) G6 (OO s)=some (OE e):=by
 refine lrG (fun s o h=> ?_) h
 obtain ⟨_,_,_⟩:=s
 simp only [rd] at h
 simp+decide only [OO,OE,G6,go_sem,reduceIte,Nat.reduceAdd]
 have d1:= @AM
 all_goals exact go
noncomputable def JF (a n:Int):Option (Int):=
 (Loop (rd) (a,n,(1:Int))).bind fun e_=>
 some e_.2.2.1
theorem Ql {a n r} (h:JF a n=some r):Call tab ow 332 [I a,I n] []=some (I r,[]):=by
 rw [ab (af:=Ju) rfl]
 unfold JF at h
 simp+decide only [Ju,Xm,go_sem,reduceIte,Nat.reduceAdd]
 have d1:= @Y2
 all_goals exact go
noncomputable def FF (k:Int):Option (Int):=
 br (decide (0≤(IntKind.wrap .i64 ((24:Int)-k)))) (
 (JF (3:Int) (bW .i64 (127:Int) (IntKind.wrap .i64 ((24:Int)-k)))).bind fun r_=>
 some r_) none
theorem RS {k r} (h:FF k=some r):Call tab ow 272 [I k] []=some (I r,[]):=by
 rw [ab (af:=Dz) rfl]
 unfold FF at h
 simp+decide only [Dz,Ss,go_sem,reduceIte,Nat.reduceAdd]
 have d1:= @Ql
 all_goals exact go
def bX (l:List Ext):Option (List Ext):=br (aZ l.length 16) (some l) none
theorem pp (x:Ext) (l:List Ext) (hf:aZ (x::l).length 16=true):Call (IQ 162 aE) KR 162 [sl ae (x::l)] []=some (.sl 0 0 (x::l).length,[⟨2,false,rws ae (x::l)⟩]):=by
 rw [ab (af:=aE) (FO _ _)]
 rw [List.length_cons] at hf
 simp+decide only [aE,eJ,fun k=>mk0 ae k,RH,go_sem,reduceIte,Nat.reduceAdd,hf]
theorem jc {l r:List Ext} (h:bX l=some r):Call tab ow 162 [sl ae l] []=some (.sl 0 0 r.length,[⟨2,false,rws ae r⟩]):=by
 unfold bX at h
 obtain ⟨hb,h⟩:=brg h
 cases h
 rw [Z7 (g:=QU 162 aE 2) rfl]
 cases l with
 |nil=>rfl
 |cons x l=>exact pp x l hb
noncomputable def fS (a:Ext) (n:Int):Option (Ext):=
 (mI a.A n).bind fun r_=>
 (mI a.B n).bind fun r_2=>
 some (Ext.mk r_ r_2)
theorem rY {a n r} (h:fS a n=some r):Call tab ow 331 [.agg [I a.A,I a.B],I n] []=some (.agg [I r.A,I r.B],[]):=by
 rw [ab (af:=mm) rfl]
 unfold fS at h
 simp+decide only [mm,Ac,go_sem,reduceIte,Nat.reduceAdd]
 have d1:= @AM
 all_goals exact go
noncomputable def I4 (a b:Int):Option (Int):=
 some ((IntKind.wrap .i64 (a+b)).tmod (2130706433:Int))
theorem WG {a b r} (h:I4 a b=some r):Call tab ow 192 [I a,I b] []=some (I r,[]):=by
 rw [ab (af:=Jd) rfl]
 unfold I4 at h
 simp+decide only [Jd,WB,go_sem,reduceIte,Nat.reduceAdd]
 all_goals exact go
noncomputable def dh (a b:Ext):Option (Ext):=
 (I4 a.A b.A).bind fun r_=>
 (I4 a.B b.B).bind fun r_2=>
 some (Ext.mk r_ r_2)
theorem eO {a b r} (h:dh a b=some r):Call tab ow 94 [.agg [I a.A,I a.B],.agg [I b.A,I b.B]] []=some (.agg [I r.A,I r.B],[]):=by
 rw [ab (af:=pT) rfl]
 unfold dh at h
 simp+decide only [pT,Fs,go_sem,reduceIte,Nat.reduceAdd]
 have d1:= @WG
 all_goals exact go
section
theorem T5: ∀k,J3 11002 k [I (0:Int),I (0:Int)]=rws ae (List.replicate k (Ext.mk (0:Int) (0:Int))):=fun _=>a1l ae (Ext.mk (0:Int) (0:Int)) _ _
attribute [local go_sem] T5
noncomputable def hK (ListtoArray2:List Ext) (t:Int):(List Ext)×(List Ext)×Int→Option (((List Ext)×(List Ext)×Int)⊕(((List Ext)×(List Ext)×Int×Bool)))
 | (l,l2,t2)=>
   br (decide (t2<((ListtoArray2.length:Nat):Int))) (
   (atL ListtoArray2 t2).bind fun x=>
   br (aZ ((l++([x]:List Ext)).length) 16) (
   (atL ListtoArray2 (IntKind.wrap .i64 (t2+(1:Int)))).bind fun x2=>
   br (aZ ((l2++([x2]:List Ext)).length) 16) (
   some (.inl ((l++([x]:List Ext)),(l2++([x2]:List Ext)),(IntKind.wrap .i64 (t2+(2:Int)))))) none) none) (
   some (.inr (l,l2,t2,decide (t2<((ListtoArray2.length:Nat):Int)))))
@[reducible] def DR (ListtoArray2:List Ext) (t:Int) (s:(List Ext)×(List Ext)×Int):St:=⟨[(0,sl ae ListtoArray2),(1,I t),(5,.sl 4000 0 s.1.length),(6,.sl 4001 0 s.2.1.length),(7,I s.2.2)],[(4000,⟨2,false,rws ae s.1⟩),(4001,⟨2,false,rws ae s.2.1⟩)]⟩
@[reducible] def Dj (ListtoArray2:List Ext) (t:Int):((List Ext)×(List Ext)×Int×Bool)→ai×St:=fun e=>(.exit 0,⟨[(0,sl ae ListtoArray2),(1,I t),(5,.sl 4000 0 e.1.length),(6,.sl 4001 0 e.2.1.length),(7,I e.2.2.1),(25,B e.2.2.2)],[(4000,⟨2,false,rws ae e.1⟩),(4001,⟨2,false,rws ae e.2.1⟩)]⟩)
theorem PO {ListtoArray2 t s e} (h:Loop (hK ListtoArray2 t) s=some e):aD tab ow (.close [8005,8006,8013,8014]) wz (DR ListtoArray2 t s)=some (Dj ListtoArray2 t e):=by
 refine lrG (fun s o h=> ?_) h
 obtain ⟨_,_,_⟩:=s
 simp only [hK] at h
 simp+decide only [DR,Dj,wz,go_sem,reduceIte,Nat.reduceAdd]
 all_goals exact go
noncomputable def gY (l3 l4:List Ext) (t3 t4 t6:Int):(List Ext)×Int×Int→Option (((List Ext)×Int×Int)⊕(((List Ext)×Int×Int×Bool)))
 | (l5,t5,t7)=>
   br (decide (t7<t6)) (
   br (decide (0≤t7)) (
   br (decide (t7.toNat<l4.length)) (
   (l4[t7.toNat]?).bind fun x3=>
   (fS x3 t5).bind fun r_6=>
   br (decide (0≤t7)) (
   br (decide (t7.toNat<l3.length)) (
   (l3[t7.toNat]?).bind fun x4=>
   (dh x4 r_6).bind fun r_7=>
   br (decide (0≤t7)) (
   br (decide (t7.toNat<l3.length)) (
   (l3[t7.toNat]?).bind fun x5=>
   (cW x5 r_6).bind fun r_8=>
   br (decide (0≤t7)) (
   br (decide (t7.toNat<l5.length)) (
   (l5[t7.toNat]?).bind fun x6=>
   br (decide (0≤(IntKind.wrap .i64 (t7+t4)))) (
   br (decide ((IntKind.wrap .i64 (t7+t4)).toNat<l5.length)) (
   ((l5.set t7.toNat r_7)[(IntKind.wrap .i64 (t7+t4)).toNat]?).bind fun x7=>
   (mI t5 t3).bind fun r_9=>
   some (.inl (((l5.set t7.toNat r_7).set ((IntKind.wrap .i64 (t7+t4)).toNat) r_8),r_9,(IntKind.wrap .i64 (t7+(1:Int)))))) none) none) none) none) none) none) none) none) none) none) (
   some (.inr (l5,t5,t7,decide (t7<t6))))
@[reducible] def DE (l3 l4:List Ext) (t3 t4 t6:Int) (s:(List Ext)×Int×Int):St:=⟨[(1,I t3),(8,.sl 9004 0 l3.length),(9,.sl 9009 0 l4.length),(10,I t4),(11,I s.2.1),(12,.sl 11002 0 s.1.length),(58,I t6),(59,I s.2.2)],[(4000,cu),(4001,cu),(9004,⟨2,false,rws ae l3⟩),(9009,⟨2,false,rws ae l4⟩),(11002,⟨2,false,rws ae s.1⟩)]⟩
@[reducible] def Dd (l3 l4:List Ext) (t3 t4 t6:Int):((List Ext)×Int×Int×Bool)→ai×St:=fun e=>(.exit 2,⟨[(1,I t3),(8,.sl 9004 0 l3.length),(9,.sl 9009 0 l4.length),(10,I t4),(11,I e.2.1),(12,.sl 11002 0 e.1.length),(58,I t6),(59,I e.2.2.1),(60,B e.2.2.2)],[(4000,cu),(4001,cu),(9004,⟨2,false,rws ae l3⟩),(9009,⟨2,false,rws ae l4⟩),(11002,⟨2,false,rws ae e.1⟩)]⟩)
theorem Qe {l3 l4 t3 t4 t6 s e} (h:Loop (gY l3 l4 t3 t4 t6) s=some e):aD tab ow (.close [15005,15006,16011,16017,17002]) uL (DE l3 l4 t3 t4 t6 s)=some (Dd l3 l4 t3 t4 t6 e):=by
 refine lrG (fun s o h=> ?_) h
 obtain ⟨_,_,_⟩:=s
 simp only [gY] at h
 simp+decide only [DE,Dd,uL,go_sem,reduceIte,Nat.reduceAdd]
 have d1:= @rY
 have d2:= @eO
 have d3:= @eV
 have d4:= @AM
 all_goals exact go
noncomputable def jj:Nat→(List Ext)→Int→Option ((List Ext))
 |0,_,_=>none
 |n_+1,ListtoArray,a=>
  br (((ListtoArray.length:Nat):Int)==(1:Int)) (
  (bX ListtoArray).bind fun r_=>
  some r_) (
  (Loop (hK ListtoArray a) (([]:List Ext),([]:List Ext),(0:Int))).bind fun e_=>
  (mI a a).bind fun r_2=>
  (jj n_ e_.1 r_2).bind fun r_3=>
  (mI a a).bind fun r_4=>
  (jj n_ e_.2.1 r_4).bind fun r_5=>
  br (J8 (IntKind.wrap .i64 ((2:Int)*((r_3.length:Nat):Int))) (IntKind.wrap .i64 ((2:Int)*((r_3.length:Nat):Int))) 16) (
  (Loop (gY r_3 r_5 a ((r_3.length:Nat):Int) ((r_3.length:Nat):Int)) ((List.replicate ((IntKind.wrap .i64 ((2:Int)*((r_3.length:Nat):Int))).toNat) (Ext.mk (0:Int) (0:Int))),(1:Int),(0:Int))).bind fun e_2=>
  some e_2.1) none)
theorem Rv (n_:Nat): ∀{ListtoArray:(List Ext)} {a:Int} {r:(List Ext)},jj n_ ListtoArray a=some r→Call tab ow 271 [sl ae ListtoArray,I a] []=some (.sl 0 0 r.length,[⟨2,false,rws ae r⟩]):=by
 induction n_ with
 |zero=>intro _ _ r h;cases h
 |succ n_ ih=>
  intro ListtoArray a r h
  rw [ab (af:=ww) rfl]
  simp only [jj] at h
  simp+decide only [ww,Mg,go_sem,reduceIte,Nat.reduceAdd]
  have d1:= @jc
  have d2:= @PO
  have d3:= @AM
  have d4:= @ih
  have d5:= @Qe
  all_goals exact go
noncomputable def K9 (ListtoArray:(List Ext)) (a:Int):Option ((List Ext)):=lim (fun n_=>jj n_ ListtoArray a)
theorem Ve {ListtoArray:(List Ext)} {a:Int} {r:(List Ext)} (h:K9 ListtoArray a=some r):Call tab ow 271 [sl ae ListtoArray,I a] []=some (.sl 0 0 r.length,[⟨2,false,rws ae r⟩]):=by
 obtain ⟨n_,hn⟩:=Lw h
 exact Rv n_ hn
end
noncomputable def WZ (coefs:(List Ext)):Option ((List Ext)):=
 (AD ((coefs.length:Nat):Int)).bind fun r_=>
 (FF r_).bind fun r_2=>
 (K9 coefs r_2).bind fun r_3=>
 some r_3
theorem a3K {coefs r} (h:WZ coefs=some r):Call tab ow 153 [sl ae coefs] []=some (sl ae r,[]):=by
 rw [ab (af:=Jv) rfl]
 unfold WZ at h
 simp+decide only [Jv,Xi,go_sem,reduceIte,Nat.reduceAdd]
 have d1:= @G2
 have d2:= @RS
 have d3:= @Ve
 all_goals exact go
section
theorem QO: ∀k,J3 2004 k [I (0:Int),I (0:Int)]=rws ae (List.replicate k (Ext.mk (0:Int) (0:Int))):=fun _=>a1l ae (Ext.mk (0:Int) (0:Int)) _ _
attribute [local go_sem] QO
noncomputable def qV (coefs:(List Ext)) (rate:Int):Option ((List Ext)):=
 br (decide (0≤rate)) (
 br (J8 (bW .i64 ((coefs.length:Nat):Int) rate) (bW .i64 ((coefs.length:Nat):Int) rate) 16) (
 (WZ (Ko (List.replicate ((bW .i64 ((coefs.length:Nat):Int) rate).toNat) (Ext.mk (0:Int) (0:Int))) 0 (min coefs.length ((List.replicate ((bW .i64 ((coefs.length:Nat):Int) rate).toNat) (Ext.mk (0:Int) (0:Int))).length)) coefs)).bind fun r_=>
 some r_) none) none
theorem Io {coefs rate r} (h:qV coefs rate=some r):Call tab ow 65 [sl ae coefs,I rate] []=some (sl ae r,[]):=by
 rw [ab (af:=tc) rfl]
 unfold qV at h
 simp+decide only [tc,Hn,go_sem,reduceIte,Nat.reduceAdd]
 have d1:= @a3K
 all_goals exact go
end
section
noncomputable def vg (n:Int) (l:List UInt8):Option ((List UInt8)):=
 br (aZ ((l++([(UInt8.ofInt (aL .i64 n (24:Int))),(UInt8.ofInt (aL .i64 n (16:Int))),(UInt8.ofInt (aL .i64 n (8:Int))),(UInt8.ofInt n)]:List UInt8)).length) 1) (
 some (l++([(UInt8.ofInt (aL .i64 n (24:Int))),(UInt8.ofInt (aL .i64 n (16:Int))),(UInt8.ofInt (aL .i64 n (8:Int))),(UInt8.ofInt n)]:List UInt8))) none
theorem US {n l r} (h:vg n l=some r):Call tab ow 169 [.sl 0 0 l.length,I n] [⟨1,false,rws eU8 l⟩]=some (.sl 0 0 r.length,[⟨1,false,rws eU8 r⟩]):=by
 rw [ab (af:=vW) rfl]
 unfold vg at h
 simp+decide only [vW,LJ,go_sem,reduceIte,Nat.reduceAdd]
 all_goals exact go
end
section
noncomputable def gH (t:List Ext) (t2:Int):(List UInt8)×Int→Option (((List UInt8)×Int)⊕(((List UInt8)×Int×Bool)))
 | (l,t3)=>
   br (decide (t3<t2)) (
   (atL t t3).bind fun x=>
   (vg x.A l).bind fun r_=>
   (vg x.B r_).bind fun r_2=>
   some (.inl (r_2,(IntKind.wrap .i64 (t3+(1:Int)))))) (
   some (.inr (l,t3,decide (t3<t2))))
@[reducible] def A1 (t:List Ext) (t2:Int) (s:(List UInt8)×Int):St:=⟨[(3,.sl 2000 0 s.1.length),(7,sl ae t),(8,I t2),(9,I s.2)],[(2000,⟨1,false,rws eU8 s.1⟩)]⟩
@[reducible] def zK (t:List Ext) (t2:Int):((List UInt8)×Int×Bool)→ai×St:=fun e=>(.exit 0,⟨[(3,.sl 2000 0 e.1.length),(7,sl ae t),(8,I t2),(9,I e.2.1),(10,B e.2.2)],[(2000,⟨1,false,rws eU8 e.1⟩)]⟩)
theorem KX {t t2 s e} (h:Loop (gH t t2) s=some e):aD tab ow (.close [5002,6003,6006]) sH (A1 t t2 s)=some (zK t t2 e):=by
 refine lrG (fun s o h=> ?_) h
 obtain ⟨_,_⟩:=s
 simp only [gH] at h
 simp+decide only [A1,zK,sH,go_sem,reduceIte,Nat.reduceAdd]
 have d1:= @US
 all_goals exact go
noncomputable def ls (list:(List Ext)):Option ((List UInt8)):=
 (Loop (gH list ((list.length:Nat):Int)) (([]:List UInt8),(0:Int))).bind fun e_=>
 some e_.1
theorem xB {list r} (h:ls list=some r):Call tab ow 270 [sl ae list] []=some (sl eU8 r,[]):=by
 rw [ab (af:=pD) rfl]
 unfold ls at h
 simp+decide only [pD,Eg,go_sem,reduceIte,Nat.reduceAdd]
 have d1:= @KX
 all_goals exact go
end
section
noncomputable def fj (word2:List Ext) (half t:Int):(List (List UInt8))×Int→Option (((List (List UInt8))×Int)⊕(((List (List UInt8))×Int×Bool)))
 | (l,t2)=>
   br (decide (t2<t)) (
   (atL word2 t2).bind fun x=>
   (atL word2 (IntKind.wrap .i64 (t2+half))).bind fun x2=>
   (ls ([x,x2]:List Ext)).bind fun r_=>
   br (aZ ((l++([r_]:List (List UInt8))).length) 16) (
   some (.inl ((l++([r_]:List (List UInt8))),(IntKind.wrap .i64 (t2+(1:Int)))))) none) (
   some (.inr (l,t2,decide (t2<t))))
@[reducible] def zd (word2:List Ext) (half t:Int) (s:(List (List UInt8))×Int):St:=⟨[(0,sl ae word2),(3,.sl 2000 0 s.1.length),(4,I half),(10,I t),(11,I s.2)],[(2000,⟨1,false,rws eS s.1⟩)]⟩
@[reducible] def yH (word2:List Ext) (half t:Int):((List (List UInt8))×Int×Bool)→ai×St:=fun e=>(.exit 0,⟨[(0,sl ae word2),(3,.sl 2000 0 e.1.length),(4,I half),(10,I t),(11,I e.2.1),(12,B e.2.2)],[(2000,⟨1,false,rws eS e.1⟩)]⟩)
theorem Mv {word2 half t s e} (h:Loop (fj word2 half t) s=some e):aD tab ow (.close [6011,6012,6014,6015]) sC (zd word2 half t s)=some (yH word2 half t e):=by
 refine lrG (fun s o h=> ?_) h
 obtain ⟨_,_⟩:=s
 simp only [fj] at h
 simp+decide only [zd,yH,sC,go_sem,reduceIte,Nat.reduceAdd]
 have d1:= @xB
 all_goals exact go
noncomputable def sE (word:(List Ext)):Option ((List (List UInt8))):=
 (Loop (fj word (IntKind.wrap .i64 (((word.length:Nat):Int).tdiv (2:Int))) (IntKind.wrap .i64 (((word.length:Nat):Int).tdiv (2:Int)))) (([]:List (List UInt8)),(0:Int))).bind fun e_=>
 some e_.1
theorem Qd {word r} (h:sE word=some r):Call tab ow 152 [sl ae word] []=some (sl eS r,[]):=by
 rw [ab (af:=pC) rfl]
 unfold sE at h
 simp+decide only [pC,Ek,go_sem,reduceIte,Nat.reduceAdd]
 have d1:= @Mv
 all_goals exact go
end
noncomputable def ne (leaf:(List UInt8)):Option ((List UInt8)):=
 br (aZ ((([0]:List UInt8)).length+leaf.length) 1) (
 some ((([0]:List UInt8))++leaf)) none
theorem E6 {leaf r} (h:ne leaf=some r):Call tab ow 268 [S leaf] []=some (S r,[]):=by
 rw [ab (af:=pB) rfl]
 unfold ne at h
 simp+decide only [pB,EP,go_sem,reduceIte,Nat.reduceAdd]
 all_goals exact go
noncomputable def iG (m:List Int) (t:List UInt8) (t2:Int):(List Int)×Int→Option (((List Int)×Int)⊕(((List Int)×Int×Bool)))
 | (m2,t3)=>
   br (decide (t3<t2)) (
   (atL t t3).bind fun x=>
   br (decide (0≤(IntKind.wrap .i64 (t3.tdiv (8:Int))))&&decide ((IntKind.wrap .i64 (t3.tdiv (8:Int))).toNat<25)) (
   (m2[(IntKind.wrap .i64 (t3.tdiv (8:Int))).toNat]?).bind fun x2=>
   br (decide (0≤(IntKind.wrap .i64 ((8:Int)*(t3.tmod (8:Int)))))) (
   br (decide (0≤(IntKind.wrap .i64 (t3.tdiv (8:Int))))&&decide ((IntKind.wrap .i64 (t3.tdiv (8:Int))).toNat<25)) (
   br (decide ((IntKind.wrap .i64 (t3.tdiv (8:Int))).toNat<m2.length)) (
   some (.inl ((m2.set ((IntKind.wrap .i64 (t3.tdiv (8:Int))).toNat) (uq .u64 x2 (bW .u64 (IntKind.wrap .u64 (x.toNat:Int)) (IntKind.wrap .i64 ((8:Int)*(t3.tmod (8:Int))))))),(IntKind.wrap .i64 (t3+(1:Int)))))) none) none) none) none) (
   some (.inr (m2,t3,decide (t3<t2))))
@[reducible] def BA (m:List Int) (t:List UInt8) (t2:Int) (s:(List Int)×Int):St:=⟨[(2,.ptr 1000 0 0 1),(3,.ptr 2001 0 0 1),(7,sl eU8 t),(8,I t2),(9,I s.2)],[(1000,⟨25,true,[ar .u64 m]⟩),(2001,⟨25,true,[ar .u64 s.1]⟩)]⟩
@[reducible] def C3 (m:List Int) (t:List UInt8) (t2:Int):((List Int)×Int×Bool)→ai×St:=fun e=>(.exit 0,⟨[(2,.ptr 1000 0 0 1),(3,.ptr 2001 0 0 1),(7,sl eU8 t),(8,I t2),(9,I e.2.1),(10,B e.2.2)],[(1000,⟨25,true,[ar .u64 m]⟩),(2001,⟨25,true,[ar .u64 e.1]⟩)]⟩)
theorem N4 {m t t2 s e} (h:Loop (iG m t t2) s=some e):aD tab ow (.close []) uj (BA m t t2 s)=some (C3 m t t2 e):=by
 refine lrG (fun s o h=> ?_) h
 obtain ⟨_,_⟩:=s
 simp only [iG] at h
 simp+decide only [BA,C3,uj,go_sem,reduceIte,Nat.reduceAdd]
 all_goals exact go
noncomputable def w6 (state:(List UInt8)):Option ((List Int)):=
 (Loop (iG (nZ 25) state ((state.length:Nat):Int)) ((nZ 25),(0:Int))).bind fun e_=>
 br (decide (e_.1.length=25)) (
 br (decide (e_.1.length=25)) (
 br (decide (e_.1.length=25)) (
 some e_.1) none) none) none
theorem SG {state r} (h:w6 state=some r):Call tab ow 193 [sl eU8 state] []=some (.agg (ar .u64 r),[]):=by
 rw [ab (af:=sP) rfl]
 unfold w6 at h
 simp+decide only [sP,GT,go_sem,reduceIte,Nat.reduceAdd]
 have d1:= @N4
 all_goals exact go
noncomputable def cB (x k:Int):Option (Int):=
 br (decide (0≤(bk .u64 (IntKind.wrap .u64 k) (63:Int)))) (
 br (decide (0≤(IntKind.wrap .u64 ((64:Int)-(bk .u64 (IntKind.wrap .u64 k) (63:Int)))))) (
 some (uq .u64 (bW .u64 x (bk .u64 (IntKind.wrap .u64 k) (63:Int))) (aL .u64 x (IntKind.wrap .u64 ((64:Int)-(bk .u64 (IntKind.wrap .u64 k) (63:Int))))))) none) none
theorem um {x k r} (h:cB x k=some r):Call tab ow 297 [.lit (.int .u64 x),I k] []=some (.lit (.int .u64 r),[]):=by
 rw [ab (af:=dM) rfl]
 unfold cB at h
 simp+decide only [dM,ky,go_sem,reduceIte,Nat.reduceAdd]
 all_goals exact go
end Go.AI.Fn
set_option linter.unusedVariables false
set_option linter.unusedSimpArgs false
set_option maxRecDepth 100000
set_option maxHeartbeats 1000000
namespace Go.AI.Fn
noncomputable def dv (m5 m6 m7 m9:List Int) (t3:Int) (t4:List Int) (t5:Int):(List Int)×Int→Option (((List Int)×Int)⊕(((List Int)×Int×Bool)))
 | (m8,t6)=>
   br (decide (t6<(25:Int))) (
   br (decide (0≤t6)&&decide (t6.toNat<25)) (
   (m5[t6.toNat]?).bind fun x2=>
   br (decide (0≤(t6.tmod (5:Int)))&&decide ((t6.tmod (5:Int)).toNat<5)) (
   (m8[(t6.tmod (5:Int)).toNat]?).bind fun x3=>
   br (decide (0≤(t6.tmod (5:Int)))&&decide ((t6.tmod (5:Int)).toNat<5)) (
   br (decide ((t6.tmod (5:Int)).toNat<m8.length)) (
   some (.inl ((m8.set ((t6.tmod (5:Int)).toNat) (fT .u64 x3 x2)),(IntKind.wrap .i64 (t6+(1:Int)))))) none) none) none) none) (
   some (.inr (m8,t6,decide (t6<(25:Int)))))
@[reducible] def pi (m5 m6 m7 m9:List Int) (t3:Int) (t4:List Int) (t5:Int) (s:(List Int)×Int):St:=⟨[(0,.ptr 0 0 0 1),(2,.ptr 1001 0 0 1),(5,.lit (.int .u64 t3)),(6,.ptr 6002 0 0 1),(7,.ptr 6003 0 0 1),(20,.agg (ar .u64 t4)),(21,I t5),(26,.ptr 0 0 0 1),(27,I s.2)],[(0,⟨25,true,[ar .u64 m5]⟩),(1001,⟨25,true,[ar .i64 m6]⟩),(2001,⟨24,true,[ar .u64 m7]⟩),(6002,⟨5,true,[ar .u64 s.1]⟩),(6003,⟨25,true,[ar .u64 m9]⟩)]⟩
@[reducible] def pg (m5 m6 m7 m9:List Int) (t3:Int) (t4:List Int) (t5:Int):((List Int)×Int×Bool)→ai×St:=fun e=>(.exit 2,⟨[(0,.ptr 0 0 0 1),(2,.ptr 1001 0 0 1),(5,.lit (.int .u64 t3)),(6,.ptr 6002 0 0 1),(7,.ptr 6003 0 0 1),(20,.agg (ar .u64 t4)),(21,I t5),(26,.ptr 0 0 0 1),(27,I e.2.1),(28,B e.2.2)],[(0,⟨25,true,[ar .u64 m5]⟩),(1001,⟨25,true,[ar .i64 m6]⟩),(2001,⟨24,true,[ar .u64 m7]⟩),(6002,⟨5,true,[ar .u64 e.1]⟩),(6003,⟨25,true,[ar .u64 m9]⟩)]⟩)
theorem AX {m5 m6 m7 m9 t3 t4 t5 s e} (h:Loop (dv m5 m6 m7 m9 t3 t4 t5) s=some e):aD tab ow (.close []) kt (pi m5 m6 m7 m9 t3 t4 t5 s)=some (pg m5 m6 m7 m9 t3 t4 t5 e):=by
 refine lrG (fun s o h=> ?_) h
 obtain ⟨_,_⟩:=s
 simp only [dv] at h
 simp+decide only [pi,pg,kt,go_sem,reduceIte,Nat.reduceAdd]
 all_goals exact go
noncomputable def dn (m10 m11 m12 m13:List Int) (t7:Int) (t8:List Int) (t9:Int):(List Int)×Int→Option (((List Int)×Int)⊕(((List Int)×Int×Bool)))
 | (m14,t10)=>
   br (decide (t10<(25:Int))) (
   br (decide (0≤t10)&&decide (t10.toNat<25)) (
   (m10[t10.toNat]?).bind fun x4=>
   br (decide (0≤((IntKind.wrap .i64 ((t10.tmod (5:Int))+(4:Int))).tmod (5:Int)))&&decide (((IntKind.wrap .i64 ((t10.tmod (5:Int))+(4:Int))).tmod (5:Int)).toNat<5)) (
   (m13[((IntKind.wrap .i64 ((t10.tmod (5:Int))+(4:Int))).tmod (5:Int)).toNat]?).bind fun x5=>
   br (decide (0≤((IntKind.wrap .i64 ((t10.tmod (5:Int))+(1:Int))).tmod (5:Int)))&&decide (((IntKind.wrap .i64 ((t10.tmod (5:Int))+(1:Int))).tmod (5:Int)).toNat<5)) (
   (m13[((IntKind.wrap .i64 ((t10.tmod (5:Int))+(1:Int))).tmod (5:Int)).toNat]?).bind fun x6=>
   (cB x6 (1:Int)).bind fun r_=>
   br (decide (0≤t10)&&decide (t10.toNat<25)) (
   (m11[t10.toNat]?).bind fun x7=>
   (cB (fT .u64 x4 (fT .u64 x5 r_)) x7).bind fun r_2=>
   br (decide (0≤(IntKind.wrap .i64 ((IntKind.wrap .i64 (t10.tdiv (5:Int)))+(IntKind.wrap .i64 ((5:Int)*((IntKind.wrap .i64 ((IntKind.wrap .i64 ((2:Int)*(t10.tmod (5:Int))))+(IntKind.wrap .i64 ((3:Int)*(IntKind.wrap .i64 (t10.tdiv (5:Int))))))).tmod (5:Int)))))))&&decide ((IntKind.wrap .i64 ((IntKind.wrap .i64 (t10.tdiv (5:Int)))+(IntKind.wrap .i64 ((5:Int)*((IntKind.wrap .i64 ((IntKind.wrap .i64 ((2:Int)*(t10.tmod (5:Int))))+(IntKind.wrap .i64 ((3:Int)*(IntKind.wrap .i64 (t10.tdiv (5:Int))))))).tmod (5:Int)))))).toNat<25)) (
   br (decide ((IntKind.wrap .i64 ((IntKind.wrap .i64 (t10.tdiv (5:Int)))+(IntKind.wrap .i64 ((5:Int)*((IntKind.wrap .i64 ((IntKind.wrap .i64 ((2:Int)*(t10.tmod (5:Int))))+(IntKind.wrap .i64 ((3:Int)*(IntKind.wrap .i64 (t10.tdiv (5:Int))))))).tmod (5:Int)))))).toNat<m14.length)) (
   some (.inl ((m14.set ((IntKind.wrap .i64 ((IntKind.wrap .i64 (t10.tdiv (5:Int)))+(IntKind.wrap .i64 ((5:Int)*((IntKind.wrap .i64 ((IntKind.wrap .i64 ((2:Int)*(t10.tmod (5:Int))))+(IntKind.wrap .i64 ((3:Int)*(IntKind.wrap .i64 (t10.tdiv (5:Int))))))).tmod (5:Int)))))).toNat) r_2),(IntKind.wrap .i64 (t10+(1:Int)))))) none) none) none) none) none) none) (
   some (.inr (m14,t10,decide (t10<(25:Int)))))
@[reducible] def pf (m10 m11 m12 m13:List Int) (t7:Int) (t8:List Int) (t9:Int) (s:(List Int)×Int):St:=⟨[(0,.ptr 0 0 0 1),(2,.ptr 1001 0 0 1),(5,.lit (.int .u64 t7)),(6,.ptr 6002 0 0 1),(7,.ptr 6003 0 0 1),(20,.agg (ar .u64 t8)),(21,I t9),(41,.ptr 0 0 0 1),(42,I s.2)],[(0,⟨25,true,[ar .u64 m10]⟩),(1001,⟨25,true,[ar .i64 m11]⟩),(2001,⟨24,true,[ar .u64 m12]⟩),(6002,⟨5,true,[ar .u64 m13]⟩),(6003,⟨25,true,[ar .u64 s.1]⟩)]⟩
@[reducible] def pm (m10 m11 m12 m13:List Int) (t7:Int) (t8:List Int) (t9:Int):((List Int)×Int×Bool)→ai×St:=fun e=>(.exit 4,⟨[(0,.ptr 0 0 0 1),(2,.ptr 1001 0 0 1),(5,.lit (.int .u64 t7)),(6,.ptr 6002 0 0 1),(7,.ptr 6003 0 0 1),(20,.agg (ar .u64 t8)),(21,I t9),(41,.ptr 0 0 0 1),(42,I e.2.1),(43,B e.2.2)],[(0,⟨25,true,[ar .u64 m10]⟩),(1001,⟨25,true,[ar .i64 m11]⟩),(2001,⟨24,true,[ar .u64 m12]⟩),(6002,⟨5,true,[ar .u64 m13]⟩),(6003,⟨25,true,[ar .u64 e.1]⟩)]⟩)
theorem B3 {m10 m11 m12 m13 t7 t8 t9 s e} (h:Loop (dn m10 m11 m12 m13 t7 t8 t9) s=some e):aD tab ow (.close [16011,17013]) jo (pf m10 m11 m12 m13 t7 t8 t9 s)=some (pm m10 m11 m12 m13 t7 t8 t9 e):=by
 refine lrG (fun s o h=> ?_) h
 obtain ⟨_,_⟩:=s
 simp only [dn] at h
 simp+decide only [pf,pm,jo,go_sem,reduceIte,Nat.reduceAdd]
 have d1:= @um
 all_goals exact go
noncomputable def dw (m16 m17 m18 m19:List Int) (t11:Int) (t12:List Int) (t13:Int) (t14:List Int):(List Int)×Int→Option (((List Int)×Int)⊕(((List Int)×Int×Bool)))
 | (m15,t15)=>
   br (decide (t15<(25:Int))) (
   br (decide (0≤t15)&&decide (t15.toNat<25)) (
   (t14[t15.toNat]?).bind fun x8=>
   br (decide (0≤(IntKind.wrap .i64 ((IntKind.wrap .i64 (t15-(t15.tmod (5:Int))))+((IntKind.wrap .i64 ((t15.tmod (5:Int))+(2:Int))).tmod (5:Int)))))&&decide ((IntKind.wrap .i64 ((IntKind.wrap .i64 (t15-(t15.tmod (5:Int))))+((IntKind.wrap .i64 ((t15.tmod (5:Int))+(2:Int))).tmod (5:Int)))).toNat<25)) (
   (m19[(IntKind.wrap .i64 ((IntKind.wrap .i64 (t15-(t15.tmod (5:Int))))+((IntKind.wrap .i64 ((t15.tmod (5:Int))+(2:Int))).tmod (5:Int)))).toNat]?).bind fun x9=>
   br (decide (0≤(IntKind.wrap .i64 ((IntKind.wrap .i64 (t15-(t15.tmod (5:Int))))+((IntKind.wrap .i64 ((t15.tmod (5:Int))+(1:Int))).tmod (5:Int)))))&&decide ((IntKind.wrap .i64 ((IntKind.wrap .i64 (t15-(t15.tmod (5:Int))))+((IntKind.wrap .i64 ((t15.tmod (5:Int))+(1:Int))).tmod (5:Int)))).toNat<25)) (
   (m19[(IntKind.wrap .i64 ((IntKind.wrap .i64 (t15-(t15.tmod (5:Int))))+((IntKind.wrap .i64 ((t15.tmod (5:Int))+(1:Int))).tmod (5:Int)))).toNat]?).bind fun x10=>
   br (decide (0≤t15)&&decide (t15.toNat<25)) (
   br (decide (t15.toNat<m15.length)) (
   some (.inl ((m15.set t15.toNat (fT .u64 x8 (M9 .u64 x9 x10))),(IntKind.wrap .i64 (t15+(1:Int)))))) none) none) none) none) none) (
   some (.inr (m15,t15,decide (t15<(25:Int)))))
@[reducible] def pj (m16 m17 m18 m19:List Int) (t11:Int) (t12:List Int) (t13:Int) (t14:List Int) (s:(List Int)×Int):St:=⟨[(0,.ptr 0 0 0 1),(2,.ptr 1001 0 0 1),(5,.lit (.int .u64 t11)),(7,.ptr 6003 0 0 1),(20,.agg (ar .u64 t12)),(21,I t13),(82,.agg (ar .u64 t14)),(83,I s.2)],[(0,⟨25,true,[ar .u64 s.1]⟩),(1001,⟨25,true,[ar .i64 m16]⟩),(2001,⟨24,true,[ar .u64 m17]⟩),(6002,⟨5,true,[ar .u64 m18]⟩),(6003,⟨25,true,[ar .u64 m19]⟩)]⟩
@[reducible] def pa (m16 m17 m18 m19:List Int) (t11:Int) (t12:List Int) (t13:Int) (t14:List Int):((List Int)×Int×Bool)→ai×St:=fun e=>(.exit 6,⟨[(0,.ptr 0 0 0 1),(2,.ptr 1001 0 0 1),(5,.lit (.int .u64 t11)),(7,.ptr 6003 0 0 1),(20,.agg (ar .u64 t12)),(21,I t13),(82,.agg (ar .u64 t14)),(83,I e.2.1),(84,B e.2.2)],[(0,⟨25,true,[ar .u64 e.1]⟩),(1001,⟨25,true,[ar .i64 m16]⟩),(2001,⟨24,true,[ar .u64 m17]⟩),(6002,⟨5,true,[ar .u64 m18]⟩),(6003,⟨25,true,[ar .u64 m19]⟩)]⟩)
theorem AW {m16 m17 m18 m19 t11 t12 t13 t14 s e} (h:Loop (dw m16 m17 m18 m19 t11 t12 t13 t14) s=some e):aD tab ow (.close []) je (pj m16 m17 m18 m19 t11 t12 t13 t14 s)=some (pa m16 m17 m18 m19 t11 t12 t13 t14 e):=by
 refine lrG (fun s o h=> ?_) h
 obtain ⟨_,_⟩:=s
 simp only [dw] at h
 simp+decide only [pj,pa,je,go_sem,reduceIte,Nat.reduceAdd]
 all_goals exact go
noncomputable def dp (m3 m4 t:List Int):(List Int)×Int→Option (((List Int)×Int)⊕(((List Int)×Int×Bool)))
 | (m2,t2)=>
   br (decide (t2<(24:Int))) (
   br (decide (0≤t2)&&decide (t2.toNat<24)) (
   (t[t2.toNat]?).bind fun x=>
   (Loop (dv m2 m3 m4 (nZ 25) x t t2) ((nZ 5),(0:Int))).bind fun e_=>
   (Loop (dn m2 m3 m4 e_.1 x t t2) ((nZ 25),(0:Int))).bind fun e_2=>
   br (decide (e_2.1.length=25)) (
   (Loop (dw m3 m4 e_.1 e_2.1 x t t2 e_2.1) (m2,(0:Int))).bind fun e_3=>
   (e_3.1[0]?).bind fun x11=>
   br (decide (0<e_3.1.length)) (
   some (.inl ((e_3.1.set 0 (fT .u64 x11 x)),(IntKind.wrap .i64 (t2+(1:Int)))))) none) none) none) (
   some (.inr (m2,t2,decide (t2<(24:Int)))))
@[reducible] def pk (m3 m4 t:List Int) (s:(List Int)×Int):St:=⟨[(0,.ptr 0 0 0 1),(2,.ptr 1001 0 0 1),(20,.agg (ar .u64 t)),(21,I s.2)],[(0,⟨25,true,[ar .u64 s.1]⟩),(1001,⟨25,true,[ar .i64 m3]⟩),(2001,⟨24,true,[ar .u64 m4]⟩)]⟩
@[reducible] def ph (m3 m4 t:List Int):((List Int)×Int×Bool)→ai×St:=fun e=>(.exit 0,⟨[(0,.ptr 0 0 0 1),(2,.ptr 1001 0 0 1),(20,.agg (ar .u64 t)),(21,I e.2.1),(22,B e.2.2)],[(0,⟨25,true,[ar .u64 e.1]⟩),(1001,⟨25,true,[ar .i64 m3]⟩),(2001,⟨24,true,[ar .u64 m4]⟩)]⟩)
theorem B0 {m3 m4 t s e} (h:Loop (dp m3 m4 t) s=some e):aD tab ow (.close [6002,6003,16011,17013]) kj (pk m3 m4 t s)=some (ph m3 m4 t e):=by
 refine lrG (fun s o h=> ?_) h
 obtain ⟨_,_⟩:=s
 simp only [dp] at h
 simp+decide only [pk,ph,kj,go_sem,reduceIte,Nat.reduceAdd]
 have d1:= @AX
 have d2:= @B3
 have d3:= @AW
 all_goals exact go
noncomputable def iw (m:List Int):Option ((List Int)):=
 (Loop (dp ([0,1,62,28,27,36,44,6,55,20,3,10,43,25,39,41,45,15,21,8,18,2,61,56,14]:List Int) ([1,32898,9223372036854808714,9223372039002292224,32907,2147483649,9223372039002292353,9223372036854808585,138,136,2147516425,2147483658,2147516555,9223372036854775947,9223372036854808713,9223372036854808579,9223372036854808578,9223372036854775936,32778,9223372039002259466,9223372039002292353,9223372036854808704,2147483649,9223372039002292232]:List Int) ([1,32898,9223372036854808714,9223372039002292224,32907,2147483649,9223372039002292353,9223372036854808585,138,136,2147516425,2147483658,2147516555,9223372036854775947,9223372036854808713,9223372036854808579,9223372036854808578,9223372036854775936,32778,9223372039002259466,9223372039002292353,9223372036854808704,2147483649,9223372039002292232]:List Int)) (m,(0:Int))).bind fun e_4=>
 some e_4.1
theorem Ed {m r} (h:iw m=some r):Call tab ow 194 [.ptr 0 0 0 1] [⟨25,true,[ar .u64 m]⟩]=some (.tup [],[⟨25,true,[ar .u64 r]⟩]):=by
 rw [ab (af:=iX) rfl]
 unfold iw at h
 simp+decide only [iX,te,go_sem,reduceIte,Nat.reduceAdd]
 have d1:= @B0
 all_goals exact go
section
noncomputable def fa (m2:List Int):(List UInt8)×Int→Option (((List UInt8)×Int)⊕(((List UInt8)×Int×Bool)))
 | (l,t)=>
   br (decide (t<(200:Int))) (
   br (decide (0≤(IntKind.wrap .i64 (t.tdiv (8:Int))))&&decide ((IntKind.wrap .i64 (t.tdiv (8:Int))).toNat<25)) (
   (m2[(IntKind.wrap .i64 (t.tdiv (8:Int))).toNat]?).bind fun x=>
   br (decide (0≤(IntKind.wrap .i64 ((8:Int)*(t.tmod (8:Int)))))) (
   br (aZ ((l++([(UInt8.ofInt (aL .u64 x (IntKind.wrap .i64 ((8:Int)*(t.tmod (8:Int))))))]:List UInt8)).length) 1) (
   some (.inl ((l++([(UInt8.ofInt (aL .u64 x (IntKind.wrap .i64 ((8:Int)*(t.tmod (8:Int))))))]:List UInt8)),(IntKind.wrap .i64 (t+(1:Int)))))) none) none) none) (
   some (.inr (l,t,decide (t<(200:Int)))))
@[reducible] def vy (m2:List Int) (s:(List UInt8)×Int):St:=⟨[(0,.ptr 0 0 0 1),(3,.sl 2000 0 s.1.length),(6,I s.2)],[(0,⟨25,true,[ar .u64 m2]⟩),(2000,⟨1,false,rws eU8 s.1⟩)]⟩
@[reducible] def vq (m2:List Int):((List UInt8)×Int×Bool)→ai×St:=fun e=>(.exit 0,⟨[(0,.ptr 0 0 0 1),(3,.sl 2000 0 e.1.length),(6,I e.2.1),(7,B e.2.2)],[(0,⟨25,true,[ar .u64 m2]⟩),(2000,⟨1,false,rws eU8 e.1⟩)]⟩)
theorem FY {m2 s e} (h:Loop (fa m2) s=some e):aD tab ow (.close [6012,6013]) nh (vy m2 s)=some (vq m2 e):=by
 refine lrG (fun s o h=> ?_) h
 obtain ⟨_,_⟩:=s
 simp only [fa] at h
 simp+decide only [vy,vq,nh,go_sem,reduceIte,Nat.reduceAdd]
 all_goals exact go
noncomputable def mG (m:List Int):Option ((List UInt8)×(List Int)):=
 (Loop (fa m) (([]:List UInt8),(0:Int))).bind fun e_=>
 some (e_.1,m)
theorem Mh {m r} (h:mG m=some r):Call tab ow 195 [.ptr 0 0 0 1] [⟨25,true,[ar .u64 m]⟩]=some (sl eU8 r.1,[⟨25,true,[ar .u64 r.2]⟩]):=by
 rw [ab (af:=lX) rfl]
 unfold mG at h
 simp+decide only [lX,zw,go_sem,reduceIte,Nat.reduceAdd]
 have d1:= @FY
 all_goals exact go
end
section
noncomputable def jM (t:List (List UInt8)) (t2:Int):(List UInt8)×Int→Option (((List UInt8)×Int)⊕(((List UInt8)×Int×Bool)))
 | (l,t3)=>
   br (decide (t3<t2)) (
   (atL t t3).bind fun x=>
   br (aZ ((l++x).length) 1) (
   some (.inl ((l++x),(IntKind.wrap .i64 (t3+(1:Int)))))) none) (
   some (.inr (l,t3,decide (t3<t2))))
@[reducible] def Ej (t:List (List UInt8)) (t2:Int) (s:(List UInt8)×Int):St:=⟨[(3,.sl 2000 0 s.1.length),(10,sl (eL eU8) t),(11,I t2),(12,I s.2)],[(2000,⟨1,false,rws eU8 s.1⟩)]⟩
@[reducible] def F6 (t:List (List UInt8)) (t2:Int):((List UInt8)×Int×Bool)→ai×St:=fun e=>(.exit 0,⟨[(3,.sl 2000 0 e.1.length),(10,sl (eL eU8) t),(11,I t2),(12,I e.2.1),(13,B e.2.2)],[(2000,⟨1,false,rws eU8 e.1⟩)]⟩)
theorem Pb {t t2 s e} (h:Loop (jM t t2) s=some e):aD tab ow (.close [6002]) wT (Ej t t2 s)=some (F6 t t2 e):=by
 refine lrG (fun s o h=> ?_) h
 obtain ⟨_,_⟩:=s
 simp only [jM] at h
 simp+decide only [Ej,F6,wT,go_sem,reduceIte,Nat.reduceAdd]
 all_goals exact go
noncomputable def hU (l3:List UInt8):(List UInt8)→Option (((List UInt8))⊕(((List UInt8)×Bool)))
 |l2=>
  br ((((l2.length:Nat):Int).tmod (136:Int)) !=(0:Int)) (
  br (aZ ((l2++([(0:UInt8)]:List UInt8)).length) 1) (
  some (.inl (l2++([(0:UInt8)]:List UInt8)))) none) (
  some (.inr (l2,((((l2.length:Nat):Int).tmod (136:Int)) !=(0:Int)))))
@[reducible] def Eu (l3:List UInt8) (s:(List UInt8)):St:=⟨[(3,.sl 2000 0 s.length)],[(2000,⟨1,false,rws eU8 s⟩),(8001,⟨1,false,rws eU8 l3⟩)]⟩
@[reducible] def EM (l3:List UInt8):((List UInt8)×Bool)→ai×St:=fun e=>(.exit 2,⟨[(3,.sl 2000 0 e.1.length),(26,B e.2)],[(2000,⟨1,false,rws eU8 e.1⟩),(8001,⟨1,false,rws eU8 l3⟩)]⟩)
theorem QI {l3 s e} (h:Loop (hU l3) s=some e):aD tab ow (.close [10001,10002]) wJ (Eu l3 s)=some (EM l3 e):=by
 refine lrG (fun s o h=> ?_) h
 simp only [hU] at h
 simp+decide only [Eu,EM,wJ,go_sem,reduceIte,Nat.reduceAdd]
 all_goals exact go
noncomputable def jO (l5 all2:List UInt8) (t4:List Int):(List Int)×Int→Option (((List Int)×Int)⊕(((List Int)×Int×Bool)))
 | (m2,t5)=>
   br (decide (t5<(25:Int))) (
   br (decide (0≤t5)&&decide (t5.toNat<25)) (
   (t4[t5.toNat]?).bind fun x4=>
   br (decide (0≤t5)&&decide (t5.toNat<25)) (
   (m2[t5.toNat]?).bind fun x5=>
   br (decide (0≤t5)&&decide (t5.toNat<25)) (
   br (decide (t5.toNat<m2.length)) (
   some (.inl ((m2.set t5.toNat (fT .u64 x5 x4)),(IntKind.wrap .i64 (t5+(1:Int)))))) none) none) none) none) (
   some (.inr (m2,t5,decide (t5<(25:Int)))))
@[reducible] def EH (l5 all2:List UInt8) (t4:List Int) (s:(List Int)×Int):St:=⟨[(3,sl eU8 all2),(6,.ptr 12001 0 0 1),(46,.agg (ar .u64 t4)),(47,I s.2)],[(8001,⟨1,false,rws eU8 l5⟩),(12001,⟨25,true,[ar .u64 s.1]⟩)]⟩
@[reducible] def E8 (l5 all2:List UInt8) (t4:List Int):((List Int)×Int×Bool)→ai×St:=fun e=>(.exit 6,⟨[(3,sl eU8 all2),(6,.ptr 12001 0 0 1),(46,.agg (ar .u64 t4)),(47,I e.2.1),(48,B e.2.2)],[(8001,⟨1,false,rws eU8 l5⟩),(12001,⟨25,true,[ar .u64 e.1]⟩)]⟩)
theorem Qu {l5 all2 t4 s e} (h:Loop (jO l5 all2 t4) s=some e):aD tab ow (.close []) uT (EH l5 all2 t4 s)=some (E8 l5 all2 t4 e):=by
 refine lrG (fun s o h=> ?_) h
 obtain ⟨_,_⟩:=s
 simp only [jO] at h
 simp+decide only [EH,E8,uT,go_sem,reduceIte,Nat.reduceAdd]
 all_goals exact go
noncomputable def jL (l4:List UInt8):(List Int)×(List UInt8)→Option (((List Int)×(List UInt8))⊕(((List Int)×(List UInt8)×Bool)))
 | (m,all)=>
   br (decide (((all.length:Nat):Int)>(0:Int))) (
   (sK all (0:Int) (136:Int)).bind fun y=>
   (w6 y).bind fun r_=>
   (Loop (jO l4 all r_) (m,(0:Int))).bind fun e_3=>
   (iw e_3.1).bind fun r_2=>
   (sK all (136:Int) ((all.length:Nat):Int)).bind fun y2=>
   some (.inl (r_2,y2))) (
   some (.inr (m,all,decide (((all.length:Nat):Int)>(0:Int)))))
@[reducible] def wB (l4:List UInt8) (s:(List Int)×(List UInt8)):St:=⟨[(3,sl eU8 s.2),(6,.ptr 12001 0 0 1)],[(8001,⟨1,false,rws eU8 l4⟩),(12001,⟨25,true,[ar .u64 s.1]⟩)]⟩
@[reducible] def Ea (l4:List UInt8):((List Int)×(List UInt8)×Bool)→ai×St:=fun e=>(.exit 4,⟨[(3,sl eU8 e.2.1),(6,.ptr 12001 0 0 1),(41,B e.2.2)],[(8001,⟨1,false,rws eU8 l4⟩),(12001,⟨25,true,[ar .u64 e.1]⟩)]⟩)
theorem PS {l4 s e} (h:Loop (jL l4) s=some e):aD tab ow (.close [15002,20000,2000]) uM (wB l4 s)=some (Ea l4 e):=by
 refine lrG (fun s o h=> ?_) h
 obtain ⟨_,_⟩:=s
 simp only [jL] at h
 simp+decide only [wB,Ea,uM,go_sem,reduceIte,Nat.reduceAdd]
 have d1:= @SG
 have d2:= @Qu
 have d3:= @Ed
 all_goals exact go
noncomputable def mf (pieces:(List (List UInt8))):Option ((List UInt8)):=
 (Loop (jM pieces ((pieces.length:Nat):Int)) (([]:List UInt8),(0:Int))).bind fun e_=>
 br (aZ ((e_.1++([(1:UInt8)]:List UInt8)).length) 1) (
 (Loop (hU ([(1:UInt8)]:List UInt8)) (e_.1++([(1:UInt8)]:List UInt8))).bind fun e_2=>
 br (decide (0≤(IntKind.wrap .i64 (((e_2.1.length:Nat):Int)-(1:Int))))) (
 br (decide ((IntKind.wrap .i64 (((e_2.1.length:Nat):Int)-(1:Int))).toNat<e_2.1.length)) (
 (e_2.1[(IntKind.wrap .i64 (((e_2.1.length:Nat):Int)-(1:Int))).toNat]?).bind fun x2=>
 br (decide (0≤(IntKind.wrap .i64 (((e_2.1.length:Nat):Int)-(1:Int))))) (
 br (decide ((IntKind.wrap .i64 (((e_2.1.length:Nat):Int)-(1:Int))).toNat<e_2.1.length)) (
 (e_2.1[(IntKind.wrap .i64 (((e_2.1.length:Nat):Int)-(1:Int))).toNat]?).bind fun x3=>
 (Loop (jL ([(1:UInt8)]:List UInt8)) ((nZ 25),(e_2.1.set ((IntKind.wrap .i64 (((e_2.1.length:Nat):Int)-(1:Int))).toNat) (UInt8.ofInt (uq .u8 (x2.toNat:Int) (128:Int)))))).bind fun e_4=>
 (mG e_4.1).bind fun r_3=>
 (sK r_3.1 (0:Int) (32:Int)).bind fun y3=>
 some y3) none) none) none) none) none
theorem rP {pieces r} (h:mf pieces=some r):Call tab ow 95 [sl (eL eU8) pieces] []=some (S r,[]):=by
 rw [ab (af:=wH) rfl]
 unfold mf at h
 simp+decide only [wH,ME,go_sem,reduceIte,Nat.reduceAdd]
 have d1:= @Pb
 have d2:= @QI
 have d3:= @PS
 simp only [wB] at d3
 have d4:= @Mh
 all_goals exact go
end
section
noncomputable def oD (t:(List UInt8)):Option ((List UInt8)):=
 br (aZ t.length 1) (
 (mf ([t]:List (List UInt8))).bind fun r_=>
 some r_) none
theorem wU {t r} (h:oD t=some r):Call tab ow 267 [S t] []=some (S r,[]):=by
 rw [ab (af:=wY) rfl]
 unfold oD at h
 simp+decide only [wY,Kq,go_sem,reduceIte,Nat.reduceAdd]
 have d1:= @rP
 all_goals exact go
end
noncomputable def lw (a b:(List UInt8)):Option ((List UInt8)):=
 br (aZ ((([1]:List UInt8)).length+a.length) 1) (
 br (aZ (((([1]:List UInt8))++a).length+b.length) 1) (
 some (((([1]:List UInt8))++a)++b)) none) none
theorem DX {a b r} (h:lw a b=some r):Call tab ow 269 [S a,S b] []=some (S r,[]):=by
 rw [ab (af:=pH) rfl]
 unfold lw at h
 simp+decide only [pH,Da,go_sem,reduceIte,Nat.reduceAdd]
 all_goals exact go
section
noncomputable def jH (t:List (List UInt8)) (t2:Int):(List (List UInt8))×Int→Option (((List (List UInt8))×Int)⊕(((List (List UInt8))×Int×Bool)))
 | (l,t3)=>
   br (decide (t3<t2)) (
   (atL t t3).bind fun x=>
   (ne x).bind fun r_=>
   (oD r_).bind fun r_2=>
   br (aZ ((l++([r_2]:List (List UInt8))).length) 16) (
   some (.inl ((l++([r_2]:List (List UInt8))),(IntKind.wrap .i64 (t3+(1:Int)))))) none) (
   some (.inr (l,t3,decide (t3<t2))))
@[reducible] def Ev (t:List (List UInt8)) (t2:Int) (s:(List (List UInt8))×Int):St:=⟨[(3,.sl 2000 0 s.1.length),(10,sl eS t),(11,I t2),(12,I s.2)],[(2000,⟨1,false,rws eS s.1⟩)]⟩
@[reducible] def DG (t:List (List UInt8)) (t2:Int):((List (List UInt8))×Int×Bool)→ai×St:=fun e=>(.exit 0,⟨[(3,.sl 2000 0 e.1.length),(10,sl eS t),(11,I t2),(12,I e.2.1),(13,B e.2.2)],[(2000,⟨1,false,rws eS e.1⟩)]⟩)
theorem QS {t t2 s e} (h:Loop (jH t t2) s=some e):aD tab ow (.close [6002,6003,6004,6005]) wN (Ev t t2 s)=some (DG t t2 e):=by
 refine lrG (fun s o h=> ?_) h
 obtain ⟨_,_⟩:=s
 simp only [jH] at h
 simp+decide only [Ev,DG,wN,go_sem,reduceIte,Nat.reduceAdd]
 have d1:= @E6
 have d2:= @wU
 all_goals exact go
noncomputable def jQ (l3:List (List (List UInt8))) (row2:List (List UInt8)):(List (List UInt8))×Int→Option (((List (List UInt8))×Int)⊕(((List (List UInt8))×Int×Bool)))
 | (l4,i)=>
   br (decide (i<((row2.length:Nat):Int))) (
   (atL row2 i).bind fun x2=>
   (atL row2 (IntKind.wrap .i64 (i+(1:Int)))).bind fun x3=>
   (lw x2 x3).bind fun r_3=>
   (oD r_3).bind fun r_4=>
   br (aZ ((l4++([r_4]:List (List UInt8))).length) 16) (
   some (.inl ((l4++([r_4]:List (List UInt8))),(IntKind.wrap .i64 (i+(2:Int)))))) none) (
   some (.inr (l4,i,decide (i<((row2.length:Nat):Int)))))
@[reducible] def DZ (l3:List (List (List UInt8))) (row2:List (List UInt8)) (s:(List (List UInt8))×Int):St:=⟨[(3,sl eS row2),(6,.sl 8001 0 l3.length),(7,.sl 10000 0 s.1.length),(8,I s.2)],[(8001,⟨1,false,rws (eL eS) l3⟩),(10000,⟨1,false,rws eS s.1⟩)]⟩
@[reducible] def DY (l3:List (List (List UInt8))) (row2:List (List UInt8)):((List (List UInt8))×Int×Bool)→ai×St:=fun e=>(.exit 4,⟨[(3,sl eS row2),(6,.sl 8001 0 l3.length),(7,.sl 10000 0 e.1.length),(8,I e.2.1),(32,B e.2.2)],[(8001,⟨1,false,rws (eL eS) l3⟩),(10000,⟨1,false,rws eS e.1⟩)]⟩)
theorem QD {l3 row2 s e} (h:Loop (jQ l3 row2) s=some e):aD tab ow (.close [14010,14011,14012,14013]) uQ (DZ l3 row2 s)=some (DY l3 row2 e):=by
 refine lrG (fun s o h=> ?_) h
 obtain ⟨_,_⟩:=s
 simp only [jQ] at h
 simp+decide only [DZ,DY,uQ,go_sem,reduceIte,Nat.reduceAdd]
 have d1:= @DX
 have d2:= @wU
 all_goals exact go
noncomputable def i5:(List (List (List UInt8)))×(List (List UInt8))→Option (((List (List (List UInt8)))×(List (List UInt8)))⊕(((List (List (List UInt8)))×(List (List UInt8))×Bool)))
 | (l2,row)=>
   br (decide (((row.length:Nat):Int)>(1:Int))) (
   (Loop (jQ l2 row) (([]:List (List UInt8)),(0:Int))).bind fun e_2=>
   br (aZ ((l2++([e_2.1]:List (List (List UInt8)))).length) 24) (
   some (.inl ((l2++([e_2.1]:List (List (List UInt8)))),e_2.1))) none) (
   some (.inr (l2,row,decide (((row.length:Nat):Int)>(1:Int)))))
@[reducible] def Dh (s:(List (List (List UInt8)))×(List (List UInt8))):St:=⟨[(3,sl eS s.2),(6,.sl 8001 0 s.1.length)],[(8001,⟨1,false,rws (eL eS) s.1⟩)]⟩
@[reducible] def Ei:((List (List (List UInt8)))×(List (List UInt8))×Bool)→ai×St:=fun e=>(.exit 2,⟨[(3,sl eS e.2.1),(6,.sl 8001 0 e.1.length),(27,B e.2.2)],[(8001,⟨1,false,rws (eL eS) e.1⟩)]⟩)
theorem QM { s e} (h:Loop (i5) s=some e):aD tab ow (.close [10000,14010,14011,14012,14013,15002,15003]) xf (Dh s)=some (Ei e):=by
 refine lrG (fun s o h=> ?_) h
 obtain ⟨_,_⟩:=s
 simp only [i5] at h
 simp+decide only [Dh,Ei,xf,go_sem,reduceIte,Nat.reduceAdd]
 have d1:= @QD
 all_goals exact go
noncomputable def zB (leaves:(List (List UInt8))):Option ((List (List (List UInt8)))):=
 (Loop (jH leaves ((leaves.length:Nat):Int)) (([]:List (List UInt8)),(0:Int))).bind fun e_=>
 (Loop (i5) (([e_.1]:List (List (List UInt8))),e_.1)).bind fun e_3=>
 some e_3.1
theorem Uu {leaves r} (h:zB leaves=some r):Call tab ow 151 [sl eS leaves] []=some (sl (eL eS) r,[]):=by
 rw [ab (af:=wt) rfl]
 unfold zB at h
 simp+decide only [wt,MD,go_sem,reduceIte,Nat.reduceAdd]
 have d1:= @QS
 have d2:= @QM
 all_goals exact go
end
noncomputable def rv (word:(List Ext)):Option (aP):=
 (sE word).bind fun r_=>
 (zB r_).bind fun r_2=>
 some (aP.mk word r_2)
theorem CP {word r} (h:rv word=some r):Call tab ow 64 [sl ae word] []=some (.agg [sl ae r.word,sl (eL eS) r.rows],[]):=by
 rw [ab (af:=wh) rfl]
 unfold rv at h
 simp+decide only [wh,Lt,go_sem,reduceIte,Nat.reduceAdd]
 have d1:= @Qd
 have d2:= @Uu
 all_goals exact go
noncomputable def rX (rows:(List (List (List UInt8)))):Option ((List UInt8)):=
 (atL rows (IntKind.wrap .i64 (((rows.length:Nat):Int)-(1:Int)))).bind fun x=>
 (atL x (0:Int)).bind fun x2=>
 some x2
theorem KY {rows r} (h:rX rows=some r):Call tab ow 63 [sl (eL eS) rows] []=some (S r,[]):=by
 rw [ab (af:=wI) rfl]
 unfold rX at h
 simp+decide only [wI,LX,go_sem,reduceIte,Nat.reduceAdd]
 all_goals exact go
noncomputable def kD (table:(List Ext)) (rate:Int):Option ((List UInt8)×Int):=
 br (decide (((table.length:Nat):Int)>(4096:Int))) (
 some ((([]:List UInt8)),(2:Int))) (
 (lL table).bind fun r_=>
 br (!r_) (
 some ((([]:List UInt8)),(1:Int))) (
 (we ((table.length:Nat):Int) (2:Int) (64:Int)).bind fun r_2=>
 br (!r_2) (
 some ((([]:List UInt8)),(4:Int))) (
 (we rate (1:Int) (3:Int)).bind fun r_3=>
 br (!r_3) (
 some ((([]:List UInt8)),(4:Int))) (
 (re table).bind fun r_4=>
 (qV r_4 rate).bind fun r_5=>
 (rv r_5).bind fun r_6=>
 (rX r_6.rows).bind fun r_7=>
 some (r_7,(0:Int))))))
theorem Iy {table rate r} (h:kD table rate=some r):Call tab ow 13 [sl ae table,I rate] []=some (.tup [S r.1,I r.2],[]):=by
 rw [ab (af:=lb) rfl]
 unfold kD at h
 simp+decide only [lb,xS,go_sem,reduceIte,Nat.reduceAdd]
 have d1:= @yS
 have d2:= @zi
 have d3:= @Ii
 have d4:= @Io
 have d5:= @CP
 have d6:= @KY
 all_goals exact go
noncomputable def fw (n2 most2:Int):Int→Option ((Int)⊕(Unit⊕(Int×Bool)))
 |k=>
  br (decide (k≤most2)) (
  br (n2==k) (
  some (.inr (.inl ()))) (
  some (.inl (IntKind.wrap .i64 (k*(2:Int)))))) (
  some (.inr (.inr (k,decide (k≤most2)))))
@[reducible] def zj (n2 most2 s:Int):St:=⟨[(0,I n2),(1,I most2),(5,I s)],[]⟩
@[reducible] def zf (n2 most2:Int):(Unit⊕(Int×Bool))→ai×St:=alt (fun e=>((.ret,⟨[(4,B true)],[]⟩):ai×St)) (fun e=>(.exit 0,⟨[(0,I n2),(1,I most2),(5,I e.1),(8,B e.2)],[]⟩))
theorem M2 {n2 most2 s e} (h:Loop (fw n2 most2) s=some e):aD tab ow (.close []) sd (zj n2 most2 s)=some (zf n2 most2 e):=by
 refine lrG (fun s o h=> ?_) h
 simp only [fw] at h
 simp+decide only [zj,zf,sd,go_sem,reduceIte,Nat.reduceAdd]
 all_goals exact go
noncomputable def nm (n most:Int):Option (Bool):=
 (Loop (fw n most) (1:Int)).bind (alt (fun e_2=>
 some true) (fun e_3=>
 some false))
theorem Ef {n most r} (h:nm n most=some r):Call tab ow 157 [I n,I most] []=some (B r,[]):=by
 rw [ab (af:=qu) rfl]
 unfold nm at h
 simp+decide only [qu,Do,go_sem,reduceIte,Nat.reduceAdd]
 have d1:= @M2
 all_goals exact go
noncomputable def wZ (n:Int):Option (Bool):=
 (nm n (64:Int)).bind fun r_=>
 some r_
theorem Rl {n r} (h:wZ n=some r):Call tab ow 156 [I n] []=some (B r,[]):=by
 rw [ab (af:=pr) rfl]
 unfold wZ at h
 simp+decide only [pr,Fv,go_sem,reduceIte,Nat.reduceAdd]
 have d1:= @Ef
 all_goals exact go
noncomputable def gx (n low high:Int):Option (Bool):=
 br (decide (low≤n)) (
 some (decide (n≤high))) (
 some false)
theorem ra {n low high r} (h:gx n low high=some r):Call tab ow 69 [I n,I low,I high] []=some (B r,[]):=by
 rw [ab (af:=AL) rfl]
 unfold gx at h
 simp+decide only [AL,P1,go_sem,reduceIte,Nat.reduceAdd]
 all_goals exact go
noncomputable def qH (a:Int):Option (Bool):=
 (gx a (0:Int) (2130706432:Int)).bind fun r_=>
 some r_
theorem U3 {a r} (h:qH a=some r):Call tab ow 196 [I a] []=some (B r,[]):=by
 rw [ab (af:=ti) rfl]
 unfold qH at h
 simp+decide only [ti,HC,go_sem,reduceIte,Nat.reduceAdd]
 have d1:= @ra
 all_goals exact go
noncomputable def tW (a:Ext):Option (Bool):=
 (qH a.A).bind fun r_=>
 br r_ (
 (qH a.B).bind fun r_2=>
 some r_2) (
 some false)
theorem Gn {a r} (h:tW a=some r):Call tab ow 96 [.agg [I a.A,I a.B]] []=some (B r,[]):=by
 rw [ab (af:=Ak) rfl]
 unfold tW at h
 simp+decide only [Ak,OC,go_sem,reduceIte,Nat.reduceAdd]
 have d1:= @U3
 all_goals exact go
noncomputable def uv (list2:List Ext):Int→Option ((Int)⊕(Unit⊕(Int×Bool)))
 |i=>
  br (decide (i<((list2.length:Nat):Int))) (
  (atL list2 i).bind fun x=>
  (tW x).bind fun r_=>
  br (!r_) (
  some (.inr (.inl ()))) (
  some (.inl (IntKind.wrap .i64 (i+(1:Int)))))) (
  some (.inr (.inr (i,decide (i<((list2.length:Nat):Int))))))
@[reducible] def Bo (list2:List Ext) (s:Int):St:=⟨[(0,sl ae list2),(3,I s)],[]⟩
@[reducible] def Bx (list2:List Ext):(Unit⊕(Int×Bool))→ai×St:=alt (fun e=>((.ret,⟨[(2,B false)],[]⟩):ai×St)) (fun e=>(.exit 0,⟨[(0,sl ae list2),(3,I e.1),(7,B e.2)],[]⟩))
theorem NI {list2 s e} (h:Loop (uv list2) s=some e):aD tab ow (.close [5004]) uE (Bo list2 s)=some (Bx list2 e):=by
 refine lrG (fun s o h=> ?_) h
 simp only [uv] at h
 simp+decide only [Bo,Bx,uE,go_sem,reduceIte,Nat.reduceAdd]
 have d1:= @Gn
 all_goals exact go
noncomputable def k8 (list:(List Ext)):Option (Bool):=
 (Loop (uv list) (0:Int)).bind (alt (fun e_2=>
 some false) (fun e_3=>
 some true))
theorem ol {list r} (h:k8 list=some r):Call tab ow 105 [sl ae list] []=some (B r,[]):=by
 rw [ab (af:=sW) rfl]
 unfold k8 at h
 simp+decide only [sW,H7,go_sem,reduceIte,Nat.reduceAdd]
 have d1:= @NI
 all_goals exact go
noncomputable def rb (list:(List Ext)):Option (Bool):=
 br (decide (((list.length:Nat):Int)>(4096:Int))) (
 some false) (
 (wZ ((list.length:Nat):Int)).bind fun r_=>
 br r_ (
 (k8 list).bind fun r_2=>
 some r_2) (
 some false))
theorem GU {list r} (h:rb list=some r):Call tab ow 67 [sl ae list] []=some (B r,[]):=by
 rw [ab (af:=tS) rfl]
 unfold rb at h
 simp+decide only [tS,HH,go_sem,reduceIte,Nat.reduceAdd]
 have d1:= @Rl
 have d2:= @ol
 all_goals exact go
noncomputable def qF (n:Int):Option (Bool):=
 (nm n (64:Int)).bind fun r_=>
 br r_ (
 some (decide (n>(1:Int)))) (
 some false)
theorem H9 {n r} (h:qF n=some r):Call tab ow 68 [I n] []=some (B r,[]):=by
 rw [ab (af:=tv) rfl]
 unfold qF at h
 simp+decide only [tv,I0,go_sem,reduceIte,Nat.reduceAdd]
 have d1:= @Ef
 all_goals exact go
noncomputable def oy (a b:Int):Option (Int):=
 some ((IntKind.wrap .i64 (a+b)).tmod (2130706433:Int))
theorem L4 {a b r} (h:oy a b=some r):Call tab ow 244 [I a,I b] []=some (I r,[]):=by
 rw [ab (af:=wX) rfl]
 unfold oy at h
 simp+decide only [wX,Kc,go_sem,reduceIte,Nat.reduceAdd]
 all_goals exact go
noncomputable def gG (a b:Ext):Option (Ext):=
 (oy a.A b.A).bind fun r_=>
 (oy a.B b.B).bind fun r_2=>
 some (Ext.mk r_ r_2)
theorem jk {a b r} (h:gG a b=some r):Call tab ow 197 [.agg [I a.A,I a.B],.agg [I b.A,I b.B]] []=some (.agg [I r.A,I r.B],[]):=by
 rw [ab (af:=xh) rfl]
 unfold gG at h
 simp+decide only [xh,LF,go_sem,reduceIte,Nat.reduceAdd]
 have d1:= @L4
 all_goals exact go
noncomputable def rL (a b:Int):Option (Int):=
 some ((IntKind.wrap .i64 ((IntKind.wrap .i64 (a+(2130706433:Int)))-b)).tmod (2130706433:Int))
theorem K5 {a b r} (h:rL a b=some r):Call tab ow 245 [I a,I b] []=some (I r,[]):=by
 rw [ab (af:=wv) rfl]
 unfold rL at h
 simp+decide only [wv,Ms,go_sem,reduceIte,Nat.reduceAdd]
 all_goals exact go
noncomputable def jC (a b:Ext):Option (Ext):=
 (rL a.A b.A).bind fun r_=>
 (rL a.B b.B).bind fun r_2=>
 some (Ext.mk r_ r_2)
theorem li {a b r} (h:jC a b=some r):Call tab ow 280 [.agg [I a.A,I a.B],.agg [I b.A,I b.B]] []=some (.agg [I r.A,I r.B],[]):=by
 rw [ab (af:=wo) rfl]
 unfold jC at h
 simp+decide only [wo,Lo,go_sem,reduceIte,Nat.reduceAdd]
 have d1:= @K5
 all_goals exact go
section
noncomputable def dV (back3:Bool) (w_2:Int):(List Ext)×Int→Option (((List Ext)×Int)⊕(((List Ext)×Int×Bool)))
 | (l2,i)=>
   br (decide (i<((l2.length:Nat):Int))) (
   br ((bk .i64 i w_2)==(0:Int)) (
   some (.inl (l2,(IntKind.wrap .i64 (i+(1:Int)))))) (
   br back3 (
   br (decide (0≤i)) (
   br (decide (i.toNat<l2.length)) (
   (l2[i.toNat]?).bind fun x=>
   br (decide (0≤(fT .i64 i w_2))) (
   br (decide ((fT .i64 i w_2).toNat<l2.length)) (
   (l2[(fT .i64 i w_2).toNat]?).bind fun x2=>
   (gG x x2).bind fun r_=>
   br (decide (0≤i)) (
   br (decide (i.toNat<l2.length)) (
   (l2[i.toNat]?).bind fun x3=>
   some (.inl ((l2.set i.toNat r_),(IntKind.wrap .i64 (i+(1:Int)))))) none) none) none) none) none) none) (
   br (decide (0≤i)) (
   br (decide (i.toNat<l2.length)) (
   (l2[i.toNat]?).bind fun x4=>
   br (decide (0≤(fT .i64 i w_2))) (
   br (decide ((fT .i64 i w_2).toNat<l2.length)) (
   (l2[(fT .i64 i w_2).toNat]?).bind fun x5=>
   (jC x4 x5).bind fun r_2=>
   br (decide (0≤i)) (
   br (decide (i.toNat<l2.length)) (
   (l2[i.toNat]?).bind fun x6=>
   some (.inl ((l2.set i.toNat r_2),(IntKind.wrap .i64 (i+(1:Int)))))) none) none) none) none) none) none))) (
   some (.inr (l2,i,decide (i<((l2.length:Nat):Int)))))
@[reducible] def zo (back3:Bool) (w_2:Int) (s:(List Ext)×Int):St:=⟨[(1,B back3),(5,.sl 2000 0 s.1.length),(6,I w_2),(7,I s.2)],[(2000,⟨2,false,rws ae s.1⟩)]⟩
@[reducible] def A3 (back3:Bool) (w_2:Int):((List Ext)×Int×Bool)→ai×St:=fun e=>(.exit 2,⟨[(1,B back3),(5,.sl 2000 0 e.1.length),(6,I w_2),(7,I e.2.1),(20,B e.2.2)],[(2000,⟨2,false,rws ae e.1⟩)]⟩)
theorem MC {back3 w_2 s e} (h:Loop (dV back3 w_2) s=some e):aD tab ow (.close [11012,12012]) sI (zo back3 w_2 s)=some (A3 back3 w_2 e):=by
 refine lrG (fun s o h=> ?_) h
 obtain ⟨_,_⟩:=s
 simp only [dV] at h
 simp+decide only [zo,A3,sI,go_sem,reduceIte,Nat.reduceAdd]
 have d1:= @jk
 have d2:= @li
 all_goals exact go
noncomputable def fi (back2:Bool):(List Ext)×Int→Option (((List Ext)×Int)⊕(((List Ext)×Int×Bool)))
 | (l,w_)=>
   br (decide (w_<((l.length:Nat):Int))) (
   (Loop (dV back2 w_) (l,(0:Int))).bind fun e_=>
   some (.inl (e_.1,(IntKind.wrap .i64 (w_*(2:Int)))))) (
   some (.inr (l,w_,decide (w_<((l.length:Nat):Int)))))
@[reducible] def zL (back2:Bool) (s:(List Ext)×Int):St:=⟨[(1,B back2),(5,.sl 2000 0 s.1.length),(6,I s.2)],[(2000,⟨2,false,rws ae s.1⟩)]⟩
@[reducible] def zk (back2:Bool):((List Ext)×Int×Bool)→ai×St:=fun e=>(.exit 0,⟨[(1,B back2),(5,.sl 2000 0 e.1.length),(6,I e.2.1),(14,B e.2.2)],[(2000,⟨2,false,rws ae e.1⟩)]⟩)
theorem Kj {back2 s e} (h:Loop (fi back2) s=some e):aD tab ow (.close [11012,12012]) ru (zL back2 s)=some (zk back2 e):=by
 refine lrG (fun s o h=> ?_) h
 obtain ⟨_,_⟩:=s
 simp only [fi] at h
 simp+decide only [zL,zk,ru,go_sem,reduceIte,Nat.reduceAdd]
 have d1:= @MC
 all_goals exact go
noncomputable def sG (table:(List Ext)) (back:Bool):Option ((List Ext)):=
 br (aZ ((([]:List Ext)++table).length) 16) (
 (Loop (fi back) ((([]:List Ext)++table),(1:Int))).bind fun e_2=>
 some e_2.1) none
theorem R4 {table back r} (h:sG table back=some r):Call tab ow 161 [sl ae table,B back] []=some (sl ae r,[]):=by
 rw [ab (af:=qv) rfl]
 unfold sG at h
 simp+decide only [qv,De,go_sem,reduceIte,Nat.reduceAdd]
 have d1:= @Kj
 all_goals exact go
end
noncomputable def g7 (n2:Int):Int→Option ((Int)⊕((Int×Bool)))
 |k=>
  br (decide (0≤(IntKind.wrap .u64 k))) (
  br (decide ((bW .i64 (1:Int) (IntKind.wrap .u64 k))<n2)) (
  some (.inl (IntKind.wrap .i64 (k+(1:Int))))) (
  some (.inr (k,decide ((bW .i64 (1:Int) (IntKind.wrap .u64 k))<n2))))) none
@[reducible] def Bk (n2 s:Int):St:=⟨[(0,I n2),(3,I s)],[]⟩
@[reducible] def Cl (n2:Int):(Int×Bool)→ai×St:=fun e=>(.exit 0,⟨[(0,I n2),(3,I e.1),(8,B e.2)],[]⟩)
theorem MS {n2 s e} (h:Loop (g7 n2) s=some e):aD tab ow (.close []) uy (Bk n2 s)=some (Cl n2 e):=by
 refine lrG (fun s o h=> ?_) h
 simp only [g7] at h
 simp+decide only [Bk,Cl,uy,go_sem,reduceIte,Nat.reduceAdd]
 all_goals exact go
noncomputable def qJ (n:Int):Option (Int):=
 (Loop (g7 n) (0:Int)).bind fun e_=>
 some e_.1
theorem If {n r} (h:qJ n=some r):Call tab ow 279 [I n] []=some (I r,[]):=by
 rw [ab (af:=ta) rfl]
 unfold qJ at h
 simp+decide only [ta,Ib,go_sem,reduceIte,Nat.reduceAdd]
 have d1:= @MS
 all_goals exact go
noncomputable def eF (a b:Int):Option (Int):=
 some ((IntKind.wrap .i64 (a*b)).tmod (2130706433:Int))
theorem mP {a b r} (h:eF a b=some r):Call tab ow 246 [I a,I b] []=some (I r,[]):=by
 rw [ab (af:=wg) rfl]
 unfold eF at h
 simp+decide only [wg,Kw,go_sem,reduceIte,Nat.reduceAdd]
 all_goals exact go
noncomputable def k9:Int×Int×Int→Option ((Int×Int×Int)⊕((Int×Int×Int×Bool)))
 | (a2,n2,r_)=>
   br (decide (n2>(0:Int))) (
   br ((n2.tmod (2:Int))==(1:Int)) (
   (eF r_ a2).bind fun r_2=>
   (eF a2 a2).bind fun r_3=>
   some (.inl (r_3,(IntKind.wrap .i64 (n2.tdiv (2:Int))),r_2))) (
   (eF a2 a2).bind fun r_4=>
   some (.inl (r_4,(IntKind.wrap .i64 (n2.tdiv (2:Int))),r_)))) (
   some (.inr (a2,n2,r_,decide (n2>(0:Int)))))
@[reducible] def Ey (s:Int×Int×Int):St:=⟨[(0,I s.1),(1,I s.2.1),(5,I s.2.2)],[]⟩
@[reducible] def Fg:(Int×Int×Int×Bool)→ai×St:=fun e=>(.exit 0,⟨[(0,I e.1),(1,I e.2.1),(5,I e.2.2.1),(7,B e.2.2.2)],[]⟩)
theorem Ra { s e} (h:Loop (k9) s=some e):aD tab ow (.close [5002,6002]) xj (Ey s)=some (Fg e):=by
 refine lrG (fun s o h=> ?_) h
 obtain ⟨_,_,_⟩:=s
 simp only [k9] at h
 simp+decide only [Ey,Fg,xj,go_sem,reduceIte,Nat.reduceAdd]
 have d1:= @mP
 all_goals exact go
noncomputable def o8 (a n:Int):Option (Int):=
 (Loop (k9) (a,n,(1:Int))).bind fun e_=>
 some e_.2.2.1
theorem CN {a n r} (h:o8 a n=some r):Call tab ow 334 [I a,I n] []=some (I r,[]):=by
 rw [ab (af:=wq) rfl]
 unfold o8 at h
 simp+decide only [wq,KC,go_sem,reduceIte,Nat.reduceAdd]
 have d1:= @Ra
 all_goals exact go
noncomputable def qA (k:Int):Option (Int):=
 br (decide (0≤(IntKind.wrap .u64 (IntKind.wrap .i64 ((24:Int)-k))))) (
 (o8 (3:Int) (bW .i64 (127:Int) (IntKind.wrap .u64 (IntKind.wrap .i64 ((24:Int)-k))))).bind fun r_=>
 some r_) none
theorem HX {k r} (h:qA k=some r):Call tab ow 278 [I k] []=some (I r,[]):=by
 rw [ab (af:=tR) rfl]
 unfold qA at h
 simp+decide only [tR,Hi,go_sem,reduceIte,Nat.reduceAdd]
 have d1:= @CN
 all_goals exact go
noncomputable def nE (n:Int):Option (Ext):=
 some (Ext.mk n (0:Int))
theorem qK {n r} (h:nE n=some r):Call tab ow 288 [I n] []=some (.agg [I r.A,I r.B],[]):=by
 rw [ab (af:=AF) rfl]
 unfold nE at h
 simp+decide only [AF,Oa,go_sem,reduceIte,Nat.reduceAdd]
 all_goals exact go
noncomputable def cU (a b:Ext):Option (Ext):=
 (eF a.A b.A).bind fun r_=>
 (eF a.B b.B).bind fun r_2=>
 (oy r_ ((IntKind.wrap .i64 ((3:Int)*r_2)).tmod (2130706433:Int))).bind fun r_3=>
 (eF a.A b.B).bind fun r_4=>
 (eF a.B b.A).bind fun r_5=>
 (oy r_4 r_5).bind fun r_6=>
 some (Ext.mk r_3 r_6)
theorem i7 {a b r} (h:cU a b=some r):Call tab ow 199 [.agg [I a.A,I a.B],.agg [I b.A,I b.B]] []=some (.agg [I r.A,I r.B],[]):=by
 rw [ab (af:=wM) rfl]
 unfold cU at h
 simp+decide only [wM,JI,go_sem,reduceIte,Nat.reduceAdd]
 have d1:= @mP
 have d2:= @L4
 all_goals exact go
section
theorem TG: ∀k,J3 14001 k [I (0:Int),I (0:Int)]=rws ae (List.replicate k (Ext.mk (0:Int) (0:Int))):=fun _=>a1l ae (Ext.mk (0:Int) (0:Int)) _ _
attribute [local go_sem] TG
noncomputable def ir (ListtoArray2:List Ext) (t t2:Int):(List Ext)×(List Ext)×Int→Option (((List Ext)×(List Ext)×Int)⊕(((List Ext)×(List Ext)×Int×Bool)))
 | (l,l2,t3)=>
   br (decide (t3<t2)) (
   (atL ListtoArray2 t3).bind fun x=>
   br (aZ ((l++([x]:List Ext)).length) 16) (
   (atL ListtoArray2 (IntKind.wrap .i64 (t3+(1:Int)))).bind fun x2=>
   br (aZ ((l2++([x2]:List Ext)).length) 16) (
   some (.inl ((l++([x]:List Ext)),(l2++([x2]:List Ext)),(IntKind.wrap .i64 (t3+(2:Int)))))) none) none) (
   some (.inr (l,l2,t3,decide (t3<t2))))
@[reducible] def Fe (ListtoArray2:List Ext) (t t2:Int) (s:(List Ext)×(List Ext)×Int):St:=⟨[(0,sl ae ListtoArray2),(1,I t),(5,I t2),(6,.sl 5000 0 s.1.length),(7,.sl 6000 0 s.2.1.length),(8,I s.2.2)],[(5000,⟨2,false,rws ae s.1⟩),(6000,⟨2,false,rws ae s.2.1⟩)]⟩
@[reducible] def Dc (ListtoArray2:List Ext) (t t2:Int):((List Ext)×(List Ext)×Int×Bool)→ai×St:=fun e=>(.exit 0,⟨[(0,sl ae ListtoArray2),(1,I t),(5,I t2),(6,.sl 5000 0 e.1.length),(7,.sl 6000 0 e.2.1.length),(8,I e.2.2.1),(26,B e.2.2.2)],[(5000,⟨2,false,rws ae e.1⟩),(6000,⟨2,false,rws ae e.2.1⟩)]⟩)
theorem Qh {ListtoArray2 t t2 s e} (h:Loop (ir ListtoArray2 t t2) s=some e):aD tab ow (.close [10005,10006,11006,11007]) wA (Fe ListtoArray2 t t2 s)=some (Dc ListtoArray2 t t2 e):=by
 refine lrG (fun s o h=> ?_) h
 obtain ⟨_,_,_⟩:=s
 simp only [ir] at h
 simp+decide only [Fe,Dc,wA,go_sem,reduceIte,Nat.reduceAdd]
 all_goals exact go
noncomputable def il (t4 t5:Int) (t6 t7:List Ext):(List Ext)×Int×Int→Option (((List Ext)×Int×Int)⊕(((List Ext)×Int×Int×Bool)))
 | (l3,t8,t9)=>
   br (decide (t9<(IntKind.wrap .i64 (t5.tdiv (2:Int))))) (
   (atL t7 t9).bind fun x3=>
   (nE t8).bind fun r_5=>
   (cU x3 r_5).bind fun r_6=>
   (atL t6 t9).bind fun x4=>
   (gG x4 r_6).bind fun r_7=>
   br (decide (0≤t9)) (
   br (decide (t9.toNat<l3.length)) (
   (l3[t9.toNat]?).bind fun x5=>
   (atL t6 t9).bind fun x6=>
   (jC x6 r_6).bind fun r_8=>
   br (decide (0≤(IntKind.wrap .i64 (t9+(IntKind.wrap .i64 (t5.tdiv (2:Int))))))) (
   br (decide ((IntKind.wrap .i64 (t9+(IntKind.wrap .i64 (t5.tdiv (2:Int))))).toNat<l3.length)) (
   ((l3.set t9.toNat r_7)[(IntKind.wrap .i64 (t9+(IntKind.wrap .i64 (t5.tdiv (2:Int))))).toNat]?).bind fun x7=>
   (eF t8 t4).bind fun r_9=>
   some (.inl (((l3.set t9.toNat r_7).set ((IntKind.wrap .i64 (t9+(IntKind.wrap .i64 (t5.tdiv (2:Int))))).toNat) r_8),r_9,(IntKind.wrap .i64 (t9+(1:Int)))))) none) none) none) none) (
   some (.inr (l3,t8,t9,decide (t9<(IntKind.wrap .i64 (t5.tdiv (2:Int)))))))
@[reducible] def F2 (t4 t5:Int) (t6 t7:List Ext) (s:(List Ext)×Int×Int):St:=⟨[(1,I t4),(5,I t5),(9,sl ae t6),(10,sl ae t7),(11,.sl 14001 0 s.1.length),(12,I s.2.1),(13,I s.2.2)],[(5000,cu),(6000,cu),(14001,⟨2,false,rws ae s.1⟩)]⟩
@[reducible] def DW (t4 t5:Int) (t6 t7:List Ext):((List Ext)×Int×Int×Bool)→ai×St:=fun e=>(.exit 2,⟨[(1,I t4),(5,I t5),(9,sl ae t6),(10,sl ae t7),(11,.sl 14001 0 e.1.length),(12,I e.2.1),(13,I e.2.2.1),(59,B e.2.2.2)],[(5000,cu),(6000,cu),(14001,⟨2,false,rws ae e.1⟩)]⟩)
theorem PK {t4 t5 t6 t7 s e} (h:Loop (il t4 t5 t6 t7) s=some e):aD tab ow (.close [19005,19006,19007,20007,21010,22002]) uo (F2 t4 t5 t6 t7 s)=some (DW t4 t5 t6 t7 e):=by
 refine lrG (fun s o h=> ?_) h
 obtain ⟨_,_,_⟩:=s
 simp only [il] at h
 simp+decide only [F2,DW,uo,go_sem,reduceIte,Nat.reduceAdd]
 have d1:= @qK
 have d2:= @i7
 have d3:= @jk
 have d4:= @li
 have d5:= @mP
 all_goals exact go
noncomputable def jw:Nat→(List Ext)→Int→Option ((List Ext))
 |0,_,_=>none
 |n_+1,ListtoArray,a=>
  br (((ListtoArray.length:Nat):Int)==(1:Int)) (
  br (aZ ((([]:List Ext)++ListtoArray).length) 16) (
  some (([]:List Ext)++ListtoArray)) none) (
  (Loop (ir ListtoArray a ((ListtoArray.length:Nat):Int)) (([]:List Ext),([]:List Ext),(0:Int))).bind fun e_=>
  (eF a a).bind fun r_=>
  (jw n_ e_.1 r_).bind fun r_2=>
  (eF a a).bind fun r_3=>
  (jw n_ e_.2.1 r_3).bind fun r_4=>
  br (J8 ((ListtoArray.length:Nat):Int) ((ListtoArray.length:Nat):Int) 16) (
  (Loop (il a ((ListtoArray.length:Nat):Int) r_2 r_4) ((List.replicate (((ListtoArray.length:Nat):Int).toNat) (Ext.mk (0:Int) (0:Int))),(1:Int),(0:Int))).bind fun e_2=>
  some e_2.1) none)
theorem Pz (n_:Nat): ∀{ListtoArray:(List Ext)} {a:Int} {r:(List Ext)},jw n_ ListtoArray a=some r→Call tab ow 277 [sl ae ListtoArray,I a] []=some (sl ae r,[]):=by
 induction n_ with
 |zero=>intro _ _ r h;cases h
 |succ n_ ih=>
  intro ListtoArray a r h
  rw [ab (af:=xy) rfl]
  simp only [jw] at h
  simp+decide only [xy,LR,go_sem,reduceIte,Nat.reduceAdd]
  have d1:= @Qh
  have d2:= @mP
  have d3:= @ih
  have d4:= @PK
  all_goals exact go
noncomputable def LM (ListtoArray:(List Ext)) (a:Int):Option ((List Ext)):=lim (fun n_=>jw n_ ListtoArray a)
theorem Vu {ListtoArray:(List Ext)} {a:Int} {r:(List Ext)} (h:LM ListtoArray a=some r):Call tab ow 277 [sl ae ListtoArray,I a] []=some (sl ae r,[]):=by
 obtain ⟨n_,hn⟩:=Lw h
 exact Pz n_ hn
end
section
theorem Ke: ∀k,J3 3007 k [I (0:Int),I (0:Int)]=rws ae (List.replicate k (Ext.mk (0:Int) (0:Int))):=fun _=>a1l ae (Ext.mk (0:Int) (0:Int)) _ _
attribute [local go_sem] Ke
noncomputable def oq (coefs:(List Ext)) (rate:Int):Option ((List Ext)):=
 br (decide (0≤(IntKind.wrap .u64 rate))) (
 br (aZ ((([]:List Ext)++coefs).length) 16) (
 br (J8 (IntKind.wrap .i64 ((bW .i64 ((coefs.length:Nat):Int) (IntKind.wrap .u64 rate))-((coefs.length:Nat):Int))) (IntKind.wrap .i64 ((bW .i64 ((coefs.length:Nat):Int) (IntKind.wrap .u64 rate))-((coefs.length:Nat):Int))) 16&&decide ((IntKind.wrap .i64 ((bW .i64 ((coefs.length:Nat):Int) (IntKind.wrap .u64 rate))-((coefs.length:Nat):Int)))≤1099511627776)) (
 br (aZ (((([]:List Ext)++coefs)++List.replicate ((IntKind.wrap .i64 ((bW .i64 ((coefs.length:Nat):Int) (IntKind.wrap .u64 rate))-((coefs.length:Nat):Int))).toNat) (Ext.mk (0:Int) (0:Int))).length) 16) (
 (qJ (bW .i64 ((coefs.length:Nat):Int) (IntKind.wrap .u64 rate))).bind fun r_=>
 (qA r_).bind fun r_2=>
 (LM ((([]:List Ext)++coefs)++List.replicate ((IntKind.wrap .i64 ((bW .i64 ((coefs.length:Nat):Int) (IntKind.wrap .u64 rate))-((coefs.length:Nat):Int))).toNat) (Ext.mk (0:Int) (0:Int))) r_2).bind fun r_3=>
 some r_3) none) none) none) none
theorem N1 {coefs rate r} (h:oq coefs rate=some r):Call tab ow 160 [sl ae coefs,I rate] []=some (sl ae r,[]):=by
 rw [ab (af:=nr) rfl]
 unfold oq at h
 simp+decide only [nr,BX,go_sem,reduceIte,Nat.reduceAdd]
 have d1:= @If
 have d2:= @HX
 have d3:= @Vu
 all_goals exact go
end
noncomputable def qR (table:(List Ext)) (rate:Int):Option ((List Ext)):=
 (sG table false).bind fun r_=>
 (oq r_ rate).bind fun r_2=>
 some r_2
theorem HI {table rate r} (h:qR table rate=some r):Call tab ow 72 [sl ae table,I rate] []=some (sl ae r,[]):=by
 rw [ab (af:=tx) rfl]
 unfold qR at h
 simp+decide only [tx,H8,go_sem,reduceIte,Nat.reduceAdd]
 have d1:= @R4
 have d2:= @N1
 all_goals exact go
end Go.AI.Fn
set_option linter.unusedVariables false
set_option linter.unusedSimpArgs false
set_option maxRecDepth 100000
set_option maxHeartbeats 1000000
namespace Go.AI.Fn
section
noncomputable def gI (list2:List Ext):(List UInt8)×Int→Option (((List UInt8)×Int)⊕(((List UInt8)×Int×Bool)))
 | (l,i)=>
   br (decide (i<((list2.length:Nat):Int))) (
   (atL list2 i).bind fun x=>
   (dR x.A (4:Int)).bind fun r_=>
   br (aZ ((l++r_).length) 1) (
   (atL list2 i).bind fun x2=>
   (dR x2.B (4:Int)).bind fun r_2=>
   br (aZ (((l++r_)++r_2).length) 1) (
   some (.inl (((l++r_)++r_2),(IntKind.wrap .i64 (i+(1:Int)))))) none) none) (
   some (.inr (l,i,decide (i<((list2.length:Nat):Int)))))
@[reducible] def zF (list2:List Ext) (s:(List UInt8)×Int):St:=⟨[(0,sl ae list2),(3,.sl 2000 0 s.1.length),(4,I s.2)],[(2000,⟨1,false,rws eU8 s.1⟩)]⟩
@[reducible] def yT (list2:List Ext):((List UInt8)×Int×Bool)→ai×St:=fun e=>(.exit 0,⟨[(0,sl ae list2),(3,.sl 2000 0 e.1.length),(4,I e.2.1),(9,B e.2.2)],[(2000,⟨1,false,rws eU8 e.1⟩)]⟩)
theorem Kd {list2 s e} (h:Loop (gI list2) s=some e):aD tab ow (.close [6006,6007,6013,6014]) sv (zF list2 s)=some (yT list2 e):=by
 refine lrG (fun s o h=> ?_) h
 obtain ⟨_,_⟩:=s
 simp only [gI] at h
 simp+decide only [zF,yT,sv,go_sem,reduceIte,Nat.reduceAdd]
 have d1:= @iL
 all_goals exact go
noncomputable def ll (list:(List Ext)):Option ((List UInt8)):=
 (Loop (gI list) (([]:List UInt8),(0:Int))).bind fun e_=>
 some e_.1
theorem xv {list r} (h:ll list=some r):Call tab ow 159 [sl ae list] []=some (sl eU8 r,[]):=by
 rw [ab (af:=q8) rfl]
 unfold ll at h
 simp+decide only [q8,Ec,go_sem,reduceIte,Nat.reduceAdd]
 have d1:= @Kd
 all_goals exact go
end
section
noncomputable def em (word2:List Ext) (n:Int):(List (List UInt8))×Int→Option (((List (List UInt8))×Int)⊕(((List (List UInt8))×Int×Bool)))
 | (l,i)=>
   br (decide (i<(IntKind.wrap .i64 (n.tdiv (2:Int))))) (
   (atL word2 i).bind fun x=>
   (atL word2 (IntKind.wrap .i64 (i+(IntKind.wrap .i64 (n.tdiv (2:Int)))))).bind fun x2=>
   (ll ([x,x2]:List Ext)).bind fun r_=>
   br (aZ ((l++([r_]:List (List UInt8))).length) 16) (
   some (.inl ((l++([r_]:List (List UInt8))),(IntKind.wrap .i64 (i+(1:Int)))))) none) (
   some (.inr (l,i,decide (i<(IntKind.wrap .i64 (n.tdiv (2:Int)))))))
@[reducible] def xO (word2:List Ext) (n:Int) (s:(List (List UInt8))×Int):St:=⟨[(0,sl ae word2),(3,.sl 2000 0 s.1.length),(4,I n),(5,I s.2)],[(2000,⟨1,false,rws eS s.1⟩)]⟩
@[reducible] def ye (word2:List Ext) (n:Int):((List (List UInt8))×Int×Bool)→ai×St:=fun e=>(.exit 0,⟨[(0,sl ae word2),(3,.sl 2000 0 e.1.length),(4,I n),(5,I e.2.1),(12,B e.2.2)],[(2000,⟨1,false,rws eS e.1⟩)]⟩)
theorem IM {word2 n s e} (h:Loop (em word2 n) s=some e):aD tab ow (.close [7012,7013,7015,7016]) p7 (xO word2 n s)=some (ye word2 n e):=by
 refine lrG (fun s o h=> ?_) h
 obtain ⟨_,_⟩:=s
 simp only [em] at h
 simp+decide only [xO,ye,p7,go_sem,reduceIte,Nat.reduceAdd]
 have d1:= @xv
 all_goals exact go
noncomputable def ju (word:(List Ext)):Option ((List (List UInt8))):=
 (Loop (em word ((word.length:Nat):Int)) (([]:List (List UInt8)),(0:Int))).bind fun e_=>
 some e_.1
theorem ui {word r} (h:ju word=some r):Call tab ow 71 [sl ae word] []=some (sl eS r,[]):=by
 rw [ab (af:=nP) rfl]
 unfold ju at h
 simp+decide only [nP,Bc,go_sem,reduceIte,Nat.reduceAdd]
 have d1:= @IM
 all_goals exact go
end
noncomputable def qE (t:(List UInt8)):Option ((List UInt8)):=
 br (aZ ((([0]:List UInt8)).length+t.length) 1) (
 (fL ((([0]:List UInt8))++t)).bind fun r_=>
 some r_) none
theorem HJ {t r} (h:qE t=some r):Call tab ow 275 [S t] []=some (S r,[]):=by
 rw [ab (af:=tn) rfl]
 unfold qE at h
 simp+decide only [tn,Hr,go_sem,reduceIte,Nat.reduceAdd]
 have d1:= @jy
 all_goals exact go
noncomputable def vI (a b:(List UInt8)):Option ((List UInt8)):=
 br (aZ ((([1]:List UInt8)).length+a.length) 1) (
 br (aZ (((([1]:List UInt8))++a).length+b.length) 1) (
 (fL (((([1]:List UInt8))++a)++b)).bind fun r_=>
 some r_) none) none
theorem Sp {a b r} (h:vI a b=some r):Call tab ow 276 [S a,S b] []=some (S r,[]):=by
 rw [ab (af:=sM) rfl]
 unfold vI at h
 simp+decide only [sM,I3,go_sem,reduceIte,Nat.reduceAdd]
 have d1:= @jy
 all_goals exact go
section
noncomputable def fK (leaves2:List (List UInt8)):(List (List UInt8))×Int→Option (((List (List UInt8))×Int)⊕(((List (List UInt8))×Int×Bool)))
 | (l,i)=>
   br (decide (i<((leaves2.length:Nat):Int))) (
   (atL leaves2 i).bind fun x=>
   (qE x).bind fun r_=>
   br (aZ ((l++([r_]:List (List UInt8))).length) 16) (
   some (.inl ((l++([r_]:List (List UInt8))),(IntKind.wrap .i64 (i+(1:Int)))))) none) (
   some (.inr (l,i,decide (i<((leaves2.length:Nat):Int)))))
@[reducible] def yt (leaves2:List (List UInt8)) (s:(List (List UInt8))×Int):St:=⟨[(0,sl eS leaves2),(3,.sl 2000 0 s.1.length),(4,I s.2)],[(2000,⟨1,false,rws eS s.1⟩)]⟩
@[reducible] def yk (leaves2:List (List UInt8)):((List (List UInt8))×Int×Bool)→ai×St:=fun e=>(.exit 0,⟨[(0,sl eS leaves2),(3,.sl 2000 0 e.1.length),(4,I e.2.1),(12,B e.2.2)],[(2000,⟨1,false,rws eS e.1⟩)]⟩)
theorem IW {leaves2 s e} (h:Loop (fK leaves2) s=some e):aD tab ow (.close [6005,6006,6007]) oZ (yt leaves2 s)=some (yk leaves2 e):=by
 refine lrG (fun s o h=> ?_) h
 obtain ⟨_,_⟩:=s
 simp only [fK] at h
 simp+decide only [yt,yk,oZ,go_sem,reduceIte,Nat.reduceAdd]
 have d1:= @HJ
 all_goals exact go
noncomputable def fN (l3:List (List (List UInt8))) (level2:List (List UInt8)):(List (List UInt8))×Int→Option (((List (List UInt8))×Int)⊕(((List (List UInt8))×Int×Bool)))
 | (l4,i2)=>
   br (decide (i2<((level2.length:Nat):Int))) (
   (atL level2 i2).bind fun x2=>
   (atL level2 (IntKind.wrap .i64 (i2+(1:Int)))).bind fun x3=>
   (vI x2 x3).bind fun r_2=>
   br (aZ ((l4++([r_2]:List (List UInt8))).length) 16) (
   some (.inl ((l4++([r_2]:List (List UInt8))),(IntKind.wrap .i64 (i2+(2:Int)))))) none) (
   some (.inr (l4,i2,decide (i2<((level2.length:Nat):Int)))))
@[reducible] def yg (l3:List (List (List UInt8))) (level2:List (List UInt8)) (s:(List (List UInt8))×Int):St:=⟨[(3,sl eS level2),(5,.sl 7001 0 l3.length),(6,.sl 9000 0 s.1.length),(7,I s.2)],[(7001,⟨1,false,rws (eL eS) l3⟩),(9000,⟨1,false,rws eS s.1⟩)]⟩
@[reducible] def ym (l3:List (List (List UInt8))) (level2:List (List UInt8)):((List (List UInt8))×Int×Bool)→ai×St:=fun e=>(.exit 4,⟨[(3,sl eS level2),(5,.sl 7001 0 l3.length),(6,.sl 9000 0 e.1.length),(7,I e.2.1),(32,B e.2.2)],[(7001,⟨1,false,rws (eL eS) l3⟩),(9000,⟨1,false,rws eS e.1⟩)]⟩)
theorem J0 {l3 level2 s e} (h:Loop (fN l3 level2) s=some e):aD tab ow (.close [13010,13011,13012]) mV (yg l3 level2 s)=some (ym l3 level2 e):=by
 refine lrG (fun s o h=> ?_) h
 obtain ⟨_,_⟩:=s
 simp only [fN] at h
 simp+decide only [yg,ym,mV,go_sem,reduceIte,Nat.reduceAdd]
 have d1:= @Sp
 all_goals exact go
noncomputable def ee:(List (List (List UInt8)))×(List (List UInt8))→Option (((List (List (List UInt8)))×(List (List UInt8)))⊕(((List (List (List UInt8)))×(List (List UInt8))×Bool)))
 | (l2,level)=>
   br (decide (((level.length:Nat):Int)>(1:Int))) (
   (Loop (fN l2 level) (([]:List (List UInt8)),(0:Int))).bind fun e_2=>
   br (aZ ((l2++([e_2.1]:List (List (List UInt8)))).length) 24) (
   some (.inl ((l2++([e_2.1]:List (List (List UInt8)))),e_2.1))) none) (
   some (.inr (l2,level,decide (((level.length:Nat):Int)>(1:Int)))))
@[reducible] def yw (s:(List (List (List UInt8)))×(List (List UInt8))):St:=⟨[(3,sl eS s.2),(5,.sl 7001 0 s.1.length)],[(7001,⟨1,false,rws (eL eS) s.1⟩)]⟩
@[reducible] def xZ:((List (List (List UInt8)))×(List (List UInt8))×Bool)→ai×St:=fun e=>(.exit 2,⟨[(3,sl eS e.2.1),(5,.sl 7001 0 e.1.length),(27,B e.2.2)],[(7001,⟨1,false,rws (eL eS) e.1⟩)]⟩)
theorem IT { s e} (h:Loop (ee) s=some e):aD tab ow (.close [9000,13010,13011,13012,15002,15003]) oQ (yw s)=some (xZ e):=by
 refine lrG (fun s o h=> ?_) h
 obtain ⟨_,_⟩:=s
 simp only [ee] at h
 simp+decide only [yw,xZ,oQ,go_sem,reduceIte,Nat.reduceAdd]
 have d1:= @J0
 all_goals exact go
noncomputable def lB (leaves:(List (List UInt8))):Option ((List (List (List UInt8)))):=
 (Loop (fK leaves) (([]:List (List UInt8)),(0:Int))).bind fun e_=>
 (Loop (ee) (([e_.1]:List (List (List UInt8))),e_.1)).bind fun e_3=>
 some e_3.1
theorem B9 {leaves r} (h:lB leaves=some r):Call tab ow 158 [sl eS leaves] []=some (sl (eL eS) r,[]):=by
 rw [ab (af:=nH) rfl]
 unfold lB at h
 simp+decide only [nH,Cq,go_sem,reduceIte,Nat.reduceAdd]
 have d1:= @IW
 have d2:= @IT
 all_goals exact go
end
noncomputable def mY (leaves:(List (List UInt8))):Option ((List UInt8)):=
 (lB leaves).bind fun r_=>
 (atL r_ (IntKind.wrap .i64 (((r_.length:Nat):Int)-(1:Int)))).bind fun x=>
 (atL x (0:Int)).bind fun x2=>
 some x2
theorem HM {leaves r} (h:mY leaves=some r):Call tab ow 70 [sl eS leaves] []=some (S r,[]):=by
 rw [ab (af:=tF) rfl]
 unfold mY at h
 simp+decide only [tF,H3,go_sem,reduceIte,Nat.reduceAdd]
 have d1:= @B9
 all_goals exact go
noncomputable def kH (table:(List Ext)) (rate:Int):Option ((List UInt8)×Int):=
 br (decide (((table.length:Nat):Int)>(4096:Int))) (
 some ((([]:List UInt8)),(2:Int))) (
 (rb table).bind fun r_=>
 br (!r_) (
 some ((([]:List UInt8)),(1:Int))) (
 (qF ((table.length:Nat):Int)).bind fun r_2=>
 br (!r_2) (
 some ((([]:List UInt8)),(4:Int))) (
 (gx rate (1:Int) (3:Int)).bind fun r_3=>
 br (!r_3) (
 some ((([]:List UInt8)),(4:Int))) (
 (qR table rate).bind fun r_4=>
 (ju r_4).bind fun r_5=>
 (mY r_5).bind fun r_6=>
 some (r_6,(0:Int))))))
theorem J2 {table rate r} (h:kH table rate=some r):Call tab ow 14 [sl ae table,I rate] []=some (.tup [S r.1,I r.2],[]):=by
 rw [ab (af:=kM) rfl]
 unfold kH at h
 simp+decide only [kM,yd,go_sem,reduceIte,Nat.reduceAdd]
 have d1:= @GU
 have d2:= @H9
 have d3:= @ra
 have d4:= @HI
 have d5:= @ui
 have d6:= @HM
 all_goals exact go
noncomputable def qz (list:(List Ext)):Option (Bool):=
 br (decide (((list.length:Nat):Int)≤(6:Int))) (
 (bU list).bind fun r_=>
 some r_) (
 some false)
theorem HD {list r} (h:qz list=some r):Call tab ow 73 [sl ae list] []=some (B r,[]):=by
 rw [ab (af:=u2) rfl]
 unfold qz at h
 simp+decide only [u2,I9,go_sem,reduceIte,Nat.reduceAdd]
 have d1:= @dt
 all_goals exact go
noncomputable def gX (t:Setting):Option (Bool):=
 (we t.Rate (1:Int) (3:Int)).bind fun r_=>
 br r_ (
 (we t.Queries (1:Int) (8:Int)).bind fun r_2=>
 br r_2 (
 (we t.Grind (0:Int) (12:Int)).bind fun r_3=>
 some r_3) (
 some false)) (
 some false)
theorem nv {t r} (h:gX t=some r):Call tab ow 26 [.agg [I t.Rate,I t.Queries,I t.Grind]] []=some (B r,[]):=by
 rw [ab (af:=o2) rfl]
 unfold gX at h
 simp+decide only [o2,Bf,go_sem,reduceIte,Nat.reduceAdd]
 have d1:= @zi
 all_goals exact go
noncomputable def sa (h_:(List UInt8)):Option (Bool):=
 some (((h_.length:Nat):Int)==(32:Int))
theorem CJ {h_ r} (h:sa h_=some r):Call tab ow 100 [S h_] []=some (B r,[]):=by
 rw [ab (af:=xb) rfl]
 unfold sa at h
 simp+decide only [xb,Kf,go_sem,reduceIte,Nat.reduceAdd]
 all_goals exact go
noncomputable def ln (s:Source):Option (Bool):=
 br (decide (((s.Script.length:Nat):Int)≤(64:Int))) (
 (bU s.Script).bind fun r_=>
 br r_ (
 (sa s.State).bind fun r_2=>
 br r_2 (
 (we s.At (0:Int) (1000000:Int)).bind fun r_3=>
 br r_3 (
 (we s.Count (0:Int) (1000000:Int)).bind fun r_4=>
 some r_4) (
 some false)) (
 some false)) (
 some false)) (
 some false)
theorem EV {s r} (h:ln s=some r):Call tab ow 74 [.agg [sl ae s.Script,I s.At,S s.State,I s.Count]] []=some (B r,[]):=by
 rw [ab (af:=pU) rfl]
 unfold ln at h
 simp+decide only [pU,F8,go_sem,reduceIte,Nat.reduceAdd]
 have d1:= @dt
 have d2:= @CJ
 have d3:= @zi
 all_goals exact go
noncomputable def iJ (s:Source):Option (Int):=
 some (IntKind.wrap .i64 ((1000000:Int)-(mx s.At s.Count)))
theorem xL {s r} (h:iJ s=some r):Call tab ow 75 [.agg [sl ae s.Script,I s.At,S s.State,I s.Count]] []=some (I r,[]):=by
 rw [ab (af:=kL) rfl]
 unfold iJ at h
 simp+decide only [kL,yo,go_sem,reduceIte,Nat.reduceAdd]
 all_goals exact go
noncomputable def fO (s:Source):Option (Source):=
 (bX s.Script).bind fun r_=>
 some (Source.mk r_ s.At s.State s.Count)
theorem tB {s r} (h:fO s=some r):Call tab ow 76 [.agg [sl ae s.Script,I s.At,S s.State,I s.Count]] []=some (.agg [sl ae r.Script,I r.At,S r.State,I r.Count],[]):=by
 rw [ab (af:=j2) rfl]
 unfold fO at h
 simp+decide only [j2,tV,go_sem,reduceIte,Nat.reduceAdd]
 have d1:= @jc
 all_goals exact go
noncomputable def GS:Option (Ext):=
 some (Ext.mk (1:Int) (0:Int))
theorem Jl {r} (h:GS=some r):Call tab ow 183 [] []=some (.agg [I r.A,I r.B],[]):=by
 rw [ab (af:=Jx) rfl]
 unfold GS at h
 simp+decide only [Jx,Xp,go_sem,reduceIte,Nat.reduceAdd]
 all_goals exact go
noncomputable def bV (a b:Ext):Option (Ext):=
 (mI a.A b.A).bind fun r_=>
 (mI a.B b.B).bind fun r_2=>
 (mI (3:Int) r_2).bind fun r_3=>
 (I4 r_ r_3).bind fun r_4=>
 (mI a.A b.B).bind fun r_5=>
 (mI a.B b.A).bind fun r_6=>
 (I4 r_5 r_6).bind fun r_7=>
 some (Ext.mk r_4 r_7)
theorem eR {a b r} (h:bV a b=some r):Call tab ow 182 [.agg [I a.A,I a.B],.agg [I b.A,I b.B]] []=some (.agg [I r.A,I r.B],[]):=by
 rw [ab (af:=nw) rfl]
 unfold bV at h
 simp+decide only [nw,Ce,go_sem,reduceIte,Nat.reduceAdd]
 have d1:= @AM
 have d2:= @WG
 all_goals exact go
section
noncomputable def iC (t4:List Ext) (t5 t6:Int) (t7:List Ext) (t8 c c2:Int):(List Ext)×(List Ext)×Int→Option (((List Ext)×(List Ext)×Int)⊕(((List Ext)×(List Ext)×Int×Bool)))
 | (l,l2,t9)=>
   br (decide (t9<t8)) (
   (atL t7 t9).bind fun x2=>
   (GS).bind fun r_2=>
   (cW r_2 (Ext.mk c c2)).bind fun r_3=>
   (bV x2 r_3).bind fun r_4=>
   br (aZ ((l++([r_4]:List Ext)).length) 16) (
   (bV x2 (Ext.mk c c2)).bind fun r_5=>
   br (aZ ((l2++([r_5]:List Ext)).length) 16) (
   some (.inl ((l++([r_4]:List Ext)),(l2++([r_5]:List Ext)),(IntKind.wrap .i64 (t9+(1:Int)))))) none) none) (
   some (.inr (l,l2,t9,decide (t9<t8))))
@[reducible] def BT (t4:List Ext) (t5 t6:Int) (t7:List Ext) (t8 c c2:Int) (s:(List Ext)×(List Ext)×Int):St:=⟨[(5,.ptr 5002 0 0 1),(6,.sl 6000 0 s.1.length),(7,.sl 6001 0 s.2.1.length),(12,sl ae t4),(13,I t5),(14,I t6),(20,sl ae t7),(21,I t8),(22,I s.2.2)],[(5002,⟨2,true,[[I c,I c2]]⟩),(6000,⟨2,false,rws ae s.1⟩),(6001,⟨2,false,rws ae s.2.1⟩)]⟩
@[reducible] def BN (t4:List Ext) (t5 t6:Int) (t7:List Ext) (t8 c c2:Int):((List Ext)×(List Ext)×Int×Bool)→ai×St:=fun e=>(.exit 2,⟨[(5,.ptr 5002 0 0 1),(6,.sl 6000 0 e.1.length),(7,.sl 6001 0 e.2.1.length),(12,sl ae t4),(13,I t5),(14,I t6),(20,sl ae t7),(21,I t8),(22,I e.2.2.1),(23,B e.2.2.2)],[(5002,⟨2,true,[[I c,I c2]]⟩),(6000,⟨2,false,rws ae e.1⟩),(6001,⟨2,false,rws ae e.2.1⟩)]⟩)
theorem Ni {t4 t5 t6 t7 t8 c c2 s e} (h:Loop (iC t4 t5 t6 t7 t8 c c2) s=some e):aD tab ow (.close [9002,10002,10004,10005,10006,10007,10011,10012,10013]) ug (BT t4 t5 t6 t7 t8 c c2 s)=some (BN t4 t5 t6 t7 t8 c c2 e):=by
 refine lrG (fun s o h=> ?_) h
 obtain ⟨_,_,_⟩:=s
 simp only [iC] at h
 simp+decide only [BT,BN,ug,go_sem,reduceIte,Nat.reduceAdd]
 have d1:= @Jl
 have d2:= @eV
 have d3:= @eR
 all_goals exact go
noncomputable def iH (t:List Ext) (t2:Int):(List Ext)×Int→Option (((List Ext)×Int)⊕(((List Ext)×Int×Bool)))
 | (out,t3)=>
   br (decide (t3<t2)) (
   (atL t t3).bind fun x=>
   (Loop (iC t t2 t3 out ((out.length:Nat):Int) x.A x.B) (([]:List Ext),([]:List Ext),(0:Int))).bind fun e_=>
   br (aZ ((e_.1++e_.2.1).length) 16) (
   some (.inl ((e_.1++e_.2.1),(IntKind.wrap .i64 (t3+(1:Int)))))) none) (
   some (.inr (out,t3,decide (t3<t2))))
@[reducible] def Cd (t:List Ext) (t2:Int) (s:(List Ext)×Int):St:=⟨[(3,sl ae s.1),(12,sl ae t),(13,I t2),(14,I s.2)],[]⟩
@[reducible] def Cm (t:List Ext) (t2:Int):((List Ext)×Int×Bool)→ai×St:=fun e=>(.exit 0,⟨[(3,sl ae e.1),(12,sl ae t),(13,I t2),(14,I e.2.1),(15,B e.2.2)],[]⟩)
theorem Np {t t2 s e} (h:Loop (iH t t2) s=some e):aD tab ow (.close [5002,6000,6001,9002,10002,10004,10005,10006,10007,10011,10012,10013,12002,2001]) ul (Cd t t2 s)=some (Cm t t2 e):=by
 refine lrG (fun s o h=> ?_) h
 obtain ⟨_,_⟩:=s
 simp only [iH] at h
 simp+decide only [Cd,Cm,ul,go_sem,reduceIte,Nat.reduceAdd]
 have d1:= @Ni
 all_goals exact go
noncomputable def qw (point:(List Ext)):Option ((List Ext)):=
 (GS).bind fun r_=>
 (Loop (iH point ((point.length:Nat):Int)) (([r_]:List Ext),(0:Int))).bind fun e_2=>
 some e_2.1
theorem GM {point r} (h:qw point=some r):Call tab ow 88 [sl ae point] []=some (sl ae r,[]):=by
 rw [ab (af:=u7) rfl]
 unfold qw at h
 simp+decide only [u7,GN,go_sem,reduceIte,Nat.reduceAdd]
 have d1:= @Jl
 have d2:= @Np
 all_goals exact go
end
noncomputable def lg (kind:Int):Option (Int):=
 (we kind (1:Int) (2:Int)).bind fun r_=>
 br (!r_) (
 some (0:Int)) (
 some (IntKind.wrap .i64 (kind+(1:Int))))
theorem Fo {kind r} (h:lg kind=some r):Call tab ow 293 [I kind] []=some (I r,[]):=by
 rw [ab (af:=pw) rfl]
 unfold lg at h
 simp+decide only [pw,Fc,go_sem,reduceIte,Nat.reduceAdd]
 have d1:= @zi
 all_goals exact go
noncomputable def AA (a b r_:Ext):Option (Ext):=
 (cW b a).bind fun r_2=>
 (bV r_ r_2).bind fun r_3=>
 (dh a r_3).bind fun r_4=>
 some r_4
theorem Sj {a b r_ r} (h:AA a b r_=some r):Call tab ow 316 [.agg [I a.A,I a.B],.agg [I b.A,I b.B],.agg [I r_.A,I r_.B]] []=some (.agg [I r.A,I r.B],[]):=by
 rw [ab (af:=sQ) rfl]
 unfold AA at h
 simp+decide only [sQ,GP,go_sem,reduceIte,Nat.reduceAdd]
 have d1:= @eV
 have d2:= @eR
 have d3:= @eO
 all_goals exact go
section
noncomputable def en (table2:List Ext) (c c2:Int):(List Ext)×Int→Option (((List Ext)×Int)⊕(((List Ext)×Int×Bool)))
 | (l,i)=>
   br (decide (i<((table2.length:Nat):Int))) (
   (atL table2 i).bind fun x=>
   (atL table2 (IntKind.wrap .i64 (i+(1:Int)))).bind fun x2=>
   (AA x x2 (Ext.mk c c2)).bind fun r_2=>
   br (aZ ((l++([r_2]:List Ext)).length) 16) (
   some (.inl ((l++([r_2]:List Ext)),(IntKind.wrap .i64 (i+(2:Int)))))) none) (
   some (.inr (l,i,decide (i<((table2.length:Nat):Int)))))
@[reducible] def yx (table2:List Ext) (c c2:Int) (s:(List Ext)×Int):St:=⟨[(0,sl ae table2),(3,.ptr 1000 0 0 1),(5,.sl 2000 0 s.1.length),(6,I s.2)],[(1000,⟨2,true,[[I c,I c2]]⟩),(2000,⟨2,false,rws ae s.1⟩)]⟩
@[reducible] def xK (table2:List Ext) (c c2:Int):((List Ext)×Int×Bool)→ai×St:=fun e=>(.exit 0,⟨[(0,sl ae table2),(3,.ptr 1000 0 0 1),(5,.sl 2000 0 e.1.length),(6,I e.2.1),(11,B e.2.2)],[(1000,⟨2,true,[[I c,I c2]]⟩),(2000,⟨2,false,rws ae e.1⟩)]⟩)
theorem J4 {table2 c c2 s e} (h:Loop (en table2 c c2) s=some e):aD tab ow (.close [6011,6012,6013]) p5 (yx table2 c c2 s)=some (xK table2 c c2 e):=by
 refine lrG (fun s o h=> ?_) h
 obtain ⟨_,_⟩:=s
 simp only [en] at h
 simp+decide only [yx,xK,p5,go_sem,reduceIte,Nat.reduceAdd]
 have d1:= @Sj
 all_goals exact go
noncomputable def ot (table:(List Ext)) (r_:Ext):Option ((List Ext)):=
 (Loop (en table r_.A r_.B) (([]:List Ext),(0:Int))).bind fun e_=>
 some e_.1
theorem NK {table r_ r} (h:ot table r_=some r):Call tab ow 337 [sl ae table,.agg [I r_.A,I r_.B]] []=some (sl ae r,[]):=by
 rw [ab (af:=nL) rfl]
 unfold ot at h
 simp+decide only [nL,Ch,go_sem,reduceIte,Nat.reduceAdd]
 have d1:= @J4
 all_goals exact go
end
section
noncomputable def jh (t:List (List Ext)) (t2 c c2:Int):(List (List Ext))×Int→Option (((List (List Ext))×Int)⊕(((List (List Ext))×Int×Bool)))
 | (l,t3)=>
   br (decide (t3<t2)) (
   (atL t t3).bind fun x=>
   (ot x (Ext.mk c c2)).bind fun r_2=>
   br (aZ ((l++([r_2]:List (List Ext))).length) 24) (
   some (.inl ((l++([r_2]:List (List Ext))),(IntKind.wrap .i64 (t3+(1:Int)))))) none) (
   some (.inr (l,t3,decide (t3<t2))))
@[reducible] def Ir (t:List (List Ext)) (t2 c c2:Int) (s:(List (List Ext))×Int):St:=⟨[(3,.ptr 1000 0 0 1),(5,.sl 2000 0 s.1.length),(9,sl (eL ae) t),(10,I t2),(11,I s.2)],[(1000,⟨2,true,[[I c,I c2]]⟩),(2000,⟨1,false,rws (eL ae) s.1⟩)]⟩
@[reducible] def Ho (t:List (List Ext)) (t2 c c2:Int):((List (List Ext))×Int×Bool)→ai×St:=fun e=>(.exit 0,⟨[(3,.ptr 1000 0 0 1),(5,.sl 2000 0 e.1.length),(9,sl (eL ae) t),(10,I t2),(11,I e.2.1),(12,B e.2.2)],[(1000,⟨2,true,[[I c,I c2]]⟩),(2000,⟨1,false,rws (eL ae) e.1⟩)]⟩)
theorem Ti {t t2 c c2 s e} (h:Loop (jh t t2 c c2) s=some e):aD tab ow (.close [6003,6004,6005]) Af (Ir t t2 c c2 s)=some (Ho t t2 c c2 e):=by
 refine lrG (fun s o h=> ?_) h
 obtain ⟨_,_⟩:=s
 simp only [jh] at h
 simp+decide only [Ir,Ho,Af,go_sem,reduceIte,Nat.reduceAdd]
 have d1:= @NK
 all_goals exact go
noncomputable def AK (tables:(List (List Ext))) (r_:Ext):Option ((List (List Ext))):=
 (Loop (jh tables ((tables.length:Nat):Int) r_.A r_.B) (([]:List (List Ext)),(0:Int))).bind fun e_=>
 some e_.1
theorem OJ {tables r_ r} (h:AK tables r_=some r):Call tab ow 283 [sl (eL ae) tables,.agg [I r_.A,I r_.B]] []=some (sl (eL ae) r,[]):=by
 rw [ab (af:=AN) rfl]
 unfold AK at h
 simp+decide only [AN,Oc,go_sem,reduceIte,Nat.reduceAdd]
 have d1:= @Ti
 all_goals exact go
end
noncomputable def vm (kind:Int) (v:(List Ext)):Option (Ext):=
 br (kind==(1:Int)) (
 (atL v (0:Int)).bind fun x=>
 (atL v (1:Int)).bind fun x2=>
 (bV x x2).bind fun r_=>
 some r_) (
 (atL v (0:Int)).bind fun x3=>
 (atL v (1:Int)).bind fun x4=>
 (atL v (2:Int)).bind fun x5=>
 (bV x4 x5).bind fun r_2=>
 (atL v (3:Int)).bind fun x6=>
 (cW r_2 x6).bind fun r_3=>
 (bV x3 r_3).bind fun r_4=>
 some r_4)
theorem U0 {kind v r} (h:vm kind v=some r):Call tab ow 314 [I kind,sl ae v] []=some (.agg [I r.A,I r.B],[]):=by
 rw [ab (af:=tL) rfl]
 unfold vm at h
 simp+decide only [tL,Ip,go_sem,reduceIte,Nat.reduceAdd]
 have d1:= @eR
 have d2:= @eV
 all_goals exact go
section
noncomputable def jg (kind3:Int) (tables3:List (List Ext)) (i t3 t4:Int) (t5:List (List Ext)) (t6 c5 c6 c7 c8:Int):(List Ext)×Int→Option (((List Ext)×Int)⊕(((List Ext)×Int×Bool)))
 | (l,t7)=>
   br (decide (t7<t6)) (
   (atL t5 t7).bind fun x2=>
   (atL x2 i).bind fun x3=>
   br (aZ ((l++([x3]:List Ext)).length) 16) (
   some (.inl ((l++([x3]:List Ext)),(IntKind.wrap .i64 (t7+(1:Int)))))) none) (
   some (.inr (l,t7,decide (t7<t6))))
@[reducible] def He (kind3:Int) (tables3:List (List Ext)) (i t3 t4:Int) (t5:List (List Ext)) (t6 c5 c6 c7 c8:Int) (s:(List Ext)×Int):St:=⟨[(0,I kind3),(1,sl (eL ae) tables3),(4,.ptr 1000 0 0 1),(5,.ptr 2001 0 0 1),(6,I i),(7,.sl 6000 0 s.1.length),(14,I t3),(15,I t4),(19,sl (eL ae) t5),(20,I t6),(21,I s.2)],[(1000,⟨2,true,[[I c5,I c6]]⟩),(2001,⟨2,true,[[I c7,I c8]]⟩),(6000,⟨2,false,rws ae s.1⟩)]⟩
@[reducible] def Hw (kind3:Int) (tables3:List (List Ext)) (i t3 t4:Int) (t5:List (List Ext)) (t6 c5 c6 c7 c8:Int):((List Ext)×Int×Bool)→ai×St:=fun e=>(.exit 2,⟨[(0,I kind3),(1,sl (eL ae) tables3),(4,.ptr 1000 0 0 1),(5,.ptr 2001 0 0 1),(6,I i),(7,.sl 6000 0 e.1.length),(14,I t3),(15,I t4),(19,sl (eL ae) t5),(20,I t6),(21,I e.2.1),(22,B e.2.2)],[(1000,⟨2,true,[[I c5,I c6]]⟩),(2001,⟨2,true,[[I c7,I c8]]⟩),(6000,⟨2,false,rws ae e.1⟩)]⟩)
theorem TB {kind3 tables3 i t3 t4 t5 t6 c5 c6 c7 c8 s e} (h:Loop (jg kind3 tables3 i t3 t4 t5 t6 c5 c6 c7 c8) s=some e):aD tab ow (.close [10005,10006]) yW (He kind3 tables3 i t3 t4 t5 t6 c5 c6 c7 c8 s)=some (Hw kind3 tables3 i t3 t4 t5 t6 c5 c6 c7 c8 e):=by
 refine lrG (fun s o h=> ?_) h
 obtain ⟨_,_⟩:=s
 simp only [jg] at h
 simp+decide only [He,Hw,yW,go_sem,reduceIte,Nat.reduceAdd]
 all_goals exact go
noncomputable def jl (kind2:Int) (tables2:List (List Ext)) (t c c2:Int):Int×Int×Int→Option ((Int×Int×Int)⊕((Int×Bool×Int×Int)))
 | (t2,c3,c4)=>
   br (decide (t2<t)) (
   (Loop (jg kind2 tables2 t2 t t2 tables2 ((tables2.length:Nat):Int) c c2 c3 c4) (([]:List Ext),(0:Int))).bind fun e_=>
   (vm kind2 e_.1).bind fun r_=>
   (dh (Ext.mk c3 c4) r_).bind fun r_2=>
   some (.inl ((IntKind.wrap .i64 (t2+(1:Int))),r_2.A,r_2.B))) (
   some (.inr (t2,decide (t2<t),c3,c4)))
@[reducible] def HO (kind2:Int) (tables2:List (List Ext)) (t c c2:Int) (s:Int×Int×Int):St:=⟨[(0,I kind2),(1,sl (eL ae) tables2),(4,.ptr 1000 0 0 1),(5,.ptr 2001 0 0 1),(14,I t),(15,I s.1)],[(1000,⟨2,true,[[I c,I c2]]⟩),(2001,⟨2,true,[[I s.2.1,I s.2.2]]⟩)]⟩
@[reducible] def HA (kind2:Int) (tables2:List (List Ext)) (t c c2:Int):(Int×Bool×Int×Int)→ai×St:=fun e=>(.exit 0,⟨[(0,I kind2),(1,sl (eL ae) tables2),(4,.ptr 1000 0 0 1),(5,.ptr 2001 0 0 1),(14,I t),(15,I e.1),(16,B e.2.1)],[(1000,⟨2,true,[[I c,I c2]]⟩),(2001,⟨2,true,[[I e.2.2.1,I e.2.2.2]]⟩)]⟩)
theorem Sk {kind2 tables2 t c c2 s e} (h:Loop (jl kind2 tables2 t c c2) s=some e):aD tab ow (.close [6000,10005,10006,12003,12004]) za (HO kind2 tables2 t c c2 s)=some (HA kind2 tables2 t c c2 e):=by
 refine lrG (fun s o h=> ?_) h
 obtain ⟨_,_,_⟩:=s
 simp only [jl] at h
 simp+decide only [HO,HA,za,go_sem,reduceIte,Nat.reduceAdd]
 have d1:= @TB
 have d2:= @U0
 have d3:= @eO
 all_goals exact go
noncomputable def Eo (kind:Int) (tables:(List (List Ext))):Option (Ext):=
 (atL tables (0:Int)).bind fun x=>
 (Loop (jl kind tables ((x.length:Nat):Int) (0:Int) (0:Int)) ((0:Int),(0:Int),(0:Int))).bind fun e_2=>
 some (Ext.mk e_2.2.2.1 e_2.2.2.2)
theorem YR {kind tables r} (h:Eo kind tables=some r):Call tab ow 335 [I kind,sl (eL ae) tables] []=some (.agg [I r.A,I r.B],[]):=by
 rw [ab (af:=Aw) rfl]
 unfold Eo at h
 simp+decide only [Aw,NS,go_sem,reduceIte,Nat.reduceAdd]
 have d1:= @Sk
 all_goals exact go
end
section
noncomputable def gi (kind2:Int) (tables2:List (List Ext)) (t:Int):(List Ext)×Int→Option (((List Ext)×Int)⊕(((List Ext)×Int×Bool)))
 | (l,t2)=>
   br (decide (t2<t)) (
   (AK tables2 (Ext.mk t2 (0:Int))).bind fun r_2=>
   (Eo kind2 r_2).bind fun r_3=>
   br (aZ ((l++([r_3]:List Ext)).length) 16) (
   some (.inl ((l++([r_3]:List Ext)),(IntKind.wrap .i64 (t2+(1:Int)))))) none) (
   some (.inr (l,t2,decide (t2<t))))
@[reducible] def Bh (kind2:Int) (tables2:List (List Ext)) (t:Int) (s:(List Ext)×Int):St:=⟨[(0,I kind2),(1,sl (eL ae) tables2),(5,.sl 2000 0 s.1.length),(10,I t),(11,I s.2)],[(2000,⟨2,false,rws ae s.1⟩)]⟩
@[reducible] def BM (kind2:Int) (tables2:List (List Ext)) (t:Int):((List Ext)×Int×Bool)→ai×St:=fun e=>(.exit 0,⟨[(0,I kind2),(1,sl (eL ae) tables2),(5,.sl 2000 0 e.1.length),(10,I t),(11,I e.2.1),(12,B e.2.2)],[(2000,⟨2,false,rws ae e.1⟩)]⟩)
theorem N2 {kind2 tables2 t s e} (h:Loop (gi kind2 tables2 t) s=some e):aD tab ow (.close [6005,6006,6007,6008]) uU (Bh kind2 tables2 t s)=some (BM kind2 tables2 t e):=by
 refine lrG (fun s o h=> ?_) h
 obtain ⟨_,_⟩:=s
 simp only [gi] at h
 simp+decide only [Bh,BM,uU,go_sem,reduceIte,Nat.reduceAdd]
 have d1:= @OJ
 have d2:= @YR
 all_goals exact go
noncomputable def na (kind:Int) (tables:(List (List Ext))):Option ((List Ext)):=
 (lg kind).bind fun r_=>
 (Loop (gi kind tables (IntKind.wrap .i64 (r_+(1:Int)))) (([]:List Ext),(0:Int))).bind fun e_=>
 some e_.1
theorem TZ {kind tables r} (h:na kind tables=some r):Call tab ow 281 [I kind,sl (eL ae) tables] []=some (sl ae r,[]):=by
 rw [ab (af:=sV) rfl]
 unfold na at h
 simp+decide only [sV,Ha,go_sem,reduceIte,Nat.reduceAdd]
 have d1:= @Fo
 have d2:= @N2
 all_goals exact go
end
section
noncomputable def xi (n:Int):Option ((List UInt8)):=
 br (aZ (([(UInt8.ofInt (aL .i64 n (24:Int))),(UInt8.ofInt (aL .i64 n (16:Int))),(UInt8.ofInt (aL .i64 n (8:Int))),(UInt8.ofInt n)]:List UInt8).length) 1) (
 some ([(UInt8.ofInt (aL .i64 n (24:Int))),(UInt8.ofInt (aL .i64 n (16:Int))),(UInt8.ofInt (aL .i64 n (8:Int))),(UInt8.ofInt n)]:List UInt8)) none
theorem zQ {n r} (h:xi n=some r):Call tab ow 169 [.lit (.slice none 0 0),I n] []=some (sl eU8 r,[]):=by
 rw [ab (af:=vW) rfl]
 unfold xi at h
 simp+decide only [vW,LJ,go_sem,reduceIte,Nat.reduceAdd]
 all_goals exact go
end
section
noncomputable def cO (t:(List UInt8)) (m:Source):Option (Source):=
 br (aZ m.State.length 1) (
 (xi ((t.length:Nat):Int)).bind fun r_=>
 (mf ([m.State,([(97:UInt8),(98:UInt8),(115:UInt8),(111:UInt8),(114:UInt8),(98:UInt8)]:List UInt8),r_,t]:List (List UInt8))).bind fun r_2=>
 some (Source.mk m.Script m.At r_2 (0:Int))) none
theorem fW {t m r} (h:cO t m=some r):Call tab ow 166 [.ptr 0 0 0 1,sl eU8 t] [⟨4,true,[[sl ae m.Script,I m.At,S m.State,I m.Count]]⟩]=some (.tup [],[⟨4,true,[[sl ae r.Script,I r.At,S r.State,I r.Count]]⟩]):=by
 rw [ab (af:=j4) rfl]
 unfold cO at h
 simp+decide only [j4,tG,go_sem,reduceIte,Nat.reduceAdd]
 have d1:= @zQ
 have d2:= @rP
 all_goals exact go
end
noncomputable def ci (list:(List Ext)) (m:Source):Option (Source):=
 (ls list).bind fun r_=>
 (cO r_ m).bind fun r_2=>
 some r_2
theorem fD {list m r} (h:ci list m=some r):Call tab ow 167 [.ptr 0 0 0 1,sl ae list] [⟨4,true,[[sl ae m.Script,I m.At,S m.State,I m.Count]]⟩]=some (.tup [],[⟨4,true,[[sl ae r.Script,I r.At,S r.State,I r.Count]]⟩]):=by
 rw [ab (af:=fB) rfl]
 unfold ci at h
 simp+decide only [fB,mO,go_sem,reduceIte,Nat.reduceAdd]
 have d1:= @xB
 have d2:= @fW
 all_goals exact go
noncomputable def ic (t:List UInt8) (t2:Int):Int×Int→Option ((Int×Int)⊕((Int×Int×Bool)))
 | (n,t3)=>
   br (decide (t3<t2)) (
   (atL t t3).bind fun x=>
   some (.inl ((uq .u64 (bW .u64 n (8:Int)) (IntKind.wrap .u64 (x.toNat:Int))),(IntKind.wrap .i64 (t3+(1:Int)))))) (
   some (.inr (n,t3,decide (t3<t2))))
@[reducible] def Fm (t:List UInt8) (t2:Int) (s:Int×Int):St:=⟨[(3,.lit (.int .u64 s.1)),(6,sl eU8 t),(7,I t2),(8,I s.2)],[]⟩
@[reducible] def E5 (t:List UInt8) (t2:Int):(Int×Int×Bool)→ai×St:=fun e=>(.exit 0,⟨[(3,.lit (.int .u64 e.1)),(6,sl eU8 t),(7,I t2),(8,I e.2.1),(9,B e.2.2)],[]⟩)
theorem Ps {t t2 s e} (h:Loop (ic t t2) s=some e):aD tab ow (.close []) wO (Fm t t2 s)=some (E5 t t2 e):=by
 refine lrG (fun s o h=> ?_) h
 obtain ⟨_,_⟩:=s
 simp only [ic] at h
 simp+decide only [Fm,E5,wO,go_sem,reduceIte,Nat.reduceAdd]
 all_goals exact go
noncomputable def w5 (b:(List UInt8)):Option (Int):=
 (Loop (ic b ((b.length:Nat):Int)) ((0:Int),(0:Int))).bind fun e_=>
 some (IntKind.wrap .i64 (e_.1.tmod (2130706433:Int)))
theorem UG {b r} (h:w5 b=some r):Call tab ow 336 [sl eU8 b] []=some (I r,[]):=by
 rw [ab (af:=wm) rfl]
 unfold w5 at h
 simp+decide only [wm,M8,go_sem,reduceIte,Nat.reduceAdd]
 have d1:= @Ps
 all_goals exact go
section
noncomputable def eP (m:Source):Option (Ext×Source):=
 br (decide (((m.Script.length:Nat):Int)>(0:Int))) (
 br (decide (((m.Script.length:Nat):Int)≠0)) (
 (atL m.Script ((IntKind.wrap .i64 ((IntKind.wrap .i64 (m.At+(1:Int)))-(1:Int))).tmod ((m.Script.length:Nat):Int))).bind fun x=>
 some (x,(Source.mk m.Script (IntKind.wrap .i64 (m.At+(1:Int))) m.State m.Count))) none) (
 br (aZ m.State.length 1) (
 (xi m.Count).bind fun r_=>
 (mf ([m.State,([(100:UInt8),(114:UInt8),(97:UInt8),(119:UInt8)]:List UInt8),r_]:List (List UInt8))).bind fun r_2=>
 br (aZ r_2.length 1) (
 (sK r_2 (0:Int) (8:Int)).bind fun y=>
 (w5 y).bind fun r_3=>
 (sK r_2 (8:Int) (16:Int)).bind fun y2=>
 (w5 y2).bind fun r_4=>
 some ((Ext.mk r_3 r_4),(Source.mk m.Script m.At m.State (IntKind.wrap .i64 (m.Count+(1:Int)))))) none) none)
theorem oR {m r} (h:eP m=some r):Call tab ow 282 [.ptr 0 0 0 1] [⟨4,true,[[sl ae m.Script,I m.At,S m.State,I m.Count]]⟩]=some (.agg [I r.1.A,I r.1.B],[⟨4,true,[[sl ae r.2.Script,I r.2.At,S r.2.State,I r.2.Count]]⟩]):=by
 rw [ab (af:=kY) rfl]
 unfold eP at h
 simp+decide only [kY,y7,go_sem,reduceIte,Nat.reduceAdd]
 have d1:= @zQ
 have d2:= @rP
 have d3:= @UG
 all_goals exact go
end
noncomputable def mU (a:Int):Option (Int):=
 (JF a (2130706431:Int)).bind fun r_=>
 some r_
theorem Iq {a r} (h:mU a=some r):Call tab ow 338 [I a] []=some (I r,[]):=by
 rw [ab (af:=tU) rfl]
 unfold mU at h
 simp+decide only [tU,HW,go_sem,reduceIte,Nat.reduceAdd]
 have d1:= @Ql
 all_goals exact go
noncomputable def i4 (n i:Int) (a b r_:Ext):Option (Ext):=
 (mU (2:Int)).bind fun r_2=>
 (AD n).bind fun r_3=>
 (FF r_3).bind fun r_4=>
 (JF r_4 i).bind fun r_5=>
 (dh a b).bind fun r_6=>
 (fS r_6 r_2).bind fun r_7=>
 (cW a b).bind fun r_8=>
 (bV r_ r_8).bind fun r_9=>
 (mU r_5).bind fun r_10=>
 (mI r_2 r_10).bind fun r_11=>
 (fS r_9 r_11).bind fun r_12=>
 (dh r_7 r_12).bind fun r_13=>
 some r_13
theorem EC {n i a b r_ r} (h:i4 n i a b r_=some r):Call tab ow 284 [I n,I i,.agg [I a.A,I a.B],.agg [I b.A,I b.B],.agg [I r_.A,I r_.B]] []=some (.agg [I r.A,I r.B],[]):=by
 rw [ab (af:=pW) rfl]
 unfold i4 at h
 simp+decide only [pW,Eb,go_sem,reduceIte,Nat.reduceAdd]
 have d1:= @Iq
 have d2:= @G2
 have d3:= @RS
 have d4:= @Ql
 have d5:= @eO
 have d6:= @rY
 have d7:= @eV
 have d8:= @eR
 have d9:= @AM
 all_goals exact go
section
noncomputable def fh (word2:List Ext) (half t c c2:Int):(List Ext)×Int→Option (((List Ext)×Int)⊕(((List Ext)×Int×Bool)))
 | (l,t2)=>
   br (decide (t2<t)) (
   (atL word2 t2).bind fun x=>
   (atL word2 (IntKind.wrap .i64 (t2+half))).bind fun x2=>
   (i4 ((word2.length:Nat):Int) t2 x x2 (Ext.mk c c2)).bind fun r_2=>
   br (aZ ((l++([r_2]:List Ext)).length) 16) (
   some (.inl ((l++([r_2]:List Ext)),(IntKind.wrap .i64 (t2+(1:Int)))))) none) (
   some (.inr (l,t2,decide (t2<t))))
@[reducible] def zD (word2:List Ext) (half t c c2:Int) (s:(List Ext)×Int):St:=⟨[(0,sl ae word2),(3,.ptr 1000 0 0 1),(5,.sl 2000 0 s.1.length),(6,I half),(12,I t),(13,I s.2)],[(1000,⟨2,true,[[I c,I c2]]⟩),(2000,⟨2,false,rws ae s.1⟩)]⟩
@[reducible] def zu (word2:List Ext) (half t c c2:Int):((List Ext)×Int×Bool)→ai×St:=fun e=>(.exit 0,⟨[(0,sl ae word2),(3,.ptr 1000 0 0 1),(5,.sl 2000 0 e.1.length),(6,I half),(12,I t),(13,I e.2.1),(14,B e.2.2)],[(1000,⟨2,true,[[I c,I c2]]⟩),(2000,⟨2,false,rws ae e.1⟩)]⟩)
theorem Lq {word2 half t c c2 s e} (h:Loop (fh word2 half t c c2) s=some e):aD tab ow (.close [6015,6016,6017]) sx (zD word2 half t c c2 s)=some (zu word2 half t c c2 e):=by
 refine lrG (fun s o h=> ?_) h
 obtain ⟨_,_⟩:=s
 simp only [fh] at h
 simp+decide only [zD,zu,sx,go_sem,reduceIte,Nat.reduceAdd]
 have d1:= @EC
 all_goals exact go
noncomputable def rZ (word:(List Ext)) (r_:Ext):Option ((List Ext)):=
 (Loop (fh word (IntKind.wrap .i64 (((word.length:Nat):Int).tdiv (2:Int))) (IntKind.wrap .i64 (((word.length:Nat):Int).tdiv (2:Int))) r_.A r_.B) (([]:List Ext),(0:Int))).bind fun e_=>
 some e_.1
theorem Pg {word r_ r} (h:rZ word r_=some r):Call tab ow 165 [sl ae word,.agg [I r_.A,I r_.B]] []=some (sl ae r,[]):=by
 rw [ab (af:=pq) rfl]
 unfold rZ at h
 simp+decide only [pq,EW,go_sem,reduceIte,Nat.reduceAdd]
 have d1:= @Lq
 all_goals exact go
end
section
noncomputable def fk (r_:Ext) (m m2 m3 m4:Int) (l:List aP) (l2:List (List UInt8)) (m5:Source):Option (Int×Int×Int×Int×(List aP)×(List (List UInt8))×Source):=
 br (decide (0≤(IntKind.wrap .i64 (((l.length:Nat):Int)-(1:Int))))) (
 br (decide ((IntKind.wrap .i64 (((l.length:Nat):Int)-(1:Int))).toNat<l.length)) (
 (l[(IntKind.wrap .i64 (((l.length:Nat):Int)-(1:Int))).toNat]?).bind fun x=>
 (rZ x.word r_).bind fun r_2=>
 br (((l.length:Nat):Int)==m) (
 some (m,m2,m3,m4,l,l2,m5)) (
 (rv r_2).bind fun r_3=>
 br (aZ ((l++([r_3]:List aP)).length) 48) (
 br (decide (0≤(IntKind.wrap .i64 ((((l++([r_3]:List aP)).length:Nat):Int)-(1:Int))))) (
 br (decide ((IntKind.wrap .i64 ((((l++([r_3]:List aP)).length:Nat):Int)-(1:Int))).toNat<(l++([r_3]:List aP)).length)) (
 ((l++([r_3]:List aP))[(IntKind.wrap .i64 ((((l++([r_3]:List aP)).length:Nat):Int)-(1:Int))).toNat]?).bind fun x2=>
 (rX x2.rows).bind fun r_4=>
 br (aZ ((l2++([r_4]:List (List UInt8))).length) 16) (
 br (aZ r_4.length 1) (
 (cO r_4 m5).bind fun r_5=>
 some (m,m2,m3,m4,(l++([r_3]:List aP)),(l2++([r_4]:List (List UInt8))),r_5)) none) none) none) none) none)) none) none
theorem A7 {r_ m m2 m3 m4 l l2 m5 r} (h:fk r_ m m2 m3 m4 l l2 m5=some r):Call tab ow 164 [.agg [I r_.A,I r_.B],.ptr 0 0 0 1,.ptr 1 0 0 1,.ptr 2 0 0 1,.ptr 3 0 0 1] [⟨1,true,[[.sl 4 0 l.length]]⟩,⟨1,true,[[I m]]⟩,⟨6,true,[[.lit (.slice none 0 0),.sl 5 0 l2.length,I m2,I m3,I m4,.lit (.slice none 0 0)]]⟩,⟨1,true,[[.ptr 6 0 0 1]]⟩,⟨2,false,rws dH l⟩,⟨1,false,rws eS l2⟩,⟨4,true,[[sl ae m5.Script,I m5.At,S m5.State,I m5.Count]]⟩]=some (.tup [],[⟨1,true,[[.sl 4 0 r.2.2.2.2.1.length]]⟩,⟨1,true,[[I r.1]]⟩,⟨6,true,[[.lit (.slice none 0 0),.sl 5 0 r.2.2.2.2.2.1.length,I r.2.1,I r.2.2.1,I r.2.2.2.1,.lit (.slice none 0 0)]]⟩,⟨1,true,[[.ptr 6 0 0 1]]⟩,⟨2,false,rws dH r.2.2.2.2.1⟩,⟨1,false,rws eS r.2.2.2.2.2.1⟩,⟨4,true,[[sl ae r.2.2.2.2.2.2.Script,I r.2.2.2.2.2.2.At,S r.2.2.2.2.2.2.State,I r.2.2.2.2.2.2.Count]]⟩]):=by
 rw [ab (af:=jb) rfl]
 unfold fk at h
 simp+decide only [jb,sY,go_sem,reduceIte,Nat.reduceAdd]
 have d1:= @Pg
 have d2:= @CP
 have d3:= @KY
 have d4:= @fW
 all_goals exact go
end
end Go.AI.Fn
set_option linter.unusedVariables false
set_option linter.unusedSimpArgs false
set_option maxRecDepth 100000
set_option maxHeartbeats 1000000
namespace Go.AI.Fn
section
noncomputable def aN (l5:List Ext) (kind2:Int):(List aP)×(List (List Ext))×(List Ext)×(List (List UInt8))×(List (List Ext))×(List Ext)×Int×(List UInt8)×Int×Int×Int×Int×Int→Option (((List aP)×(List (List Ext))×(List Ext)×(List (List UInt8))×(List (List Ext))×(List Ext)×Int×(List UInt8)×Int×Int×Int×Int×Int)⊕(((List aP)×(List (List Ext))×(List Ext)×(List (List UInt8))×(List (List Ext))×Bool×(List Ext)×Int×(List UInt8)×Int×Int×Int×Int×Int)))
 | (l2,l3,l4,l6,tables2,c,c2,c3,c4,c5,c6,c7,c8)=>
   (atL tables2 (0:Int)).bind fun x=>
   br (decide (((x.length:Nat):Int)>(1:Int))) (
   (na kind2 tables2).bind fun r_=>
   (ci r_ (Source.mk c c2 c3 c4)).bind fun r_2=>
   (eP r_2).bind fun r_3=>
   (AK tables2 r_3.1).bind fun r_4=>
   br (aZ ((l3++([r_]:List (List Ext))).length) 24) (
   br (aZ ((l4++([r_3.1]:List Ext)).length) 16) (
   (fk r_3.1 c5 c6 c7 c8 l2 l6 r_3.2).bind fun r_5=>
   some (.inl (r_5.2.2.2.2.1,(l3++([r_]:List (List Ext))),(l4++([r_3.1]:List Ext)),r_5.2.2.2.2.2.1,r_4,r_5.2.2.2.2.2.2.Script,r_5.2.2.2.2.2.2.At,r_5.2.2.2.2.2.2.State,r_5.2.2.2.2.2.2.Count,r_5.1,r_5.2.1,r_5.2.2.1,r_5.2.2.2.1))) none) none) (
   some (.inr (l2,l3,l4,l6,tables2,decide (((x.length:Nat):Int)>(1:Int)),c,c2,c3,c4,c5,c6,c7,c8)))
@[reducible] def eU (l5:List Ext) (kind2:Int) (s:(List aP)×(List (List Ext))×(List Ext)×(List (List UInt8))×(List (List Ext))×(List Ext)×Int×(List UInt8)×Int×Int×Int×Int×Int):St:=⟨[(0,.ptr 0 0 0 1),(1,I kind2),(2,sl (eL ae) s.2.2.2.2.1),(3,.fn 164 [.ptr 1 0 0 1,.ptr 2 0 0 1,.ptr 3 0 0 1,.ptr 4 0 0 1]),(11,.sl 2000 0 s.2.1.length),(12,.sl 2001 0 s.2.2.1.length),(13,.sl 2002 0 l5.length)],[(0,⟨4,true,[[sl ae s.2.2.2.2.2.1,I s.2.2.2.2.2.2.1,S s.2.2.2.2.2.2.2.1,I s.2.2.2.2.2.2.2.2.1]]⟩),(1,⟨1,true,[[.sl 5 0 s.1.length]]⟩),(2,⟨1,true,[[I s.2.2.2.2.2.2.2.2.2.1]]⟩),(3,⟨6,true,[[.lit (.slice none 0 0),.sl 3900 0 s.2.2.2.1.length,I s.2.2.2.2.2.2.2.2.2.2.1,I s.2.2.2.2.2.2.2.2.2.2.2.1,I s.2.2.2.2.2.2.2.2.2.2.2.2,.lit (.slice none 0 0)]]⟩),(4,⟨1,true,[[.ptr 0 0 0 1]]⟩),(5,⟨2,false,rws dH s.1⟩),(2000,⟨1,false,rws (eL ae) s.2.1⟩),(2001,⟨2,false,rws ae s.2.2.1⟩),(2002,⟨2,false,rws ae l5⟩),(3900,⟨1,false,rws eS s.2.2.2.1⟩)]⟩
@[reducible] def eY (l5:List Ext) (kind2:Int):((List aP)×(List (List Ext))×(List Ext)×(List (List UInt8))×(List (List Ext))×Bool×(List Ext)×Int×(List UInt8)×Int×Int×Int×Int×Int)→ai×St:=fun e=>(.exit 0,⟨[(0,.ptr 0 0 0 1),(1,I kind2),(2,sl (eL ae) e.2.2.2.2.1),(3,.fn 164 [.ptr 1 0 0 1,.ptr 2 0 0 1,.ptr 3 0 0 1,.ptr 4 0 0 1]),(11,.sl 2000 0 e.2.1.length),(12,.sl 2001 0 e.2.2.1.length),(13,.sl 2002 0 l5.length),(25,B e.2.2.2.2.2.1)],[(0,⟨4,true,[[sl ae e.2.2.2.2.2.2.1,I e.2.2.2.2.2.2.2.1,S e.2.2.2.2.2.2.2.2.1,I e.2.2.2.2.2.2.2.2.2.1]]⟩),(1,⟨1,true,[[.sl 5 0 e.1.length]]⟩),(2,⟨1,true,[[I e.2.2.2.2.2.2.2.2.2.2.1]]⟩),(3,⟨6,true,[[.lit (.slice none 0 0),.sl 3900 0 e.2.2.2.1.length,I e.2.2.2.2.2.2.2.2.2.2.2.1,I e.2.2.2.2.2.2.2.2.2.2.2.2.1,I e.2.2.2.2.2.2.2.2.2.2.2.2.2,.lit (.slice none 0 0)]]⟩),(4,⟨1,true,[[.ptr 0 0 0 1]]⟩),(5,⟨2,false,rws dH e.1⟩),(2000,⟨1,false,rws (eL ae) e.2.1⟩),(2001,⟨2,false,rws ae e.2.2.1⟩),(2002,⟨2,false,rws ae l5⟩),(3900,⟨1,false,rws eS e.2.2.2.1⟩)]⟩)
theorem kx {l5 kind2 s e} (h:Loop (aN l5 kind2) s=some e):aD tab ow (.both (.close [4002,5002,6001,6002,7002,8002,8003,8006,8007,9002]) (.nilCell 3 1 3900 1)) iW (eU l5 kind2 s)=some (eY l5 kind2 e):=by
 refine lrG (fun s o h=> ?_) h
 obtain ⟨_,_,_,_,_,_,_,_,_,_,_,_,_⟩:=s
 simp only [aN] at h
 simp+decide only [eU,eY,iW,go_sem,reduceIte,Nat.reduceAdd]
 have d1:= @TZ
 have d2:= @fD
 have d3:= @oR
 have d4:= @OJ
 have d5:= @A7
 all_goals exact go
noncomputable def ba (l7:List aP) (l8:List (List Ext)) (l9:List Ext) (l11:List (List UInt8)) (t:List (List Ext)) (t2:Int) (c9:List Ext) (c10:Int) (c11:List UInt8) (c12 c13 c14 c15 c16:Int):(List Ext)×Int→Option (((List Ext)×Int)⊕(((List Ext)×Int×Bool)))
 | (l10,t3)=>
   br (decide (t3<t2)) (
   (atL t t3).bind fun x2=>
   (atL x2 (0:Int)).bind fun x3=>
   br (aZ ((l10++([x3]:List Ext)).length) 16) (
   some (.inl ((l10++([x3]:List Ext)),(IntKind.wrap .i64 (t3+(1:Int)))))) none) (
   some (.inr (l10,t3,decide (t3<t2))))
@[reducible] def eX (l7:List aP) (l8:List (List Ext)) (l9:List Ext) (l11:List (List UInt8)) (t:List (List Ext)) (t2:Int) (c9:List Ext) (c10:Int) (c11:List UInt8) (c12 c13 c14 c15 c16:Int) (s:(List Ext)×Int):St:=⟨[(11,.sl 2000 0 l8.length),(12,.sl 2001 0 l9.length),(13,.sl 2002 0 s.1.length),(48,sl (eL ae) t),(49,I t2),(50,I s.2)],[(0,⟨4,true,[[sl ae c9,I c10,S c11,I c12]]⟩),(1,⟨1,true,[[.sl 5 0 l7.length]]⟩),(2,⟨1,true,[[I c13]]⟩),(3,⟨6,true,[[.lit (.slice none 0 0),.sl 3900 0 l11.length,I c14,I c15,I c16,.lit (.slice none 0 0)]]⟩),(4,⟨1,true,[[.ptr 0 0 0 1]]⟩),(5,⟨2,false,rws dH l7⟩),(2000,⟨1,false,rws (eL ae) l8⟩),(2001,⟨2,false,rws ae l9⟩),(2002,⟨2,false,rws ae s.1⟩),(3900,⟨1,false,rws eS l11⟩)]⟩
@[reducible] def eT (l7:List aP) (l8:List (List Ext)) (l9:List Ext) (l11:List (List UInt8)) (t:List (List Ext)) (t2:Int) (c9:List Ext) (c10:Int) (c11:List UInt8) (c12 c13 c14 c15 c16:Int):((List Ext)×Int×Bool)→ai×St:=fun e=>(.exit 2,⟨[(11,.sl 2000 0 l8.length),(12,.sl 2001 0 l9.length),(13,.sl 2002 0 e.1.length),(48,sl (eL ae) t),(49,I t2),(50,I e.2.1),(51,B e.2.2)],[(0,⟨4,true,[[sl ae c9,I c10,S c11,I c12]]⟩),(1,⟨1,true,[[.sl 5 0 l7.length]]⟩),(2,⟨1,true,[[I c13]]⟩),(3,⟨6,true,[[.lit (.slice none 0 0),.sl 3900 0 l11.length,I c14,I c15,I c16,.lit (.slice none 0 0)]]⟩),(4,⟨1,true,[[.ptr 0 0 0 1]]⟩),(5,⟨2,false,rws dH l7⟩),(2000,⟨1,false,rws (eL ae) l8⟩),(2001,⟨2,false,rws ae l9⟩),(2002,⟨2,false,rws ae e.1⟩),(3900,⟨1,false,rws eS l11⟩)]⟩)
theorem kA {l7 l8 l9 l11 t t2 c9 c10 c11 c12 c13 c14 c15 c16 s e} (h:Loop (ba l7 l8 l9 l11 t t2 c9 c10 c11 c12 c13 c14 c15 c16) s=some e):aD tab ow (.close [13004,13005]) hI (eX l7 l8 l9 l11 t t2 c9 c10 c11 c12 c13 c14 c15 c16 s)=some (eT l7 l8 l9 l11 t t2 c9 c10 c11 c12 c13 c14 c15 c16 e):=by
 refine lrG (fun s o h=> ?_) h
 obtain ⟨_,_⟩:=s
 simp only [ba] at h
 simp+decide only [eX,eT,hI,go_sem,reduceIte,Nat.reduceAdd]
 all_goals exact go
noncomputable def bN (kind:Int) (tables:(List (List Ext))) (m:Source) (m2 m3 m4 m5:Int) (l:List aP):Option ((List (List Ext))×(List Ext)×(List Ext)×Source×Int×Int×Int×Int×(List aP)×(List (List UInt8))):=
 (Loop (aN ([]:List Ext) kind) (l,([]:List (List Ext)),([]:List Ext),([]:List (List UInt8)),tables,m.Script,m.At,m.State,m.Count,m2,m3,m4,m5)).bind fun e_=>
 (Loop (ba e_.1 e_.2.1 e_.2.2.1 e_.2.2.2.1 e_.2.2.2.2.1 ((e_.2.2.2.2.1.length:Nat):Int) e_.2.2.2.2.2.2.1 e_.2.2.2.2.2.2.2.1 e_.2.2.2.2.2.2.2.2.1 e_.2.2.2.2.2.2.2.2.2.1 e_.2.2.2.2.2.2.2.2.2.2.1 e_.2.2.2.2.2.2.2.2.2.2.2.1 e_.2.2.2.2.2.2.2.2.2.2.2.2.1 e_.2.2.2.2.2.2.2.2.2.2.2.2.2) (([]:List Ext),(0:Int))).bind fun e_2=>
 some (e_.2.1,e_.2.2.1,e_2.1,(Source.mk e_.2.2.2.2.2.2.1 e_.2.2.2.2.2.2.2.1 e_.2.2.2.2.2.2.2.2.1 e_.2.2.2.2.2.2.2.2.2.1),e_.2.2.2.2.2.2.2.2.2.2.1,e_.2.2.2.2.2.2.2.2.2.2.2.1,e_.2.2.2.2.2.2.2.2.2.2.2.2.1,e_.2.2.2.2.2.2.2.2.2.2.2.2.2,e_.1,e_.2.2.2.1)
theorem lR {kind tables m m2 m3 m4 m5 l r} (h:bN kind tables m m2 m3 m4 m5 l=some r):Call tab ow 163 [.ptr 0 0 0 1,I kind,sl (eL ae) tables,.fn 164 [.ptr 1 0 0 1,.ptr 2 0 0 1,.ptr 3 0 0 1,.ptr 4 0 0 1]] [⟨4,true,[[sl ae m.Script,I m.At,S m.State,I m.Count]]⟩,⟨1,true,[[.sl 5 0 l.length]]⟩,⟨1,true,[[I m2]]⟩,⟨6,true,[[.lit (.slice none 0 0),.lit (.slice none 0 0),I m3,I m4,I m5,.lit (.slice none 0 0)]]⟩,⟨1,true,[[.ptr 0 0 0 1]]⟩,⟨2,false,rws dH l⟩]=some (.tup [sl (eL ae) r.1,sl ae r.2.1,sl ae r.2.2.1],[⟨4,true,[[sl ae r.2.2.2.1.Script,I r.2.2.2.1.At,S r.2.2.2.1.State,I r.2.2.2.1.Count]]⟩,⟨1,true,[[.sl 5 0 r.2.2.2.2.2.2.2.2.1.length]]⟩,⟨1,true,[[I r.2.2.2.2.1]]⟩,⟨6,true,[[.lit (.slice none 0 0),.sl 6 0 r.2.2.2.2.2.2.2.2.2.length,I r.2.2.2.2.2.1,I r.2.2.2.2.2.2.1,I r.2.2.2.2.2.2.2.1,.lit (.slice none 0 0)]]⟩,⟨1,true,[[.ptr 0 0 0 1]]⟩,⟨2,false,rws dH r.2.2.2.2.2.2.2.2.1⟩,⟨1,false,rws eS r.2.2.2.2.2.2.2.2.2⟩]):=by
 rw [ab (af:=gy) rfl]
 unfold bN at h
 simp+decide only [gy,pe,go_sem,reduceIte,Nat.reduceAdd]
 have d1:= @kx
 have d2:= @kA
 all_goals exact go
end
noncomputable def jK (t:List UInt8) (t2:Int):Int×Int→Option ((Int×Int)⊕((Int×Int×Bool)))
 | (n,t3)=>
   br (decide (t3<t2)) (
   (atL t t3).bind fun x=>
   some (.inl ((uq .i64 (bW .i64 n (8:Int)) (IntKind.wrap .i64 (x.toNat:Int))),(IntKind.wrap .i64 (t3+(1:Int)))))) (
   some (.inr (n,t3,decide (t3<t2))))
@[reducible] def DQ (t:List UInt8) (t2:Int) (s:Int×Int):St:=⟨[(3,I s.1),(6,sl eU8 t),(7,I t2),(8,I s.2)],[]⟩
@[reducible] def EG (t:List UInt8) (t2:Int):(Int×Int×Bool)→ai×St:=fun e=>(.exit 0,⟨[(3,I e.1),(6,sl eU8 t),(7,I t2),(8,I e.2.1),(9,B e.2.2)],[]⟩)
theorem Q6 {t t2 s e} (h:Loop (jK t t2) s=some e):aD tab ow (.close []) xc (DQ t t2 s)=some (EG t t2 e):=by
 refine lrG (fun s o h=> ?_) h
 obtain ⟨_,_⟩:=s
 simp only [jK] at h
 simp+decide only [DQ,EG,xc,go_sem,reduceIte,Nat.reduceAdd]
 all_goals exact go
noncomputable def zs (b:(List UInt8)):Option (Int):=
 (Loop (jK b ((b.length:Nat):Int)) ((0:Int),(0:Int))).bind fun e_=>
 some e_.1
theorem Un {b r} (h:zs b=some r):Call tab ow 295 [sl eU8 b] []=some (I r,[]):=by
 rw [ab (af:=xp) rfl]
 unfold zs at h
 simp+decide only [xp,LO,go_sem,reduceIte,Nat.reduceAdd]
 have d1:= @Q6
 all_goals exact go
section
noncomputable def iA (s:Source) (bits nonce:Int):Option (Bool):=
 br (aZ s.State.length 1) (
 (xi nonce).bind fun r_=>
 (mf ([s.State,([(103:UInt8),(114:UInt8),(105:UInt8),(110:UInt8),(100:UInt8)]:List UInt8),r_]:List (List UInt8))).bind fun r_2=>
 br (aZ r_2.length 1) (
 (sK r_2 (0:Int) (4:Int)).bind fun y=>
 (zs y).bind fun r_3=>
 br (decide (0≤(IntKind.wrap .i64 ((32:Int)-bits)))) (
 some ((aL .i64 r_3 (IntKind.wrap .i64 ((32:Int)-bits)))==(0:Int))) none) none) none
theorem xD {s bits nonce r} (h:iA s bits nonce=some r):Call tab ow 190 [.agg [sl ae s.Script,I s.At,S s.State,I s.Count],I bits,I nonce] []=some (B r,[]):=by
 rw [ab (af:=lc) rfl]
 unfold iA at h
 simp+decide only [lc,y8,go_sem,reduceIte,Nat.reduceAdd]
 have d1:= @zQ
 have d2:= @rP
 have d3:= @Un
 all_goals exact go
end
noncomputable def bY (bits2:Int) (c:List Ext) (c2:Int) (c3:List UInt8) (c4:Int):Int→Option ((Int)⊕(Int⊕(Int×Bool)))
 |t=>
  br (decide (t<(65536:Int))) (
  (iA (Source.mk c c2 c3 c4) bits2 t).bind fun r_=>
  br r_ (
  some (.inr (.inl t))) (
  some (.inl (IntKind.wrap .i64 (t+(1:Int)))))) (
  some (.inr (.inr (t,decide (t<(65536:Int))))))
@[reducible] def rN (bits2:Int) (c:List Ext) (c2:Int) (c3:List UInt8) (c4 s:Int):St:=⟨[(1,I bits2),(2,.ptr 1000 0 0 1),(6,I s)],[(1000,⟨4,true,[[sl ae c,I c2,S c3,I c4]]⟩)]⟩
@[reducible] def sn (bits2:Int) (c:List Ext) (c2:Int) (c3:List UInt8) (c4:Int):(Int⊕(Int×Bool))→ai×St:=alt (fun e=>((.ret,⟨[(4,I e)],[(1000,⟨4,true,[[sl ae c,I c2,S c3,I c4]]⟩)]⟩):ai×St)) (fun e=>(.exit 0,⟨[(1,I bits2),(2,.ptr 1000 0 0 1),(6,I e.1),(7,B e.2)],[(1000,⟨4,true,[[sl ae c,I c2,S c3,I c4]]⟩)]⟩))
theorem CG {bits2 c c2 c3 c4 s e} (h:Loop (bY bits2 c c2 c3 c4) s=some e):aD tab ow (.close [5003]) ly (rN bits2 c c2 c3 c4 s)=some (sn bits2 c c2 c3 c4 e):=by
 refine lrG (fun s o h=> ?_) h
 simp only [bY] at h
 simp+decide only [rN,sn,ly,go_sem,reduceIte,Nat.reduceAdd]
 have d1:= @xD
 all_goals exact go
noncomputable def jn (s:Source) (bits:Int):Option (Int):=
 (Loop (bY bits s.Script s.At s.State s.Count) (0:Int)).bind (alt (fun e_2=>
 some e_2) (fun e_3=>
 some (-1:Int)))
theorem GC {s bits r} (h:jn s bits=some r):Call tab ow 168 [.agg [sl ae s.Script,I s.At,S s.State,I s.Count],I bits] []=some (I r,[]):=by
 rw [ab (af:=jF) rfl]
 unfold jn at h
 simp+decide only [jF,vU,go_sem,reduceIte,Nat.reduceAdd]
 have d1:= @CG
 all_goals exact go
section
noncomputable def cP (t:Int):(List Ext)×Int×(List Ext)×Int×(List UInt8)×Int→Option (((List Ext)×Int×(List Ext)×Int×(List UInt8)×Int)⊕(((List Ext)×Int×Bool×(List Ext)×Int×(List UInt8)×Int)))
 | (l,t2,c,c2,c3,c4)=>
   br (decide (t2<t)) (
   (eP (Source.mk c c2 c3 c4)).bind fun r_=>
   br (aZ ((l++([r_.1]:List Ext)).length) 16) (
   some (.inl ((l++([r_.1]:List Ext)),(IntKind.wrap .i64 (t2+(1:Int))),r_.2.Script,r_.2.At,r_.2.State,r_.2.Count))) none) (
   some (.inr (l,t2,decide (t2<t),c,c2,c3,c4)))
@[reducible] def rO (t:Int) (s:(List Ext)×Int×(List Ext)×Int×(List UInt8)×Int):St:=⟨[(0,.ptr 0 0 0 1),(5,.sl 2000 0 s.1.length),(7,I t),(8,I s.2.1)],[(0,⟨4,true,[[sl ae s.2.2.1,I s.2.2.2.1,S s.2.2.2.2.1,I s.2.2.2.2.2]]⟩),(2000,⟨2,false,rws ae s.1⟩)]⟩
@[reducible] def rC (t:Int):((List Ext)×Int×Bool×(List Ext)×Int×(List UInt8)×Int)→ai×St:=fun e=>(.exit 0,⟨[(0,.ptr 0 0 0 1),(5,.sl 2000 0 e.1.length),(7,I t),(8,I e.2.1),(9,B e.2.2.1)],[(0,⟨4,true,[[sl ae e.2.2.2.1,I e.2.2.2.2.1,S e.2.2.2.2.2.1,I e.2.2.2.2.2.2]]⟩),(2000,⟨2,false,rws ae e.1⟩)]⟩)
theorem D0 {t s e} (h:Loop (cP t) s=some e):aD tab ow (.close [5002,5003,5004]) lf (rO t s)=some (rC t e):=by
 refine lrG (fun s o h=> ?_) h
 obtain ⟨_,_,_,_,_,_⟩:=s
 simp only [cP] at h
 simp+decide only [rO,rC,lf,go_sem,reduceIte,Nat.reduceAdd]
 have d1:= @oR
 all_goals exact go
noncomputable def gE (n:Int) (m:Source):Option ((List Ext)×Source):=
 (Loop (cP n) (([]:List Ext),(0:Int),m.Script,m.At,m.State,m.Count)).bind fun e_=>
 some (e_.1,(Source.mk e_.2.2.2.1 e_.2.2.2.2.1 e_.2.2.2.2.2.1 e_.2.2.2.2.2.2))
theorem vY {n m r} (h:gE n m=some r):Call tab ow 171 [.ptr 0 0 0 1,I n] [⟨4,true,[[sl ae m.Script,I m.At,S m.State,I m.Count]]⟩]=some (sl ae r.1,[⟨4,true,[[sl ae r.2.Script,I r.2.At,S r.2.State,I r.2.Count]]⟩]):=by
 rw [ab (af:=jR) rfl]
 unfold gE at h
 simp+decide only [jR,vz,go_sem,reduceIte,Nat.reduceAdd]
 have d1:= @D0
 all_goals exact go
end
section
noncomputable def hG (most2:Int) (t:List Ext) (t2:Int):(List Int)×Int→Option (((List Int)×Int)⊕(((List Int)×Int×Bool)))
 | (l,t3)=>
   br (decide (t3<t2)) (
   (atL t t3).bind fun x=>
   br (decide (most2≠0)) (
   br (aZ ((l++([(x.A.tmod most2)]:List Int)).length) 8) (
   some (.inl ((l++([(x.A.tmod most2)]:List Int)),(IntKind.wrap .i64 (t3+(1:Int)))))) none) none) (
   some (.inr (l,t3,decide (t3<t2))))
@[reducible] def F3 (most2:Int) (t:List Ext) (t2:Int) (s:(List Int)×Int):St:=⟨[(1,I most2),(5,.sl 2000 0 s.1.length),(9,sl ae t),(10,I t2),(11,I s.2)],[(2000,⟨1,false,rws eI s.1⟩)]⟩
@[reducible] def D8 (most2:Int) (t:List Ext) (t2:Int):((List Int)×Int×Bool)→ai×St:=fun e=>(.exit 0,⟨[(1,I most2),(5,.sl 2000 0 e.1.length),(9,sl ae t),(10,I t2),(11,I e.2.1),(12,B e.2.2)],[(2000,⟨1,false,rws eI e.1⟩)]⟩)
theorem Pj {most2 t t2 s e} (h:Loop (hG most2 t t2) s=some e):aD tab ow (.close [5002,6005,6006]) xm (F3 most2 t t2 s)=some (D8 most2 t t2 e):=by
 refine lrG (fun s o h=> ?_) h
 obtain ⟨_,_⟩:=s
 simp only [hG] at h
 simp+decide only [F3,D8,xm,go_sem,reduceIte,Nat.reduceAdd]
 all_goals exact go
noncomputable def vM (list:(List Ext)) (most:Int):Option ((List Int)):=
 (Loop (hG most list ((list.length:Nat):Int)) (([]:List Int),(0:Int))).bind fun e_=>
 some e_.1
theorem KA {list most r} (h:vM list most=some r):Call tab ow 170 [sl ae list,I most] []=some (sl eI r,[]):=by
 rw [ab (af:=xq) rfl]
 unfold vM at h
 simp+decide only [xq,JA,go_sem,reduceIte,Nat.reduceAdd]
 have d1:= @Pj
 all_goals exact go
end
section
noncomputable def i9 (t:List (List (List UInt8))) (t2:Int):(List (List UInt8))×Int×Int→Option (((List (List UInt8))×Int×Int)⊕(((List (List UInt8))×Int×Int×Bool)))
 | (l,i2,t3)=>
   br (decide (t3<t2)) (
   (atL t t3).bind fun x=>
   (atL x (fT .i64 i2 (1:Int))).bind fun x2=>
   br (aZ ((l++([x2]:List (List UInt8))).length) 16) (
   some (.inl ((l++([x2]:List (List UInt8))),(IntKind.wrap .i64 (i2.tdiv (2:Int))),(IntKind.wrap .i64 (t3+(1:Int)))))) none) (
   some (.inr (l,i2,t3,decide (t3<t2))))
@[reducible] def EX (t:List (List (List UInt8))) (t2:Int) (s:(List (List UInt8))×Int×Int):St:=⟨[(1,I s.2.1),(5,.sl 2000 0 s.1.length),(13,sl (eL eS) t),(14,I t2),(15,I s.2.2)],[(2000,⟨1,false,rws eS s.1⟩)]⟩
@[reducible] def EQ (t:List (List (List UInt8))) (t2:Int):((List (List UInt8))×Int×Int×Bool)→ai×St:=fun e=>(.exit 0,⟨[(1,I e.2.1),(5,.sl 2000 0 e.1.length),(13,sl (eL eS) t),(14,I t2),(15,I e.2.2.1),(16,B e.2.2.2)],[(2000,⟨1,false,rws eS e.1⟩)]⟩)
theorem PL {t t2 s e} (h:Loop (i9 t t2) s=some e):aD tab ow (.close [6006,6007]) wy (EX t t2 s)=some (EQ t t2 e):=by
 refine lrG (fun s o h=> ?_) h
 obtain ⟨_,_,_⟩:=s
 simp only [i9] at h
 simp+decide only [EX,EQ,wy,go_sem,reduceIte,Nat.reduceAdd]
 all_goals exact go
noncomputable def zS (rows:(List (List (List UInt8)))) (i:Int):Option ((List (List UInt8))):=
 (sK rows (0:Int) (IntKind.wrap .i64 (((rows.length:Nat):Int)-(1:Int)))).bind fun y=>
 (Loop (i9 y ((y.length:Nat):Int)) (([]:List (List UInt8)),i,(0:Int))).bind fun e_=>
 some e_.1
theorem V6 {rows i r} (h:zS rows i=some r):Call tab ow 172 [sl (eL eS) rows,I i] []=some (sl eS r,[]):=by
 rw [ab (af:=xd) rfl]
 unfold zS at h
 simp+decide only [xd,KK,go_sem,reduceIte,Nat.reduceAdd]
 have d1:= @PL
 all_goals exact go
end
section
noncomputable def ec (l4:List aP) (l5:List (List UInt8)) (l6:List aB) (t4:Int) (t5:List Int) (t6 t7 t8:Int) (c16:List Ext) (c17:Int) (c18:List UInt8) (c19 c20 c21 c22 c23 c24 c25:Int) (c26:List (List Ext)) (c27 c28 c29 c30:Int):(List Ext)×(List (List (List UInt8)))×Int→Option (((List Ext)×(List (List (List UInt8)))×Int)⊕(((List Ext)×(List (List (List UInt8)))×Int×Bool)))
 | (l7,l8,t9)=>
   br (decide (t9<t8)) (
   br (decide (0≤t9)) (
   br (decide (t9.toNat<l4.length)) (
   (l4[t9.toNat]?).bind fun x4=>
   br (decide ((IntKind.wrap .i64 (((x4.word.length:Nat):Int).tdiv (2:Int)))≠0)) (
   (atL x4.word (t4.tmod (IntKind.wrap .i64 (((x4.word.length:Nat):Int).tdiv (2:Int))))).bind fun x5=>
   (atL x4.word (IntKind.wrap .i64 ((t4.tmod (IntKind.wrap .i64 (((x4.word.length:Nat):Int).tdiv (2:Int))))+(IntKind.wrap .i64 (((x4.word.length:Nat):Int).tdiv (2:Int)))))).bind fun x6=>
   br (aZ ((l7++([x5,x6]:List Ext)).length) 16) (
   (zS x4.rows (t4.tmod (IntKind.wrap .i64 (((x4.word.length:Nat):Int).tdiv (2:Int))))).bind fun r_12=>
   br (aZ ((l8++([r_12]:List (List (List UInt8)))).length) 24) (
   some (.inl ((l7++([x5,x6]:List Ext)),(l8++([r_12]:List (List (List UInt8)))),(IntKind.wrap .i64 (t9+(1:Int)))))) none) none) none) none) none) (
   some (.inr (l7,l8,t9,decide (t9<t8))))
@[reducible] def tP (l4:List aP) (l5:List (List UInt8)) (l6:List aB) (t4:Int) (t5:List Int) (t6 t7 t8:Int) (c16:List Ext) (c17:Int) (c18:List UInt8) (c19 c20 c21 c22 c23 c24 c25:Int) (c26:List (List Ext)) (c27 c28 c29 c30:Int) (s:(List Ext)×(List (List (List UInt8)))×Int):St:=⟨[(8,.ptr 1002 0 0 1),(10,.ptr 2007 0 0 1),(11,.ptr 3003 0 0 1),(17,I t4),(18,.ptr 14001 0 0 1),(81,sl eI t5),(82,I t6),(83,I t7),(88,.sl 2006 0 l4.length),(89,I t8),(90,I s.2.2)],[(0,⟨4,true,[[sl ae c16,I c17,S c18,I c19]]⟩),(1000,⟨1,true,[[.ptr 0 0 0 1]]⟩),(1001,⟨3,true,[[I c20,I c21,I c22]]⟩),(1002,⟨6,true,[[.lit (.slice none 0 0),.lit (.slice none 0 0),I c23,I c24,I c25,.lit (.slice none 0 0)]]⟩),(2006,⟨2,false,rws dH l4⟩),(2007,⟨1,true,[[.sl 2006 0 l4.length]]⟩),(3003,⟨6,true,[[sl (eL ae) c26,.sl 4006 0 l5.length,I c27,I c28,I c29,.sl 12900 0 l6.length]]⟩),(3004,⟨1,true,[[I c30]]⟩),(4004,cu),(4006,⟨1,false,rws eS l5⟩),(6003,cu),(12900,⟨2,false,rws aG l6⟩),(14001,⟨2,true,[[.sl 16900 0 s.1.length,.sl 16901 0 s.2.1.length]]⟩),(16900,⟨2,false,rws ae s.1⟩),(16901,⟨1,false,rws (eL eS) s.2.1⟩)]⟩
@[reducible] def ua (l4:List aP) (l5:List (List UInt8)) (l6:List aB) (t4:Int) (t5:List Int) (t6 t7 t8:Int) (c16:List Ext) (c17:Int) (c18:List UInt8) (c19 c20 c21 c22 c23 c24 c25:Int) (c26:List (List Ext)) (c27 c28 c29 c30:Int):((List Ext)×(List (List (List UInt8)))×Int×Bool)→ai×St:=fun e=>(.exit 2,⟨[(8,.ptr 1002 0 0 1),(10,.ptr 2007 0 0 1),(11,.ptr 3003 0 0 1),(17,I t4),(18,.ptr 14001 0 0 1),(81,sl eI t5),(82,I t6),(83,I t7),(88,.sl 2006 0 l4.length),(89,I t8),(90,I e.2.2.1),(91,B e.2.2.2)],[(0,⟨4,true,[[sl ae c16,I c17,S c18,I c19]]⟩),(1000,⟨1,true,[[.ptr 0 0 0 1]]⟩),(1001,⟨3,true,[[I c20,I c21,I c22]]⟩),(1002,⟨6,true,[[.lit (.slice none 0 0),.lit (.slice none 0 0),I c23,I c24,I c25,.lit (.slice none 0 0)]]⟩),(2006,⟨2,false,rws dH l4⟩),(2007,⟨1,true,[[.sl 2006 0 l4.length]]⟩),(3003,⟨6,true,[[sl (eL ae) c26,.sl 4006 0 l5.length,I c27,I c28,I c29,.sl 12900 0 l6.length]]⟩),(3004,⟨1,true,[[I c30]]⟩),(4004,cu),(4006,⟨1,false,rws eS l5⟩),(6003,cu),(12900,⟨2,false,rws aG l6⟩),(14001,⟨2,true,[[.sl 16900 0 e.1.length,.sl 16901 0 e.2.1.length]]⟩),(16900,⟨2,false,rws ae e.1⟩),(16901,⟨1,false,rws (eL eS) e.2.1⟩)]⟩)
theorem F4 {l4 l5 l6 t4 t5 t6 t7 t8 c16 c17 c18 c19 c20 c21 c22 c23 c24 c25 c26 c27 c28 c29 c30 s e} (h:Loop (ec l4 l5 l6 t4 t5 t6 t7 t8 c16 c17 c18 c19 c20 c21 c22 c23 c24 c25 c26 c27 c28 c29 c30) s=some e):aD tab ow (.both (.both (.close [17002,20014,20015,20021,20022,20023]) (.nilCell 14001 0 16900 2)) (.nilCell 14001 1 16901 1)) lm (tP l4 l5 l6 t4 t5 t6 t7 t8 c16 c17 c18 c19 c20 c21 c22 c23 c24 c25 c26 c27 c28 c29 c30 s)=some (ua l4 l5 l6 t4 t5 t6 t7 t8 c16 c17 c18 c19 c20 c21 c22 c23 c24 c25 c26 c27 c28 c29 c30 e):=by
 refine lrG (fun s o h=> ?_) h
 obtain ⟨_,_,_⟩:=s
 simp only [ec] at h
 simp+decide only [tP,ua,lm,go_sem,reduceIte,Nat.reduceAdd]
 have d1:= @V6
 all_goals exact go
noncomputable def di (l:List aP) (l2:List (List UInt8)) (t:List Int) (t2:Int) (c:List Ext) (c2:Int) (c3:List UInt8) (c4 c5 c6 c7 c8 c9 c10:Int) (c11:List (List Ext)) (c12 c13 c14 c15:Int):(List aB)×Int→Option (((List aB)×Int)⊕(((List aB)×Int×Bool)))
 | (l3,t3)=>
   br (decide (t3<t2)) (
   (atL t t3).bind fun x3=>
   (Loop (ec l l2 l3 x3 t t2 t3 ((l.length:Nat):Int) c c2 c3 c4 c5 c6 c7 c8 c9 c10 c11 c12 c13 c14 c15) (([]:List Ext),([]:List (List (List UInt8))),(0:Int))).bind fun e_=>
   br (aZ ((l3++([(aB.mk e_.1 e_.2.1)]:List aB)).length) 48) (
   some (.inl ((l3++([(aB.mk e_.1 e_.2.1)]:List aB)),(IntKind.wrap .i64 (t3+(1:Int)))))) none) (
   some (.inr (l3,t3,decide (t3<t2))))
@[reducible] def tq (l:List aP) (l2:List (List UInt8)) (t:List Int) (t2:Int) (c:List Ext) (c2:Int) (c3:List UInt8) (c4 c5 c6 c7 c8 c9 c10:Int) (c11:List (List Ext)) (c12 c13 c14 c15:Int) (s:(List aB)×Int):St:=⟨[(8,.ptr 1002 0 0 1),(10,.ptr 2007 0 0 1),(11,.ptr 3003 0 0 1),(81,sl eI t),(82,I t2),(83,I s.2)],[(0,⟨4,true,[[sl ae c,I c2,S c3,I c4]]⟩),(1000,⟨1,true,[[.ptr 0 0 0 1]]⟩),(1001,⟨3,true,[[I c5,I c6,I c7]]⟩),(1002,⟨6,true,[[.lit (.slice none 0 0),.lit (.slice none 0 0),I c8,I c9,I c10,.lit (.slice none 0 0)]]⟩),(2006,⟨2,false,rws dH l⟩),(2007,⟨1,true,[[.sl 2006 0 l.length]]⟩),(3003,⟨6,true,[[sl (eL ae) c11,.sl 4006 0 l2.length,I c12,I c13,I c14,.sl 12900 0 s.1.length]]⟩),(3004,⟨1,true,[[I c15]]⟩),(4004,cu),(4006,⟨1,false,rws eS l2⟩),(6003,cu),(12900,⟨2,false,rws aG s.1⟩)]⟩
@[reducible] def tw (l:List aP) (l2:List (List UInt8)) (t:List Int) (t2:Int) (c:List Ext) (c2:Int) (c3:List UInt8) (c4 c5 c6 c7 c8 c9 c10:Int) (c11:List (List Ext)) (c12 c13 c14 c15:Int):((List aB)×Int×Bool)→ai×St:=fun e=>(.exit 0,⟨[(8,.ptr 1002 0 0 1),(10,.ptr 2007 0 0 1),(11,.ptr 3003 0 0 1),(81,sl eI t),(82,I t2),(83,I e.2.1),(84,B e.2.2)],[(0,⟨4,true,[[sl ae c,I c2,S c3,I c4]]⟩),(1000,⟨1,true,[[.ptr 0 0 0 1]]⟩),(1001,⟨3,true,[[I c5,I c6,I c7]]⟩),(1002,⟨6,true,[[.lit (.slice none 0 0),.lit (.slice none 0 0),I c8,I c9,I c10,.lit (.slice none 0 0)]]⟩),(2006,⟨2,false,rws dH l⟩),(2007,⟨1,true,[[.sl 2006 0 l.length]]⟩),(3003,⟨6,true,[[sl (eL ae) c11,.sl 4006 0 l2.length,I c12,I c13,I c14,.sl 12900 0 e.1.length]]⟩),(3004,⟨1,true,[[I c15]]⟩),(4004,cu),(4006,⟨1,false,rws eS l2⟩),(6003,cu),(12900,⟨2,false,rws aG e.1⟩)]⟩)
theorem Dw {l l2 t t2 c c2 c3 c4 c5 c6 c7 c8 c9 c10 c11 c12 c13 c14 c15 s e} (h:Loop (di l l2 t t2 c c2 c3 c4 c5 c6 c7 c8 c9 c10 c11 c12 c13 c14 c15) s=some e):aD tab ow (.both (.close [14001,17002,20014,20015,20021,20022,20023,22003,22004,16900,16901]) (.nilCell 3003 5 12900 2)) lr (tq l l2 t t2 c c2 c3 c4 c5 c6 c7 c8 c9 c10 c11 c12 c13 c14 c15 s)=some (tw l l2 t t2 c c2 c3 c4 c5 c6 c7 c8 c9 c10 c11 c12 c13 c14 c15 e):=by
 refine lrG (fun s o h=> ?_) h
 obtain ⟨_,_⟩:=s
 simp only [di] at h
 simp+decide only [tq,tw,lr,go_sem,reduceIte,Nat.reduceAdd]
 have d1:= @F4
 all_goals exact go
noncomputable def kG (a a2:(List Ext)) (a3:Setting) (m:Source):Option (aC×Bool×Source):=
 (re a).bind fun r_=>
 (qV r_ a3.Rate).bind fun r_2=>
 (rv r_2).bind fun r_3=>
 (qw a2).bind fun r_4=>
 (bN (1:Int) ([a,r_4]:List (List Ext)) m ((a2.length:Nat):Int) (0:Int) (0:Int) (0:Int) ([r_3]:List aP)).bind fun r_5=>
 (atL r_5.2.2.1 (0:Int)).bind fun x=>
 (ci ([x]:List Ext) r_5.2.2.2.1).bind fun r_6=>
 (jn r_6 a3.Grind).bind fun r_7=>
 br (decide (r_7<(0:Int))) (
 some ((aC.mk ([]:List (List Ext)) ([]:List (List UInt8)) (Ext.mk (0:Int) (0:Int)) (0:Int) ([]:List aB)),false,r_6)) (
 (xi r_7).bind fun r_8=>
 (cO r_8 r_6).bind fun r_9=>
 (gE a3.Queries r_9).bind fun r_10=>
 br (decide (0<r_5.2.2.2.2.2.2.2.2.1.length)) (
 (r_5.2.2.2.2.2.2.2.2.1[0]?).bind fun x2=>
 (vM r_10.1 (IntKind.wrap .i64 (((x2.word.length:Nat):Int).tdiv (2:Int)))).bind fun r_11=>
 (Loop (di r_5.2.2.2.2.2.2.2.2.1 r_5.2.2.2.2.2.2.2.2.2 r_11 ((r_11.length:Nat):Int) r_10.2.Script r_10.2.At r_10.2.State r_10.2.Count a3.Rate a3.Queries a3.Grind (0:Int) (0:Int) (0:Int) r_5.1 x.A x.B r_7 r_5.2.2.2.2.1) (([]:List aB),(0:Int))).bind fun e_2=>
 some ((aC.mk r_5.1 r_5.2.2.2.2.2.2.2.2.2 x r_7 e_2.1),true,r_10.2)) none)
theorem IB {a a2 a3 m r} (h:kG a a2 a3 m=some r):Call tab ow 77 [.ptr 0 0 0 1,sl ae a,sl ae a2,.agg [I a3.Rate,I a3.Queries,I a3.Grind]] [⟨4,true,[[sl ae m.Script,I m.At,S m.State,I m.Count]]⟩]=some (.tup [.agg [sl (eL ae) r.1.Rounds,sl eS r.1.Roots,I r.1.Last.A,I r.1.Last.B,I r.1.Nonce,sl aG r.1.Queries],B r.2.1],[⟨4,true,[[sl ae r.2.2.Script,I r.2.2.At,S r.2.2.State,I r.2.2.Count]]⟩]):=by
 rw [ab (af:=kK) rfl]
 unfold kG at h
 simp+decide only [kK,xI,go_sem,reduceIte,Nat.reduceAdd]
 have d1:= @Ii
 have d2:= @Io
 have d3:= @CP
 have d4:= @GM
 have d5:= @lR
 have d6:= @fD
 have d7:= @GC
 have d8:= @zQ
 have d9:= @fW
 have d10:= @vY
 have d11:= @KA
 have d12:= @Dw
 all_goals exact go
end
noncomputable def oH (ListtoArray a:(List Ext)) (a2:Setting) (a3:Source):Option (aC×Source×Int):=
 br (decide (((ListtoArray.length:Nat):Int)>(4096:Int))) (
 some ((aC.mk ([]:List (List Ext)) ([]:List (List UInt8)) (Ext.mk (0:Int) (0:Int)) (0:Int) ([]:List aB)),(Source.mk ([]:List Ext) (0:Int) (([]:List UInt8)) (0:Int)),(2:Int))) (
 br (decide (((a.length:Nat):Int)>(4096:Int))) (
 some ((aC.mk ([]:List (List Ext)) ([]:List (List UInt8)) (Ext.mk (0:Int) (0:Int)) (0:Int) ([]:List aB)),(Source.mk ([]:List Ext) (0:Int) (([]:List UInt8)) (0:Int)),(2:Int))) (
 (lL ListtoArray).bind fun r_=>
 br (!r_) (
 some ((aC.mk ([]:List (List Ext)) ([]:List (List UInt8)) (Ext.mk (0:Int) (0:Int)) (0:Int) ([]:List aB)),(Source.mk ([]:List Ext) (0:Int) (([]:List UInt8)) (0:Int)),(1:Int))) (
 (qz a).bind fun r_2=>
 br (!r_2) (
 some ((aC.mk ([]:List (List Ext)) ([]:List (List UInt8)) (Ext.mk (0:Int) (0:Int)) (0:Int) ([]:List aB)),(Source.mk ([]:List Ext) (0:Int) (([]:List UInt8)) (0:Int)),(1:Int))) (
 (gX a2).bind fun r_3=>
 br (!r_3) (
 some ((aC.mk ([]:List (List Ext)) ([]:List (List UInt8)) (Ext.mk (0:Int) (0:Int)) (0:Int) ([]:List aB)),(Source.mk ([]:List Ext) (0:Int) (([]:List UInt8)) (0:Int)),(1:Int))) (
 (ln a3).bind fun r_4=>
 br (!r_4) (
 some ((aC.mk ([]:List (List Ext)) ([]:List (List UInt8)) (Ext.mk (0:Int) (0:Int)) (0:Int) ([]:List aB)),(Source.mk ([]:List Ext) (0:Int) (([]:List UInt8)) (0:Int)),(1:Int))) (
 br (((ListtoArray.length:Nat):Int)==(1:Int)) (
 some ((aC.mk ([]:List (List Ext)) ([]:List (List UInt8)) (Ext.mk (0:Int) (0:Int)) (0:Int) ([]:List aB)),(Source.mk ([]:List Ext) (0:Int) (([]:List UInt8)) (0:Int)),(4:Int))) (
 br (decide (0≤((a.length:Nat):Int))) (
 br (((ListtoArray.length:Nat):Int) !=(bW .i64 (1:Int) ((a.length:Nat):Int))) (
 some ((aC.mk ([]:List (List Ext)) ([]:List (List UInt8)) (Ext.mk (0:Int) (0:Int)) (0:Int) ([]:List aB)),(Source.mk ([]:List Ext) (0:Int) (([]:List UInt8)) (0:Int)),(8:Int))) (
 (iJ a3).bind fun r_5=>
 br (decide (r_5<(100:Int))) (
 some ((aC.mk ([]:List (List Ext)) ([]:List (List UInt8)) (Ext.mk (0:Int) (0:Int)) (0:Int) ([]:List aB)),(Source.mk ([]:List Ext) (0:Int) (([]:List UInt8)) (0:Int)),(6:Int))) (
 (fO a3).bind fun r_6=>
 (kG ListtoArray a a2 r_6).bind fun r_7=>
 br (!r_7.2.1) (
 some ((aC.mk ([]:List (List Ext)) ([]:List (List UInt8)) (Ext.mk (0:Int) (0:Int)) (0:Int) ([]:List aB)),(Source.mk ([]:List Ext) (0:Int) (([]:List UInt8)) (0:Int)),(14:Int))) (
 some (r_7.1,r_7.2.2,(0:Int)))))) none)))))))
theorem NR {ListtoArray a a2 a3 r} (h:oH ListtoArray a a2 a3=some r):Call tab ow 15 [sl ae ListtoArray,sl ae a,.agg [I a2.Rate,I a2.Queries,I a2.Grind],.agg [sl ae a3.Script,I a3.At,S a3.State,I a3.Count]] []=some (.tup [.agg [sl (eL ae) r.1.Rounds,sl eS r.1.Roots,I r.1.Last.A,I r.1.Last.B,I r.1.Nonce,sl aG r.1.Queries],.agg [sl ae r.2.1.Script,I r.2.1.At,S r.2.1.State,I r.2.1.Count],I r.2.2],[]):=by
 rw [ab (af:=nK) rfl]
 unfold oH at h
 simp+decide only [nK,Bt,go_sem,reduceIte,Nat.reduceAdd]
 have d1:= @yS
 have d2:= @HD
 have d3:= @nv
 have d4:= @EV
 have d5:= @xL
 have d6:= @tB
 have d7:= @IB
 all_goals exact go
noncomputable def nk (list:(List Ext)):Option (Bool):=
 br (decide (((list.length:Nat):Int)≤(6:Int))) (
 (k8 list).bind fun r_=>
 some r_) (
 some false)
theorem Ew {list r} (h:nk list=some r):Call tab ow 78 [sl ae list] []=some (B r,[]):=by
 rw [ab (af:=pJ) rfl]
 unfold nk at h
 simp+decide only [pJ,Fj,go_sem,reduceIte,Nat.reduceAdd]
 have d1:= @ol
 all_goals exact go
noncomputable def jq (t:Setting):Option (Bool):=
 (gx t.Rate (1:Int) (3:Int)).bind fun r_=>
 br r_ (
 (gx t.Queries (1:Int) (8:Int)).bind fun r_2=>
 br r_2 (
 (gx t.Grind (0:Int) (12:Int)).bind fun r_3=>
 some r_3) (
 some false)) (
 some false)
theorem uO {t r} (h:jq t=some r):Call tab ow 79 [.agg [I t.Rate,I t.Queries,I t.Grind]] []=some (B r,[]):=by
 rw [ab (af:=nS) rfl]
 unfold jq at h
 simp+decide only [nS,BG,go_sem,reduceIte,Nat.reduceAdd]
 have d1:= @ra
 all_goals exact go
noncomputable def lu (s:Source):Option (Bool):=
 br (decide (((s.Script.length:Nat):Int)≤(64:Int))) (
 (k8 s.Script).bind fun r_=>
 br r_ (
 (gx s.At (0:Int) (1000000:Int)).bind fun r_2=>
 br r_2 (
 br (((s.State.length:Nat):Int)==(32:Int)) (
 (gx s.Count (0:Int) (1000000:Int)).bind fun r_3=>
 some r_3) (
 some false)) (
 some false)) (
 some false)) (
 some false)
theorem Dg {s r} (h:lu s=some r):Call tab ow 80 [.agg [sl ae s.Script,I s.At,S s.State,I s.Count]] []=some (B r,[]):=by
 rw [ab (af:=pV) rfl]
 unfold lu at h
 simp+decide only [pV,DH,go_sem,reduceIte,Nat.reduceAdd]
 have d1:= @ol
 have d2:= @ra
 all_goals exact go
noncomputable def ji (s:Source) (n:Int):Option (Bool):=
 br (decide (s.At>(IntKind.wrap .i64 ((1000000:Int)-n)))) (
 some true) (
 some (decide (s.Count>(IntKind.wrap .i64 ((1000000:Int)-n)))))
theorem Du {s n r} (h:ji s n=some r):Call tab ow 81 [.agg [sl ae s.Script,I s.At,S s.State,I s.Count],I n] []=some (B r,[]):=by
 rw [ab (af:=px) rfl]
 unfold ji at h
 simp+decide only [px,Em,go_sem,reduceIte,Nat.reduceAdd]
 all_goals exact go
noncomputable def vH:Option (Ext):=
 (nE (1:Int)).bind fun r_=>
 some r_
theorem CW {r} (h:vH=some r):Call tab ow 285 [] []=some (.agg [I r.A,I r.B],[]):=by
 rw [ab (af:=xt) rfl]
 unfold vH at h
 simp+decide only [xt,JS,go_sem,reduceIte,Nat.reduceAdd]
 have d1:= @qK
 all_goals exact go
noncomputable def mX (a:Ext):Option (Ext):=
 (vH).bind fun r_=>
 (jC r_ a).bind fun r_2=>
 some r_2
theorem Hx {a r} (h:mX a=some r):Call tab ow 218 [.agg [I a.A,I a.B]] []=some (.agg [I r.A,I r.B],[]):=by
 rw [ab (af:=tJ) rfl]
 unfold mX at h
 simp+decide only [tJ,H0,go_sem,reduceIte,Nat.reduceAdd]
 have d1:= @CW
 have d2:= @li
 all_goals exact go
section
theorem Vv: ∀k,J3 6003 k [I (0:Int),I (0:Int)]=rws ae (List.replicate k (Ext.mk (0:Int) (0:Int))):=fun _=>a1l ae (Ext.mk (0:Int) (0:Int)) _ _
attribute [local go_sem] Vv
noncomputable def lO (point3 out2:List Ext) (i2:Int):(List Ext)×Int→Option (((List Ext)×Int)⊕(((List Ext)×Int×Bool)))
 | (l,k)=>
   br (decide (k<((out2.length:Nat):Int))) (
   (atL out2 k).bind fun x=>
   (atL point3 i2).bind fun x2=>
   (mX x2).bind fun r_2=>
   (cU x r_2).bind fun r_3=>
   br (decide (0≤k)) (
   br (decide (k.toNat<l.length)) (
   (l[k.toNat]?).bind fun x3=>
   (atL out2 k).bind fun x4=>
   (atL point3 i2).bind fun x5=>
   (cU x4 x5).bind fun r_4=>
   br (decide (0≤(IntKind.wrap .i64 (k+((out2.length:Nat):Int))))) (
   br (decide ((IntKind.wrap .i64 (k+((out2.length:Nat):Int))).toNat<l.length)) (
   ((l.set k.toNat r_3)[(IntKind.wrap .i64 (k+((out2.length:Nat):Int))).toNat]?).bind fun x6=>
   some (.inl (((l.set k.toNat r_3).set ((IntKind.wrap .i64 (k+((out2.length:Nat):Int))).toNat) r_4),(IntKind.wrap .i64 (k+(1:Int)))))) none) none) none) none) (
   some (.inr (l,k,decide (k<((out2.length:Nat):Int)))))
@[reducible] def Hj (point3 out2:List Ext) (i2:Int) (s:(List Ext)×Int):St:=⟨[(0,sl ae point3),(3,sl ae out2),(4,I i2),(5,.sl 6003 0 s.1.length),(6,I s.2)],[(6003,⟨2,false,rws ae s.1⟩)]⟩
@[reducible] def Ia (point3 out2:List Ext) (i2:Int):((List Ext)×Int×Bool)→ai×St:=fun e=>(.exit 2,⟨[(0,sl ae point3),(3,sl ae out2),(4,I i2),(5,.sl 6003 0 e.1.length),(6,I e.2.1),(22,B e.2.2)],[(6003,⟨2,false,rws ae e.1⟩)]⟩)
theorem TF {point3 out2 i2 s e} (h:Loop (lO point3 out2 i2) s=some e):aD tab ow (.close [10010,10011,11013]) zJ (Hj point3 out2 i2 s)=some (Ia point3 out2 i2 e):=by
 refine lrG (fun s o h=> ?_) h
 obtain ⟨_,_⟩:=s
 simp only [lO] at h
 simp+decide only [Hj,Ia,zJ,go_sem,reduceIte,Nat.reduceAdd]
 have d1:= @Hx
 have d2:= @i7
 all_goals exact go
noncomputable def lF (point2:List Ext):(List Ext)×Int→Option (((List Ext)×Int)⊕(((List Ext)×Int×Bool)))
 | (out,i)=>
   br (decide (i<((point2.length:Nat):Int))) (
   br (J8 (IntKind.wrap .i64 ((2:Int)*((out.length:Nat):Int))) (IntKind.wrap .i64 ((2:Int)*((out.length:Nat):Int))) 16) (
   (Loop (lO point2 out i) ((List.replicate ((IntKind.wrap .i64 ((2:Int)*((out.length:Nat):Int))).toNat) (Ext.mk (0:Int) (0:Int))),(0:Int))).bind fun e_=>
   some (.inl (e_.1,(IntKind.wrap .i64 (i+(1:Int)))))) none) (
   some (.inr (out,i,decide (i<((point2.length:Nat):Int)))))
@[reducible] def Hb (point2:List Ext) (s:(List Ext)×Int):St:=⟨[(0,sl ae point2),(3,sl ae s.1),(4,I s.2)],[]⟩
@[reducible] def GO (point2:List Ext):((List Ext)×Int×Bool)→ai×St:=fun e=>(.exit 0,⟨[(0,sl ae point2),(3,sl ae e.1),(4,I e.2.1),(12,B e.2.2)],[]⟩)
theorem Tj {point2 s e} (h:Loop (lF point2) s=some e):aD tab ow (.close [6003,10010,10011,11013,2001]) zZ (Hb point2 s)=some (GO point2 e):=by
 refine lrG (fun s o h=> ?_) h
 obtain ⟨_,_⟩:=s
 simp only [lF] at h
 simp+decide only [Hb,GO,zZ,go_sem,reduceIte,Nat.reduceAdd]
 have d1:= @TF
 all_goals exact go
noncomputable def Dn (point:(List Ext)):Option ((List Ext)):=
 (vH).bind fun r_=>
 (Loop (lF point) (([r_]:List Ext),(0:Int))).bind fun e_2=>
 some e_2.1
theorem Yo {point r} (h:Dn point=some r):Call tab ow 173 [sl ae point] []=some (sl ae r,[]):=by
 rw [ab (af:=AG) rfl]
 unfold Dn at h
 simp+decide only [AG,Oj,go_sem,reduceIte,Nat.reduceAdd]
 have d1:= @CW
 have d2:= @Tj
 all_goals exact go
end
noncomputable def oo (kind:Int):Option (Int):=
 some (IntKind.wrap .i64 (kind+(1:Int)))
theorem Nl {kind r} (h:oo kind=some r):Call tab ow 286 [I kind] []=some (I r,[]):=by
 rw [ab (af:=nY) rfl]
 unfold oo at h
 simp+decide only [nY,C5,go_sem,reduceIte,Nat.reduceAdd]
 all_goals exact go
section
noncomputable def fZ (table2:List Ext) (c c2:Int):(List Ext)×Int→Option (((List Ext)×Int)⊕(((List Ext)×Int×Bool)))
 | (l,i)=>
   br (decide (i<((table2.length:Nat):Int))) (
   (atL table2 i).bind fun x=>
   (atL table2 (IntKind.wrap .i64 (i+(1:Int)))).bind fun x2=>
   (atL table2 i).bind fun x3=>
   (jC x2 x3).bind fun r_2=>
   (cU (Ext.mk c c2) r_2).bind fun r_3=>
   (gG x r_3).bind fun r_4=>
   br (aZ ((l++([r_4]:List Ext)).length) 16) (
   some (.inl ((l++([r_4]:List Ext)),(IntKind.wrap .i64 (i+(2:Int)))))) none) (
   some (.inr (l,i,decide (i<((table2.length:Nat):Int)))))
@[reducible] def B8 (table2:List Ext) (c c2:Int) (s:(List Ext)×Int):St:=⟨[(0,sl ae table2),(3,.ptr 1000 0 0 1),(5,.sl 2000 0 s.1.length),(6,I s.2)],[(1000,⟨2,true,[[I c,I c2]]⟩),(2000,⟨2,false,rws ae s.1⟩)]⟩
@[reducible] def Bp (table2:List Ext) (c c2:Int):((List Ext)×Int×Bool)→ai×St:=fun e=>(.exit 0,⟨[(0,sl ae table2),(3,.ptr 1000 0 0 1),(5,.sl 2000 0 e.1.length),(6,I e.2.1),(11,B e.2.2)],[(1000,⟨2,true,[[I c,I c2]]⟩),(2000,⟨2,false,rws ae e.1⟩)]⟩)
theorem NM {table2 c c2 s e} (h:Loop (fZ table2 c c2) s=some e):aD tab ow (.close [6015,6016,6017,6018,6019]) uh (B8 table2 c c2 s)=some (Bp table2 c c2 e):=by
 refine lrG (fun s o h=> ?_) h
 obtain ⟨_,_⟩:=s
 simp only [fZ] at h
 simp+decide only [B8,Bp,uh,go_sem,reduceIte,Nat.reduceAdd]
 have d1:= @li
 have d2:= @i7
 have d3:= @jk
 all_goals exact go
noncomputable def vc (table:(List Ext)) (r_:Ext):Option ((List Ext)):=
 (Loop (fZ table r_.A r_.B) (([]:List Ext),(0:Int))).bind fun e_=>
 some e_.1
theorem U7 {table r_ r} (h:vc table r_=some r):Call tab ow 289 [sl ae table,.agg [I r_.A,I r_.B]] []=some (sl ae r,[]):=by
 rw [ab (af:=tp) rfl]
 unfold vc at h
 simp+decide only [tp,Hy,go_sem,reduceIte,Nat.reduceAdd]
 have d1:= @NM
 all_goals exact go
end
section
noncomputable def g8 (tables2:List (List Ext)) (c c2:Int):(List (List Ext))×Int→Option (((List (List Ext))×Int)⊕(((List (List Ext))×Int×Bool)))
 | (l,i)=>
   br (decide (i<((tables2.length:Nat):Int))) (
   (atL tables2 i).bind fun x=>
   (vc x (Ext.mk c c2)).bind fun r_2=>
   br (aZ ((l++([r_2]:List (List Ext))).length) 24) (
   some (.inl ((l++([r_2]:List (List Ext))),(IntKind.wrap .i64 (i+(1:Int)))))) none) (
   some (.inr (l,i,decide (i<((tables2.length:Nat):Int)))))
@[reducible] def BR (tables2:List (List Ext)) (c c2:Int) (s:(List (List Ext))×Int):St:=⟨[(0,sl (eL ae) tables2),(3,.ptr 1000 0 0 1),(5,.sl 2000 0 s.1.length),(6,I s.2)],[(1000,⟨2,true,[[I c,I c2]]⟩),(2000,⟨1,false,rws (eL ae) s.1⟩)]⟩
@[reducible] def Ca (tables2:List (List Ext)) (c c2:Int):((List (List Ext))×Int×Bool)→ai×St:=fun e=>(.exit 0,⟨[(0,sl (eL ae) tables2),(3,.ptr 1000 0 0 1),(5,.sl 2000 0 e.1.length),(6,I e.2.1),(11,B e.2.2)],[(1000,⟨2,true,[[I c,I c2]]⟩),(2000,⟨1,false,rws (eL ae) e.1⟩)]⟩)
theorem MP {tables2 c c2 s e} (h:Loop (g8 tables2 c c2) s=some e):aD tab ow (.close [6006,6007,6008]) uG (BR tables2 c c2 s)=some (Ca tables2 c c2 e):=by
 refine lrG (fun s o h=> ?_) h
 obtain ⟨_,_⟩:=s
 simp only [g8] at h
 simp+decide only [BR,Ca,uG,go_sem,reduceIte,Nat.reduceAdd]
 have d1:= @U7
 all_goals exact go
noncomputable def qN (tables:(List (List Ext))) (r_:Ext):Option ((List (List Ext))):=
 (Loop (g8 tables r_.A r_.B) (([]:List (List Ext)),(0:Int))).bind fun e_=>
 some e_.1
theorem GV {tables r_ r} (h:qN tables r_=some r):Call tab ow 176 [sl (eL ae) tables,.agg [I r_.A,I r_.B]] []=some (sl (eL ae) r,[]):=by
 rw [ab (af:=tN) rfl]
 unfold qN at h
 simp+decide only [tN,HL,go_sem,reduceIte,Nat.reduceAdd]
 have d1:= @MP
 all_goals exact go
end
noncomputable def md (kind:Int) (v:(List Ext)):Option (Ext):=
 br (kind==(1:Int)) (
 (atL v (0:Int)).bind fun x=>
 (atL v (1:Int)).bind fun x2=>
 (cU x x2).bind fun r_=>
 some r_) (
 (atL v (0:Int)).bind fun x3=>
 (atL v (1:Int)).bind fun x4=>
 (atL v (2:Int)).bind fun x5=>
 (cU x4 x5).bind fun r_2=>
 (atL v (3:Int)).bind fun x6=>
 (jC r_2 x6).bind fun r_3=>
 (cU x3 r_3).bind fun r_4=>
 some r_4)
theorem Kb {kind v r} (h:md kind v=some r):Call tab ow 217 [I kind,sl ae v] []=some (.agg [I r.A,I r.B],[]):=by
 rw [ab (af:=my) rfl]
 unfold md at h
 simp+decide only [my,zN,go_sem,reduceIte,Nat.reduceAdd]
 have d1:= @i7
 have d2:= @li
 all_goals exact go
section
noncomputable def jz (kind2:Int) (tables2:List (List Ext)) (k2 c c2:Int):(List Ext)×Int→Option (((List Ext)×Int)⊕(((List Ext)×Int×Bool)))
 | (l,i)=>
   br (decide (i<((tables2.length:Nat):Int))) (
   (atL tables2 i).bind fun x=>
   (atL x k2).bind fun x2=>
   br (aZ ((l++([x2]:List Ext)).length) 16) (
   some (.inl ((l++([x2]:List Ext)),(IntKind.wrap .i64 (i+(1:Int)))))) none) (
   some (.inr (l,i,decide (i<((tables2.length:Nat):Int)))))
@[reducible] def Iu (kind2:Int) (tables2:List (List Ext)) (k2 c c2:Int) (s:(List Ext)×Int):St:=⟨[(0,I kind2),(1,sl (eL ae) tables2),(2,I k2),(6,.ptr 1000 0 0 1),(7,.sl 2000 0 s.1.length),(8,I s.2)],[(1000,⟨2,true,[[I c,I c2]]⟩),(2000,⟨2,false,rws ae s.1⟩)]⟩
@[reducible] def Hd (kind2:Int) (tables2:List (List Ext)) (k2 c c2:Int):((List Ext)×Int×Bool)→ai×St:=fun e=>(.exit 0,⟨[(0,I kind2),(1,sl (eL ae) tables2),(2,I k2),(6,.ptr 1000 0 0 1),(7,.sl 2000 0 e.1.length),(8,I e.2.1),(13,B e.2.2)],[(1000,⟨2,true,[[I c,I c2]]⟩),(2000,⟨2,false,rws ae e.1⟩)]⟩)
theorem SF {kind2 tables2 k2 c c2 s e} (h:Loop (jz kind2 tables2 k2 c c2) s=some e):aD tab ow (.close [6008,6009]) zl (Iu kind2 tables2 k2 c c2 s)=some (Hd kind2 tables2 k2 c c2 e):=by
 refine lrG (fun s o h=> ?_) h
 obtain ⟨_,_⟩:=s
 simp only [jz] at h
 simp+decide only [Iu,Hd,zl,go_sem,reduceIte,Nat.reduceAdd]
 all_goals exact go
noncomputable def Ep (kind:Int) (tables:(List (List Ext))) (k:Int):Option (Ext):=
 (Loop (jz kind tables k (0:Int) (0:Int)) (([]:List Ext),(0:Int))).bind fun e_=>
 (md kind e_.1).bind fun r_=>
 some r_
theorem Y3 {kind tables k r} (h:Ep kind tables k=some r):Call tab ow 339 [I kind,sl (eL ae) tables,I k] []=some (.agg [I r.A,I r.B],[]):=by
 rw [ab (af:=AO) rfl]
 unfold Ep at h
 simp+decide only [AO,Ow,go_sem,reduceIte,Nat.reduceAdd]
 have d1:= @SF
 have d2:= @Kb
 all_goals exact go
end
noncomputable def ig (kind2:Int) (tables2:List (List Ext)) (c c2:Int):Int×Int×Int→Option ((Int×Int×Int)⊕((Int×Bool×Int×Int)))
 | (k,c3,c4)=>
   (atL tables2 (0:Int)).bind fun x=>
   br (decide (k<((x.length:Nat):Int))) (
   (Ep kind2 tables2 k).bind fun r_=>
   (gG (Ext.mk c3 c4) r_).bind fun r_2=>
   some (.inl ((IntKind.wrap .i64 (k+(1:Int))),r_2.A,r_2.B))) (
   some (.inr (k,decide (k<((x.length:Nat):Int)),c3,c4)))
@[reducible] def Fu (kind2:Int) (tables2:List (List Ext)) (c c2:Int) (s:Int×Int×Int):St:=⟨[(0,I kind2),(1,sl (eL ae) tables2),(4,.ptr 1000 0 0 1),(5,.ptr 2001 0 0 1),(6,I s.1)],[(1000,⟨2,true,[[I c,I c2]]⟩),(2001,⟨2,true,[[I s.2.1,I s.2.2]]⟩)]⟩
@[reducible] def EZ (kind2:Int) (tables2:List (List Ext)) (c c2:Int):(Int×Bool×Int×Int)→ai×St:=fun e=>(.exit 0,⟨[(0,I kind2),(1,sl (eL ae) tables2),(4,.ptr 1000 0 0 1),(5,.ptr 2001 0 0 1),(6,I e.1),(13,B e.2.1)],[(1000,⟨2,true,[[I c,I c2]]⟩),(2001,⟨2,true,[[I e.2.2.1,I e.2.2.2]]⟩)]⟩)
theorem PP {kind2 tables2 c c2 s e} (h:Loop (ig kind2 tables2 c c2) s=some e):aD tab ow (.close [6004,6005]) wP (Fu kind2 tables2 c c2 s)=some (EZ kind2 tables2 c c2 e):=by
 refine lrG (fun s o h=> ?_) h
 obtain ⟨_,_,_⟩:=s
 simp only [ig] at h
 simp+decide only [Fu,EZ,wP,go_sem,reduceIte,Nat.reduceAdd]
 have d1:= @Y3
 have d2:= @jk
 all_goals exact go
noncomputable def Aa (kind:Int) (tables:(List (List Ext))):Option (Ext):=
 (Loop (ig kind tables (0:Int) (0:Int)) ((0:Int),(0:Int),(0:Int))).bind fun e_=>
 some (Ext.mk e_.2.2.1 e_.2.2.2)
theorem V8 {kind tables r} (h:Aa kind tables=some r):Call tab ow 287 [I kind,sl (eL ae) tables] []=some (.agg [I r.A,I r.B],[]):=by
 rw [ab (af:=wC) rfl]
 unfold Aa at h
 simp+decide only [wC,JT,go_sem,reduceIte,Nat.reduceAdd]
 have d1:= @PP
 all_goals exact go
end Go.AI.Fn
