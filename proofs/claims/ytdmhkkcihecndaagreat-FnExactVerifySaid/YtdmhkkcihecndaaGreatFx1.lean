/- Walks through the program, with open values. -/
import Derived.Test.YtdmhkkcihecndaaGreatFx0
set_option linter.unusedVariables false
set_option linter.unusedSimpArgs false
set_option maxRecDepth 100000
set_option maxHeartbeats 1000000
namespace Go.AI.Fn
noncomputable section
open IntKind (wrap)
def hO (t:List UInt8) (t2:Int):Int×Int→Option ((Int×Int)⊕((Int×Int×Bool)))
 | (n,t3)=>
   br (decide (t3<t2)) (
   (atL t t3).bind fun x=>
   some (.inl ((vh .u64 (aB .u64 n 8) (wrap .u64 (x.toNat:Int))),(wrap .i64 (t3+1))))) (
   some (.inr (n,t3,decide (t3<t2))))
abbrev EG (t:List UInt8) (t2:Int) (s:Int×Int):St:=⟨[(3,.lit (.int .u64 s.1)),(6,sl eU8 t),(7,I t2),(8,I s.2)],[]⟩
abbrev Fu (t:List UInt8) (t2:Int):(Int×Int×Bool)→ah×St:=fun e=>(.exit 0,⟨[(3,.lit (.int .u64 e.1)),(6,sl eU8 t),(7,I t2),(8,I e.2.1),(9,B e.2.2)],[]⟩)
theorem TK {t t2 s e} (h:Loop (hO t t2) s=some e):aq tab ow (.close []) y8 (EG t t2 s)=some (Fu t t2 e):=by
 refine lrG (fun s o h=> ?_) h
 obtain ⟨_,_⟩:=s
 simp only [hO] at h
 simp+decide only [EG,Fu,y8,go_sem,reduceIte,Nat.reduceAdd]
 all_goals exact go
def wq (b:(List UInt8)):Option (Int):=
 (Loop (hO b ((b.length:Nat):Int)) (0,0)).bind fun e_=>
 some (wrap .i64 (e_.1.tmod 2130706433))
theorem XQ {b r} (h:wq b=some r):Call tab ow 336 [sl eU8 b] []=some (I r,[]):=by
 rw [aa (af:=xp) rfl]
 unfold wq at h
 simp+decide only [xp,Ly,go_sem,reduceIte,Nat.reduceAdd]
 have d1:= @TK
 all_goals exact go
section
theorem H7:mkR 5005 []=rws eU8 []:=rfl
attribute [local go_sem] H7
theorem GN:mkR 5012 []=rws (eL eU8) []:=rfl
attribute [local go_sem] GN
def f0 (m:Source):Option (Ext×Source):=
 br (decide (((m.Script.length:Nat):Int)>0)) (
 br (decide (((m.Script.length:Nat):Int)≠0)) (
 (atL m.Script ((wrap .i64 ((wrap .i64 (m.At+1))-1)).tmod ((m.Script.length:Nat):Int))).bind fun x=>
 some (x,(Source.mk m.Script (wrap .i64 (m.At+1)) m.State m.Count))) none) (
 br (bW m.State.length 1) (
 (Ay m.Count).bind fun r_=>
 (lZ ([m.State,([(100:UInt8),(114:UInt8),(97:UInt8),(119:UInt8)]:List UInt8),r_]:List (List UInt8))).bind fun r_2=>
 br (bW r_2.length 1) (
 (ny r_2 0 8).bind fun y=>
 (wq y).bind fun r_3=>
 (ny r_2 8 16).bind fun y2=>
 (wq y2).bind fun r_4=>
 some ((Ext.mk r_3 r_4),(Source.mk m.Script m.At m.State (wrap .i64 (m.Count+1))))) none) none)
theorem pm {m r} (h:f0 m=some r):Call tab ow 282 [.ptr 0 0 0 1] [⟨4,true,[[sl eExt m.Script,I m.At,S m.State,I m.Count]]⟩]=some (.agg [I r.1.A,I r.1.B],[⟨4,true,[[sl eExt r.2.Script,I r.2.At,S r.2.State,I r.2.Count]]⟩]):=by
 rw [aa (af:=kL) rfl]
 unfold f0 at h
 simp+decide only [kL,zl,go_sem,reduceIte,Nat.reduceAdd]
 have d1:= @F8
 have d2:= @tA
 have d3:= @XQ
 all_goals exact go
end
def nj (a:Int):Option (Int):=
 (M5 a 2130706431).bind fun r_=>
 some r_
theorem It {a r} (h:nj a=some r):Call tab ow 338 [I a] []=some (I r,[]):=by
 rw [aa (af:=u5) rfl]
 unfold nj at h
 simp+decide only [u5,HJ,go_sem,reduceIte,Nat.reduceAdd]
 have d1:= @RP
 all_goals exact go
def j5 (n i:Int) (a b r_:Ext):Option (Ext):=
 (nj 2).bind fun r_2=>
 (Ew n).bind fun r_3=>
 (MV r_3).bind fun r_4=>
 (M5 r_4 i).bind fun r_5=>
 (cZ a b).bind fun r_6=>
 (dW r_6 r_2).bind fun r_7=>
 (dZ a b).bind fun r_8=>
 (bt r_ r_8).bind fun r_9=>
 (nj r_5).bind fun r_10=>
 (sM r_2 r_10).bind fun r_11=>
 (dW r_9 r_11).bind fun r_12=>
 (cZ r_7 r_12).bind fun r_13=>
 some r_13
theorem TX {n i a b r_ r} (h:j5 n i a b r_=some r):Call tab ow 284 [I n,I i,.agg [I a.A,I a.B],.agg [I b.A,I b.B],.agg [I r_.A,I r_.B]] []=some (.agg [I r.A,I r.B],[]):=by
 rw [aa (af:=rE) rfl]
 unfold j5 at h
 simp+decide only [rE,Ef,go_sem,reduceIte,Nat.reduceAdd]
 have d1:= @It
 have d2:= @PP
 have d3:= @a6a
 have d4:= @RP
 have d5:= @dS
 have d6:= @iO
 have d7:= @io
 have d8:= @cB
 have d9:= @JP
 all_goals exact go
def jd (t:List UInt8) (t2:Int):Int×Int→Option ((Int×Int)⊕((Int×Int×Bool)))
 | (n,t3)=>
   br (decide (t3<t2)) (
   (atL t t3).bind fun x=>
   some (.inl ((vh .i64 (aB .i64 n 8) (wrap .i64 (x.toNat:Int))),(wrap .i64 (t3+1))))) (
   some (.inr (n,t3,decide (t3<t2))))
abbrev Eg (t:List UInt8) (t2:Int) (s:Int×Int):St:=⟨[(3,I s.1),(6,sl eU8 t),(7,I t2),(8,I s.2)],[]⟩
abbrev G4 (t:List UInt8) (t2:Int):(Int×Int×Bool)→ah×St:=fun e=>(.exit 0,⟨[(3,I e.1),(6,sl eU8 t),(7,I t2),(8,I e.2.1),(9,B e.2.2)],[]⟩)
theorem Tm {t t2 s e} (h:Loop (jd t t2) s=some e):aq tab ow (.close []) yi (Eg t t2 s)=some (G4 t t2 e):=by
 refine lrG (fun s o h=> ?_) h
 obtain ⟨_,_⟩:=s
 simp only [jd] at h
 simp+decide only [Eg,G4,yi,go_sem,reduceIte,Nat.reduceAdd]
 all_goals exact go
def AC (b:(List UInt8)):Option (Int):=
 (Loop (jd b ((b.length:Nat):Int)) (0,0)).bind fun e_=>
 some e_.1
theorem Zb {b r} (h:AC b=some r):Call tab ow 295 [sl eU8 b] []=some (I r,[]):=by
 rw [aa (af:=xC) rfl]
 unfold AC at h
 simp+decide only [xC,L4,go_sem,reduceIte,Nat.reduceAdd]
 have d1:= @Tm
 all_goals exact go
section
theorem GO:mkR 2003 []=rws eU8 []:=rfl
attribute [local go_sem] GO
theorem Gq:mkR 2007 []=rws (eL eU8) []:=rfl
attribute [local go_sem] Gq
def jX (s:Source) (bits nonce:Int):Option (Bool):=
 br (bW s.State.length 1) (
 (Ay nonce).bind fun r_=>
 (lZ ([s.State,([(103:UInt8),(114:UInt8),(105:UInt8),(110:UInt8),(100:UInt8)]:List UInt8),r_]:List (List UInt8))).bind fun r_2=>
 br (bW r_2.length 1) (
 (ny r_2 0 4).bind fun y=>
 (AC y).bind fun r_3=>
 br (decide (0≤(wrap .i64 (32-bits)))) (
 some ((aJ .i64 r_3 (wrap .i64 (32-bits)))==0)) none) none) none
theorem IT {s bits nonce r} (h:jX s bits nonce=some r):Call tab ow 190 [.agg [sl eExt s.Script,I s.At,S s.State,I s.Count],I bits,I nonce] []=some (B r,[]):=by
 rw [aa (af:=kD) rfl]
 unfold jX at h
 simp+decide only [kD,yR,go_sem,reduceIte,Nat.reduceAdd]
 have d1:= @F8
 have d2:= @tA
 have d3:= @Zb
 all_goals exact go
end
section
theorem G1:mkR 2000 []=rws eExt []:=rfl
attribute [local go_sem] G1
theorem FM:mkR 5003 []=rws eExt []:=rfl
attribute [local go_sem] FM
def da (t:Int):(List Ext)×Int×(List Ext)×Int×(List UInt8)×Int→Option (((List Ext)×Int×(List Ext)×Int×(List UInt8)×Int)⊕(((List Ext)×Int×Bool×(List Ext)×Int×(List UInt8)×Int)))
 | (l,t2,c,c2,c3,c4)=>
   br (decide (t2<t)) (
   (f0 (Source.mk c c2 c3 c4)).bind fun r_=>
   br (bW ((l++([r_.1]:List Ext)).length) 16) (
   some (.inl ((l++([r_.1]:List Ext)),(wrap .i64 (t2+1)),r_.2.Script,r_.2.At,r_.2.State,r_.2.Count))) none) (
   some (.inr (l,t2,decide (t2<t),c,c2,c3,c4)))
abbrev kV (l c:List Ext) (c2:Int) (c3:List UInt8) (c4:Int):List (Nat×Blk):=[(0,⟨4,true,[[sl eExt c,I c2,S c3,I c4]]⟩),(2000,⟨2,false,rws eExt l⟩)]
abbrev te (t:Int) (s:(List Ext)×Int×(List Ext)×Int×(List UInt8)×Int):St:=⟨[(0,.ptr 0 0 0 1),(5,.sl 2000 0 s.1.length),(7,I t),(8,I s.2.1)],kV s.1 s.2.2.1 s.2.2.2.1 s.2.2.2.2.1 s.2.2.2.2.2⟩
abbrev sS (t:Int):((List Ext)×Int×Bool×(List Ext)×Int×(List UInt8)×Int)→ah×St:=fun e=>(.exit 0,⟨[(0,.ptr 0 0 0 1),(5,.sl 2000 0 e.1.length),(7,I t),(8,I e.2.1),(9,B e.2.2.1)],kV e.1 e.2.2.2.1 e.2.2.2.2.1 e.2.2.2.2.2.1 e.2.2.2.2.2.2⟩)
theorem Dk {t s e} (h:Loop (da t) s=some e):aq tab ow (.close [5002,5003,5004]) kO (te t s)=some (sS t e):=by
 refine lrG (fun s o h=> ?_) h
 obtain ⟨_,_,_,_,_,_⟩:=s
 simp only [da] at h
 simp+decide only [te,sS,kV,kO,go_sem,reduceIte,Nat.reduceAdd]
 have d1:= @pm
 all_goals exact go
def fl (n:Int) (m:Source):Option ((List Ext)×Source):=
 (Loop (da n) (([]:List Ext),0,m.Script,m.At,m.State,m.Count)).bind fun e_=>
 some (e_.1,(Source.mk e_.2.2.2.1 e_.2.2.2.2.1 e_.2.2.2.2.2.1 e_.2.2.2.2.2.2))
theorem wR {n m r} (h:fl n m=some r):Call tab ow 171 [.ptr 0 0 0 1,I n] [⟨4,true,[[sl eExt m.Script,I m.At,S m.State,I m.Count]]⟩]=some (sl eExt r.1,[⟨4,true,[[sl eExt r.2.Script,I r.2.At,S r.2.State,I r.2.Count]]⟩]):=by
 rw [aa (af:=jy) rfl]
 unfold fl at h
 simp+decide only [jy,wt,go_sem,reduceIte,Nat.reduceAdd]
 have d1:= @Dk
 all_goals exact go
end
section
theorem UG:mkR 2000 []=rws eI []:=rfl
attribute [local go_sem] UG
theorem Vd:mkR 6005 []=rws eI []:=rfl
attribute [local go_sem] Vd
def i5 (most2:Int) (t:List Ext) (t2:Int):(List Int)×Int→Option (((List Int)×Int)⊕(((List Int)×Int×Bool)))
 | (l,t3)=>
   br (decide (t3<t2)) (
   (atL t t3).bind fun x=>
   br (decide (most2≠0)) (
   br (bW ((l++([(x.A.tmod most2)]:List Int)).length) 8) (
   some (.inl ((l++([(x.A.tmod most2)]:List Int)),(wrap .i64 (t3+1))))) none) none) (
   some (.inr (l,t3,decide (t3<t2))))
abbrev G5 (most2:Int) (t:List Ext) (t2:Int) (s:(List Int)×Int):St:=⟨[(1,I most2),(5,.sl 2000 0 s.1.length),(9,sl eExt t),(10,I t2),(11,I s.2)],[(2000,⟨1,false,rws eI s.1⟩)]⟩
abbrev Fb (most2:Int) (t:List Ext) (t2:Int):((List Int)×Int×Bool)→ah×St:=fun e=>(.exit 0,⟨[(1,I most2),(5,.sl 2000 0 e.1.length),(9,sl eExt t),(10,I t2),(11,I e.2.1),(12,B e.2.2)],[(2000,⟨1,false,rws eI e.1⟩)]⟩)
theorem Sc {most2 t t2 s e} (h:Loop (i5 most2 t t2) s=some e):aq tab ow (.close [5002,6005,6006]) xR (G5 most2 t t2 s)=some (Fb most2 t t2 e):=by
 refine lrG (fun s o h=> ?_) h
 obtain ⟨_,_⟩:=s
 simp only [i5] at h
 simp+decide only [G5,Fb,xR,go_sem,reduceIte,Nat.reduceAdd]
 all_goals exact go
def B2 (list:(List Ext)) (most:Int):Option ((List Int)):=
 (Loop (i5 most list ((list.length:Nat):Int)) (([]:List Int),0)).bind fun e_=>
 some e_.1
theorem XB {list most r} (h:B2 list most=some r):Call tab ow 170 [sl eExt list,I most] []=some (sl eI r,[]):=by
 rw [aa (af:=y5) rfl]
 unfold B2 at h
 simp+decide only [y5,Mc,go_sem,reduceIte,Nat.reduceAdd]
 have d1:= @Sc
 all_goals exact go
end
def iS (t:Setting):Option (Bool):=
 (en t.Rate 1 3).bind fun r_=>
 br r_ (
 (en t.Queries 1 8).bind fun r_2=>
 br r_2 (
 (en t.Grind 0 12).bind fun r_3=>
 some r_3) (
 some false)) (
 some false)
theorem uW {t r} (h:iS t=some r):Call tab ow 79 [.agg [I t.Rate,I t.Queries,I t.Grind]] []=some (B r,[]):=by
 rw [aa (af:=nG) rfl]
 unfold iS at h
 simp+decide only [nG,Cl,go_sem,reduceIte,Nat.reduceAdd]
 have d1:= @s5
 all_goals exact go
def sk (s:Source):Option (Bool):=
 br (decide (((s.Script.length:Nat):Int)≤64)) (
 (gO s.Script).bind fun r_=>
 br r_ (
 (en s.At 0 1000000).bind fun r_2=>
 br r_2 (
 br (((s.State.length:Nat):Int)==32) (
 (en s.Count 0 1000000).bind fun r_3=>
 some r_3) (
 some false)) (
 some false)) (
 some false)) (
 some false)
theorem T7 {s r} (h:sk s=some r):Call tab ow 80 [.agg [sl eExt s.Script,I s.At,S s.State,I s.Count]] []=some (B r,[]):=by
 rw [aa (af:=rL) rfl]
 unfold sk at h
 simp+decide only [rL,Ek,go_sem,reduceIte,Nat.reduceAdd]
 have d1:= @lc
 have d2:= @s5
 all_goals exact go
def yo (s:Source) (n:Int):Option (Bool):=
 br (decide (s.At>(wrap .i64 (1000000-n)))) (
 some true) (
 some (decide (s.Count>(wrap .i64 (1000000-n)))))
theorem TF {s n r} (h:yo s n=some r):Call tab ow 81 [.agg [sl eExt s.Script,I s.At,S s.State,I s.Count],I n] []=some (B r,[]):=by
 rw [aa (af:=qP) rfl]
 unfold yo at h
 simp+decide only [qP,EN,go_sem,reduceIte,Nat.reduceAdd]
 all_goals exact go
def wQ:Option (Ext):=
 (lN 1).bind fun r_=>
 some r_
theorem Dt {r} (h:wQ=some r):Call tab ow 285 [] []=some (.agg [I r.A,I r.B],[]):=by
 rw [aa (af:=xE) rfl]
 unfold wQ at h
 simp+decide only [xE,KW,go_sem,reduceIte,Nat.reduceAdd]
 have d1:= @rU
 all_goals exact go
def jp (a:Ext):Option (Ext):=
 (wQ).bind fun r_=>
 (pa r_ a).bind fun r_2=>
 some r_2
theorem As {a r} (h:jp a=some r):Call tab ow 218 [.agg [I a.A,I a.B]] []=some (.agg [I r.A,I r.B],[]):=by
 rw [aa (af:=uB) rfl]
 unfold jp at h
 simp+decide only [uB,HS,go_sem,reduceIte,Nat.reduceAdd]
 have d1:= @Dt
 have d2:= @xn
 all_goals exact go
section
theorem XZ:mkR 2001 []=rws eExt []:=rfl
attribute [local go_sem] XZ
theorem Yr: ∀k,wi 6003 k [I (0:Int),I (0:Int)]=rws eExt (List.replicate k (Ext.mk (0:Int) (0:Int))):=fun _=>H4 eExt (Ext.mk (0:Int) (0:Int)) _ _
attribute [local go_sem] Yr
def lr (point3 out2:List Ext) (i2:Int):(List Ext)×Int→Option (((List Ext)×Int)⊕(((List Ext)×Int×Bool)))
 | (l,k)=>
   br (decide (k<((out2.length:Nat):Int))) (
   (atL out2 k).bind fun x=>
   (atL point3 i2).bind fun x2=>
   (jp x2).bind fun r_2=>
   (bN x r_2).bind fun r_3=>
   br (decide (0≤k)) (
   br (decide (k.toNat<l.length)) (
   (l[k.toNat]?).bind fun x3=>
   (atL out2 k).bind fun x4=>
   (atL point3 i2).bind fun x5=>
   (bN x4 x5).bind fun r_4=>
   br (decide (0≤(wrap .i64 (k+((out2.length:Nat):Int))))) (
   br (decide ((wrap .i64 (k+((out2.length:Nat):Int))).toNat<l.length)) (
   ((l.set k.toNat r_3)[(wrap .i64 (k+((out2.length:Nat):Int))).toNat]?).bind fun x6=>
   some (.inl (((l.set k.toNat r_3).set ((wrap .i64 (k+((out2.length:Nat):Int))).toNat) r_4),(wrap .i64 (k+1))))) none) none) none) none) (
   some (.inr (l,k,decide (k<((out2.length:Nat):Int)))))
abbrev HL (point3 out2:List Ext) (i2:Int) (s:(List Ext)×Int):St:=⟨[(0,sl eExt point3),(3,sl eExt out2),(4,I i2),(5,.sl 6003 0 s.1.length),(6,I s.2)],[(6003,⟨2,false,rws eExt s.1⟩)]⟩
abbrev Hv (point3 out2:List Ext) (i2:Int):((List Ext)×Int×Bool)→ah×St:=fun e=>(.exit 2,⟨[(0,sl eExt point3),(3,sl eExt out2),(4,I i2),(5,.sl 6003 0 e.1.length),(6,I e.2.1),(22,B e.2.2)],[(6003,⟨2,false,rws eExt e.1⟩)]⟩)
theorem Ux {point3 out2 i2 s e} (h:Loop (lr point3 out2 i2) s=some e):aq tab ow (.close [10010,10011,11013]) AU (HL point3 out2 i2 s)=some (Hv point3 out2 i2 e):=by
 refine lrG (fun s o h=> ?_) h
 obtain ⟨_,_⟩:=s
 simp only [lr] at h
 simp+decide only [HL,Hv,AU,go_sem,reduceIte,Nat.reduceAdd]
 have d1:= @As
 have d2:= @fX
 all_goals exact go
def lh (point2:List Ext):(List Ext)×Int→Option (((List Ext)×Int)⊕(((List Ext)×Int×Bool)))
 | (out,i)=>
   br (decide (i<((point2.length:Nat):Int))) (
   br (tF (wrap .i64 (2*((out.length:Nat):Int))) (wrap .i64 (2*((out.length:Nat):Int))) 16) (
   (Loop (lr point2 out i) ((List.replicate ((wrap .i64 ((2:Int)*((out.length:Nat):Int))).toNat) (Ext.mk (0:Int) (0:Int))),(0:Int))).bind fun e_=>
   some (.inl (e_.1,(wrap .i64 (i+1))))) none) (
   some (.inr (out,i,decide (i<((point2.length:Nat):Int)))))
abbrev IN (point2:List Ext) (s:(List Ext)×Int):St:=⟨[(0,sl eExt point2),(3,sl eExt s.1),(4,I s.2)],[]⟩
abbrev Ie (point2:List Ext):((List Ext)×Int×Bool)→ah×St:=fun e=>(.exit 0,⟨[(0,sl eExt point2),(3,sl eExt e.1),(4,I e.2.1),(12,B e.2.2)],[]⟩)
theorem Va {point2 s e} (h:Loop (lh point2) s=some e):aq tab ow (.close [6003,10010,10011,11013,2001]) zE (IN point2 s)=some (Ie point2 e):=by
 refine lrG (fun s o h=> ?_) h
 obtain ⟨_,_⟩:=s
 simp only [lh] at h
 simp+decide only [IN,Ie,zE,go_sem,reduceIte,Nat.reduceAdd]
 have d1:= @Ux
 all_goals exact go
def BD (point:(List Ext)):Option ((List Ext)):=
 (wQ).bind fun r_=>
 (Loop (lh point) (([r_]:List Ext),0)).bind fun e_2=>
 some e_2.1
theorem PE {point r} (h:BD point=some r):Call tab ow 173 [sl eExt point] []=some (sl eExt r,[]):=by
 rw [aa (af:=Bl) rfl]
 unfold BD at h
 simp+decide only [Bl,Qb,go_sem,reduceIte,Nat.reduceAdd]
 have d1:= @Dt
 have d2:= @Va
 all_goals exact go
end
def oZ (kind:Int):Option (Int):=
 some (wrap .i64 (kind+1))
theorem Px {kind r} (h:oZ kind=some r):Call tab ow 286 [I kind] []=some (I r,[]):=by
 rw [aa (af:=nM) rfl]
 unfold oZ at h
 simp+decide only [nM,Cv,go_sem,reduceIte,Nat.reduceAdd]
 all_goals exact go
def jm (kind:Int) (v:(List Ext)):Option (Ext):=
 br (kind==1) (
 (atL v 0).bind fun x=>
 (atL v 1).bind fun x2=>
 (bN x x2).bind fun r_=>
 some r_) (
 (atL v 0).bind fun x3=>
 (atL v 1).bind fun x4=>
 (atL v 2).bind fun x5=>
 (bN x4 x5).bind fun r_2=>
 (atL v 3).bind fun x6=>
 (pa r_2 x6).bind fun r_3=>
 (bN x3 r_3).bind fun r_4=>
 some r_4)
theorem Mw {kind v r} (h:jm kind v=some r):Call tab ow 217 [I kind,sl eExt v] []=some (.agg [I r.A,I r.B],[]):=by
 rw [aa (af:=lB) rfl]
 unfold jm at h
 simp+decide only [lB,AH,go_sem,reduceIte,Nat.reduceAdd]
 have d1:= @fX
 have d2:= @xn
 all_goals exact go
def gM (s:Source) (list:(List Ext)):Option (Source):=
 (np list).bind fun r_=>
 (fS s r_).bind fun r_2=>
 some r_2
theorem uq {s list r} (h:gM s list=some r):Call tab ow 175 [.agg [sl eExt s.Script,I s.At,S s.State,I s.Count],sl eExt list] []=some (.agg [sl eExt r.Script,I r.At,S r.State,I r.Count],[]):=by
 rw [aa (af:=uF) rfl]
 unfold gM at h
 simp+decide only [uF,Hy,go_sem,reduceIte,Nat.reduceAdd]
 have d1:= @FE
 have d2:= @jY
 all_goals exact go
def gY (a:Int):Option (Int):=
 (ox a 2130706431).bind fun r_=>
 some r_
theorem B9 {a r} (h:gY a=some r):Call tab ow 298 [I a] []=some (I r,[]):=by
 rw [aa (af:=lV) rfl]
 unfold gY at h
 simp+decide only [lV,zY,go_sem,reduceIte,Nat.reduceAdd]
 have d1:= @DJ
 all_goals exact go
def jx (n i:Int) (a b r_:Ext):Option (Ext):=
 (wg n).bind fun r_2=>
 (wD r_2).bind fun r_3=>
 (ox r_3 i).bind fun r_4=>
 (gY 2).bind fun r_5=>
 (eF a b).bind fun r_6=>
 (lN r_5).bind fun r_7=>
 (bN r_6 r_7).bind fun r_8=>
 (pa a b).bind fun r_9=>
 (gY r_4).bind fun r_10=>
 (gB r_5 r_10).bind fun r_11=>
 (lN r_11).bind fun r_12=>
 (bN r_9 r_12).bind fun r_13=>
 (bN r_ r_13).bind fun r_14=>
 (eF r_8 r_14).bind fun r_15=>
 some r_15
theorem VK {n i a b r_ r} (h:jx n i a b r_=some r):Call tab ow 290 [I n,I i,.agg [I a.A,I a.B],.agg [I b.A,I b.B],.agg [I r_.A,I r_.B]] []=some (.agg [I r.A,I r.B],[]):=by
 rw [aa (af:=ue) rfl]
 unfold jx at h
 simp+decide only [ue,Ic,go_sem,reduceIte,Nat.reduceAdd]
 have d1:= @U8
 have d2:= @Wr
 have d3:= @DJ
 have d4:= @B9
 have d5:= @iT
 have d6:= @rU
 have d7:= @fX
 have d8:= @xn
 have d9:= @xH
 all_goals exact go
def wy (s:Source) (bits nonce:Int):Option (Bool):=
 br (bW (s.State.length+(([103,114,105,110,100]:List UInt8)).length) 1) (
 (de nonce 4).bind fun r_=>
 br (bW ((s.State++(([103,114,105,110,100]:List UInt8))).length+r_.length) 1) (
 (gK ((s.State++(([103,114,105,110,100]:List UInt8)))++r_)).bind fun r_2=>
 (atL r_2 0).bind fun c=>
 (atL r_2 1).bind fun c2=>
 br (decide (0≤(wrap .u64 (wrap .i64 (16-bits))))) (
 some ((aJ .i64 (wrap .i64 ((wrap .i64 ((wrap .i64 (c.toNat:Int))*256))+(wrap .i64 (c2.toNat:Int)))) (wrap .u64 (wrap .i64 (16-bits))))==0)) none) none) none
theorem X4 {s bits nonce r} (h:wy s bits nonce=some r):Call tab ow 201 [.agg [sl eExt s.Script,I s.At,S s.State,I s.Count],I bits,I nonce] []=some (B r,[]):=by
 rw [aa (af:=tN) rfl]
 unfold wy at h
 simp+decide only [tN,Ij,go_sem,reduceIte,Nat.reduceAdd]
 have d1:= @eZ
 have d2:= @lu
 all_goals exact go
section
theorem S6:mkR 2000 []=rws eExt []:=rfl
attribute [local go_sem] S6
theorem TO:mkR 8002 []=rws eExt []:=rfl
attribute [local go_sem] TO
def fT (n2 c5:Int) (c6:List UInt8) (c7:Int):(List Ext)×Int×(List Ext)×Int×(List UInt8)×Int→Option (((List Ext)×Int×(List Ext)×Int×(List UInt8)×Int)⊕(((List Ext)×Int×Bool×(List Ext)×Int×(List UInt8)×Int)))
 | (l,i,c,c2,c3,c4)=>
   br (decide (i<n2)) (
   (lf (Source.mk c c2 c3 c4)).bind fun r_=>
   br (bW ((l++([r_.2]:List Ext)).length) 16) (
   some (.inl ((l++([r_.2]:List Ext)),(wrap .i64 (i+1)),r_.1.Script,r_.1.At,r_.1.State,r_.1.Count))) none) (
   some (.inr (l,i,decide (i<n2),c,c2,c3,c4)))
abbrev vv (c5:Int) (c6:List UInt8) (c7:Int) (l c:List Ext) (c2:Int) (c3:List UInt8) (c4:Int):List (Nat×Blk):=[(1000,⟨4,true,[[sl eExt c,I c2,S c3,I c4]]⟩),(1001,⟨4,true,[[.lit (.slice none 0 0),I c5,S c6,I c7]]⟩),(2000,⟨2,false,rws eExt l⟩)]
abbrev C8 (n2 c5:Int) (c6:List UInt8) (c7:Int) (s:(List Ext)×Int×(List Ext)×Int×(List UInt8)×Int):St:=⟨[(1,I n2),(2,.ptr 1000 0 0 1),(4,.ptr 1001 0 0 1),(6,.sl 2000 0 s.1.length),(7,I s.2.1)],vv c5 c6 c7 s.1 s.2.2.1 s.2.2.2.1 s.2.2.2.2.1 s.2.2.2.2.2⟩
abbrev C4 (n2 c5:Int) (c6:List UInt8) (c7:Int):((List Ext)×Int×Bool×(List Ext)×Int×(List UInt8)×Int)→ah×St:=fun e=>(.exit 0,⟨[(1,I n2),(2,.ptr 1000 0 0 1),(4,.ptr 1001 0 0 1),(6,.sl 2000 0 e.1.length),(7,I e.2.1),(13,B e.2.2.1)],vv c5 c6 c7 e.1 e.2.2.2.1 e.2.2.2.2.1 e.2.2.2.2.2.1 e.2.2.2.2.2.2⟩)
theorem OD {n2 c5 c6 c7 s e} (h:Loop (fT n2 c5 c6 c7) s=some e):aq tab ow (.close [6001,6005,6006,8002,8003]) uK (C8 n2 c5 c6 c7 s)=some (C4 n2 c5 c6 c7 e):=by
 refine lrG (fun s o h=> ?_) h
 obtain ⟨_,_,_,_,_,_⟩:=s
 simp only [fT] at h
 simp+decide only [C8,C4,vv,uK,go_sem,reduceIte,Nat.reduceAdd]
 have d1:= @Az
 all_goals exact go
def my (s:Source) (n:Int):Option (Source×(List Ext)):=
 (Loop (fT n 0 (([]:List UInt8)) 0) (([]:List Ext),0,s.Script,s.At,s.State,s.Count)).bind fun e_=>
 some ((Source.mk e_.2.2.2.1 e_.2.2.2.2.1 e_.2.2.2.2.2.1 e_.2.2.2.2.2.2),e_.1)
theorem ID {s n r} (h:my s n=some r):Call tab ow 215 [.agg [sl eExt s.Script,I s.At,S s.State,I s.Count],I n] []=some (.tup [.agg [sl eExt r.1.Script,I r.1.At,S r.1.State,I r.1.Count],sl eExt r.2],[]):=by
 rw [aa (af:=uc) rfl]
 unfold my at h
 simp+decide only [uc,HV,go_sem,reduceIte,Nat.reduceAdd]
 have d1:= @OD
 all_goals exact go
end
section
theorem Lf:mkR 3000 []=rws eI []:=rfl
attribute [local go_sem] Lf
theorem KU:mkR 7008 []=rws eI []:=rfl
attribute [local go_sem] KU
def ep (n2 most2:Int) (list c:List Ext) (c2:Int) (c3:List UInt8) (c4 c5:Int) (c6:List UInt8) (c7:Int) (c8:List Ext) (c9:Int) (c10:List UInt8) (c11:Int):(List Int)×Int→Option (((List Int)×Int)⊕(((List Int)×Int×Bool)))
 | (l,i)=>
   br (decide (i<n2)) (
   (atL list i).bind fun x=>
   br (decide (most2≠0)) (
   br (bW ((l++([(x.A.tmod most2)]:List Int)).length) 8) (
   some (.inl ((l++([(x.A.tmod most2)]:List Int)),(wrap .i64 (i+1))))) none) none) (
   some (.inr (l,i,decide (i<n2))))
abbrev pS (c:List Ext) (c2:Int) (c3:List UInt8) (c4 c5:Int) (c6:List UInt8) (c7:Int) (c8:List Ext) (c9:Int) (c10:List UInt8) (c11:Int) (l:List Int):List (Nat×Blk):=[(1000,⟨4,true,[[sl eExt c,I c2,S c3,I c4]]⟩),(1001,⟨4,true,[[.lit (.slice none 0 0),I c5,S c6,I c7]]⟩),(2006,⟨4,true,[[sl eExt c8,I c9,S c10,I c11]]⟩),(3000,⟨1,false,rws eI l⟩)]
abbrev yI (n2 most2:Int) (list c:List Ext) (c2:Int) (c3:List UInt8) (c4 c5:Int) (c6:List UInt8) (c7:Int) (c8:List Ext) (c9:Int) (c10:List UInt8) (c11:Int) (s:(List Int)×Int):St:=⟨[(1,I n2),(2,I most2),(6,.ptr 1001 0 0 1),(8,.ptr 2006 0 0 1),(9,sl eExt list),(10,.sl 3000 0 s.1.length),(11,I s.2)],pS c c2 c3 c4 c5 c6 c7 c8 c9 c10 c11 s.1⟩
abbrev yZ (n2 most2:Int) (list c:List Ext) (c2:Int) (c3:List UInt8) (c4 c5:Int) (c6:List UInt8) (c7:Int) (c8:List Ext) (c9:Int) (c10:List UInt8) (c11:Int):((List Int)×Int×Bool)→ah×St:=fun e=>(.exit 0,⟨[(1,I n2),(2,I most2),(6,.ptr 1001 0 0 1),(8,.ptr 2006 0 0 1),(9,sl eExt list),(10,.sl 3000 0 e.1.length),(11,I e.2.1),(21,B e.2.2)],pS c c2 c3 c4 c5 c6 c7 c8 c9 c10 c11 e.1⟩)
theorem Jj {n2 most2 list c c2 c3 c4 c5 c6 c7 c8 c9 c10 c11 s e} (h:Loop (ep n2 most2 list c c2 c3 c4 c5 c6 c7 c8 c9 c10 c11) s=some e):aq tab ow (.close [7008,7009]) pn (yI n2 most2 list c c2 c3 c4 c5 c6 c7 c8 c9 c10 c11 s)=some (yZ n2 most2 list c c2 c3 c4 c5 c6 c7 c8 c9 c10 c11 e):=by
 refine lrG (fun s o h=> ?_) h
 obtain ⟨_,_⟩:=s
 simp only [ep] at h
 simp+decide only [yI,yZ,pS,pn,go_sem,reduceIte,Nat.reduceAdd]
 all_goals exact go
def oO (s:Source) (n most:Int):Option (Source×(List Int)):=
 (my s n).bind fun r_=>
 (Loop (ep n most r_.2 s.Script s.At s.State s.Count 0 (([]:List UInt8)) 0 r_.1.Script r_.1.At r_.1.State r_.1.Count) (([]:List Int),0)).bind fun e_=>
 some (r_.1,e_.1)
theorem OI {s n most r} (h:oO s n most=some r):Call tab ow 180 [.agg [sl eExt s.Script,I s.At,S s.State,I s.Count],I n,I most] []=some (.tup [.agg [sl eExt r.1.Script,I r.1.At,S r.1.State,I r.1.Count],sl eI r.2],[]):=by
 rw [aa (af:=oj) rfl]
 unfold oO at h
 simp+decide only [oj,CI,go_sem,reduceIte,Nat.reduceAdd]
 have d1:= @ID
 have d2:= @Jj
 all_goals exact go
end
def rZ (b2 t:List Ext) (t2 c c2:Int):Int×Int×Int→Option ((Int×Int×Int)⊕((Int×Bool×Int×Int)))
 | (t3,c3,c4)=>
   br (decide (t3<t2)) (
   (atL t t3).bind fun x=>
   (atL b2 t3).bind fun x2=>
   (bt x x2).bind fun r_=>
   (cZ (Ext.mk c3 c4) r_).bind fun r_2=>
   some (.inl ((wrap .i64 (t3+1)),r_2.A,r_2.B))) (
   some (.inr (t3,decide (t3<t2),c3,c4)))
abbrev GS (c c2 c3 c4:Int):List (Nat×Blk):=[(1000,⟨2,true,[[I c,I c2]]⟩),(2001,⟨2,true,[[I c3,I c4]]⟩)]
abbrev Q2 (b2 t:List Ext) (t2 c c2:Int) (s:Int×Int×Int):St:=⟨[(1,sl eExt b2),(4,.ptr 1000 0 0 1),(5,.ptr 2001 0 0 1),(9,sl eExt t),(10,I t2),(11,I s.1)],GS c c2 s.2.1 s.2.2⟩
abbrev Q1 (b2 t:List Ext) (t2 c c2:Int):(Int×Bool×Int×Int)→ah×St:=fun e=>(.exit 0,⟨[(1,sl eExt b2),(4,.ptr 1000 0 0 1),(5,.ptr 2001 0 0 1),(9,sl eExt t),(10,I t2),(11,I e.1),(12,B e.2.1)],GS c c2 e.2.2.1 e.2.2.2⟩)
theorem a1R {b2 t t2 c c2 s e} (h:Loop (rZ b2 t t2 c c2) s=some e):aq tab ow (.close [5003,6006,6007]) H3 (Q2 b2 t t2 c c2 s)=some (Q1 b2 t t2 c c2 e):=by
 refine lrG (fun s o h=> ?_) h
 obtain ⟨_,_,_⟩:=s
 simp only [rZ] at h
 simp+decide only [Q2,Q1,GS,H3,go_sem,reduceIte,Nat.reduceAdd]
 have d1:= @cB
 have d2:= @dS
 all_goals exact go
def Fi (a b:(List Ext)):Option (Ext):=
 (Loop (rZ b a ((a.length:Nat):Int) 0 0) (0,0,0)).bind fun e_=>
 some (Ext.mk e_.2.2.1 e_.2.2.2)
theorem a0j {a b r} (h:Fi a b=some r):Call tab ow 87 [sl eExt a,sl eExt b] []=some (.agg [I r.A,I r.B],[]):=by
 rw [aa (af:=K2) rfl]
 unfold Fi at h
 simp+decide only [K2,a0e,go_sem,reduceIte,Nat.reduceAdd]
 have d1:= @a1R
 all_goals exact go
def kf (round:(List Ext)) (m:Int):Option (Bool×Int):=
 br (((round.length:Nat):Int) !=m) (
 some (true,m)) (
 (dx round).bind fun r_=>
 some ((!r_),m))
theorem J3 {round m r} (h:kf round m=some r):Call tab ow 204 [sl eExt round,.ptr 0 0 0 1] [⟨1,true,[[I m]]⟩]=some (B r.1,[⟨1,true,[[I r.2]]⟩]):=by
 rw [aa (af:=kH) rfl]
 unfold kf at h
 simp+decide only [kH,yz,go_sem,reduceIte,Nat.reduceAdd]
 have d1:= @jI
 all_goals exact go
def aZ (s2:List (List Ext)) (t:Int):Int×Int→Option ((Int×Int)⊕((Int×Int)⊕(Int×Bool×Int)))
 | (t2,c)=>
   br (decide (t2<t)) (
   (atL s2 t2).bind fun x=>
   (kf x c).bind fun r_=>
   br r_.1 (
   some (.inr (.inl (t2,r_.2)))) (
   some (.inl ((wrap .i64 (t2+1)),r_.2)))) (
   some (.inr (.inr (t2,decide (t2<t),c))))
abbrev cQ (s2:List (List Ext)) (t:Int) (s:Int×Int):St:=⟨[(0,sl (eL eExt) s2),(1,.fn 204 [.ptr 0 0 0 1]),(7,I t),(8,I s.1)],[(0,⟨1,true,[[I s.2]]⟩)]⟩
abbrev cS (s2:List (List Ext)) (t:Int):((Int×Int)⊕(Int×Bool×Int))→ah×St:=alt (fun e=>((.ret,⟨[(4,I e.1)],[(0,⟨1,true,[[I e.2]]⟩)]⟩):ah×St)) (fun e=>(.exit 0,⟨[(0,sl (eL eExt) s2),(1,.fn 204 [.ptr 0 0 0 1]),(7,I t),(8,I e.1),(9,B e.2.1)],[(0,⟨1,true,[[I e.2.2]]⟩)]⟩))
theorem fP {s2 t s e} (h:Loop (aZ s2 t) s=some e):aq tab ow (.close [5005]) cV (cQ s2 t s)=some (cS s2 t e):=by
 refine lrG (fun s o h=> ?_) h
 obtain ⟨_,_⟩:=s
 simp only [aZ] at h
 simp+decide only [cQ,cS,cV,go_sem,reduceIte,Nat.reduceAdd]
 have d1:= @J3
 all_goals exact go
def bk (s:(List (List Ext))) (m:Int):Option (Int×Int):=
 (Loop (aZ s ((s.length:Nat):Int)) (0,m)).bind (alt (fun e_2=>
 some (e_2.1,e_2.2)) (fun e_3=>
 some ((-1:Int),e_3.2.2)))
theorem ge {s m r} (h:bk s m=some r):Call tab ow 300 [sl (eL eExt) s,.fn 204 [.ptr 0 0 0 1]] [⟨1,true,[[I m]]⟩]=some (I r.1,[⟨1,true,[[I r.2]]⟩]):=by
 rw [aa (af:=ci) rfl]
 unfold bk at h
 simp+decide only [ci,fE,go_sem,reduceIte,Nat.reduceAdd]
 have d1:= @fP
 all_goals exact go
def bc (s:(List (List Ext))) (m:Int):Option (Bool×Int):=
 (bk s m).bind fun r_=>
 some (decide (r_.1≥0),r_.2)
theorem fG {s m r} (h:bc s m=some r):Call tab ow 203 [sl (eL eExt) s,.fn 204 [.ptr 0 0 0 1]] [⟨1,true,[[I m]]⟩]=some (B r.1,[⟨1,true,[[I r.2]]⟩]):=by
 rw [aa (af:=bP) rfl]
 unfold bc at h
 simp+decide only [bP,eP,go_sem,reduceIte,Nat.reduceAdd]
 have d1:= @ge
 all_goals exact go
def iP (rounds:(List (List Ext))) (many size:Int):Option (Bool):=
 br (((rounds.length:Nat):Int)==many) (
 (bc rounds size).bind fun r_=>
 some (!r_.1)) (
 some false)
theorem Ck {rounds many size r} (h:iP rounds many size=some r):Call tab ow 98 [sl (eL eExt) rounds,I many,I size] []=some (B r,[]):=by
 rw [aa (af:=nJ) rfl]
 unfold iP at h
 simp+decide only [nJ,CM,go_sem,reduceIte,Nat.reduceAdd]
 have d1:= @fG
 all_goals exact go
def dL (x:(List UInt8)):Option (Bool):=
 (oY x).bind fun r_=>
 some (!r_)
theorem vV {x r} (h:dL x=some r):Call tab ow 206 [S x,.ptr 0 0 0 1] [⟨1,true,[[.fn 100 []]]⟩]=some (B r,[⟨1,true,[[.fn 100 []]]⟩]):=by
 rw [aa (af:=jj) rfl]
 unfold dL at h
 simp+decide only [jj,wS,go_sem,reduceIte,Nat.reduceAdd]
 have d1:= @xK
 all_goals exact go
def aK (s2:List (List UInt8)) (t:Int):Int→Option ((Int)⊕(Int⊕(Int×Bool)))
 |t2=>
  br (decide (t2<t)) (
  (atL s2 t2).bind fun x=>
  (dL x).bind fun r_=>
  br r_ (
  some (.inr (.inl t2))) (
  some (.inl (wrap .i64 (t2+1))))) (
  some (.inr (.inr (t2,decide (t2<t)))))
abbrev cf (s2:List (List UInt8)) (t s:Int):St:=⟨[(0,sl eS s2),(1,.fn 206 [.ptr 0 0 0 1]),(7,I t),(8,I s)],[(0,⟨1,true,[[.fn 100 []]]⟩)]⟩
abbrev ce (s2:List (List UInt8)) (t:Int):(Int⊕(Int×Bool))→ah×St:=alt (fun e=>((.ret,⟨[(4,I e)],[(0,⟨1,true,[[.fn 100 []]]⟩)]⟩):ah×St)) (fun e=>(.exit 0,⟨[(0,sl eS s2),(1,.fn 206 [.ptr 0 0 0 1]),(7,I t),(8,I e.1),(9,B e.2)],[(0,⟨1,true,[[.fn 100 []]]⟩)]⟩))
theorem ed {s2 t s e} (h:Loop (aK s2 t) s=some e):aq tab ow (.close [5005]) bw (cf s2 t s)=some (ce s2 t e):=by
 refine lrG (fun s o h=> ?_) h
 simp only [aK] at h
 simp+decide only [cf,ce,bw,go_sem,reduceIte,Nat.reduceAdd]
 have d1:= @vV
 all_goals exact go
def aO (s:(List (List UInt8))):Option (Int):=
 (Loop (aK s ((s.length:Nat):Int)) 0).bind (alt (fun e_2=>
 some e_2) (fun e_3=>
 some (-1:Int)))
theorem eJ {s r} (h:aO s=some r):Call tab ow 301 [sl eS s,.fn 206 [.ptr 0 0 0 1]] [⟨1,true,[[.fn 100 []]]⟩]=some (I r,[⟨1,true,[[.fn 100 []]]⟩]):=by
 rw [aa (af:=bg) rfl]
 unfold aO at h
 simp+decide only [bg,dk,go_sem,reduceIte,Nat.reduceAdd]
 have d1:= @ed
 all_goals exact go
def aL (s:(List (List UInt8))):Option (Bool):=
 (aO s).bind fun r_=>
 some (decide (r_≥0))
theorem dY {s r} (h:aL s=some r):Call tab ow 205 [sl eS s,.fn 206 [.ptr 0 0 0 1]] [⟨1,true,[[.fn 100 []]]⟩]=some (B r,[⟨1,true,[[.fn 100 []]]⟩]):=by
 rw [aa (af:=aT) rfl]
 unfold aL at h
 simp+decide only [aT,cM,go_sem,reduceIte,Nat.reduceAdd]
 have d1:= @eJ
 all_goals exact go
def dA (list:(List (List UInt8))):Option (Bool):=
 (aL list).bind fun r_=>
 some (!r_)
theorem mr {list r} (h:dA list=some r):Call tab ow 99 [.fn 100 [],sl eS list] []=some (B r,[]):=by
 rw [aa (af:=lR) rfl]
 unfold dA at h
 simp+decide only [lR,AD,go_sem,reduceIte,Nat.reduceAdd]
 have d1:= @dY
 all_goals exact go
def ga (vars2:Int) (t2:List (List (List UInt8))) (t3:Int) (c:List Ext) (c2:List (List (List UInt8))) (c3 c4 c5:Int):Int→Option ((Int)⊕(Unit⊕(Int×Bool)))
 |t4=>
  br (decide (t4<t3)) (
  (atL t2 t4).bind fun x=>
  br (((x.length:Nat):Int) !=(wrap .i64 ((wrap .i64 ((wrap .i64 (vars2+c3))-1))-t4))) (
  some (.inr (.inl ()))) (
  (dA x).bind fun r_2=>
  br (!r_2) (
  some (.inr (.inl ()))) (
  some (.inl (wrap .i64 (t4+1)))))) (
  some (.inr (.inr (t4,decide (t4<t3)))))
abbrev oi (c:List Ext) (c2:List (List (List UInt8))) (c3 c4 c5:Int):List (Nat×Blk):=[(1000,⟨2,true,[[sl eExt c,sl (eL eS) c2]]⟩),(1001,⟨3,true,[[I c3,I c4,I c5]]⟩)]
abbrev D7 (vars2:Int) (t2:List (List (List UInt8))) (t3:Int) (c:List Ext) (c2:List (List (List UInt8))) (c3 c4 c5 s:Int):St:=⟨[(1,I vars2),(5,.ptr 1001 0 0 1),(29,sl (eL eS) t2),(30,I t3),(31,I s)],oi c c2 c3 c4 c5⟩
abbrev D9 (vars2:Int) (t2:List (List (List UInt8))) (t3:Int) (c:List Ext) (c2:List (List (List UInt8))) (c3 c4 c5:Int):(Unit⊕(Int×Bool))→ah×St:=alt (fun e=>((.ret,⟨[(6,B false)],oi c c2 c3 c4 c5⟩):ah×St)) (fun e=>(.exit 0,⟨[(1,I vars2),(5,.ptr 1001 0 0 1),(29,sl (eL eS) t2),(30,I t3),(31,I e.1),(32,B e.2)],oi c c2 c3 c4 c5⟩))
theorem Pg {vars2 t2 t3 c c2 c3 c4 c5 s e} (h:Loop (ga vars2 t2 t3 c c2 c3 c4 c5) s=some e):aq tab ow (.close [7012]) v5 (D7 vars2 t2 t3 c c2 c3 c4 c5 s)=some (D9 vars2 t2 t3 c c2 c3 c4 c5 e):=by
 refine lrG (fun s o h=> ?_) h
 simp only [ga] at h
 simp+decide only [D7,D9,oi,v5,go_sem,reduceIte,Nat.reduceAdd]
 have d1:= @mr
 all_goals exact go
def rT (q:Query) (vars:Int) (t:Setting):Option (Bool):=
 br (((q.Pairs.length:Nat):Int) !=(wrap .i64 (2*vars))) (
 some false) (
 (dx q.Pairs).bind fun r_=>
 br (!r_) (
 some false) (
 br (((q.Paths.length:Nat):Int) !=vars) (
 some false) (
 (Loop (ga vars q.Paths ((q.Paths.length:Nat):Int) q.Pairs q.Paths t.Rate t.Queries t.Grind) 0).bind (alt (fun e_2=>
 some false) (fun e_3=>
 some true)))))
theorem Ul {q vars t r} (h:rT q vars t=some r):Call tab ow 103 [.agg [sl eExt q.Pairs,sl (eL eS) q.Paths],I vars,.agg [I t.Rate,I t.Queries,I t.Grind]] []=some (B r,[]):=by
 rw [aa (af:=uh) rfl]
 unfold rT at h
 simp+decide only [uh,IM,go_sem,reduceIte,Nat.reduceAdd]
 have d1:= @jI
 have d2:= @Pg
 all_goals exact go
def o3 (q:Query) (m:Int) (m2:Setting):Option (Bool×Int×Setting):=
 (rT q m m2).bind fun r_=>
 some (r_,m,m2)
theorem Jm {q m m2 r} (h:o3 q m m2=some r):Call tab ow 102 [.agg [sl eExt q.Pairs,sl (eL eS) q.Paths],.ptr 0 0 0 1,.ptr 1 0 0 1] [⟨1,true,[[I m]]⟩,⟨3,true,[[I m2.Rate,I m2.Queries,I m2.Grind]]⟩]=some (B r.1,[⟨1,true,[[I r.2.1]]⟩,⟨3,true,[[I r.2.2.Rate,I r.2.2.Queries,I r.2.2.Grind]]⟩]):=by
 rw [aa (af:=kB) rfl]
 unfold o3 at h
 simp+decide only [kB,yN,go_sem,reduceIte,Nat.reduceAdd]
 have d1:= @Ul
 all_goals exact go
def bL (x:Query) (m:Int) (m2:Setting):Option (Bool×Int×Setting):=
 (o3 x m m2).bind fun r_=>
 some ((!r_.1),r_.2.1,r_.2.2)
theorem p5 {x m m2 r} (h:bL x m m2=some r):Call tab ow 208 [.agg [sl eExt x.Pairs,sl (eL eS) x.Paths],.ptr 0 0 0 1] [⟨1,true,[[.fn 102 [.ptr 1 0 0 1,.ptr 2 0 0 1]]]⟩,⟨1,true,[[I m]]⟩,⟨3,true,[[I m2.Rate,I m2.Queries,I m2.Grind]]⟩]=some (B r.1,[⟨1,true,[[.fn 102 [.ptr 1 0 0 1,.ptr 2 0 0 1]]]⟩,⟨1,true,[[I r.2.1]]⟩,⟨3,true,[[I r.2.2.Rate,I r.2.2.Queries,I r.2.2.Grind]]⟩]):=by
 rw [aa (af:=iB) rfl]
 unfold bL at h
 simp+decide only [iB,uH,go_sem,reduceIte,Nat.reduceAdd]
 have d1:= @Jm
 all_goals exact go
def al (s2:List Query) (t:Int):Int×Int×Int×Int×Int→Option ((Int×Int×Int×Int×Int)⊕((Int×Int×Int×Int×Int)⊕(Int×Bool×Int×Int×Int×Int)))
 | (t2,c,c2,c3,c4)=>
   br (decide (t2<t)) (
   (atL s2 t2).bind fun x=>
   (bL x c (Setting.mk c2 c3 c4)).bind fun r_=>
   br r_.1 (
   some (.inr (.inl (t2,r_.2.1,r_.2.2.Rate,r_.2.2.Queries,r_.2.2.Grind)))) (
   some (.inl ((wrap .i64 (t2+1)),r_.2.1,r_.2.2.Rate,r_.2.2.Queries,r_.2.2.Grind)))) (
   some (.inr (.inr (t2,decide (t2<t),c,c2,c3,c4))))
abbrev aD (c c2 c3 c4:Int):List (Nat×Blk):=[(0,⟨1,true,[[.fn 102 [.ptr 1 0 0 1,.ptr 2 0 0 1]]]⟩),(1,⟨1,true,[[I c]]⟩),(2,⟨3,true,[[I c2,I c3,I c4]]⟩)]
abbrev bD (s2:List Query) (t:Int) (s:Int×Int×Int×Int×Int):St:=⟨[(0,sl eQuery s2),(1,.fn 208 [.ptr 0 0 0 1]),(7,I t),(8,I s.1)],aD s.2.1 s.2.2.1 s.2.2.2.1 s.2.2.2.2⟩
abbrev bE (s2:List Query) (t:Int):((Int×Int×Int×Int×Int)⊕(Int×Bool×Int×Int×Int×Int))→ah×St:=alt (fun e=>((.ret,⟨[(4,I e.1)],aD e.2.1 e.2.2.1 e.2.2.2.1 e.2.2.2.2⟩):ah×St)) (fun e=>(.exit 0,⟨[(0,sl eQuery s2),(1,.fn 208 [.ptr 0 0 0 1]),(7,I t),(8,I e.1),(9,B e.2.1)],aD e.2.2.1 e.2.2.2.1 e.2.2.2.2.1 e.2.2.2.2.2⟩))
theorem dt {s2 t s e} (h:Loop (al s2 t) s=some e):aq tab ow (.close [5005]) cD (bD s2 t s)=some (bE s2 t e):=by
 refine lrG (fun s o h=> ?_) h
 obtain ⟨_,_,_,_,_⟩:=s
 simp only [al] at h
 simp+decide only [bD,bE,aD,cD,go_sem,reduceIte,Nat.reduceAdd]
 have d1:= @p5
 all_goals exact go
def aH (s:(List Query)) (m:Int) (m2:Setting):Option (Int×Int×Setting):=
 (Loop (al s ((s.length:Nat):Int)) (0,m,m2.Rate,m2.Queries,m2.Grind)).bind (alt (fun e_2=>
 some (e_2.1,e_2.2.1,(Setting.mk e_2.2.2.1 e_2.2.2.2.1 e_2.2.2.2.2))) (fun e_3=>
 some ((-1:Int),e_3.2.2.1,(Setting.mk e_3.2.2.2.1 e_3.2.2.2.2.1 e_3.2.2.2.2.2))))
theorem dD {s m m2 r} (h:aH s m m2=some r):Call tab ow 302 [sl eQuery s,.fn 208 [.ptr 0 0 0 1]] [⟨1,true,[[.fn 102 [.ptr 1 0 0 1,.ptr 2 0 0 1]]]⟩,⟨1,true,[[I m]]⟩,⟨3,true,[[I m2.Rate,I m2.Queries,I m2.Grind]]⟩]=some (I r.1,[⟨1,true,[[.fn 102 [.ptr 1 0 0 1,.ptr 2 0 0 1]]]⟩,⟨1,true,[[I r.2.1]]⟩,⟨3,true,[[I r.2.2.Rate,I r.2.2.Queries,I r.2.2.Grind]]⟩]):=by
 rw [aa (af:=bV) rfl]
 unfold aH at h
 simp+decide only [bV,eX,go_sem,reduceIte,Nat.reduceAdd]
 have d1:= @dt
 all_goals exact go
def aG (s:(List Query)) (m:Int) (m2:Setting):Option (Bool×Int×Setting):=
 (aH s m m2).bind fun r_=>
 some (decide (r_.1≥0),r_.2.1,r_.2.2)
theorem dn {s m m2 r} (h:aG s m m2=some r):Call tab ow 207 [sl eQuery s,.fn 208 [.ptr 0 0 0 1]] [⟨1,true,[[.fn 102 [.ptr 1 0 0 1,.ptr 2 0 0 1]]]⟩,⟨1,true,[[I m]]⟩,⟨3,true,[[I m2.Rate,I m2.Queries,I m2.Grind]]⟩]=some (B r.1,[⟨1,true,[[.fn 102 [.ptr 1 0 0 1,.ptr 2 0 0 1]]]⟩,⟨1,true,[[I r.2.1]]⟩,⟨3,true,[[I r.2.2.Rate,I r.2.2.Queries,I r.2.2.Grind]]⟩]):=by
 rw [aa (af:=bK) rfl]
 unfold aG at h
 simp+decide only [bK,e5,go_sem,reduceIte,Nat.reduceAdd]
 have d1:= @dD
 all_goals exact go
def dK (list:(List Query)) (m:Int) (m2:Setting):Option (Bool×Int×Setting):=
 (aG list m m2).bind fun r_=>
 some ((!r_.1),r_.2.1,r_.2.2)
theorem rb {list m m2 r} (h:dK list m m2=some r):Call tab ow 101 [.fn 102 [.ptr 0 0 0 1,.ptr 1 0 0 1],sl eQuery list] [⟨1,true,[[I m]]⟩,⟨3,true,[[I m2.Rate,I m2.Queries,I m2.Grind]]⟩]=some (B r.1,[⟨1,true,[[I r.2.1]]⟩,⟨3,true,[[I r.2.2.Rate,I r.2.2.Queries,I r.2.2.Grind]]⟩]):=by
 rw [aa (af:=kC) rfl]
 unfold dK at h
 simp+decide only [kC,yx,go_sem,reduceIte,Nat.reduceAdd]
 have d1:= @dn
 all_goals exact go
def oN (o_:Opening) (vars:Int) (t:Setting):Option (Bool):=
 (vp vars 1 6).bind fun r_=>
 br r_ (
 (iY t).bind fun r_2=>
 br r_2 (
 (iP o_.Rounds vars 3).bind fun r_3=>
 br r_3 (
 br (((o_.Roots.length:Nat):Int)==(wrap .i64 (vars-1))) (
 (dA o_.Roots).bind fun r_4=>
 br r_4 (
 (nN o_.Last).bind fun r_5=>
 br r_5 (
 (vp o_.Nonce 0 65535).bind fun r_6=>
 br r_6 (
 br (((o_.Queries.length:Nat):Int)==t.Queries) (
 (dK o_.Queries vars t).bind fun r_7=>
 some r_7.1) (
 some false)) (
 some false)) (
 some false)) (
 some false)) (
 some false)) (
 some false)) (
 some false)) (
 some false)
theorem Pi {o_ vars t r} (h:oN o_ vars t=some r):Call tab ow 25 [.agg [sl (eL eExt) o_.Rounds,sl eS o_.Roots,I o_.Last.A,I o_.Last.B,I o_.Nonce,sl eQuery o_.Queries],I vars,.agg [I t.Rate,I t.Queries,I t.Grind]] []=some (B r,[]):=by
 rw [aa (af:=nV) rfl]
 unfold oN at h
 simp+decide only [nV,Dd,go_sem,reduceIte,Nat.reduceAdd]
 have d1:= @yd
 have d2:= @vH
 have d3:= @Ck
 have d4:= @mr
 have d5:= @Hc
 have d6:= @rb
 all_goals exact go
end
end Go.AI.Fn
set_option linter.unusedVariables false
set_option linter.unusedSimpArgs false
set_option maxRecDepth 100000
set_option maxHeartbeats 1000000
namespace Go.AI.Fn
noncomputable section
open IntKind (wrap)
def hU (values3:List Ext) (i:Int) (t4:List Ext) (t5 t6 t7 c7 c8 c9 c10 c11 c12 c13 c14:Int):Int×Int×Int→Option ((Int×Int×Int)⊕((Int×Bool×Int×Int)))
 | (t8,c15,c16)=>
   br (decide (t8<t7)) (
   br (t8 !=i) (
   (dZ (Ext.mk c7 c8) (Ext.mk t8 0)).bind fun r_=>
   (bt (Ext.mk c15 c16) r_).bind fun r_2=>
   (Mt i t8).bind fun r_3=>
   (nj r_3).bind fun r_4=>
   (dW r_2 r_4).bind fun r_5=>
   some (.inl ((wrap .i64 (t8+1)),r_5.A,r_5.B))) (
   some (.inl ((wrap .i64 (t8+1)),c15,c16)))) (
   some (.inr (t8,decide (t8<t7),c15,c16)))
abbrev yc (c7 c8 c9 c10 c11 c12 c13 c14 c15 c16:Int):List (Nat×Blk):=[(1000,⟨2,true,[[I c7,I c8]]⟩),(1001,⟨2,true,[[I c9,I c10]]⟩),(2001,⟨2,true,[[I c11,I c12]]⟩),(5003,⟨2,true,[[I c13,I c14]]⟩),(6001,⟨2,true,[[I c15,I c16]]⟩)]
abbrev Gd (values3:List Ext) (i:Int) (t4:List Ext) (t5 t6 t7 c7 c8 c9 c10 c11 c12 c13 c14:Int) (s:Int×Int×Int):St:=⟨[(0,sl eExt values3),(3,.ptr 1000 0 0 1),(4,.ptr 1001 0 0 1),(5,.ptr 2001 0 0 1),(6,I i),(8,.ptr 6001 0 0 1),(11,sl eExt t4),(12,I t5),(13,I t6),(20,I t7),(21,I s.1)],yc c7 c8 c9 c10 c11 c12 c13 c14 s.2.1 s.2.2⟩
abbrev Fh (values3:List Ext) (i:Int) (t4:List Ext) (t5 t6 t7 c7 c8 c9 c10 c11 c12 c13 c14:Int):(Int×Bool×Int×Int)→ah×St:=fun e=>(.exit 2,⟨[(0,sl eExt values3),(3,.ptr 1000 0 0 1),(4,.ptr 1001 0 0 1),(5,.ptr 2001 0 0 1),(6,I i),(8,.ptr 6001 0 0 1),(11,sl eExt t4),(12,I t5),(13,I t6),(20,I t7),(21,I e.1),(22,B e.2.1)],yc c7 c8 c9 c10 c11 c12 c13 c14 e.2.2.1 e.2.2.2⟩)
theorem U4 {values3 i t4 t5 t6 t7 c7 c8 c9 c10 c11 c12 c13 c14 s e} (h:Loop (hU values3 i t4 t5 t6 t7 c7 c8 c9 c10 c11 c12 c13 c14) s=some e):aq tab ow (.close [11004,11005,11008,11009,11010]) xB (Gd values3 i t4 t5 t6 t7 c7 c8 c9 c10 c11 c12 c13 c14 s)=some (Fh values3 i t4 t5 t6 t7 c7 c8 c9 c10 c11 c12 c13 c14 e):=by
 refine lrG (fun s o h=> ?_) h
 obtain ⟨_,_,_⟩:=s
 simp only [hU] at h
 simp+decide only [Gd,Fh,yc,xB,go_sem,reduceIte,Nat.reduceAdd]
 have d1:= @io
 have d2:= @cB
 have d3:= @a0m
 have d4:= @It
 have d5:= @iO
 all_goals exact go
def gZ (values2 t:List Ext) (t2 c c2 c3 c4:Int):Int×Int×Int→Option ((Int×Int×Int)⊕((Int×Bool×Int×Int)))
 | (t3,c5,c6)=>
   br (decide (t3<t2)) (
   (atL t t3).bind fun x2=>
   (Loop (hU values2 t3 t t2 t3 ((values2.length:Nat):Int) c c2 c3 c4 c5 c6 x2.A x2.B) (0,x2.A,x2.B)).bind fun e_=>
   (cZ (Ext.mk c5 c6) (Ext.mk e_.2.2.1 e_.2.2.2)).bind fun r_6=>
   some (.inl ((wrap .i64 (t3+1)),r_6.A,r_6.B))) (
   some (.inr (t3,decide (t3<t2),c5,c6)))
abbrev xS (c c2 c3 c4 c5 c6:Int):List (Nat×Blk):=[(1000,⟨2,true,[[I c,I c2]]⟩),(1001,⟨2,true,[[I c3,I c4]]⟩),(2001,⟨2,true,[[I c5,I c6]]⟩)]
abbrev Ee (values2 t:List Ext) (t2 c c2 c3 c4:Int) (s:Int×Int×Int):St:=⟨[(0,sl eExt values2),(3,.ptr 1000 0 0 1),(4,.ptr 1001 0 0 1),(5,.ptr 2001 0 0 1),(11,sl eExt t),(12,I t2),(13,I s.1)],xS c c2 c3 c4 s.2.1 s.2.2⟩
abbrev EC (values2 t:List Ext) (t2 c c2 c3 c4:Int):(Int×Bool×Int×Int)→ah×St:=fun e=>(.exit 0,⟨[(0,sl eExt values2),(3,.ptr 1000 0 0 1),(4,.ptr 1001 0 0 1),(5,.ptr 2001 0 0 1),(11,sl eExt t),(12,I t2),(13,I e.1),(14,B e.2.1)],xS c c2 c3 c4 e.2.2.1 e.2.2.2⟩)
theorem Rf {values2 t t2 c c2 c3 c4 s e} (h:Loop (gZ values2 t t2 c c2 c3 c4) s=some e):aq tab ow (.close [5003,6001,11004,11005,11008,11009,11010,13002]) xD (Ee values2 t t2 c c2 c3 c4 s)=some (EC values2 t t2 c c2 c3 c4 e):=by
 refine lrG (fun s o h=> ?_) h
 obtain ⟨_,_,_⟩:=s
 simp only [gZ] at h
 simp+decide only [Ee,EC,xS,xD,go_sem,reduceIte,Nat.reduceAdd]
 have d1:= @U4
 have d2:= @dS
 all_goals exact go
def vU (values:(List Ext)) (x:Ext):Option (Ext):=
 (Loop (gZ values values ((values.length:Nat):Int) x.A x.B 0 0) (0,0,0)).bind fun e_2=>
 some (Ext.mk e_2.2.2.1 e_2.2.2.2)
theorem LJ {values x r} (h:vU values x=some r):Call tab ow 294 [sl eExt values,.agg [I x.A,I x.B]] []=some (.agg [I r.A,I r.B],[]):=by
 rw [aa (af:=yh) rfl]
 unfold vU at h
 simp+decide only [yh,K3,go_sem,reduceIte,Nat.reduceAdd]
 have d1:= @Rf
 all_goals exact go
def gn (k m:Int) (m2:Opening) (m3:Source):Option (Int×Opening×Source):=
 br (decide (k<(wrap .i64 (m-1)))) (
 (atL m2.Roots k).bind fun x=>
 br (bW x.length 1) (
 (cX x m3).bind fun r_=>
 some (m,m2,r_)) none) (
 some (m,m2,m3))
theorem DH {k m m2 m3 r} (h:gn k m m2 m3=some r):Call tab ow 188 [I k,.ptr 0 0 0 1,.ptr 1 0 0 1,.ptr 2 0 0 1] [⟨1,true,[[I m]]⟩,⟨1,true,[[.ptr 3 0 0 1]]⟩,⟨6,true,[[sl (eL eExt) m2.Rounds,sl eS m2.Roots,I m2.Last.A,I m2.Last.B,I m2.Nonce,sl eQuery m2.Queries]]⟩,⟨4,true,[[sl eExt m3.Script,I m3.At,S m3.State,I m3.Count]]⟩]=some (.tup [],[⟨1,true,[[I r.1]]⟩,⟨1,true,[[.ptr 3 0 0 1]]⟩,⟨6,true,[[sl (eL eExt) r.2.1.Rounds,sl eS r.2.1.Roots,I r.2.1.Last.A,I r.2.1.Last.B,I r.2.1.Nonce,sl eQuery r.2.1.Queries]]⟩,⟨4,true,[[sl eExt r.2.2.Script,I r.2.2.At,S r.2.2.State,I r.2.2.Count]]⟩]):=by
 rw [aa (af:=gS) rfl]
 unfold gn at h
 simp+decide only [gS,sN,go_sem,reduceIte,Nat.reduceAdd]
 have d1:= @iG
 all_goals exact go
section
theorem jO:mkR 2000 []=rws eExt []:=rfl
attribute [local go_sem] jO
theorem jF:mkR 12005 []=rws eExt []:=rfl
attribute [local go_sem] jF
def am (kind2:Int) (t:List (List Ext)) (t2 c14 c15:Int):(List Ext)×Int×(List Ext)×Int×(List UInt8)×Int×Int×(List (List Ext))×(List (List UInt8))×Int×Int×Int×(List Query)×Int×Int→Option (((List Ext)×Int×(List Ext)×Int×(List UInt8)×Int×Int×(List (List Ext))×(List (List UInt8))×Int×Int×Int×(List Query)×Int×Int)⊕(((List Ext)×Int×(List Ext)×Int×(List UInt8)×Int×Int×(List (List Ext))×(List (List UInt8))×Int×Int×Int×(List Query)×Int×Int)⊕((List Ext)×Int×Bool×(List Ext)×Int×(List UInt8)×Int×Int×(List (List Ext))×(List (List UInt8))×Int×Int×Int×(List Query)×Int×Int)))
 | (l,t3,c,c2,c3,c4,c5,c6,c7,c8,c9,c10,c11,c12,c13)=>
   br (decide (t3<t2)) (
   (atL t t3).bind fun x=>
   (kN kind2).bind fun r_=>
   br (((x.length:Nat):Int) !=(wrap .i64 (r_+1))) (
   some (.inr (.inl (l,18,c,c2,c3,c4,c5,c6,c7,c8,c9,c10,c11,c12,c13)))) (
   (atL x 0).bind fun x2=>
   (atL x 1).bind fun x3=>
   (cZ x2 x3).bind fun r_2=>
   br (r_2.A==c12) (
   br (r_2.B==c13) (
   (bo x (Source.mk c c2 c3 c4)).bind fun r_3=>
   (f0 r_3).bind fun r_4=>
   (vU x r_4.1).bind fun r_5=>
   br (bW ((l++([r_4.1]:List Ext)).length) 16) (
   (gn t3 c5 (Opening.mk c6 c7 (Ext.mk c8 c9) c10 c11) r_4.2).bind fun r_6=>
   some (.inl ((l++([r_4.1]:List Ext)),(wrap .i64 (t3+1)),r_6.2.2.Script,r_6.2.2.At,r_6.2.2.State,r_6.2.2.Count,r_6.1,r_6.2.1.Rounds,r_6.2.1.Roots,r_6.2.1.Last.A,r_6.2.1.Last.B,r_6.2.1.Nonce,r_6.2.1.Queries,r_5.A,r_5.B))) none) (
   some (.inr (.inl (l,10,c,c2,c3,c4,c5,c6,c7,c8,c9,c10,c11,c12,c13))))) (
   some (.inr (.inl (l,10,c,c2,c3,c4,c5,c6,c7,c8,c9,c10,c11,c12,c13)))))) (
   some (.inr (.inr (l,t3,decide (t3<t2),c,c2,c3,c4,c5,c6,c7,c8,c9,c10,c11,c12,c13))))
abbrev cG (c14 c15:Int) (l c:List Ext) (c2:Int) (c3:List UInt8) (c4 c5:Int) (c6:List (List Ext)) (c7:List (List UInt8)) (c8 c9 c10:Int) (c11:List Query) (c12 c13:Int):List (Nat×Blk):=[(0,⟨4,true,[[sl eExt c,I c2,S c3,I c4]]⟩),(1,⟨1,true,[[I c5]]⟩),(2,⟨1,true,[[.ptr 0 0 0 1]]⟩),(3,⟨6,true,[[sl (eL eExt) c6,sl eS c7,I c8,I c9,I c10,sl eQuery c11]]⟩),(1000,⟨2,true,[[I c12,I c13]]⟩),(1002,⟨2,true,[[I c14,I c15]]⟩),(2000,⟨2,false,rws eExt l⟩)]
abbrev eo (kind2:Int) (t:List (List Ext)) (t2 c14 c15:Int) (s:(List Ext)×Int×(List Ext)×Int×(List UInt8)×Int×Int×(List (List Ext))×(List (List UInt8))×Int×Int×Int×(List Query)×Int×Int):St:=⟨[(0,.ptr 0 0 0 1),(1,I kind2),(4,.fn 188 [.ptr 1 0 0 1,.ptr 2 0 0 1,.ptr 3 0 0 1]),(7,.ptr 1000 0 0 1),(11,.ptr 1002 0 0 1),(13,.sl 2000 0 s.1.length),(18,sl (eL eExt) t),(19,I t2),(20,I s.2.1)],cG c14 c15 s.1 s.2.2.1 s.2.2.2.1 s.2.2.2.2.1 s.2.2.2.2.2.1 s.2.2.2.2.2.2.1 s.2.2.2.2.2.2.2.1 s.2.2.2.2.2.2.2.2.1 s.2.2.2.2.2.2.2.2.2.1 s.2.2.2.2.2.2.2.2.2.2.1 s.2.2.2.2.2.2.2.2.2.2.2.1 s.2.2.2.2.2.2.2.2.2.2.2.2.1 s.2.2.2.2.2.2.2.2.2.2.2.2.2.1 s.2.2.2.2.2.2.2.2.2.2.2.2.2.2⟩
abbrev em (kind2:Int) (t:List (List Ext)) (t2 c14 c15:Int):(((List Ext)×Int×(List Ext)×Int×(List UInt8)×Int×Int×(List (List Ext))×(List (List UInt8))×Int×Int×Int×(List Query)×Int×Int)⊕((List Ext)×Int×Bool×(List Ext)×Int×(List UInt8)×Int×Int×(List (List Ext))×(List (List UInt8))×Int×Int×Int×(List Query)×Int×Int))→ah×St:=alt (fun e=>((.ret,⟨[(10,.lit (.slice none 0 0)),(11,.ptr 1002 0 0 1),(12,I e.2.1)],[(0,⟨4,true,[[sl eExt e.2.2.1,I e.2.2.2.1,S e.2.2.2.2.1,I e.2.2.2.2.2.1]]⟩),(1,⟨1,true,[[I e.2.2.2.2.2.2.1]]⟩),(2,⟨1,true,[[.ptr 0 0 0 1]]⟩),(3,⟨6,true,[[sl (eL eExt) e.2.2.2.2.2.2.2.1,sl eS e.2.2.2.2.2.2.2.2.1,I e.2.2.2.2.2.2.2.2.2.1,I e.2.2.2.2.2.2.2.2.2.2.1,I e.2.2.2.2.2.2.2.2.2.2.2.1,sl eQuery e.2.2.2.2.2.2.2.2.2.2.2.2.1]]⟩),(1000,⟨2,true,[[I e.2.2.2.2.2.2.2.2.2.2.2.2.2.1,I e.2.2.2.2.2.2.2.2.2.2.2.2.2.2]]⟩),(1002,⟨2,true,[[I 0,I 0]]⟩),(2000,⟨2,false,rws eExt e.1⟩)]⟩):ah×St)) (fun e=>(.exit 0,⟨[(0,.ptr 0 0 0 1),(1,I kind2),(4,.fn 188 [.ptr 1 0 0 1,.ptr 2 0 0 1,.ptr 3 0 0 1]),(7,.ptr 1000 0 0 1),(11,.ptr 1002 0 0 1),(13,.sl 2000 0 e.1.length),(18,sl (eL eExt) t),(19,I t2),(20,I e.2.1),(21,B e.2.2.1)],cG c14 c15 e.1 e.2.2.2.1 e.2.2.2.2.1 e.2.2.2.2.2.1 e.2.2.2.2.2.2.1 e.2.2.2.2.2.2.2.1 e.2.2.2.2.2.2.2.2.1 e.2.2.2.2.2.2.2.2.2.1 e.2.2.2.2.2.2.2.2.2.2.1 e.2.2.2.2.2.2.2.2.2.2.2.1 e.2.2.2.2.2.2.2.2.2.2.2.2.1 e.2.2.2.2.2.2.2.2.2.2.2.2.2.1 e.2.2.2.2.2.2.2.2.2.2.2.2.2.2.1 e.2.2.2.2.2.2.2.2.2.2.2.2.2.2.2⟩))
theorem jl {kind2 t t2 c14 c15 s e} (h:Loop (am kind2 t t2 c14 c15) s=some e):aq tab ow (.close [6003,8006,10002,11001,11002,12002,12005,12006,13002]) du (eo kind2 t t2 c14 c15 s)=some (em kind2 t t2 c14 c15 e):=by
 refine lrG (fun s o h=> ?_) h
 obtain ⟨_,_,_,_,_,_,_,_,_,_,_,_,_,_,_⟩:=s
 simp only [am] at h
 simp+decide only [eo,em,cG,du,go_sem,reduceIte,Nat.reduceAdd]
 have d1:= @Eh
 have d2:= @dS
 have d3:= @fx
 have d4:= @pm
 have d5:= @LJ
 have d6:= @DH
 all_goals exact go
def cj (kind:Int) (claim:Ext) (rounds:(List (List Ext))) (m:Source) (m2:Int) (m3:Opening):Option ((List Ext)×Ext×Int×Source×Int×Opening):=
 (Loop (am kind rounds ((rounds.length:Nat):Int) 0 0) (([]:List Ext),0,m.Script,m.At,m.State,m.Count,m2,m3.Rounds,m3.Roots,m3.Last.A,m3.Last.B,m3.Nonce,m3.Queries,claim.A,claim.B)).bind (alt (fun e_2=>
 some (([]:List Ext),(Ext.mk 0 0),e_2.2.1,(Source.mk e_2.2.2.1 e_2.2.2.2.1 e_2.2.2.2.2.1 e_2.2.2.2.2.2.1),e_2.2.2.2.2.2.2.1,(Opening.mk e_2.2.2.2.2.2.2.2.1 e_2.2.2.2.2.2.2.2.2.1 (Ext.mk e_2.2.2.2.2.2.2.2.2.2.1 e_2.2.2.2.2.2.2.2.2.2.2.1) e_2.2.2.2.2.2.2.2.2.2.2.2.1 e_2.2.2.2.2.2.2.2.2.2.2.2.2.1))) (fun e_3=>
 some (e_3.1,(Ext.mk e_3.2.2.2.2.2.2.2.2.2.2.2.2.2.2.1 e_3.2.2.2.2.2.2.2.2.2.2.2.2.2.2.2),0,(Source.mk e_3.2.2.2.1 e_3.2.2.2.2.1 e_3.2.2.2.2.2.1 e_3.2.2.2.2.2.2.1),e_3.2.2.2.2.2.2.2.1,(Opening.mk e_3.2.2.2.2.2.2.2.2.1 e_3.2.2.2.2.2.2.2.2.2.1 (Ext.mk e_3.2.2.2.2.2.2.2.2.2.2.1 e_3.2.2.2.2.2.2.2.2.2.2.2.1) e_3.2.2.2.2.2.2.2.2.2.2.2.2.1 e_3.2.2.2.2.2.2.2.2.2.2.2.2.2.1))))
theorem ke {kind claim rounds m m2 m3 r} (h:cj kind claim rounds m m2 m3=some r):Call tab ow 187 [.ptr 0 0 0 1,I kind,.agg [I claim.A,I claim.B],sl (eL eExt) rounds,.fn 188 [.ptr 1 0 0 1,.ptr 2 0 0 1,.ptr 3 0 0 1]] [⟨4,true,[[sl eExt m.Script,I m.At,S m.State,I m.Count]]⟩,⟨1,true,[[I m2]]⟩,⟨1,true,[[.ptr 0 0 0 1]]⟩,⟨6,true,[[sl (eL eExt) m3.Rounds,sl eS m3.Roots,I m3.Last.A,I m3.Last.B,I m3.Nonce,sl eQuery m3.Queries]]⟩]=some (.tup [sl eExt r.1,.agg [I r.2.1.A,I r.2.1.B],I r.2.2.1],[⟨4,true,[[sl eExt r.2.2.2.1.Script,I r.2.2.2.1.At,S r.2.2.2.1.State,I r.2.2.2.1.Count]]⟩,⟨1,true,[[I r.2.2.2.2.1]]⟩,⟨1,true,[[.ptr 0 0 0 1]]⟩,⟨6,true,[[sl (eL eExt) r.2.2.2.2.2.Rounds,sl eS r.2.2.2.2.2.Roots,I r.2.2.2.2.2.Last.A,I r.2.2.2.2.2.Last.B,I r.2.2.2.2.2.Nonce,sl eQuery r.2.2.2.2.2.Queries]]⟩]):=by
 rw [aa (af:=dc) rfl]
 unfold cj at h
 simp+decide only [dc,iL,go_sem,reduceIte,Nat.reduceAdd]
 have d1:= @jl
 all_goals exact go
end
def kZ (b2 t:List Ext) (t2 c c2:Int):Int×Int×Int→Option ((Int×Int×Int)⊕((Int×Bool×Int×Int)))
 | (t3,c3,c4)=>
   br (decide (t3<t2)) (
   (atL t t3).bind fun x=>
   (atL b2 t3).bind fun x2=>
   (bt x x2).bind fun r_2=>
   (I4).bind fun r_3=>
   (dZ r_3 x).bind fun r_4=>
   (I4).bind fun r_5=>
   (atL b2 t3).bind fun x3=>
   (dZ r_5 x3).bind fun r_6=>
   (bt r_4 r_6).bind fun r_7=>
   (cZ r_2 r_7).bind fun r_8=>
   (bt (Ext.mk c3 c4) r_8).bind fun r_9=>
   some (.inl ((wrap .i64 (t3+1)),r_9.A,r_9.B))) (
   some (.inr (t3,decide (t3<t2),c3,c4)))
abbrev Dm (c c2 c3 c4:Int):List (Nat×Blk):=[(1000,⟨2,true,[[I c,I c2]]⟩),(2001,⟨2,true,[[I c3,I c4]]⟩)]
abbrev KI (b2 t:List Ext) (t2 c c2:Int) (s:Int×Int×Int):St:=⟨[(1,sl eExt b2),(4,.ptr 1000 0 0 1),(5,.ptr 2001 0 0 1),(9,sl eExt t),(10,I t2),(11,I s.1)],Dm c c2 s.2.1 s.2.2⟩
abbrev Lm (b2 t:List Ext) (t2 c c2:Int):(Int×Bool×Int×Int)→ah×St:=fun e=>(.exit 0,⟨[(1,sl eExt b2),(4,.ptr 1000 0 0 1),(5,.ptr 2001 0 0 1),(9,sl eExt t),(10,I t2),(11,I e.1),(12,B e.2.1)],Dm c c2 e.2.2.1 e.2.2.2⟩)
theorem Z2 {b2 t t2 c c2 s e} (h:Loop (kZ b2 t t2 c c2) s=some e):aq tab ow (.close [5003,6006,6007,6009,6010,6015,6016,6017,6018]) Ds (KI b2 t t2 c c2 s)=some (Lm b2 t t2 c c2 e):=by
 refine lrG (fun s o h=> ?_) h
 obtain ⟨_,_,_⟩:=s
 simp only [kZ] at h
 simp+decide only [KI,Lm,Dm,Ds,go_sem,reduceIte,Nat.reduceAdd]
 have d1:= @cB
 have d2:= @JZ
 have d3:= @io
 have d4:= @dS
 all_goals exact go
def E5 (a b:(List Ext)):Option (Ext):=
 (I4).bind fun r_=>
 (Loop (kZ b a ((a.length:Nat):Int) 0 0) (0,r_.A,r_.B)).bind fun e_=>
 some (Ext.mk e_.2.2.1 e_.2.2.2)
theorem WA {a b r} (h:E5 a b=some r):Call tab ow 189 [sl eExt a,sl eExt b] []=some (.agg [I r.A,I r.B],[]):=by
 rw [aa (af:=F6) rfl]
 unfold E5 at h
 simp+decide only [F6,Wz,go_sem,reduceIte,Nat.reduceAdd]
 have d1:= @JZ
 have d2:= @Z2
 all_goals exact go
def w5 (h_:(List UInt8)):Option (Bool):=
 (oY h_).bind fun r_=>
 some (!r_)
theorem VI {h_ r} (h:w5 h_=some r):Call tab ow 340 [S h_] []=some (B r,[]):=by
 rw [aa (af:=uj) rfl]
 unfold w5 at h
 simp+decide only [uj,Iy,go_sem,reduceIte,Nat.reduceAdd]
 have d1:= @xK
 all_goals exact go
def bn (s2:List (List UInt8)) (t:Int):Int→Option ((Int)⊕(Int⊕(Int×Bool)))
 |t2=>
  br (decide (t2<t)) (
  (atL s2 t2).bind fun x=>
  (w5 x).bind fun r_=>
  br r_ (
  some (.inr (.inl t2))) (
  some (.inl (wrap .i64 (t2+1))))) (
  some (.inr (.inr (t2,decide (t2<t)))))
abbrev dq (s2:List (List UInt8)) (t s:Int):St:=⟨[(0,sl eS s2),(1,.fn 340 []),(7,I t),(8,I s)],[]⟩
abbrev dp (s2:List (List UInt8)) (t:Int):(Int⊕(Int×Bool))→ah×St:=alt (fun e=>((.ret,⟨[(4,I e)],[]⟩):ah×St)) (fun e=>(.exit 0,⟨[(0,sl eS s2),(1,.fn 340 []),(7,I t),(8,I e.1),(9,B e.2)],[]⟩))
theorem gP {s2 t s e} (h:Loop (bn s2 t) s=some e):aq tab ow (.close [5005]) bw (dq s2 t s)=some (dp s2 t e):=by
 refine lrG (fun s o h=> ?_) h
 simp only [bn] at h
 simp+decide only [dq,dp,bw,go_sem,reduceIte,Nat.reduceAdd]
 have d1:= @VI
 all_goals exact go
def bC (s:(List (List UInt8))):Option (Int):=
 (Loop (bn s ((s.length:Nat):Int)) 0).bind (alt (fun e_2=>
 some e_2) (fun e_3=>
 some (-1:Int)))
theorem i6 {s r} (h:bC s=some r):Call tab ow 301 [sl eS s,.fn 340 []] []=some (I r,[]):=by
 rw [aa (af:=bg) rfl]
 unfold bC at h
 simp+decide only [bg,dk,go_sem,reduceIte,Nat.reduceAdd]
 have d1:= @gP
 all_goals exact go
def aQ (s:(List (List UInt8))):Option (Bool):=
 (bC s).bind fun r_=>
 some (decide (r_≥0))
theorem gr {s r} (h:aQ s=some r):Call tab ow 205 [sl eS s,.fn 340 []] []=some (B r,[]):=by
 rw [aa (af:=aT) rfl]
 unfold aQ at h
 simp+decide only [aT,cM,go_sem,reduceIte,Nat.reduceAdd]
 have d1:= @i6
 all_goals exact go
section
theorem XV:mkR 2002 []=rws eS []:=rfl
attribute [local go_sem] XV
theorem Ya:mkR 9004 []=rws eS []:=rfl
attribute [local go_sem] Ya
def j1 (i2:Int) (t:List (List UInt8)) (t2:Int):(List (List UInt8))×Int→Option (((List (List UInt8))×Int)⊕(((List (List UInt8))×Int×Bool)))
 | (l,t3)=>
   br (decide (t3<t2)) (
   (atL t t3).bind fun x=>
   br (decide (0≤t3)) (
   br (decide (t3.toNat<l.length)) (
   (l[t3.toNat]?).bind fun x2=>
   (wo x2).bind fun r_2=>
   br (decide (0≤t3)) (
   br ((bp .i64 (aJ .i64 i2 t3) 1)==1) (
   (mG x r_2).bind fun r_3=>
   br (bW ((l++([r_3]:List (List UInt8))).length) 16) (
   some (.inl ((l++([r_3]:List (List UInt8))),(wrap .i64 (t3+1))))) none) (
   (mG r_2 x).bind fun r_4=>
   br (bW ((l++([r_4]:List (List UInt8))).length) 16) (
   some (.inl ((l++([r_4]:List (List UInt8))),(wrap .i64 (t3+1))))) none)) none) none) none) (
   some (.inr (l,t3,decide (t3<t2))))
abbrev Ik (i2:Int) (t:List (List UInt8)) (t2:Int) (s:(List (List UInt8))×Int):St:=⟨[(0,I i2),(7,.sl 2002 0 s.1.length),(14,sl eS t),(15,I t2),(16,I s.2)],[(2002,⟨1,false,rws eS s.1⟩)]⟩
abbrev Hu (i2:Int) (t:List (List UInt8)) (t2:Int):((List (List UInt8))×Int×Bool)→ah×St:=fun e=>(.exit 0,⟨[(0,I i2),(7,.sl 2002 0 e.1.length),(14,sl eS t),(15,I t2),(16,I e.2.1),(17,B e.2.2)],[(2002,⟨1,false,rws eS e.1⟩)]⟩)
theorem Uj {i2 t t2 s e} (h:Loop (j1 i2 t t2) s=some e):aq tab ow (.close [6004,9003,9004,9005]) zW (Ik i2 t t2 s)=some (Hu i2 t t2 e):=by
 refine lrG (fun s o h=> ?_) h
 obtain ⟨_,_⟩:=s
 simp only [j1] at h
 simp+decide only [Ik,Hu,zW,go_sem,reduceIte,Nat.reduceAdd]
 have d1:= @MN
 have d2:= @QJ
 all_goals exact go
def FW (i:Int) (leaf:(List UInt8)) (path:(List (List UInt8))):Option ((List (List UInt8))):=
 (su leaf).bind fun r_=>
 (Loop (j1 i path ((path.length:Nat):Int)) (([r_]:List (List UInt8)),0)).bind fun e_=>
 some e_.1
theorem a2A {i leaf path r} (h:FW i leaf path=some r):Call tab ow 341 [I i,S leaf,sl eS path] []=some (sl eS r,[]):=by
 rw [aa (af:=Bj) rfl]
 unfold FW at h
 simp+decide only [Bj,Q0,go_sem,reduceIte,Nat.reduceAdd]
 have d1:= @RA
 have d2:= @Uj
 all_goals exact go
end
def Bt (root:(List UInt8)) (n i:Int) (leaf:(List UInt8)) (path:(List (List UInt8))):Option (Bool):=
 br (decide (((leaf.length:Nat):Int)>64)) (
 some false) (
 (Ew n).bind fun r_=>
 br (((path.length:Nat):Int) !=r_) (
 some false) (
 (aQ path).bind fun r_2=>
 br r_2 (
 some false) (
 (FW i leaf path).bind fun r_3=>
 (atL r_3 (wrap .i64 (((r_3.length:Nat):Int)-1))).bind fun x=>
 (wo x).bind fun r_4=>
 some (r_4==root))))
theorem a2o {root n i leaf path r} (h:Bt root n i leaf path=some r):Call tab ow 296 [S root,I n,I i,S leaf,sl eS path] []=some (B r,[]):=by
 rw [aa (af:=By) rfl]
 unfold Bt at h
 simp+decide only [By,PG,go_sem,reduceIte,Nat.reduceAdd]
 have d1:= @PP
 have d2:= @gr
 have d3:= @a2A
 have d4:= @MN
 all_goals exact go
section
theorem JH:mkR 8006 []=rws eExt []:=rfl
attribute [local go_sem] JH
def cF (t:List Ext) (t2:Int) (t4:List (List UInt8)) (t5:Int) (c:List (List Ext)) (c2:List (List UInt8)) (c3 c4 c5:Int) (c6:List Query) (c7:List Ext) (c8:List (List (List UInt8))):Int×Int×Int×Int→Option ((Int×Int×Int×Int)⊕((Int×Int×Int×Int×Int×Int)⊕(Int×Int×Int×Int×Int×Int×Int×Int)⊕(Int×Int×Bool×Int×Int)))
 | (t3,t6,c9,c10)=>
   br (decide (t6<t5)) (
   (atL t4 t6).bind fun x=>
   br (decide (0≤t6)) (
   br (decide ((wrap .i64 ((aJ .i64 t2 t6).tdiv 2))≠0)) (
   (atL c7 (wrap .i64 (2*t6))).bind fun x2=>
   (atL c7 (wrap .i64 ((wrap .i64 (2*t6))+1))).bind fun x3=>
   (mT ([x2,x3]:List Ext)).bind fun r_=>
   (atL c8 t6).bind fun x4=>
   (Bt x (wrap .i64 ((aJ .i64 t2 t6).tdiv 2)) (t3.tmod (wrap .i64 ((aJ .i64 t2 t6).tdiv 2))) r_ x4).bind fun r_2=>
   br (!r_2) (
   some (.inr (.inl (c9,c10,x2.A,x2.B,x3.A,x3.B)))) (
   br (decide (t3≥(wrap .i64 ((aJ .i64 t2 t6).tdiv 2)))) (
   br (decide (t6>0)) (
   br (x3.A==c9) (
   br (x3.B==c10) (
   (atL t t6).bind fun x5=>
   (j5 (aJ .i64 t2 t6) (t3.tmod (wrap .i64 ((aJ .i64 t2 t6).tdiv 2))) x2 x3 x5).bind fun r_3=>
   some (.inl ((t3.tmod (wrap .i64 ((aJ .i64 t2 t6).tdiv 2))),(wrap .i64 (t6+1)),r_3.A,r_3.B))) (
   some (.inr (.inr (.inl (c9,c10,x2.A,x2.B,x3.A,x3.B,x3.A,x3.B)))))) (
   some (.inr (.inr (.inl (c9,c10,x2.A,x2.B,x3.A,x3.B,x3.A,x3.B)))))) (
   (atL t t6).bind fun x6=>
   (j5 (aJ .i64 t2 t6) (t3.tmod (wrap .i64 ((aJ .i64 t2 t6).tdiv 2))) x2 x3 x6).bind fun r_4=>
   some (.inl ((t3.tmod (wrap .i64 ((aJ .i64 t2 t6).tdiv 2))),(wrap .i64 (t6+1)),r_4.A,r_4.B)))) (
   br (decide (t6>0)) (
   br (x2.A==c9) (
   br (x2.B==c10) (
   (atL t t6).bind fun x7=>
   (j5 (aJ .i64 t2 t6) (t3.tmod (wrap .i64 ((aJ .i64 t2 t6).tdiv 2))) x2 x3 x7).bind fun r_5=>
   some (.inl ((t3.tmod (wrap .i64 ((aJ .i64 t2 t6).tdiv 2))),(wrap .i64 (t6+1)),r_5.A,r_5.B))) (
   some (.inr (.inr (.inl (c9,c10,x2.A,x2.B,x3.A,x3.B,x2.A,x2.B)))))) (
   some (.inr (.inr (.inl (c9,c10,x2.A,x2.B,x3.A,x3.B,x2.A,x2.B)))))) (
   (atL t t6).bind fun x8=>
   (j5 (aJ .i64 t2 t6) (t3.tmod (wrap .i64 ((aJ .i64 t2 t6).tdiv 2))) x2 x3 x8).bind fun r_6=>
   some (.inl ((t3.tmod (wrap .i64 ((aJ .i64 t2 t6).tdiv 2))),(wrap .i64 (t6+1)),r_6.A,r_6.B)))))) none) none) (
   some (.inr (.inr (.inr (t3,t6,decide (t6<t5),c9,c10)))))
abbrev na (c:List (List Ext)) (c2:List (List UInt8)) (c3 c4 c5:Int) (c6:List Query) (c7:List Ext) (c8:List (List (List UInt8))) (c9 c10:Int):List (Nat×Blk):=[(1000,⟨6,true,[[sl (eL eExt) c,sl eS c2,I c3,I c4,I c5,sl eQuery c6]]⟩),(1001,⟨2,true,[[sl eExt c7,sl (eL eS) c8]]⟩),(2001,⟨2,true,[[I c9,I c10]]⟩)]
abbrev vM (t:List Ext) (t2:Int) (t4:List (List UInt8)) (t5:Int) (c:List (List Ext)) (c2:List (List UInt8)) (c3 c4 c5:Int) (c6:List Query) (c7:List Ext) (c8:List (List (List UInt8))) (s:Int×Int×Int×Int):St:=⟨[(1,sl eExt t),(2,I t2),(3,I s.1),(10,.ptr 1000 0 0 1),(11,.ptr 1001 0 0 1),(13,.ptr 2001 0 0 1),(22,sl eS t4),(23,I t5),(24,I s.2.1)],na c c2 c3 c4 c5 c6 c7 c8 s.2.2.1 s.2.2.2⟩
abbrev wJ (t:List Ext) (t2:Int) (t4:List (List UInt8)) (t5:Int) (c:List (List Ext)) (c2:List (List UInt8)) (c3 c4 c5:Int) (c6:List Query) (c7:List Ext) (c8:List (List (List UInt8))):((Int×Int×Int×Int×Int×Int)⊕(Int×Int×Int×Int×Int×Int×Int×Int)⊕(Int×Int×Bool×Int×Int))→ah×St:=alt (fun e=>((.ret,⟨[(12,I 9)],[(1000,⟨6,true,[[sl (eL eExt) c,sl eS c2,I c3,I c4,I c5,sl eQuery c6]]⟩),(1001,⟨2,true,[[sl eExt c7,sl (eL eS) c8]]⟩),(2001,⟨2,true,[[I e.1,I e.2.1]]⟩),(7017,⟨2,true,[[I e.2.2.1,I e.2.2.2.1]]⟩),(7018,⟨2,true,[[I e.2.2.2.2.1,I e.2.2.2.2.2]]⟩),(8006,is)]⟩):ah×St)) (alt (fun e=>((.ret,⟨[(12,I 12)],[(1000,⟨6,true,[[sl (eL eExt) c,sl eS c2,I c3,I c4,I c5,sl eQuery c6]]⟩),(1001,⟨2,true,[[sl eExt c7,sl (eL eS) c8]]⟩),(2001,⟨2,true,[[I e.1,I e.2.1]]⟩),(7017,⟨2,true,[[I e.2.2.1,I e.2.2.2.1]]⟩),(7018,⟨2,true,[[I e.2.2.2.2.1,I e.2.2.2.2.2.1]]⟩),(8006,is),(10001,⟨2,true,[[I e.2.2.2.2.2.2.1,I e.2.2.2.2.2.2.2]]⟩)]⟩):ah×St)) (fun e=>(.exit 0,⟨[(1,sl eExt t),(2,I t2),(3,I e.1),(10,.ptr 1000 0 0 1),(11,.ptr 1001 0 0 1),(13,.ptr 2001 0 0 1),(22,sl eS t4),(23,I t5),(24,I e.2.1),(25,B e.2.2.1)],na c c2 c3 c4 c5 c6 c7 c8 e.2.2.2.1 e.2.2.2.2⟩)))
theorem H5 {t t2 t4 t5 c c2 c3 c4 c5 c6 c7 c8 s e} (h:Loop (cF t t2 t4 t5 c c2 c3 c4 c5 c6 c7 c8) s=some e):aq tab ow (.close [7017,7018,8006,8007,8014,10001,15008]) mV (vM t t2 t4 t5 c c2 c3 c4 c5 c6 c7 c8 s)=some (wJ t t2 t4 t5 c c2 c3 c4 c5 c6 c7 c8 e):=by
 refine lrG (fun s o h=> ?_) h
 obtain ⟨_,_,_,_⟩:=s
 simp only [cF] at h
 simp+decide only [vM,wJ,na,mV,go_sem,reduceIte,Nat.reduceAdd]
 have d1:= @Ez
 have d2:= @a2o
 have d3:= @TX
 all_goals exact go
def qZ (ListtoArray:(List (List UInt8))) (a:(List Ext)) (a2 a3:Int) (a4:Opening) (a5:Query):Option (Int):=
 (Loop (cF a a2 ListtoArray ((ListtoArray.length:Nat):Int) a4.Rounds a4.Roots a4.Last.A a4.Last.B a4.Nonce a4.Queries a5.Pairs a5.Paths) (a3,0,0,0)).bind (alt (fun e_2=>
 some 9) (alt (fun e_3=>
 some 12) (fun e_4=>
 br (e_4.2.2.2.1==a4.Last.A) (
 br (e_4.2.2.2.2==a4.Last.B) (
 some 0) (
 some 13)) (
 some 13))))
theorem MS {ListtoArray a a2 a3 a4 a5 r} (h:qZ ListtoArray a a2 a3 a4 a5=some r):Call tab ow 191 [sl eS ListtoArray,sl eExt a,I a2,I a3,.agg [sl (eL eExt) a4.Rounds,sl eS a4.Roots,I a4.Last.A,I a4.Last.B,I a4.Nonce,sl eQuery a4.Queries],.agg [sl eExt a5.Pairs,sl (eL eS) a5.Paths]] []=some (I r,[]):=by
 rw [aa (af:=m0) rfl]
 unfold qZ at h
 simp+decide only [m0,zS,go_sem,reduceIte,Nat.reduceAdd]
 have d1:= @H5
 all_goals exact go
end
section
theorem FH:mkR 8003 []=rws eExt []:=rfl
attribute [local go_sem] FH
theorem FR:mkR 12006 []=rws eS []:=rfl
attribute [local go_sem] FR
def cA (l:List (List UInt8)) (t:List Ext) (t2:Int) (t3:List Int) (t4:Int) (c:List Ext) (c2:Int) (c3:List UInt8) (c4 c5 c6 c7 c8 c9:Int) (c10:List (List Ext)) (c11:List (List UInt8)) (c12 c13 c14:Int) (c15:List Query) (c16 c17 c18:Int):Int→Option ((Int)⊕(Int⊕(Int×Bool)))
 |t5=>
  br (decide (t5<t4)) (
  (atL t3 t5).bind fun x=>
  (atL c15 t5).bind fun x2=>
  (qZ l t t2 x (Opening.mk c10 c11 (Ext.mk c12 c13) c14 c15) x2).bind fun r_10=>
  br (r_10 !=0) (
  some (.inr (.inl r_10))) (
  some (.inl (wrap .i64 (t5+1))))) (
  some (.inr (.inr (t5,decide (t5<t4)))))
abbrev gV (l:List (List UInt8)) (c:List Ext) (c2:Int) (c3:List UInt8) (c4 c5 c6 c7 c8 c9:Int) (c10:List (List Ext)) (c11:List (List UInt8)) (c12 c13 c14:Int) (c15:List Query) (c16 c17 c18:Int):List (Nat×Blk):=[(0,⟨4,true,[[sl eExt c,I c2,S c3,I c4]]⟩),(1000,⟨1,true,[[.ptr 0 0 0 1]]⟩),(1001,⟨2,true,[[I c5,I c6]]⟩),(1002,⟨3,true,[[I c7,I c8,I c9]]⟩),(1003,⟨6,true,[[sl (eL eExt) c10,sl eS c11,I c12,I c13,I c14,sl eQuery c15]]⟩),(2002,⟨1,true,[[I c16]]⟩),(3010,⟨2,true,[[I c17,I c18]]⟩),(8003,is),(12006,⟨1,false,rws eS l⟩)]
abbrev tq (l:List (List UInt8)) (t:List Ext) (t2:Int) (t3:List Int) (t4:Int) (c:List Ext) (c2:Int) (c3:List UInt8) (c4 c5 c6 c7 c8 c9:Int) (c10:List (List Ext)) (c11:List (List UInt8)) (c12 c13 c14:Int) (c15:List Query) (c16 c17 c18 s:Int):St:=⟨[(11,.ptr 1003 0 0 1),(14,sl eExt t),(17,I t2),(18,.sl 12006 0 l.length),(82,sl eI t3),(83,I t4),(84,I s)],gV l c c2 c3 c4 c5 c6 c7 c8 c9 c10 c11 c12 c13 c14 c15 c16 c17 c18⟩
abbrev sa (l:List (List UInt8)) (t:List Ext) (t2:Int) (t3:List Int) (t4:Int) (c:List Ext) (c2:Int) (c3:List UInt8) (c4 c5 c6 c7 c8 c9:Int) (c10:List (List Ext)) (c11:List (List UInt8)) (c12 c13 c14:Int) (c15:List Query) (c16 c17 c18:Int):(Int⊕(Int×Bool))→ah×St:=alt (fun e=>((.ret,⟨[(12,I e)],gV l c c2 c3 c4 c5 c6 c7 c8 c9 c10 c11 c12 c13 c14 c15 c16 c17 c18⟩):ah×St)) (fun e=>(.exit 1,⟨[(11,.ptr 1003 0 0 1),(14,sl eExt t),(17,I t2),(18,.sl 12006 0 l.length),(82,sl eI t3),(83,I t4),(84,I e.1),(85,B e.2)],gV l c c2 c3 c4 c5 c6 c7 c8 c9 c10 c11 c12 c13 c14 c15 c16 c17 c18⟩))
theorem DQ {l t t2 t3 t4 c c2 c3 c4 c5 c6 c7 c8 c9 c10 c11 c12 c13 c14 c15 c16 c17 c18 s e} (h:Loop (cA l t t2 t3 t4 c c2 c3 c4 c5 c6 c7 c8 c9 c10 c11 c12 c13 c14 c15 c16 c17 c18) s=some e):aq tab ow (.close [16010]) jR (tq l t t2 t3 t4 c c2 c3 c4 c5 c6 c7 c8 c9 c10 c11 c12 c13 c14 c15 c16 c17 c18 s)=some (sa l t t2 t3 t4 c c2 c3 c4 c5 c6 c7 c8 c9 c10 c11 c12 c13 c14 c15 c16 c17 c18 e):=by
 refine lrG (fun s o h=> ?_) h
 simp only [cA] at h
 simp+decide only [tq,sa,gV,jR,go_sem,reduceIte,Nat.reduceAdd]
 have d1:= @MS
 all_goals exact go
def j8 (a:(List UInt8)) (a2:(List Ext)) (a3:Ext) (a4:Setting) (a5:Opening) (m:Source):Option (Int×Source):=
 (cj 1 a3 a5.Rounds m ((a2.length:Nat):Int) a5).bind fun r_=>
 br (r_.2.2.1 !=0) (
 some (r_.2.2.1,r_.2.2.2.1)) (
 (E5 r_.1 a2).bind fun r_2=>
 (bt r_.2.2.2.2.2.Last r_2).bind fun r_3=>
 br (r_3.A==r_.2.1.A) (
 br (r_3.B==r_.2.1.B) (
 (bo ([r_.2.2.2.2.2.Last]:List Ext) r_.2.2.2.1).bind fun r_4=>
 (jX r_4 a4.Grind r_.2.2.2.2.2.Nonce).bind fun r_5=>
 br (!r_5) (
 some (14,r_4)) (
 (Ay r_.2.2.2.2.2.Nonce).bind fun r_6=>
 (cX r_6 r_4).bind fun r_7=>
 br (decide (0≤(wrap .i64 (r_.2.2.2.2.1+a4.Rate)))) (
 br (bW ((([a]:List (List UInt8))++r_.2.2.2.2.2.Roots).length) 16) (
 (fl a4.Queries r_7).bind fun r_8=>
 (B2 r_8.1 (wrap .i64 ((aB .i64 1 (wrap .i64 (r_.2.2.2.2.1+a4.Rate))).tdiv 2))).bind fun r_9=>
 (Loop (cA (([a]:List (List UInt8))++r_.2.2.2.2.2.Roots) r_.1 (aB .i64 1 (wrap .i64 (r_.2.2.2.2.1+a4.Rate))) r_9 ((r_9.length:Nat):Int) r_8.2.Script r_8.2.At r_8.2.State r_8.2.Count a3.A a3.B a4.Rate a4.Queries a4.Grind r_.2.2.2.2.2.Rounds r_.2.2.2.2.2.Roots r_.2.2.2.2.2.Last.A r_.2.2.2.2.2.Last.B r_.2.2.2.2.2.Nonce r_.2.2.2.2.2.Queries r_.2.2.2.2.1 r_.2.1.A r_.2.1.B) 0).bind (alt (fun e_2=>
 some (e_2,r_8.2)) (fun e_3=>
 some (0,r_8.2)))) none) none)) (
 some (11,r_.2.2.2.1))) (
 some (11,r_.2.2.2.1)))
theorem GH {a a2 a3 a4 a5 m r} (h:j8 a a2 a3 a4 a5 m=some r):Call tab ow 92 [.ptr 0 0 0 1,S a,sl eExt a2,.agg [I a3.A,I a3.B],.agg [I a4.Rate,I a4.Queries,I a4.Grind],.agg [sl (eL eExt) a5.Rounds,sl eS a5.Roots,I a5.Last.A,I a5.Last.B,I a5.Nonce,sl eQuery a5.Queries]] [⟨4,true,[[sl eExt m.Script,I m.At,S m.State,I m.Count]]⟩]=some (I r.1,[⟨4,true,[[sl eExt r.2.Script,I r.2.At,S r.2.State,I r.2.Count]]⟩]):=by
 rw [aa (af:=ji) rfl]
 unfold j8 at h
 simp+decide only [ji,w9,go_sem,reduceIte,Nat.reduceAdd]
 have d1:= @ke
 have d2:= @WA
 have d3:= @cB
 have d4:= @fx
 have d5:= @IT
 have d6:= @F8
 have d7:= @iG
 have d8:= @wR
 have d9:= @XB
 have d10:= @DQ
 all_goals exact go
end
def ex (t:Int) (c:List (List Ext)) (c2:List (List UInt8)) (c3 c4 c5:Int) (c6:List Query) (c7 c8 c9:Int):Int→Option ((Int)⊕(Unit⊕(Int×Bool)))
 |t2=>
  br (decide (t2<t)) (
  (atL c t2).bind fun x=>
  br (((x.length:Nat):Int) !=3) (
  some (.inr (.inl ()))) (
  (atL c t2).bind fun x2=>
  (gO x2).bind fun r_5=>
  br (!r_5) (
  some (.inr (.inl ()))) (
  br (decide (t2>0)) (
  (atL c2 (wrap .i64 (t2-1))).bind fun x3=>
  br (((x3.length:Nat):Int) !=32) (
  some (.inr (.inl ()))) (
  some (.inl (wrap .i64 (t2+1))))) (
  some (.inl (wrap .i64 (t2+1))))))) (
  some (.inr (.inr (t2,decide (t2<t)))))
abbrev kE (c:List (List Ext)) (c2:List (List UInt8)) (c3 c4 c5:Int) (c6:List Query) (c7 c8 c9:Int):List (Nat×Blk):=[(1000,⟨6,true,[[sl (eL eExt) c,sl eS c2,I c3,I c4,I c5,sl eQuery c6]]⟩),(1001,⟨3,true,[[I c7,I c8,I c9]]⟩)]
abbrev zq (t:Int) (c:List (List Ext)) (c2:List (List UInt8)) (c3 c4 c5:Int) (c6:List Query) (c7 c8 c9 s:Int):St:=⟨[(1,I t),(3,.ptr 1000 0 0 1),(5,.ptr 1001 0 0 1),(7,I s)],kE c c2 c3 c4 c5 c6 c7 c8 c9⟩
abbrev zb (t:Int) (c:List (List Ext)) (c2:List (List UInt8)) (c3 c4 c5:Int) (c6:List Query) (c7 c8 c9:Int):(Unit⊕(Int×Bool))→ah×St:=alt (fun e=>((.ret,⟨[(6,B false)],kE c c2 c3 c4 c5 c6 c7 c8 c9⟩):ah×St)) (fun e=>(.exit 0,⟨[(1,I t),(3,.ptr 1000 0 0 1),(5,.ptr 1001 0 0 1),(7,I e.1),(57,B e.2)],kE c c2 c3 c4 c5 c6 c7 c8 c9⟩))
theorem IX {t c c2 c3 c4 c5 c6 c7 c8 c9 s e} (h:Loop (ex t c c2 c3 c4 c5 c6 c7 c8 c9) s=some e):aq tab ow (.close [7013]) pw (zq t c c2 c3 c4 c5 c6 c7 c8 c9 s)=some (zb t c c2 c3 c4 c5 c6 c7 c8 c9 e):=by
 refine lrG (fun s o h=> ?_) h
 simp only [ex] at h
 simp+decide only [zq,zb,kE,pw,go_sem,reduceIte,Nat.reduceAdd]
 have d1:= @lc
 all_goals exact go
def ez (t8 t9 t10:Int) (c30:List (List Ext)) (c31:List (List UInt8)) (c32 c33 c34:Int) (c35:List Query) (c36 c37 c38:Int) (c39:List Ext) (c40:List (List (List UInt8))):Int→Option ((Int)⊕(Unit⊕(Int×Bool)))
 |t11=>
  (atL c40 t10).bind fun x6=>
  br (decide (t11<((x6.length:Nat):Int))) (
  (atL c40 t10).bind fun x7=>
  (atL x7 t11).bind fun x8=>
  br (((x8.length:Nat):Int) !=32) (
  some (.inr (.inl ()))) (
  some (.inl (wrap .i64 (t11+1))))) (
  some (.inr (.inr (t11,decide (t11<((x6.length:Nat):Int))))))
abbrev kj (c30:List (List Ext)) (c31:List (List UInt8)) (c32 c33 c34:Int) (c35:List Query) (c36 c37 c38:Int) (c39:List Ext) (c40:List (List (List UInt8))):List (Nat×Blk):=[(1000,⟨6,true,[[sl (eL eExt) c30,sl eS c31,I c32,I c33,I c34,sl eQuery c35]]⟩),(1001,⟨3,true,[[I c36,I c37,I c38]]⟩),(12005,⟨2,true,[[sl eExt c39,sl (eL eS) c40]]⟩)]
abbrev yA (t8 t9 t10:Int) (c30:List (List Ext)) (c31:List (List UInt8)) (c32 c33 c34:Int) (c35:List Query) (c36 c37 c38:Int) (c39:List Ext) (c40:List (List (List UInt8))) (s:Int):St:=⟨[(1,I t8),(3,.ptr 1000 0 0 1),(5,.ptr 1001 0 0 1),(8,I t9),(9,.ptr 12005 0 0 1),(10,I t10),(11,I s)],kj c30 c31 c32 c33 c34 c35 c36 c37 c38 c39 c40⟩
abbrev zm (t8 t9 t10:Int) (c30:List (List Ext)) (c31:List (List UInt8)) (c32 c33 c34:Int) (c35:List Query) (c36 c37 c38:Int) (c39:List Ext) (c40:List (List (List UInt8))):(Unit⊕(Int×Bool))→ah×St:=alt (fun e=>((.ret,⟨[(6,B false)],kj c30 c31 c32 c33 c34 c35 c36 c37 c38 c39 c40⟩):ah×St)) (fun e=>(.exit 6,⟨[(1,I t8),(3,.ptr 1000 0 0 1),(5,.ptr 1001 0 0 1),(8,I t9),(9,.ptr 12005 0 0 1),(10,I t10),(11,I e.1),(147,B e.2)],kj c30 c31 c32 c33 c34 c35 c36 c37 c38 c39 c40⟩))
theorem JC {t8 t9 t10 c30 c31 c32 c33 c34 c35 c36 c37 c38 c39 c40 s e} (h:Loop (ez t8 t9 t10 c30 c31 c32 c33 c34 c35 c36 c37 c38 c39 c40) s=some e):aq tab ow (.close []) mM (yA t8 t9 t10 c30 c31 c32 c33 c34 c35 c36 c37 c38 c39 c40 s)=some (zm t8 t9 t10 c30 c31 c32 c33 c34 c35 c36 c37 c38 c39 c40 e):=by
 refine lrG (fun s o h=> ?_) h
 simp only [ez] at h
 simp+decide only [yA,zm,kj,mM,go_sem,reduceIte,Nat.reduceAdd]
 all_goals exact go
def eD (t5 t6:Int) (c19:List (List Ext)) (c20:List (List UInt8)) (c21 c22 c23:Int) (c24:List Query) (c25 c26 c27:Int) (c28:List Ext) (c29:List (List (List UInt8))):Int→Option ((Int)⊕(Unit⊕(Int×Bool)))
 |t7=>
  br (decide (t7<t5)) (
  (atL c29 t7).bind fun x5=>
  br (((x5.length:Nat):Int) !=(wrap .i64 ((wrap .i64 ((wrap .i64 (t5+c25))-1))-t7))) (
  some (.inr (.inl ()))) (
  (Loop (ez t5 t6 t7 c19 c20 c21 c22 c23 c24 c25 c26 c27 c28 c29) 0).bind (alt (fun e_5=>
  some (.inr (.inl ()))) (fun e_6=>
  some (.inl (wrap .i64 (t7+1))))))) (
  some (.inr (.inr (t7,decide (t7<t5)))))
abbrev kx (c19:List (List Ext)) (c20:List (List UInt8)) (c21 c22 c23:Int) (c24:List Query) (c25 c26 c27:Int) (c28:List Ext) (c29:List (List (List UInt8))):List (Nat×Blk):=[(1000,⟨6,true,[[sl (eL eExt) c19,sl eS c20,I c21,I c22,I c23,sl eQuery c24]]⟩),(1001,⟨3,true,[[I c25,I c26,I c27]]⟩),(12005,⟨2,true,[[sl eExt c28,sl (eL eS) c29]]⟩)]
abbrev zn (t5 t6:Int) (c19:List (List Ext)) (c20:List (List UInt8)) (c21 c22 c23:Int) (c24:List Query) (c25 c26 c27:Int) (c28:List Ext) (c29:List (List (List UInt8))) (s:Int):St:=⟨[(1,I t5),(3,.ptr 1000 0 0 1),(5,.ptr 1001 0 0 1),(8,I t6),(9,.ptr 12005 0 0 1),(10,I s)],kx c19 c20 c21 c22 c23 c24 c25 c26 c27 c28 c29⟩
abbrev yB (t5 t6:Int) (c19:List (List Ext)) (c20:List (List UInt8)) (c21 c22 c23:Int) (c24:List Query) (c25 c26 c27:Int) (c28:List Ext) (c29:List (List (List UInt8))):(Unit⊕(Int×Bool))→ah×St:=alt (fun e=>((.ret,⟨[(6,B false)],kx c19 c20 c21 c22 c23 c24 c25 c26 c27 c28 c29⟩):ah×St)) (fun e=>(.exit 4,⟨[(1,I t5),(3,.ptr 1000 0 0 1),(5,.ptr 1001 0 0 1),(8,I t6),(9,.ptr 12005 0 0 1),(10,I e.1),(123,B e.2)],kx c19 c20 c21 c22 c23 c24 c25 c26 c27 c28 c29⟩))
theorem Je {t5 t6 c19 c20 c21 c22 c23 c24 c25 c26 c27 c28 c29 s e} (h:Loop (eD t5 t6 c19 c20 c21 c22 c23 c24 c25 c26 c27 c28 c29) s=some e):aq tab ow (.close []) mL (zn t5 t6 c19 c20 c21 c22 c23 c24 c25 c26 c27 c28 c29 s)=some (yB t5 t6 c19 c20 c21 c22 c23 c24 c25 c26 c27 c28 c29 e):=by
 refine lrG (fun s o h=> ?_) h
 simp only [eD] at h
 simp+decide only [zn,yB,kx,mL,go_sem,reduceIte,Nat.reduceAdd]
 have d1:= @JC
 all_goals exact go
def dE (t3:Int) (c10:List (List Ext)) (c11:List (List UInt8)) (c12 c13 c14:Int) (c15:List Query) (c16 c17 c18:Int):Int→Option ((Int)⊕(((List Ext)×(List (List (List UInt8))))⊕(Int×Bool)))
 |t4=>
  br (decide (t4<((c15.length:Nat):Int))) (
  (atL c15 t4).bind fun x4=>
  br (((x4.Pairs.length:Nat):Int) !=(wrap .i64 (2*t3))) (
  some (.inr (.inl (x4.Pairs,x4.Paths)))) (
  (gO x4.Pairs).bind fun r_6=>
  br (!r_6) (
  some (.inr (.inl (x4.Pairs,x4.Paths)))) (
  br (((x4.Paths.length:Nat):Int) !=t3) (
  some (.inr (.inl (x4.Pairs,x4.Paths)))) (
  (Loop (eD t3 t4 c10 c11 c12 c13 c14 c15 c16 c17 c18 x4.Pairs x4.Paths) 0).bind (alt (fun e_8=>
  some (.inr (.inl (x4.Pairs,x4.Paths)))) (fun e_9=>
  some (.inl (wrap .i64 (t4+1))))))))) (
  some (.inr (.inr (t4,decide (t4<((c15.length:Nat):Int))))))
abbrev pG (c10:List (List Ext)) (c11:List (List UInt8)) (c12 c13 c14:Int) (c15:List Query) (c16 c17 c18:Int):List (Nat×Blk):=[(1000,⟨6,true,[[sl (eL eExt) c10,sl eS c11,I c12,I c13,I c14,sl eQuery c15]]⟩),(1001,⟨3,true,[[I c16,I c17,I c18]]⟩)]
abbrev zo (t3:Int) (c10:List (List Ext)) (c11:List (List UInt8)) (c12 c13 c14:Int) (c15:List Query) (c16 c17 c18 s:Int):St:=⟨[(1,I t3),(3,.ptr 1000 0 0 1),(5,.ptr 1001 0 0 1),(8,I s)],pG c10 c11 c12 c13 c14 c15 c16 c17 c18⟩
abbrev yE (t3:Int) (c10:List (List Ext)) (c11:List (List UInt8)) (c12 c13 c14:Int) (c15:List Query) (c16 c17 c18:Int):(((List Ext)×(List (List (List UInt8))))⊕(Int×Bool))→ah×St:=alt (fun e=>((.ret,⟨[(6,B false)],[(1000,⟨6,true,[[sl (eL eExt) c10,sl eS c11,I c12,I c13,I c14,sl eQuery c15]]⟩),(1001,⟨3,true,[[I c16,I c17,I c18]]⟩),(12005,⟨2,true,[[sl eExt e.1,sl (eL eS) e.2]]⟩)]⟩):ah×St)) (fun e=>(.exit 2,⟨[(1,I t3),(3,.ptr 1000 0 0 1),(5,.ptr 1001 0 0 1),(8,I e.1),(94,B e.2)],pG c10 c11 c12 c13 c14 c15 c16 c17 c18⟩))
theorem Jb {t3 c10 c11 c12 c13 c14 c15 c16 c17 c18 s e} (h:Loop (dE t3 c10 c11 c12 c13 c14 c15 c16 c17 c18) s=some e):aq tab ow (.close [12005,13009]) pJ (zo t3 c10 c11 c12 c13 c14 c15 c16 c17 c18 s)=some (yE t3 c10 c11 c12 c13 c14 c15 c16 c17 c18 e):=by
 refine lrG (fun s o h=> ?_) h
 simp only [dE] at h
 simp+decide only [zo,yE,pG,pJ,go_sem,reduceIte,Nat.reduceAdd]
 have d1:= @lc
 have d2:= @Je
 all_goals exact go
def ph (ListtoArray:Opening) (a:Int) (a2:Setting):Option (Bool):=
 (en a 1 6).bind fun r_=>
 br (!r_) (
 some false) (
 (iS a2).bind fun r_2=>
 br (!r_2) (
 some false) (
 br (((ListtoArray.Rounds.length:Nat):Int) !=a) (
 some false) (
 br (((ListtoArray.Roots.length:Nat):Int) !=(wrap .i64 (a-1))) (
 some false) (
 br (((ListtoArray.Queries.length:Nat):Int) !=a2.Queries) (
 some false) (
 (y4 ListtoArray.Last).bind fun r_3=>
 br (!r_3) (
 some false) (
 (en ListtoArray.Nonce 0 65535).bind fun r_4=>
 br (!r_4) (
 some false) (
 (Loop (ex a ListtoArray.Rounds ListtoArray.Roots ListtoArray.Last.A ListtoArray.Last.B ListtoArray.Nonce ListtoArray.Queries a2.Rate a2.Queries a2.Grind) 0).bind (alt (fun e_2=>
 some false) (fun e_3=>
 (Loop (dE a ListtoArray.Rounds ListtoArray.Roots ListtoArray.Last.A ListtoArray.Last.B ListtoArray.Nonce ListtoArray.Queries a2.Rate a2.Queries a2.Grind) 0).bind (alt (fun e_11=>
 some false) (fun e_12=>
 some true)))))))))))
theorem OZ {ListtoArray a a2 r} (h:ph ListtoArray a a2=some r):Call tab ow 28 [.agg [sl (eL eExt) ListtoArray.Rounds,sl eS ListtoArray.Roots,I ListtoArray.Last.A,I ListtoArray.Last.B,I ListtoArray.Nonce,sl eQuery ListtoArray.Queries],I a,.agg [I a2.Rate,I a2.Queries,I a2.Grind]] []=some (B r,[]):=by
 rw [aa (af:=nE) rfl]
 unfold ph at h
 simp+decide only [nE,BR,go_sem,reduceIte,Nat.reduceAdd]
 have d1:= @s5
 have d2:= @uW
 have d3:= @Q8
 have d4:= @IX
 have d5:= @Jb
 all_goals exact go
def fY (values3:List Ext) (i2 c7 c8 c9 c10 c11 c12:Int):Int×Int×Int×Int→Option ((Int×Int×Int×Int)⊕((Int×Int×Bool×Int×Int)))
 | (d,k,c13,c14)=>
   br (decide (k<((values3.length:Nat):Int))) (
   br (k !=i2) (
   (lN k).bind fun r_=>
   (pa (Ext.mk c7 c8) r_).bind fun r_2=>
   (bN (Ext.mk c13 c14) r_2).bind fun r_3=>
   (t0 i2 k).bind fun r_4=>
   (gB d r_4).bind fun r_5=>
   some (.inl (r_5,(wrap .i64 (k+1)),r_3.A,r_3.B))) (
   some (.inl (d,(wrap .i64 (k+1)),c13,c14)))) (
   some (.inr (d,k,decide (k<((values3.length:Nat):Int)),c13,c14)))
abbrev uV (c7 c8 c9 c10 c11 c12 c13 c14:Int):List (Nat×Blk):=[(1000,⟨2,true,[[I c7,I c8]]⟩),(1001,⟨2,true,[[I c9,I c10]]⟩),(2001,⟨2,true,[[I c11,I c12]]⟩),(6004,⟨2,true,[[I c13,I c14]]⟩)]
abbrev C5 (values3:List Ext) (i2 c7 c8 c9 c10 c11 c12:Int) (s:Int×Int×Int×Int):St:=⟨[(0,sl eExt values3),(3,.ptr 1000 0 0 1),(4,.ptr 1001 0 0 1),(5,.ptr 2001 0 0 1),(6,I i2),(7,.ptr 6004 0 0 1),(8,I s.1),(9,I s.2.1)],uV c7 c8 c9 c10 c11 c12 s.2.2.1 s.2.2.2⟩
abbrev D1 (values3:List Ext) (i2 c7 c8 c9 c10 c11 c12:Int):(Int×Int×Bool×Int×Int)→ah×St:=fun e=>(.exit 2,⟨[(0,sl eExt values3),(3,.ptr 1000 0 0 1),(4,.ptr 1001 0 0 1),(5,.ptr 2001 0 0 1),(6,I i2),(7,.ptr 6004 0 0 1),(8,I e.1),(9,I e.2.1),(24,B e.2.2.1)],uV c7 c8 c9 c10 c11 c12 e.2.2.2.1 e.2.2.2.2⟩)
theorem Oe {values3 i2 c7 c8 c9 c10 c11 c12 s e} (h:Loop (fY values3 i2 c7 c8 c9 c10 c11 c12) s=some e):aq tab ow (.close [12003,12004,12005,13003,13004]) uN (C5 values3 i2 c7 c8 c9 c10 c11 c12 s)=some (D1 values3 i2 c7 c8 c9 c10 c11 c12 e):=by
 refine lrG (fun s o h=> ?_) h
 obtain ⟨_,_,_,_⟩:=s
 simp only [fY] at h
 simp+decide only [C5,D1,uV,uN,go_sem,reduceIte,Nat.reduceAdd]
 have d1:= @rU
 have d2:= @xn
 have d3:= @fX
 have d4:= @N2
 have d5:= @xH
 all_goals exact go
def fV (values2:List Ext) (c c2 c3 c4:Int):Int×Int×Int→Option ((Int×Int×Int)⊕((Int×Bool×Int×Int)))
 | (i,c5,c6)=>
   br (decide (i<((values2.length:Nat):Int))) (
   (atL values2 i).bind fun x2=>
   (Loop (fY values2 i c c2 c3 c4 c5 c6) (1,0,x2.A,x2.B)).bind fun e_=>
   (gY e_.1).bind fun r_6=>
   (lN r_6).bind fun r_7=>
   (bN (Ext.mk e_.2.2.2.1 e_.2.2.2.2) r_7).bind fun r_8=>
   (eF (Ext.mk c5 c6) r_8).bind fun r_9=>
   some (.inl ((wrap .i64 (i+1)),r_9.A,r_9.B))) (
   some (.inr (i,decide (i<((values2.length:Nat):Int)),c5,c6)))
abbrev uO (c c2 c3 c4 c5 c6:Int):List (Nat×Blk):=[(1000,⟨2,true,[[I c,I c2]]⟩),(1001,⟨2,true,[[I c3,I c4]]⟩),(2001,⟨2,true,[[I c5,I c6]]⟩)]
abbrev Cg (values2:List Ext) (c c2 c3 c4:Int) (s:Int×Int×Int):St:=⟨[(0,sl eExt values2),(3,.ptr 1000 0 0 1),(4,.ptr 1001 0 0 1),(5,.ptr 2001 0 0 1),(6,I s.1)],uO c c2 c3 c4 s.2.1 s.2.2⟩
abbrev BY (values2:List Ext) (c c2 c3 c4:Int):(Int×Bool×Int×Int)→ah×St:=fun e=>(.exit 0,⟨[(0,sl eExt values2),(3,.ptr 1000 0 0 1),(4,.ptr 1001 0 0 1),(5,.ptr 2001 0 0 1),(6,I e.1),(14,B e.2.1)],uO c c2 c3 c4 e.2.2.1 e.2.2.2⟩)
theorem PA {values2 c c2 c3 c4 s e} (h:Loop (fV values2 c c2 c3 c4) s=some e):aq tab ow (.close [6004,12003,12004,12005,13003,13004,14003,14004,14005,14006]) ve (Cg values2 c c2 c3 c4 s)=some (BY values2 c c2 c3 c4 e):=by
 refine lrG (fun s o h=> ?_) h
 obtain ⟨_,_,_⟩:=s
 simp only [fV] at h
 simp+decide only [Cg,BY,uO,ve,go_sem,reduceIte,Nat.reduceAdd]
 have d1:= @Oe
 have d2:= @B9
 have d3:= @rU
 have d4:= @fX
 have d5:= @iT
 all_goals exact go
def s9 (values:(List Ext)) (x:Ext):Option (Ext):=
 (Loop (fV values x.A x.B 0 0) (0,0,0)).bind fun e_2=>
 some (Ext.mk e_2.2.2.1 e_2.2.2.2)
theorem Hr {values x r} (h:s9 values x=some r):Call tab ow 198 [sl eExt values,.agg [I x.A,I x.B]] []=some (.agg [I r.A,I r.B],[]):=by
 rw [aa (af:=uE) rfl]
 unfold s9 at h
 simp+decide only [uE,HP,go_sem,reduceIte,Nat.reduceAdd]
 have d1:= @PA
 all_goals exact go
end
end Go.AI.Fn
