/- Walks through the program, with open values. -/
import Derived.Test.YtdmhkkcihecndaaGreatFx0
import Derived.Test.YtdmhkkcihecndaaGreatTb2
set_option linter.unusedVariables false
set_option linter.unusedSimpArgs false
set_option maxRecDepth 100000
set_option maxHeartbeats 1000000
namespace Go.AI.Fn
noncomputable section
open IntKind (wrap)
section
theorem PR:mkR 2000 []=rws ag []:=rfl
attribute [local go_sem] PR
theorem Pn:mkR 6007 []=rws ag []:=rfl
attribute [local go_sem] Pn
def fl (kind2:Int) (tables2:List (List Ext)):(List Ext)×Int→Option (((List Ext)×Int)⊕(((List Ext)×Int×Bool)))
 | (l,x)=>
   (pg kind2).bind fun r_=>
   br (decide (x≤r_)) (
   (oK x).bind fun r_2=>
   (si tables2 r_2).bind fun r_3=>
   (Ac kind2 r_3).bind fun r_4=>
   br (bc ((l++([r_4]:List Ext)).length) 16) (
   some (.inl ((l++([r_4]:List Ext)),(wrap .i64 (x+1))))) none) (
   some (.inr (l,x,decide (x≤r_))))
abbrev Aa (kind2:Int) (tables2:List (List Ext)) (s:(List Ext)×Int):St:=⟨[(0,I kind2),(1,sl (eL ag) tables2),(5,.sl 2000 0 s.1.length),(6,I s.2)],[(2000,⟨2,false,rws ag s.1⟩)]⟩
abbrev AV (kind2:Int) (tables2:List (List Ext)):((List Ext)×Int×Bool)→ai×St:=fun e=>(.exit 0,⟨[(0,I kind2),(1,sl (eL ag) tables2),(5,.sl 2000 0 e.1.length),(6,I e.2.1),(11,B e.2.2)],[(2000,⟨2,false,rws ag e.1⟩)]⟩)
theorem MX {kind2 tables2 s e} (h:Loop (fl kind2 tables2) s=some e):aD tab ow (.close [4002,6004,6005,6006,6007,6008]) sH (Aa kind2 tables2 s)=some (AV kind2 tables2 e):=by
 refine lrG (fun s o h=> ?_) h
 obtain ⟨_,_⟩:=s
 simp only [fl] at h
 simp+decide only [Aa,AV,sH,go_sem,reduceIte,Nat.reduceAdd]
 have d1:= @Qi
 have d2:= @rU
 have d3:= @Ke
 have d4:= @Zv
 all_goals exact go
def nM (kind:Int) (tables:(List (List Ext))):Option ((List Ext)):=
 (Loop (fl kind tables) (([]:List Ext),0)).bind fun e_=>
 some e_.1
theorem Ty {kind tables r} (h:nM kind tables=some r):Call tab ow 174 [I kind,sl (eL ag) tables] []=some (sl ag r,[]):=by
 rw [ab (af:=qO) rfl]
 unfold nM at h
 simp+decide only [qO,Fq,go_sem,reduceIte,Nat.reduceAdd]
 have d1:= @MX
 all_goals exact go
end
def mg (s:Source) (list:(List Ext)):Option (Source):=
 (lF list).bind fun r_=>
 (dZ s r_).bind fun r_2=>
 some r_2
theorem ut {s list r} (h:mg s list=some r):Call tab ow 175 [.agg [sl ag s.Script,I s.At,S s.State,I s.Count],sl ag list] []=some (.agg [sl ag r.Script,I r.At,S r.State,I r.Count],[]):=by
 rw [ab (af:=v4) rfl]
 unfold mg at h
 simp+decide only [v4,Kp,go_sem,reduceIte,Nat.reduceAdd]
 have d1:= @zb
 have d2:= @gk
 all_goals exact go
def iA (a:Int):Option (Int):=
 (pD a 2130706431).bind fun r_=>
 some r_
theorem An {a r} (h:iA a=some r):Call tab ow 298 [I a] []=some (I r,[]):=by
 rw [ab (af:=nh) rfl]
 unfold iA at h
 simp+decide only [nh,AC,go_sem,reduceIte,Nat.reduceAdd]
 have d1:= @Er
 all_goals exact go
def iY (n i:Int) (a b r_:Ext):Option (Ext):=
 (se n).bind fun r_2=>
 (sk r_2).bind fun r_3=>
 (pD r_3 i).bind fun r_4=>
 (iA 2).bind fun r_5=>
 (gQ a b).bind fun r_6=>
 (oK r_5).bind fun r_7=>
 (cZ r_6 r_7).bind fun r_8=>
 (jx a b).bind fun r_9=>
 (iA r_4).bind fun r_10=>
 (eK r_5 r_10).bind fun r_11=>
 (oK r_11).bind fun r_12=>
 (cZ r_9 r_12).bind fun r_13=>
 (cZ r_ r_13).bind fun r_14=>
 (gQ r_8 r_14).bind fun r_15=>
 some r_15
theorem JN {n i a b r_ r} (h:iY n i a b r_=some r):Call tab ow 290 [I n,I i,.agg [I a.A,I a.B],.agg [I b.A,I b.B],.agg [I r_.A,I r_.B]] []=some (.agg [I r.A,I r.B],[]):=by
 rw [ab (af:=uh) rfl]
 unfold iY at h
 simp+decide only [uh,Ja,go_sem,reduceIte,Nat.reduceAdd]
 have d1:= @JM
 have d2:= @JE
 have d3:= @Er
 have d4:= @An
 have d5:= @jw
 have d6:= @rU
 have d7:= @i8
 have d8:= @lM
 have d9:= @o2
 all_goals exact go
section
theorem S7:mkR 2000 []=rws ag []:=rfl
attribute [local go_sem] S7
theorem TS:mkR 7016 []=rws ag []:=rfl
attribute [local go_sem] TS
def gq (word2:List Ext) (n c c2:Int):(List Ext)×Int→Option (((List Ext)×Int)⊕(((List Ext)×Int×Bool)))
 | (l,i)=>
   br (decide (i<(wrap .i64 (n.tdiv 2)))) (
   (atL word2 i).bind fun x=>
   (atL word2 (wrap .i64 (i+(wrap .i64 (n.tdiv 2))))).bind fun x2=>
   (iY n i x x2 (Ext.mk c c2)).bind fun r_2=>
   br (bc ((l++([r_2]:List Ext)).length) 16) (
   some (.inl ((l++([r_2]:List Ext)),(wrap .i64 (i+1))))) none) (
   some (.inr (l,i,decide (i<(wrap .i64 (n.tdiv 2))))))
abbrev vy (c c2:Int) (l:List Ext):List (Nat×Blk):=[(1000,⟨2,true,[[I c,I c2]]⟩),(2000,⟨2,false,rws ag l⟩)]
abbrev CN (word2:List Ext) (n c c2:Int) (s:(List Ext)×Int):St:=⟨[(0,sl ag word2),(3,.ptr 1000 0 0 1),(5,.sl 2000 0 s.1.length),(6,I n),(7,I s.2)],vy c c2 s.1⟩
abbrev DC (word2:List Ext) (n c c2:Int):((List Ext)×Int×Bool)→ai×St:=fun e=>(.exit 0,⟨[(0,sl ag word2),(3,.ptr 1000 0 0 1),(5,.sl 2000 0 e.1.length),(6,I n),(7,I e.2.1),(14,B e.2.2)],vy c c2 e.1⟩)
theorem Qs {word2 n c c2 s e} (h:Loop (gq word2 n c c2) s=some e):aD tab ow (.close [7015,7016,7017]) vw (CN word2 n c c2 s)=some (DC word2 n c c2 e):=by
 refine lrG (fun s o h=> ?_) h
 obtain ⟨_,_⟩:=s
 simp only [gq] at h
 simp+decide only [CN,DC,vy,vw,go_sem,reduceIte,Nat.reduceAdd]
 have d1:= @JN
 all_goals exact go
def xq (word:(List Ext)) (r_:Ext):Option ((List Ext)):=
 (Loop (gq word ((word.length:Nat):Int) r_.A r_.B) (([]:List Ext),0)).bind fun e_=>
 some e_.1
theorem VG {word r_ r} (h:xq word r_=some r):Call tab ow 177 [sl ag word,.agg [I r_.A,I r_.B]] []=some (sl ag r,[]):=by
 rw [ab (af:=uX) rfl]
 unfold xq at h
 simp+decide only [uX,J2,go_sem,reduceIte,Nat.reduceAdd]
 have d1:= @Qs
 all_goals exact go
end
def sr (s:Source) (bits nonce:Int):Option (Bool):=
 br (bc (s.State.length+(([103,114,105,110,100]:List UInt8)).length) 1) (
 (ed nonce 4).bind fun r_=>
 br (bc ((s.State++(([103,114,105,110,100]:List UInt8))).length+r_.length) 1) (
 (fW ((s.State++(([103,114,105,110,100]:List UInt8)))++r_)).bind fun r_2=>
 (atL r_2 0).bind fun c=>
 (atL r_2 1).bind fun c2=>
 br (decide (0≤(wrap .u64 (wrap .i64 (16-bits))))) (
 some ((aM .i64 (wrap .i64 ((wrap .i64 ((wrap .i64 (c.toNat:Int))*256))+(wrap .i64 (c2.toNat:Int)))) (wrap .u64 (wrap .i64 (16-bits))))==0)) none) none) none
theorem IS {s bits nonce r} (h:sr s bits nonce=some r):Call tab ow 201 [.agg [sl ag s.Script,I s.At,S s.State,I s.Count],I bits,I nonce] []=some (B r,[]):=by
 rw [ab (af:=vc) rfl]
 unfold sr at h
 simp+decide only [vc,Ji,go_sem,reduceIte,Nat.reduceAdd]
 have d1:= @iX
 have d2:= @js
 all_goals exact go
def dq (bits2:Int) (c:List Ext) (c2:Int) (c3:List UInt8) (c4:Int):Int→Option ((Int)⊕(Int⊕(Int×Bool)))
 |nonce=>
  br (decide (nonce<65536)) (
  (sr (Source.mk c c2 c3 c4) bits2 nonce).bind fun r_=>
  br r_ (
  some (.inr (.inl nonce))) (
  some (.inl (wrap .i64 (nonce+1))))) (
  some (.inr (.inr (nonce,decide (nonce<65536)))))
abbrev AM (bits2:Int) (c:List Ext) (c2:Int) (c3:List UInt8) (c4 s:Int):St:=⟨[(1,I bits2),(2,.ptr 1000 0 0 1),(6,I s)],[(1000,⟨4,true,[[sl ag c,I c2,S c3,I c4]]⟩)]⟩
abbrev AH (bits2:Int) (c:List Ext) (c2:Int) (c3:List UInt8) (c4:Int):(Int⊕(Int×Bool))→ai×St:=alt (fun e=>((.ret,⟨[(4,I e),(5,B true)],[(1000,⟨4,true,[[sl ag c,I c2,S c3,I c4]]⟩)]⟩):ai×St)) (fun e=>(.exit 0,⟨[(1,I bits2),(2,.ptr 1000 0 0 1),(6,I e.1),(8,B e.2)],[(1000,⟨4,true,[[sl ag c,I c2,S c3,I c4]]⟩)]⟩))
theorem N0 {bits2 c c2 c3 c4 s e} (h:Loop (dq bits2 c c2 c3 c4) s=some e):aD tab ow (.close [5003]) sI (AM bits2 c c2 c3 c4 s)=some (AH bits2 c c2 c3 c4 e):=by
 refine lrG (fun s o h=> ?_) h
 simp only [dq] at h
 simp+decide only [AM,AH,sI,go_sem,reduceIte,Nat.reduceAdd]
 have d1:= @IS
 all_goals exact go
def tr (s:Source) (bits:Int):Option (Int×Bool):=
 (Loop (dq bits s.Script s.At s.State s.Count) 0).bind (alt (fun e_2=>
 some (e_2,true)) (fun e_3=>
 some (0,false)))
theorem SN {s bits r} (h:tr s bits=some r):Call tab ow 178 [.agg [sl ag s.Script,I s.At,S s.State,I s.Count],I bits] []=some (.tup [I r.1,B r.2],[]):=by
 rw [ab (af:=qZ) rfl]
 unfold tr at h
 simp+decide only [qZ,GA,go_sem,reduceIte,Nat.reduceAdd]
 have d1:= @N0
 all_goals exact go
section
theorem SE:mkR 2000 []=rws ag []:=rfl
attribute [local go_sem] SE
theorem TR:mkR 8002 []=rws ag []:=rfl
attribute [local go_sem] TR
def gg (n2 c5:Int) (c6:List UInt8) (c7:Int):(List Ext)×Int×(List Ext)×Int×(List UInt8)×Int→Option (((List Ext)×Int×(List Ext)×Int×(List UInt8)×Int)⊕(((List Ext)×Int×Bool×(List Ext)×Int×(List UInt8)×Int)))
 | (l,i,c,c2,c3,c4)=>
   br (decide (i<n2)) (
   (iL (Source.mk c c2 c3 c4)).bind fun r_=>
   br (bc ((l++([r_.2]:List Ext)).length) 16) (
   some (.inl ((l++([r_.2]:List Ext)),(wrap .i64 (i+1)),r_.1.Script,r_.1.At,r_.1.State,r_.1.Count))) none) (
   some (.inr (l,i,decide (i<n2),c,c2,c3,c4)))
abbrev vo (c5:Int) (c6:List UInt8) (c7:Int) (l c:List Ext) (c2:Int) (c3:List UInt8) (c4:Int):List (Nat×Blk):=[(1000,⟨4,true,[[sl ag c,I c2,S c3,I c4]]⟩),(1001,⟨4,true,[[.lit (.slice none 0 0),I c5,S c6,I c7]]⟩),(2000,⟨2,false,rws ag l⟩)]
abbrev CA (n2 c5:Int) (c6:List UInt8) (c7:Int) (s:(List Ext)×Int×(List Ext)×Int×(List UInt8)×Int):St:=⟨[(1,I n2),(2,.ptr 1000 0 0 1),(4,.ptr 1001 0 0 1),(6,.sl 2000 0 s.1.length),(7,I s.2.1)],vo c5 c6 c7 s.1 s.2.2.1 s.2.2.2.1 s.2.2.2.2.1 s.2.2.2.2.2⟩
abbrev DN (n2 c5:Int) (c6:List UInt8) (c7:Int):((List Ext)×Int×Bool×(List Ext)×Int×(List UInt8)×Int)→ai×St:=fun e=>(.exit 0,⟨[(1,I n2),(2,.ptr 1000 0 0 1),(4,.ptr 1001 0 0 1),(6,.sl 2000 0 e.1.length),(7,I e.2.1),(13,B e.2.2.1)],vo c5 c6 c7 e.1 e.2.2.2.1 e.2.2.2.2.1 e.2.2.2.2.2.1 e.2.2.2.2.2.2⟩)
theorem PI {n2 c5 c6 c7 s e} (h:Loop (gg n2 c5 c6 c7) s=some e):aD tab ow (.close [6001,6005,6006,8002,8003]) vW (CA n2 c5 c6 c7 s)=some (DN n2 c5 c6 c7 e):=by
 refine lrG (fun s o h=> ?_) h
 obtain ⟨_,_,_,_,_,_⟩:=s
 simp only [gg] at h
 simp+decide only [CA,DN,vo,vW,go_sem,reduceIte,Nat.reduceAdd]
 have d1:= @pB
 all_goals exact go
def wU (s:Source) (n:Int):Option (Source×(List Ext)):=
 (Loop (gg n 0 (([]:List UInt8)) 0) (([]:List Ext),0,s.Script,s.At,s.State,s.Count)).bind fun e_=>
 some ((Source.mk e_.2.2.2.1 e_.2.2.2.2.1 e_.2.2.2.2.2.1 e_.2.2.2.2.2.2),e_.1)
theorem Wl {s n r} (h:wU s n=some r):Call tab ow 215 [.agg [sl ag s.Script,I s.At,S s.State,I s.Count],I n] []=some (.tup [.agg [sl ag r.1.Script,I r.1.At,S r.1.State,I r.1.Count],sl ag r.2],[]):=by
 rw [ab (af:=uz) rfl]
 unfold wU at h
 simp+decide only [uz,Kq,go_sem,reduceIte,Nat.reduceAdd]
 have d1:= @PI
 all_goals exact go
end
section
theorem MY:mkR 3000 []=rws eI []:=rfl
attribute [local go_sem] MY
theorem NH:mkR 7008 []=rws eI []:=rfl
attribute [local go_sem] NH
def eu (n2 most2:Int) (list c:List Ext) (c2:Int) (c3:List UInt8) (c4 c5:Int) (c6:List UInt8) (c7:Int) (c8:List Ext) (c9:Int) (c10:List UInt8) (c11:Int):(List Int)×Int→Option (((List Int)×Int)⊕(((List Int)×Int×Bool)))
 | (l,i)=>
   br (decide (i<n2)) (
   (atL list i).bind fun x=>
   br (decide (most2≠0)) (
   br (bc ((l++([(x.A.tmod most2)]:List Int)).length) 8) (
   some (.inl ((l++([(x.A.tmod most2)]:List Int)),(wrap .i64 (i+1))))) none) none) (
   some (.inr (l,i,decide (i<n2))))
abbrev pR (c:List Ext) (c2:Int) (c3:List UInt8) (c4 c5:Int) (c6:List UInt8) (c7:Int) (c8:List Ext) (c9:Int) (c10:List UInt8) (c11:Int) (l:List Int):List (Nat×Blk):=[(1000,⟨4,true,[[sl ag c,I c2,S c3,I c4]]⟩),(1001,⟨4,true,[[.lit (.slice none 0 0),I c5,S c6,I c7]]⟩),(2006,⟨4,true,[[sl ag c8,I c9,S c10,I c11]]⟩),(3000,⟨1,false,rws eI l⟩)]
abbrev zW (n2 most2:Int) (list c:List Ext) (c2:Int) (c3:List UInt8) (c4 c5:Int) (c6:List UInt8) (c7:Int) (c8:List Ext) (c9:Int) (c10:List UInt8) (c11:Int) (s:(List Int)×Int):St:=⟨[(1,I n2),(2,I most2),(6,.ptr 1001 0 0 1),(8,.ptr 2006 0 0 1),(9,sl ag list),(10,.sl 3000 0 s.1.length),(11,I s.2)],pR c c2 c3 c4 c5 c6 c7 c8 c9 c10 c11 s.1⟩
abbrev zm (n2 most2:Int) (list c:List Ext) (c2:Int) (c3:List UInt8) (c4 c5:Int) (c6:List UInt8) (c7:Int) (c8:List Ext) (c9:Int) (c10:List UInt8) (c11:Int):((List Int)×Int×Bool)→ai×St:=fun e=>(.exit 0,⟨[(1,I n2),(2,I most2),(6,.ptr 1001 0 0 1),(8,.ptr 2006 0 0 1),(9,sl ag list),(10,.sl 3000 0 e.1.length),(11,I e.2.1),(21,B e.2.2)],pR c c2 c3 c4 c5 c6 c7 c8 c9 c10 c11 e.1⟩)
theorem KN {n2 most2 list c c2 c3 c4 c5 c6 c7 c8 c9 c10 c11 s e} (h:Loop (eu n2 most2 list c c2 c3 c4 c5 c6 c7 c8 c9 c10 c11) s=some e):aD tab ow (.close [7008,7009]) qd (zW n2 most2 list c c2 c3 c4 c5 c6 c7 c8 c9 c10 c11 s)=some (zm n2 most2 list c c2 c3 c4 c5 c6 c7 c8 c9 c10 c11 e):=by
 refine lrG (fun s o h=> ?_) h
 obtain ⟨_,_⟩:=s
 simp only [eu] at h
 simp+decide only [zW,zm,pR,qd,go_sem,reduceIte,Nat.reduceAdd]
 all_goals exact go
def mf (s:Source) (n most:Int):Option (Source×(List Int)):=
 (wU s n).bind fun r_=>
 (Loop (eu n most r_.2 s.Script s.At s.State s.Count 0 (([]:List UInt8)) 0 r_.1.Script r_.1.At r_.1.State r_.1.Count) (([]:List Int),0)).bind fun e_=>
 some (r_.1,e_.1)
theorem DH {s n most r} (h:mf s n most=some r):Call tab ow 180 [.agg [sl ag s.Script,I s.At,S s.State,I s.Count],I n,I most] []=some (.tup [.agg [sl ag r.1.Script,I r.1.At,S r.1.State,I r.1.Count],sl eI r.2],[]):=by
 rw [ab (af:=oq) rfl]
 unfold mf at h
 simp+decide only [oq,DJ,go_sem,reduceIte,Nat.reduceAdd]
 have d1:= @Wl
 have d2:= @KN
 all_goals exact go
end
section
theorem SM:mkR 2000 []=rws eS []:=rfl
attribute [local go_sem] SM
theorem Un:mkR 6009 []=rws eS []:=rfl
attribute [local go_sem] Un
def gx (levels2:List (List (List UInt8))):(List (List UInt8))×Int×Int→Option (((List (List UInt8))×Int×Int)⊕(((List (List UInt8))×Int×Int×Bool)))
 | (l,i2,k)=>
   br (decide ((wrap .i64 (k+1))<((levels2.length:Nat):Int))) (
   (atL levels2 k).bind fun x=>
   (atL x (ga .i64 i2 1)).bind fun x2=>
   br (bc ((l++([x2]:List (List UInt8))).length) 16) (
   some (.inl ((l++([x2]:List (List UInt8))),(wrap .i64 (i2.tdiv 2)),(wrap .i64 (k+1))))) none) (
   some (.inr (l,i2,k,decide ((wrap .i64 (k+1))<((levels2.length:Nat):Int)))))
abbrev D6 (levels2:List (List (List UInt8))) (s:(List (List UInt8))×Int×Int):St:=⟨[(0,sl (eL eS) levels2),(1,I s.2.1),(5,.sl 2000 0 s.1.length),(6,I s.2.2)],[(2000,⟨1,false,rws eS s.1⟩)]⟩
abbrev Dl (levels2:List (List (List UInt8))):((List (List UInt8))×Int×Int×Bool)→ai×St:=fun e=>(.exit 0,⟨[(0,sl (eL eS) levels2),(1,I e.2.1),(5,.sl 2000 0 e.1.length),(6,I e.2.2.1),(12,B e.2.2.2)],[(2000,⟨1,false,rws eS e.1⟩)]⟩)
theorem PE {levels2 s e} (h:Loop (gx levels2) s=some e):aD tab ow (.close [6009,6010]) we (D6 levels2 s)=some (Dl levels2 e):=by
 refine lrG (fun s o h=> ?_) h
 obtain ⟨_,_,_⟩:=s
 simp only [gx] at h
 simp+decide only [D6,Dl,we,go_sem,reduceIte,Nat.reduceAdd]
 all_goals exact go
def wA (levels:(List (List (List UInt8)))) (i:Int):Option ((List (List UInt8))):=
 (Loop (gx levels) (([]:List (List UInt8)),i,0)).bind fun e_=>
 some e_.1
theorem Wu {levels i r} (h:wA levels i=some r):Call tab ow 181 [sl (eL eS) levels,I i] []=some (sl eS r,[]):=by
 rw [ab (af:=uc) rfl]
 unfold wA at h
 simp+decide only [uc,JA,go_sem,reduceIte,Nat.reduceAdd]
 have d1:= @PE
 all_goals exact go
end
section
theorem Ta:mkR 2000 []=rws (eL ag) []:=rfl
attribute [local go_sem] Ta
theorem RY:mkR 2001 []=rws eS []:=rfl
attribute [local go_sem] RY
theorem Sd:mkR 2002 []=rws aQ []:=rfl
attribute [local go_sem] Sd
theorem TL:mkR 3000 []=rws ag []:=rfl
attribute [local go_sem] TL
theorem T3:mkR 3005 []=rws (eL ag) []:=rfl
attribute [local go_sem] T3
theorem Tb:mkR 5000 []=rws (eL ag) []:=rfl
attribute [local go_sem] Tb
theorem TF:mkR 7002 []=rws (eL ag) []:=rfl
attribute [local go_sem] TF
theorem Ub:mkR 14003 []=rws (eL ag) []:=rfl
attribute [local go_sem] Ub
theorem Sq:mkR 18003 []=rws eS []:=rfl
attribute [local go_sem] Sq
theorem Ss:mkR 20003 []=rws ag []:=rfl
attribute [local go_sem] Ss
theorem Pe:mkR 31000 []=rws ag []:=rfl
attribute [local go_sem] Pe
theorem Qh:mkR 31001 []=rws (eL eS) []:=rfl
attribute [local go_sem] Qh
theorem Qr:mkR 38018 []=rws ag []:=rfl
attribute [local go_sem] Qr
theorem Po:mkR 39010 []=rws (eL eS) []:=rfl
attribute [local go_sem] Po
theorem Q4:mkR 40003 []=rws aQ []:=rfl
attribute [local go_sem] Q4
def iP (l3:List aq) (c c2 c3 c8 c9 c10 c11:Int) (c12:List UInt8) (c13 c14 c15 c16:Int):(List (List Ext))×(List (List UInt8))×(List (List Ext))×(List (List Ext))×(List Ext)×(List Ext)×Int×(List UInt8)×Int→Option (((List (List Ext))×(List (List UInt8))×(List (List Ext))×(List (List Ext))×(List Ext)×(List Ext)×Int×(List UInt8)×Int)⊕(((List (List Ext))×(List (List UInt8))×(List (List Ext))×(List (List Ext))×(List Ext)×Bool×(List Ext)×Int×(List UInt8)×Int)))
 | (l,l2,l4,t,t2,c4,c5,c6,c7)=>
   (atL t 0).bind fun x=>
   br (decide (((x.length:Nat):Int)>1)) (
   br (bc ((l4++([t2]:List (List Ext))).length) 24) (
   (nM 1 t).bind fun r_3=>
   (mg (Source.mk c4 c5 c6 c7) r_3).bind fun r_4=>
   (iL r_4).bind fun r_5=>
   (si t r_5.2).bind fun r_6=>
   (xq t2 r_5.2).bind fun r_7=>
   br (bc ((l++([r_3]:List (List Ext))).length) 24) (
   (atL r_6 0).bind fun x2=>
   br (decide (((x2.length:Nat):Int)>1)) (
   (jB r_7).bind fun r_8=>
   (nU r_8).bind fun r_9=>
   (dZ r_5.1 r_9).bind fun r_10=>
   br (bc ((l2++([r_9]:List (List UInt8))).length) 16) (
   some (.inl ((l++([r_3]:List (List Ext))),(l2++([r_9]:List (List UInt8))),(l4++([t2]:List (List Ext))),r_6,r_7,r_10.Script,r_10.At,r_10.State,r_10.Count))) none) (
   some (.inl ((l++([r_3]:List (List Ext))),l2,(l4++([t2]:List (List Ext))),r_6,r_7,r_5.1.Script,r_5.1.At,r_5.1.State,r_5.1.Count)))) none) none) (
   some (.inr (l,l2,l4,t,t2,decide (((x.length:Nat):Int)>1),c4,c5,c6,c7)))
abbrev w9 (l3:List aq) (c c2 c3 c8 c9 c10 c11:Int) (c12:List UInt8) (c13 c14 c15 c16:Int) (l:List (List Ext)) (l2:List (List UInt8)) (l4:List (List Ext)) (c4:List Ext) (c5:Int) (c6:List UInt8) (c7:Int):List (Nat×Blk):=[(1000,⟨3,true,[[I c,I c2,I c3]]⟩),(1001,⟨4,true,[[sl ag c4,I c5,S c6,I c7]]⟩),(1002,⟨6,true,[[.lit (.slice none 0 0),.lit (.slice none 0 0),I c8,I c9,I c10,.lit (.slice none 0 0)]]⟩),(1003,⟨4,true,[[.lit (.slice none 0 0),I c11,S c12,I c13]]⟩),(2000,⟨1,false,rws (eL ag) l⟩),(2001,⟨1,false,rws eS l2⟩),(2002,⟨2,false,rws aQ l3⟩),(2004,⟨6,true,[[.sl 2000 0 l.length,.sl 2001 0 l2.length,I c14,I c15,I c16,.sl 2002 0 l3.length]]⟩),(3000,dR),(5000,⟨1,false,rws (eL ag) l4⟩)]
abbrev CQ (l3:List aq) (c c2 c3 c8 c9 c10 c11:Int) (c12:List UInt8) (c13 c14 c15 c16:Int) (s:(List (List Ext))×(List (List UInt8))×(List (List Ext))×(List (List Ext))×(List Ext)×(List Ext)×Int×(List UInt8)×Int):St:=⟨[(6,.ptr 1000 0 0 1),(7,.ptr 1001 0 0 1),(8,.ptr 1002 0 0 1),(9,.ptr 1003 0 0 1),(11,.ptr 2004 0 0 1),(12,sl (eL ag) s.2.2.2.1),(13,sl ag s.2.2.2.2.1),(14,.sl 5000 0 s.2.2.1.length),(79,.undef)],w9 l3 c c2 c3 c8 c9 c10 c11 c12 c13 c14 c15 c16 s.1 s.2.1 s.2.2.1 s.2.2.2.2.2.1 s.2.2.2.2.2.2.1 s.2.2.2.2.2.2.2.1 s.2.2.2.2.2.2.2.2⟩
abbrev D9 (l3:List aq) (c c2 c3 c8 c9 c10 c11:Int) (c12:List UInt8) (c13 c14 c15 c16:Int):((List (List Ext))×(List (List UInt8))×(List (List Ext))×(List (List Ext))×(List Ext)×Bool×(List Ext)×Int×(List UInt8)×Int)→ai×St:=fun e=>(.exit 0,⟨[(6,.ptr 1000 0 0 1),(7,.ptr 1001 0 0 1),(8,.ptr 1002 0 0 1),(9,.ptr 1003 0 0 1),(11,.ptr 2004 0 0 1),(12,sl (eL ag) e.2.2.2.1),(13,sl ag e.2.2.2.2.1),(14,.sl 5000 0 e.2.2.1.length),(47,B e.2.2.2.2.2.1)],w9 l3 c c2 c3 c8 c9 c10 c11 c12 c13 c14 c15 c16 e.1 e.2.1 e.2.2.1 e.2.2.2.2.2.2.1 e.2.2.2.2.2.2.2.1 e.2.2.2.2.2.2.2.2.1 e.2.2.2.2.2.2.2.2.2⟩)
theorem PG {l3 c c2 c3 c8 c9 c10 c11 c12 c13 c14 c15 c16 s e} (h:Loop (iP l3 c c2 c3 c8 c9 c10 c11 c12 c13 c14 c15 c16) s=some e):aD tab ow (.both (.close [7002,7003,8001,9002,10001,10005,10006,12002,13002,14003,14004,16001,16002,17002,18003,18004,3005]) (.drop [79])) vE (CQ l3 c c2 c3 c8 c9 c10 c11 c12 c13 c14 c15 c16 s)=some (D9 l3 c c2 c3 c8 c9 c10 c11 c12 c13 c14 c15 c16 e):=by
 refine lrG (fun s o h=> ?_) h
 obtain ⟨_,_,_,_,_,_,_,_,_⟩:=s
 simp only [iP] at h
 simp+decide only [CQ,D9,w9,vE,go_sem,reduceIte,Nat.reduceAdd]
 have d1:= @Ty
 have d2:= @ut
 have d3:= @pB
 have d4:= @Ke
 have d5:= @VG
 have d6:= @vZ
 have d7:= @K8
 have d8:= @gk
 all_goals exact go
def iS (l9:List (List Ext)) (l10:List (List UInt8)) (l11:List aq) (l12:List (List Ext)) (t5:List Int) (t6 c37 c38 c39:Int) (c40:List Ext) (c41:Int) (c42:List UInt8) (c43 c44 c45 c46 c47:Int) (c48:List UInt8) (c49 c50 c51 c52:Int) (c53:List Ext) (c54:Int) (c55:List UInt8) (c56:Int):(List Ext)×(List (List (List UInt8)))×Int×Int→Option (((List Ext)×(List (List (List UInt8)))×Int×Int)⊕(((List Ext)×(List (List (List UInt8)))×Int×Int×Bool)))
 | (l13,l14,t7,t8)=>
   br (decide (t8<((l12.length:Nat):Int))) (
   br (decide (0≤t8)) (
   br (decide (t8.toNat<l12.length)) (
   (l12[t8.toNat]?).bind fun x7=>
   br (decide ((wrap .i64 (((x7.length:Nat):Int).tdiv 2))≠0)) (
   br (decide (0≤t8)) (
   br (decide (t8.toNat<l12.length)) (
   (l12[t8.toNat]?).bind fun x8=>
   (atL x8 (t7.tmod (wrap .i64 (((x7.length:Nat):Int).tdiv 2)))).bind fun x9=>
   br (decide (0≤t8)) (
   br (decide (t8.toNat<l12.length)) (
   (l12[t8.toNat]?).bind fun x10=>
   (atL x10 (wrap .i64 ((t7.tmod (wrap .i64 (((x7.length:Nat):Int).tdiv 2)))+(wrap .i64 (((x7.length:Nat):Int).tdiv 2))))).bind fun x11=>
   br (bc ((l13++([x9,x11]:List Ext)).length) 16) (
   br (decide (0≤t8)) (
   br (decide (t8.toNat<l12.length)) (
   (l12[t8.toNat]?).bind fun x12=>
   (jB x12).bind fun r_16=>
   (mA r_16).bind fun r_17=>
   (wA r_17 (t7.tmod (wrap .i64 (((x7.length:Nat):Int).tdiv 2)))).bind fun r_18=>
   br (bc ((l14++([r_18]:List (List (List UInt8)))).length) 24) (
   some (.inl ((l13++([x9,x11]:List Ext)),(l14++([r_18]:List (List (List UInt8)))),(t7.tmod (wrap .i64 (((x7.length:Nat):Int).tdiv 2))),(wrap .i64 (t8+1))))) none) none) none) none) none) none) none) none) none) none) none) (
   some (.inr (l13,l14,t7,t8,decide (t8<((l12.length:Nat):Int)))))
abbrev wa (l9:List (List Ext)) (l10:List (List UInt8)) (l11:List aq) (l12:List (List Ext)) (c37 c38 c39:Int) (c40:List Ext) (c41:Int) (c42:List UInt8) (c43 c44 c45 c46 c47:Int) (c48:List UInt8) (c49 c50 c51 c52:Int) (c53:List Ext) (c54:Int) (c55:List UInt8) (c56:Int) (l13:List Ext) (l14:List (List (List UInt8))):List (Nat×Blk):=[(1000,⟨3,true,[[I c37,I c38,I c39]]⟩),(1001,⟨4,true,[[sl ag c40,I c41,S c42,I c43]]⟩),(1002,⟨6,true,[[.lit (.slice none 0 0),.lit (.slice none 0 0),I c44,I c45,I c46,.lit (.slice none 0 0)]]⟩),(1003,⟨4,true,[[.lit (.slice none 0 0),I c47,S c48,I c49]]⟩),(2000,⟨1,false,rws (eL ag) l9⟩),(2001,⟨1,false,rws eS l10⟩),(2002,⟨2,false,rws aQ l11⟩),(2004,⟨6,true,[[.sl 2000 0 l9.length,.sl 2001 0 l10.length,I c50,I c51,I c52,.sl 2002 0 l11.length]]⟩),(3000,dR),(5000,⟨1,false,rws (eL ag) l12⟩),(20003,dR),(26012,⟨4,true,[[sl ag c53,I c54,S c55,I c56]]⟩),(31000,⟨2,false,rws ag l13⟩),(31001,⟨1,false,rws (eL eS) l14⟩),(31003,⟨2,true,[[.sl 31000 0 l13.length,.sl 31001 0 l14.length]]⟩)]
abbrev DG (l9:List (List Ext)) (l10:List (List UInt8)) (l11:List aq) (l12:List (List Ext)) (t5:List Int) (t6 c37 c38 c39:Int) (c40:List Ext) (c41:Int) (c42:List UInt8) (c43 c44 c45 c46 c47:Int) (c48:List UInt8) (c49 c50 c51 c52:Int) (c53:List Ext) (c54:Int) (c55:List UInt8) (c56:Int) (s:(List Ext)×(List (List (List UInt8)))×Int×Int):St:=⟨[(7,.ptr 1001 0 0 1),(8,.ptr 1002 0 0 1),(9,.ptr 1003 0 0 1),(11,.ptr 2004 0 0 1),(14,.sl 5000 0 l12.length),(22,sl eI t5),(23,I t6),(24,.ptr 31003 0 0 1),(25,I s.2.2.1),(26,I s.2.2.2)],wa l9 l10 l11 l12 c37 c38 c39 c40 c41 c42 c43 c44 c45 c46 c47 c48 c49 c50 c51 c52 c53 c54 c55 c56 s.1 s.2.1⟩
abbrev DI (l9:List (List Ext)) (l10:List (List UInt8)) (l11:List aq) (l12:List (List Ext)) (t5:List Int) (t6 c37 c38 c39:Int) (c40:List Ext) (c41:Int) (c42:List UInt8) (c43 c44 c45 c46 c47:Int) (c48:List UInt8) (c49 c50 c51 c52:Int) (c53:List Ext) (c54:Int) (c55:List UInt8) (c56:Int):((List Ext)×(List (List (List UInt8)))×Int×Int×Bool)→ai×St:=fun e=>(.exit 4,⟨[(7,.ptr 1001 0 0 1),(8,.ptr 1002 0 0 1),(9,.ptr 1003 0 0 1),(11,.ptr 2004 0 0 1),(14,.sl 5000 0 l12.length),(22,sl eI t5),(23,I t6),(24,.ptr 31003 0 0 1),(25,I e.2.2.1),(26,I e.2.2.2.1),(150,B e.2.2.2.2)],wa l9 l10 l11 l12 c37 c38 c39 c40 c41 c42 c43 c44 c45 c46 c47 c48 c49 c50 c51 c52 c53 c54 c55 c56 e.1 e.2.1⟩)
theorem Qk {l9 l10 l11 l12 t5 t6 c37 c38 c39 c40 c41 c42 c43 c44 c45 c46 c47 c48 c49 c50 c51 c52 c53 c54 c55 c56 s e} (h:Loop (iS l9 l10 l11 l12 t5 t6 c37 c38 c39 c40 c41 c42 c43 c44 c45 c46 c47 c48 c49 c50 c51 c52 c53 c54 c55 c56) s=some e):aD tab ow (.close [38018,38019,39006,39007,39009,39010,39011]) sB (DG l9 l10 l11 l12 t5 t6 c37 c38 c39 c40 c41 c42 c43 c44 c45 c46 c47 c48 c49 c50 c51 c52 c53 c54 c55 c56 s)=some (DI l9 l10 l11 l12 t5 t6 c37 c38 c39 c40 c41 c42 c43 c44 c45 c46 c47 c48 c49 c50 c51 c52 c53 c54 c55 c56 e):=by
 refine lrG (fun s o h=> ?_) h
 obtain ⟨_,_,_,_⟩:=s
 simp only [iS] at h
 simp+decide only [DG,DI,wa,sB,go_sem,reduceIte,Nat.reduceAdd]
 have d1:= @vZ
 have d2:= @Da
 have d3:= @Wu
 all_goals exact go
def gt (l5:List (List Ext)) (l6:List (List UInt8)) (l8:List (List Ext)) (t3:List Int) (c17 c18 c19:Int) (c20:List Ext) (c21:Int) (c22:List UInt8) (c23 c24 c25 c26 c27:Int) (c28:List UInt8) (c29 c30 c31 c32:Int) (c33:List Ext) (c34:Int) (c35:List UInt8) (c36:Int):(List aq)×Int→Option (((List aq)×Int)⊕(((List aq)×Int×Bool)))
 | (l7,t4)=>
   br (decide (t4<((t3.length:Nat):Int))) (
   (atL t3 t4).bind fun x6=>
   (Loop (iS l5 l6 l7 l8 t3 t4 c17 c18 c19 c20 c21 c22 c23 c24 c25 c26 c27 c28 c29 c30 c31 c32 c33 c34 c35 c36) (([]:List Ext),([]:List (List (List UInt8))),x6,0)).bind fun e_2=>
   br (bc ((l7++([(aq.mk e_2.1 e_2.2.1)]:List aq)).length) 48) (
   some (.inl ((l7++([(aq.mk e_2.1 e_2.2.1)]:List aq)),(wrap .i64 (t4+1))))) none) (
   some (.inr (l7,t4,decide (t4<((t3.length:Nat):Int)))))
abbrev wm (l5:List (List Ext)) (l6:List (List UInt8)) (l8:List (List Ext)) (c17 c18 c19:Int) (c20:List Ext) (c21:Int) (c22:List UInt8) (c23 c24 c25 c26 c27:Int) (c28:List UInt8) (c29 c30 c31 c32:Int) (c33:List Ext) (c34:Int) (c35:List UInt8) (c36:Int) (l7:List aq):List (Nat×Blk):=[(1000,⟨3,true,[[I c17,I c18,I c19]]⟩),(1001,⟨4,true,[[sl ag c20,I c21,S c22,I c23]]⟩),(1002,⟨6,true,[[.lit (.slice none 0 0),.lit (.slice none 0 0),I c24,I c25,I c26,.lit (.slice none 0 0)]]⟩),(1003,⟨4,true,[[.lit (.slice none 0 0),I c27,S c28,I c29]]⟩),(2000,⟨1,false,rws (eL ag) l5⟩),(2001,⟨1,false,rws eS l6⟩),(2002,⟨2,false,rws aQ l7⟩),(2004,⟨6,true,[[.sl 2000 0 l5.length,.sl 2001 0 l6.length,I c30,I c31,I c32,.sl 2002 0 l7.length]]⟩),(3000,dR),(5000,⟨1,false,rws (eL ag) l8⟩),(20003,dR),(26012,⟨4,true,[[sl ag c33,I c34,S c35,I c36]]⟩)]
abbrev CD (l5:List (List Ext)) (l6:List (List UInt8)) (l8:List (List Ext)) (t3:List Int) (c17 c18 c19:Int) (c20:List Ext) (c21:Int) (c22:List UInt8) (c23 c24 c25 c26 c27:Int) (c28:List UInt8) (c29 c30 c31 c32:Int) (c33:List Ext) (c34:Int) (c35:List UInt8) (c36:Int) (s:(List aq)×Int):St:=⟨[(7,.ptr 1001 0 0 1),(8,.ptr 1002 0 0 1),(9,.ptr 1003 0 0 1),(11,.ptr 2004 0 0 1),(14,.sl 5000 0 l8.length),(22,sl eI t3),(23,I s.2)],wm l5 l6 l8 c17 c18 c19 c20 c21 c22 c23 c24 c25 c26 c27 c28 c29 c30 c31 c32 c33 c34 c35 c36 s.1⟩
abbrev Dt (l5:List (List Ext)) (l6:List (List UInt8)) (l8:List (List Ext)) (t3:List Int) (c17 c18 c19:Int) (c20:List Ext) (c21:Int) (c22:List UInt8) (c23 c24 c25 c26 c27:Int) (c28:List UInt8) (c29 c30 c31 c32:Int) (c33:List Ext) (c34:Int) (c35:List UInt8) (c36:Int):((List aq)×Int×Bool)→ai×St:=fun e=>(.exit 2,⟨[(7,.ptr 1001 0 0 1),(8,.ptr 1002 0 0 1),(9,.ptr 1003 0 0 1),(11,.ptr 2004 0 0 1),(14,.sl 5000 0 l8.length),(22,sl eI t3),(23,I e.2.1),(137,B e.2.2)],wm l5 l6 l8 c17 c18 c19 c20 c21 c22 c23 c24 c25 c26 c27 c28 c29 c30 c31 c32 c33 c34 c35 c36 e.1⟩)
theorem Qd {l5 l6 l8 t3 c17 c18 c19 c20 c21 c22 c23 c24 c25 c26 c27 c28 c29 c30 c31 c32 c33 c34 c35 c36 s e} (h:Loop (gt l5 l6 l8 t3 c17 c18 c19 c20 c21 c22 c23 c24 c25 c26 c27 c28 c29 c30 c31 c32 c33 c34 c35 c36) s=some e):aD tab ow (.close [31000,31001,31003,38018,38019,39006,39007,39009,39010,39011,40003,40004]) sT (CD l5 l6 l8 t3 c17 c18 c19 c20 c21 c22 c23 c24 c25 c26 c27 c28 c29 c30 c31 c32 c33 c34 c35 c36 s)=some (Dt l5 l6 l8 t3 c17 c18 c19 c20 c21 c22 c23 c24 c25 c26 c27 c28 c29 c30 c31 c32 c33 c34 c35 c36 e):=by
 refine lrG (fun s o h=> ?_) h
 obtain ⟨_,_⟩:=s
 simp only [gt] at h
 simp+decide only [CD,Dt,wm,sT,go_sem,reduceIte,Nat.reduceAdd]
 have d1:= @Qk
 all_goals exact go
def wy (ListtoArray a:(List Ext)) (a2:Setting) (a3:Source):Option (aC×Source×Bool):=
 br (bc ((([]:List Ext)++ListtoArray).length) 16) (
 (Gq a).bind fun r_=>
 (sv ListtoArray a2.Rate).bind fun r_2=>
 (Loop (iP ([]:List aq) a2.Rate a2.Queries a2.Grind 0 0 0 0 (([]:List UInt8)) 0 0 0 0) (([]:List (List Ext)),([]:List (List UInt8)),([]:List (List Ext)),([(([]:List Ext)++ListtoArray),r_]:List (List Ext)),r_2,a3.Script,a3.At,a3.State,a3.Count)).bind fun e_=>
 (atL e_.2.2.2.1 0).bind fun x3=>
 (atL x3 0).bind fun x4=>
 (mg (Source.mk e_.2.2.2.2.2.2.1 e_.2.2.2.2.2.2.2.1 e_.2.2.2.2.2.2.2.2.1 e_.2.2.2.2.2.2.2.2.2) ([x4]:List Ext)).bind fun r_11=>
 (tr r_11 a2.Grind).bind fun r_12=>
 br (!r_12.2) (
 some ((aC.mk ([]:List (List Ext)) ([]:List (List UInt8)) (Ext.mk 0 0) 0 ([]:List aq)),r_11,false)) (
 (ed r_12.1 4).bind fun r_13=>
 (dZ r_11 r_13).bind fun r_14=>
 br (decide (0<e_.2.2.1.length)) (
 (e_.2.2.1[0]?).bind fun x5=>
 (mf r_14 a2.Queries (wrap .i64 (((x5.length:Nat):Int).tdiv 2))).bind fun r_15=>
 (Loop (gt e_.1 e_.2.1 e_.2.2.1 r_15.2 a2.Rate a2.Queries a2.Grind r_15.1.Script r_15.1.At r_15.1.State r_15.1.Count 0 0 0 0 (([]:List UInt8)) 0 x4.A x4.B r_12.1 r_15.1.Script r_15.1.At r_15.1.State r_15.1.Count) (([]:List aq),0)).bind fun e_3=>
 some ((aC.mk e_.1 e_.2.1 x4 r_12.1 e_3.1),r_15.1,true)) none)) none
theorem X1 {ListtoArray a a2 a3 r} (h:wy ListtoArray a a2 a3=some r):Call tab ow 82 [sl ag ListtoArray,sl ag a,.agg [I a2.Rate,I a2.Queries,I a2.Grind],.agg [sl ag a3.Script,I a3.At,S a3.State,I a3.Count]] []=some (.tup [.agg [sl (eL ag) r.1.Rounds,sl eS r.1.Roots,I r.1.Last.A,I r.1.Last.B,I r.1.Nonce,sl aQ r.1.Queries],.agg [sl ag r.2.1.Script,I r.2.1.At,S r.2.1.State,I r.2.1.Count],B r.2.2],[]):=by
 rw [ab (af:=uW) rfl]
 unfold wy at h
 simp+decide only [uW,K0,go_sem,reduceIte,Nat.reduceAdd]
 have d1:= @a3y
 have d2:= @II
 have d3:= @PG
 have d4:= @ut
 have d5:= @SN
 have d6:= @iX
 have d7:= @gk
 have d8:= @DH
 have d9:= @Qd
 all_goals exact go
end
def pa (ListtoArray a:(List Ext)) (a2:Setting) (a3:Source):Option (aC×Source×Int):=
 br (decide (((ListtoArray.length:Nat):Int)>4096)) (
 some ((aC.mk ([]:List (List Ext)) ([]:List (List UInt8)) (Ext.mk 0 0) 0 ([]:List aq)),(Source.mk ([]:List Ext) 0 (([]:List UInt8)) 0),2)) (
 br (decide (((a.length:Nat):Int)>4096)) (
 some ((aC.mk ([]:List (List Ext)) ([]:List (List UInt8)) (Ext.mk 0 0) 0 ([]:List aq)),(Source.mk ([]:List Ext) 0 (([]:List UInt8)) 0),2)) (
 (sn ListtoArray).bind fun r_=>
 br (!r_) (
 some ((aC.mk ([]:List (List Ext)) ([]:List (List UInt8)) (Ext.mk 0 0) 0 ([]:List aq)),(Source.mk ([]:List Ext) 0 (([]:List UInt8)) 0),1)) (
 (o4 a).bind fun r_2=>
 br (!r_2) (
 some ((aC.mk ([]:List (List Ext)) ([]:List (List UInt8)) (Ext.mk 0 0) 0 ([]:List aq)),(Source.mk ([]:List Ext) 0 (([]:List UInt8)) 0),1)) (
 (jJ a2).bind fun r_3=>
 br (!r_3) (
 some ((aC.mk ([]:List (List Ext)) ([]:List (List UInt8)) (Ext.mk 0 0) 0 ([]:List aq)),(Source.mk ([]:List Ext) 0 (([]:List UInt8)) 0),1)) (
 (lW a3).bind fun r_4=>
 br (!r_4) (
 some ((aC.mk ([]:List (List Ext)) ([]:List (List UInt8)) (Ext.mk 0 0) 0 ([]:List aq)),(Source.mk ([]:List Ext) 0 (([]:List UInt8)) 0),1)) (
 (sh ((ListtoArray.length:Nat):Int)).bind fun r_5=>
 br (!r_5) (
 some ((aC.mk ([]:List (List Ext)) ([]:List (List UInt8)) (Ext.mk 0 0) 0 ([]:List aq)),(Source.mk ([]:List Ext) 0 (([]:List UInt8)) 0),4)) (
 br (decide (0≤(wrap .u64 ((a.length:Nat):Int)))) (
 br (((ListtoArray.length:Nat):Int) !=(bX .i64 1 (wrap .u64 ((a.length:Nat):Int)))) (
 some ((aC.mk ([]:List (List Ext)) ([]:List (List UInt8)) (Ext.mk 0 0) 0 ([]:List aq)),(Source.mk ([]:List Ext) 0 (([]:List UInt8)) 0),8)) (
 (jN a3 100).bind fun r_6=>
 br r_6 (
 some ((aC.mk ([]:List (List Ext)) ([]:List (List UInt8)) (Ext.mk 0 0) 0 ([]:List aq)),(Source.mk ([]:List Ext) 0 (([]:List UInt8)) 0),6)) (
 (wy ListtoArray a a2 a3).bind fun r_7=>
 br (!r_7.2.2) (
 some ((aC.mk ([]:List (List Ext)) ([]:List (List UInt8)) (Ext.mk 0 0) 0 ([]:List aq)),(Source.mk ([]:List Ext) 0 (([]:List UInt8)) 0),14)) (
 (pz r_7.2.1).bind fun r_8=>
 some (r_7.1,r_8,0))))) none)))))))
theorem Q3 {ListtoArray a a2 a3 r} (h:pa ListtoArray a a2 a3=some r):Call tab ow 16 [sl ag ListtoArray,sl ag a,.agg [I a2.Rate,I a2.Queries,I a2.Grind],.agg [sl ag a3.Script,I a3.At,S a3.State,I a3.Count]] []=some (.tup [.agg [sl (eL ag) r.1.Rounds,sl eS r.1.Roots,I r.1.Last.A,I r.1.Last.B,I r.1.Nonce,sl aQ r.1.Queries],.agg [sl ag r.2.1.Script,I r.2.1.At,S r.2.1.State,I r.2.1.Count],I r.2.2],[]):=by
 rw [ab (af:=oo) rfl]
 unfold pa at h
 simp+decide only [oo,Db,go_sem,reduceIte,Nat.reduceAdd]
 have d1:= @Km
 have d2:= @Fb
 have d3:= @wc
 have d4:= @FQ
 have d5:= @K7
 have d6:= @GW
 have d7:= @X1
 have d8:= @ED
 all_goals exact go
def fG (a2 b2:List Ext):Int→Option ((Int)⊕(Unit⊕(Int×Bool)))
 |i=>
  br (decide (i<((a2.length:Nat):Int))) (
  (atL a2 i).bind fun x=>
  (atL b2 i).bind fun x2=>
  br (x.A==x2.A) (
  br (x.B==x2.B) (
  some (.inl (wrap .i64 (i+1)))) (
  some (.inr (.inl ())))) (
  some (.inr (.inl ())))) (
  some (.inr (.inr (i,decide (i<((a2.length:Nat):Int))))))
abbrev AO (a2 b2:List Ext) (s:Int):St:=⟨[(0,sl ag a2),(1,sl ag b2),(5,I s)],[]⟩
abbrev AQ (a2 b2:List Ext):(Unit⊕(Int×Bool))→ai×St:=alt (fun e=>((.ret,⟨[(4,B false)],[]⟩):ai×St)) (fun e=>(.exit 0,⟨[(0,sl ag a2),(1,sl ag b2),(5,I e.1),(14,B e.2)],[]⟩))
theorem MC {a2 b2 s e} (h:Loop (fG a2 b2) s=some e):aD tab ow (.close []) sL (AO a2 b2 s)=some (AQ a2 b2 e):=by
 refine lrG (fun s o h=> ?_) h
 simp only [fG] at h
 simp+decide only [AO,AQ,sL,go_sem,reduceIte,Nat.reduceAdd]
 all_goals exact go
def ma (a b:(List Ext)):Option (Bool):=
 br (((a.length:Nat):Int) !=((b.length:Nat):Int)) (
 some false) (
 (Loop (fG a b) 0).bind (alt (fun e_2=>
 some false) (fun e_3=>
 some true)))
theorem yr {a b r} (h:ma a b=some r):Call tab ow 86 [sl ag a,sl ag b] []=some (B r,[]):=by
 rw [ab (af:=qQ) rfl]
 unfold ma at h
 simp+decide only [qQ,GF,go_sem,reduceIte,Nat.reduceAdd]
 have d1:= @MC
 all_goals exact go
def dO (a2 b2:List (List Ext)):Int→Option ((Int)⊕(Unit⊕(Int×Bool)))
 |i=>
  br (decide (i<((a2.length:Nat):Int))) (
  (atL a2 i).bind fun x=>
  (atL b2 i).bind fun x2=>
  (ma x x2).bind fun r_=>
  br (!r_) (
  some (.inr (.inl ()))) (
  some (.inl (wrap .i64 (i+1))))) (
  some (.inr (.inr (i,decide (i<((a2.length:Nat):Int))))))
abbrev xC (a2 b2:List (List Ext)) (s:Int):St:=⟨[(0,sl (eL ag) a2),(1,sl (eL ag) b2),(5,I s)],[]⟩
abbrev xF (a2 b2:List (List Ext)):(Unit⊕(Int×Bool))→ai×St:=alt (fun e=>((.ret,⟨[(4,B false)],[]⟩):ai×St)) (fun e=>(.exit 0,⟨[(0,sl (eL ag) a2),(1,sl (eL ag) b2),(5,I e.1),(14,B e.2)],[]⟩))
theorem Hp {a2 b2 s e} (h:Loop (dO a2 b2) s=some e):aD tab ow (.close [7008]) nO (xC a2 b2 s)=some (xF a2 b2 e):=by
 refine lrG (fun s o h=> ?_) h
 simp only [dO] at h
 simp+decide only [xC,xF,nO,go_sem,reduceIte,Nat.reduceAdd]
 have d1:= @yr
 all_goals exact go
def mJ (a b:(List (List Ext))):Option (Bool):=
 br (((a.length:Nat):Int) !=((b.length:Nat):Int)) (
 some false) (
 (Loop (dO a b) 0).bind (alt (fun e_2=>
 some false) (fun e_3=>
 some true)))
theorem OD {a b r} (h:mJ a b=some r):Call tab ow 84 [sl (eL ag) a,sl (eL ag) b] []=some (B r,[]):=by
 rw [ab (af:=mY) rfl]
 unfold mJ at h
 simp+decide only [mY,Be,go_sem,reduceIte,Nat.reduceAdd]
 have d1:= @Hp
 all_goals exact go
def ew (a2 b2:List (List UInt8)):Int→Option ((Int)⊕(Unit⊕(Int×Bool)))
 |i=>
  br (decide (i<((a2.length:Nat):Int))) (
  (atL a2 i).bind fun x=>
  (atL b2 i).bind fun x2=>
  br (x !=x2) (
  some (.inr (.inl ()))) (
  some (.inl (wrap .i64 (i+1))))) (
  some (.inr (.inr (i,decide (i<((a2.length:Nat):Int))))))
abbrev zB (a2 b2:List (List UInt8)) (s:Int):St:=⟨[(0,sl eS a2),(1,sl eS b2),(5,I s)],[]⟩
abbrev zX (a2 b2:List (List UInt8)):(Unit⊕(Int×Bool))→ai×St:=alt (fun e=>((.ret,⟨[(4,B false)],[]⟩):ai×St)) (fun e=>(.exit 0,⟨[(0,sl eS a2),(1,sl eS b2),(5,I e.1),(14,B e.2)],[]⟩))
theorem KO {a2 b2 s e} (h:Loop (ew a2 b2) s=some e):aD tab ow (.close []) pU (zB a2 b2 s)=some (zX a2 b2 e):=by
 refine lrG (fun s o h=> ?_) h
 simp only [ew] at h
 simp+decide only [zB,zX,pU,go_sem,reduceIte,Nat.reduceAdd]
 all_goals exact go
def mo (a b:(List (List UInt8))):Option (Bool):=
 br (((a.length:Nat):Int) !=((b.length:Nat):Int)) (
 some false) (
 (Loop (ew a b) 0).bind (alt (fun e_2=>
 some false) (fun e_3=>
 some true)))
theorem CF {a b r} (h:mo a b=some r):Call tab ow 85 [sl eS a,sl eS b] []=some (B r,[]):=by
 rw [ab (af:=oi) rfl]
 unfold mo at h
 simp+decide only [oi,CL,go_sem,reduceIte,Nat.reduceAdd]
 have d1:= @KO
 all_goals exact go
def dp (t2:Int) (c13:List (List Ext)) (c14:List (List UInt8)) (c15 c16 c17:Int) (c18:List aq) (c19:List (List Ext)) (c20:List (List UInt8)) (c21 c22 c23:Int) (c24:List aq) (c25:List Ext) (c26:List (List (List UInt8))) (c27:List Ext) (c28:List (List (List UInt8))):Int→Option ((Int)⊕(Unit⊕(Int×Bool)))
 |t3=>
  br (decide (t3<((c26.length:Nat):Int))) (
  (atL c26 t3).bind fun x3=>
  (atL c28 t3).bind fun x4=>
  (mo x3 x4).bind fun r_4=>
  br (!r_4) (
  some (.inr (.inl ()))) (
  some (.inl (wrap .i64 (t3+1))))) (
  some (.inr (.inr (t3,decide (t3<((c26.length:Nat):Int))))))
abbrev jj (c13:List (List Ext)) (c14:List (List UInt8)) (c15 c16 c17:Int) (c18:List aq) (c19:List (List Ext)) (c20:List (List UInt8)) (c21 c22 c23:Int) (c24:List aq) (c25:List Ext) (c26:List (List (List UInt8))) (c27:List Ext) (c28:List (List (List UInt8))):List (Nat×Blk):=[(1000,⟨6,true,[[sl (eL ag) c13,sl eS c14,I c15,I c16,I c17,sl aQ c18]]⟩),(1001,⟨6,true,[[sl (eL ag) c19,sl eS c20,I c21,I c22,I c23,sl aQ c24]]⟩),(7005,⟨2,true,[[sl ag c25,sl (eL eS) c26]]⟩),(8005,⟨2,true,[[sl ag c27,sl (eL eS) c28]]⟩)]
abbrev uH (t2:Int) (c13:List (List Ext)) (c14:List (List UInt8)) (c15 c16 c17:Int) (c18:List aq) (c19:List (List Ext)) (c20:List (List UInt8)) (c21 c22 c23:Int) (c24:List aq) (c25:List Ext) (c26:List (List (List UInt8))) (c27:List Ext) (c28:List (List (List UInt8))) (s:Int):St:=⟨[(2,.ptr 1000 0 0 1),(3,.ptr 1001 0 0 1),(5,I t2),(6,.ptr 7005 0 0 1),(7,.ptr 8005 0 0 1),(8,I s)],jj c13 c14 c15 c16 c17 c18 c19 c20 c21 c22 c23 c24 c25 c26 c27 c28⟩
abbrev va (t2:Int) (c13:List (List Ext)) (c14:List (List UInt8)) (c15 c16 c17:Int) (c18:List aq) (c19:List (List Ext)) (c20:List (List UInt8)) (c21 c22 c23:Int) (c24:List aq) (c25:List Ext) (c26:List (List (List UInt8))) (c27:List Ext) (c28:List (List (List UInt8))):(Unit⊕(Int×Bool))→ai×St:=alt (fun e=>((.ret,⟨[(4,B false)],jj c13 c14 c15 c16 c17 c18 c19 c20 c21 c22 c23 c24 c25 c26 c27 c28⟩):ai×St)) (fun e=>(.exit 2,⟨[(2,.ptr 1000 0 0 1),(3,.ptr 1001 0 0 1),(5,I t2),(6,.ptr 7005 0 0 1),(7,.ptr 8005 0 0 1),(8,I e.1),(82,B e.2)],jj c13 c14 c15 c16 c17 c18 c19 c20 c21 c22 c23 c24 c25 c26 c27 c28⟩))
theorem Gm {t2 c13 c14 c15 c16 c17 c18 c19 c20 c21 c22 c23 c24 c25 c26 c27 c28 s e} (h:Loop (dp t2 c13 c14 c15 c16 c17 c18 c19 c20 c21 c22 c23 c24 c25 c26 c27 c28) s=some e):aD tab ow (.close [14010]) lR (uH t2 c13 c14 c15 c16 c17 c18 c19 c20 c21 c22 c23 c24 c25 c26 c27 c28 s)=some (va t2 c13 c14 c15 c16 c17 c18 c19 c20 c21 c22 c23 c24 c25 c26 c27 c28 e):=by
 refine lrG (fun s o h=> ?_) h
 simp only [dp] at h
 simp+decide only [uH,va,jj,lR,go_sem,reduceIte,Nat.reduceAdd]
 have d1:= @CF
 all_goals exact go
def dv (c:List (List Ext)) (c2:List (List UInt8)) (c3 c4 c5:Int) (c6:List aq) (c7:List (List Ext)) (c8:List (List UInt8)) (c9 c10 c11:Int) (c12:List aq):Int→Option ((Int)⊕(((List Ext)×(List (List (List UInt8)))×(List Ext)×(List (List (List UInt8))))⊕(Int×Bool)))
 |t=>
  br (decide (t<((c6.length:Nat):Int))) (
  (atL c6 t).bind fun x=>
  (atL c12 t).bind fun x2=>
  (ma x.Pairs x2.Pairs).bind fun r_3=>
  br (!r_3) (
  some (.inr (.inl (x.Pairs,x.Paths,x2.Pairs,x2.Paths)))) (
  br (((x.Paths.length:Nat):Int) !=((x2.Paths.length:Nat):Int)) (
  some (.inr (.inl (x.Pairs,x.Paths,x2.Pairs,x2.Paths)))) (
  (Loop (dp t c c2 c3 c4 c5 c6 c7 c8 c9 c10 c11 c12 x.Pairs x.Paths x2.Pairs x2.Paths) 0).bind (alt (fun e_2=>
  some (.inr (.inl (x.Pairs,x.Paths,x2.Pairs,x2.Paths)))) (fun e_3=>
  some (.inl (wrap .i64 (t+1)))))))) (
  some (.inr (.inr (t,decide (t<((c6.length:Nat):Int))))))
abbrev nb (c:List (List Ext)) (c2:List (List UInt8)) (c3 c4 c5:Int) (c6:List aq) (c7:List (List Ext)) (c8:List (List UInt8)) (c9 c10 c11:Int) (c12:List aq):List (Nat×Blk):=[(1000,⟨6,true,[[sl (eL ag) c,sl eS c2,I c3,I c4,I c5,sl aQ c6]]⟩),(1001,⟨6,true,[[sl (eL ag) c7,sl eS c8,I c9,I c10,I c11,sl aQ c12]]⟩)]
abbrev vh (c:List (List Ext)) (c2:List (List UInt8)) (c3 c4 c5:Int) (c6:List aq) (c7:List (List Ext)) (c8:List (List UInt8)) (c9 c10 c11:Int) (c12:List aq) (s:Int):St:=⟨[(2,.ptr 1000 0 0 1),(3,.ptr 1001 0 0 1),(5,I s)],nb c c2 c3 c4 c5 c6 c7 c8 c9 c10 c11 c12⟩
abbrev um (c:List (List Ext)) (c2:List (List UInt8)) (c3 c4 c5:Int) (c6:List aq) (c7:List (List Ext)) (c8:List (List UInt8)) (c9 c10 c11:Int) (c12:List aq):(((List Ext)×(List (List (List UInt8)))×(List Ext)×(List (List (List UInt8))))⊕(Int×Bool))→ai×St:=alt (fun e=>((.ret,⟨[(4,B false)],[(1000,⟨6,true,[[sl (eL ag) c,sl eS c2,I c3,I c4,I c5,sl aQ c6]]⟩),(1001,⟨6,true,[[sl (eL ag) c7,sl eS c8,I c9,I c10,I c11,sl aQ c12]]⟩),(7005,⟨2,true,[[sl ag e.1,sl (eL eS) e.2.1]]⟩),(8005,⟨2,true,[[sl ag e.2.2.1,sl (eL eS) e.2.2.2]]⟩)]⟩):ai×St)) (fun e=>(.exit 0,⟨[(2,.ptr 1000 0 0 1),(3,.ptr 1001 0 0 1),(5,I e.1),(50,B e.2)],nb c c2 c3 c4 c5 c6 c7 c8 c9 c10 c11 c12⟩))
theorem EW {c c2 c3 c4 c5 c6 c7 c8 c9 c10 c11 c12 s e} (h:Loop (dv c c2 c3 c4 c5 c6 c7 c8 c9 c10 c11 c12) s=some e):aD tab ow (.close [7005,8005,9004,14010]) nf (vh c c2 c3 c4 c5 c6 c7 c8 c9 c10 c11 c12 s)=some (um c c2 c3 c4 c5 c6 c7 c8 c9 c10 c11 c12 e):=by
 refine lrG (fun s o h=> ?_) h
 simp only [dv] at h
 simp+decide only [vh,um,nb,nf,go_sem,reduceIte,Nat.reduceAdd]
 have d1:= @yr
 have d2:= @Gm
 all_goals exact go
def iK (ListtoArray a:aC):Option (Bool):=
 (mJ ListtoArray.Rounds a.Rounds).bind fun r_=>
 br (!r_) (
 some false) (
 (mo ListtoArray.Roots a.Roots).bind fun r_2=>
 br (!r_2) (
 some false) (
 br (ListtoArray.Last.A==a.Last.A) (
 br (ListtoArray.Last.B==a.Last.B) (
 br (ListtoArray.Nonce !=a.Nonce) (
 some false) (
 br (((ListtoArray.Queries.length:Nat):Int) !=((a.Queries.length:Nat):Int)) (
 some false) (
 (Loop (dv ListtoArray.Rounds ListtoArray.Roots ListtoArray.Last.A ListtoArray.Last.B ListtoArray.Nonce ListtoArray.Queries a.Rounds a.Roots a.Last.A a.Last.B a.Nonce a.Queries) 0).bind (alt (fun e_5=>
 some false) (fun e_6=>
 some true))))) (
 some false)) (
 some false)))
theorem KA {ListtoArray a r} (h:iK ListtoArray a=some r):Call tab ow 17 [.agg [sl (eL ag) ListtoArray.Rounds,sl eS ListtoArray.Roots,I ListtoArray.Last.A,I ListtoArray.Last.B,I ListtoArray.Nonce,sl aQ ListtoArray.Queries],.agg [sl (eL ag) a.Rounds,sl eS a.Roots,I a.Last.A,I a.Last.B,I a.Nonce,sl aQ a.Queries]] []=some (B r,[]):=by
 rw [ab (af:=le) rfl]
 unfold iK at h
 simp+decide only [le,zM,go_sem,reduceIte,Nat.reduceAdd]
 have d1:= @OD
 have d2:= @CF
 have d3:= @EW
 all_goals exact go
def km (a b:Source):Option (Bool):=
 (ma a.Script b.Script).bind fun r_=>
 br r_ (
 br (a.At==b.At) (
 br (a.State==b.State) (
 some (a.Count==b.Count)) (
 some false)) (
 some false)) (
 some false)
theorem LI {a b r} (h:km a b=some r):Call tab ow 18 [.agg [sl ag a.Script,I a.At,S a.State,I a.Count],.agg [sl ag b.Script,I b.At,S b.State,I b.Count]] []=some (B r,[]):=by
 rw [ab (af:=mI) rfl]
 unfold km at h
 simp+decide only [mI,AX,go_sem,reduceIte,Nat.reduceAdd]
 have d1:= @yr
 all_goals exact go
end
end Go.AI.Fn
set_option linter.unusedVariables false
set_option linter.unusedSimpArgs false
set_option maxRecDepth 100000
set_option maxHeartbeats 1000000
namespace Go.AI.Fn
noncomputable section
open IntKind (wrap)
def rR (b2 t:List Ext) (t2 c c2:Int):Int×Int×Int→Option ((Int×Int×Int)⊕((Int×Bool×Int×Int)))
 | (t3,c3,c4)=>
   br (decide (t3<t2)) (
   (atL t t3).bind fun x=>
   (atL b2 t3).bind fun x2=>
   (bY x x2).bind fun r_=>
   (du (Ext.mk c3 c4) r_).bind fun r_2=>
   some (.inl ((wrap .i64 (t3+1)),r_2.A,r_2.B))) (
   some (.inr (t3,decide (t3<t2),c3,c4)))
abbrev IA (c c2 c3 c4:Int):List (Nat×Blk):=[(1000,⟨2,true,[[I c,I c2]]⟩),(2001,⟨2,true,[[I c3,I c4]]⟩)]
abbrev R8 (b2 t:List Ext) (t2 c c2:Int) (s:Int×Int×Int):St:=⟨[(1,sl ag b2),(4,.ptr 1000 0 0 1),(5,.ptr 2001 0 0 1),(9,sl ag t),(10,I t2),(11,I s.1)],IA c c2 s.2.1 s.2.2⟩
abbrev R0 (b2 t:List Ext) (t2 c c2:Int):(Int×Bool×Int×Int)→ai×St:=fun e=>(.exit 0,⟨[(1,sl ag b2),(4,.ptr 1000 0 0 1),(5,.ptr 2001 0 0 1),(9,sl ag t),(10,I t2),(11,I e.1),(12,B e.2.1)],IA c c2 e.2.2.1 e.2.2.2⟩)
theorem a3w {b2 t t2 c c2 s e} (h:Loop (rR b2 t t2 c c2) s=some e):aD tab ow (.close [5003,6006,6007]) Ic (R8 b2 t t2 c c2 s)=some (R0 b2 t t2 c c2 e):=by
 refine lrG (fun s o h=> ?_) h
 obtain ⟨_,_,_⟩:=s
 simp only [rR] at h
 simp+decide only [R8,R0,IA,Ic,go_sem,reduceIte,Nat.reduceAdd]
 have d1:= @eX
 have d2:= @eT
 all_goals exact go
def WS (a b:(List Ext)):Option (Ext):=
 (Loop (rR b a ((a.length:Nat):Int) 0 0) (0,0,0)).bind fun e_=>
 some (Ext.mk e_.2.2.1 e_.2.2.2)
theorem a8L {a b r} (h:WS a b=some r):Call tab ow 87 [sl ag a,sl ag b] []=some (.agg [I r.A,I r.B],[]):=by
 rw [ab (af:=Ld) rfl]
 unfold WS at h
 simp+decide only [Ld,a0S,go_sem,reduceIte,Nat.reduceAdd]
 have d1:= @a3w
 all_goals exact go
def sf (table point:(List Ext)):Option (Ext×Int):=
 br (decide (((table.length:Nat):Int)>4096)) (
 some ((Ext.mk 0 0),2)) (
 br (decide (((point.length:Nat):Int)>4096)) (
 some ((Ext.mk 0 0),2)) (
 (mu table).bind fun r_=>
 br (!r_) (
 some ((Ext.mk 0 0),1)) (
 (rQ point).bind fun r_2=>
 br (!r_2) (
 some ((Ext.mk 0 0),1)) (
 br (decide (0≤((point.length:Nat):Int))) (
 br (((table.length:Nat):Int) !=(bX .i64 1 ((point.length:Nat):Int))) (
 some ((Ext.mk 0 0),8)) (
 (rT point).bind fun r_3=>
 (WS table r_3).bind fun r_4=>
 some (r_4,0))) none))))
theorem Vg {table point r} (h:sf table point=some r):Call tab ow 19 [sl ag table,sl ag point] []=some (.tup [.agg [I r.1.A,I r.1.B],I r.2],[]):=by
 rw [ab (af:=ve) rfl]
 unfold sf at h
 simp+decide only [ve,IU,go_sem,reduceIte,Nat.reduceAdd]
 have d1:= @Bj
 have d2:= @Ko
 have d3:= @IZ
 have d4:= @a8L
 all_goals exact go
def EO (t:(List UInt8)):Option (Bool):=
 some (decide (((t.length:Nat):Int)>65536))
theorem YQ {t r} (h:EO t=some r):Call tab ow 89 [S t] []=some (B r,[]):=by
 rw [ab (af:=xM) rfl]
 unfold EO at h
 simp+decide only [xM,Ly,go_sem,reduceIte,Nat.reduceAdd]
 all_goals exact go
def kR (round:(List Ext)) (m:Int):Option (Bool×Int):=
 br (((round.length:Nat):Int) !=m) (
 some (true,m)) (
 (bW round).bind fun r_=>
 some ((!r_),m))
theorem L6 {round m r} (h:kR round m=some r):Call tab ow 204 [sl ag round,.ptr 0 0 0 1] [⟨1,true,[[I m]]⟩]=some (B r.1,[⟨1,true,[[I r.2]]⟩]):=by
 rw [ab (af:=lh) rfl]
 unfold kR at h
 simp+decide only [lh,zI,go_sem,reduceIte,Nat.reduceAdd]
 have d1:= @dz
 all_goals exact go
def bg (s2:List (List Ext)) (t:Int):Int×Int→Option ((Int×Int)⊕((Int×Int)⊕(Int×Bool×Int)))
 | (t2,c)=>
   br (decide (t2<t)) (
   (atL s2 t2).bind fun x=>
   (kR x c).bind fun r_=>
   br r_.1 (
   some (.inr (.inl (t2,r_.2)))) (
   some (.inl ((wrap .i64 (t2+1)),r_.2)))) (
   some (.inr (.inr (t2,decide (t2<t),c))))
abbrev cN (s2:List (List Ext)) (t:Int) (s:Int×Int):St:=⟨[(0,sl (eL ag) s2),(1,.fn 204 [.ptr 0 0 0 1]),(7,I t),(8,I s.1)],[(0,⟨1,true,[[I s.2]]⟩)]⟩
abbrev cM (s2:List (List Ext)) (t:Int):((Int×Int)⊕(Int×Bool×Int))→ai×St:=alt (fun e=>((.ret,⟨[(4,I e.1)],[(0,⟨1,true,[[I e.2]]⟩)]⟩):ai×St)) (fun e=>(.exit 0,⟨[(0,sl (eL ag) s2),(1,.fn 204 [.ptr 0 0 0 1]),(7,I t),(8,I e.1),(9,B e.2.1)],[(0,⟨1,true,[[I e.2.2]]⟩)]⟩))
theorem g7 {s2 t s e} (h:Loop (bg s2 t) s=some e):aD tab ow (.close [5005]) cR (cN s2 t s)=some (cM s2 t e):=by
 refine lrG (fun s o h=> ?_) h
 obtain ⟨_,_⟩:=s
 simp only [bg] at h
 simp+decide only [cN,cM,cR,go_sem,reduceIte,Nat.reduceAdd]
 have d1:= @L6
 all_goals exact go
def bu (s:(List (List Ext))) (m:Int):Option (Int×Int):=
 (Loop (bg s ((s.length:Nat):Int)) (0,m)).bind (alt (fun e_2=>
 some (e_2.1,e_2.2)) (fun e_3=>
 some ((-1:Int),e_3.2.2)))
theorem gD {s m r} (h:bu s m=some r):Call tab ow 300 [sl (eL ag) s,.fn 204 [.ptr 0 0 0 1]] [⟨1,true,[[I m]]⟩]=some (I r.1,[⟨1,true,[[I r.2]]⟩]):=by
 rw [ab (af:=cg) rfl]
 unfold bu at h
 simp+decide only [cg,fR,go_sem,reduceIte,Nat.reduceAdd]
 have d1:= @g7
 all_goals exact go
def bk (s:(List (List Ext))) (m:Int):Option (Bool×Int):=
 (bu s m).bind fun r_=>
 some (decide (r_.1≥0),r_.2)
theorem fT {s m r} (h:bk s m=some r):Call tab ow 203 [sl (eL ag) s,.fn 204 [.ptr 0 0 0 1]] [⟨1,true,[[I m]]⟩]=some (B r.1,[⟨1,true,[[I r.2]]⟩]):=by
 rw [ab (af:=bR) rfl]
 unfold bk at h
 simp+decide only [bR,eG,go_sem,reduceIte,Nat.reduceAdd]
 have d1:= @gD
 all_goals exact go
def p8 (rounds:(List (List Ext))) (many size:Int):Option (Bool):=
 br (((rounds.length:Nat):Int)==many) (
 (bk rounds size).bind fun r_=>
 some (!r_.1)) (
 some false)
theorem Qn {rounds many size r} (h:p8 rounds many size=some r):Call tab ow 98 [sl (eL ag) rounds,I many,I size] []=some (B r,[]):=by
 rw [ab (af:=oG) rfl]
 unfold p8 at h
 simp+decide only [oG,D7,go_sem,reduceIte,Nat.reduceAdd]
 have d1:= @fT
 all_goals exact go
def dL (x:(List UInt8)):Option (Bool):=
 (tD x).bind fun r_=>
 some (!r_)
theorem wz {x r} (h:dL x=some r):Call tab ow 206 [S x,.ptr 0 0 0 1] [⟨1,true,[[.fn 100 []]]⟩]=some (B r,[⟨1,true,[[.fn 100 []]]⟩]):=by
 rw [ab (af:=jY) rfl]
 unfold dL at h
 simp+decide only [jY,xw,go_sem,reduceIte,Nat.reduceAdd]
 have d1:= @EF
 all_goals exact go
def aN (s2:List (List UInt8)) (t:Int):Int→Option ((Int)⊕(Int⊕(Int×Bool)))
 |t2=>
  br (decide (t2<t)) (
  (atL s2 t2).bind fun x=>
  (dL x).bind fun r_=>
  br r_ (
  some (.inr (.inl t2))) (
  some (.inl (wrap .i64 (t2+1))))) (
  some (.inr (.inr (t2,decide (t2<t)))))
abbrev cf (s2:List (List UInt8)) (t s:Int):St:=⟨[(0,sl eS s2),(1,.fn 206 [.ptr 0 0 0 1]),(7,I t),(8,I s)],[(0,⟨1,true,[[.fn 100 []]]⟩)]⟩
abbrev ce (s2:List (List UInt8)) (t:Int):(Int⊕(Int×Bool))→ai×St:=alt (fun e=>((.ret,⟨[(4,I e)],[(0,⟨1,true,[[.fn 100 []]]⟩)]⟩):ai×St)) (fun e=>(.exit 0,⟨[(0,sl eS s2),(1,.fn 206 [.ptr 0 0 0 1]),(7,I t),(8,I e.1),(9,B e.2)],[(0,⟨1,true,[[.fn 100 []]]⟩)]⟩))
theorem ee {s2 t s e} (h:Loop (aN s2 t) s=some e):aD tab ow (.close [5005]) bB (cf s2 t s)=some (ce s2 t e):=by
 refine lrG (fun s o h=> ?_) h
 simp only [aN] at h
 simp+decide only [cf,ce,bB,go_sem,reduceIte,Nat.reduceAdd]
 have d1:= @wz
 all_goals exact go
def aU (s:(List (List UInt8))):Option (Int):=
 (Loop (aN s ((s.length:Nat):Int)) 0).bind (alt (fun e_2=>
 some e_2) (fun e_3=>
 some (-1:Int)))
theorem eO {s r} (h:aU s=some r):Call tab ow 301 [sl eS s,.fn 206 [.ptr 0 0 0 1]] [⟨1,true,[[.fn 100 []]]⟩]=some (I r,[⟨1,true,[[.fn 100 []]]⟩]):=by
 rw [ab (af:=bp) rfl]
 unfold aU at h
 simp+decide only [bp,dh,go_sem,reduceIte,Nat.reduceAdd]
 have d1:= @ee
 all_goals exact go
def aP (s:(List (List UInt8))):Option (Bool):=
 (aU s).bind fun r_=>
 some (decide (r_≥0))
theorem ec {s r} (h:aP s=some r):Call tab ow 205 [sl eS s,.fn 206 [.ptr 0 0 0 1]] [⟨1,true,[[.fn 100 []]]⟩]=some (B r,[⟨1,true,[[.fn 100 []]]⟩]):=by
 rw [ab (af:=aZ) rfl]
 unfold aP at h
 simp+decide only [aZ,cL,go_sem,reduceIte,Nat.reduceAdd]
 have d1:= @eO
 all_goals exact go
def dA (list:(List (List UInt8))):Option (Bool):=
 (aP list).bind fun r_=>
 some (!r_)
theorem nA {list r} (h:dA list=some r):Call tab ow 99 [.fn 100 [],sl eS list] []=some (B r,[]):=by
 rw [ab (af:=n8) rfl]
 unfold dA at h
 simp+decide only [n8,AE,go_sem,reduceIte,Nat.reduceAdd]
 have d1:= @ec
 all_goals exact go
def ge (vars2:Int) (t2:List (List (List UInt8))) (t3:Int) (c:List Ext) (c2:List (List (List UInt8))) (c3 c4 c5:Int):Int→Option ((Int)⊕(Unit⊕(Int×Bool)))
 |t4=>
  br (decide (t4<t3)) (
  (atL t2 t4).bind fun x=>
  br (((x.length:Nat):Int) !=(wrap .i64 ((wrap .i64 ((wrap .i64 (vars2+c3))-1))-t4))) (
  some (.inr (.inl ()))) (
  (dA x).bind fun r_2=>
  br (!r_2) (
  some (.inr (.inl ()))) (
  some (.inl (wrap .i64 (t4+1)))))) (
  some (.inr (.inr (t4,decide (t4<t3)))))
abbrev oZ (c:List Ext) (c2:List (List (List UInt8))) (c3 c4 c5:Int):List (Nat×Blk):=[(1000,⟨2,true,[[sl ag c,sl (eL eS) c2]]⟩),(1001,⟨3,true,[[I c3,I c4,I c5]]⟩)]
abbrev CE (vars2:Int) (t2:List (List (List UInt8))) (t3:Int) (c:List Ext) (c2:List (List (List UInt8))) (c3 c4 c5 s:Int):St:=⟨[(1,I vars2),(5,.ptr 1001 0 0 1),(29,sl (eL eS) t2),(30,I t3),(31,I s)],oZ c c2 c3 c4 c5⟩
abbrev CH (vars2:Int) (t2:List (List (List UInt8))) (t3:Int) (c:List Ext) (c2:List (List (List UInt8))) (c3 c4 c5:Int):(Unit⊕(Int×Bool))→ai×St:=alt (fun e=>((.ret,⟨[(6,B false)],oZ c c2 c3 c4 c5⟩):ai×St)) (fun e=>(.exit 0,⟨[(1,I vars2),(5,.ptr 1001 0 0 1),(29,sl (eL eS) t2),(30,I t3),(31,I e.1),(32,B e.2)],oZ c c2 c3 c4 c5⟩))
theorem Q5 {vars2 t2 t3 c c2 c3 c4 c5 s e} (h:Loop (ge vars2 t2 t3 c c2 c3 c4 c5) s=some e):aD tab ow (.close [7012]) vM (CE vars2 t2 t3 c c2 c3 c4 c5 s)=some (CH vars2 t2 t3 c c2 c3 c4 c5 e):=by
 refine lrG (fun s o h=> ?_) h
 simp only [ge] at h
 simp+decide only [CE,CH,oZ,vM,go_sem,reduceIte,Nat.reduceAdd]
 have d1:= @nA
 all_goals exact go
def rV (q:aq) (vars:Int) (t:Setting):Option (Bool):=
 br (((q.Pairs.length:Nat):Int) !=(wrap .i64 (2*vars))) (
 some false) (
 (bW q.Pairs).bind fun r_=>
 br (!r_) (
 some false) (
 br (((q.Paths.length:Nat):Int) !=vars) (
 some false) (
 (Loop (ge vars q.Paths ((q.Paths.length:Nat):Int) q.Pairs q.Paths t.Rate t.Queries t.Grind) 0).bind (alt (fun e_2=>
 some false) (fun e_3=>
 some true)))))
theorem WM {q vars t r} (h:rV q vars t=some r):Call tab ow 103 [.agg [sl ag q.Pairs,sl (eL eS) q.Paths],I vars,.agg [I t.Rate,I t.Queries,I t.Grind]] []=some (B r,[]):=by
 rw [ab (af:=uT) rfl]
 unfold rV at h
 simp+decide only [uT,J9,go_sem,reduceIte,Nat.reduceAdd]
 have d1:= @dz
 have d2:= @Q5
 all_goals exact go
def oL (q:aq) (m:Int) (m2:Setting):Option (Bool×Int×Setting):=
 (rV q m m2).bind fun r_=>
 some (r_,m,m2)
theorem KL {q m m2 r} (h:oL q m m2=some r):Call tab ow 102 [.agg [sl ag q.Pairs,sl (eL eS) q.Paths],.ptr 0 0 0 1,.ptr 1 0 0 1] [⟨1,true,[[I m]]⟩,⟨3,true,[[I m2.Rate,I m2.Queries,I m2.Grind]]⟩]=some (B r.1,[⟨1,true,[[I r.2.1]]⟩,⟨3,true,[[I r.2.2.Rate,I r.2.2.Queries,I r.2.2.Grind]]⟩]):=by
 rw [ab (af:=lm) rfl]
 unfold oL at h
 simp+decide only [lm,zu,go_sem,reduceIte,Nat.reduceAdd]
 have d1:= @WM
 all_goals exact go
def bM (x:aq) (m:Int) (m2:Setting):Option (Bool×Int×Setting):=
 (oL x m m2).bind fun r_=>
 some ((!r_.1),r_.2.1,r_.2.2)
theorem pC {x m m2 r} (h:bM x m m2=some r):Call tab ow 208 [.agg [sl ag x.Pairs,sl (eL eS) x.Paths],.ptr 0 0 0 1] [⟨1,true,[[.fn 102 [.ptr 1 0 0 1,.ptr 2 0 0 1]]]⟩,⟨1,true,[[I m]]⟩,⟨3,true,[[I m2.Rate,I m2.Queries,I m2.Grind]]⟩]=some (B r.1,[⟨1,true,[[.fn 102 [.ptr 1 0 0 1,.ptr 2 0 0 1]]]⟩,⟨1,true,[[I r.2.1]]⟩,⟨3,true,[[I r.2.2.Rate,I r.2.2.Queries,I r.2.2.Grind]]⟩]):=by
 rw [ab (af:=jb) rfl]
 unfold bM at h
 simp+decide only [jb,v7,go_sem,reduceIte,Nat.reduceAdd]
 have d1:= @KL
 all_goals exact go
def aA (s2:List aq) (t:Int):Int×Int×Int×Int×Int→Option ((Int×Int×Int×Int×Int)⊕((Int×Int×Int×Int×Int)⊕(Int×Bool×Int×Int×Int×Int)))
 | (t2,c,c2,c3,c4)=>
   br (decide (t2<t)) (
   (atL s2 t2).bind fun x=>
   (bM x c (Setting.mk c2 c3 c4)).bind fun r_=>
   br r_.1 (
   some (.inr (.inl (t2,r_.2.1,r_.2.2.Rate,r_.2.2.Queries,r_.2.2.Grind)))) (
   some (.inl ((wrap .i64 (t2+1)),r_.2.1,r_.2.2.Rate,r_.2.2.Queries,r_.2.2.Grind)))) (
   some (.inr (.inr (t2,decide (t2<t),c,c2,c3,c4))))
abbrev aH (c c2 c3 c4:Int):List (Nat×Blk):=[(0,⟨1,true,[[.fn 102 [.ptr 1 0 0 1,.ptr 2 0 0 1]]]⟩),(1,⟨1,true,[[I c]]⟩),(2,⟨3,true,[[I c2,I c3,I c4]]⟩)]
abbrev bG (s2:List aq) (t:Int) (s:Int×Int×Int×Int×Int):St:=⟨[(0,sl aQ s2),(1,.fn 208 [.ptr 0 0 0 1]),(7,I t),(8,I s.1)],aH s.2.1 s.2.2.1 s.2.2.2.1 s.2.2.2.2⟩
abbrev bH (s2:List aq) (t:Int):((Int×Int×Int×Int×Int)⊕(Int×Bool×Int×Int×Int×Int))→ai×St:=alt (fun e=>((.ret,⟨[(4,I e.1)],aH e.2.1 e.2.2.1 e.2.2.2.1 e.2.2.2.2⟩):ai×St)) (fun e=>(.exit 0,⟨[(0,sl aQ s2),(1,.fn 208 [.ptr 0 0 0 1]),(7,I t),(8,I e.1),(9,B e.2.1)],aH e.2.2.1 e.2.2.2.1 e.2.2.2.2.1 e.2.2.2.2.2⟩))
theorem dl {s2 t s e} (h:Loop (aA s2 t) s=some e):aD tab ow (.close [5005]) cE (bG s2 t s)=some (bH s2 t e):=by
 refine lrG (fun s o h=> ?_) h
 obtain ⟨_,_,_,_,_⟩:=s
 simp only [aA] at h
 simp+decide only [bG,bH,aH,cE,go_sem,reduceIte,Nat.reduceAdd]
 have d1:= @pC
 all_goals exact go
def aK (s:(List aq)) (m:Int) (m2:Setting):Option (Int×Int×Setting):=
 (Loop (aA s ((s.length:Nat):Int)) (0,m,m2.Rate,m2.Queries,m2.Grind)).bind (alt (fun e_2=>
 some (e_2.1,e_2.2.1,(Setting.mk e_2.2.2.1 e_2.2.2.2.1 e_2.2.2.2.2))) (fun e_3=>
 some ((-1:Int),e_3.2.2.1,(Setting.mk e_3.2.2.2.1 e_3.2.2.2.2.1 e_3.2.2.2.2.2))))
theorem dE {s m m2 r} (h:aK s m m2=some r):Call tab ow 302 [sl aQ s,.fn 208 [.ptr 0 0 0 1]] [⟨1,true,[[.fn 102 [.ptr 1 0 0 1,.ptr 2 0 0 1]]]⟩,⟨1,true,[[I m]]⟩,⟨3,true,[[I m2.Rate,I m2.Queries,I m2.Grind]]⟩]=some (I r.1,[⟨1,true,[[.fn 102 [.ptr 1 0 0 1,.ptr 2 0 0 1]]]⟩,⟨1,true,[[I r.2.1]]⟩,⟨3,true,[[I r.2.2.Rate,I r.2.2.Queries,I r.2.2.Grind]]⟩]):=by
 rw [ab (af:=bV) rfl]
 unfold aK at h
 simp+decide only [bV,eW,go_sem,reduceIte,Nat.reduceAdd]
 have d1:= @dl
 all_goals exact go
def aJ (s:(List aq)) (m:Int) (m2:Setting):Option (Bool×Int×Setting):=
 (aK s m m2).bind fun r_=>
 some (decide (r_.1≥0),r_.2.1,r_.2.2)
theorem di {s m m2 r} (h:aJ s m m2=some r):Call tab ow 207 [sl aQ s,.fn 208 [.ptr 0 0 0 1]] [⟨1,true,[[.fn 102 [.ptr 1 0 0 1,.ptr 2 0 0 1]]]⟩,⟨1,true,[[I m]]⟩,⟨3,true,[[I m2.Rate,I m2.Queries,I m2.Grind]]⟩]=some (B r.1,[⟨1,true,[[.fn 102 [.ptr 1 0 0 1,.ptr 2 0 0 1]]]⟩,⟨1,true,[[I r.2.1]]⟩,⟨3,true,[[I r.2.2.Rate,I r.2.2.Queries,I r.2.2.Grind]]⟩]):=by
 rw [ab (af:=bL) rfl]
 unfold aJ at h
 simp+decide only [bL,dU,go_sem,reduceIte,Nat.reduceAdd]
 have d1:= @dE
 all_goals exact go
def dJ (list:(List aq)) (m:Int) (m2:Setting):Option (Bool×Int×Setting):=
 (aJ list m m2).bind fun r_=>
 some ((!r_.1),r_.2.1,r_.2.2)
theorem rv {list m m2 r} (h:dJ list m m2=some r):Call tab ow 101 [.fn 102 [.ptr 0 0 0 1,.ptr 1 0 0 1],sl aQ list] [⟨1,true,[[I m]]⟩,⟨3,true,[[I m2.Rate,I m2.Queries,I m2.Grind]]⟩]=some (B r.1,[⟨1,true,[[I r.2.1]]⟩,⟨3,true,[[I r.2.2.Rate,I r.2.2.Queries,I r.2.2.Grind]]⟩]):=by
 rw [ab (af:=lj) rfl]
 unfold dJ at h
 simp+decide only [lj,zL,go_sem,reduceIte,Nat.reduceAdd]
 have d1:= @di
 all_goals exact go
def mr (o_:aC) (vars:Int) (t:Setting):Option (Bool):=
 (ye vars 1 6).bind fun r_=>
 br r_ (
 (hZ t).bind fun r_2=>
 br r_2 (
 (p8 o_.Rounds vars 3).bind fun r_3=>
 br r_3 (
 br (((o_.Roots.length:Nat):Int)==(wrap .i64 (vars-1))) (
 (dA o_.Roots).bind fun r_4=>
 br r_4 (
 (rD o_.Last).bind fun r_5=>
 br r_5 (
 (ye o_.Nonce 0 65535).bind fun r_6=>
 br r_6 (
 br (((o_.Queries.length:Nat):Int)==t.Queries) (
 (dJ o_.Queries vars t).bind fun r_7=>
 some r_7.1) (
 some false)) (
 some false)) (
 some false)) (
 some false)) (
 some false)) (
 some false)) (
 some false)) (
 some false)
theorem Dz {o_ vars t r} (h:mr o_ vars t=some r):Call tab ow 25 [.agg [sl (eL ag) o_.Rounds,sl eS o_.Roots,I o_.Last.A,I o_.Last.B,I o_.Nonce,sl aQ o_.Queries],I vars,.agg [I t.Rate,I t.Queries,I t.Grind]] []=some (B r,[]):=by
 rw [ab (af:=oU) rfl]
 unfold mr at h
 simp+decide only [oU,D8,go_sem,reduceIte,Nat.reduceAdd]
 have d1:= @B9
 have d2:= @oO
 have d3:= @Qn
 have d4:= @nA
 have d5:= @BZ
 have d6:= @rv
 all_goals exact go
def ia (values3:List Ext) (i:Int) (t4:List Ext) (t5 t6 t7 c7 c8 c9 c10 c11 c12 c13 c14:Int):Int×Int×Int→Option ((Int×Int×Int)⊕((Int×Bool×Int×Int)))
 | (t8,c15,c16)=>
   br (decide (t8<t7)) (
   br (t8 !=i) (
   (cY (Ext.mk c7 c8) (Ext.mk t8 0)).bind fun r_=>
   (bY (Ext.mk c15 c16) r_).bind fun r_2=>
   (NT i t8).bind fun r_3=>
   (nG r_3).bind fun r_4=>
   (g8 r_2 r_4).bind fun r_5=>
   some (.inl ((wrap .i64 (t8+1)),r_5.A,r_5.B))) (
   some (.inl ((wrap .i64 (t8+1)),c15,c16)))) (
   some (.inr (t8,decide (t8<t7),c15,c16)))
abbrev yX (c7 c8 c9 c10 c11 c12 c13 c14 c15 c16:Int):List (Nat×Blk):=[(1000,⟨2,true,[[I c7,I c8]]⟩),(1001,⟨2,true,[[I c9,I c10]]⟩),(2001,⟨2,true,[[I c11,I c12]]⟩),(5003,⟨2,true,[[I c13,I c14]]⟩),(6001,⟨2,true,[[I c15,I c16]]⟩)]
abbrev Gg (values3:List Ext) (i:Int) (t4:List Ext) (t5 t6 t7 c7 c8 c9 c10 c11 c12 c13 c14:Int) (s:Int×Int×Int):St:=⟨[(0,sl ag values3),(3,.ptr 1000 0 0 1),(4,.ptr 1001 0 0 1),(5,.ptr 2001 0 0 1),(6,I i),(8,.ptr 6001 0 0 1),(11,sl ag t4),(12,I t5),(13,I t6),(20,I t7),(21,I s.1)],yX c7 c8 c9 c10 c11 c12 c13 c14 s.2.1 s.2.2⟩
abbrev Hf (values3:List Ext) (i:Int) (t4:List Ext) (t5 t6 t7 c7 c8 c9 c10 c11 c12 c13 c14:Int):(Int×Bool×Int×Int)→ai×St:=fun e=>(.exit 2,⟨[(0,sl ag values3),(3,.ptr 1000 0 0 1),(4,.ptr 1001 0 0 1),(5,.ptr 2001 0 0 1),(6,I i),(8,.ptr 6001 0 0 1),(11,sl ag t4),(12,I t5),(13,I t6),(20,I t7),(21,I e.1),(22,B e.2.1)],yX c7 c8 c9 c10 c11 c12 c13 c14 e.2.2.1 e.2.2.2⟩)
theorem SB {values3 i t4 t5 t6 t7 c7 c8 c9 c10 c11 c12 c13 c14 s e} (h:Loop (ia values3 i t4 t5 t6 t7 c7 c8 c9 c10 c11 c12 c13 c14) s=some e):aD tab ow (.close [11004,11005,11008,11009,11010]) z6 (Gg values3 i t4 t5 t6 t7 c7 c8 c9 c10 c11 c12 c13 c14 s)=some (Hf values3 i t4 t5 t6 t7 c7 c8 c9 c10 c11 c12 c13 c14 e):=by
 refine lrG (fun s o h=> ?_) h
 obtain ⟨_,_,_⟩:=s
 simp only [ia] at h
 simp+decide only [Gg,Hf,yX,z6,go_sem,reduceIte,Nat.reduceAdd]
 have d1:= @eZ
 have d2:= @eX
 have d3:= @a0I
 have d4:= @Kc
 have d5:= @tO
 all_goals exact go
def ie (values2 t:List Ext) (t2 c c2 c3 c4:Int):Int×Int×Int→Option ((Int×Int×Int)⊕((Int×Bool×Int×Int)))
 | (t3,c5,c6)=>
   br (decide (t3<t2)) (
   (atL t t3).bind fun x2=>
   (Loop (ia values2 t3 t t2 t3 ((values2.length:Nat):Int) c c2 c3 c4 c5 c6 x2.A x2.B) (0,x2.A,x2.B)).bind fun e_=>
   (du (Ext.mk c5 c6) (Ext.mk e_.2.2.1 e_.2.2.2)).bind fun r_6=>
   some (.inl ((wrap .i64 (t3+1)),r_6.A,r_6.B))) (
   some (.inr (t3,decide (t3<t2),c5,c6)))
abbrev yu (c c2 c3 c4 c5 c6:Int):List (Nat×Blk):=[(1000,⟨2,true,[[I c,I c2]]⟩),(1001,⟨2,true,[[I c3,I c4]]⟩),(2001,⟨2,true,[[I c5,I c6]]⟩)]
abbrev H8 (values2 t:List Ext) (t2 c c2 c3 c4:Int) (s:Int×Int×Int):St:=⟨[(0,sl ag values2),(3,.ptr 1000 0 0 1),(4,.ptr 1001 0 0 1),(5,.ptr 2001 0 0 1),(11,sl ag t),(12,I t2),(13,I s.1)],yu c c2 c3 c4 s.2.1 s.2.2⟩
abbrev GH (values2 t:List Ext) (t2 c c2 c3 c4:Int):(Int×Bool×Int×Int)→ai×St:=fun e=>(.exit 0,⟨[(0,sl ag values2),(3,.ptr 1000 0 0 1),(4,.ptr 1001 0 0 1),(5,.ptr 2001 0 0 1),(11,sl ag t),(12,I t2),(13,I e.1),(14,B e.2.1)],yu c c2 c3 c4 e.2.2.1 e.2.2.2⟩)
theorem TY {values2 t t2 c c2 c3 c4 s e} (h:Loop (ie values2 t t2 c c2 c3 c4) s=some e):aD tab ow (.close [5003,6001,11004,11005,11008,11009,11010,13002]) yE (H8 values2 t t2 c c2 c3 c4 s)=some (GH values2 t t2 c c2 c3 c4 e):=by
 refine lrG (fun s o h=> ?_) h
 obtain ⟨_,_,_⟩:=s
 simp only [ie] at h
 simp+decide only [H8,GH,yu,yE,go_sem,reduceIte,Nat.reduceAdd]
 have d1:= @SB
 have d2:= @eT
 all_goals exact go
def Bn (values:(List Ext)) (x:Ext):Option (Ext):=
 (Loop (ie values values ((values.length:Nat):Int) x.A x.B 0 0) (0,0,0)).bind fun e_2=>
 some (Ext.mk e_2.2.2.1 e_2.2.2.2)
theorem ZT {values x r} (h:Bn values x=some r):Call tab ow 294 [sl ag values,.agg [I x.A,I x.B]] []=some (.agg [I r.A,I r.B],[]):=by
 rw [ab (af:=xV) rfl]
 unfold Bn at h
 simp+decide only [xV,Mq,go_sem,reduceIte,Nat.reduceAdd]
 have d1:= @TY
 all_goals exact go
def gS (k m:Int) (m2:aC) (m3:Source):Option (Int×aC×Source):=
 br (decide (k<(wrap .i64 (m-1)))) (
 (atL m2.Roots k).bind fun x=>
 br (bc x.length 1) (
 (cS x m3).bind fun r_=>
 some (m,m2,r_)) none) (
 some (m,m2,m3))
theorem Ee {k m m2 m3 r} (h:gS k m m2 m3=some r):Call tab ow 188 [I k,.ptr 0 0 0 1,.ptr 1 0 0 1,.ptr 2 0 0 1] [⟨1,true,[[I m]]⟩,⟨1,true,[[.ptr 3 0 0 1]]⟩,⟨6,true,[[sl (eL ag) m2.Rounds,sl eS m2.Roots,I m2.Last.A,I m2.Last.B,I m2.Nonce,sl aQ m2.Queries]]⟩,⟨4,true,[[sl ag m3.Script,I m3.At,S m3.State,I m3.Count]]⟩]=some (.tup [],[⟨1,true,[[I r.1]]⟩,⟨1,true,[[.ptr 3 0 0 1]]⟩,⟨6,true,[[sl (eL ag) r.2.1.Rounds,sl eS r.2.1.Roots,I r.2.1.Last.A,I r.2.1.Last.B,I r.2.1.Nonce,sl aQ r.2.1.Queries]]⟩,⟨4,true,[[sl ag r.2.2.Script,I r.2.2.At,S r.2.2.State,I r.2.2.Count]]⟩]):=by
 rw [ab (af:=iy) rfl]
 unfold gS at h
 simp+decide only [iy,tU,go_sem,reduceIte,Nat.reduceAdd]
 have d1:= @gb
 all_goals exact go
section
theorem kL:mkR 2000 []=rws ag []:=rfl
attribute [local go_sem] kL
theorem kE:mkR 12005 []=rws ag []:=rfl
attribute [local go_sem] kE
def aB (kind2:Int) (t:List (List Ext)) (t2 c14 c15:Int):(List Ext)×Int×(List Ext)×Int×(List UInt8)×Int×Int×(List (List Ext))×(List (List UInt8))×Int×Int×Int×(List aq)×Int×Int→Option (((List Ext)×Int×(List Ext)×Int×(List UInt8)×Int×Int×(List (List Ext))×(List (List UInt8))×Int×Int×Int×(List aq)×Int×Int)⊕(((List Ext)×Int×(List Ext)×Int×(List UInt8)×Int×Int×(List (List Ext))×(List (List UInt8))×Int×Int×Int×(List aq)×Int×Int)⊕((List Ext)×Int×Bool×(List Ext)×Int×(List UInt8)×Int×Int×(List (List Ext))×(List (List UInt8))×Int×Int×Int×(List aq)×Int×Int)))
 | (l,t3,c,c2,c3,c4,c5,c6,c7,c8,c9,c10,c11,c12,c13)=>
   br (decide (t3<t2)) (
   (atL t t3).bind fun x=>
   (lL kind2).bind fun r_=>
   br (((x.length:Nat):Int) !=(wrap .i64 (r_+1))) (
   some (.inr (.inl (l,18,c,c2,c3,c4,c5,c6,c7,c8,c9,c10,c11,c12,c13)))) (
   (atL x 0).bind fun x2=>
   (atL x 1).bind fun x3=>
   (du x2 x3).bind fun r_2=>
   br (r_2.A==c12) (
   br (r_2.B==c13) (
   (cj x (Source.mk c c2 c3 c4)).bind fun r_3=>
   (f4 r_3).bind fun r_4=>
   (Bn x r_4.1).bind fun r_5=>
   br (bc ((l++([r_4.1]:List Ext)).length) 16) (
   (gS t3 c5 (aC.mk c6 c7 (Ext.mk c8 c9) c10 c11) r_4.2).bind fun r_6=>
   some (.inl ((l++([r_4.1]:List Ext)),(wrap .i64 (t3+1)),r_6.2.2.Script,r_6.2.2.At,r_6.2.2.State,r_6.2.2.Count,r_6.1,r_6.2.1.Rounds,r_6.2.1.Roots,r_6.2.1.Last.A,r_6.2.1.Last.B,r_6.2.1.Nonce,r_6.2.1.Queries,r_5.A,r_5.B))) none) (
   some (.inr (.inl (l,10,c,c2,c3,c4,c5,c6,c7,c8,c9,c10,c11,c12,c13))))) (
   some (.inr (.inl (l,10,c,c2,c3,c4,c5,c6,c7,c8,c9,c10,c11,c12,c13)))))) (
   some (.inr (.inr (l,t3,decide (t3<t2),c,c2,c3,c4,c5,c6,c7,c8,c9,c10,c11,c12,c13))))
abbrev cH (c14 c15:Int) (l c:List Ext) (c2:Int) (c3:List UInt8) (c4 c5:Int) (c6:List (List Ext)) (c7:List (List UInt8)) (c8 c9 c10:Int) (c11:List aq) (c12 c13:Int):List (Nat×Blk):=[(0,⟨4,true,[[sl ag c,I c2,S c3,I c4]]⟩),(1,⟨1,true,[[I c5]]⟩),(2,⟨1,true,[[.ptr 0 0 0 1]]⟩),(3,⟨6,true,[[sl (eL ag) c6,sl eS c7,I c8,I c9,I c10,sl aQ c11]]⟩),(1000,⟨2,true,[[I c12,I c13]]⟩),(1002,⟨2,true,[[I c14,I c15]]⟩),(2000,⟨2,false,rws ag l⟩)]
abbrev em (kind2:Int) (t:List (List Ext)) (t2 c14 c15:Int) (s:(List Ext)×Int×(List Ext)×Int×(List UInt8)×Int×Int×(List (List Ext))×(List (List UInt8))×Int×Int×Int×(List aq)×Int×Int):St:=⟨[(0,.ptr 0 0 0 1),(1,I kind2),(4,.fn 188 [.ptr 1 0 0 1,.ptr 2 0 0 1,.ptr 3 0 0 1]),(7,.ptr 1000 0 0 1),(11,.ptr 1002 0 0 1),(13,.sl 2000 0 s.1.length),(18,sl (eL ag) t),(19,I t2),(20,I s.2.1)],cH c14 c15 s.1 s.2.2.1 s.2.2.2.1 s.2.2.2.2.1 s.2.2.2.2.2.1 s.2.2.2.2.2.2.1 s.2.2.2.2.2.2.2.1 s.2.2.2.2.2.2.2.2.1 s.2.2.2.2.2.2.2.2.2.1 s.2.2.2.2.2.2.2.2.2.2.1 s.2.2.2.2.2.2.2.2.2.2.2.1 s.2.2.2.2.2.2.2.2.2.2.2.2.1 s.2.2.2.2.2.2.2.2.2.2.2.2.2.1 s.2.2.2.2.2.2.2.2.2.2.2.2.2.2⟩
abbrev eg (kind2:Int) (t:List (List Ext)) (t2 c14 c15:Int):(((List Ext)×Int×(List Ext)×Int×(List UInt8)×Int×Int×(List (List Ext))×(List (List UInt8))×Int×Int×Int×(List aq)×Int×Int)⊕((List Ext)×Int×Bool×(List Ext)×Int×(List UInt8)×Int×Int×(List (List Ext))×(List (List UInt8))×Int×Int×Int×(List aq)×Int×Int))→ai×St:=alt (fun e=>((.ret,⟨[(10,.lit (.slice none 0 0)),(11,.ptr 1002 0 0 1),(12,I e.2.1)],[(0,⟨4,true,[[sl ag e.2.2.1,I e.2.2.2.1,S e.2.2.2.2.1,I e.2.2.2.2.2.1]]⟩),(1,⟨1,true,[[I e.2.2.2.2.2.2.1]]⟩),(2,⟨1,true,[[.ptr 0 0 0 1]]⟩),(3,⟨6,true,[[sl (eL ag) e.2.2.2.2.2.2.2.1,sl eS e.2.2.2.2.2.2.2.2.1,I e.2.2.2.2.2.2.2.2.2.1,I e.2.2.2.2.2.2.2.2.2.2.1,I e.2.2.2.2.2.2.2.2.2.2.2.1,sl aQ e.2.2.2.2.2.2.2.2.2.2.2.2.1]]⟩),(1000,⟨2,true,[[I e.2.2.2.2.2.2.2.2.2.2.2.2.2.1,I e.2.2.2.2.2.2.2.2.2.2.2.2.2.2]]⟩),(1002,⟨2,true,[[I 0,I 0]]⟩),(2000,⟨2,false,rws ag e.1⟩)]⟩):ai×St)) (fun e=>(.exit 0,⟨[(0,.ptr 0 0 0 1),(1,I kind2),(4,.fn 188 [.ptr 1 0 0 1,.ptr 2 0 0 1,.ptr 3 0 0 1]),(7,.ptr 1000 0 0 1),(11,.ptr 1002 0 0 1),(13,.sl 2000 0 e.1.length),(18,sl (eL ag) t),(19,I t2),(20,I e.2.1),(21,B e.2.2.1)],cH c14 c15 e.1 e.2.2.2.1 e.2.2.2.2.1 e.2.2.2.2.2.1 e.2.2.2.2.2.2.1 e.2.2.2.2.2.2.2.1 e.2.2.2.2.2.2.2.2.1 e.2.2.2.2.2.2.2.2.2.1 e.2.2.2.2.2.2.2.2.2.2.1 e.2.2.2.2.2.2.2.2.2.2.2.1 e.2.2.2.2.2.2.2.2.2.2.2.2.1 e.2.2.2.2.2.2.2.2.2.2.2.2.2.1 e.2.2.2.2.2.2.2.2.2.2.2.2.2.2.1 e.2.2.2.2.2.2.2.2.2.2.2.2.2.2.2⟩))
theorem k8 {kind2 t t2 c14 c15 s e} (h:Loop (aB kind2 t t2 c14 c15) s=some e):aD tab ow (.close [6003,8006,10002,11001,11002,12002,12005,12006,13002]) ip (em kind2 t t2 c14 c15 s)=some (eg kind2 t t2 c14 c15 e):=by
 refine lrG (fun s o h=> ?_) h
 obtain ⟨_,_,_,_,_,_,_,_,_,_,_,_,_,_,_⟩:=s
 simp only [aB] at h
 simp+decide only [em,eg,cH,ip,go_sem,reduceIte,Nat.reduceAdd]
 have d1:= @Gz
 have d2:= @eT
 have d3:= @fI
 have d4:= @q8
 have d5:= @ZT
 have d6:= @Ee
 all_goals exact go
def ci (kind:Int) (claim:Ext) (rounds:(List (List Ext))) (m:Source) (m2:Int) (m3:aC):Option ((List Ext)×Ext×Int×Source×Int×aC):=
 (Loop (aB kind rounds ((rounds.length:Nat):Int) 0 0) (([]:List Ext),0,m.Script,m.At,m.State,m.Count,m2,m3.Rounds,m3.Roots,m3.Last.A,m3.Last.B,m3.Nonce,m3.Queries,claim.A,claim.B)).bind (alt (fun e_2=>
 some (([]:List Ext),(Ext.mk 0 0),e_2.2.1,(Source.mk e_2.2.2.1 e_2.2.2.2.1 e_2.2.2.2.2.1 e_2.2.2.2.2.2.1),e_2.2.2.2.2.2.2.1,(aC.mk e_2.2.2.2.2.2.2.2.1 e_2.2.2.2.2.2.2.2.2.1 (Ext.mk e_2.2.2.2.2.2.2.2.2.2.1 e_2.2.2.2.2.2.2.2.2.2.2.1) e_2.2.2.2.2.2.2.2.2.2.2.2.1 e_2.2.2.2.2.2.2.2.2.2.2.2.2.1))) (fun e_3=>
 some (e_3.1,(Ext.mk e_3.2.2.2.2.2.2.2.2.2.2.2.2.2.2.1 e_3.2.2.2.2.2.2.2.2.2.2.2.2.2.2.2),0,(Source.mk e_3.2.2.2.1 e_3.2.2.2.2.1 e_3.2.2.2.2.2.1 e_3.2.2.2.2.2.2.1),e_3.2.2.2.2.2.2.2.1,(aC.mk e_3.2.2.2.2.2.2.2.2.1 e_3.2.2.2.2.2.2.2.2.2.1 (Ext.mk e_3.2.2.2.2.2.2.2.2.2.2.1 e_3.2.2.2.2.2.2.2.2.2.2.2.1) e_3.2.2.2.2.2.2.2.2.2.2.2.2.1 e_3.2.2.2.2.2.2.2.2.2.2.2.2.2.1))))
theorem kP {kind claim rounds m m2 m3 r} (h:ci kind claim rounds m m2 m3=some r):Call tab ow 187 [.ptr 0 0 0 1,I kind,.agg [I claim.A,I claim.B],sl (eL ag) rounds,.fn 188 [.ptr 1 0 0 1,.ptr 2 0 0 1,.ptr 3 0 0 1]] [⟨4,true,[[sl ag m.Script,I m.At,S m.State,I m.Count]]⟩,⟨1,true,[[I m2]]⟩,⟨1,true,[[.ptr 0 0 0 1]]⟩,⟨6,true,[[sl (eL ag) m3.Rounds,sl eS m3.Roots,I m3.Last.A,I m3.Last.B,I m3.Nonce,sl aQ m3.Queries]]⟩]=some (.tup [sl ag r.1,.agg [I r.2.1.A,I r.2.1.B],I r.2.2.1],[⟨4,true,[[sl ag r.2.2.2.1.Script,I r.2.2.2.1.At,S r.2.2.2.1.State,I r.2.2.2.1.Count]]⟩,⟨1,true,[[I r.2.2.2.2.1]]⟩,⟨1,true,[[.ptr 0 0 0 1]]⟩,⟨6,true,[[sl (eL ag) r.2.2.2.2.2.Rounds,sl eS r.2.2.2.2.2.Roots,I r.2.2.2.2.2.Last.A,I r.2.2.2.2.2.Last.B,I r.2.2.2.2.2.Nonce,sl aQ r.2.2.2.2.2.Queries]]⟩]):=by
 rw [ab (af:=g6) rfl]
 unfold ci at h
 simp+decide only [g6,pv,go_sem,reduceIte,Nat.reduceAdd]
 have d1:= @k8
 all_goals exact go
end
def lU (b2 t:List Ext) (t2 c c2:Int):Int×Int×Int→Option ((Int×Int×Int)⊕((Int×Bool×Int×Int)))
 | (t3,c3,c4)=>
   br (decide (t3<t2)) (
   (atL t t3).bind fun x=>
   (atL b2 t3).bind fun x2=>
   (bY x x2).bind fun r_2=>
   (Kh).bind fun r_3=>
   (cY r_3 x).bind fun r_4=>
   (Kh).bind fun r_5=>
   (atL b2 t3).bind fun x3=>
   (cY r_5 x3).bind fun r_6=>
   (bY r_4 r_6).bind fun r_7=>
   (du r_2 r_7).bind fun r_8=>
   (bY (Ext.mk c3 c4) r_8).bind fun r_9=>
   some (.inl ((wrap .i64 (t3+1)),r_9.A,r_9.B))) (
   some (.inr (t3,decide (t3<t2),c3,c4)))
abbrev Ey (c c2 c3 c4:Int):List (Nat×Blk):=[(1000,⟨2,true,[[I c,I c2]]⟩),(2001,⟨2,true,[[I c3,I c4]]⟩)]
abbrev OV (b2 t:List Ext) (t2 c c2:Int) (s:Int×Int×Int):St:=⟨[(1,sl ag b2),(4,.ptr 1000 0 0 1),(5,.ptr 2001 0 0 1),(9,sl ag t),(10,I t2),(11,I s.1)],Ey c c2 s.2.1 s.2.2⟩
abbrev LW (b2 t:List Ext) (t2 c c2:Int):(Int×Bool×Int×Int)→ai×St:=fun e=>(.exit 0,⟨[(1,sl ag b2),(4,.ptr 1000 0 0 1),(5,.ptr 2001 0 0 1),(9,sl ag t),(10,I t2),(11,I e.1),(12,B e.2.1)],Ey c c2 e.2.2.1 e.2.2.2⟩)
theorem Zy {b2 t t2 c c2 s e} (h:Loop (lU b2 t t2 c c2) s=some e):aD tab ow (.close [5003,6006,6007,6009,6010,6015,6016,6017,6018]) DZ (OV b2 t t2 c c2 s)=some (LW b2 t t2 c c2 e):=by
 refine lrG (fun s o h=> ?_) h
 obtain ⟨_,_,_⟩:=s
 simp only [lU] at h
 simp+decide only [OV,LW,Ey,DZ,go_sem,reduceIte,Nat.reduceAdd]
 have d1:= @eX
 have d2:= @Lh
 have d3:= @eZ
 have d4:= @eT
 all_goals exact go
def NQ (a b:(List Ext)):Option (Ext):=
 (Kh).bind fun r_=>
 (Loop (lU b a ((a.length:Nat):Int) 0 0) (0,r_.A,r_.B)).bind fun e_=>
 some (Ext.mk e_.2.2.1 e_.2.2.2)
theorem a5n {a b r} (h:NQ a b=some r):Call tab ow 189 [sl ag a,sl ag b] []=some (.agg [I r.A,I r.B],[]):=by
 rw [ab (af:=GE) rfl]
 unfold NQ at h
 simp+decide only [GE,XC,go_sem,reduceIte,Nat.reduceAdd]
 have d1:= @Lh
 have d2:= @Zy
 all_goals exact go
def wJ (h_:(List UInt8)):Option (Bool):=
 (tD h_).bind fun r_=>
 some (!r_)
theorem Yh {h_ r} (h:wJ h_=some r):Call tab ow 340 [S h_] []=some (B r,[]):=by
 rw [ab (af:=uo) rfl]
 unfold wJ at h
 simp+decide only [uo,Jv,go_sem,reduceIte,Nat.reduceAdd]
 have d1:= @EF
 all_goals exact go
def bw (s2:List (List UInt8)) (t:Int):Int→Option ((Int)⊕(Int⊕(Int×Bool)))
 |t2=>
  br (decide (t2<t)) (
  (atL s2 t2).bind fun x=>
  (wJ x).bind fun r_=>
  br r_ (
  some (.inr (.inl t2))) (
  some (.inl (wrap .i64 (t2+1))))) (
  some (.inr (.inr (t2,decide (t2<t)))))
abbrev dj (s2:List (List UInt8)) (t s:Int):St:=⟨[(0,sl eS s2),(1,.fn 340 []),(7,I t),(8,I s)],[]⟩
abbrev dk (s2:List (List UInt8)) (t:Int):(Int⊕(Int×Bool))→ai×St:=alt (fun e=>((.ret,⟨[(4,I e)],[]⟩):ai×St)) (fun e=>(.exit 0,⟨[(0,sl eS s2),(1,.fn 340 []),(7,I t),(8,I e.1),(9,B e.2)],[]⟩))
theorem hK {s2 t s e} (h:Loop (bw s2 t) s=some e):aD tab ow (.close [5005]) bB (dj s2 t s)=some (dk s2 t e):=by
 refine lrG (fun s o h=> ?_) h
 simp only [bw] at h
 simp+decide only [dj,dk,bB,go_sem,reduceIte,Nat.reduceAdd]
 have d1:= @Yh
 all_goals exact go
def bF (s:(List (List UInt8))):Option (Int):=
 (Loop (bw s ((s.length:Nat):Int)) 0).bind (alt (fun e_2=>
 some e_2) (fun e_3=>
 some (-1:Int)))
theorem iD {s r} (h:bF s=some r):Call tab ow 301 [sl eS s,.fn 340 []] []=some (I r,[]):=by
 rw [ab (af:=bp) rfl]
 unfold bF at h
 simp+decide only [bp,dh,go_sem,reduceIte,Nat.reduceAdd]
 have d1:= @hK
 all_goals exact go
def aX (s:(List (List UInt8))):Option (Bool):=
 (bF s).bind fun r_=>
 some (decide (r_≥0))
theorem gX {s r} (h:aX s=some r):Call tab ow 205 [sl eS s,.fn 340 []] []=some (B r,[]):=by
 rw [ab (af:=aZ) rfl]
 unfold aX at h
 simp+decide only [aZ,cL,go_sem,reduceIte,Nat.reduceAdd]
 have d1:= @iD
 all_goals exact go
section
theorem Yt:mkR 2002 []=rws eS []:=rfl
attribute [local go_sem] Yt
theorem Z5:mkR 9004 []=rws eS []:=rfl
attribute [local go_sem] Z5
def jG (i2:Int) (t:List (List UInt8)) (t2:Int):(List (List UInt8))×Int→Option (((List (List UInt8))×Int)⊕(((List (List UInt8))×Int×Bool)))
 | (l,t3)=>
   br (decide (t3<t2)) (
   (atL t t3).bind fun x=>
   br (decide (0≤t3)) (
   br (decide (t3.toNat<l.length)) (
   (l[t3.toNat]?).bind fun x2=>
   (pu x2).bind fun r_2=>
   br (decide (0≤t3)) (
   br ((bm .i64 (aM .i64 i2 t3) 1)==1) (
   (m0 x r_2).bind fun r_3=>
   br (bc ((l++([r_3]:List (List UInt8))).length) 16) (
   some (.inl ((l++([r_3]:List (List UInt8))),(wrap .i64 (t3+1))))) none) (
   (m0 r_2 x).bind fun r_4=>
   br (bc ((l++([r_4]:List (List UInt8))).length) 16) (
   some (.inl ((l++([r_4]:List (List UInt8))),(wrap .i64 (t3+1))))) none)) none) none) none) (
   some (.inr (l,t3,decide (t3<t2))))
abbrev JW (i2:Int) (t:List (List UInt8)) (t2:Int) (s:(List (List UInt8))×Int):St:=⟨[(0,I i2),(7,.sl 2002 0 s.1.length),(14,sl eS t),(15,I t2),(16,I s.2)],[(2002,⟨1,false,rws eS s.1⟩)]⟩
abbrev IM (i2:Int) (t:List (List UInt8)) (t2:Int):((List (List UInt8))×Int×Bool)→ai×St:=fun e=>(.exit 0,⟨[(0,I i2),(7,.sl 2002 0 e.1.length),(14,sl eS t),(15,I t2),(16,I e.2.1),(17,B e.2.2)],[(2002,⟨1,false,rws eS e.1⟩)]⟩)
theorem Y8 {i2 t t2 s e} (h:Loop (jG i2 t t2) s=some e):aD tab ow (.close [6004,9003,9004,9005]) BJ (JW i2 t t2 s)=some (IM i2 t t2 e):=by
 refine lrG (fun s o h=> ?_) h
 obtain ⟨_,_⟩:=s
 simp only [jG] at h
 simp+decide only [JW,IM,BJ,go_sem,reduceIte,Nat.reduceAdd]
 have d1:= @yM
 have d2:= @Fk
 all_goals exact go
def Fx (i:Int) (leaf:(List UInt8)) (path:(List (List UInt8))):Option ((List (List UInt8))):=
 (o6 leaf).bind fun r_=>
 (Loop (jG i path ((path.length:Nat):Int)) (([r_]:List (List UInt8)),0)).bind fun e_=>
 some e_.1
theorem a3p {i leaf path r} (h:Fx i leaf path=some r):Call tab ow 341 [I i,S leaf,sl eS path] []=some (sl eS r,[]):=by
 rw [ab (af:=C5) rfl]
 unfold Fx at h
 simp+decide only [C5,Rh,go_sem,reduceIte,Nat.reduceAdd]
 have d1:= @Fp
 have d2:= @Y8
 all_goals exact go
end
def Cd (root:(List UInt8)) (n i:Int) (leaf:(List UInt8)) (path:(List (List UInt8))):Option (Bool):=
 br (decide (((leaf.length:Nat):Int)>64)) (
 some false) (
 (BR n).bind fun r_=>
 br (((path.length:Nat):Int) !=r_) (
 some false) (
 (aX path).bind fun r_2=>
 br r_2 (
 some false) (
 (Fx i leaf path).bind fun r_3=>
 (atL r_3 (wrap .i64 (((r_3.length:Nat):Int)-1))).bind fun x=>
 (pu x).bind fun r_4=>
 some (r_4==root))))
theorem a3S {root n i leaf path r} (h:Cd root n i leaf path=some r):Call tab ow 296 [S root,I n,I i,S leaf,sl eS path] []=some (B r,[]):=by
 rw [ab (af:=BO) rfl]
 unfold Cd at h
 simp+decide only [BO,Re,go_sem,reduceIte,Nat.reduceAdd]
 have d1:= @HD
 have d2:= @gX
 have d3:= @a3p
 have d4:= @yM
 all_goals exact go
section
theorem Kt:mkR 8006 []=rws ag []:=rfl
attribute [local go_sem] Kt
def cD (t:List Ext) (t2:Int) (t4:List (List UInt8)) (t5:Int) (c:List (List Ext)) (c2:List (List UInt8)) (c3 c4 c5:Int) (c6:List aq) (c7:List Ext) (c8:List (List (List UInt8))):Int×Int×Int×Int→Option ((Int×Int×Int×Int)⊕((Int×Int×Int×Int×Int×Int)⊕(Int×Int×Int×Int×Int×Int×Int×Int)⊕(Int×Int×Bool×Int×Int)))
 | (t3,t6,c9,c10)=>
   br (decide (t6<t5)) (
   (atL t4 t6).bind fun x=>
   br (decide (0≤t6)) (
   br (decide ((wrap .i64 ((aM .i64 t2 t6).tdiv 2))≠0)) (
   (atL c7 (wrap .i64 (2*t6))).bind fun x2=>
   (atL c7 (wrap .i64 ((wrap .i64 (2*t6))+1))).bind fun x3=>
   (lG ([x2,x3]:List Ext)).bind fun r_=>
   (atL c8 t6).bind fun x4=>
   (Cd x (wrap .i64 ((aM .i64 t2 t6).tdiv 2)) (t3.tmod (wrap .i64 ((aM .i64 t2 t6).tdiv 2))) r_ x4).bind fun r_2=>
   br (!r_2) (
   some (.inr (.inl (c9,c10,x2.A,x2.B,x3.A,x3.B)))) (
   br (decide (t3≥(wrap .i64 ((aM .i64 t2 t6).tdiv 2)))) (
   br (decide (t6>0)) (
   br (x3.A==c9) (
   br (x3.B==c10) (
   (atL t t6).bind fun x5=>
   (iB (aM .i64 t2 t6) (t3.tmod (wrap .i64 ((aM .i64 t2 t6).tdiv 2))) x2 x3 x5).bind fun r_3=>
   some (.inl ((t3.tmod (wrap .i64 ((aM .i64 t2 t6).tdiv 2))),(wrap .i64 (t6+1)),r_3.A,r_3.B))) (
   some (.inr (.inr (.inl (c9,c10,x2.A,x2.B,x3.A,x3.B,x3.A,x3.B)))))) (
   some (.inr (.inr (.inl (c9,c10,x2.A,x2.B,x3.A,x3.B,x3.A,x3.B)))))) (
   (atL t t6).bind fun x6=>
   (iB (aM .i64 t2 t6) (t3.tmod (wrap .i64 ((aM .i64 t2 t6).tdiv 2))) x2 x3 x6).bind fun r_4=>
   some (.inl ((t3.tmod (wrap .i64 ((aM .i64 t2 t6).tdiv 2))),(wrap .i64 (t6+1)),r_4.A,r_4.B)))) (
   br (decide (t6>0)) (
   br (x2.A==c9) (
   br (x2.B==c10) (
   (atL t t6).bind fun x7=>
   (iB (aM .i64 t2 t6) (t3.tmod (wrap .i64 ((aM .i64 t2 t6).tdiv 2))) x2 x3 x7).bind fun r_5=>
   some (.inl ((t3.tmod (wrap .i64 ((aM .i64 t2 t6).tdiv 2))),(wrap .i64 (t6+1)),r_5.A,r_5.B))) (
   some (.inr (.inr (.inl (c9,c10,x2.A,x2.B,x3.A,x3.B,x2.A,x2.B)))))) (
   some (.inr (.inr (.inl (c9,c10,x2.A,x2.B,x3.A,x3.B,x2.A,x2.B)))))) (
   (atL t t6).bind fun x8=>
   (iB (aM .i64 t2 t6) (t3.tmod (wrap .i64 ((aM .i64 t2 t6).tdiv 2))) x2 x3 x8).bind fun r_6=>
   some (.inl ((t3.tmod (wrap .i64 ((aM .i64 t2 t6).tdiv 2))),(wrap .i64 (t6+1)),r_6.A,r_6.B)))))) none) none) (
   some (.inr (.inr (.inr (t3,t6,decide (t6<t5),c9,c10)))))
abbrev nK (c:List (List Ext)) (c2:List (List UInt8)) (c3 c4 c5:Int) (c6:List aq) (c7:List Ext) (c8:List (List (List UInt8))) (c9 c10:Int):List (Nat×Blk):=[(1000,⟨6,true,[[sl (eL ag) c,sl eS c2,I c3,I c4,I c5,sl aQ c6]]⟩),(1001,⟨2,true,[[sl ag c7,sl (eL eS) c8]]⟩),(2001,⟨2,true,[[I c9,I c10]]⟩)]
abbrev wD (t:List Ext) (t2:Int) (t4:List (List UInt8)) (t5:Int) (c:List (List Ext)) (c2:List (List UInt8)) (c3 c4 c5:Int) (c6:List aq) (c7:List Ext) (c8:List (List (List UInt8))) (s:Int×Int×Int×Int):St:=⟨[(1,sl ag t),(2,I t2),(3,I s.1),(10,.ptr 1000 0 0 1),(11,.ptr 1001 0 0 1),(13,.ptr 2001 0 0 1),(22,sl eS t4),(23,I t5),(24,I s.2.1)],nK c c2 c3 c4 c5 c6 c7 c8 s.2.2.1 s.2.2.2⟩
abbrev wH (t:List Ext) (t2:Int) (t4:List (List UInt8)) (t5:Int) (c:List (List Ext)) (c2:List (List UInt8)) (c3 c4 c5:Int) (c6:List aq) (c7:List Ext) (c8:List (List (List UInt8))):((Int×Int×Int×Int×Int×Int)⊕(Int×Int×Int×Int×Int×Int×Int×Int)⊕(Int×Int×Bool×Int×Int))→ai×St:=alt (fun e=>((.ret,⟨[(12,I 9)],[(1000,⟨6,true,[[sl (eL ag) c,sl eS c2,I c3,I c4,I c5,sl aQ c6]]⟩),(1001,⟨2,true,[[sl ag c7,sl (eL eS) c8]]⟩),(2001,⟨2,true,[[I e.1,I e.2.1]]⟩),(7017,⟨2,true,[[I e.2.2.1,I e.2.2.2.1]]⟩),(7018,⟨2,true,[[I e.2.2.2.2.1,I e.2.2.2.2.2]]⟩),(8006,dR)]⟩):ai×St)) (alt (fun e=>((.ret,⟨[(12,I 12)],[(1000,⟨6,true,[[sl (eL ag) c,sl eS c2,I c3,I c4,I c5,sl aQ c6]]⟩),(1001,⟨2,true,[[sl ag c7,sl (eL eS) c8]]⟩),(2001,⟨2,true,[[I e.1,I e.2.1]]⟩),(7017,⟨2,true,[[I e.2.2.1,I e.2.2.2.1]]⟩),(7018,⟨2,true,[[I e.2.2.2.2.1,I e.2.2.2.2.2.1]]⟩),(8006,dR),(10001,⟨2,true,[[I e.2.2.2.2.2.2.1,I e.2.2.2.2.2.2.2]]⟩)]⟩):ai×St)) (fun e=>(.exit 0,⟨[(1,sl ag t),(2,I t2),(3,I e.1),(10,.ptr 1000 0 0 1),(11,.ptr 1001 0 0 1),(13,.ptr 2001 0 0 1),(22,sl eS t4),(23,I t5),(24,I e.2.1),(25,B e.2.2.1)],nK c c2 c3 c4 c5 c6 c7 c8 e.2.2.2.1 e.2.2.2.2⟩)))
theorem Ho {t t2 t4 t5 c c2 c3 c4 c5 c6 c7 c8 s e} (h:Loop (cD t t2 t4 t5 c c2 c3 c4 c5 c6 c7 c8) s=some e):aD tab ow (.close [7017,7018,8006,8007,8014,10001,15008]) nE (wD t t2 t4 t5 c c2 c3 c4 c5 c6 c7 c8 s)=some (wH t t2 t4 t5 c c2 c3 c4 c5 c6 c7 c8 e):=by
 refine lrG (fun s o h=> ?_) h
 obtain ⟨_,_,_,_⟩:=s
 simp only [cD] at h
 simp+decide only [wD,wH,nK,nE,go_sem,reduceIte,Nat.reduceAdd]
 have d1:= @yY
 have d2:= @a3S
 have d3:= @GM
 all_goals exact go
def qU (ListtoArray:(List (List UInt8))) (a:(List Ext)) (a2 a3:Int) (a4:aC) (a5:aq):Option (Int):=
 (Loop (cD a a2 ListtoArray ((ListtoArray.length:Nat):Int) a4.Rounds a4.Roots a4.Last.A a4.Last.B a4.Nonce a4.Queries a5.Pairs a5.Paths) (a3,0,0,0)).bind (alt (fun e_2=>
 some 9) (alt (fun e_3=>
 some 12) (fun e_4=>
 br (e_4.2.2.2.1==a4.Last.A) (
 br (e_4.2.2.2.2==a4.Last.B) (
 some 0) (
 some 13)) (
 some 13))))
theorem MA {ListtoArray a a2 a3 a4 a5 r} (h:qU ListtoArray a a2 a3 a4 a5=some r):Call tab ow 191 [sl eS ListtoArray,sl ag a,I a2,I a3,.agg [sl (eL ag) a4.Rounds,sl eS a4.Roots,I a4.Last.A,I a4.Last.B,I a4.Nonce,sl aQ a4.Queries],.agg [sl ag a5.Pairs,sl (eL eS) a5.Paths]] []=some (I r,[]):=by
 rw [ab (af:=mE) rfl]
 unfold qU at h
 simp+decide only [mE,BE,go_sem,reduceIte,Nat.reduceAdd]
 have d1:= @Ho
 all_goals exact go
end
end
end Go.AI.Fn
set_option linter.unusedVariables false
set_option linter.unusedSimpArgs false
set_option maxRecDepth 100000
set_option maxHeartbeats 1000000
namespace Go.AI.Fn
noncomputable section
open IntKind (wrap)
section
theorem Gr:mkR 8003 []=rws ag []:=rfl
attribute [local go_sem] Gr
theorem Gb:mkR 12006 []=rws eS []:=rfl
attribute [local go_sem] Gb
def cw (l:List (List UInt8)) (t:List Ext) (t2:Int) (t3:List Int) (t4:Int) (c:List Ext) (c2:Int) (c3:List UInt8) (c4 c5 c6 c7 c8 c9:Int) (c10:List (List Ext)) (c11:List (List UInt8)) (c12 c13 c14:Int) (c15:List aq) (c16 c17 c18:Int):Int→Option ((Int)⊕(Int⊕(Int×Bool)))
 |t5=>
  br (decide (t5<t4)) (
  (atL t3 t5).bind fun x=>
  (atL c15 t5).bind fun x2=>
  (qU l t t2 x (aC.mk c10 c11 (Ext.mk c12 c13) c14 c15) x2).bind fun r_10=>
  br (r_10 !=0) (
  some (.inr (.inl r_10))) (
  some (.inl (wrap .i64 (t5+1))))) (
  some (.inr (.inr (t5,decide (t5<t4)))))
abbrev io (l:List (List UInt8)) (c:List Ext) (c2:Int) (c3:List UInt8) (c4 c5 c6 c7 c8 c9:Int) (c10:List (List Ext)) (c11:List (List UInt8)) (c12 c13 c14:Int) (c15:List aq) (c16 c17 c18:Int):List (Nat×Blk):=[(0,⟨4,true,[[sl ag c,I c2,S c3,I c4]]⟩),(1000,⟨1,true,[[.ptr 0 0 0 1]]⟩),(1001,⟨2,true,[[I c5,I c6]]⟩),(1002,⟨3,true,[[I c7,I c8,I c9]]⟩),(1003,⟨6,true,[[sl (eL ag) c10,sl eS c11,I c12,I c13,I c14,sl aQ c15]]⟩),(2002,⟨1,true,[[I c16]]⟩),(3010,⟨2,true,[[I c17,I c18]]⟩),(8003,dR),(12006,⟨1,false,rws eS l⟩)]
abbrev tT (l:List (List UInt8)) (t:List Ext) (t2:Int) (t3:List Int) (t4:Int) (c:List Ext) (c2:Int) (c3:List UInt8) (c4 c5 c6 c7 c8 c9:Int) (c10:List (List Ext)) (c11:List (List UInt8)) (c12 c13 c14:Int) (c15:List aq) (c16 c17 c18 s:Int):St:=⟨[(11,.ptr 1003 0 0 1),(14,sl ag t),(17,I t2),(18,.sl 12006 0 l.length),(82,sl eI t3),(83,I t4),(84,I s)],io l c c2 c3 c4 c5 c6 c7 c8 c9 c10 c11 c12 c13 c14 c15 c16 c17 c18⟩
abbrev sM (l:List (List UInt8)) (t:List Ext) (t2:Int) (t3:List Int) (t4:Int) (c:List Ext) (c2:Int) (c3:List UInt8) (c4 c5 c6 c7 c8 c9:Int) (c10:List (List Ext)) (c11:List (List UInt8)) (c12 c13 c14:Int) (c15:List aq) (c16 c17 c18:Int):(Int⊕(Int×Bool))→ai×St:=alt (fun e=>((.ret,⟨[(12,I e)],io l c c2 c3 c4 c5 c6 c7 c8 c9 c10 c11 c12 c13 c14 c15 c16 c17 c18⟩):ai×St)) (fun e=>(.exit 1,⟨[(11,.ptr 1003 0 0 1),(14,sl ag t),(17,I t2),(18,.sl 12006 0 l.length),(82,sl eI t3),(83,I t4),(84,I e.1),(85,B e.2)],io l c c2 c3 c4 c5 c6 c7 c8 c9 c10 c11 c12 c13 c14 c15 c16 c17 c18⟩))
theorem EB {l t t2 t3 t4 c c2 c3 c4 c5 c6 c7 c8 c9 c10 c11 c12 c13 c14 c15 c16 c17 c18 s e} (h:Loop (cw l t t2 t3 t4 c c2 c3 c4 c5 c6 c7 c8 c9 c10 c11 c12 c13 c14 c15 c16 c17 c18) s=some e):aD tab ow (.close [16010]) kB (tT l t t2 t3 t4 c c2 c3 c4 c5 c6 c7 c8 c9 c10 c11 c12 c13 c14 c15 c16 c17 c18 s)=some (sM l t t2 t3 t4 c c2 c3 c4 c5 c6 c7 c8 c9 c10 c11 c12 c13 c14 c15 c16 c17 c18 e):=by
 refine lrG (fun s o h=> ?_) h
 simp only [cw] at h
 simp+decide only [tT,sM,io,kB,go_sem,reduceIte,Nat.reduceAdd]
 have d1:= @MA
 all_goals exact go
def jF (a:(List UInt8)) (a2:(List Ext)) (a3:Ext) (a4:Setting) (a5:aC) (m:Source):Option (Int×Source):=
 (ci 1 a3 a5.Rounds m ((a2.length:Nat):Int) a5).bind fun r_=>
 br (r_.2.2.1 !=0) (
 some (r_.2.2.1,r_.2.2.2.1)) (
 (NQ r_.1 a2).bind fun r_2=>
 (bY r_.2.2.2.2.2.Last r_2).bind fun r_3=>
 br (r_3.A==r_.2.1.A) (
 br (r_3.B==r_.2.1.B) (
 (cj ([r_.2.2.2.2.2.Last]:List Ext) r_.2.2.2.1).bind fun r_4=>
 (iJ r_4 a4.Grind r_.2.2.2.2.2.Nonce).bind fun r_5=>
 br (!r_5) (
 some (14,r_4)) (
 (y6 r_.2.2.2.2.2.Nonce).bind fun r_6=>
 (cS r_6 r_4).bind fun r_7=>
 br (decide (0≤(wrap .i64 (r_.2.2.2.2.1+a4.Rate)))) (
 br (bc ((([a]:List (List UInt8))++r_.2.2.2.2.2.Roots).length) 16) (
 (gO a4.Queries r_7).bind fun r_8=>
 (xv r_8.1 (wrap .i64 ((bX .i64 1 (wrap .i64 (r_.2.2.2.2.1+a4.Rate))).tdiv 2))).bind fun r_9=>
 (Loop (cw (([a]:List (List UInt8))++r_.2.2.2.2.2.Roots) r_.1 (bX .i64 1 (wrap .i64 (r_.2.2.2.2.1+a4.Rate))) r_9 ((r_9.length:Nat):Int) r_8.2.Script r_8.2.At r_8.2.State r_8.2.Count a3.A a3.B a4.Rate a4.Queries a4.Grind r_.2.2.2.2.2.Rounds r_.2.2.2.2.2.Roots r_.2.2.2.2.2.Last.A r_.2.2.2.2.2.Last.B r_.2.2.2.2.2.Nonce r_.2.2.2.2.2.Queries r_.2.2.2.2.1 r_.2.1.A r_.2.1.B) 0).bind (alt (fun e_2=>
 some (e_2,r_8.2)) (fun e_3=>
 some (0,r_8.2)))) none) none)) (
 some (11,r_.2.2.2.1))) (
 some (11,r_.2.2.2.1)))
theorem HF {a a2 a3 a4 a5 m r} (h:jF a a2 a3 a4 a5 m=some r):Call tab ow 92 [.ptr 0 0 0 1,S a,sl ag a2,.agg [I a3.A,I a3.B],.agg [I a4.Rate,I a4.Queries,I a4.Grind],.agg [sl (eL ag) a5.Rounds,sl eS a5.Roots,I a5.Last.A,I a5.Last.B,I a5.Nonce,sl aQ a5.Queries]] [⟨4,true,[[sl ag m.Script,I m.At,S m.State,I m.Count]]⟩]=some (I r.1,[⟨4,true,[[sl ag r.2.Script,I r.2.At,S r.2.State,I r.2.Count]]⟩]):=by
 rw [ab (af:=ka) rfl]
 unfold jF at h
 simp+decide only [ka,ww,go_sem,reduceIte,Nat.reduceAdd]
 have d1:= @kP
 have d2:= @a5n
 have d3:= @eX
 have d4:= @fI
 have d5:= @zA
 have d6:= @Af
 have d7:= @gb
 have d8:= @xb
 have d9:= @LH
 have d10:= @EB
 all_goals exact go
end
def fA (ListtoArray:(List UInt8)) (a:Int) (a2:(List Ext)) (a3:Ext) (a4:Setting) (a5:aC) (a6:Source):Option (Source×Int):=
 (EO ListtoArray).bind fun r_=>
 br r_ (
 some ((Source.mk ([]:List Ext) 0 (([]:List UInt8)) 0),2)) (
 br (decide (((a2.length:Nat):Int)>4096)) (
 some ((Source.mk ([]:List Ext) 0 (([]:List UInt8)) 0),2)) (
 (bW a2).bind fun r_2=>
 br (!r_2) (
 some ((Source.mk ([]:List Ext) 0 (([]:List UInt8)) 0),1)) (
 (rD a3).bind fun r_3=>
 br (!r_3) (
 some ((Source.mk ([]:List Ext) 0 (([]:List UInt8)) 0),1)) (
 (hZ a4).bind fun r_4=>
 br (!r_4) (
 some ((Source.mk ([]:List Ext) 0 (([]:List UInt8)) 0),1)) (
 (lY a6).bind fun r_5=>
 br (!r_5) (
 some ((Source.mk ([]:List Ext) 0 (([]:List UInt8)) 0),1)) (
 (ye a 1 6).bind fun r_6=>
 br (!r_6) (
 some ((Source.mk ([]:List Ext) 0 (([]:List UInt8)) 0),4)) (
 br (((a2.length:Nat):Int) !=a) (
 some ((Source.mk ([]:List Ext) 0 (([]:List UInt8)) 0),4)) (
 (mr a5 a a4).bind fun r_7=>
 br (!r_7) (
 some ((Source.mk ([]:List Ext) 0 (([]:List UInt8)) 0),18)) (
 (iO a6).bind fun r_8=>
 br (decide (r_8<100)) (
 some ((Source.mk ([]:List Ext) 0 (([]:List UInt8)) 0),6)) (
 (fU a6).bind fun r_9=>
 (jF ListtoArray a2 a3 a4 a5 r_9).bind fun r_10=>
 br (r_10.1 !=0) (
 some ((Source.mk ([]:List Ext) 0 (([]:List UInt8)) 0),r_10.1)) (
 some (r_10.2,0))))))))))))
theorem HE {ListtoArray a a2 a3 a4 a5 a6 r} (h:fA ListtoArray a a2 a3 a4 a5 a6=some r):Call tab ow 20 [S ListtoArray,I a,sl ag a2,.agg [I a3.A,I a3.B],.agg [I a4.Rate,I a4.Queries,I a4.Grind],.agg [sl (eL ag) a5.Rounds,sl eS a5.Roots,I a5.Last.A,I a5.Last.B,I a5.Nonce,sl aQ a5.Queries],.agg [sl ag a6.Script,I a6.At,S a6.State,I a6.Count]] []=some (.tup [.agg [sl ag r.1.Script,I r.1.At,S r.1.State,I r.1.Count],I r.2],[]):=by
 rw [ab (af:=ki) rfl]
 unfold fA at h
 simp+decide only [ki,xh,go_sem,reduceIte,Nat.reduceAdd]
 have d1:= @YQ
 have d2:= @dz
 have d3:= @BZ
 have d4:= @oO
 have d5:= @Fi
 have d6:= @B9
 have d7:= @Dz
 have d8:= @zq
 have d9:= @vd
 have d10:= @HF
 all_goals exact go
def a1M:Option (Ext):=
 some (Ext.mk 1 0)
theorem b03 {r} (h:a1M=some r):Call tab ow 22 [] []=some (.agg [I r.A,I r.B],[]):=by
 rw [ab (af:=Lo) rfl]
 unfold a1M at h
 simp+decide only [Lo,a0t,go_sem,reduceIte,Nat.reduceAdd]
 all_goals exact go
def oW (a b:Ext):Option (Ext×Int):=
 (rD a).bind fun r_=>
 br (!r_) (
 some ((Ext.mk 0 0),1)) (
 (rD b).bind fun r_2=>
 br (!r_2) (
 some ((Ext.mk 0 0),1)) (
 (du a b).bind fun r_3=>
 some (r_3,0)))
theorem KP {a b r} (h:oW a b=some r):Call tab ow 93 [.agg [I a.A,I a.B],.agg [I b.A,I b.B],.fn 94 []] []=some (.tup [.agg [I r.1.A,I r.1.B],I r.2],[]):=by
 rw [ab (af:=yz) rfl]
 unfold oW at h
 simp+decide only [yz,OL,go_sem,reduceIte,Nat.reduceAdd]
 have d1:= @BZ
 have d2:= @eT
 all_goals exact go
def Bx (a b:Ext):Option (Ext×Int):=
 (oW a b).bind fun r_=>
 some (r_.1,r_.2)
theorem a0h {a b r} (h:Bx a b=some r):Call tab ow 21 [.agg [I a.A,I a.B],.agg [I b.A,I b.B]] []=some (.tup [.agg [I r.1.A,I r.1.B],I r.2],[]):=by
 rw [ab (af:=yl) rfl]
 unfold Bx at h
 simp+decide only [yl,MU,go_sem,reduceIte,Nat.reduceAdd]
 have d1:= @KP
 all_goals exact go
section
theorem Nd:mkR 4001 []=rws (eL eU8) []:=rfl
attribute [local go_sem] Nd
def ms (b:(List UInt8)):Option ((List UInt8)):=
 br (decide (((b.length:Nat):Int)>65536)) (
 some (([]:List UInt8))) (
 (mK ([b]:List (List UInt8))).bind fun r_=>
 some r_)
theorem Pq {b r} (h:ms b=some r):Call tab ow 23 [sl eU8 b] []=some (S r,[]):=by
 rw [ab (af:=oD) rfl]
 unfold ms at h
 simp+decide only [oD,D3,go_sem,reduceIte,Nat.reduceAdd]
 have d1:= @sY
 all_goals exact go
end
def er (t:Int) (c:List (List Ext)) (c2:List (List UInt8)) (c3 c4 c5:Int) (c6:List aq) (c7 c8 c9:Int):Int→Option ((Int)⊕(Unit⊕(Int×Bool)))
 |t2=>
  br (decide (t2<t)) (
  (atL c t2).bind fun x=>
  br (((x.length:Nat):Int) !=3) (
  some (.inr (.inl ()))) (
  (atL c t2).bind fun x2=>
  (kr x2).bind fun r_5=>
  br (!r_5) (
  some (.inr (.inl ()))) (
  br (decide (t2>0)) (
  (atL c2 (wrap .i64 (t2-1))).bind fun x3=>
  br (((x3.length:Nat):Int) !=32) (
  some (.inr (.inl ()))) (
  some (.inl (wrap .i64 (t2+1))))) (
  some (.inl (wrap .i64 (t2+1))))))) (
  some (.inr (.inr (t2,decide (t2<t)))))
abbrev lD (c:List (List Ext)) (c2:List (List UInt8)) (c3 c4 c5:Int) (c6:List aq) (c7 c8 c9:Int):List (Nat×Blk):=[(1000,⟨6,true,[[sl (eL ag) c,sl eS c2,I c3,I c4,I c5,sl aQ c6]]⟩),(1001,⟨3,true,[[I c7,I c8,I c9]]⟩)]
abbrev A1 (t:Int) (c:List (List Ext)) (c2:List (List UInt8)) (c3 c4 c5:Int) (c6:List aq) (c7 c8 c9 s:Int):St:=⟨[(1,I t),(3,.ptr 1000 0 0 1),(5,.ptr 1001 0 0 1),(7,I s)],lD c c2 c3 c4 c5 c6 c7 c8 c9⟩
abbrev zC (t:Int) (c:List (List Ext)) (c2:List (List UInt8)) (c3 c4 c5:Int) (c6:List aq) (c7 c8 c9:Int):(Unit⊕(Int×Bool))→ai×St:=alt (fun e=>((.ret,⟨[(6,B false)],lD c c2 c3 c4 c5 c6 c7 c8 c9⟩):ai×St)) (fun e=>(.exit 0,⟨[(1,I t),(3,.ptr 1000 0 0 1),(5,.ptr 1001 0 0 1),(7,I e.1),(57,B e.2)],lD c c2 c3 c4 c5 c6 c7 c8 c9⟩))
theorem Ku {t c c2 c3 c4 c5 c6 c7 c8 c9 s e} (h:Loop (er t c c2 c3 c4 c5 c6 c7 c8 c9) s=some e):aD tab ow (.close [7013]) pQ (A1 t c c2 c3 c4 c5 c6 c7 c8 c9 s)=some (zC t c c2 c3 c4 c5 c6 c7 c8 c9 e):=by
 refine lrG (fun s o h=> ?_) h
 simp only [er] at h
 simp+decide only [A1,zC,lD,pQ,go_sem,reduceIte,Nat.reduceAdd]
 have d1:= @pc
 all_goals exact go
def ep (t8 t9 t10:Int) (c30:List (List Ext)) (c31:List (List UInt8)) (c32 c33 c34:Int) (c35:List aq) (c36 c37 c38:Int) (c39:List Ext) (c40:List (List (List UInt8))):Int→Option ((Int)⊕(Unit⊕(Int×Bool)))
 |t11=>
  (atL c40 t10).bind fun x6=>
  br (decide (t11<((x6.length:Nat):Int))) (
  (atL c40 t10).bind fun x7=>
  (atL x7 t11).bind fun x8=>
  br (((x8.length:Nat):Int) !=32) (
  some (.inr (.inl ()))) (
  some (.inl (wrap .i64 (t11+1))))) (
  some (.inr (.inr (t11,decide (t11<((x6.length:Nat):Int))))))
abbrev lx (c30:List (List Ext)) (c31:List (List UInt8)) (c32 c33 c34:Int) (c35:List aq) (c36 c37 c38:Int) (c39:List Ext) (c40:List (List (List UInt8))):List (Nat×Blk):=[(1000,⟨6,true,[[sl (eL ag) c30,sl eS c31,I c32,I c33,I c34,sl aQ c35]]⟩),(1001,⟨3,true,[[I c36,I c37,I c38]]⟩),(12005,⟨2,true,[[sl ag c39,sl (eL eS) c40]]⟩)]
abbrev zK (t8 t9 t10:Int) (c30:List (List Ext)) (c31:List (List UInt8)) (c32 c33 c34:Int) (c35:List aq) (c36 c37 c38:Int) (c39:List Ext) (c40:List (List (List UInt8))) (s:Int):St:=⟨[(1,I t8),(3,.ptr 1000 0 0 1),(5,.ptr 1001 0 0 1),(8,I t9),(9,.ptr 12005 0 0 1),(10,I t10),(11,I s)],lx c30 c31 c32 c33 c34 c35 c36 c37 c38 c39 c40⟩
abbrev zS (t8 t9 t10:Int) (c30:List (List Ext)) (c31:List (List UInt8)) (c32 c33 c34:Int) (c35:List aq) (c36 c37 c38:Int) (c39:List Ext) (c40:List (List (List UInt8))):(Unit⊕(Int×Bool))→ai×St:=alt (fun e=>((.ret,⟨[(6,B false)],lx c30 c31 c32 c33 c34 c35 c36 c37 c38 c39 c40⟩):ai×St)) (fun e=>(.exit 6,⟨[(1,I t8),(3,.ptr 1000 0 0 1),(5,.ptr 1001 0 0 1),(8,I t9),(9,.ptr 12005 0 0 1),(10,I t10),(11,I e.1),(147,B e.2)],lx c30 c31 c32 c33 c34 c35 c36 c37 c38 c39 c40⟩))
theorem KH {t8 t9 t10 c30 c31 c32 c33 c34 c35 c36 c37 c38 c39 c40 s e} (h:Loop (ep t8 t9 t10 c30 c31 c32 c33 c34 c35 c36 c37 c38 c39 c40) s=some e):aD tab ow (.close []) nF (zK t8 t9 t10 c30 c31 c32 c33 c34 c35 c36 c37 c38 c39 c40 s)=some (zS t8 t9 t10 c30 c31 c32 c33 c34 c35 c36 c37 c38 c39 c40 e):=by
 refine lrG (fun s o h=> ?_) h
 simp only [ep] at h
 simp+decide only [zK,zS,lx,nF,go_sem,reduceIte,Nat.reduceAdd]
 all_goals exact go
def eF (t5 t6:Int) (c19:List (List Ext)) (c20:List (List UInt8)) (c21 c22 c23:Int) (c24:List aq) (c25 c26 c27:Int) (c28:List Ext) (c29:List (List (List UInt8))):Int→Option ((Int)⊕(Unit⊕(Int×Bool)))
 |t7=>
  br (decide (t7<t5)) (
  (atL c29 t7).bind fun x5=>
  br (((x5.length:Nat):Int) !=(wrap .i64 ((wrap .i64 ((wrap .i64 (t5+c25))-1))-t7))) (
  some (.inr (.inl ()))) (
  (Loop (ep t5 t6 t7 c19 c20 c21 c22 c23 c24 c25 c26 c27 c28 c29) 0).bind (alt (fun e_5=>
  some (.inr (.inl ()))) (fun e_6=>
  some (.inl (wrap .i64 (t7+1))))))) (
  some (.inr (.inr (t7,decide (t7<t5)))))
abbrev lv (c19:List (List Ext)) (c20:List (List UInt8)) (c21 c22 c23:Int) (c24:List aq) (c25 c26 c27:Int) (c28:List Ext) (c29:List (List (List UInt8))):List (Nat×Blk):=[(1000,⟨6,true,[[sl (eL ag) c19,sl eS c20,I c21,I c22,I c23,sl aQ c24]]⟩),(1001,⟨3,true,[[I c25,I c26,I c27]]⟩),(12005,⟨2,true,[[sl ag c28,sl (eL eS) c29]]⟩)]
abbrev zy (t5 t6:Int) (c19:List (List Ext)) (c20:List (List UInt8)) (c21 c22 c23:Int) (c24:List aq) (c25 c26 c27:Int) (c28:List Ext) (c29:List (List (List UInt8))) (s:Int):St:=⟨[(1,I t5),(3,.ptr 1000 0 0 1),(5,.ptr 1001 0 0 1),(8,I t6),(9,.ptr 12005 0 0 1),(10,I s)],lv c19 c20 c21 c22 c23 c24 c25 c26 c27 c28 c29⟩
abbrev zz (t5 t6:Int) (c19:List (List Ext)) (c20:List (List UInt8)) (c21 c22 c23:Int) (c24:List aq) (c25 c26 c27:Int) (c28:List Ext) (c29:List (List (List UInt8))):(Unit⊕(Int×Bool))→ai×St:=alt (fun e=>((.ret,⟨[(6,B false)],lv c19 c20 c21 c22 c23 c24 c25 c26 c27 c28 c29⟩):ai×St)) (fun e=>(.exit 4,⟨[(1,I t5),(3,.ptr 1000 0 0 1),(5,.ptr 1001 0 0 1),(8,I t6),(9,.ptr 12005 0 0 1),(10,I e.1),(123,B e.2)],lv c19 c20 c21 c22 c23 c24 c25 c26 c27 c28 c29⟩))
theorem KG {t5 t6 c19 c20 c21 c22 c23 c24 c25 c26 c27 c28 c29 s e} (h:Loop (eF t5 t6 c19 c20 c21 c22 c23 c24 c25 c26 c27 c28 c29) s=some e):aD tab ow (.close []) nJ (zy t5 t6 c19 c20 c21 c22 c23 c24 c25 c26 c27 c28 c29 s)=some (zz t5 t6 c19 c20 c21 c22 c23 c24 c25 c26 c27 c28 c29 e):=by
 refine lrG (fun s o h=> ?_) h
 simp only [eF] at h
 simp+decide only [zy,zz,lv,nJ,go_sem,reduceIte,Nat.reduceAdd]
 have d1:= @KH
 all_goals exact go
def dF (t3:Int) (c10:List (List Ext)) (c11:List (List UInt8)) (c12 c13 c14:Int) (c15:List aq) (c16 c17 c18:Int):Int→Option ((Int)⊕(((List Ext)×(List (List (List UInt8))))⊕(Int×Bool)))
 |t4=>
  br (decide (t4<((c15.length:Nat):Int))) (
  (atL c15 t4).bind fun x4=>
  br (((x4.Pairs.length:Nat):Int) !=(wrap .i64 (2*t3))) (
  some (.inr (.inl (x4.Pairs,x4.Paths)))) (
  (kr x4.Pairs).bind fun r_6=>
  br (!r_6) (
  some (.inr (.inl (x4.Pairs,x4.Paths)))) (
  br (((x4.Paths.length:Nat):Int) !=t3) (
  some (.inr (.inl (x4.Pairs,x4.Paths)))) (
  (Loop (eF t3 t4 c10 c11 c12 c13 c14 c15 c16 c17 c18 x4.Pairs x4.Paths) 0).bind (alt (fun e_8=>
  some (.inr (.inl (x4.Pairs,x4.Paths)))) (fun e_9=>
  some (.inl (wrap .i64 (t4+1))))))))) (
  some (.inr (.inr (t4,decide (t4<((c15.length:Nat):Int))))))
abbrev pI (c10:List (List Ext)) (c11:List (List UInt8)) (c12 c13 c14:Int) (c15:List aq) (c16 c17 c18:Int):List (Nat×Blk):=[(1000,⟨6,true,[[sl (eL ag) c10,sl eS c11,I c12,I c13,I c14,sl aQ c15]]⟩),(1001,⟨3,true,[[I c16,I c17,I c18]]⟩)]
abbrev zp (t3:Int) (c10:List (List Ext)) (c11:List (List UInt8)) (c12 c13 c14:Int) (c15:List aq) (c16 c17 c18 s:Int):St:=⟨[(1,I t3),(3,.ptr 1000 0 0 1),(5,.ptr 1001 0 0 1),(8,I s)],pI c10 c11 c12 c13 c14 c15 c16 c17 c18⟩
abbrev zY (t3:Int) (c10:List (List Ext)) (c11:List (List UInt8)) (c12 c13 c14:Int) (c15:List aq) (c16 c17 c18:Int):(((List Ext)×(List (List (List UInt8))))⊕(Int×Bool))→ai×St:=alt (fun e=>((.ret,⟨[(6,B false)],[(1000,⟨6,true,[[sl (eL ag) c10,sl eS c11,I c12,I c13,I c14,sl aQ c15]]⟩),(1001,⟨3,true,[[I c16,I c17,I c18]]⟩),(12005,⟨2,true,[[sl ag e.1,sl (eL eS) e.2]]⟩)]⟩):ai×St)) (fun e=>(.exit 2,⟨[(1,I t3),(3,.ptr 1000 0 0 1),(5,.ptr 1001 0 0 1),(8,I e.1),(94,B e.2)],pI c10 c11 c12 c13 c14 c15 c16 c17 c18⟩))
theorem L3 {t3 c10 c11 c12 c13 c14 c15 c16 c17 c18 s e} (h:Loop (dF t3 c10 c11 c12 c13 c14 c15 c16 c17 c18) s=some e):aD tab ow (.close [12005,13009]) pW (zp t3 c10 c11 c12 c13 c14 c15 c16 c17 c18 s)=some (zY t3 c10 c11 c12 c13 c14 c15 c16 c17 c18 e):=by
 refine lrG (fun s o h=> ?_) h
 simp only [dF] at h
 simp+decide only [zp,zY,pI,pW,go_sem,reduceIte,Nat.reduceAdd]
 have d1:= @pc
 have d2:= @KG
 all_goals exact go
def pq (ListtoArray:aC) (a:Int) (a2:Setting):Option (Bool):=
 (gG a 1 6).bind fun r_=>
 br (!r_) (
 some false) (
 (jJ a2).bind fun r_2=>
 br (!r_2) (
 some false) (
 br (((ListtoArray.Rounds.length:Nat):Int) !=a) (
 some false) (
 br (((ListtoArray.Roots.length:Nat):Int) !=(wrap .i64 (a-1))) (
 some false) (
 br (((ListtoArray.Queries.length:Nat):Int) !=a2.Queries) (
 some false) (
 (uJ ListtoArray.Last).bind fun r_3=>
 br (!r_3) (
 some false) (
 (gG ListtoArray.Nonce 0 65535).bind fun r_4=>
 br (!r_4) (
 some false) (
 (Loop (er a ListtoArray.Rounds ListtoArray.Roots ListtoArray.Last.A ListtoArray.Last.B ListtoArray.Nonce ListtoArray.Queries a2.Rate a2.Queries a2.Grind) 0).bind (alt (fun e_2=>
 some false) (fun e_3=>
 (Loop (dF a ListtoArray.Rounds ListtoArray.Roots ListtoArray.Last.A ListtoArray.Last.B ListtoArray.Nonce ListtoArray.Queries a2.Rate a2.Queries a2.Grind) 0).bind (alt (fun e_11=>
 some false) (fun e_12=>
 some true)))))))))))
theorem Pk {ListtoArray a a2 r} (h:pq ListtoArray a a2=some r):Call tab ow 28 [.agg [sl (eL ag) ListtoArray.Rounds,sl eS ListtoArray.Roots,I ListtoArray.Last.A,I ListtoArray.Last.B,I ListtoArray.Nonce,sl aQ ListtoArray.Queries],I a,.agg [I a2.Rate,I a2.Queries,I a2.Grind]] []=some (B r,[]):=by
 rw [ab (af:=oS) rfl]
 unfold pq at h
 simp+decide only [oS,Dr,go_sem,reduceIte,Nat.reduceAdd]
 have d1:= @sg
 have d2:= @wc
 have d3:= @I3
 have d4:= @Ku
 have d5:= @L3
 all_goals exact go
def gj (values3:List Ext) (i2 c7 c8 c9 c10 c11 c12:Int):Int×Int×Int×Int→Option ((Int×Int×Int×Int)⊕((Int×Int×Bool×Int×Int)))
 | (d,k,c13,c14)=>
   br (decide (k<((values3.length:Nat):Int))) (
   br (k !=i2) (
   (oK k).bind fun r_=>
   (jx (Ext.mk c7 c8) r_).bind fun r_2=>
   (cZ (Ext.mk c13 c14) r_2).bind fun r_3=>
   (tx i2 k).bind fun r_4=>
   (eK d r_4).bind fun r_5=>
   some (.inl (r_5,(wrap .i64 (k+1)),r_3.A,r_3.B))) (
   some (.inl (d,(wrap .i64 (k+1)),c13,c14)))) (
   some (.inr (d,k,decide (k<((values3.length:Nat):Int)),c13,c14)))
abbrev w5 (c7 c8 c9 c10 c11 c12 c13 c14:Int):List (Nat×Blk):=[(1000,⟨2,true,[[I c7,I c8]]⟩),(1001,⟨2,true,[[I c9,I c10]]⟩),(2001,⟨2,true,[[I c11,I c12]]⟩),(6004,⟨2,true,[[I c13,I c14]]⟩)]
abbrev CP (values3:List Ext) (i2 c7 c8 c9 c10 c11 c12:Int) (s:Int×Int×Int×Int):St:=⟨[(0,sl ag values3),(3,.ptr 1000 0 0 1),(4,.ptr 1001 0 0 1),(5,.ptr 2001 0 0 1),(6,I i2),(7,.ptr 6004 0 0 1),(8,I s.1),(9,I s.2.1)],w5 c7 c8 c9 c10 c11 c12 s.2.2.1 s.2.2.2⟩
abbrev DM (values3:List Ext) (i2 c7 c8 c9 c10 c11 c12:Int):(Int×Int×Bool×Int×Int)→ai×St:=fun e=>(.exit 2,⟨[(0,sl ag values3),(3,.ptr 1000 0 0 1),(4,.ptr 1001 0 0 1),(5,.ptr 2001 0 0 1),(6,I i2),(7,.ptr 6004 0 0 1),(8,I e.1),(9,I e.2.1),(24,B e.2.2.1)],w5 c7 c8 c9 c10 c11 c12 e.2.2.2.1 e.2.2.2.2⟩)
theorem Pg {values3 i2 c7 c8 c9 c10 c11 c12 s e} (h:Loop (gj values3 i2 c7 c8 c9 c10 c11 c12) s=some e):aD tab ow (.close [12003,12004,12005,13003,13004]) vR (CP values3 i2 c7 c8 c9 c10 c11 c12 s)=some (DM values3 i2 c7 c8 c9 c10 c11 c12 e):=by
 refine lrG (fun s o h=> ?_) h
 obtain ⟨_,_,_,_⟩:=s
 simp only [gj] at h
 simp+decide only [CP,DM,w5,vR,go_sem,reduceIte,Nat.reduceAdd]
 have d1:= @rU
 have d2:= @lM
 have d3:= @i8
 have d4:= @N7
 have d5:= @o2
 all_goals exact go
def gi (values2:List Ext) (c c2 c3 c4:Int):Int×Int×Int→Option ((Int×Int×Int)⊕((Int×Bool×Int×Int)))
 | (i,c5,c6)=>
   br (decide (i<((values2.length:Nat):Int))) (
   (atL values2 i).bind fun x2=>
   (Loop (gj values2 i c c2 c3 c4 c5 c6) (1,0,x2.A,x2.B)).bind fun e_=>
   (iA e_.1).bind fun r_6=>
   (oK r_6).bind fun r_7=>
   (cZ (Ext.mk e_.2.2.2.1 e_.2.2.2.2) r_7).bind fun r_8=>
   (gQ (Ext.mk c5 c6) r_8).bind fun r_9=>
   some (.inl ((wrap .i64 (i+1)),r_9.A,r_9.B))) (
   some (.inr (i,decide (i<((values2.length:Nat):Int)),c5,c6)))
abbrev wk (c c2 c3 c4 c5 c6:Int):List (Nat×Blk):=[(1000,⟨2,true,[[I c,I c2]]⟩),(1001,⟨2,true,[[I c3,I c4]]⟩),(2001,⟨2,true,[[I c5,I c6]]⟩)]
abbrev Ds (values2:List Ext) (c c2 c3 c4:Int) (s:Int×Int×Int):St:=⟨[(0,sl ag values2),(3,.ptr 1000 0 0 1),(4,.ptr 1001 0 0 1),(5,.ptr 2001 0 0 1),(6,I s.1)],wk c c2 c3 c4 s.2.1 s.2.2⟩
abbrev CV (values2:List Ext) (c c2 c3 c4:Int):(Int×Bool×Int×Int)→ai×St:=fun e=>(.exit 0,⟨[(0,sl ag values2),(3,.ptr 1000 0 0 1),(4,.ptr 1001 0 0 1),(5,.ptr 2001 0 0 1),(6,I e.1),(14,B e.2.1)],wk c c2 c3 c4 e.2.2.1 e.2.2.2⟩)
theorem PO {values2 c c2 c3 c4 s e} (h:Loop (gi values2 c c2 c3 c4) s=some e):aD tab ow (.close [6004,12003,12004,12005,13003,13004,14003,14004,14005,14006]) vn (Ds values2 c c2 c3 c4 s)=some (CV values2 c c2 c3 c4 e):=by
 refine lrG (fun s o h=> ?_) h
 obtain ⟨_,_,_⟩:=s
 simp only [gi] at h
 simp+decide only [Ds,CV,wk,vn,go_sem,reduceIte,Nat.reduceAdd]
 have d1:= @Pg
 have d2:= @An
 have d3:= @rU
 have d4:= @i8
 have d5:= @jw
 all_goals exact go
def xa (values:(List Ext)) (x:Ext):Option (Ext):=
 (Loop (gi values x.A x.B 0 0) (0,0,0)).bind fun e_2=>
 some (Ext.mk e_2.2.2.1 e_2.2.2.2)
theorem W4 {values x r} (h:xa values x=some r):Call tab ow 198 [sl ag values,.agg [I x.A,I x.B]] []=some (.agg [I r.A,I r.B],[]):=by
 rw [ab (af:=ul) rfl]
 unfold xa at h
 simp+decide only [ul,IL,go_sem,reduceIte,Nat.reduceAdd]
 have d1:= @PO
 all_goals exact go
def gp (a2 b2:List Ext) (c c2:Int):Int×Int×Int→Option ((Int×Int×Int)⊕((Int×Bool×Int×Int)))
 | (i,c3,c4)=>
   br (decide (i<((a2.length:Nat):Int))) (
   (atL a2 i).bind fun x=>
   (atL b2 i).bind fun x2=>
   (cZ x x2).bind fun r_2=>
   (atL a2 i).bind fun x3=>
   (nT x3).bind fun r_3=>
   (atL b2 i).bind fun x4=>
   (nT x4).bind fun r_4=>
   (cZ r_3 r_4).bind fun r_5=>
   (gQ r_2 r_5).bind fun r_6=>
   (cZ (Ext.mk c3 c4) r_6).bind fun r_7=>
   some (.inl ((wrap .i64 (i+1)),r_7.A,r_7.B))) (
   some (.inr (i,decide (i<((a2.length:Nat):Int)),c3,c4)))
abbrev vj (c c2 c3 c4:Int):List (Nat×Blk):=[(1000,⟨2,true,[[I c,I c2]]⟩),(2001,⟨2,true,[[I c3,I c4]]⟩)]
abbrev CM (a2 b2:List Ext) (c c2:Int) (s:Int×Int×Int):St:=⟨[(0,sl ag a2),(1,sl ag b2),(4,.ptr 1000 0 0 1),(5,.ptr 2001 0 0 1),(6,I s.1)],vj c c2 s.2.1 s.2.2⟩
abbrev CW (a2 b2:List Ext) (c c2:Int):(Int×Bool×Int×Int)→ai×St:=fun e=>(.exit 0,⟨[(0,sl ag a2),(1,sl ag b2),(4,.ptr 1000 0 0 1),(5,.ptr 2001 0 0 1),(6,I e.1),(11,B e.2.1)],vj c c2 e.2.2.1 e.2.2.2⟩)
theorem Qo {a2 b2 c c2 s e} (h:Loop (gp a2 b2 c c2) s=some e):aD tab ow (.close [6009,6014,6019,6020,6021,6022]) vS (CM a2 b2 c c2 s)=some (CW a2 b2 c c2 e):=by
 refine lrG (fun s o h=> ?_) h
 obtain ⟨_,_,_⟩:=s
 simp only [gp] at h
 simp+decide only [CM,CW,vj,vS,go_sem,reduceIte,Nat.reduceAdd]
 have d1:= @i8
 have d2:= @Kb
 have d3:= @jw
 all_goals exact go
def xD (a b:(List Ext)):Option (Ext):=
 (xy).bind fun r_=>
 (Loop (gp a b 0 0) (0,r_.A,r_.B)).bind fun e_=>
 some (Ext.mk e_.2.2.1 e_.2.2.2)
theorem Wy {a b r} (h:xD a b=some r):Call tab ow 200 [sl ag a,sl ag b] []=some (.agg [I r.A,I r.B],[]):=by
 rw [ab (af:=ud) rfl]
 unfold xD at h
 simp+decide only [ud,Jx,go_sem,reduceIte,Nat.reduceAdd]
 have d1:= @Ep
 have d2:= @Qo
 all_goals exact go
section
theorem ZE:mkR 2002 []=rws eS []:=rfl
attribute [local go_sem] ZE
theorem YD:mkR 10002 []=rws eS []:=rfl
attribute [local go_sem] YD
def jo (path2:List (List UInt8)):(List (List UInt8))×Int×(List UInt8)×Int→Option (((List (List UInt8))×Int×(List UInt8)×Int)⊕(((List (List UInt8))×Int×(List UInt8)×Int×Bool)))
 | (l,i2,h_,k)=>
   br (decide (k<((path2.length:Nat):Int))) (
   br (bc ((([1]:List UInt8)).length+h_.length) 1) (
   (atL path2 k).bind fun x=>
   br (bc (((([1]:List UInt8))++h_).length+x.length) 1) (
   br ((i2.tmod 2)==1) (
   (atL path2 k).bind fun x2=>
   br (bc ((([1]:List UInt8)).length+x2.length) 1) (
   br (bc (((([1]:List UInt8))++x2).length+h_.length) 1) (
   br (bc ((l++([(((([1]:List UInt8))++x2)++h_)]:List (List UInt8))).length) 16) (
   (fW (((([1]:List UInt8))++x2)++h_)).bind fun r_2=>
   some (.inl ((l++([(((([1]:List UInt8))++x2)++h_)]:List (List UInt8))),(wrap .i64 (i2.tdiv 2)),r_2,(wrap .i64 (k+1))))) none) none) none) (
   br (bc ((l++([(((([1]:List UInt8))++h_)++x)]:List (List UInt8))).length) 16) (
   (fW (((([1]:List UInt8))++h_)++x)).bind fun r_3=>
   some (.inl ((l++([(((([1]:List UInt8))++h_)++x)]:List (List UInt8))),(wrap .i64 (i2.tdiv 2)),r_3,(wrap .i64 (k+1))))) none)) none) none) (
   some (.inr (l,i2,h_,k,decide (k<((path2.length:Nat):Int)))))
abbrev J5 (path2:List (List UInt8)) (s:(List (List UInt8))×Int×(List UInt8)×Int):St:=⟨[(0,I s.2.1),(2,sl eS path2),(8,.sl 2002 0 s.1.length),(9,S s.2.2.1),(10,I s.2.2.2)],[(2002,⟨1,false,rws eS s.1⟩)]⟩
abbrev JJ (path2:List (List UInt8)):((List (List UInt8))×Int×(List UInt8)×Int×Bool)→ai×St:=fun e=>(.exit 0,⟨[(0,I e.2.1),(2,sl eS path2),(8,.sl 2002 0 e.1.length),(9,S e.2.2.1),(10,I e.2.2.2.1),(20,B e.2.2.2.2)],[(2002,⟨1,false,rws eS e.1⟩)]⟩)
theorem Xd {path2 s e} (h:Loop (jo path2) s=some e):aD tab ow (.close [10002,10003,11001]) BD (J5 path2 s)=some (JJ path2 e):=by
 refine lrG (fun s o h=> ?_) h
 obtain ⟨_,_,_,_⟩:=s
 simp only [jo] at h
 simp+decide only [J5,JJ,BD,go_sem,reduceIte,Nat.reduceAdd]
 have d1:= @js
 all_goals exact go
def H0 (i:Int) (leaf:(List UInt8)) (path:(List (List UInt8))):Option ((List (List UInt8))×(List UInt8)):=
 br (bc ((([0]:List UInt8)).length+leaf.length) 1) (
 (s8 leaf).bind fun r_=>
 (Loop (jo path) (([((([0]:List UInt8))++leaf)]:List (List UInt8)),i,r_,0)).bind fun e_=>
 some (e_.1,e_.2.2.1)) none
theorem a2w {i leaf path r} (h:H0 i leaf path=some r):Call tab ow 342 [I i,S leaf,sl eS path] []=some (.tup [sl eS r.1,S r.2],[]):=by
 rw [ab (af:=BW) rfl]
 unfold H0 at h
 simp+decide only [BW,Rx,go_sem,reduceIte,Nat.reduceAdd]
 have d1:= @IP
 have d2:= @Xd
 all_goals exact go
end
def fD (root2:List UInt8) (i2:Int) (leaf2:List UInt8) (path2:List (List UInt8)):Int→Option ((Int)⊕(Unit⊕(Int×Bool)))
 |k=>
  br (decide (k<((path2.length:Nat):Int))) (
  (atL path2 k).bind fun x=>
  br (((x.length:Nat):Int) !=32) (
  some (.inr (.inl ()))) (
  some (.inl (wrap .i64 (k+1))))) (
  some (.inr (.inr (k,decide (k<((path2.length:Nat):Int))))))
abbrev AS (root2:List UInt8) (i2:Int) (leaf2:List UInt8) (path2:List (List UInt8)) (s:Int):St:=⟨[(0,S root2),(2,I i2),(3,S leaf2),(4,sl eS path2),(11,I s)],[]⟩
abbrev Av (root2:List UInt8) (i2:Int) (leaf2:List UInt8) (path2:List (List UInt8)):(Unit⊕(Int×Bool))→ai×St:=alt (fun e=>((.ret,⟨[(10,B false)],[]⟩):ai×St)) (fun e=>(.exit 0,⟨[(0,S root2),(2,I i2),(3,S leaf2),(4,sl eS path2),(11,I e.1),(29,B e.2)],[]⟩))
theorem NJ {root2 i2 leaf2 path2 s e} (h:Loop (fD root2 i2 leaf2 path2) s=some e):aD tab ow (.close []) sW (AS root2 i2 leaf2 path2 s)=some (Av root2 i2 leaf2 path2 e):=by
 refine lrG (fun s o h=> ?_) h
 simp only [fD] at h
 simp+decide only [AS,Av,sW,go_sem,reduceIte,Nat.reduceAdd]
 all_goals exact go
def od (root:(List UInt8)) (n i:Int) (leaf:(List UInt8)) (path:(List (List UInt8))):Option (Bool):=
 br (decide (((leaf.length:Nat):Int)>64)) (
 some false) (
 br (decide (0≤(wrap .u64 (mn 20 ((path.length:Nat):Int))))) (
 br (n !=(bX .i64 1 (wrap .u64 (mn 20 ((path.length:Nat):Int))))) (
 some false) (
 (Loop (fD root i leaf path) 0).bind (alt (fun e_2=>
 some false) (fun e_3=>
 (H0 i leaf path).bind fun r_=>
 some (r_.2==root))))) none)
theorem TA {root n i leaf path r} (h:od root n i leaf path=some r):Call tab ow 299 [S root,I n,I i,S leaf,sl eS path] []=some (B r,[]):=by
 rw [ab (af:=rJ) rfl]
 unfold od at h
 simp+decide only [rJ,FS,go_sem,reduceIte,Nat.reduceAdd]
 have d1:= @NJ
 have d2:= @a2w
 all_goals exact go
section
theorem Q2:mkR 11008 []=rws ag []:=rfl
attribute [local go_sem] Q2
def ft (ListtoArray2:List (List UInt8)) (t:Int) (t4:List Ext) (c:List (List Ext)) (c2:List (List UInt8)) (c3 c4 c5:Int) (c6:List aq) (c7:List Ext) (c8:List (List (List UInt8))):Int×Int×Int×Int×Int→Option ((Int×Int×Int×Int×Int)⊕((Int×Int×Int×Int×Int×Int×Int)⊕(Int×Int×Int×Bool×Int×Int)))
 | (t2,t3,t5,c9,c10)=>
   br (decide (t5<t)) (
   br (decide ((wrap .i64 (t2.tdiv 2))≠0)) (
   (atL c7 (wrap .i64 (2*t5))).bind fun x=>
   (atL c7 (wrap .i64 ((wrap .i64 (2*t5))+1))).bind fun x2=>
   (atL ListtoArray2 t5).bind fun x3=>
   (lF ([x,x2]:List Ext)).bind fun r_=>
   (atL c8 t5).bind fun x4=>
   (od x3 (wrap .i64 (t2.tdiv 2)) (t3.tmod (wrap .i64 (t2.tdiv 2))) r_ x4).bind fun r_2=>
   br (!r_2) (
   some (.inr (.inl (9,c9,c10,x.A,x.B,x2.A,x2.B)))) (
   br (decide (t5>0)) (
   br (decide (t3<(wrap .i64 (t2.tdiv 2)))) (
   br (x.A==c9) (
   br (x.B==c10) (
   br (!decide (t3<(wrap .i64 (t2.tdiv 2)))) (
   br (x2.A==c9) (
   br (x2.B==c10) (
   (atL t4 t5).bind fun x5=>
   (iY t2 (t3.tmod (wrap .i64 (t2.tdiv 2))) x x2 x5).bind fun r_3=>
   some (.inl ((wrap .i64 (t2.tdiv 2)),(t3.tmod (wrap .i64 (t2.tdiv 2))),(wrap .i64 (t5+1)),r_3.A,r_3.B))) (
   some (.inr (.inl (12,c9,c10,x.A,x.B,x2.A,x2.B))))) (
   some (.inr (.inl (12,c9,c10,x.A,x.B,x2.A,x2.B))))) (
   (atL t4 t5).bind fun x6=>
   (iY t2 (t3.tmod (wrap .i64 (t2.tdiv 2))) x x2 x6).bind fun r_4=>
   some (.inl ((wrap .i64 (t2.tdiv 2)),(t3.tmod (wrap .i64 (t2.tdiv 2))),(wrap .i64 (t5+1)),r_4.A,r_4.B)))) (
   some (.inr (.inl (12,c9,c10,x.A,x.B,x2.A,x2.B))))) (
   some (.inr (.inl (12,c9,c10,x.A,x.B,x2.A,x2.B))))) (
   br (!decide (t3<(wrap .i64 (t2.tdiv 2)))) (
   br (x2.A==c9) (
   br (x2.B==c10) (
   (atL t4 t5).bind fun x7=>
   (iY t2 (t3.tmod (wrap .i64 (t2.tdiv 2))) x x2 x7).bind fun r_5=>
   some (.inl ((wrap .i64 (t2.tdiv 2)),(t3.tmod (wrap .i64 (t2.tdiv 2))),(wrap .i64 (t5+1)),r_5.A,r_5.B))) (
   some (.inr (.inl (12,c9,c10,x.A,x.B,x2.A,x2.B))))) (
   some (.inr (.inl (12,c9,c10,x.A,x.B,x2.A,x2.B))))) (
   (atL t4 t5).bind fun x8=>
   (iY t2 (t3.tmod (wrap .i64 (t2.tdiv 2))) x x2 x8).bind fun r_6=>
   some (.inl ((wrap .i64 (t2.tdiv 2)),(t3.tmod (wrap .i64 (t2.tdiv 2))),(wrap .i64 (t5+1)),r_6.A,r_6.B))))) (
   (atL t4 t5).bind fun x9=>
   (iY t2 (t3.tmod (wrap .i64 (t2.tdiv 2))) x x2 x9).bind fun r_7=>
   some (.inl ((wrap .i64 (t2.tdiv 2)),(t3.tmod (wrap .i64 (t2.tdiv 2))),(wrap .i64 (t5+1)),r_7.A,r_7.B))))) none) (
   some (.inr (.inr (t2,t3,t5,decide (t5<t),c9,c10))))
abbrev sy (c:List (List Ext)) (c2:List (List UInt8)) (c3 c4 c5:Int) (c6:List aq) (c7:List Ext) (c8:List (List (List UInt8))) (c9 c10:Int):List (Nat×Blk):=[(1000,⟨6,true,[[sl (eL ag) c,sl eS c2,I c3,I c4,I c5,sl aQ c6]]⟩),(1001,⟨2,true,[[sl ag c7,sl (eL eS) c8]]⟩),(2001,⟨2,true,[[I c9,I c10]]⟩)]
abbrev Ax (ListtoArray2:List (List UInt8)) (t:Int) (t4:List Ext) (c:List (List Ext)) (c2:List (List UInt8)) (c3 c4 c5:Int) (c6:List aq) (c7:List Ext) (c8:List (List (List UInt8))) (s:Int×Int×Int×Int×Int):St:=⟨[(0,sl eS ListtoArray2),(1,I t),(2,I s.1),(3,I s.2.1),(4,sl ag t4),(12,.ptr 1000 0 0 1),(13,.ptr 1001 0 0 1),(15,.ptr 2001 0 0 1),(16,I s.2.2.1)],sy c c2 c3 c4 c5 c6 c7 c8 s.2.2.2.1 s.2.2.2.2⟩
abbrev BB (ListtoArray2:List (List UInt8)) (t:Int) (t4:List Ext) (c:List (List Ext)) (c2:List (List UInt8)) (c3 c4 c5:Int) (c6:List aq) (c7:List Ext) (c8:List (List (List UInt8))):((Int×Int×Int×Int×Int×Int×Int)⊕(Int×Int×Int×Bool×Int×Int))→ai×St:=alt (fun e=>((.ret,⟨[(14,I e.1)],[(1000,⟨6,true,[[sl (eL ag) c,sl eS c2,I c3,I c4,I c5,sl aQ c6]]⟩),(1001,⟨2,true,[[sl ag c7,sl (eL eS) c8]]⟩),(2001,⟨2,true,[[I e.2.1,I e.2.2.1]]⟩),(9006,⟨2,true,[[I e.2.2.2.1,I e.2.2.2.2.1]]⟩),(10007,⟨2,true,[[I e.2.2.2.2.2.1,I e.2.2.2.2.2.2]]⟩),(11008,dR)]⟩):ai×St)) (fun e=>(.exit 0,⟨[(0,sl eS ListtoArray2),(1,I t),(2,I e.1),(3,I e.2.1),(4,sl ag t4),(12,.ptr 1000 0 0 1),(13,.ptr 1001 0 0 1),(15,.ptr 2001 0 0 1),(16,I e.2.2.1),(24,B e.2.2.2.1)],sy c c2 c3 c4 c5 c6 c7 c8 e.2.2.2.2.1 e.2.2.2.2.2⟩))
theorem NK {ListtoArray2 t t4 c c2 c3 c4 c5 c6 c7 c8 s e} (h:Loop (ft ListtoArray2 t t4 c c2 c3 c4 c5 c6 c7 c8) s=some e):aD tab ow (.close [9006,10007,11008,11009,11016,15008]) tE (Ax ListtoArray2 t t4 c c2 c3 c4 c5 c6 c7 c8 s)=some (BB ListtoArray2 t t4 c c2 c3 c4 c5 c6 c7 c8 e):=by
 refine lrG (fun s o h=> ?_) h
 obtain ⟨_,_,_,_,_⟩:=s
 simp only [ft] at h
 simp+decide only [Ax,BB,sy,tE,go_sem,reduceIte,Nat.reduceAdd]
 have d1:= @zb
 have d2:= @TA
 have d3:= @JN
 all_goals exact go
def y9 (ListtoArray:(List (List UInt8))) (a a2 a3:Int) (a4:(List Ext)) (a5:aC) (a6:aq):Option (Int):=
 (Loop (ft ListtoArray a a4 a5.Rounds a5.Roots a5.Last.A a5.Last.B a5.Nonce a5.Queries a6.Pairs a6.Paths) (a2,a3,0,0,0)).bind (alt (fun e_2=>
 some e_2.1) (fun e_3=>
 br (e_3.2.2.2.2.1==a5.Last.A) (
 br (e_3.2.2.2.2.2==a5.Last.B) (
 some 0) (
 some 13)) (
 some 13)))
theorem Sm {ListtoArray a a2 a3 a4 a5 a6 r} (h:y9 ListtoArray a a2 a3 a4 a5 a6=some r):Call tab ow 202 [sl eS ListtoArray,I a,I a2,I a3,sl ag a4,.agg [sl (eL ag) a5.Rounds,sl eS a5.Roots,I a5.Last.A,I a5.Last.B,I a5.Nonce,sl aQ a5.Queries],.agg [sl ag a6.Pairs,sl (eL eS) a6.Paths]] []=some (I r,[]):=by
 rw [ab (af:=rF) rfl]
 unfold y9 at h
 simp+decide only [rF,GQ,go_sem,reduceIte,Nat.reduceAdd]
 have d1:= @NK
 all_goals exact go
end
section
theorem Py:mkR 2001 []=rws eS []:=rfl
attribute [local go_sem] Py
theorem PB:mkR 3000 []=rws ag []:=rfl
attribute [local go_sem] PB
theorem PD:mkR 15002 []=rws ag []:=rfl
attribute [local go_sem] PD
theorem Pz:mkR 20003 []=rws ag []:=rfl
attribute [local go_sem] Pz
def cy (l:List (List UInt8)) (t:Int) (t2:List Ext) (c c2 c3 c4 c5:Int) (c6:List (List Ext)) (c7:List (List UInt8)) (c8 c9 c10:Int) (c11:List aq) (c16:Int) (c17:List UInt8) (c18:Int):(List Ext)×Int×(List Ext)×Int×(List UInt8)×Int×Int×Int→Option (((List Ext)×Int×(List Ext)×Int×(List UInt8)×Int×Int×Int)⊕(((List Ext)×(List Ext)×Int×(List UInt8)×Int×(List Ext)×Int×(List UInt8)×Int×Int×Int)⊕((List Ext)×Int×Bool×(List Ext)×Int×(List UInt8)×Int×Int×Int)))
 | (l2,t3,c12,c13,c14,c15,c19,c20)=>
   br (decide (t3<t)) (
   (atL c6 t3).bind fun x=>
   (atL x 0).bind fun x2=>
   (atL x 1).bind fun x3=>
   (gQ x2 x3).bind fun r_=>
   br (r_.A==c19) (
   br (r_.B==c20) (
   (mg (Source.mk c12 c13 c14 c15) x).bind fun r_2=>
   (iL r_2).bind fun r_3=>
   (xa x r_3.2).bind fun r_4=>
   br (bc ((l2++([r_3.2]:List Ext)).length) 16) (
   br (decide ((wrap .i64 (t3+1))<t)) (
   (atL c7 t3).bind fun x4=>
   (dZ r_3.1 x4).bind fun r_5=>
   some (.inl ((l2++([r_3.2]:List Ext)),(wrap .i64 (t3+1)),r_5.Script,r_5.At,r_5.State,r_5.Count,r_4.A,r_4.B))) (
   some (.inl ((l2++([r_3.2]:List Ext)),(wrap .i64 (t3+1)),r_3.1.Script,r_3.1.At,r_3.1.State,r_3.1.Count,r_4.A,r_4.B)))) none) (
   some (.inr (.inl (l2,c12,c13,c14,c15,c12,c13,c14,c15,c19,c20))))) (
   some (.inr (.inl (l2,c12,c13,c14,c15,c12,c13,c14,c15,c19,c20))))) (
   some (.inr (.inr (l2,t3,decide (t3<t),c12,c13,c14,c15,c19,c20))))
abbrev sP (l:List (List UInt8)) (c c2 c3 c4 c5:Int) (c6:List (List Ext)) (c7:List (List UInt8)) (c8 c9 c10:Int) (c11:List aq) (c16:Int) (c17:List UInt8) (c18:Int) (l2 c12:List Ext) (c13:Int) (c14:List UInt8) (c15 c19 c20:Int):List (Nat×Blk):=[(1000,⟨2,true,[[I c,I c2]]⟩),(1001,⟨3,true,[[I c3,I c4,I c5]]⟩),(1002,⟨6,true,[[sl (eL ag) c6,sl eS c7,I c8,I c9,I c10,sl aQ c11]]⟩),(1003,⟨4,true,[[sl ag c12,I c13,S c14,I c15]]⟩),(1004,⟨4,true,[[.lit (.slice none 0 0),I c16,S c17,I c18]]⟩),(2001,⟨1,false,rws eS l⟩),(3000,⟨2,false,rws ag l2⟩),(4001,⟨2,true,[[I c19,I c20]]⟩)]
abbrev AU (l:List (List UInt8)) (t:Int) (t2:List Ext) (c c2 c3 c4 c5:Int) (c6:List (List Ext)) (c7:List (List UInt8)) (c8 c9 c10:Int) (c11:List aq) (c16:Int) (c17:List UInt8) (c18:Int) (s:(List Ext)×Int×(List Ext)×Int×(List UInt8)×Int×Int×Int):St:=⟨[(1,I t),(2,sl ag t2),(11,.ptr 1001 0 0 1),(12,.ptr 1002 0 0 1),(13,.ptr 1003 0 0 1),(14,.ptr 1004 0 0 1),(16,.sl 2001 0 l.length),(17,.sl 3000 0 s.1.length),(18,.ptr 4001 0 0 1),(19,I s.2.1)],sP l c c2 c3 c4 c5 c6 c7 c8 c9 c10 c11 c16 c17 c18 s.1 s.2.2.1 s.2.2.2.1 s.2.2.2.2.1 s.2.2.2.2.2.1 s.2.2.2.2.2.2.1 s.2.2.2.2.2.2.2⟩
abbrev Ae (l:List (List UInt8)) (t:Int) (t2:List Ext) (c c2 c3 c4 c5:Int) (c6:List (List Ext)) (c7:List (List UInt8)) (c8 c9 c10:Int) (c11:List aq) (c16:Int) (c17:List UInt8) (c18:Int):(((List Ext)×(List Ext)×Int×(List UInt8)×Int×(List Ext)×Int×(List UInt8)×Int×Int×Int)⊕((List Ext)×Int×Bool×(List Ext)×Int×(List UInt8)×Int×Int×Int))→ai×St:=alt (fun e=>((.ret,⟨[(14,.ptr 1004 0 0 1),(15,I 10)],[(1000,⟨2,true,[[I c,I c2]]⟩),(1001,⟨3,true,[[I c3,I c4,I c5]]⟩),(1002,⟨6,true,[[sl (eL ag) c6,sl eS c7,I c8,I c9,I c10,sl aQ c11]]⟩),(1003,⟨4,true,[[sl ag e.2.1,I e.2.2.1,S e.2.2.2.1,I e.2.2.2.2.1]]⟩),(1004,⟨4,true,[[sl ag e.2.2.2.2.2.1,I e.2.2.2.2.2.2.1,S e.2.2.2.2.2.2.2.1,I e.2.2.2.2.2.2.2.2.1]]⟩),(2001,⟨1,false,rws eS l⟩),(3000,⟨2,false,rws ag e.1⟩),(4001,⟨2,true,[[I e.2.2.2.2.2.2.2.2.2.1,I e.2.2.2.2.2.2.2.2.2.2]]⟩)]⟩):ai×St)) (fun e=>(.exit 0,⟨[(1,I t),(2,sl ag t2),(11,.ptr 1001 0 0 1),(12,.ptr 1002 0 0 1),(13,.ptr 1003 0 0 1),(14,.ptr 1004 0 0 1),(16,.sl 2001 0 l.length),(17,.sl 3000 0 e.1.length),(18,.ptr 4001 0 0 1),(19,I e.2.1),(36,B e.2.2.1)],sP l c c2 c3 c4 c5 c6 c7 c8 c9 c10 c11 c16 c17 c18 e.1 e.2.2.2.1 e.2.2.2.2.1 e.2.2.2.2.2.1 e.2.2.2.2.2.2.1 e.2.2.2.2.2.2.2.1 e.2.2.2.2.2.2.2.2⟩))
theorem LQ {l t t2 c c2 c3 c4 c5 c6 c7 c8 c9 c10 c11 c16 c17 c18 s e} (h:Loop (cy l t t2 c c2 c3 c4 c5 c6 c7 c8 c9 c10 c11 c16 c17 c18) s=some e):aD tab ow (.close [9006,11002,12001,12005,12006,14002,15002,15003,17006]) tH (AU l t t2 c c2 c3 c4 c5 c6 c7 c8 c9 c10 c11 c16 c17 c18 s)=some (Ae l t t2 c c2 c3 c4 c5 c6 c7 c8 c9 c10 c11 c16 c17 c18 e):=by
 refine lrG (fun s o h=> ?_) h
 obtain ⟨_,_,_,_,_,_,_,_⟩:=s
 simp only [cy] at h
 simp+decide only [AU,Ae,sP,tH,go_sem,reduceIte,Nat.reduceAdd]
 have d1:= @jw
 have d2:= @ut
 have d3:= @pB
 have d4:= @W4
 have d5:= @gk
 all_goals exact go
def dY (l3:List (List UInt8)) (l4:List Ext) (t4 t5:Int) (t6:List Int) (c21 c22 c23 c24 c25:Int) (c26:List (List Ext)) (c27:List (List UInt8)) (c28 c29 c30:Int) (c31:List aq) (c32:List Ext) (c33:Int) (c34:List UInt8) (c35 c36:Int) (c37:List UInt8) (c38 c39 c40:Int):Int→Option ((Int)⊕(Int⊕(Int×Bool)))
 |t7=>
  br (decide (t7<((t6.length:Nat):Int))) (
  (atL t6 t7).bind fun x5=>
  (atL c31 t7).bind fun x6=>
  (y9 l3 t4 t5 x5 l4 (aC.mk c26 c27 (Ext.mk c28 c29) c30 c31) x6).bind fun r_13=>
  br (r_13 !=0) (
  some (.inr (.inl r_13))) (
  some (.inl (wrap .i64 (t7+1))))) (
  some (.inr (.inr (t7,decide (t7<((t6.length:Nat):Int))))))
abbrev t0 (l3:List (List UInt8)) (l4:List Ext) (c21 c22 c23 c24 c25:Int) (c26:List (List Ext)) (c27:List (List UInt8)) (c28 c29 c30:Int) (c31:List aq) (c32:List Ext) (c33:Int) (c34:List UInt8) (c35 c36:Int) (c37:List UInt8) (c38 c39 c40:Int):List (Nat×Blk):=[(1000,⟨2,true,[[I c21,I c22]]⟩),(1001,⟨3,true,[[I c23,I c24,I c25]]⟩),(1002,⟨6,true,[[sl (eL ag) c26,sl eS c27,I c28,I c29,I c30,sl aQ c31]]⟩),(1003,⟨4,true,[[sl ag c32,I c33,S c34,I c35]]⟩),(1004,⟨4,true,[[.lit (.slice none 0 0),I c36,S c37,I c38]]⟩),(2001,⟨1,false,rws eS l3⟩),(3000,⟨2,false,rws ag l4⟩),(4001,⟨2,true,[[I c39,I c40]]⟩),(20003,dR)]
abbrev Aq (l3:List (List UInt8)) (l4:List Ext) (t4 t5:Int) (t6:List Int) (c21 c22 c23 c24 c25:Int) (c26:List (List Ext)) (c27:List (List UInt8)) (c28 c29 c30:Int) (c31:List aq) (c32:List Ext) (c33:Int) (c34:List UInt8) (c35 c36:Int) (c37:List UInt8) (c38 c39 c40 s:Int):St:=⟨[(1,I t4),(12,.ptr 1002 0 0 1),(13,.ptr 1003 0 0 1),(14,.ptr 1004 0 0 1),(16,.sl 2001 0 l3.length),(17,.sl 3000 0 l4.length),(23,I t5),(24,sl eI t6),(25,I s)],t0 l3 l4 c21 c22 c23 c24 c25 c26 c27 c28 c29 c30 c31 c32 c33 c34 c35 c36 c37 c38 c39 c40⟩
abbrev AG (l3:List (List UInt8)) (l4:List Ext) (t4 t5:Int) (t6:List Int) (c21 c22 c23 c24 c25:Int) (c26:List (List Ext)) (c27:List (List UInt8)) (c28 c29 c30:Int) (c31:List aq) (c32:List Ext) (c33:Int) (c34:List UInt8) (c35 c36:Int) (c37:List UInt8) (c38 c39 c40:Int):(Int⊕(Int×Bool))→ai×St:=alt (fun e=>((.ret,⟨[(14,.ptr 1004 0 0 1),(15,I e)],[(1000,⟨2,true,[[I c21,I c22]]⟩),(1001,⟨3,true,[[I c23,I c24,I c25]]⟩),(1002,⟨6,true,[[sl (eL ag) c26,sl eS c27,I c28,I c29,I c30,sl aQ c31]]⟩),(1003,⟨4,true,[[sl ag c32,I c33,S c34,I c35]]⟩),(1004,⟨4,true,[[sl ag c32,I c33,S c34,I c35]]⟩),(2001,⟨1,false,rws eS l3⟩),(3000,⟨2,false,rws ag l4⟩),(4001,⟨2,true,[[I c39,I c40]]⟩),(20003,dR)]⟩):ai×St)) (fun e=>(.exit 2,⟨[(1,I t4),(12,.ptr 1002 0 0 1),(13,.ptr 1003 0 0 1),(14,.ptr 1004 0 0 1),(16,.sl 2001 0 l3.length),(17,.sl 3000 0 l4.length),(23,I t5),(24,sl eI t6),(25,I e.1),(127,B e.2)],t0 l3 l4 c21 c22 c23 c24 c25 c26 c27 c28 c29 c30 c31 c32 c33 c34 c35 c36 c37 c38 c39 c40⟩))
theorem Ol {l3 l4 t4 t5 t6 c21 c22 c23 c24 c25 c26 c27 c28 c29 c30 c31 c32 c33 c34 c35 c36 c37 c38 c39 c40 s e} (h:Loop (dY l3 l4 t4 t5 t6 c21 c22 c23 c24 c25 c26 c27 c28 c29 c30 c31 c32 c33 c34 c35 c36 c37 c38 c39 c40) s=some e):aD tab ow (.close [29014]) pK (Aq l3 l4 t4 t5 t6 c21 c22 c23 c24 c25 c26 c27 c28 c29 c30 c31 c32 c33 c34 c35 c36 c37 c38 c39 c40 s)=some (AG l3 l4 t4 t5 t6 c21 c22 c23 c24 c25 c26 c27 c28 c29 c30 c31 c32 c33 c34 c35 c36 c37 c38 c39 c40 e):=by
 refine lrG (fun s o h=> ?_) h
 simp only [dY] at h
 simp+decide only [Aq,AG,t0,pK,go_sem,reduceIte,Nat.reduceAdd]
 have d1:= @Sm
 all_goals exact go
def tw (ListtoArray:(List UInt8)) (a:Int) (a2:(List Ext)) (a3:Ext) (a4:Setting) (a5:aC) (a6:Source):Option (Source×Int):=
 br (bc ((([ListtoArray]:List (List UInt8))++a5.Roots).length) 16) (
 (Loop (cy (([ListtoArray]:List (List UInt8))++a5.Roots) a a2 a3.A a3.B a4.Rate a4.Queries a4.Grind a5.Rounds a5.Roots a5.Last.A a5.Last.B a5.Nonce a5.Queries 0 (([]:List UInt8)) 0) (([]:List Ext),0,a6.Script,a6.At,a6.State,a6.Count,a3.A,a3.B)).bind (alt (fun e_2=>
 some ((Source.mk e_2.2.2.2.2.2.1 e_2.2.2.2.2.2.2.1 e_2.2.2.2.2.2.2.2.1 e_2.2.2.2.2.2.2.2.2.1),10)) (fun e_3=>
 (xD e_3.1 a2).bind fun r_6=>
 (cZ a5.Last r_6).bind fun r_7=>
 br (r_7.A==e_3.2.2.2.2.2.2.2.1) (
 br (r_7.B==e_3.2.2.2.2.2.2.2.2) (
 (mg (Source.mk e_3.2.2.2.1 e_3.2.2.2.2.1 e_3.2.2.2.2.2.1 e_3.2.2.2.2.2.2.1) ([a5.Last]:List Ext)).bind fun r_8=>
 (sr r_8 a4.Grind a5.Nonce).bind fun r_9=>
 br (!r_9) (
 some (r_8,14)) (
 (ed a5.Nonce 4).bind fun r_10=>
 (dZ r_8 r_10).bind fun r_11=>
 br (decide (0≤(wrap .u64 (wrap .i64 (a+a4.Rate))))) (
 (mf r_11 a4.Queries (wrap .i64 ((bX .i64 1 (wrap .u64 (wrap .i64 (a+a4.Rate)))).tdiv 2))).bind fun r_12=>
 (Loop (dY (([ListtoArray]:List (List UInt8))++a5.Roots) e_3.1 a (bX .i64 1 (wrap .u64 (wrap .i64 (a+a4.Rate)))) r_12.2 a3.A a3.B a4.Rate a4.Queries a4.Grind a5.Rounds a5.Roots a5.Last.A a5.Last.B a5.Nonce a5.Queries r_12.1.Script r_12.1.At r_12.1.State r_12.1.Count 0 (([]:List UInt8)) 0 e_3.2.2.2.2.2.2.2.1 e_3.2.2.2.2.2.2.2.2) 0).bind (alt (fun e_5=>
 some (r_12.1,e_5)) (fun e_6=>
 some (r_12.1,0)))) none)) (
 some ((Source.mk e_3.2.2.2.1 e_3.2.2.2.2.1 e_3.2.2.2.2.2.1 e_3.2.2.2.2.2.2.1),11))) (
 some ((Source.mk e_3.2.2.2.1 e_3.2.2.2.2.1 e_3.2.2.2.2.2.1 e_3.2.2.2.2.2.2.1),11))))) none
theorem RT {ListtoArray a a2 a3 a4 a5 a6 r} (h:tw ListtoArray a a2 a3 a4 a5 a6=some r):Call tab ow 97 [S ListtoArray,I a,sl ag a2,.agg [I a3.A,I a3.B],.agg [I a4.Rate,I a4.Queries,I a4.Grind],.agg [sl (eL ag) a5.Rounds,sl eS a5.Roots,I a5.Last.A,I a5.Last.B,I a5.Nonce,sl aQ a5.Queries],.agg [sl ag a6.Script,I a6.At,S a6.State,I a6.Count]] []=some (.tup [.agg [sl ag r.1.Script,I r.1.At,S r.1.State,I r.1.Count],I r.2],[]):=by
 rw [ab (af:=rK) rfl]
 unfold tw at h
 simp+decide only [rK,EM,go_sem,reduceIte,Nat.reduceAdd]
 have d1:= @LQ
 have d2:= @Wy
 have d3:= @i8
 have d4:= @ut
 have d5:= @IS
 have d6:= @iX
 have d7:= @gk
 have d8:= @DH
 have d9:= @Ol
 all_goals exact go
end
end
end Go.AI.Fn
set_option linter.unusedVariables false
set_option linter.unusedSimpArgs false
set_option maxRecDepth 100000
set_option maxHeartbeats 1000000
namespace Go.AI.Fn
noncomputable section
open IntKind (wrap)
def jv (ListtoArray:(List UInt8)) (a:Int) (a2:(List Ext)) (a3:Ext) (a4:Setting) (a5:aC) (a6:Source):Option (Source×Int):=
 br (decide (((ListtoArray.length:Nat):Int)>65536)) (
 some ((Source.mk ([]:List Ext) 0 (([]:List UInt8)) 0),2)) (
 br (decide (((a2.length:Nat):Int)>4096)) (
 some ((Source.mk ([]:List Ext) 0 (([]:List UInt8)) 0),2)) (
 (o4 a2).bind fun r_=>
 br (!r_) (
 some ((Source.mk ([]:List Ext) 0 (([]:List UInt8)) 0),1)) (
 (uJ a3).bind fun r_2=>
 br (!r_2) (
 some ((Source.mk ([]:List Ext) 0 (([]:List UInt8)) 0),1)) (
 (jJ a4).bind fun r_3=>
 br (!r_3) (
 some ((Source.mk ([]:List Ext) 0 (([]:List UInt8)) 0),1)) (
 (lW a6).bind fun r_4=>
 br (!r_4) (
 some ((Source.mk ([]:List Ext) 0 (([]:List UInt8)) 0),1)) (
 (gG a 1 6).bind fun r_5=>
 br (!r_5) (
 some ((Source.mk ([]:List Ext) 0 (([]:List UInt8)) 0),4)) (
 br (((a2.length:Nat):Int) !=a) (
 some ((Source.mk ([]:List Ext) 0 (([]:List UInt8)) 0),4)) (
 (pq a5 a a4).bind fun r_6=>
 br (!r_6) (
 some ((Source.mk ([]:List Ext) 0 (([]:List UInt8)) 0),18)) (
 (jN a6 100).bind fun r_7=>
 br r_7 (
 some ((Source.mk ([]:List Ext) 0 (([]:List UInt8)) 0),6)) (
 (tw ListtoArray a a2 a3 a4 a5 a6).bind fun r_8=>
 br (r_8.2 !=0) (
 some ((Source.mk ([]:List Ext) 0 (([]:List UInt8)) 0),r_8.2)) (
 (pz r_8.1).bind fun r_9=>
 some (r_9,0))))))))))))
theorem If {ListtoArray a a2 a3 a4 a5 a6 r} (h:jv ListtoArray a a2 a3 a4 a5 a6=some r):Call tab ow 24 [S ListtoArray,I a,sl ag a2,.agg [I a3.A,I a3.B],.agg [I a4.Rate,I a4.Queries,I a4.Grind],.agg [sl (eL ag) a5.Rounds,sl eS a5.Roots,I a5.Last.A,I a5.Last.B,I a5.Nonce,sl aQ a5.Queries],.agg [sl ag a6.Script,I a6.At,S a6.State,I a6.Count]] []=some (.tup [.agg [sl ag r.1.Script,I r.1.At,S r.1.State,I r.1.Count],I r.2],[]):=by
 rw [ab (af:=jQ) rfl]
 unfold jv at h
 simp+decide only [jQ,xE,go_sem,reduceIte,Nat.reduceAdd]
 have d1:= @Fb
 have d2:= @I3
 have d3:= @wc
 have d4:= @FQ
 have d5:= @sg
 have d6:= @Pk
 have d7:= @GW
 have d8:= @RT
 have d9:= @ED
 all_goals exact go
def Cp (ListtoArray a:(List UInt8)):Option (Bool):=
 br (decide (((ListtoArray.length:Nat):Int)>1048576)) (
 some true) (
 br (decide (((a.length:Nat):Int)>1048576)) (
 some true) (
 (a7n a 0 3).bind fun r_=>
 br (decide (0≤(wrap .u64 (wrap .i64 (1+r_))))) (
 (wK ListtoArray (bX .i64 1 (wrap .u64 (wrap .i64 (1+r_))))).bind fun r_2=>
 (wK a (wrap .i64 (1+r_))).bind fun r_3=>
 (pG a).bind fun r_4=>
 (tv ListtoArray).bind fun r_5=>
 (kW r_2 r_4.Rate).bind fun r_6=>
 (kO r_2 r_4.Rate).bind fun r_7=>
 (pH r_2 r_3 r_4 r_5).bind fun r_8=>
 (pa r_2 r_3 r_4 r_5).bind fun r_9=>
 br (r_6.2 !=0) (
 some false) (
 br (r_6.1 !=r_7.1) (
 some false) (
 br (r_8.2.2 !=r_9.2.2) (
 some false) (
 (iK r_8.1 r_9.1).bind fun r_10=>
 br (!r_10) (
 some false) (
 (km r_8.2.1 r_9.2.1).bind fun r_11=>
 br (!r_11) (
 some false) (
 br (r_8.2.2 !=0) (
 some (r_8.2.2==14)) (
 (sf r_2 r_3).bind fun r_12=>
 (fA r_6.1 (wrap .i64 (1+r_)) r_3 r_12.1 r_4 r_8.1 r_5).bind fun r_13=>
 (a1M).bind fun r_14=>
 (Bx r_12.1 r_14).bind fun r_15=>
 (fA r_6.1 (wrap .i64 (1+r_)) r_3 r_15.1 r_4 r_8.1 r_5).bind fun r_16=>
 br (bc r_6.1.length 1) (
 (ms r_6.1).bind fun r_17=>
 (fA r_17 (wrap .i64 (1+r_)) r_3 r_12.1 r_4 r_8.1 r_5).bind fun r_18=>
 br (bc r_6.1.length 1) (
 (ms r_6.1).bind fun r_19=>
 (jv r_19 (wrap .i64 (1+r_)) r_3 r_12.1 r_4 r_8.1 r_5).bind fun r_20=>
 br (r_12.2==0) (
 br (r_13.2==0) (
 (km r_13.1 r_8.2.1).bind fun r_21=>
 br r_21 (
 br (r_15.2==0) (
 br (r_16.2==10) (
 br (r_18.2==r_20.2) (
 (mr r_8.1 (wrap .i64 (1+r_)) r_4).bind fun r_22=>
 br r_22 (
 (hZ r_4).bind fun r_23=>
 some r_23) (
 some false)) (
 some false)) (
 some false)) (
 some false)) (
 some false)) (
 some false)) (
 some false)) none) none))))))) none))
theorem w_FnOpens_c {ListtoArray a r} (h:Cp ListtoArray a=some r):Call tab ow 3 [sl eU8 ListtoArray,sl eU8 a] []=some (B r,[]):=by
 rw [ab (af:=a_w_FnOpens) rfl]
 unfold Cp at h
 simp+decide only [a_w_FnOpens,Jl,go_sem,reduceIte,Nat.reduceAdd]
 have d1:= @b34
 have d2:= @Zs
 have d3:= @Px
 have d4:= @Td
 have d5:= @L7
 have d6:= @Kz
 have d7:= @Qe
 have d8:= @Q3
 have d9:= @KA
 have d10:= @LI
 have d11:= @Vg
 have d12:= @HE
 have d13:= @b03
 have d14:= @a0h
 have d15:= @Pq
 have d16:= @If
 have d17:= @Dz
 have d18:= @oO
 all_goals exact go
end
end Go.AI.Fn
