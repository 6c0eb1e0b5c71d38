/- Walks through the program, with open values. -/
import Derived.Test.YtdmhkkcihecndaaGreatFx2
import Derived.Test.YtdmhkkcihecndaaGreatTb2
set_option linter.unusedVariables false
set_option linter.unusedSimpArgs false
set_option maxRecDepth 100000
set_option maxHeartbeats 1000000
namespace Go.AI.Fn
noncomputable section
open IntKind (wrap)
section
theorem Pu: ∀k,wi 2004 k [I (0:Int),I (0:Int)]=rws eExt (List.replicate k (Ext.mk (0:Int) (0:Int))):=fun _=>H4 eExt (Ext.mk (0:Int) (0:Int)) _ _
attribute [local go_sem] Pu
theorem Ox:mkR 4006 []=rws (eL eEntry) []:=rfl
attribute [local go_sem] Ox
def cU (l4:List (List Entry)) (t4 t5:List Ext) (t6 c7 c8 c9:Int) (c10 c11 c12:List Entry):(List Ext)×Int→Option (((List Ext)×Int)⊕(((List Ext)×Int×Bool)))
 | (l3,t7)=>
   br (decide (0≤t6)) (
   br (decide (t6.toNat<l4.length)) (
   (l4[t6.toNat]?).bind fun x=>
   br (decide (t7<((x.length:Nat):Int))) (
   br (decide (0≤t6)) (
   br (decide (t6.toNat<l4.length)) (
   (l4[t6.toNat]?).bind fun x2=>
   (atL x2 t7).bind fun x3=>
   br (decide (0≤x3.Col)) (
   br (decide (x3.Col.toNat<l3.length)) (
   (l3[x3.Col.toNat]?).bind fun x4=>
   (atL t4 t6).bind fun x5=>
   (lN x3.Value).bind fun r_2=>
   (atL t5 x3.Row).bind fun x6=>
   (bN r_2 x6).bind fun r_3=>
   (bN x5 r_3).bind fun r_4=>
   (eF x4 r_4).bind fun r_5=>
   br (decide (0≤x3.Col)) (
   br (decide (x3.Col.toNat<l3.length)) (
   (l3[x3.Col.toNat]?).bind fun x7=>
   some (.inl ((l3.set x3.Col.toNat r_5),(wrap .i64 (t7+1))))) none) none) none) none) none) none) (
   some (.inr (l3,t7,decide (t7<((x.length:Nat):Int)))))) none) none
abbrev sT (l4:List (List Entry)) (c7 c8 c9:Int) (c10 c11 c12:List Entry) (l3:List Ext):List (Nat×Blk):=[(1000,⟨6,true,[[I c7,I c8,I c9,sl eEntry c10,sl eEntry c11,sl eEntry c12]]⟩),(2004,⟨2,false,rws eExt l3⟩),(4006,⟨1,false,rws (eL eEntry) l4⟩)]
abbrev AJ (l4:List (List Entry)) (t4 t5:List Ext) (t6 c7 c8 c9:Int) (c10 c11 c12:List Entry) (s:(List Ext)×Int):St:=⟨[(2,sl eExt t4),(7,.sl 2004 0 s.1.length),(8,sl eExt t5),(9,.sl 4006 0 l4.length),(10,I t6),(11,I s.2)],sT l4 c7 c8 c9 c10 c11 c12 s.1⟩
abbrev AX (l4:List (List Entry)) (t4 t5:List Ext) (t6 c7 c8 c9:Int) (c10 c11 c12:List Entry):((List Ext)×Int×Bool)→ah×St:=fun e=>(.exit 2,⟨[(2,sl eExt t4),(7,.sl 2004 0 e.1.length),(8,sl eExt t5),(9,.sl 4006 0 l4.length),(10,I t6),(11,I e.2.1),(37,B e.2.2)],sT l4 c7 c8 c9 c10 c11 c12 e.1⟩)
theorem Ny {l4 t4 t5 t6 c7 c8 c9 c10 c11 c12 s e} (h:Loop (cU l4 t4 t5 t6 c7 c8 c9 c10 c11 c12) s=some e):aq tab ow (.close [11007,12014,12020,12021,12022]) tw (AJ l4 t4 t5 t6 c7 c8 c9 c10 c11 c12 s)=some (AX l4 t4 t5 t6 c7 c8 c9 c10 c11 c12 e):=by
 refine lrG (fun s o h=> ?_) h
 obtain ⟨_,_⟩:=s
 simp only [cU] at h
 simp+decide only [AJ,AX,sT,tw,go_sem,reduceIte,Nat.reduceAdd]
 have d1:= @rU
 have d2:= @fX
 have d3:= @iT
 all_goals exact go
def gy (l2:List (List Entry)) (t t2:List Ext) (c c2 c3:Int) (c4 c5 c6:List Entry):(List Ext)×Int→Option (((List Ext)×Int)⊕(((List Ext)×Int×Bool)))
 | (l,t3)=>
   br (decide (t3<3)) (
   (Loop (cU l2 t t2 t3 c c2 c3 c4 c5 c6) (l,0)).bind fun e_=>
   some (.inl (e_.1,(wrap .i64 (t3+1))))) (
   some (.inr (l,t3,decide (t3<3))))
abbrev tp (l2:List (List Entry)) (c c2 c3:Int) (c4 c5 c6:List Entry) (l:List Ext):List (Nat×Blk):=[(1000,⟨6,true,[[I c,I c2,I c3,sl eEntry c4,sl eEntry c5,sl eEntry c6]]⟩),(2004,⟨2,false,rws eExt l⟩),(4006,⟨1,false,rws (eL eEntry) l2⟩)]
abbrev zz (l2:List (List Entry)) (t t2:List Ext) (c c2 c3:Int) (c4 c5 c6:List Entry) (s:(List Ext)×Int):St:=⟨[(2,sl eExt t),(7,.sl 2004 0 s.1.length),(8,sl eExt t2),(9,.sl 4006 0 l2.length),(10,I s.2)],tp l2 c c2 c3 c4 c5 c6 s.1⟩
abbrev Ap (l2:List (List Entry)) (t t2:List Ext) (c c2 c3:Int) (c4 c5 c6:List Entry):((List Ext)×Int×Bool)→ah×St:=fun e=>(.exit 0,⟨[(2,sl eExt t),(7,.sl 2004 0 e.1.length),(8,sl eExt t2),(9,.sl 4006 0 l2.length),(10,I e.2.1),(28,B e.2.2)],tp l2 c c2 c3 c4 c5 c6 e.1⟩)
theorem LV {l2 t t2 c c2 c3 c4 c5 c6 s e} (h:Loop (gy l2 t t2 c c2 c3 c4 c5 c6) s=some e):aq tab ow (.close [11007,12014,12020,12021,12022]) sL (zz l2 t t2 c c2 c3 c4 c5 c6 s)=some (Ap l2 t t2 c c2 c3 c4 c5 c6 e):=by
 refine lrG (fun s o h=> ?_) h
 obtain ⟨_,_⟩:=s
 simp only [gy] at h
 simp+decide only [zz,Ap,tp,sL,go_sem,reduceIte,Nat.reduceAdd]
 have d1:= @Ny
 all_goals exact go
def tz (ListtoArray:System) (a a2:(List Ext)):Option ((List Ext)):=
 br (decide (0≤(wrap .u64 ListtoArray.Cols))) (
 br (tF (aB .i64 1 (wrap .u64 ListtoArray.Cols)) (aB .i64 1 (wrap .u64 ListtoArray.Cols)) 16) (
 (BD a).bind fun r_=>
 (Loop (gy ([ListtoArray.A,ListtoArray.B,ListtoArray.C]:List (List Entry)) a2 r_ ListtoArray.Rows ListtoArray.Cols ListtoArray.Publics ListtoArray.A ListtoArray.B ListtoArray.C) ((List.replicate ((aB .i64 (1:Int) (wrap .u64 ListtoArray.Cols)).toNat) (Ext.mk (0:Int) (0:Int))),(0:Int))).bind fun e_2=>
 some e_2.1) none) none
theorem QM {ListtoArray a a2 r} (h:tz ListtoArray a a2=some r):Call tab ow 221 [.agg [I ListtoArray.Rows,I ListtoArray.Cols,I ListtoArray.Publics,sl eEntry ListtoArray.A,sl eEntry ListtoArray.B,sl eEntry ListtoArray.C],sl eExt a,sl eExt a2] []=some (sl eExt r,[]):=by
 rw [aa (af:=rN) rfl]
 unfold tz at h
 simp+decide only [rN,EM,go_sem,reduceIte,Nat.reduceAdd]
 have d1:= @PE
 have d2:= @LV
 all_goals exact go
end
section
theorem M3:mkR 7009 []=rws eExt []:=rfl
attribute [local go_sem] M3
theorem LH:mkR 9007 []=rws eExt []:=rfl
attribute [local go_sem] LH
theorem Kg:mkR 21003 []=rws eExt []:=rfl
attribute [local go_sem] Kg
def lm (ListtoArray:System) (a:Setting) (a2:(List Int)) (a3:Proof) (a4:Source):Option (Int):=
 (tf ListtoArray a a2 a4).bind fun r_=>
 (fS r_ a3.Root).bind fun r_2=>
 (my r_2 ListtoArray.Rows).bind fun r_3=>
 (gR 2 (Ext.mk 0 0) a3.Gates ListtoArray.Rows r_3.1).bind fun r_4=>
 br (r_4.2.2.2 !=0) (
 some r_4.2.2.2) (
 (mS r_3.2 r_4.1).bind fun r_5=>
 (jm 2 ([r_5,a3.VA,a3.VB,a3.VC]:List Ext)).bind fun r_6=>
 br (r_6.A==r_4.2.1.A) (
 br (r_6.B==r_4.2.1.B) (
 (gM r_4.2.2.1 ([a3.VA,a3.VB,a3.VC]:List Ext)).bind fun r_7=>
 (my r_7 3).bind fun r_8=>
 (atL r_8.2 0).bind fun x=>
 (bN x a3.VA).bind fun r_9=>
 (atL r_8.2 1).bind fun x2=>
 (bN x2 a3.VB).bind fun r_10=>
 (atL r_8.2 2).bind fun x3=>
 (bN x3 a3.VC).bind fun r_11=>
 (eF r_10 r_11).bind fun r_12=>
 (eF r_9 r_12).bind fun r_13=>
 (gR 1 r_13 a3.Wires ListtoArray.Cols r_8.1).bind fun r_14=>
 br (r_14.2.2.2 !=0) (
 some r_14.2.2.2) (
 (ny r_14.1 0 (wrap .i64 (ListtoArray.Cols-1))).bind fun y=>
 (atL r_14.1 (wrap .i64 (ListtoArray.Cols-1))).bind fun x4=>
 (jp x4).bind fun r_15=>
 (oX ListtoArray a2 y).bind fun r_16=>
 (bN r_15 r_16).bind fun r_17=>
 (bN x4 a3.VW).bind fun r_18=>
 (eF r_17 r_18).bind fun r_19=>
 (tz ListtoArray r_4.1 r_8.2).bind fun r_20=>
 (xr r_20 r_14.1).bind fun r_21=>
 (bN r_21 r_19).bind fun r_22=>
 br (r_22.A==r_14.2.1.A) (
 br (r_22.B==r_14.2.1.B) (
 (gM r_14.2.2.1 ([a3.VW]:List Ext)).bind fun r_23=>
 (sO a3.Root (wrap .i64 (ListtoArray.Cols-1)) y a3.VW a a3.Open r_23).bind fun r_24=>
 some r_24.2) (
 some 11)) (
 some 11))) (
 some 11)) (
 some 11))
theorem OC {ListtoArray a a2 a3 a4 r} (h:lm ListtoArray a a2 a3 a4=some r):Call tab ow 112 [.agg [I ListtoArray.Rows,I ListtoArray.Cols,I ListtoArray.Publics,sl eEntry ListtoArray.A,sl eEntry ListtoArray.B,sl eEntry ListtoArray.C],.agg [I a.Rate,I a.Queries,I a.Grind],sl eI a2,.agg [S a3.Root,sl (eL eExt) a3.Gates,I a3.VA.A,I a3.VA.B,I a3.VB.A,I a3.VB.B,I a3.VC.A,I a3.VC.B,sl (eL eExt) a3.Wires,I a3.VW.A,I a3.VW.B,sl (eL eExt) a3.Open.Rounds,sl eS a3.Open.Roots,I a3.Open.Last.A,I a3.Open.Last.B,I a3.Open.Nonce,sl eQuery a3.Open.Queries],.agg [sl eExt a4.Script,I a4.At,S a4.State,I a4.Count]] []=some (I r,[]):=by
 rw [aa (af:=o4) rfl]
 unfold lm at h
 simp+decide only [o4,CT,go_sem,reduceIte,Nat.reduceAdd]
 have d1:= @SB
 have d2:= @jY
 have d3:= @ID
 have d4:= @Pq
 have d5:= @HY
 have d6:= @Mw
 have d7:= @uq
 have d8:= @fX
 have d9:= @iT
 have d10:= @As
 have d11:= @Pr
 have d12:= @QM
 have d13:= @PQ
 have d14:= @R2
 all_goals exact go
end
def AV (s:System) (t:Setting) (publics:(List Int)) (p:Proof) (source:Source):Option (Bool×Int):=
 br (decide (((publics.length:Nat):Int)>4096)) (
 some (false,2)) (
 (B8 s t publics source).bind fun r_=>
 br (r_ !=0) (
 some (false,r_)) (
 (ws p s t).bind fun r_2=>
 br (!r_2) (
 some (false,18)) (
 (lm s t publics p source).bind fun r_3=>
 some ((r_3==0),r_3))))
theorem YK {s t publics p source r} (h:AV s t publics p source=some r):Call tab ow 32 [.agg [I s.Rows,I s.Cols,I s.Publics,sl eEntry s.A,sl eEntry s.B,sl eEntry s.C],.agg [I t.Rate,I t.Queries,I t.Grind],sl eI publics,.agg [S p.Root,sl (eL eExt) p.Gates,I p.VA.A,I p.VA.B,I p.VB.A,I p.VB.B,I p.VC.A,I p.VC.B,sl (eL eExt) p.Wires,I p.VW.A,I p.VW.B,sl (eL eExt) p.Open.Rounds,sl eS p.Open.Roots,I p.Open.Last.A,I p.Open.Last.B,I p.Open.Nonce,sl eQuery p.Open.Queries],.agg [sl eExt source.Script,I source.At,S source.State,I source.Count]] []=some (.tup [B r.1,I r.2],[]):=by
 rw [aa (af:=yp) rfl]
 unfold AV at h
 simp+decide only [yp,MG,go_sem,reduceIte,Nat.reduceAdd]
 have d1:= @XJ
 have d2:= @Wh
 have d3:= @OC
 all_goals exact go
def eY (s:System):Option (Int):=
 br (decide (0≤(wrap .i64 (s.Cols-1)))) (
 some (aB .i64 1 (wrap .i64 (s.Cols-1)))) none
theorem pW {s r} (h:eY s=some r):Call tab ow 256 [.agg [I s.Rows,I s.Cols,I s.Publics,sl eEntry s.A,sl eEntry s.B,sl eEntry s.C]] []=some (I r,[]):=by
 rw [aa (af:=kA) rfl]
 unfold eY at h
 simp+decide only [kA,zi,go_sem,reduceIte,Nat.reduceAdd]
 all_goals exact go
def cO (s:System):Option (((List Entry)×(List Entry)×(List Entry))):=
 some (s.A,s.B,s.C)
theorem jM {s r} (h:cO s=some r):Call tab ow 257 [.agg [I s.Rows,I s.Cols,I s.Publics,sl eEntry s.A,sl eEntry s.B,sl eEntry s.C]] []=some (.agg [sl eEntry r.1,sl eEntry r.2.1,sl eEntry r.2.2],[]):=by
 rw [aa (af:=gg) rfl]
 unfold cO at h
 simp+decide only [gg,pZ,go_sem,reduceIte,Nat.reduceAdd]
 all_goals exact go
def jS (x:Int):Option (Bool):=
 some (x !=x)
theorem J0 {x r} (h:jS x=some r):Call tab ow 357 [I x] []=some (B r,[]):=by
 rw [aa (af:=kw) rfl]
 unfold jS at h
 simp+decide only [kw,yY,go_sem,reduceIte,Nat.reduceAdd]
 all_goals exact go
def fK (x y:Int):Option (Int):=
 (jS x).bind fun r_=>
 (jS y).bind fun r_2=>
 br r_ (
 br r_2 (
 some 0) (
 some (-1:Int))) (
 br r_2 (
 some 1) (
 br (decide (x<y)) (
 some (-1:Int)) (
 br (decide (x>y)) (
 some 1) (
 some 0))))
theorem G6 {x y r} (h:fK x y=some r):Call tab ow 354 [I x,I y] []=some (I r,[]):=by
 rw [aa (af:=iu) rfl]
 unfold fK at h
 simp+decide only [iu,tS,go_sem,reduceIte,Nat.reduceAdd]
 have d1:= @J0
 all_goals exact go
def dw (zero:Int) (t:List Int) (t2:Int):Int→Option ((Int)⊕(Int⊕(Int×Bool)))
 |t3=>
  br (decide (t3<t2)) (
  (atL t t3).bind fun x=>
  br (x !=zero) (
  some (.inr (.inl x))) (
  some (.inl (wrap .i64 (t3+1))))) (
  some (.inr (.inr (t3,decide (t3<t2)))))
abbrev Aq (zero:Int) (t:List Int) (t2 s:Int):St:=⟨[(3,I zero),(6,sl eI t),(7,I t2),(8,I s)],[]⟩
abbrev zX (zero:Int) (t:List Int) (t2:Int):(Int⊕(Int×Bool))→ah×St:=alt (fun e=>((.ret,⟨[(2,I e)],[]⟩):ah×St)) (fun e=>(.exit 0,⟨[(3,I zero),(6,sl eI t),(7,I t2),(8,I e.1),(9,B e.2)],[]⟩))
theorem LR {zero t t2 s e} (h:Loop (dw zero t t2) s=some e):aq tab ow (.close []) sg (Aq zero t t2 s)=some (zX zero t t2 e):=by
 refine lrG (fun s o h=> ?_) h
 simp only [dw] at h
 simp+decide only [Aq,zX,sg,go_sem,reduceIte,Nat.reduceAdd]
 all_goals exact go
def sZ (vals:(List Int)):Option (Int):=
 (Loop (dw 0 vals ((vals.length:Nat):Int)) 0).bind (alt (fun e_2=>
 some e_2) (fun e_3=>
 some 0))
theorem T5 {vals r} (h:sZ vals=some r):Call tab ow 353 [sl eI vals] []=some (I r,[]):=by
 rw [aa (af:=qE) rfl]
 unfold sZ at h
 simp+decide only [qE,EH,go_sem,reduceIte,Nat.reduceAdd]
 have d1:= @LR
 all_goals exact go
section
theorem GQ:mkR 2010 []=rws eI []:=rfl
attribute [local go_sem] GQ
def jZ (e_ f:Entry):Option (Int):=
 (fK e_.Row f.Row).bind fun r_=>
 (fK e_.Col f.Col).bind fun r_2=>
 (sZ ([r_,r_2]:List Int)).bind fun r_3=>
 some r_3
theorem Jc {e_ f r} (h:jZ e_ f=some r):Call tab ow 327 [.agg [I e_.Row,I e_.Col,I e_.Value],.agg [I f.Row,I f.Col,I f.Value]] []=some (I r,[]):=by
 rw [aa (af:=kq) rfl]
 unfold jZ at h
 simp+decide only [kq,zh,go_sem,reduceIte,Nat.reduceAdd]
 have d1:= @G6
 have d2:= @T5
 all_goals exact go
end
def iQ (list2:List Entry) (rows2 cols2:Int) (t:List Entry) (t2:Int):Int→Option ((Int)⊕((Int×Int×Int)⊕(Int×Bool)))
 |t3=>
  br (decide (t3<t2)) (
  (atL t t3).bind fun x=>
  (vp x.Row 0 (wrap .i64 (rows2-1))).bind fun r_=>
  br (!r_) (
  some (.inr (.inl (x.Row,x.Col,x.Value)))) (
  (vp x.Col 0 (wrap .i64 (cols2-1))).bind fun r_2=>
  br (!r_2) (
  some (.inr (.inl (x.Row,x.Col,x.Value)))) (
  (vp x.Value 1 2130706432).bind fun r_3=>
  br (!r_3) (
  some (.inr (.inl (x.Row,x.Col,x.Value)))) (
  br (decide (t3>0)) (
  (atL list2 (wrap .i64 (t3-1))).bind fun x2=>
  (jZ x2 x).bind fun r_4=>
  br (decide (r_4≥0)) (
  some (.inr (.inl (x.Row,x.Col,x.Value)))) (
  some (.inl (wrap .i64 (t3+1))))) (
  some (.inl (wrap .i64 (t3+1)))))))) (
  some (.inr (.inr (t3,decide (t3<t2)))))
abbrev B5 (list2:List Entry) (rows2 cols2:Int) (t:List Entry) (t2 s:Int):St:=⟨[(0,sl eEntry list2),(1,I rows2),(2,I cols2),(9,sl eEntry t),(10,I t2),(11,I s)],[]⟩
abbrev AK (list2:List Entry) (rows2 cols2:Int) (t:List Entry) (t2:Int):((Int×Int×Int)⊕(Int×Bool))→ah×St:=alt (fun e=>((.ret,⟨[(6,B false)],[(4003,⟨3,true,[[I e.1,I e.2.1,I e.2.2]]⟩)]⟩):ah×St)) (fun e=>(.exit 0,⟨[(0,sl eEntry list2),(1,I rows2),(2,I cols2),(9,sl eEntry t),(10,I t2),(11,I e.1),(12,B e.2)],[]⟩))
theorem Np {list2 rows2 cols2 t t2 s e} (h:Loop (iQ list2 rows2 cols2 t t2) s=some e):aq tab ow (.close [4003,5004,5011,5017,5030]) sd (B5 list2 rows2 cols2 t t2 s)=some (AK list2 rows2 cols2 t t2 e):=by
 refine lrG (fun s o h=> ?_) h
 simp only [iQ] at h
 simp+decide only [B5,AK,sd,go_sem,reduceIte,Nat.reduceAdd]
 have d1:= @yd
 have d2:= @Jc
 all_goals exact go
def kW (list:(List Entry)) (rows cols:Int):Option (Bool):=
 (Loop (iQ list rows cols list ((list.length:Nat):Int)) 0).bind (alt (fun e_2=>
 some false) (fun e_3=>
 some (decide (((list.length:Nat):Int)≤200))))
theorem yl {list rows cols r} (h:kW list rows cols=some r):Call tab ow 258 [sl eEntry list,I rows,I cols] []=some (B r,[]):=by
 rw [aa (af:=qK) rfl]
 unfold kW at h
 simp+decide only [qK,ED,go_sem,reduceIte,Nat.reduceAdd]
 have d1:= @Np
 all_goals exact go
def ng (s:System):Option (Bool):=
 (vp s.Rows 1 5).bind fun r_=>
 br (!r_) (
 some false) (
 (vp s.Cols 2 5).bind fun r_2=>
 br (!r_2) (
 some false) (
 (eY s).bind fun r_3=>
 (vp s.Publics 0 (wrap .i64 (r_3-1))).bind fun r_4=>
 br (!r_4) (
 some false) (
 (cO s).bind fun r_5=>
 br (decide (0≤s.Rows)) (
 br (decide (0≤s.Cols)) (
 (kW r_5.1 (aB .i64 1 s.Rows) (aB .i64 1 s.Cols)).bind fun r_6=>
 br (!r_6) (
 some false) (
 br (decide (0≤s.Rows)) (
 br (decide (0≤s.Cols)) (
 (kW r_5.2.1 (aB .i64 1 s.Rows) (aB .i64 1 s.Cols)).bind fun r_7=>
 br (!r_7) (
 some false) (
 br (decide (0≤s.Rows)) (
 br (decide (0≤s.Cols)) (
 (kW r_5.2.2 (aB .i64 1 s.Rows) (aB .i64 1 s.Cols)).bind fun r_8=>
 br (!r_8) (
 some false) (
 some true)) none) none)) none) none)) none) none)))
theorem FA {s r} (h:ng s=some r):Call tab ow 137 [.agg [I s.Rows,I s.Cols,I s.Publics,sl eEntry s.A,sl eEntry s.B,sl eEntry s.C]] []=some (B r,[]):=by
 rw [aa (af:=qA) rfl]
 unfold ng at h
 simp+decide only [qA,EP,go_sem,reduceIte,Nat.reduceAdd,Int.reduceAdd,Int.reduceMul,Int.reduceSub]
 obtain ⟨r_,h1,h⟩:=bd h
 refine jt (yd h1) ?_
 simp+decide only [go_sem,reduceIte,Nat.reduceAdd,Int.reduceAdd,Int.reduceMul,Int.reduceSub]
 rcases brc h with ⟨hb,h⟩|⟨hb,h⟩
 ·refine DE hb ?_
  obtain rfl:=Option.some.inj h
  first|rfl| (simp only [List.length_set,go_sem];done)
 ·refine a2O hb ?_
  obtain ⟨r_2,h1,h⟩:=bd h
  refine jt (yd h1) ?_
  simp+decide only [go_sem,reduceIte,Nat.reduceAdd,Int.reduceAdd,Int.reduceMul,Int.reduceSub]
  rcases brc h with ⟨hb,h⟩|⟨hb,h⟩
  ·refine DE hb ?_
   obtain rfl:=Option.some.inj h
   first|rfl| (simp only [List.length_set,go_sem];done)
  ·refine a2O hb ?_
   obtain ⟨r_3,h1,h⟩:=bd h
   refine jt (pW h1) ?_
   simp+decide only [go_sem,reduceIte,Nat.reduceAdd,Int.reduceAdd,Int.reduceMul,Int.reduceSub]
   obtain ⟨r_4,h1,h⟩:=bd h
   refine jt (yd h1) ?_
   simp+decide only [go_sem,reduceIte,Nat.reduceAdd,Int.reduceAdd,Int.reduceMul,Int.reduceSub]
   rcases brc h with ⟨hb,h⟩|⟨hb,h⟩
   ·refine DE hb ?_
    obtain rfl:=Option.some.inj h
    first|rfl| (simp only [List.length_set,go_sem];done)
   ·refine a2O hb ?_
    obtain ⟨r_5,h1,h⟩:=bd h
    refine tu (jM h1) ?_
    simp+decide only [go_sem,reduceIte,Nat.reduceAdd,Int.reduceAdd,Int.reduceMul,Int.reduceSub]
    refine fL ?_
    simp+decide only [j9,go_sem,reduceIte,Nat.reduceAdd,Int.reduceAdd,Int.reduceMul,Int.reduceSub]
    obtain ⟨hb,h⟩:=brg h
    refine DE hb ?_
    obtain ⟨hb,h⟩:=brg h
    refine DE hb ?_
    obtain ⟨r_6,h1,h⟩:=bd h
    refine jt (yl h1) ?_
    simp+decide only [go_sem,reduceIte,Nat.reduceAdd,Int.reduceAdd,Int.reduceMul,Int.reduceSub]
    rcases brc h with ⟨hb,h⟩|⟨hb,h⟩
    ·refine DE hb ?_
     obtain rfl:=Option.some.inj h
     first|rfl| (simp only [List.length_set,go_sem];done)
    ·refine a2O hb ?_
     refine fL ?_
     simp+decide only [j9,go_sem,reduceIte,Nat.reduceAdd,Int.reduceAdd,Int.reduceMul,Int.reduceSub]
     obtain ⟨hb,h⟩:=brg h
     refine DE hb ?_
     obtain ⟨hb,h⟩:=brg h
     refine DE hb ?_
     obtain ⟨r_7,h1,h⟩:=bd h
     refine jt (yl h1) ?_
     simp+decide only [go_sem,reduceIte,Nat.reduceAdd,Int.reduceAdd,Int.reduceMul,Int.reduceSub]
     rcases brc h with ⟨hb,h⟩|⟨hb,h⟩
     ·refine DE hb ?_
      obtain rfl:=Option.some.inj h
      first|rfl| (simp only [List.length_set,go_sem];done)
     ·refine a2O hb ?_
      refine fL ?_
      simp+decide only [j9,go_sem,reduceIte,Nat.reduceAdd,Int.reduceAdd,Int.reduceMul,Int.reduceSub]
      obtain ⟨hb,h⟩:=brg h
      refine DE hb ?_
      obtain ⟨hb,h⟩:=brg h
      refine DE hb ?_
      obtain ⟨r_8,h1,h⟩:=bd h
      refine jt (yl h1) ?_
      simp+decide only [go_sem,reduceIte,Nat.reduceAdd,Int.reduceAdd,Int.reduceMul,Int.reduceSub]
      rcases brc h with ⟨hb,h⟩|⟨hb,h⟩
      ·refine DE hb ?_
       obtain rfl:=Option.some.inj h
       first|rfl| (simp only [List.length_set,go_sem];done)
      ·refine a2O hb ?_
       refine fL ?_
       simp+decide only [j9,go_sem,reduceIte,Nat.reduceAdd,Int.reduceAdd,Int.reduceMul,Int.reduceSub]
       obtain rfl:=Option.some.inj h
       first|rfl| (simp only [List.length_set,go_sem];done)
def eH (x:Int):Option (Bool):=
 (mZ x).bind fun r_=>
 some (!r_)
theorem zu {x r} (h:eH x=some r):Call tab ow 311 [I x,.ptr 0 0 0 1] [⟨1,true,[[.fn 186 []]]⟩]=some (B r,[⟨1,true,[[.fn 186 []]]⟩]):=by
 rw [aa (af:=nP) rfl]
 unfold eH at h
 simp+decide only [nP,CK,go_sem,reduceIte,Nat.reduceAdd]
 have d1:= @Ig
 all_goals exact go
def aX (s2:List Int) (t:Int):Int→Option ((Int)⊕(Int⊕(Int×Bool)))
 |t2=>
  br (decide (t2<t)) (
  (atL s2 t2).bind fun x=>
  (eH x).bind fun r_=>
  br r_ (
  some (.inr (.inl t2))) (
  some (.inl (wrap .i64 (t2+1))))) (
  some (.inr (.inr (t2,decide (t2<t)))))
abbrev cP (s2:List Int) (t s:Int):St:=⟨[(0,sl eI s2),(1,.fn 311 [.ptr 0 0 0 1]),(7,I t),(8,I s)],[(0,⟨1,true,[[.fn 186 []]]⟩)]⟩
abbrev cR (s2:List Int) (t:Int):(Int⊕(Int×Bool))→ah×St:=alt (fun e=>((.ret,⟨[(4,I e)],[(0,⟨1,true,[[.fn 186 []]]⟩)]⟩):ah×St)) (fun e=>(.exit 0,⟨[(0,sl eI s2),(1,.fn 311 [.ptr 0 0 0 1]),(7,I t),(8,I e.1),(9,B e.2)],[(0,⟨1,true,[[.fn 186 []]]⟩)]⟩))
theorem fR {s2 t s e} (h:Loop (aX s2 t) s=some e):aq tab ow (.close [5005]) e6 (cP s2 t s)=some (cR s2 t e):=by
 refine lrG (fun s o h=> ?_) h
 simp only [aX] at h
 simp+decide only [cP,cR,e6,go_sem,reduceIte,Nat.reduceAdd]
 have d1:= @zu
 all_goals exact go
def bm (s:(List Int)):Option (Int):=
 (Loop (aX s ((s.length:Nat):Int)) 0).bind (alt (fun e_2=>
 some e_2) (fun e_3=>
 some (-1:Int)))
theorem gc {s r} (h:bm s=some r):Call tab ow 348 [sl eI s,.fn 311 [.ptr 0 0 0 1]] [⟨1,true,[[.fn 186 []]]⟩]=some (I r,[⟨1,true,[[.fn 186 []]]⟩]):=by
 rw [aa (af:=dj) rfl]
 unfold bm at h
 simp+decide only [dj,iD,go_sem,reduceIte,Nat.reduceAdd]
 have d1:= @fR
 all_goals exact go
def ba (s:(List Int)):Option (Bool):=
 (bm s).bind fun r_=>
 some (decide (r_≥0))
theorem fH {s r} (h:ba s=some r):Call tab ow 310 [sl eI s,.fn 311 [.ptr 0 0 0 1]] [⟨1,true,[[.fn 186 []]]⟩]=some (B r,[⟨1,true,[[.fn 186 []]]⟩]):=by
 rw [aa (af:=cI) rfl]
 unfold ba at h
 simp+decide only [cI,gN,go_sem,reduceIte,Nat.reduceAdd]
 have d1:= @gc
 all_goals exact go
def fN (list:(List Int)):Option (Bool):=
 (ba list).bind fun r_=>
 some (!r_)
theorem BM {list r} (h:fN list=some r):Call tab ow 225 [.fn 186 [],sl eI list] []=some (B r,[]):=by
 rw [aa (af:=tZ) rfl]
 unfold fN at h
 simp+decide only [tZ,Is,go_sem,reduceIte,Nat.reduceAdd]
 have d1:= @fH
 all_goals exact go
def oK (s:System) (t:Setting) (publics:(List Int)) (source:Source):Option (Int):=
 br (decide (((publics.length:Nat):Int)>4096)) (
 some 2) (
 (ng s).bind fun r_=>
 br (!r_) (
 some 1) (
 (iY t).bind fun r_2=>
 br (!r_2) (
 some 1) (
 (fN publics).bind fun r_3=>
 br (!r_3) (
 some 1) (
 (tB source).bind fun r_4=>
 br (!r_4) (
 some 1) (
 br (((publics.length:Nat):Int) !=s.Publics) (
 some 17) (
 (oa source).bind fun r_5=>
 br (decide (r_5<200)) (
 some 6) (
 some 0)))))))
theorem NF {s t publics source r} (h:oK s t publics source=some r):Call tab ow 118 [.agg [I s.Rows,I s.Cols,I s.Publics,sl eEntry s.A,sl eEntry s.B,sl eEntry s.C],.agg [I t.Rate,I t.Queries,I t.Grind],sl eI publics,.agg [sl eExt source.Script,I source.At,S source.State,I source.Count]] []=some (I r,[]):=by
 rw [aa (af:=oe) rfl]
 unfold oK at h
 simp+decide only [oe,D3,go_sem,reduceIte,Nat.reduceAdd]
 have d1:= @FA
 have d2:= @vH
 have d3:= @BM
 have d4:= @S8
 have d5:= @Jo
 all_goals exact go
def wI (p:Proof) (s:System) (t:Setting):Option (Bool):=
 (ng s).bind fun r_=>
 br r_ (
 (iY t).bind fun r_2=>
 br r_2 (
 (oY p.Root).bind fun r_3=>
 br r_3 (
 (iP p.Gates s.Rows 4).bind fun r_4=>
 br r_4 (
 (nN p.VA).bind fun r_5=>
 br r_5 (
 (nN p.VB).bind fun r_6=>
 br r_6 (
 (nN p.VC).bind fun r_7=>
 br r_7 (
 (iP p.Wires s.Cols 3).bind fun r_8=>
 br r_8 (
 (nN p.VW).bind fun r_9=>
 br r_9 (
 (oN p.Open (wrap .i64 (s.Cols-1)) t).bind fun r_10=>
 some r_10) (
 some false)) (
 some false)) (
 some false)) (
 some false)) (
 some false)) (
 some false)) (
 some false)) (
 some false)) (
 some false)
theorem Vx {p s t r} (h:wI p s t=some r):Call tab ow 226 [.agg [S p.Root,sl (eL eExt) p.Gates,I p.VA.A,I p.VA.B,I p.VB.A,I p.VB.B,I p.VC.A,I p.VC.B,sl (eL eExt) p.Wires,I p.VW.A,I p.VW.B,sl (eL eExt) p.Open.Rounds,sl eS p.Open.Roots,I p.Open.Last.A,I p.Open.Last.B,I p.Open.Nonce,sl eQuery p.Open.Queries],.agg [I s.Rows,I s.Cols,I s.Publics,sl eEntry s.A,sl eEntry s.B,sl eEntry s.C],.agg [I t.Rate,I t.Queries,I t.Grind]] []=some (B r,[]):=by
 rw [aa (af:=tY) rfl]
 unfold wI at h
 simp+decide only [tY,Hn,go_sem,reduceIte,Nat.reduceAdd]
 have d1:= @FA
 have d2:= @vH
 have d3:= @xK
 have d4:= @Ck
 have d5:= @Hc
 have d6:= @Pi
 all_goals exact go
section
theorem xZ:mkR 2000 []=rws eU8 []:=rfl
attribute [local go_sem] xZ
theorem xM:mkR 2011 []=rws eU8 []:=rfl
attribute [local go_sem] xM
theorem xO:mkR 10007 []=rws eU8 []:=rfl
attribute [local go_sem] xO
def bU (l2:List UInt8) (t t2 t3:List Entry) (t4:Int) (t5:List Entry) (t6 c c2 c3:Int) (c4 c5 c6:List Entry):(List UInt8)×Int→Option (((List UInt8)×Int)⊕(((List UInt8)×Int×Bool)))
 | (l,t7)=>
   br (decide (t7<t6)) (
   (atL t5 t7).bind fun x=>
   br (bW ((l++([(UInt8.ofInt x.Row),(UInt8.ofInt x.Col)]:List UInt8)).length) 1) (
   (gz x.Value (l++([(UInt8.ofInt x.Row),(UInt8.ofInt x.Col)]:List UInt8))).bind fun r_3=>
   some (.inl (r_3,(wrap .i64 (t7+1))))) none) (
   some (.inr (l,t7,decide (t7<t6))))
abbrev gL (l2:List UInt8) (c c2 c3:Int) (c4 c5 c6:List Entry) (l:List UInt8):List (Nat×Blk):=[(1000,⟨6,true,[[I c,I c2,I c3,sl eEntry c4,sl eEntry c5,sl eEntry c6]]⟩),(2000,⟨1,false,rws eU8 l⟩),(2011,⟨1,false,rws eU8 l2⟩)]
abbrev le (l2:List UInt8) (t t2 t3:List Entry) (t4:Int) (t5:List Entry) (t6 c c2 c3:Int) (c4 c5 c6:List Entry) (s:(List UInt8)×Int):St:=⟨[(3,.sl 2000 0 s.1.length),(22,.agg [sl eEntry t,sl eEntry t2,sl eEntry t3]),(23,I t4),(30,sl eEntry t5),(31,I t6),(32,I s.2)],gL l2 c c2 c3 c4 c5 c6 s.1⟩
abbrev lg (l2:List UInt8) (t t2 t3:List Entry) (t4:Int) (t5:List Entry) (t6 c c2 c3:Int) (c4 c5 c6:List Entry):((List UInt8)×Int×Bool)→ah×St:=fun e=>(.exit 2,⟨[(3,.sl 2000 0 e.1.length),(22,.agg [sl eEntry t,sl eEntry t2,sl eEntry t3]),(23,I t4),(30,sl eEntry t5),(31,I t6),(32,I e.2.1),(33,B e.2.2)],gL l2 c c2 c3 c4 c5 c6 e.1⟩)
theorem wW {l2 t t2 t3 t4 t5 t6 c c2 c3 c4 c5 c6 s e} (h:Loop (bU l2 t t2 t3 t4 t5 t6 c c2 c3 c4 c5 c6) s=some e):aq tab ow (.close [9002,10007,10008,10011]) bQ (le l2 t t2 t3 t4 t5 t6 c c2 c3 c4 c5 c6 s)=some (lg l2 t t2 t3 t4 t5 t6 c c2 c3 c4 c5 c6 e):=by
 refine lrG (fun s o h=> ?_) h
 obtain ⟨_,_⟩:=s
 simp only [bU] at h
 simp+decide only [le,lg,gL,bQ,go_sem,reduceIte,Nat.reduceAdd,Int.reduceAdd,Int.reduceMul,Int.reduceSub]
 have d1:= @j2
 all_goals exact go
def eg (l4:List UInt8) (t8 t9 t10:List Entry) (t11:Int) (t12:List Entry) (t13 c7 c8 c9:Int) (c10 c11 c12:List Entry):(List UInt8)×Int→Option (((List UInt8)×Int)⊕(((List UInt8)×Int×Bool)))
 | (l3,t14)=>
   br (decide (t14<t13)) (
   (atL t12 t14).bind fun x2=>
   br (bW ((l3++([(UInt8.ofInt x2.Row),(UInt8.ofInt x2.Col)]:List UInt8)).length) 1) (
   (gz x2.Value (l3++([(UInt8.ofInt x2.Row),(UInt8.ofInt x2.Col)]:List UInt8))).bind fun r_5=>
   some (.inl (r_5,(wrap .i64 (t14+1))))) none) (
   some (.inr (l3,t14,decide (t14<t13))))
abbrev gC (l4:List UInt8) (c7 c8 c9:Int) (c10 c11 c12:List Entry) (l3:List UInt8):List (Nat×Blk):=[(1000,⟨6,true,[[I c7,I c8,I c9,sl eEntry c10,sl eEntry c11,sl eEntry c12]]⟩),(2000,⟨1,false,rws eU8 l3⟩),(2011,⟨1,false,rws eU8 l4⟩)]
abbrev ln (l4:List UInt8) (t8 t9 t10:List Entry) (t11:Int) (t12:List Entry) (t13 c7 c8 c9:Int) (c10 c11 c12:List Entry) (s:(List UInt8)×Int):St:=⟨[(3,.sl 2000 0 s.1.length),(22,.agg [sl eEntry t8,sl eEntry t9,sl eEntry t10]),(23,I t11),(30,sl eEntry t12),(31,I t13),(32,I s.2)],gC l4 c7 c8 c9 c10 c11 c12 s.1⟩
abbrev lk (l4:List UInt8) (t8 t9 t10:List Entry) (t11:Int) (t12:List Entry) (t13 c7 c8 c9:Int) (c10 c11 c12:List Entry):((List UInt8)×Int×Bool)→ah×St:=fun e=>(.exit 2,⟨[(3,.sl 2000 0 e.1.length),(22,.agg [sl eEntry t8,sl eEntry t9,sl eEntry t10]),(23,I t11),(30,sl eEntry t12),(31,I t13),(32,I e.2.1),(33,B e.2.2)],gC l4 c7 c8 c9 c10 c11 c12 e.1⟩)
theorem wZ {l4 t8 t9 t10 t11 t12 t13 c7 c8 c9 c10 c11 c12 s e} (h:Loop (eg l4 t8 t9 t10 t11 t12 t13 c7 c8 c9 c10 c11 c12) s=some e):aq tab ow (.close [9002,10007,10008,10011]) bQ (ln l4 t8 t9 t10 t11 t12 t13 c7 c8 c9 c10 c11 c12 s)=some (lk l4 t8 t9 t10 t11 t12 t13 c7 c8 c9 c10 c11 c12 e):=by
 refine lrG (fun s o h=> ?_) h
 obtain ⟨_,_⟩:=s
 simp only [eg] at h
 simp+decide only [ln,lk,gC,bQ,go_sem,reduceIte,Nat.reduceAdd,Int.reduceAdd,Int.reduceMul,Int.reduceSub]
 have d1:= @j2
 all_goals exact go
def ee (l6:List UInt8) (t15 t16 t17:List Entry) (t18:Int) (t19:List Entry) (t20 c13 c14 c15:Int) (c16 c17 c18:List Entry):(List UInt8)×Int→Option (((List UInt8)×Int)⊕(((List UInt8)×Int×Bool)))
 | (l5,t21)=>
   br (decide (t21<t20)) (
   (atL t19 t21).bind fun x3=>
   br (bW ((l5++([(UInt8.ofInt x3.Row),(UInt8.ofInt x3.Col)]:List UInt8)).length) 1) (
   (gz x3.Value (l5++([(UInt8.ofInt x3.Row),(UInt8.ofInt x3.Col)]:List UInt8))).bind fun r_7=>
   some (.inl (r_7,(wrap .i64 (t21+1))))) none) (
   some (.inr (l5,t21,decide (t21<t20))))
abbrev gj (l6:List UInt8) (c13 c14 c15:Int) (c16 c17 c18:List Entry) (l5:List UInt8):List (Nat×Blk):=[(1000,⟨6,true,[[I c13,I c14,I c15,sl eEntry c16,sl eEntry c17,sl eEntry c18]]⟩),(2000,⟨1,false,rws eU8 l5⟩),(2011,⟨1,false,rws eU8 l6⟩)]
abbrev lw (l6:List UInt8) (t15 t16 t17:List Entry) (t18:Int) (t19:List Entry) (t20 c13 c14 c15:Int) (c16 c17 c18:List Entry) (s:(List UInt8)×Int):St:=⟨[(3,.sl 2000 0 s.1.length),(22,.agg [sl eEntry t15,sl eEntry t16,sl eEntry t17]),(23,I t18),(30,sl eEntry t19),(31,I t20),(32,I s.2)],gj l6 c13 c14 c15 c16 c17 c18 s.1⟩
abbrev ls (l6:List UInt8) (t15 t16 t17:List Entry) (t18:Int) (t19:List Entry) (t20 c13 c14 c15:Int) (c16 c17 c18:List Entry):((List UInt8)×Int×Bool)→ah×St:=fun e=>(.exit 2,⟨[(3,.sl 2000 0 e.1.length),(22,.agg [sl eEntry t15,sl eEntry t16,sl eEntry t17]),(23,I t18),(30,sl eEntry t19),(31,I t20),(32,I e.2.1),(33,B e.2.2)],gj l6 c13 c14 c15 c16 c17 c18 e.1⟩)
theorem wh {l6 t15 t16 t17 t18 t19 t20 c13 c14 c15 c16 c17 c18 s e} (h:Loop (ee l6 t15 t16 t17 t18 t19 t20 c13 c14 c15 c16 c17 c18) s=some e):aq tab ow (.close [9002,10007,10008,10011]) bQ (lw l6 t15 t16 t17 t18 t19 t20 c13 c14 c15 c16 c17 c18 s)=some (ls l6 t15 t16 t17 t18 t19 t20 c13 c14 c15 c16 c17 c18 e):=by
 refine lrG (fun s o h=> ?_) h
 obtain ⟨_,_⟩:=s
 simp only [ee] at h
 simp+decide only [lw,ls,gj,bQ,go_sem,reduceIte,Nat.reduceAdd,Int.reduceAdd,Int.reduceMul,Int.reduceSub]
 have d1:= @j2
 all_goals exact go
def eK (s:System):Option ((List UInt8)):=
 br (bW ((([(115:UInt8),(121:UInt8),(115:UInt8),(116:UInt8),(101:UInt8),(109:UInt8)]:List UInt8)++([(UInt8.ofInt s.Rows),(UInt8.ofInt s.Cols),(UInt8.ofInt s.Publics)]:List UInt8)).length) 1) (
 (cO s).bind fun r_=>
 (gz ((r_.1.length:Nat):Int) (([(115:UInt8),(121:UInt8),(115:UInt8),(116:UInt8),(101:UInt8),(109:UInt8)]:List UInt8)++([(UInt8.ofInt s.Rows),(UInt8.ofInt s.Cols),(UInt8.ofInt s.Publics)]:List UInt8))).bind fun r_2=>
 (Loop (bU ([(UInt8.ofInt s.Rows),(UInt8.ofInt s.Cols),(UInt8.ofInt s.Publics)]:List UInt8) r_.1 r_.2.1 r_.2.2 0 r_.1 ((r_.1.length:Nat):Int) s.Rows s.Cols s.Publics s.A s.B s.C) (r_2,0)).bind fun e_=>
 (gz ((r_.2.1.length:Nat):Int) e_.1).bind fun r_4=>
 (Loop (eg ([(UInt8.ofInt s.Rows),(UInt8.ofInt s.Cols),(UInt8.ofInt s.Publics)]:List UInt8) r_.1 r_.2.1 r_.2.2 1 r_.2.1 ((r_.2.1.length:Nat):Int) s.Rows s.Cols s.Publics s.A s.B s.C) (r_4,0)).bind fun e_2=>
 (gz ((r_.2.2.length:Nat):Int) e_2.1).bind fun r_6=>
 (Loop (ee ([(UInt8.ofInt s.Rows),(UInt8.ofInt s.Cols),(UInt8.ofInt s.Publics)]:List UInt8) r_.1 r_.2.1 r_.2.2 2 r_.2.2 ((r_.2.2.length:Nat):Int) s.Rows s.Cols s.Publics s.A s.B s.C) (r_6,0)).bind fun e_3=>
 some e_3.1) none
theorem zx {s r} (h:eK s=some r):Call tab ow 349 [.agg [I s.Rows,I s.Cols,I s.Publics,sl eEntry s.A,sl eEntry s.B,sl eEntry s.C]] []=some (sl eU8 r,[]):=by
 rw [aa (af:=fy) rfl]
 unfold eK at h
 simp+decide only [fy,mo,go_sem,reduceIte,Nat.reduceAdd,Int.reduceAdd,Int.reduceMul,Int.reduceSub]
 obtain ⟨hb,h⟩:=brg h
 refine DE hb ?_
 obtain ⟨r_,h1,h⟩:=bd h
 refine tu (jM h1) ?_
 simp+decide only [go_sem,reduceIte,Nat.reduceAdd,Int.reduceAdd,Int.reduceMul,Int.reduceSub]
 refine fL ?_
 simp+decide only [dd,go_sem,reduceIte,Nat.reduceAdd,Int.reduceAdd,Int.reduceMul,Int.reduceSub]
 obtain ⟨r_2,h1,h⟩:=bd h
 refine tu (j2 h1) ?_
 simp+decide only [go_sem,reduceIte,Nat.reduceAdd,Int.reduceAdd,Int.reduceMul,Int.reduceSub]
 obtain ⟨e_,h1,h⟩:=bd h
 refine DC (wW h1) ?_
 simp+decide only [go_sem,reduceIte,Nat.reduceAdd,Int.reduceAdd,Int.reduceMul,Int.reduceSub]
 refine fL ?_
 simp+decide only [dd,go_sem,reduceIte,Nat.reduceAdd,Int.reduceAdd,Int.reduceMul,Int.reduceSub]
 obtain ⟨r_4,h1,h⟩:=bd h
 refine tu (j2 h1) ?_
 simp+decide only [go_sem,reduceIte,Nat.reduceAdd,Int.reduceAdd,Int.reduceMul,Int.reduceSub]
 obtain ⟨e_2,h1,h⟩:=bd h
 refine DC (wZ h1) ?_
 simp+decide only [go_sem,reduceIte,Nat.reduceAdd,Int.reduceAdd,Int.reduceMul,Int.reduceSub]
 refine fL ?_
 simp+decide only [dd,go_sem,reduceIte,Nat.reduceAdd,Int.reduceAdd,Int.reduceMul,Int.reduceSub]
 obtain ⟨r_6,h1,h⟩:=bd h
 refine tu (j2 h1) ?_
 simp+decide only [go_sem,reduceIte,Nat.reduceAdd,Int.reduceAdd,Int.reduceMul,Int.reduceSub]
 obtain ⟨e_3,h1,h⟩:=bd h
 refine DC (wh h1) ?_
 simp+decide only [go_sem,reduceIte,Nat.reduceAdd,Int.reduceAdd,Int.reduceMul,Int.reduceSub]
 refine fL ?_
 simp+decide only [dd,go_sem,reduceIte,Nat.reduceAdd,Int.reduceAdd,Int.reduceMul,Int.reduceSub]
 obtain rfl:=Option.some.inj h
 first|rfl| (simp only [List.length_set,go_sem];done)
end
section
theorem MH:mkR 2002 []=rws (eL eU8) []:=rfl
attribute [local go_sem] MH
theorem Ld:mkR 2014 []=rws eU8 []:=rfl
attribute [local go_sem] Ld
def ey (l:List (List UInt8)) (l3:List UInt8) (t2:List Int) (t3 c c2 c3:Int) (c4 c5 c6:List Entry) (c7 c8 c9:Int):(List UInt8)×Int→Option (((List UInt8)×Int)⊕(((List UInt8)×Int×Bool)))
 | (l2,t4)=>
   br (decide (t4<t3)) (
   (atL t2 t4).bind fun x=>
   (gz x l2).bind fun r_3=>
   some (.inl (r_3,(wrap .i64 (t4+1))))) (
   some (.inr (l2,t4,decide (t4<t3))))
abbrev pM (l:List (List UInt8)) (l3:List UInt8) (c c2 c3:Int) (c4 c5 c6:List Entry) (c7 c8 c9:Int) (l2:List UInt8):List (Nat×Blk):=[(1000,⟨6,true,[[I c,I c2,I c3,sl eEntry c4,sl eEntry c5,sl eEntry c6]]⟩),(1001,⟨3,true,[[I c7,I c8,I c9]]⟩),(2002,⟨1,false,rws (eL eU8) l⟩),(2004,⟨1,false,rws eU8 l2⟩),(2014,⟨1,false,rws eU8 l3⟩)]
abbrev yU (l:List (List UInt8)) (l3:List UInt8) (t2:List Int) (t3 c c2 c3:Int) (c4 c5 c6:List Entry) (c7 c8 c9:Int) (s:(List UInt8)×Int):St:=⟨[(7,.sl 2004 0 s.1.length),(26,sl eI t2),(27,I t3),(28,I s.2)],pM l l3 c c2 c3 c4 c5 c6 c7 c8 c9 s.1⟩
abbrev yS (l:List (List UInt8)) (l3:List UInt8) (t2:List Int) (t3 c c2 c3:Int) (c4 c5 c6:List Entry) (c7 c8 c9:Int):((List UInt8)×Int×Bool)→ah×St:=fun e=>(.exit 0,⟨[(7,.sl 2004 0 e.1.length),(26,sl eI t2),(27,I t3),(28,I e.2.1),(29,B e.2.2)],pM l l3 c c2 c3 c4 c5 c6 c7 c8 c9 e.1⟩)
theorem Jr {l l3 t2 t3 c c2 c3 c4 c5 c6 c7 c8 c9 s e} (h:Loop (ey l l3 t2 t3 c c2 c3 c4 c5 c6 c7 c8 c9) s=some e):aq tab ow (.close [6002]) pT (yU l l3 t2 t3 c c2 c3 c4 c5 c6 c7 c8 c9 s)=some (yS l l3 t2 t3 c c2 c3 c4 c5 c6 c7 c8 c9 e):=by
 refine lrG (fun s o h=> ?_) h
 obtain ⟨_,_⟩:=s
 simp only [ey] at h
 simp+decide only [yU,yS,pM,pT,go_sem,reduceIte,Nat.reduceAdd]
 have d1:= @j2
 all_goals exact go
def oU (s:System) (t:Setting) (publics:(List Int)):Option ((List UInt8)):=
 (eK s).bind fun r_=>
 (lZ ([r_]:List (List UInt8))).bind fun r_2=>
 br (bW r_2.length 1) (
 br (bW ((r_2++([(UInt8.ofInt t.Rate),(UInt8.ofInt t.Queries),(UInt8.ofInt t.Grind)]:List UInt8)).length) 1) (
 (Loop (ey ([r_]:List (List UInt8)) ([(UInt8.ofInt t.Rate),(UInt8.ofInt t.Queries),(UInt8.ofInt t.Grind)]:List UInt8) publics ((publics.length:Nat):Int) s.Rows s.Cols s.Publics s.A s.B s.C t.Rate t.Queries t.Grind) ((r_2++([(UInt8.ofInt t.Rate),(UInt8.ofInt t.Queries),(UInt8.ofInt t.Grind)]:List UInt8)),0)).bind fun e_=>
 some e_.1) none) none
theorem O1 {s t publics r} (h:oU s t publics=some r):Call tab ow 312 [.agg [I s.Rows,I s.Cols,I s.Publics,sl eEntry s.A,sl eEntry s.B,sl eEntry s.C],.agg [I t.Rate,I t.Queries,I t.Grind],sl eI publics] []=some (sl eU8 r,[]):=by
 rw [aa (af:=nS) rfl]
 unfold oU at h
 simp+decide only [nS,Co,go_sem,reduceIte,Nat.reduceAdd]
 have d1:= @zx
 have d2:= @tA
 have d3:= @Jr
 all_goals exact go
end
def Gy (a:Int):Option (Unit):=
 some ()
theorem Wj {a r} (h:Gy a=some r):Call tab ow 313 [I a] []=some (.tup [],[]):=by
 rw [aa (af:=ua) rfl]
 unfold Gy at h
 simp+decide only [ua,Ia,go_sem,reduceIte,Nat.reduceAdd]
 all_goals exact go
section
theorem p9:mkR 2000 []=rws eExt []:=rfl
attribute [local go_sem] p9
theorem pb:mkR 12005 []=rws eExt []:=rfl
attribute [local go_sem] pb
def aC (kind2:Int) (t:List (List Ext)) (t2 c7 c8:Int):(List Ext)×Int×(List Ext)×Int×(List UInt8)×Int×Int×Int→Option (((List Ext)×Int×(List Ext)×Int×(List UInt8)×Int×Int×Int)⊕(((List Ext)×Int×(List Ext)×Int×(List UInt8)×Int×Int×Int)⊕((List Ext)×Int×Bool×(List Ext)×Int×(List UInt8)×Int×Int×Int)))
 | (l,t3,c,c2,c3,c4,c5,c6)=>
   br (decide (t3<t2)) (
   (atL t t3).bind fun x=>
   (kN kind2).bind fun r_=>
   br (((x.length:Nat):Int) !=(wrap .i64 (r_+1))) (
   some (.inr (.inl (l,18,c,c2,c3,c4,c5,c6)))) (
   (atL x 0).bind fun x2=>
   (atL x 1).bind fun x3=>
   (cZ x2 x3).bind fun r_2=>
   br (r_2.A==c5) (
   br (r_2.B==c6) (
   (bo x (Source.mk c c2 c3 c4)).bind fun r_3=>
   (f0 r_3).bind fun r_4=>
   (vU x r_4.1).bind fun r_5=>
   br (bW ((l++([r_4.1]:List Ext)).length) 16) (
   (Gy t3).bind fun r_6=>
   some (.inl ((l++([r_4.1]:List Ext)),(wrap .i64 (t3+1)),r_4.2.Script,r_4.2.At,r_4.2.State,r_4.2.Count,r_5.A,r_5.B))) none) (
   some (.inr (.inl (l,10,c,c2,c3,c4,c5,c6))))) (
   some (.inr (.inl (l,10,c,c2,c3,c4,c5,c6)))))) (
   some (.inr (.inr (l,t3,decide (t3<t2),c,c2,c3,c4,c5,c6))))
abbrev dQ (c7 c8:Int) (l c:List Ext) (c2:Int) (c3:List UInt8) (c4 c5 c6:Int):List (Nat×Blk):=[(0,⟨4,true,[[sl eExt c,I c2,S c3,I c4]]⟩),(1000,⟨2,true,[[I c5,I c6]]⟩),(1002,⟨2,true,[[I c7,I c8]]⟩),(2000,⟨2,false,rws eExt l⟩)]
abbrev gt (kind2:Int) (t:List (List Ext)) (t2 c7 c8:Int) (s:(List Ext)×Int×(List Ext)×Int×(List UInt8)×Int×Int×Int):St:=⟨[(0,.ptr 0 0 0 1),(1,I kind2),(4,.fn 313 []),(7,.ptr 1000 0 0 1),(11,.ptr 1002 0 0 1),(13,.sl 2000 0 s.1.length),(18,sl (eL eExt) t),(19,I t2),(20,I s.2.1)],dQ c7 c8 s.1 s.2.2.1 s.2.2.2.1 s.2.2.2.2.1 s.2.2.2.2.2.1 s.2.2.2.2.2.2.1 s.2.2.2.2.2.2.2⟩
abbrev gk (kind2:Int) (t:List (List Ext)) (t2 c7 c8:Int):(((List Ext)×Int×(List Ext)×Int×(List UInt8)×Int×Int×Int)⊕((List Ext)×Int×Bool×(List Ext)×Int×(List UInt8)×Int×Int×Int))→ah×St:=alt (fun e=>((.ret,⟨[(10,.lit (.slice none 0 0)),(11,.ptr 1002 0 0 1),(12,I e.2.1)],[(0,⟨4,true,[[sl eExt e.2.2.1,I e.2.2.2.1,S e.2.2.2.2.1,I e.2.2.2.2.2.1]]⟩),(1000,⟨2,true,[[I e.2.2.2.2.2.2.1,I e.2.2.2.2.2.2.2]]⟩),(1002,⟨2,true,[[I 0,I 0]]⟩),(2000,⟨2,false,rws eExt e.1⟩)]⟩):ah×St)) (fun e=>(.exit 0,⟨[(0,.ptr 0 0 0 1),(1,I kind2),(4,.fn 313 []),(7,.ptr 1000 0 0 1),(11,.ptr 1002 0 0 1),(13,.sl 2000 0 e.1.length),(18,sl (eL eExt) t),(19,I t2),(20,I e.2.1),(21,B e.2.2.1)],dQ c7 c8 e.1 e.2.2.2.1 e.2.2.2.2.1 e.2.2.2.2.2.1 e.2.2.2.2.2.2.1 e.2.2.2.2.2.2.2.1 e.2.2.2.2.2.2.2.2⟩))
theorem mP {kind2 t t2 c7 c8 s e} (h:Loop (aC kind2 t t2 c7 c8) s=some e):aq tab ow (.close [6003,8006,10002,11001,11002,12002,12005,12006,13002]) du (gt kind2 t t2 c7 c8 s)=some (gk kind2 t t2 c7 c8 e):=by
 refine lrG (fun s o h=> ?_) h
 obtain ⟨_,_,_,_,_,_,_,_⟩:=s
 simp only [aC] at h
 simp+decide only [gt,gk,dQ,du,go_sem,reduceIte,Nat.reduceAdd]
 have d1:= @Eh
 have d2:= @dS
 have d3:= @fx
 have d4:= @pm
 have d5:= @LJ
 have d6:= @Wj
 all_goals exact go
def bi (kind:Int) (claim:Ext) (rounds:(List (List Ext))) (m:Source):Option ((List Ext)×Ext×Int×Source):=
 (Loop (aC kind rounds ((rounds.length:Nat):Int) 0 0) (([]:List Ext),0,m.Script,m.At,m.State,m.Count,claim.A,claim.B)).bind (alt (fun e_2=>
 some (([]:List Ext),(Ext.mk 0 0),e_2.2.1,(Source.mk e_2.2.2.1 e_2.2.2.2.1 e_2.2.2.2.2.1 e_2.2.2.2.2.2.1))) (fun e_3=>
 some (e_3.1,(Ext.mk e_3.2.2.2.2.2.2.2.1 e_3.2.2.2.2.2.2.2.2),0,(Source.mk e_3.2.2.2.1 e_3.2.2.2.2.1 e_3.2.2.2.2.2.1 e_3.2.2.2.2.2.2.1))))
theorem px {kind claim rounds m r} (h:bi kind claim rounds m=some r):Call tab ow 187 [.ptr 0 0 0 1,I kind,.agg [I claim.A,I claim.B],sl (eL eExt) rounds,.fn 313 []] [⟨4,true,[[sl eExt m.Script,I m.At,S m.State,I m.Count]]⟩]=some (.tup [sl eExt r.1,.agg [I r.2.1.A,I r.2.1.B],I r.2.2.1],[⟨4,true,[[sl eExt r.2.2.2.Script,I r.2.2.2.At,S r.2.2.2.State,I r.2.2.2.Count]]⟩]):=by
 rw [aa (af:=dc) rfl]
 unfold bi at h
 simp+decide only [dc,iL,go_sem,reduceIte,Nat.reduceAdd]
 have d1:= @mP
 all_goals exact go
end
end
end Go.AI.Fn
set_option linter.unusedVariables false
set_option linter.unusedSimpArgs false
set_option maxRecDepth 100000
set_option maxHeartbeats 1000000
namespace Go.AI.Fn
noncomputable section
open IntKind (wrap)
section
theorem Ju: ∀k,wi 2003 k [I (0:Int),I (0:Int)]=rws eExt (List.replicate k (Ext.mk (0:Int) (0:Int))):=fun _=>H4 eExt (Ext.mk (0:Int) (0:Int)) _ _
attribute [local go_sem] Ju
def dR (rows:List Ext) (t t2 t3:List Entry) (t4:Int) (t5:List Entry) (t6 c c2 c3:Int) (c4 c5 c6:List Entry) (c7 c8 c9 c10 c11 c12:Int):(List Ext)×Int→Option (((List Ext)×Int)⊕(((List Ext)×Int×Bool)))
 | (l,t7)=>
   br (decide (t7<t6)) (
   (atL t5 t7).bind fun x=>
   br (decide (0≤x.Col)) (
   br (decide (x.Col.toNat<l.length)) (
   (l[x.Col.toNat]?).bind fun x2=>
   (atL rows x.Row).bind fun x3=>
   (bt (Ext.mk c7 c8) x3).bind fun r_3=>
   (dW r_3 x.Value).bind fun r_4=>
   (cZ x2 r_4).bind fun r_5=>
   br (decide (0≤x.Col)) (
   br (decide (x.Col.toNat<l.length)) (
   (l[x.Col.toNat]?).bind fun x4=>
   some (.inl ((l.set x.Col.toNat r_5),(wrap .i64 (t7+1))))) none) none) none) none) (
   some (.inr (l,t7,decide (t7<t6))))
abbrev mW (c c2 c3:Int) (c4 c5 c6:List Entry) (c7 c8 c9 c10 c11 c12:Int) (l:List Ext):List (Nat×Blk):=[(1000,⟨6,true,[[I c,I c2,I c3,sl eEntry c4,sl eEntry c5,sl eEntry c6]]⟩),(1001,⟨6,true,[[I c7,I c8,I c9,I c10,I c11,I c12]]⟩),(2003,⟨2,false,rws eExt l⟩)]
abbrev wN (rows:List Ext) (t t2 t3:List Entry) (t4:Int) (t5:List Entry) (t6 c c2 c3:Int) (c4 c5 c6:List Entry) (c7 c8 c9 c10 c11 c12:Int) (s:(List Ext)×Int):St:=⟨[(5,.ptr 1001 0 0 1),(7,.sl 2003 0 s.1.length),(8,sl eExt rows),(9,I 0),(20,.agg [sl eEntry t,sl eEntry t2,sl eEntry t3]),(21,I t4),(25,sl eEntry t5),(26,I t6),(27,I s.2)],mW c c2 c3 c4 c5 c6 c7 c8 c9 c10 c11 c12 s.1⟩
abbrev wa (rows:List Ext) (t t2 t3:List Entry) (t4:Int) (t5:List Entry) (t6 c c2 c3:Int) (c4 c5 c6:List Entry) (c7 c8 c9 c10 c11 c12:Int):((List Ext)×Int×Bool)→ah×St:=fun e=>(.exit 2,⟨[(5,.ptr 1001 0 0 1),(7,.sl 2003 0 e.1.length),(8,sl eExt rows),(9,I 0),(20,.agg [sl eEntry t,sl eEntry t2,sl eEntry t3]),(21,I t4),(25,sl eEntry t5),(26,I t6),(27,I e.2.1),(28,B e.2.2)],mW c c2 c3 c4 c5 c6 c7 c8 c9 c10 c11 c12 e.1⟩)
theorem GZ {rows t t2 t3 t4 t5 t6 c c2 c3 c4 c5 c6 c7 c8 c9 c10 c11 c12 s e} (h:Loop (dR rows t t2 t3 t4 t5 t6 c c2 c3 c4 c5 c6 c7 c8 c9 c10 c11 c12) s=some e):aq tab ow (.close [8002,9016,9019,9020]) dP (wN rows t t2 t3 t4 t5 t6 c c2 c3 c4 c5 c6 c7 c8 c9 c10 c11 c12 s)=some (wa rows t t2 t3 t4 t5 t6 c c2 c3 c4 c5 c6 c7 c8 c9 c10 c11 c12 e):=by
 refine lrG (fun s o h=> ?_) h
 obtain ⟨_,_⟩:=s
 simp only [dR] at h
 simp+decide only [wN,wa,mW,dP,go_sem,reduceIte,Nat.reduceAdd,Int.reduceAdd,Int.reduceMul,Int.reduceSub]
 have d1:= @cB
 have d2:= @iO
 have d3:= @dS
 all_goals exact go
def je (rows2:List Ext) (t8 t9 t10 t11:List Entry) (t12 c13 c14 c15:Int) (c16 c17 c18:List Entry) (c19 c20 c21 c22 c23 c24:Int):(List Ext)×Int→Option (((List Ext)×Int)⊕(((List Ext)×Int×Bool)))
 | (l2,t13)=>
   br (decide (t13<t12)) (
   (atL t11 t13).bind fun x5=>
   br (decide (0≤x5.Col)) (
   br (decide (x5.Col.toNat<l2.length)) (
   (l2[x5.Col.toNat]?).bind fun x6=>
   (atL rows2 x5.Row).bind fun x7=>
   (bt (Ext.mk c21 c22) x7).bind fun r_6=>
   (dW r_6 x5.Value).bind fun r_7=>
   (cZ x6 r_7).bind fun r_8=>
   br (decide (0≤x5.Col)) (
   br (decide (x5.Col.toNat<l2.length)) (
   (l2[x5.Col.toNat]?).bind fun x8=>
   some (.inl ((l2.set x5.Col.toNat r_8),(wrap .i64 (t13+1))))) none) none) none) none) (
   some (.inr (l2,t13,decide (t13<t12))))
abbrev nC (c13 c14 c15:Int) (c16 c17 c18:List Entry) (c19 c20 c21 c22 c23 c24:Int) (l2:List Ext):List (Nat×Blk):=[(1000,⟨6,true,[[I c13,I c14,I c15,sl eEntry c16,sl eEntry c17,sl eEntry c18]]⟩),(1001,⟨6,true,[[I c19,I c20,I c21,I c22,I c23,I c24]]⟩),(2003,⟨2,false,rws eExt l2⟩)]
abbrev vZ (rows2:List Ext) (t8 t9 t10 t11:List Entry) (t12 c13 c14 c15:Int) (c16 c17 c18:List Entry) (c19 c20 c21 c22 c23 c24:Int) (s:(List Ext)×Int):St:=⟨[(5,.ptr 1001 0 0 1),(7,.sl 2003 0 s.1.length),(8,sl eExt rows2),(9,I 1),(20,.agg [sl eEntry t8,sl eEntry t9,sl eEntry t10]),(21,I 1),(25,sl eEntry t11),(26,I t12),(27,I s.2)],nC c13 c14 c15 c16 c17 c18 c19 c20 c21 c22 c23 c24 s.1⟩
abbrev vT (rows2:List Ext) (t8 t9 t10 t11:List Entry) (t12 c13 c14 c15:Int) (c16 c17 c18:List Entry) (c19 c20 c21 c22 c23 c24:Int):((List Ext)×Int×Bool)→ah×St:=fun e=>(.exit 2,⟨[(5,.ptr 1001 0 0 1),(7,.sl 2003 0 e.1.length),(8,sl eExt rows2),(9,I 1),(20,.agg [sl eEntry t8,sl eEntry t9,sl eEntry t10]),(21,I 1),(25,sl eEntry t11),(26,I t12),(27,I e.2.1),(28,B e.2.2)],nC c13 c14 c15 c16 c17 c18 c19 c20 c21 c22 c23 c24 e.1⟩)
theorem GG {rows2 t8 t9 t10 t11 t12 c13 c14 c15 c16 c17 c18 c19 c20 c21 c22 c23 c24 s e} (h:Loop (je rows2 t8 t9 t10 t11 t12 c13 c14 c15 c16 c17 c18 c19 c20 c21 c22 c23 c24) s=some e):aq tab ow (.close [8002,9016,9019,9020]) dP (vZ rows2 t8 t9 t10 t11 t12 c13 c14 c15 c16 c17 c18 c19 c20 c21 c22 c23 c24 s)=some (vT rows2 t8 t9 t10 t11 t12 c13 c14 c15 c16 c17 c18 c19 c20 c21 c22 c23 c24 e):=by
 refine lrG (fun s o h=> ?_) h
 obtain ⟨_,_⟩:=s
 simp only [je] at h
 simp+decide only [vZ,vT,nC,dP,go_sem,reduceIte,Nat.reduceAdd,Int.reduceAdd,Int.reduceMul,Int.reduceSub]
 have d1:= @cB
 have d2:= @iO
 have d3:= @dS
 all_goals exact go
def jv (rows3:List Ext) (t14 t15 t16 t17:List Entry) (t18 c25 c26 c27:Int) (c28 c29 c30:List Entry) (c31 c32 c33 c34 c35 c36:Int):(List Ext)×Int→Option (((List Ext)×Int)⊕(((List Ext)×Int×Bool)))
 | (l3,t19)=>
   br (decide (t19<t18)) (
   (atL t17 t19).bind fun x9=>
   br (decide (0≤x9.Col)) (
   br (decide (x9.Col.toNat<l3.length)) (
   (l3[x9.Col.toNat]?).bind fun x10=>
   (atL rows3 x9.Row).bind fun x11=>
   (bt (Ext.mk c35 c36) x11).bind fun r_9=>
   (dW r_9 x9.Value).bind fun r_10=>
   (cZ x10 r_10).bind fun r_11=>
   br (decide (0≤x9.Col)) (
   br (decide (x9.Col.toNat<l3.length)) (
   (l3[x9.Col.toNat]?).bind fun x12=>
   some (.inl ((l3.set x9.Col.toNat r_11),(wrap .i64 (t19+1))))) none) none) none) none) (
   some (.inr (l3,t19,decide (t19<t18))))
abbrev n7 (c25 c26 c27:Int) (c28 c29 c30:List Entry) (c31 c32 c33 c34 c35 c36:Int) (l3:List Ext):List (Nat×Blk):=[(1000,⟨6,true,[[I c25,I c26,I c27,sl eEntry c28,sl eEntry c29,sl eEntry c30]]⟩),(1001,⟨6,true,[[I c31,I c32,I c33,I c34,I c35,I c36]]⟩),(2003,⟨2,false,rws eExt l3⟩)]
abbrev wT (rows3:List Ext) (t14 t15 t16 t17:List Entry) (t18 c25 c26 c27:Int) (c28 c29 c30:List Entry) (c31 c32 c33 c34 c35 c36:Int) (s:(List Ext)×Int):St:=⟨[(5,.ptr 1001 0 0 1),(7,.sl 2003 0 s.1.length),(8,sl eExt rows3),(9,I 2),(20,.agg [sl eEntry t14,sl eEntry t15,sl eEntry t16]),(21,I 2),(25,sl eEntry t17),(26,I t18),(27,I s.2)],n7 c25 c26 c27 c28 c29 c30 c31 c32 c33 c34 c35 c36 s.1⟩
abbrev xa (rows3:List Ext) (t14 t15 t16 t17:List Entry) (t18 c25 c26 c27:Int) (c28 c29 c30:List Entry) (c31 c32 c33 c34 c35 c36:Int):((List Ext)×Int×Bool)→ah×St:=fun e=>(.exit 2,⟨[(5,.ptr 1001 0 0 1),(7,.sl 2003 0 e.1.length),(8,sl eExt rows3),(9,I 2),(20,.agg [sl eEntry t14,sl eEntry t15,sl eEntry t16]),(21,I 2),(25,sl eEntry t17),(26,I t18),(27,I e.2.1),(28,B e.2.2)],n7 c25 c26 c27 c28 c29 c30 c31 c32 c33 c34 c35 c36 e.1⟩)
theorem Gp {rows3 t14 t15 t16 t17 t18 c25 c26 c27 c28 c29 c30 c31 c32 c33 c34 c35 c36 s e} (h:Loop (jv rows3 t14 t15 t16 t17 t18 c25 c26 c27 c28 c29 c30 c31 c32 c33 c34 c35 c36) s=some e):aq tab ow (.close [8002,9016,9019,9020]) dP (wT rows3 t14 t15 t16 t17 t18 c25 c26 c27 c28 c29 c30 c31 c32 c33 c34 c35 c36 s)=some (xa rows3 t14 t15 t16 t17 t18 c25 c26 c27 c28 c29 c30 c31 c32 c33 c34 c35 c36 e):=by
 refine lrG (fun s o h=> ?_) h
 obtain ⟨_,_⟩:=s
 simp only [jv] at h
 simp+decide only [wT,xa,n7,dP,go_sem,reduceIte,Nat.reduceAdd,Int.reduceAdd,Int.reduceMul,Int.reduceSub]
 have d1:= @cB
 have d2:= @iO
 have d3:= @dS
 all_goals exact go
def mc (s:System) (rx:(List Ext)) (by_:(Ext×Ext×Ext)):Option ((List Ext)):=
 br (decide (0≤s.Cols)) (
 br (tF (aB .i64 1 s.Cols) (aB .i64 1 s.Cols) 16) (
 (n6 rx).bind fun r_=>
 (cO s).bind fun r_2=>
 (Loop (dR r_ r_2.1 r_2.2.1 r_2.2.2 (0:Int) r_2.1 ((r_2.1.length:Nat):Int) s.Rows s.Cols s.Publics s.A s.B s.C by_.1.A by_.1.B by_.2.1.A by_.2.1.B by_.2.2.A by_.2.2.B) ((List.replicate ((aB .i64 (1:Int) s.Cols).toNat) (Ext.mk (0:Int) (0:Int))),(0:Int))).bind fun e_=>
 (Loop (je r_ r_2.1 r_2.2.1 r_2.2.2 r_2.2.1 ((r_2.2.1.length:Nat):Int) s.Rows s.Cols s.Publics s.A s.B s.C by_.1.A by_.1.B by_.2.1.A by_.2.1.B by_.2.2.A by_.2.2.B) (e_.1,0)).bind fun e_2=>
 (Loop (jv r_ r_2.1 r_2.2.1 r_2.2.2 r_2.2.2 ((r_2.2.2.length:Nat):Int) s.Rows s.Cols s.Publics s.A s.B s.C by_.1.A by_.1.B by_.2.1.A by_.2.1.B by_.2.2.A by_.2.2.B) (e_2.1,0)).bind fun e_3=>
 some e_3.1) none) none
theorem MZ {s rx by_ r} (h:mc s rx by_=some r):Call tab ow 315 [.agg [I s.Rows,I s.Cols,I s.Publics,sl eEntry s.A,sl eEntry s.B,sl eEntry s.C],sl eExt rx,.agg [I by_.1.A,I by_.1.B,I by_.2.1.A,I by_.2.1.B,I by_.2.2.A,I by_.2.2.B]] []=some (sl eExt r,[]):=by
 rw [aa (af:=lI) rfl]
 unfold mc at h
 simp+decide only [lI,zZ,go_sem,reduceIte,Nat.reduceAdd,Int.reduceAdd,Int.reduceMul,Int.reduceSub]
 obtain ⟨hb,h⟩:=brg h
 refine DE hb ?_
 obtain ⟨hb,h⟩:=brg h
 refine DE hb ?_
 obtain ⟨r_,h1,h⟩:=bd h
 refine jt (AF h1) ?_
 simp+decide only [go_sem,reduceIte,Nat.reduceAdd,Int.reduceAdd,Int.reduceMul,Int.reduceSub]
 obtain ⟨r_2,h1,h⟩:=bd h
 refine tu (jM h1) ?_
 simp+decide only [go_sem,reduceIte,Nat.reduceAdd,Int.reduceAdd,Int.reduceMul,Int.reduceSub]
 refine fL ?_
 simp+decide only [gq,go_sem,reduceIte,Nat.reduceAdd,Int.reduceAdd,Int.reduceMul,Int.reduceSub]
 obtain ⟨e_,h1,h⟩:=bd h
 refine DC (GZ h1) ?_
 simp+decide only [go_sem,reduceIte,Nat.reduceAdd,Int.reduceAdd,Int.reduceMul,Int.reduceSub]
 refine fL ?_
 simp+decide only [gq,go_sem,reduceIte,Nat.reduceAdd,Int.reduceAdd,Int.reduceMul,Int.reduceSub]
 obtain ⟨e_2,h1,h⟩:=bd h
 refine DC (GG h1) ?_
 simp+decide only [go_sem,reduceIte,Nat.reduceAdd,Int.reduceAdd,Int.reduceMul,Int.reduceSub]
 refine fL ?_
 simp+decide only [gq,go_sem,reduceIte,Nat.reduceAdd,Int.reduceAdd,Int.reduceMul,Int.reduceSub]
 obtain ⟨e_3,h1,h⟩:=bd h
 refine DC (Gp h1) ?_
 simp+decide only [go_sem,reduceIte,Nat.reduceAdd,Int.reduceAdd,Int.reduceMul,Int.reduceSub]
 refine fL ?_
 simp+decide only [gq,go_sem,reduceIte,Nat.reduceAdd,Int.reduceAdd,Int.reduceMul,Int.reduceSub]
 obtain rfl:=Option.some.inj h
 first|rfl| (simp only [List.length_set,go_sem];done)
end
section
theorem DA: ∀k,wi 2003 k [I (0:Int)]=rws eI (List.replicate k (0:Int)):=fun _=>H4 eI (0:Int) _ _
attribute [local go_sem] DA
def i7 (s:System) (publics privates:(List Int)):Option ((List Int)):=
 br (decide (0≤s.Cols)) (
 br (tF (aB .i64 1 s.Cols) (aB .i64 1 s.Cols) 8) (
 br (decide (0<(List.replicate ((aB .i64 (1:Int) s.Cols).toNat) (0:Int)).length)) (
 ((List.replicate ((aB .i64 (1:Int) s.Cols).toNat) (0:Int))[0]?).bind fun x=>
 br (decide ((1:Int)≤(((List.replicate ((aB .i64 (1:Int) s.Cols).toNat) (0:Int)).length:Nat):Int))) (
 br (decide (1+((List.replicate ((aB .i64 (1:Int) s.Cols).toNat) (0:Int)).length-1)=(List.replicate ((aB .i64 (1:Int) s.Cols).toNat) (0:Int)).length)) (
 (eY s).bind fun r_=>
 br (decide (0≤r_)&&decide (r_≤(((List.replicate ((aB .i64 (1:Int) s.Cols).toNat) (0:Int)).length:Nat):Int))) (
 br (decide (r_.toNat+((List.replicate ((aB .i64 (1:Int) s.Cols).toNat) (0:Int)).length-r_.toNat)=(List.replicate ((aB .i64 (1:Int) s.Cols).toNat) (0:Int)).length)) (
 some (wx (wx ((List.replicate ((aB .i64 (1:Int) s.Cols).toNat) (0:Int)).set 0 (1:Int)) 1 (min publics.length ((List.replicate ((aB .i64 (1:Int) s.Cols).toNat) (0:Int)).length-1)) publics) r_.toNat (min privates.length ((List.replicate ((aB .i64 (1:Int) s.Cols).toNat) (0:Int)).length-r_.toNat)) privates)) none) none) none) none) none) none) none
theorem EK {s publics privates r} (h:i7 s publics privates=some r):Call tab ow 351 [.agg [I s.Rows,I s.Cols,I s.Publics,sl eEntry s.A,sl eEntry s.B,sl eEntry s.C],sl eI publics,sl eI privates] []=some (sl eI r,[]):=by
 rw [aa (af:=iE) rfl]
 unfold i7 at h
 simp+decide only [iE,tX,go_sem,reduceIte,Nat.reduceAdd]
 have d1:= @pW
 all_goals exact go
end
section
theorem a34:mkR 2000 []=rws eExt []:=rfl
attribute [local go_sem] a34
theorem a0X:mkR 6003 []=rws eExt []:=rfl
attribute [local go_sem] a0X
def n8 (t:List Int) (t2:Int):(List Ext)×Int→Option (((List Ext)×Int)⊕(((List Ext)×Int×Bool)))
 | (l,t3)=>
   br (decide (t3<t2)) (
   (atL t t3).bind fun x=>
   br (bW ((l++([(Ext.mk x 0)]:List Ext)).length) 16) (
   some (.inl ((l++([(Ext.mk x 0)]:List Ext)),(wrap .i64 (t3+1))))) none) (
   some (.inr (l,t3,decide (t3<t2))))
abbrev Nn (t:List Int) (t2:Int) (s:(List Ext)×Int):St:=⟨[(3,.sl 2000 0 s.1.length),(7,sl eI t),(8,I t2),(9,I s.2)],[(2000,⟨2,false,rws eExt s.1⟩)]⟩
abbrev Kb (t:List Int) (t2:Int):((List Ext)×Int×Bool)→ah×St:=fun e=>(.exit 0,⟨[(3,.sl 2000 0 e.1.length),(7,sl eI t),(8,I t2),(9,I e.2.1),(10,B e.2.2)],[(2000,⟨2,false,rws eExt e.1⟩)]⟩)
theorem XH {t t2 s e} (h:Loop (n8 t t2) s=some e):aq tab ow (.close [6003,6004]) E8 (Nn t t2 s)=some (Kb t t2 e):=by
 refine lrG (fun s o h=> ?_) h
 obtain ⟨_,_⟩:=s
 simp only [n8] at h
 simp+decide only [Nn,Kb,E8,go_sem,reduceIte,Nat.reduceAdd]
 all_goals exact go
def LF (list:(List Int)):Option ((List Ext)):=
 (Loop (n8 list ((list.length:Nat):Int)) (([]:List Ext),0)).bind fun e_=>
 some e_.1
theorem a4W {list r} (h:LF list=some r):Call tab ow 350 [sl eI list] []=some (sl eExt r,[]):=by
 rw [aa (af:=F4) rfl]
 unfold LF at h
 simp+decide only [F4,Wt,go_sem,reduceIte,Nat.reduceAdd]
 have d1:= @XH
 all_goals exact go
end
def sw (s:System) (publics:(List Int)) (point:(List Ext)):Option (Ext):=
 (i7 s publics ([]:List Int)).bind fun r_=>
 (eY s).bind fun r_2=>
 (ny r_ 0 r_2).bind fun y=>
 (LF y).bind fun r_3=>
 (n6 point).bind fun r_4=>
 (Fi r_3 r_4).bind fun r_5=>
 some r_5
theorem SU {s publics point r} (h:sw s publics point=some r):Call tab ow 317 [.agg [I s.Rows,I s.Cols,I s.Publics,sl eEntry s.A,sl eEntry s.B,sl eEntry s.C],sl eI publics,sl eExt point] []=some (.agg [I r.A,I r.B],[]):=by
 rw [aa (af:=rm) rfl]
 unfold sw at h
 simp+decide only [rm,G3,go_sem,reduceIte,Nat.reduceAdd]
 have d1:= @EK
 have d2:= @pW
 have d3:= @a4W
 have d4:= @AF
 have d5:= @a0j
 all_goals exact go
section
theorem Dj:mkR 8009 []=rws eExt []:=rfl
attribute [local go_sem] Dj
theorem Do:mkR 10007 []=rws eExt []:=rfl
attribute [local go_sem] Do
theorem DB:mkR 12008 []=rws eExt []:=rfl
attribute [local go_sem] DB
theorem E0:mkR 19003 []=rws eExt []:=rfl
attribute [local go_sem] E0
def fJ (a:System) (a2:Setting) (a3:(List Int)) (a4:Proof) (m:Source):Option (Int×Source):=
 (oU a a2 a3).bind fun r_=>
 (cX r_ m).bind fun r_2=>
 br (bW a4.Root.length 1) (
 (cX a4.Root r_2).bind fun r_3=>
 (fl a.Rows r_3).bind fun r_4=>
 (bi 2 (Ext.mk 0 0) a4.Gates r_4.2).bind fun r_5=>
 br (r_5.2.2.1 !=0) (
 some (r_5.2.2.1,r_5.2.2.2)) (
 (E5 r_4.1 r_5.1).bind fun r_6=>
 (rY 2 ([r_6,a4.VA,a4.VB,a4.VC]:List Ext)).bind fun r_7=>
 br (r_7.A==r_5.2.1.A) (
 br (r_7.B==r_5.2.1.B) (
 (bo ([a4.VA,a4.VB,a4.VC]:List Ext) r_5.2.2.2).bind fun r_8=>
 (fl 3 r_8).bind fun r_9=>
 (Fi r_9.1 ([a4.VA,a4.VB,a4.VC]:List Ext)).bind fun r_10=>
 (bi 1 r_10 a4.Wires r_9.2).bind fun r_11=>
 br (r_11.2.2.1 !=0) (
 some (r_11.2.2.1,r_11.2.2.2)) (
 (ny r_11.1 0 (wrap .i64 (a.Cols-1))).bind fun y=>
 (atL r_11.1 (wrap .i64 (a.Cols-1))).bind fun x=>
 br (decide (3≤r_9.1.length)) (
 (XC r_9.1).bind fun x2=>
 (mc a r_5.1 (x2.1,x2.2.1,x2.2.2)).bind fun r_12=>
 (n6 r_11.1).bind fun r_13=>
 (Fi r_12 r_13).bind fun r_14=>
 (sw a a3 y).bind fun r_15=>
 (wB r_15 a4.VW x).bind fun r_16=>
 (bt r_14 r_16).bind fun r_17=>
 br (r_17.A==r_11.2.1.A) (
 br (r_17.B==r_11.2.1.B) (
 (bo ([a4.VW]:List Ext) r_11.2.2.2).bind fun r_18=>
 (j8 a4.Root y a4.VW a2 a4.Open r_18).bind fun r_19=>
 some (r_19.1,r_19.2)) (
 some (11,r_11.2.2.2))) (
 some (11,r_11.2.2.2))) none)) (
 some (11,r_5.2.2.2))) (
 some (11,r_5.2.2.2)))) none
theorem FN {a a2 a3 a4 m r} (h:fJ a a2 a3 a4 m=some r):Call tab ow 227 [.ptr 0 0 0 1,.agg [I a.Rows,I a.Cols,I a.Publics,sl eEntry a.A,sl eEntry a.B,sl eEntry a.C],.agg [I a2.Rate,I a2.Queries,I a2.Grind],sl eI a3,.agg [S a4.Root,sl (eL eExt) a4.Gates,I a4.VA.A,I a4.VA.B,I a4.VB.A,I a4.VB.B,I a4.VC.A,I a4.VC.B,sl (eL eExt) a4.Wires,I a4.VW.A,I a4.VW.B,sl (eL eExt) a4.Open.Rounds,sl eS a4.Open.Roots,I a4.Open.Last.A,I a4.Open.Last.B,I a4.Open.Nonce,sl eQuery a4.Open.Queries]] [⟨4,true,[[sl eExt m.Script,I m.At,S m.State,I m.Count]]⟩]=some (I r.1,[⟨4,true,[[sl eExt r.2.Script,I r.2.At,S r.2.State,I r.2.Count]]⟩]):=by
 rw [aa (af:=ix) rfl]
 unfold fJ at h
 simp+decide only [ix,ui,go_sem,reduceIte,Nat.reduceAdd]
 have d1:= @O1
 have d2:= @iG
 have d3:= @wR
 have d4:= @px
 have d5:= @WA
 have d6:= @Vm
 have d7:= @fx
 have d8:= @a0j
 have d9:= @MZ
 have d10:= @AF
 have d11:= @SU
 have d12:= @VE
 have d13:= @cB
 have d14:= @GH
 all_goals exact go
end
def xg (s:System) (t:Setting) (publics:(List Int)) (p:Proof) (source:Source):Option (Bool×Int):=
 (wI p s t).bind fun r_=>
 br (!r_) (
 some (false,18)) (
 (i9 source).bind fun r_2=>
 (fJ s t publics p r_2).bind fun r_3=>
 some ((r_3.1==0),r_3.1))
theorem Rc {s t publics p source r} (h:xg s t publics p source=some r):Call tab ow 119 [.agg [I s.Rows,I s.Cols,I s.Publics,sl eEntry s.A,sl eEntry s.B,sl eEntry s.C],.agg [I t.Rate,I t.Queries,I t.Grind],sl eI publics,.agg [S p.Root,sl (eL eExt) p.Gates,I p.VA.A,I p.VA.B,I p.VB.A,I p.VB.B,I p.VC.A,I p.VC.B,sl (eL eExt) p.Wires,I p.VW.A,I p.VW.B,sl (eL eExt) p.Open.Rounds,sl eS p.Open.Roots,I p.Open.Last.A,I p.Open.Last.B,I p.Open.Nonce,sl eQuery p.Open.Queries],.agg [sl eExt source.Script,I source.At,S source.State,I source.Count]] []=some (.tup [B r.1,I r.2],[]):=by
 rw [aa (af:=rC) rfl]
 unfold xg at h
 simp+decide only [rC,FZ,go_sem,reduceIte,Nat.reduceAdd]
 have d1:= @Vx
 have d2:= @F9
 have d3:= @FN
 all_goals exact go
def Ar (s:System) (t:Setting) (publics:(List Int)) (p:Proof) (source:Source):Option (Bool×Int):=
 (oK s t publics source).bind fun r_=>
 br (r_ !=0) (
 some (false,r_)) (
 (xg s t publics p source).bind fun r_2=>
 some (r_2.1,r_2.2))
theorem Zf {s t publics p source r} (h:Ar s t publics p source=some r):Call tab ow 38 [.agg [I s.Rows,I s.Cols,I s.Publics,sl eEntry s.A,sl eEntry s.B,sl eEntry s.C],.agg [I t.Rate,I t.Queries,I t.Grind],sl eI publics,.agg [S p.Root,sl (eL eExt) p.Gates,I p.VA.A,I p.VA.B,I p.VB.A,I p.VB.B,I p.VC.A,I p.VC.B,sl (eL eExt) p.Wires,I p.VW.A,I p.VW.B,sl (eL eExt) p.Open.Rounds,sl eS p.Open.Roots,I p.Open.Last.A,I p.Open.Last.B,I p.Open.Nonce,sl eQuery p.Open.Queries],.agg [sl eExt source.Script,I source.At,S source.State,I source.Count]] []=some (.tup [B r.1,I r.2],[]):=by
 rw [aa (af:=xT) rfl]
 unfold Ar at h
 simp+decide only [xT,MI,go_sem,reduceIte,Nat.reduceAdd]
 have d1:= @NF
 have d2:= @Rc
 all_goals exact go
def BE (a b:Entry):Option (Bool):=
 br (a.Row !=b.Row) (
 some false) (
 br (a.Col !=b.Col) (
 some false) (
 br (a.Value !=b.Value) (
 some false) (
 some true)))
theorem Ut {a b r} (h:BE a b=some r):Call tab ow 228 [.agg [I a.Row,I a.Col,I a.Value],.agg [I b.Row,I b.Col,I b.Value]] []=some (B r,[]):=by
 rw [aa (af:=uC) rfl]
 unfold BE at h
 simp+decide only [uC,Io,go_sem,reduceIte,Nat.reduceAdd]
 all_goals exact go
def j6 (a2 b2:List Entry):Int→Option ((Int)⊕(Unit⊕(Int×Bool)))
 |i=>
  br (decide (i<((a2.length:Nat):Int))) (
  (atL a2 i).bind fun x=>
  (atL b2 i).bind fun x2=>
  (BE x x2).bind fun r_=>
  br (!r_) (
  some (.inr (.inl ()))) (
  some (.inl (wrap .i64 (i+1))))) (
  some (.inr (.inr (i,decide (i<((a2.length:Nat):Int))))))
abbrev Ad (a2 b2:List Entry) (s:Int):St:=⟨[(0,sl eEntry a2),(1,sl eEntry b2),(5,I s)],[]⟩
abbrev An (a2 b2:List Entry):(Unit⊕(Int×Bool))→ah×St:=alt (fun e=>((.ret,⟨[(4,B false)],[]⟩):ah×St)) (fun e=>(.exit 0,⟨[(0,sl eEntry a2),(1,sl eEntry b2),(5,I e.1),(14,B e.2)],[]⟩))
theorem Ka {a2 b2 s e} (h:Loop (j6 a2 b2) s=some e):aq tab ow (.close [7008]) tj (Ad a2 b2 s)=some (An a2 b2 e):=by
 refine lrG (fun s o h=> ?_) h
 simp only [j6] at h
 simp+decide only [Ad,An,tj,go_sem,reduceIte,Nat.reduceAdd]
 have d1:= @Ut
 all_goals exact go
def l7 (a b:(List Entry)):Option (Bool):=
 br (((a.length:Nat):Int) !=((b.length:Nat):Int)) (
 some false) (
 (Loop (j6 a b) 0).bind (alt (fun e_2=>
 some false) (fun e_3=>
 some true)))
theorem QN {a b r} (h:l7 a b=some r):Call tab ow 120 [sl eEntry a,sl eEntry b] []=some (B r,[]):=by
 rw [aa (af:=rM) rfl]
 unfold l7 at h
 simp+decide only [rM,EB,go_sem,reduceIte,Nat.reduceAdd]
 have d1:= @Ka
 all_goals exact go
def sA (a b:System):Option (Bool):=
 br (a.Rows !=b.Rows) (
 some false) (
 br (a.Cols !=b.Cols) (
 some false) (
 br (a.Publics !=b.Publics) (
 some false) (
 (l7 a.A b.A).bind fun r_=>
 br (!r_) (
 some false) (
 (l7 a.B b.B).bind fun r_2=>
 br (!r_2) (
 some false) (
 (l7 a.C b.C).bind fun r_3=>
 br (!r_3) (
 some false) (
 some true))))))
theorem Tp {a b r} (h:sA a b=some r):Call tab ow 39 [.agg [I a.Rows,I a.Cols,I a.Publics,sl eEntry a.A,sl eEntry a.B,sl eEntry a.C],.agg [I b.Rows,I b.Cols,I b.Publics,sl eEntry b.A,sl eEntry b.B,sl eEntry b.C]] []=some (B r,[]):=by
 rw [aa (af:=rf) rfl]
 unfold sA at h
 simp+decide only [rf,Ey,go_sem,reduceIte,Nat.reduceAdd]
 have d1:= @QN
 all_goals exact go
def qH (a2 b2:List Int):Int→Option ((Int)⊕(Unit⊕(Int×Bool)))
 |i=>
  br (decide (i<((a2.length:Nat):Int))) (
  (atL a2 i).bind fun x=>
  (atL b2 i).bind fun x2=>
  br (x !=x2) (
  some (.inr (.inl ()))) (
  some (.inl (wrap .i64 (i+1))))) (
  some (.inr (.inr (i,decide (i<((a2.length:Nat):Int))))))
abbrev FU (a2 b2:List Int) (s:Int):St:=⟨[(0,sl eI a2),(1,sl eI b2),(5,I s)],[]⟩
abbrev F1 (a2 b2:List Int):(Unit⊕(Int×Bool))→ah×St:=alt (fun e=>((.ret,⟨[(4,B false)],[]⟩):ah×St)) (fun e=>(.exit 0,⟨[(0,sl eI a2),(1,sl eI b2),(5,I e.1),(14,B e.2)],[]⟩))
theorem SR {a2 b2 s e} (h:Loop (qH a2 b2) s=some e):aq tab ow (.close []) xx (FU a2 b2 s)=some (F1 a2 b2 e):=by
 refine lrG (fun s o h=> ?_) h
 simp only [qH] at h
 simp+decide only [FU,F1,xx,go_sem,reduceIte,Nat.reduceAdd]
 all_goals exact go
def zG (a b:(List Int)):Option (Bool):=
 br (((a.length:Nat):Int) !=((b.length:Nat):Int)) (
 some false) (
 (Loop (qH a b) 0).bind (alt (fun e_2=>
 some false) (fun e_3=>
 some true)))
theorem Y8 {a b r} (h:zG a b=some r):Call tab ow 40 [sl eI a,sl eI b] []=some (B r,[]):=by
 rw [aa (af:=yb) rfl]
 unfold zG at h
 simp+decide only [yb,K8,go_sem,reduceIte,Nat.reduceAdd]
 have d1:= @SR
 all_goals exact go
def lM (a b:Ext):Option (Bool):=
 br (a.A !=b.A) (
 some false) (
 br (a.B !=b.B) (
 some false) (
 some true))
theorem Hh {a b r} (h:lM a b=some r):Call tab ow 122 [.agg [I a.A,I a.B],.agg [I b.A,I b.B]] []=some (B r,[]):=by
 rw [aa (af:=BC) rfl]
 unfold lM at h
 simp+decide only [BC,Qr,go_sem,reduceIte,Nat.reduceAdd]
 all_goals exact go
def xh (a2 b2:List Ext):Int→Option ((Int)⊕(Unit⊕(Int×Bool)))
 |i=>
  br (decide (i<((a2.length:Nat):Int))) (
  (atL a2 i).bind fun x=>
  (atL b2 i).bind fun x2=>
  (lM x x2).bind fun r_=>
  br (!r_) (
  some (.inr (.inl ()))) (
  some (.inl (wrap .i64 (i+1))))) (
  some (.inr (.inr (i,decide (i<((a2.length:Nat):Int))))))
abbrev Er (a2 b2:List Ext) (s:Int):St:=⟨[(0,sl eExt a2),(1,sl eExt b2),(5,I s)],[]⟩
abbrev El (a2 b2:List Ext):(Unit⊕(Int×Bool))→ah×St:=alt (fun e=>((.ret,⟨[(4,B false)],[]⟩):ah×St)) (fun e=>(.exit 0,⟨[(0,sl eExt a2),(1,sl eExt b2),(5,I e.1),(14,B e.2)],[]⟩))
theorem RT {a2 b2 s e} (h:Loop (xh a2 b2) s=some e):aq tab ow (.close [7008]) xL (Er a2 b2 s)=some (El a2 b2 e):=by
 refine lrG (fun s o h=> ?_) h
 simp only [xh] at h
 simp+decide only [Er,El,xL,go_sem,reduceIte,Nat.reduceAdd]
 have d1:= @Hh
 all_goals exact go
def oW (a b:(List Ext)):Option (Bool):=
 br (((a.length:Nat):Int) !=((b.length:Nat):Int)) (
 some false) (
 (Loop (xh a b) 0).bind (alt (fun e_2=>
 some false) (fun e_3=>
 some true)))
theorem Dr {a b r} (h:oW a b=some r):Call tab ow 124 [sl eExt a,sl eExt b] []=some (B r,[]):=by
 rw [aa (af:=xI) rfl]
 unfold oW at h
 simp+decide only [xI,Nd,go_sem,reduceIte,Nat.reduceAdd]
 have d1:= @RT
 all_goals exact go
def uZ (a2 b2:List (List Ext)):Int→Option ((Int)⊕(Unit⊕(Int×Bool)))
 |i=>
  br (decide (i<((a2.length:Nat):Int))) (
  (atL a2 i).bind fun x=>
  (atL b2 i).bind fun x2=>
  (oW x x2).bind fun r_=>
  br (!r_) (
  some (.inr (.inl ()))) (
  some (.inl (wrap .i64 (i+1))))) (
  some (.inr (.inr (i,decide (i<((a2.length:Nat):Int))))))
abbrev Dh (a2 b2:List (List Ext)) (s:Int):St:=⟨[(0,sl (eL eExt) a2),(1,sl (eL eExt) b2),(5,I s)],[]⟩
abbrev Cc (a2 b2:List (List Ext)):(Unit⊕(Int×Bool))→ah×St:=alt (fun e=>((.ret,⟨[(4,B false)],[]⟩):ah×St)) (fun e=>(.exit 0,⟨[(0,sl (eL eExt) a2),(1,sl (eL eExt) b2),(5,I e.1),(14,B e.2)],[]⟩))
theorem O9 {a2 b2 s e} (h:Loop (uZ a2 b2) s=some e):aq tab ow (.close [7008]) vE (Dh a2 b2 s)=some (Cc a2 b2 e):=by
 refine lrG (fun s o h=> ?_) h
 simp only [uZ] at h
 simp+decide only [Dh,Cc,vE,go_sem,reduceIte,Nat.reduceAdd]
 have d1:= @Dr
 all_goals exact go
def nv (a b:(List (List Ext))):Option (Bool):=
 br (((a.length:Nat):Int) !=((b.length:Nat):Int)) (
 some false) (
 (Loop (uZ a b) 0).bind (alt (fun e_2=>
 some false) (fun e_3=>
 some true)))
theorem HF {a b r} (h:nv a b=some r):Call tab ow 121 [sl (eL eExt) a,sl (eL eExt) b] []=some (B r,[]):=by
 rw [aa (af:=ux) rfl]
 unfold nv at h
 simp+decide only [ux,Iq,go_sem,reduceIte,Nat.reduceAdd]
 have d1:= @O9
 all_goals exact go
def kz (a2 b2:List (List UInt8)):Int→Option ((Int)⊕(Unit⊕(Int×Bool)))
 |i=>
  br (decide (i<((a2.length:Nat):Int))) (
  (atL a2 i).bind fun x=>
  (atL b2 i).bind fun x2=>
  br (x !=x2) (
  some (.inr (.inl ()))) (
  some (.inl (wrap .i64 (i+1))))) (
  some (.inr (.inr (i,decide (i<((a2.length:Nat):Int))))))
abbrev za (a2 b2:List (List UInt8)) (s:Int):St:=⟨[(0,sl eS a2),(1,sl eS b2),(5,I s)],[]⟩
abbrev zp (a2 b2:List (List UInt8)):(Unit⊕(Int×Bool))→ah×St:=alt (fun e=>((.ret,⟨[(4,B false)],[]⟩):ah×St)) (fun e=>(.exit 0,⟨[(0,sl eS a2),(1,sl eS b2),(5,I e.1),(14,B e.2)],[]⟩))
theorem Js {a2 b2 s e} (h:Loop (kz a2 b2) s=some e):aq tab ow (.close []) pO (za a2 b2 s)=some (zp a2 b2 e):=by
 refine lrG (fun s o h=> ?_) h
 simp only [kz] at h
 simp+decide only [za,zp,pO,go_sem,reduceIte,Nat.reduceAdd]
 all_goals exact go
def iX (a b:(List (List UInt8))):Option (Bool):=
 br (((a.length:Nat):Int) !=((b.length:Nat):Int)) (
 some false) (
 (Loop (kz a b) 0).bind (alt (fun e_2=>
 some false) (fun e_3=>
 some true)))
theorem De {a b r} (h:iX a b=some r):Call tab ow 229 [sl eS a,sl eS b] []=some (B r,[]):=by
 rw [aa (af:=nY) rfl]
 unfold iX at h
 simp+decide only [nY,Cq,go_sem,reduceIte,Nat.reduceAdd]
 have d1:= @Js
 all_goals exact go
def nu (a2 b2:List (List (List UInt8))):Int→Option ((Int)⊕(Unit⊕(Int×Bool)))
 |i=>
  br (decide (i<((a2.length:Nat):Int))) (
  (atL a2 i).bind fun x=>
  (atL b2 i).bind fun x2=>
  (iX x x2).bind fun r_=>
  br (!r_) (
  some (.inr (.inl ()))) (
  some (.inl (wrap .i64 (i+1))))) (
  some (.inr (.inr (i,decide (i<((a2.length:Nat):Int))))))
abbrev wV (a2 b2:List (List (List UInt8))) (s:Int):St:=⟨[(0,sl (eL eS) a2),(1,sl (eL eS) b2),(5,I s)],[]⟩
abbrev w7 (a2 b2:List (List (List UInt8))):(Unit⊕(Int×Bool))→ah×St:=alt (fun e=>((.ret,⟨[(4,B false)],[]⟩):ah×St)) (fun e=>(.exit 0,⟨[(0,sl (eL eS) a2),(1,sl (eL eS) b2),(5,I e.1),(14,B e.2)],[]⟩))
theorem GF {a2 b2 s e} (h:Loop (nu a2 b2) s=some e):aq tab ow (.close [7008]) nB (wV a2 b2 s)=some (w7 a2 b2 e):=by
 refine lrG (fun s o h=> ?_) h
 simp only [nu] at h
 simp+decide only [wV,w7,nB,go_sem,reduceIte,Nat.reduceAdd]
 have d1:= @De
 all_goals exact go
def lz (a b:(List (List (List UInt8)))):Option (Bool):=
 br (((a.length:Nat):Int) !=((b.length:Nat):Int)) (
 some false) (
 (Loop (nu a b) 0).bind (alt (fun e_2=>
 some false) (fun e_3=>
 some true)))
theorem L9 {a b r} (h:lz a b=some r):Call tab ow 352 [sl (eL eS) a,sl (eL eS) b] []=some (B r,[]):=by
 rw [aa (af:=lX) rfl]
 unfold lz at h
 simp+decide only [lX,A0,go_sem,reduceIte,Nat.reduceAdd]
 have d1:= @GF
 all_goals exact go
def rX (a b:Query):Option (Bool):=
 (oW a.Pairs b.Pairs).bind fun r_=>
 br (!r_) (
 some false) (
 (lz a.Paths b.Paths).bind fun r_2=>
 br (!r_2) (
 some false) (
 some true))
theorem Wo {a b r} (h:rX a b=some r):Call tab ow 318 [.agg [sl eExt a.Pairs,sl (eL eS) a.Paths],.agg [sl eExt b.Pairs,sl (eL eS) b.Paths]] []=some (B r,[]):=by
 rw [aa (af:=tK) rfl]
 unfold rX at h
 simp+decide only [tK,Iw,go_sem,reduceIte,Nat.reduceAdd]
 have d1:= @Dr
 have d2:= @L9
 all_goals exact go
def so (a2 b2:List Query):Int→Option ((Int)⊕(Unit⊕(Int×Bool)))
 |i=>
  br (decide (i<((a2.length:Nat):Int))) (
  (atL a2 i).bind fun x=>
  (atL b2 i).bind fun x2=>
  (rX x x2).bind fun r_=>
  br (!r_) (
  some (.inr (.inl ()))) (
  some (.inl (wrap .i64 (i+1))))) (
  some (.inr (.inr (i,decide (i<((a2.length:Nat):Int))))))
abbrev A2 (a2 b2:List Query) (s:Int):St:=⟨[(0,sl eQuery a2),(1,sl eQuery b2),(5,I s)],[]⟩
abbrev A1 (a2 b2:List Query):(Unit⊕(Int×Bool))→ah×St:=alt (fun e=>((.ret,⟨[(4,B false)],[]⟩):ah×St)) (fun e=>(.exit 0,⟨[(0,sl eQuery a2),(1,sl eQuery b2),(5,I e.1),(14,B e.2)],[]⟩))
theorem M9 {a2 b2 s e} (h:Loop (so a2 b2) s=some e):aq tab ow (.close [7008]) sV (A2 a2 b2 s)=some (A1 a2 b2 e):=by
 refine lrG (fun s o h=> ?_) h
 simp only [so] at h
 simp+decide only [A2,A1,sV,go_sem,reduceIte,Nat.reduceAdd]
 have d1:= @Wo
 all_goals exact go
def tx (a b:(List Query)):Option (Bool):=
 br (((a.length:Nat):Int) !=((b.length:Nat):Int)) (
 some false) (
 (Loop (so a b) 0).bind (alt (fun e_2=>
 some false) (fun e_3=>
 some true)))
theorem QZ {a b r} (h:tx a b=some r):Call tab ow 230 [sl eQuery a,sl eQuery b] []=some (B r,[]):=by
 rw [aa (af:=rI) rfl]
 unfold tx at h
 simp+decide only [rI,Fg,go_sem,reduceIte,Nat.reduceAdd]
 have d1:= @M9
 all_goals exact go
def oB (a b:Opening):Option (Bool):=
 (nv a.Rounds b.Rounds).bind fun r_=>
 br (!r_) (
 some false) (
 (iX a.Roots b.Roots).bind fun r_2=>
 br (!r_2) (
 some false) (
 (lM a.Last b.Last).bind fun r_3=>
 br (!r_3) (
 some false) (
 br (a.Nonce !=b.Nonce) (
 some false) (
 (tx a.Queries b.Queries).bind fun r_4=>
 br (!r_4) (
 some false) (
 some true)))))
theorem O8 {a b r} (h:oB a b=some r):Call tab ow 123 [.agg [sl (eL eExt) a.Rounds,sl eS a.Roots,I a.Last.A,I a.Last.B,I a.Nonce,sl eQuery a.Queries],.agg [sl (eL eExt) b.Rounds,sl eS b.Roots,I b.Last.A,I b.Last.B,I b.Nonce,sl eQuery b.Queries]] []=some (B r,[]):=by
 rw [aa (af:=oc) rfl]
 unfold oB at h
 simp+decide only [oc,Ch,go_sem,reduceIte,Nat.reduceAdd]
 have d1:= @HF
 have d2:= @De
 have d3:= @Hh
 have d4:= @QZ
 all_goals exact go
def wY (a b:Proof):Option (Bool):=
 br (a.Root !=b.Root) (
 some false) (
 (nv a.Gates b.Gates).bind fun r_=>
 br (!r_) (
 some false) (
 (lM a.VA b.VA).bind fun r_2=>
 br (!r_2) (
 some false) (
 (lM a.VB b.VB).bind fun r_3=>
 br (!r_3) (
 some false) (
 (lM a.VC b.VC).bind fun r_4=>
 br (!r_4) (
 some false) (
 (nv a.Wires b.Wires).bind fun r_5=>
 br (!r_5) (
 some false) (
 (lM a.VW b.VW).bind fun r_6=>
 br (!r_6) (
 some false) (
 (oB a.Open b.Open).bind fun r_7=>
 br (!r_7) (
 some false) (
 some true))))))))
theorem Ui {a b r} (h:wY a b=some r):Call tab ow 41 [.agg [S a.Root,sl (eL eExt) a.Gates,I a.VA.A,I a.VA.B,I a.VB.A,I a.VB.B,I a.VC.A,I a.VC.B,sl (eL eExt) a.Wires,I a.VW.A,I a.VW.B,sl (eL eExt) a.Open.Rounds,sl eS a.Open.Roots,I a.Open.Last.A,I a.Open.Last.B,I a.Open.Nonce,sl eQuery a.Open.Queries],.agg [S b.Root,sl (eL eExt) b.Gates,I b.VA.A,I b.VA.B,I b.VB.A,I b.VB.B,I b.VC.A,I b.VC.B,sl (eL eExt) b.Wires,I b.VW.A,I b.VW.B,sl (eL eExt) b.Open.Rounds,sl eS b.Open.Roots,I b.Open.Last.A,I b.Open.Last.B,I b.Open.Nonce,sl eQuery b.Open.Queries]] []=some (B r,[]):=by
 rw [aa (af:=uo) rfl]
 unfold wY at h
 simp+decide only [uo,HI,go_sem,reduceIte,Nat.reduceAdd]
 have d1:= @HF
 have d2:= @Hh
 have d3:= @O8
 all_goals exact go
def sv (a b:Source):Option (Bool):=
 (oW a.Script b.Script).bind fun r_=>
 br (!r_) (
 some false) (
 br (a.At !=b.At) (
 some false) (
 br (a.State !=b.State) (
 some false) (
 br (a.Count !=b.Count) (
 some false) (
 some true))))
theorem Se {a b r} (h:sv a b=some r):Call tab ow 42 [.agg [sl eExt a.Script,I a.At,S a.State,I a.Count],.agg [sl eExt b.Script,I b.At,S b.State,I b.Count]] []=some (B r,[]):=by
 rw [aa (af:=qO) rfl]
 unfold sv at h
 simp+decide only [qO,ER,go_sem,reduceIte,Nat.reduceAdd]
 have d1:= @Dr
 all_goals exact go
def ko (ListtoArray:System) (a:Setting) (a2:(List Int)) (a3:Proof) (a4:Source):Option (Bool):=
 br (decide (((a2.length:Nat):Int)>1048576)) (
 some true) (
 (sU ListtoArray 1048576).bind fun r_=>
 br (decide (r_<0)) (
 some true) (
 (wH a3 r_).bind fun r_2=>
 br (decide (r_2<0)) (
 some true) (
 (ta a4 r_2).bind fun r_3=>
 br (decide (r_3<0)) (
 some true) (
 (l8 ListtoArray).bind fun r_4=>
 (oy a).bind fun r_5=>
 (sj a2).bind fun r_6=>
 (mU a3).bind fun r_7=>
 (kQ a4).bind fun r_8=>
 (AV r_4 r_5 r_6 r_7 r_8).bind fun r_9=>
 (l8 ListtoArray).bind fun r_10=>
 (sj a2).bind fun r_11=>
 (mU a3).bind fun r_12=>
 (kQ a4).bind fun r_13=>
 (oy a).bind fun r_14=>
 (Ar r_10 r_14 r_11 r_12 r_13).bind fun r_15=>
 br (r_15.1 !=r_9.1) (
 some false) (
 br (r_15.2 !=r_9.2) (
 some false) (
 (l8 ListtoArray).bind fun r_16=>
 (sA r_10 r_16).bind fun r_17=>
 br (!r_17) (
 some false) (
 (sj a2).bind fun r_18=>
 (zG r_11 r_18).bind fun r_19=>
 br (!r_19) (
 some false) (
 (mU a3).bind fun r_20=>
 (wY r_12 r_20).bind fun r_21=>
 br (!r_21) (
 some false) (
 (kQ a4).bind fun r_22=>
 (sv r_13 r_22).bind fun r_23=>
 br (!r_23) (
 some false) (
 some true))))))))))
theorem w_FnExactVerify_c {ListtoArray a a2 a3 a4 r} (h:ko ListtoArray a a2 a3 a4=some r):Call tab ow 5 [.agg [I ListtoArray.Rows,I ListtoArray.Cols,I ListtoArray.Publics,sl eEntry ListtoArray.A,sl eEntry ListtoArray.B,sl eEntry ListtoArray.C],.agg [I a.Rate,I a.Queries,I a.Grind],sl eI a2,.agg [S a3.Root,sl (eL eExt) a3.Gates,I a3.VA.A,I a3.VA.B,I a3.VB.A,I a3.VB.B,I a3.VC.A,I a3.VC.B,sl (eL eExt) a3.Wires,I a3.VW.A,I a3.VW.B,sl (eL eExt) a3.Open.Rounds,sl eS a3.Open.Roots,I a3.Open.Last.A,I a3.Open.Last.B,I a3.Open.Nonce,sl eQuery a3.Open.Queries],.agg [sl eExt a4.Script,I a4.At,S a4.State,I a4.Count]] []=some (B r,[]):=by
 rw [aa (af:=a_w_FnExactVerify) rfl]
 unfold ko at h
 simp+decide only [a_w_FnExactVerify,uy,go_sem,reduceIte,Nat.reduceAdd]
 have d1:= @RL
 have d2:= @W4
 have d3:= @TR
 have d4:= @SL
 have d5:= @OR
 have d6:= @Z9
 have d7:= @Ud
 have d8:= @S7
 have d9:= @YK
 have d10:= @Zf
 have d11:= @Tp
 have d12:= @Y8
 have d13:= @Ui
 have d14:= @Se
 all_goals exact go
end
end Go.AI.Fn
