/- Walks through the program, with open values. -/
import Derived.Test.YtdmhkkcihecndaaStr
set_option linter.unusedVariables false
set_option linter.unusedSimpArgs false
set_option maxRecDepth 100000
set_option maxHeartbeats 1000000
namespace Go.AI.Fn
noncomputable section
open IntKind (wrap)
def ot (n low high:Int):Option (Bool):=
 br (decide (low≤n)) (
 some (decide (n≤high))) (
 some false)
theorem rY {n low high r} (h:ot n low high=some r):Call tab ow 62 [I n,I low,I high] []=some (B r,[]):=by
 rw [ab (af:=AO) rfl]
 unfold ot at h
 simp only [AO,Lv]
 exact go2
def ir (a:Int):Option (Bool):=
 (ot a 0 2130706432).bind fun r_=>
 some r_
theorem uR {a r} (h:ir a=some r):Call tab ow 64 [I a] []=some (B r,[]):=by
 rw [ab (af:=lv) rfl]
 unfold ir at h
 simp only [lv,uN]
 have d1:= @rY
 exact go2
def sR (a:Ext):Option (Bool):=
 (ir a.A).bind fun r_=>
 br r_ (
 (ir a.B).bind fun r_2=>
 some r_2) (
 some false)
theorem Ha {a r} (h:sR a=some r):Call tab ow 67 [.agg [I a.A,I a.B]] []=some (B r,[]):=by
 rw [ab (af:=qh) rfl]
 unfold sR at h
 simp only [qh,zn]
 have d1:= @uR
 exact go2
def cD (x:Ext):Option (Bool):=
 (sR x).bind fun r_=>
 some (!r_)
theorem ou {x r} (h:cD x=some r):Call tab ow 128 [.agg [I x.A,I x.B],.ptr 0 0 0 1] [⟨1,true,[[.fn 67 []]]⟩]=some (B r,[⟨1,true,[[.fn 67 []]]⟩]):=by
 rw [ab (af:=fT) rfl]
 unfold cD at h
 simp only [fT,nY]
 have d1:= @Ha
 exact go2
def aw (s2:List Ext) (t:Int):Int→Option ((Int)⊕(Int⊕(Int×Bool)))
 |t2=>
  br (decide (t2<t)) (
  (atL s2 t2).bind fun x=>
  (cD x).bind fun r_=>
  br r_ (
  some (.inr (.inl t2))) (
  some (.inl (wrap .i64 (t2+1))))) (
  some (.inr (.inr (t2,decide (t2<t)))))
abbrev bn (s2:List Ext) (t s:Int):St:=⟨[(0,sl eExt s2),(1,.fn 128 [.ptr 0 0 0 1]),(7,I t),(8,I s)],[(0,⟨1,true,[[.fn 67 []]]⟩)]⟩
abbrev bj (s2:List Ext) (t:Int):(Int⊕(Int×Bool))→al×St:=alt (fun e=>((.ret,⟨[(4,I e)],[(0,⟨1,true,[[.fn 67 []]]⟩)]⟩):al×St)) (fun e=>(.exit 0,⟨[(0,sl eExt s2),(1,.fn 128 [.ptr 0 0 0 1]),(7,I t),(8,I e.1),(9,B e.2)],[(0,⟨1,true,[[.fn 67 []]]⟩)]⟩))
theorem cO {s2 t s e} (h:Loop (aw s2 t) s=some e):aX tab ow (.close [5005]) dk (bn s2 t s)=some (bj s2 t e):=by
 refine lrG (fun s o h=> ?_) h
 simp only [aw] at h
 simp only [bn,bj,dk,dl]
 have d1:= @ou
 exact go2
def aE (s:(List Ext)):Option (Int):=
 (Loop (aw s ((s.length:Nat):Int)) 0).bind (alt (fun e_2=>
 some e_2) (fun e_3=>
 some (-1:Int)))
theorem dj {s r} (h:aE s=some r):Call tab ow 184 [sl eExt s,.fn 128 [.ptr 0 0 0 1]] [⟨1,true,[[.fn 67 []]]⟩]=some (I r,[⟨1,true,[[.fn 67 []]]⟩]):=by
 rw [ab (af:=bo) rfl]
 unfold aE at h
 simp only [bo,cf]
 have d1:= @cO
 exact go2
def aB (s:(List Ext)):Option (Bool):=
 (aE s).bind fun r_=>
 some (decide (r_≥0))
theorem cH {s r} (h:aB s=some r):Call tab ow 127 [sl eExt s,.fn 128 [.ptr 0 0 0 1]] [⟨1,true,[[.fn 67 []]]⟩]=some (B r,[⟨1,true,[[.fn 67 []]]⟩]):=by
 rw [ab (af:=bc) rfl]
 unfold aB at h
 simp only [bc,db]
 have d1:= @dj
 exact go2
def du (list:(List Ext)):Option (Bool):=
 (aB list).bind fun r_=>
 some (!r_)
theorem qF {list r} (h:du list=some r):Call tab ow 66 [.fn 67 [],sl eExt list] []=some (B r,[]):=by
 rw [ab (af:=iA) rfl]
 unfold du at h
 simp only [iA,qN]
 have d1:= @cH
 exact go2
def ci (l:List Ext):Option (List Ext):=br (dC l.length 16) (some l) none
theorem kh (x:Ext) (l:List Ext) (hf:dC (x::l).length 16=true):Call (tV 174 aj) ul 174 [sl eExt (x::l)] []=some (.sl 0 0 (x::l).length,[⟨2,false,rws eExt (x::l)⟩]):=by
 rw [ab (af:=aj) (tK _ _)]
 rw [List.length_cons] at hf
 simp+decide only [aj,cK,fun k=>mk0 eExt k,DQ,go_sem,reduceIte,Nat.reduceAdd,hf]
theorem jX {l r:List Ext} (h:ci l=some r):Call tab ow 174 [sl eExt l] []=some (.sl 0 0 r.length,[⟨2,false,rws eExt r⟩]):=by
 unfold ci at h
 obtain ⟨hb,h⟩:=brg h
 cases h
 rw [Km (g:=B3 174 aj 2) rfl]
 cases l with
 |nil=>rfl
 |cons x l=>exact kh x l hb
def dg (n low high:Int):Option (Bool):=
 br (decide (low≤n)) (
 some (decide (n≤high))) (
 some false)
theorem mR {n low high r} (h:dg n low high=some r):Call tab ow 72 [I n,I low,I high] []=some (B r,[]):=by
 rw [ab (af:=pW) rfl]
 unfold dg at h
 simp only [pW,zq]
 exact go2
def gu (a:Int):Option (Bool):=
 (dg a 0 2130706432).bind fun r_=>
 some r_
theorem uL {a r} (h:gu a=some r):Call tab ow 186 [I a] []=some (B r,[]):=by
 rw [ab (af:=ln) rfl]
 unfold gu at h
 simp only [ln,uI]
 have d1:= @mR
 exact go2
def pU (a:Ext):Option (Bool):=
 (gu a.A).bind fun r_=>
 br r_ (
 (gu a.B).bind fun r_2=>
 some r_2) (
 some false)
theorem Il {a r} (h:pU a=some r):Call tab ow 135 [.agg [I a.A,I a.B]] []=some (B r,[]):=by
 rw [ab (af:=pN) rfl]
 unfold pU at h
 simp only [pN,zs]
 have d1:= @uL
 exact go2
def lC (list2:List Ext):Int→Option ((Int)⊕(Unit⊕(Int×Bool)))
 |i=>
  br (decide (i<((list2.length:Nat):Int))) (
  (atL list2 i).bind fun x=>
  (pU x).bind fun r_=>
  br (!r_) (
  some (.inr (.inl ()))) (
  some (.inl (wrap .i64 (i+1))))) (
  some (.inr (.inr (i,decide (i<((list2.length:Nat):Int))))))
abbrev rb (list2:List Ext) (s:Int):St:=⟨[(0,sl eExt list2),(3,I s)],[]⟩
abbrev qM (list2:List Ext):(Unit⊕(Int×Bool))→al×St:=alt (fun e=>((.ret,⟨[(2,B false)],[]⟩):al×St)) (fun e=>(.exit 0,⟨[(0,sl eExt list2),(3,I e.1),(7,B e.2)],[]⟩))
theorem ya {list2 s e} (h:Loop (lC list2) s=some e):aX tab ow (.close [5004]) rE (rb list2 s)=some (qM list2 e):=by
 refine lrG (fun s o h=> ?_) h
 simp only [lC] at h
 simp only [rb,qM,rE,rK]
 have d1:= @Il
 exact go2
def lU (list:(List Ext)):Option (Bool):=
 (Loop (lC list) 0).bind (alt (fun e_2=>
 some false) (fun e_3=>
 some true))
theorem Ch {list r} (h:lU list=some r):Call tab ow 91 [sl eExt list] []=some (B r,[]):=by
 rw [ab (af:=lx) rfl]
 unfold lU at h
 simp only [lx,pu]
 have d1:= @ya
 exact go2
def gg (a:Setting):Option (Setting):=
 some a
theorem z3 {a r} (h:gg a=some r):Call tab ow 19 [.agg [I a.Rate,I a.Queries,I a.Grind]] []=some (.agg [I r.Rate,I r.Queries,I r.Grind],[]):=by
 rw [ab (af:=iy) rfl]
 unfold gg at h
 simp only [iy,rz]
 exact go2
def j4 (t:Setting):Option (Bool):=
 (dg t.Rate 1 3).bind fun r_=>
 br r_ (
 (dg t.Queries 1 8).bind fun r_2=>
 br r_2 (
 (dg t.Grind 0 12).bind fun r_3=>
 some r_3) (
 some false)) (
 some false)
theorem yl {t r} (h:j4 t=some r):Call tab ow 71 [.agg [I t.Rate,I t.Queries,I t.Grind]] []=some (B r,[]):=by
 rw [ab (af:=iz) rfl]
 unfold j4 at h
 simp only [iz,rg]
 have d1:= @mR
 exact go2
def j6 (t:Setting):Option (Bool):=
 (ot t.Rate 1 3).bind fun r_=>
 br r_ (
 (ot t.Queries 1 8).bind fun r_2=>
 br r_2 (
 (ot t.Grind 0 12).bind fun r_3=>
 some r_3) (
 some false)) (
 some false)
theorem yX {t r} (h:j6 t=some r):Call tab ow 136 [.agg [I t.Rate,I t.Queries,I t.Grind]] []=some (B r,[]):=by
 rw [ab (af:=iE) rfl]
 unfold j6 at h
 simp only [iE,qQ]
 have d1:= @rY
 exact go2
def pn (h_:(List UInt8)):Option (Bool):=
 some (((h_.length:Nat):Int)==32)
theorem EX {h_ r} (h:pn h_=some r):Call tab ow 144 [S h_] []=some (B r,[]):=by
 rw [ab (af:=n6) rfl]
 unfold pn at h
 simp only [n6,w8]
 exact go2
def q9 (a b:Ext):Option (Bool):=
 br (a.A !=b.A) (
 some false) (
 br (a.B !=b.B) (
 some false) (
 some true))
theorem IT {a b r} (h:q9 a b=some r):Call tab ow 81 [.agg [I a.A,I a.B],.agg [I b.A,I b.B]] []=some (B r,[]):=by
 rw [ab (af:=pS) rfl]
 unfold q9 at h
 simp only [pS,zH]
 exact go2
def nm (a2 b2:List Ext):Int→Option ((Int)⊕(Unit⊕(Int×Bool)))
 |i=>
  br (decide (i<((a2.length:Nat):Int))) (
  (atL a2 i).bind fun x=>
  (atL b2 i).bind fun x2=>
  (q9 x x2).bind fun r_=>
  br (!r_) (
  some (.inr (.inl ()))) (
  some (.inl (wrap .i64 (i+1))))) (
  some (.inr (.inr (i,decide (i<((a2.length:Nat):Int))))))
abbrev sW (a2 b2:List Ext) (s:Int):St:=⟨[(0,sl eExt a2),(1,sl eExt b2),(5,I s)],[]⟩
abbrev sY (a2 b2:List Ext):(Unit⊕(Int×Bool))→al×St:=alt (fun e=>((.ret,⟨[(4,B false)],[]⟩):al×St)) (fun e=>(.exit 0,⟨[(0,sl eExt a2),(1,sl eExt b2),(5,I e.1),(14,B e.2)],[]⟩))
theorem AS {a2 b2 s e} (h:Loop (nm a2 b2) s=some e):aX tab ow (.close [7008]) tj (sW a2 b2 s)=some (sY a2 b2 e):=by
 refine lrG (fun s o h=> ?_) h
 simp only [nm] at h
 simp only [sW,sY,tj,sV]
 have d1:= @IT
 exact go2
def pt (a b:(List Ext)):Option (Bool):=
 br (((a.length:Nat):Int) !=((b.length:Nat):Int)) (
 some false) (
 (Loop (nm a b) 0).bind (alt (fun e_2=>
 some false) (fun e_3=>
 some true)))
theorem Ex {a b r} (h:pt a b=some r):Call tab ow 33 [sl eExt a,sl eExt b] []=some (B r,[]):=by
 rw [ab (af:=nP) rfl]
 unfold pt at h
 simp only [nP,rW]
 have d1:= @AS
 exact go2
def gc (a:(List Entry)) (left:Int):Option (Int):=
 br (decide ((wrap .i64 (left-((a.length:Nat):Int)))<0)) (
 some (-1:Int)) (
 some (wrap .i64 (left-((a.length:Nat):Int))))
theorem A8 {a left r} (h:gc a left=some r):Call tab ow 89 [sl eEntry a,I left] []=some (I r,[]):=by
 rw [ab (af:=k9) rfl]
 unfold gc at h
 simp only [k9,tw]
 exact go2
def kZ (a:System) (left:Int):Option (Int):=
 (gc a.A left).bind fun r_=>
 br (decide (r_<0)) (
 some (-1:Int)) (
 (gc a.B r_).bind fun r_2=>
 br (decide (r_2<0)) (
 some (-1:Int)) (
 (gc a.C r_2).bind fun r_3=>
 br (decide (r_3<0)) (
 some (-1:Int)) (
 some r_3)))
theorem AQ {a left r} (h:kZ a left=some r):Call tab ow 26 [.agg [I a.Rows,I a.Cols,I a.Publics,sl eEntry a.A,sl eEntry a.B,sl eEntry a.C],I left] []=some (I r,[]):=by
 rw [ab (af:=jU) rfl]
 unfold kZ at h
 simp only [jU,sT]
 have d1:= @A8
 exact go2
def px (a:(List Ext)) (left:Int):Option (Int):=
 br (decide ((wrap .i64 (left-((a.length:Nat):Int)))<0)) (
 some (-1:Int)) (
 some (wrap .i64 (left-((a.length:Nat):Int))))
theorem FA {a left r} (h:px a left=some r):Call tab ow 27 [sl eExt a,I left] []=some (I r,[]):=by
 rw [ab (af:=ng) rfl]
 unfold px at h
 simp only [ng,xF]
 exact go2
def qa (a:Entry):Option (Entry):=
 some a
theorem Ct {a r} (h:qa a=some r):Call tab ow 154 [.agg [I a.Row,I a.Col,I a.Value]] []=some (.agg [I r.Row,I r.Col,I r.Value],[]):=by
 rw [ab (af:=lk) rfl]
 unfold qa at h
 simp only [lk,uA]
 exact go2
section
theorem yB: ∀k,yx 2002 k [I (0:Int),I (0:Int),I (0:Int)]=rws eEntry (List.replicate k (Entry.mk (0:Int) (0:Int) (0:Int))):=fun _=>T9 eEntry (Entry.mk (0:Int) (0:Int) (0:Int)) _ _
attribute [local go_sem] yB
def fa (a2:List Entry):(List Entry)×Int→Option (((List Entry)×Int)⊕(((List Entry)×Int×Bool)))
 | (l,i)=>
   br (decide (i<((a2.length:Nat):Int))) (
   (atL a2 i).bind fun x=>
   (qa x).bind fun r_=>
   br (decide (0≤i)) (
   br (decide (i.toNat<l.length)) (
   (l[i.toNat]?).bind fun x2=>
   some (.inl ((l.set i.toNat r_),(wrap .i64 (i+1))))) none) none) (
   some (.inr (l,i,decide (i<((a2.length:Nat):Int)))))
abbrev p7 (a2:List Entry) (s:(List Entry)×Int):St:=⟨[(0,sl eEntry a2),(3,.sl 2002 0 s.1.length),(4,I s.2)],[(2002,⟨3,false,rws eEntry s.1⟩)]⟩
abbrev oB (a2:List Entry):((List Entry)×Int×Bool)→al×St:=fun e=>(.exit 0,⟨[(0,sl eEntry a2),(3,.sl 2002 0 e.1.length),(4,I e.2.1),(11,B e.2.2)],[(2002,⟨3,false,rws eEntry e.1⟩)]⟩)
theorem wh {a2 s e} (h:Loop (fa a2) s=some e):aX tab ow (.close [6006]) oU (p7 a2 s)=some (oB a2 e):=by
 refine lrG (fun s o h=> ?_) h
 obtain ⟨_,_⟩:=s
 simp only [fa] at h
 simp only [p7,oB,oU,pp]
 have d1:= @Ct
 exact go2
def g6 (a:(List Entry)):Option ((List Entry)):=
 br (vt ((a.length:Nat):Int) ((a.length:Nat):Int) 24) (
 (Loop (fa a) ((List.replicate (((a.length:Nat):Int).toNat) (Entry.mk (0:Int) (0:Int) (0:Int))),(0:Int))).bind fun e_=>
 some e_.1) none
theorem AG {a r} (h:g6 a=some r):Call tab ow 93 [sl eEntry a] []=some (.sl 0 0 r.length,[⟨3,false,rws eEntry r⟩]):=by
 rw [ab (af:=kj) rfl]
 unfold g6 at h
 simp only [kj,nD]
 have d1:= @wh
 exact go2
end
def dU (a:System):Option (Int×Int×Int×(List Entry)×(List Entry)×(List Entry)):=
 (g6 a.A).bind fun r_=>
 (g6 a.B).bind fun r_2=>
 (g6 a.C).bind fun r_3=>
 some (a.Rows,a.Cols,a.Publics,r_,r_2,r_3)
theorem yI {a r} (h:dU a=some r):Call tab ow 29 [.agg [I a.Rows,I a.Cols,I a.Publics,sl eEntry a.A,sl eEntry a.B,sl eEntry a.C]] []=some (.agg [I r.1,I r.2.1,I r.2.2.1,.sl 0 0 r.2.2.2.1.length,.sl 1 0 r.2.2.2.2.1.length,.sl 2 0 r.2.2.2.2.2.length],[⟨3,false,rws eEntry r.2.2.2.1⟩,⟨3,false,rws eEntry r.2.2.2.2.1⟩,⟨3,false,rws eEntry r.2.2.2.2.2⟩]):=by
 rw [ab (af:=iP) rfl]
 unfold dU at h
 simp only [iP,qK]
 have d1:= @AG
 exact go2
def vE (a:Ext):Option (Ext):=
 some a
theorem Hw {a r} (h:vE a=some r):Call tab ow 31 [.agg [I a.A,I a.B]] []=some (.agg [I r.A,I r.B],[]):=by
 rw [ab (af:=pP) rfl]
 unfold vE at h
 simp only [pP,zp]
 exact go2
section
theorem Dt: ∀k,yx 2002 k [I (0:Int),I (0:Int)]=rws eExt (List.replicate k (Ext.mk (0:Int) (0:Int))):=fun _=>T9 eExt (Ext.mk (0:Int) (0:Int)) _ _
attribute [local go_sem] Dt
def jO (a2:List Ext):(List Ext)×Int→Option (((List Ext)×Int)⊕(((List Ext)×Int×Bool)))
 | (l,i)=>
   br (decide (i<((a2.length:Nat):Int))) (
   (atL a2 i).bind fun x=>
   (vE x).bind fun r_=>
   br (decide (0≤i)) (
   br (decide (i.toNat<l.length)) (
   (l[i.toNat]?).bind fun x2=>
   some (.inl ((l.set i.toNat r_),(wrap .i64 (i+1))))) none) none) (
   some (.inr (l,i,decide (i<((a2.length:Nat):Int)))))
abbrev tF (a2:List Ext) (s:(List Ext)×Int):St:=⟨[(0,sl eExt a2),(3,.sl 2002 0 s.1.length),(4,I s.2)],[(2002,⟨2,false,rws eExt s.1⟩)]⟩
abbrev sx (a2:List Ext):((List Ext)×Int×Bool)→al×St:=fun e=>(.exit 0,⟨[(0,sl eExt a2),(3,.sl 2002 0 e.1.length),(4,I e.2.1),(11,B e.2.2)],[(2002,⟨2,false,rws eExt e.1⟩)]⟩)
theorem Az {a2 s e} (h:Loop (jO a2) s=some e):aX tab ow (.close [6006]) sF (tF a2 s)=some (sx a2 e):=by
 refine lrG (fun s o h=> ?_) h
 obtain ⟨_,_⟩:=s
 simp only [jO] at h
 simp only [tF,sx,sF,sE]
 have d1:= @Hw
 exact go2
def pF (a:(List Ext)):Option ((List Ext)):=
 br (vt ((a.length:Nat):Int) ((a.length:Nat):Int) 16) (
 (Loop (jO a) ((List.replicate (((a.length:Nat):Int).toNat) (Ext.mk (0:Int) (0:Int))),(0:Int))).bind fun e_=>
 some e_.1) none
theorem Fc {a r} (h:pF a=some r):Call tab ow 30 [sl eExt a] []=some (.sl 0 0 r.length,[⟨2,false,rws eExt r⟩]):=by
 rw [ab (af:=nj) rfl]
 unfold pF at h
 simp only [nj,s3]
 have d1:= @Az
 exact go2
end
def fO (ListtoArray2:List Entry) (t t2:Int):Int→Option ((Int)⊕((Int×Int×Int)⊕(Int×Bool)))
 |t3=>
  br (decide (t3<((ListtoArray2.length:Nat):Int))) (
  (atL ListtoArray2 t3).bind fun x=>
  br (decide (0≤(wrap .u64 t))) (
  (dg x.Row 0 (wrap .i64 ((bf .i64 1 (wrap .u64 t))-1))).bind fun r_=>
  br (!r_) (
  some (.inr (.inl (x.Row,x.Col,x.Value)))) (
  br (decide (0≤(wrap .u64 t2))) (
  (dg x.Col 0 (wrap .i64 ((bf .i64 1 (wrap .u64 t2))-1))).bind fun r_2=>
  br (!r_2) (
  some (.inr (.inl (x.Row,x.Col,x.Value)))) (
  (dg x.Value 1 2130706432).bind fun r_3=>
  br (!r_3) (
  some (.inr (.inl (x.Row,x.Col,x.Value)))) (
  br (decide (t3>0)) (
  (atL ListtoArray2 (wrap .i64 (t3-1))).bind fun x2=>
  br (decide (x2.Row>x.Row)) (
  some (.inr (.inl (x.Row,x.Col,x.Value)))) (
  (atL ListtoArray2 (wrap .i64 (t3-1))).bind fun x3=>
  br (x3.Row==x.Row) (
  (atL ListtoArray2 (wrap .i64 (t3-1))).bind fun x4=>
  br (decide (x4.Col≥x.Col)) (
  some (.inr (.inl (x.Row,x.Col,x.Value)))) (
  some (.inl (wrap .i64 (t3+1))))) (
  some (.inl (wrap .i64 (t3+1)))))) (
  some (.inl (wrap .i64 (t3+1))))))) none)) none) (
  some (.inr (.inr (t3,decide (t3<((ListtoArray2.length:Nat):Int))))))
abbrev rJ (ListtoArray2:List Entry) (t t2 s:Int):St:=⟨[(0,sl eEntry ListtoArray2),(1,I t),(2,I t2),(7,I s)],[]⟩
abbrev qV (ListtoArray2:List Entry) (t t2:Int):((Int×Int×Int)⊕(Int×Bool))→al×St:=alt (fun e=>((.ret,⟨[(6,B false)],[(7004,⟨3,true,[[I e.1,I e.2.1,I e.2.2]]⟩)]⟩):al×St)) (fun e=>(.exit 0,⟨[(0,sl eEntry ListtoArray2),(1,I t),(2,I t2),(7,I e.1),(15,B e.2)],[]⟩))
theorem yL {ListtoArray2 t t2 s e} (h:Loop (fO ListtoArray2 t t2) s=some e):aX tab ow (.close [7004,8006,8015,8021]) qU (rJ ListtoArray2 t t2 s)=some (qV ListtoArray2 t t2 e):=by
 refine lrG (fun s o h=> ?_) h
 simp only [fO] at h
 simp only [rJ,qV,qU,qY]
 have d1:= @mR
 exact go2
def i8 (ListtoArray:(List Entry)) (a a2:Int):Option (Bool):=
 br (decide (((ListtoArray.length:Nat):Int)>200)) (
 some false) (
 (Loop (fO ListtoArray a a2) 0).bind (alt (fun e_2=>
 some false) (fun e_3=>
 some true)))
theorem Cx {ListtoArray a a2 r} (h:i8 ListtoArray a a2=some r):Call tab ow 152 [sl eEntry ListtoArray,I a,I a2] []=some (B r,[]):=by
 rw [ab (af:=lc) rfl]
 unfold i8 at h
 simp only [lc,pq]
 have d1:= @yL
 exact go2
def kK (s:System):Option (Bool):=
 (dg s.Rows 1 5).bind fun r_=>
 br r_ (
 (dg s.Cols 2 5).bind fun r_2=>
 br r_2 (
 br (decide (0≤(wrap .u64 (wrap .i64 (s.Cols-1))))) (
 (dg s.Publics 0 (wrap .i64 ((bf .i64 1 (wrap .u64 (wrap .i64 (s.Cols-1))))-1))).bind fun r_3=>
 br r_3 (
 (i8 s.A s.Rows s.Cols).bind fun r_4=>
 br r_4 (
 (i8 s.B s.Rows s.Cols).bind fun r_5=>
 br r_5 (
 (i8 s.C s.Rows s.Cols).bind fun r_6=>
 some r_6) (
 some false)) (
 some false)) (
 some false)) none) (
 some false)) (
 some false)
theorem Ba {s r} (h:kK s=some r):Call tab ow 90 [.agg [I s.Rows,I s.Cols,I s.Publics,sl eEntry s.A,sl eEntry s.B,sl eEntry s.C]] []=some (B r,[]):=by
 rw [ab (af:=jJ) rfl]
 unfold kK at h
 simp only [jJ,th]
 have d1:= @mR
 have d2:= @Cx
 exact go2
def iV (s:System):Option (Int):=
 br (decide (0≤(wrap .i64 (s.Cols-1)))) (
 some (bf .i64 1 (wrap .i64 (s.Cols-1)))) none
theorem v7 {s r} (h:iV s=some r):Call tab ow 155 [.agg [I s.Rows,I s.Cols,I s.Publics,sl eEntry s.A,sl eEntry s.B,sl eEntry s.C]] []=some (I r,[]):=by
 rw [ab (af:=fV) rfl]
 unfold iV at h
 simp only [fV,o1]
 exact go2
def cu (s:System):Option (((List Entry)×(List Entry)×(List Entry))):=
 some (s.A,s.B,s.C)
theorem jC {s r} (h:cu s=some r):Call tab ow 156 [.agg [I s.Rows,I s.Cols,I s.Publics,sl eEntry s.A,sl eEntry s.B,sl eEntry s.C]] []=some (.agg [sl eEntry r.1,sl eEntry r.2.1,sl eEntry r.2.2],[]):=by
 rw [ab (af:=dE) rfl]
 unfold cu at h
 simp only [dE,js]
 exact go2
def fJ (x:Int):Option (Bool):=
 some (x !=x)
theorem vq {x r} (h:fJ x=some r):Call tab ow 222 [I x] []=some (B r,[]):=by
 rw [ab (af:=fU) rfl]
 unfold fJ at h
 simp only [fU,o6]
 exact go2
def dp (x y:Int):Option (Int):=
 (fJ x).bind fun r_=>
 (fJ y).bind fun r_2=>
 br r_ (
 br r_2 (
 some 0) (
 some (-1:Int))) (
 br r_2 (
 some 1) (
 br (decide (x<y)) (
 some (-1:Int)) (
 br (decide (x>y)) (
 some 1) (
 some 0))))
theorem sj {x y r} (h:dp x y=some r):Call tab ow 215 [I x,I y] []=some (I r,[]):=by
 rw [ab (af:=eF) rfl]
 unfold dp at h
 simp only [eF,lj]
 have d1:= @vq
 exact go2
def bU (zero:Int) (t:List Int) (t2:Int):Int→Option ((Int)⊕(Int⊕(Int×Bool)))
 |t3=>
  br (decide (t3<t2)) (
  (atL t t3).bind fun x=>
  br (x !=zero) (
  some (.inr (.inl x))) (
  some (.inl (wrap .i64 (t3+1))))) (
  some (.inr (.inr (t3,decide (t3<t2)))))
abbrev oR (zero:Int) (t:List Int) (t2 s:Int):St:=⟨[(3,I zero),(6,sl eI t),(7,I t2),(8,I s)],[]⟩
abbrev oH (zero:Int) (t:List Int) (t2:Int):(Int⊕(Int×Bool))→al×St:=alt (fun e=>((.ret,⟨[(2,I e)],[]⟩):al×St)) (fun e=>(.exit 0,⟨[(3,I zero),(6,sl eI t),(7,I t2),(8,I e.1),(9,B e.2)],[]⟩))
theorem xu {zero t t2 s e} (h:Loop (bU zero t t2) s=some e):aX tab ow (.close []) pr (oR zero t t2 s)=some (oH zero t t2 e):=by
 refine lrG (fun s o h=> ?_) h
 simp only [bU] at h
 simp only [oR,oH,pr,oA]
 exact go2
def kR (vals:(List Int)):Option (Int):=
 (Loop (bU 0 vals ((vals.length:Nat):Int)) 0).bind (alt (fun e_2=>
 some e_2) (fun e_3=>
 some 0))
theorem Bp {vals r} (h:kR vals=some r):Call tab ow 214 [sl eI vals] []=some (I r,[]):=by
 rw [ab (af:=jN) rfl]
 unfold kR at h
 simp only [jN,nr]
 have d1:= @xu
 exact go2
section
theorem u7:mkR 2010 []=rws eI []:=rfl
attribute [local go_sem] u7
def fM (e_ f:Entry):Option (Int):=
 (dp e_.Row f.Row).bind fun r_=>
 (dp e_.Col f.Col).bind fun r_2=>
 (kR ([r_,r_2]:List Int)).bind fun r_3=>
 some r_3
theorem v4 {e_ f r} (h:fM e_ f=some r):Call tab ow 197 [.agg [I e_.Row,I e_.Col,I e_.Value],.agg [I f.Row,I f.Col,I f.Value]] []=some (I r,[]):=by
 rw [ab (af:=fZ) rfl]
 unfold fM at h
 simp only [fZ,oe]
 have d1:= @sj
 have d2:= @Bp
 exact go2
end
def eZ (list2:List Entry) (rows2 cols2:Int) (t:List Entry) (t2:Int):Int→Option ((Int)⊕((Int×Int×Int)⊕(Int×Bool)))
 |t3=>
  br (decide (t3<t2)) (
  (atL t t3).bind fun x=>
  (ot x.Row 0 (wrap .i64 (rows2-1))).bind fun r_=>
  br (!r_) (
  some (.inr (.inl (x.Row,x.Col,x.Value)))) (
  (ot x.Col 0 (wrap .i64 (cols2-1))).bind fun r_2=>
  br (!r_2) (
  some (.inr (.inl (x.Row,x.Col,x.Value)))) (
  (ot x.Value 1 2130706432).bind fun r_3=>
  br (!r_3) (
  some (.inr (.inl (x.Row,x.Col,x.Value)))) (
  br (decide (t3>0)) (
  (atL list2 (wrap .i64 (t3-1))).bind fun x2=>
  (fM x2 x).bind fun r_4=>
  br (decide (r_4≥0)) (
  some (.inr (.inl (x.Row,x.Col,x.Value)))) (
  some (.inl (wrap .i64 (t3+1))))) (
  some (.inl (wrap .i64 (t3+1)))))))) (
  some (.inr (.inr (t3,decide (t3<t2)))))
abbrev pg (list2:List Entry) (rows2 cols2:Int) (t:List Entry) (t2 s:Int):St:=⟨[(0,sl eEntry list2),(1,I rows2),(2,I cols2),(9,sl eEntry t),(10,I t2),(11,I s)],[]⟩
abbrev pG (list2:List Entry) (rows2 cols2:Int) (t:List Entry) (t2:Int):((Int×Int×Int)⊕(Int×Bool))→al×St:=alt (fun e=>((.ret,⟨[(6,B false)],[(4003,⟨3,true,[[I e.1,I e.2.1,I e.2.2]]⟩)]⟩):al×St)) (fun e=>(.exit 0,⟨[(0,sl eEntry list2),(1,I rows2),(2,I cols2),(9,sl eEntry t),(10,I t2),(11,I e.1),(12,B e.2)],[]⟩))
theorem xE {list2 rows2 cols2 t t2 s e} (h:Loop (eZ list2 rows2 cols2 t t2) s=some e):aX tab ow (.close [4003,5004,5011,5017,5030]) pM (pg list2 rows2 cols2 t t2 s)=some (pG list2 rows2 cols2 t t2 e):=by
 refine lrG (fun s o h=> ?_) h
 simp only [eZ] at h
 simp only [pg,pG,pM,oY]
 have d1:= @rY
 have d2:= @v4
 exact go2
def ga (list:(List Entry)) (rows cols:Int):Option (Bool):=
 (Loop (eZ list rows cols list ((list.length:Nat):Int)) 0).bind (alt (fun e_2=>
 some false) (fun e_3=>
 some (decide (((list.length:Nat):Int)≤200))))
theorem mW {list rows cols r} (h:ga list rows cols=some r):Call tab ow 157 [sl eEntry list,I rows,I cols] []=some (B r,[]):=by
 rw [ab (af:=jG) rfl]
 unfold ga at h
 simp only [jG,nI]
 have d1:= @xE
 exact go2
def kA (s:System):Option (Bool):=
 (ot s.Rows 1 5).bind fun r_=>
 br (!r_) (
 some false) (
 (ot s.Cols 2 5).bind fun r_2=>
 br (!r_2) (
 some false) (
 (iV s).bind fun r_3=>
 (ot s.Publics 0 (wrap .i64 (r_3-1))).bind fun r_4=>
 br (!r_4) (
 some false) (
 (cu s).bind fun r_5=>
 br (decide (0≤s.Rows)) (
 br (decide (0≤s.Cols)) (
 (ga r_5.1 (bf .i64 1 s.Rows) (bf .i64 1 s.Cols)).bind fun r_6=>
 br (!r_6) (
 some false) (
 br (decide (0≤s.Rows)) (
 br (decide (0≤s.Cols)) (
 (ga r_5.2.1 (bf .i64 1 s.Rows) (bf .i64 1 s.Cols)).bind fun r_7=>
 br (!r_7) (
 some false) (
 br (decide (0≤s.Rows)) (
 br (decide (0≤s.Cols)) (
 (ga r_5.2.2 (bf .i64 1 s.Rows) (bf .i64 1 s.Cols)).bind fun r_8=>
 br (!r_8) (
 some false) (
 some true)) none) none)) none) none)) none) none)))
theorem B4 {s r} (h:kA s=some r):Call tab ow 94 [.agg [I s.Rows,I s.Cols,I s.Publics,sl eEntry s.A,sl eEntry s.B,sl eEntry s.C]] []=some (B r,[]):=by
 rw [ab (af:=jZ) rfl]
 unfold kA at h
 simp+decide only [jZ,ny,go_sem,reduceIte,Nat.reduceAdd,Int.reduceAdd,Int.reduceMul,Int.reduceSub]
 obtain ⟨r_,h1,h⟩:=bd h
 refine gn (rY h1) ?_
 simp+decide only [go_sem,reduceIte,Nat.reduceAdd,Int.reduceAdd,Int.reduceMul,Int.reduceSub]
 rcases brc h with ⟨hb,h⟩|⟨hb,h⟩
 ·refine tS hb ?_
  obtain rfl:=Option.some.inj h
  first|rfl| (simp only [List.length_set,go_sem];done)
 ·refine I4 hb ?_
  obtain ⟨r_2,h1,h⟩:=bd h
  refine gn (rY h1) ?_
  simp+decide only [go_sem,reduceIte,Nat.reduceAdd,Int.reduceAdd,Int.reduceMul,Int.reduceSub]
  rcases brc h with ⟨hb,h⟩|⟨hb,h⟩
  ·refine tS hb ?_
   obtain rfl:=Option.some.inj h
   first|rfl| (simp only [List.length_set,go_sem];done)
  ·refine I4 hb ?_
   obtain ⟨r_3,h1,h⟩:=bd h
   refine gn (v7 h1) ?_
   simp+decide only [go_sem,reduceIte,Nat.reduceAdd,Int.reduceAdd,Int.reduceMul,Int.reduceSub]
   obtain ⟨r_4,h1,h⟩:=bd h
   refine gn (rY h1) ?_
   simp+decide only [go_sem,reduceIte,Nat.reduceAdd,Int.reduceAdd,Int.reduceMul,Int.reduceSub]
   rcases brc h with ⟨hb,h⟩|⟨hb,h⟩
   ·refine tS hb ?_
    obtain rfl:=Option.some.inj h
    first|rfl| (simp only [List.length_set,go_sem];done)
   ·refine I4 hb ?_
    obtain ⟨r_5,h1,h⟩:=bd h
    refine mL (jC h1) ?_
    simp+decide only [go_sem,reduceIte,Nat.reduceAdd,Int.reduceAdd,Int.reduceMul,Int.reduceSub]
    refine gB ?_
    simp+decide only [mkL,go_sem,reduceIte,Nat.reduceAdd,Int.reduceAdd,Int.reduceMul,Int.reduceSub]
    obtain ⟨hb,h⟩:=brg h
    refine tS hb ?_
    obtain ⟨hb,h⟩:=brg h
    refine tS hb ?_
    obtain ⟨r_6,h1,h⟩:=bd h
    refine gn (mW h1) ?_
    simp+decide only [go_sem,reduceIte,Nat.reduceAdd,Int.reduceAdd,Int.reduceMul,Int.reduceSub]
    rcases brc h with ⟨hb,h⟩|⟨hb,h⟩
    ·refine tS hb ?_
     obtain rfl:=Option.some.inj h
     first|rfl| (simp only [List.length_set,go_sem];done)
    ·refine I4 hb ?_
     refine gB ?_
     simp+decide only [mkL,go_sem,reduceIte,Nat.reduceAdd,Int.reduceAdd,Int.reduceMul,Int.reduceSub]
     obtain ⟨hb,h⟩:=brg h
     refine tS hb ?_
     obtain ⟨hb,h⟩:=brg h
     refine tS hb ?_
     obtain ⟨r_7,h1,h⟩:=bd h
     refine gn (mW h1) ?_
     simp+decide only [go_sem,reduceIte,Nat.reduceAdd,Int.reduceAdd,Int.reduceMul,Int.reduceSub]
     rcases brc h with ⟨hb,h⟩|⟨hb,h⟩
     ·refine tS hb ?_
      obtain rfl:=Option.some.inj h
      first|rfl| (simp only [List.length_set,go_sem];done)
     ·refine I4 hb ?_
      refine gB ?_
      simp+decide only [mkL,go_sem,reduceIte,Nat.reduceAdd,Int.reduceAdd,Int.reduceMul,Int.reduceSub]
      obtain ⟨hb,h⟩:=brg h
      refine tS hb ?_
      obtain ⟨hb,h⟩:=brg h
      refine tS hb ?_
      obtain ⟨r_8,h1,h⟩:=bd h
      refine gn (mW h1) ?_
      simp+decide only [go_sem,reduceIte,Nat.reduceAdd,Int.reduceAdd,Int.reduceMul,Int.reduceSub]
      rcases brc h with ⟨hb,h⟩|⟨hb,h⟩
      ·refine tS hb ?_
       obtain rfl:=Option.some.inj h
       first|rfl| (simp only [List.length_set,go_sem];done)
      ·refine I4 hb ?_
       refine gB ?_
       simp+decide only [mkL,go_sem,reduceIte,Nat.reduceAdd,Int.reduceAdd,Int.reduceMul,Int.reduceSub]
       obtain rfl:=Option.some.inj h
       first|rfl| (simp only [List.length_set,go_sem];done)
def pX (a b:Entry):Option (Bool):=
 br (a.Row !=b.Row) (
 some false) (
 br (a.Col !=b.Col) (
 some false) (
 br (a.Value !=b.Value) (
 some false) (
 some true)))
theorem Ck {a b r} (h:pX a b=some r):Call tab ow 159 [.agg [I a.Row,I a.Col,I a.Value],.agg [I b.Row,I b.Col,I b.Value]] []=some (B r,[]):=by
 rw [ab (af:=lw) rfl]
 unfold pX at h
 simp only [lw,uQ]
 exact go2
def eQ (a2 b2:List Entry):Int→Option ((Int)⊕(Unit⊕(Int×Bool)))
 |i=>
  br (decide (i<((a2.length:Nat):Int))) (
  (atL a2 i).bind fun x=>
  (atL b2 i).bind fun x2=>
  (pX x x2).bind fun r_=>
  br (!r_) (
  some (.inr (.inl ()))) (
  some (.inl (wrap .i64 (i+1))))) (
  some (.inr (.inr (i,decide (i<((a2.length:Nat):Int))))))
abbrev pd (a2 b2:List Entry) (s:Int):St:=⟨[(0,sl eEntry a2),(1,sl eEntry b2),(5,I s)],[]⟩
abbrev p9 (a2 b2:List Entry):(Unit⊕(Int×Bool))→al×St:=alt (fun e=>((.ret,⟨[(4,B false)],[]⟩):al×St)) (fun e=>(.exit 0,⟨[(0,sl eEntry a2),(1,sl eEntry b2),(5,I e.1),(14,B e.2)],[]⟩))
theorem wz {a2 b2 s e} (h:Loop (eQ a2 b2) s=some e):aX tab ow (.close [7008]) oC (pd a2 b2 s)=some (p9 a2 b2 e):=by
 refine lrG (fun s o h=> ?_) h
 simp only [eQ] at h
 simp only [pd,p9,oC,oF]
 have d1:= @Ck
 exact go2
def gb (a b:(List Entry)):Option (Bool):=
 br (((a.length:Nat):Int) !=((b.length:Nat):Int)) (
 some false) (
 (Loop (eQ a b) 0).bind (alt (fun e_2=>
 some false) (fun e_3=>
 some true)))
theorem B7 {a b r} (h:gb a b=some r):Call tab ow 96 [sl eEntry a,sl eEntry b] []=some (B r,[]):=by
 rw [ab (af:=jL) rfl]
 unfold gb at h
 simp only [jL,n8]
 have d1:= @wz
 exact go2
def kz (a b:System):Option (Bool):=
 br (a.Rows !=b.Rows) (
 some false) (
 br (a.Cols !=b.Cols) (
 some false) (
 br (a.Publics !=b.Publics) (
 some false) (
 (gb a.A b.A).bind fun r_=>
 br (!r_) (
 some false) (
 (gb a.B b.B).bind fun r_2=>
 br (!r_2) (
 some false) (
 (gb a.C b.C).bind fun r_3=>
 br (!r_3) (
 some false) (
 some true))))))
theorem Ab {a b r} (h:kz a b=some r):Call tab ow 34 [.agg [I a.Rows,I a.Cols,I a.Publics,sl eEntry a.A,sl eEntry a.B,sl eEntry a.C],.agg [I b.Rows,I b.Cols,I b.Publics,sl eEntry b.A,sl eEntry b.B,sl eEntry b.C]] []=some (B r,[]):=by
 rw [ab (af:=jP) rfl]
 unfold kz at h
 simp only [jP,sk]
 have d1:= @B7
 exact go2
def bO:(List Entry)×Int×Int→Option (((List Entry)×Int×Int)⊕(((List Entry)×Int×Int×Bool)))
 | (l2,k2,i)=>
   br (decide (i<((l2.length:Nat):Int))) (
   br (decide (0≤i)) (
   br (decide (i.toNat<l2.length)) (
   (l2[i.toNat]?).bind fun x=>
   br (decide (0≤i)) (
   br (decide (i.toNat<l2.length)) (
   ((l2.set i.toNat (Entry.mk k2 x.Col x.Value))[i.toNat]?).bind fun x2=>
   br (decide (0≤i)) (
   br (decide (i.toNat<l2.length)) (
   (((l2.set i.toNat (Entry.mk k2 x.Col x.Value)).set i.toNat (Entry.mk x2.Row (wrap .i64 (k2+1)) x2.Value))[i.toNat]?).bind fun x3=>
   some (.inl ((((l2.set i.toNat (Entry.mk k2 x.Col x.Value)).set i.toNat (Entry.mk x2.Row (wrap .i64 (k2+1)) x2.Value)).set i.toNat (Entry.mk x3.Row x3.Col (wrap .i64 ((wrap .i64 (k2+1))+1)))),(wrap .i64 ((wrap .i64 ((wrap .i64 (k2+1))+1))+1)),(wrap .i64 (i+1))))) none) none) none) none) none) none) (
   some (.inr (l2,k2,i,decide (i<((l2.length:Nat):Int)))))
abbrev kB (s:(List Entry)×Int×Int):St:=⟨[(0,.sl 0 0 s.1.length),(1,I s.2.1),(5,I s.2.2)],[(0,⟨3,false,rws eEntry s.1⟩)]⟩
abbrev kT:((List Entry)×Int×Int×Bool)→al×St:=fun e=>(.exit 0,⟨[(0,.sl 0 0 e.1.length),(1,I e.2.1),(5,I e.2.2.1),(9,B e.2.2.2)],[(0,⟨3,false,rws eEntry e.1⟩)]⟩)
theorem rQ { s e} (h:Loop (bO) s=some e):aX tab ow (.close []) ma (kB s)=some (kT e):=by
 refine lrG (fun s o h=> ?_) h
 obtain ⟨_,_,_⟩:=s
 simp only [bO] at h
 simp only [kB,kT,ma,mI]
 exact go2
def cU (k:Int) (l:List Entry):Option (Int×(List Entry)):=
 (Loop (bO) (l,k,0)).bind fun e_=>
 some (e_.2.1,e_.1)
theorem uh {k l r} (h:cU k l=some r):Call tab ow 97 [.sl 0 0 l.length,I k] [⟨3,false,rws eEntry l⟩]=some (I r.1,[⟨3,false,rws eEntry r.2⟩]):=by
 rw [ab (af:=i0) rfl]
 unfold cU at h
 simp only [i0,kG]
 have d1:= @rQ
 exact go2
def hN (a a2 a3 k:Int) (l l2 l3:List Entry):Option (Int×(List Entry)×(List Entry)×(List Entry)):=
 (cU k l).bind fun r_=>
 (cU r_.1 l2).bind fun r_2=>
 (cU r_2.1 l3).bind fun r_3=>
 some (r_3.1,r_.2,r_2.2,r_3.2)
theorem xc {a a2 a3 k l l2 l3 r} (h:hN a a2 a3 k l l2 l3=some r):Call tab ow 35 [.agg [I a,I a2,I a3,.sl 0 0 l.length,.sl 1 0 l2.length,.sl 2 0 l3.length],I k] [⟨3,false,rws eEntry l⟩,⟨3,false,rws eEntry l2⟩,⟨3,false,rws eEntry l3⟩]=some (I r.1,[⟨3,false,rws eEntry r.2.1⟩,⟨3,false,rws eEntry r.2.2.1⟩,⟨3,false,rws eEntry r.2.2.2⟩]):=by
 rw [ab (af:=hO) rfl]
 unfold hN at h
 simp only [hO,pc]
 have d1:= @uh
 exact go2
def cj:(List Ext)×Int×Int→Option (((List Ext)×Int×Int)⊕(((List Ext)×Int×Int×Bool)))
 | (l2,k2,i)=>
   br (decide (i<((l2.length:Nat):Int))) (
   br (decide (0≤i)) (
   br (decide (i.toNat<l2.length)) (
   (l2[i.toNat]?).bind fun x=>
   br (decide (0≤i)) (
   br (decide (i.toNat<l2.length)) (
   ((l2.set i.toNat (Ext.mk k2 x.B))[i.toNat]?).bind fun x2=>
   some (.inl (((l2.set i.toNat (Ext.mk k2 x.B)).set i.toNat (Ext.mk x2.A (wrap .i64 (k2+1)))),(wrap .i64 ((wrap .i64 (k2+1))+1)),(wrap .i64 (i+1))))) none) none) none) none) (
   some (.inr (l2,k2,i,decide (i<((l2.length:Nat):Int)))))
abbrev mo (s:(List Ext)×Int×Int):St:=⟨[(0,.sl 0 0 s.1.length),(1,I s.2.1),(5,I s.2.2)],[(0,⟨2,false,rws eExt s.1⟩)]⟩
abbrev mP:((List Ext)×Int×Int×Bool)→al×St:=fun e=>(.exit 0,⟨[(0,.sl 0 0 e.1.length),(1,I e.2.1),(5,I e.2.2.1),(9,B e.2.2.2)],[(0,⟨2,false,rws eExt e.1⟩)]⟩)
theorem ug { s e} (h:Loop (cj) s=some e):aX tab ow (.close []) oI (mo s)=some (mP e):=by
 refine lrG (fun s o h=> ?_) h
 obtain ⟨_,_,_⟩:=s
 simp only [cj] at h
 simp only [mo,mP,oI,pI]
 exact go2
def gN (k:Int) (l:List Ext):Option (Int×(List Ext)):=
 (Loop (cj) (l,k,0)).bind fun e_=>
 some (e_.2.1,e_.1)
theorem xm {k l r} (h:gN k l=some r):Call tab ow 36 [.sl 0 0 l.length,I k] [⟨2,false,rws eExt l⟩]=some (I r.1,[⟨2,false,rws eExt r.2⟩]):=by
 rw [ab (af:=jR) rfl]
 unfold gN at h
 simp only [jR,nw]
 have d1:= @ug
 exact go2
def da (a2:List Ext):Int×Int→Option ((Int×Int)⊕(Unit⊕(Int×Int×Bool)))
 | (k2,i)=>
   br (decide (i<((a2.length:Nat):Int))) (
   (atL a2 i).bind fun x=>
   br (x.A !=k2) (
   some (.inr (.inl ()))) (
   (atL a2 i).bind fun x2=>
   br (x2.B !=(wrap .i64 (k2+1))) (
   some (.inr (.inl ()))) (
   some (.inl ((wrap .i64 ((wrap .i64 (k2+1))+1)),(wrap .i64 (i+1))))))) (
   some (.inr (.inr (k2,i,decide (i<((a2.length:Nat):Int))))))
abbrev pm (a2:List Ext) (s:Int×Int):St:=⟨[(0,sl eExt a2),(1,I s.1),(5,I s.2)],[]⟩
abbrev ph (a2:List Ext):(Unit⊕(Int×Int×Bool))→al×St:=alt (fun e=>((.ret,⟨[(4,I (-1:Int))],[]⟩):al×St)) (fun e=>(.exit 0,⟨[(0,sl eExt a2),(1,I e.1),(5,I e.2.1),(9,B e.2.2)],[]⟩))
theorem xp {a2 s e} (h:Loop (da a2) s=some e):aX tab ow (.close []) oL (pm a2 s)=some (ph a2 e):=by
 refine lrG (fun s o h=> ?_) h
 obtain ⟨_,_⟩:=s
 simp only [da] at h
 simp only [pm,ph,oL,oW]
 exact go2
def kC (a:(List Ext)) (k:Int):Option (Int):=
 (Loop (da a) (k,0)).bind (alt (fun e_2=>
 some (-1:Int)) (fun e_3=>
 some e_3.1))
theorem BF {a k r} (h:kC a k=some r):Call tab ow 37 [sl eExt a,I k] []=some (I r,[]):=by
 rw [ab (af:=kf) rfl]
 unfold kC at h
 simp only [kf,nF]
 have d1:= @xp
 exact go2
section
theorem vV:mkR 2000 []=rws eU8 []:=rfl
attribute [local go_sem] vV
theorem xy:mkR 6007 []=rws eU8 []:=rfl
attribute [local go_sem] xy
def jq (n2:Int):(List UInt8)×Int→Option (((List UInt8)×Int)⊕(((List UInt8)×Int×Bool)))
 | (l,i)=>
   br (decide (i≥0)) (
   br (decide (0≤(wrap .u64 (wrap .i64 (8*i))))) (
   br (dC ((l++([(UInt8.ofInt (bD .i64 n2 (wrap .u64 (wrap .i64 (8*i)))))]:List UInt8)).length) 1) (
   some (.inl ((l++([(UInt8.ofInt (bD .i64 n2 (wrap .u64 (wrap .i64 (8*i)))))]:List UInt8)),(wrap .i64 (i-1))))) none) none) (
   some (.inr (l,i,decide (i≥0))))
abbrev o3 (n2:Int) (s:(List UInt8)×Int):St:=⟨[(0,I n2),(5,.sl 2000 0 s.1.length),(6,I s.2)],[(2000,⟨1,false,rws eU8 s.1⟩)]⟩
abbrev oo (n2:Int):((List UInt8)×Int×Bool)→al×St:=fun e=>(.exit 0,⟨[(0,I n2),(5,.sl 2000 0 e.1.length),(6,I e.2.1),(11,B e.2.2)],[(2000,⟨1,false,rws eU8 e.1⟩)]⟩)
theorem v9 {n2 s e} (h:Loop (jq n2) s=some e):aX tab ow (.close [6007,6008]) nS (o3 n2 s)=some (oo n2 e):=by
 refine lrG (fun s o h=> ?_) h
 obtain ⟨_,_⟩:=s
 simp only [jq] at h
 simp only [o3,oo,nS,of]
 exact go2
def dY (n size:Int):Option ((List UInt8)):=
 (Loop (jq n) (([]:List UInt8),(wrap .i64 (size-1)))).bind fun e_=>
 some e_.1
theorem iB {n size r} (h:dY n size=some r):Call tab ow 162 [I n,I size] []=some (sl eU8 r,[]):=by
 rw [ab (af:=iF) rfl]
 unfold dY at h
 simp only [iF,lJ]
 have d1:= @v9
 exact go2
end
section
theorem Dr:mkR 2012 []=rws eU8 []:=rfl
attribute [local go_sem] Dr
def eP (n:Int) (l:List UInt8):Option ((List UInt8)):=
 br (dC ((l++([(UInt8.ofInt (bD .i64 n 24)),(UInt8.ofInt (bD .i64 n 16)),(UInt8.ofInt (bD .i64 n 8)),(UInt8.ofInt n)]:List UInt8)).length) 1) (
 some (l++([(UInt8.ofInt (bD .i64 n 24)),(UInt8.ofInt (bD .i64 n 16)),(UInt8.ofInt (bD .i64 n 8)),(UInt8.ofInt n)]:List UInt8))) none
theorem g7 {n l r} (h:eP n l=some r):Call tab ow 165 [.sl 0 0 l.length,I n] [⟨1,false,rws eU8 l⟩]=some (.sl 0 0 r.length,[⟨1,false,rws eU8 r⟩]):=by
 rw [ab (af:=mf) rfl]
 unfold eP at h
 simp only [mf,xk]
 exact go2
end
def kJ (a:Source) (left:Int):Option (Int):=
 (px a.Script left).bind fun r_=>
 br (decide (r_<0)) (
 some (-1:Int)) (
 br (decide ((wrap .i64 (r_-((a.State.length:Nat):Int)))<0)) (
 some (-1:Int)) (
 some (wrap .i64 (r_-((a.State.length:Nat):Int)))))
theorem zN {a left r} (h:kJ a left=some r):Call tab ow 43 [.agg [sl eExt a.Script,I a.At,S a.State,I a.Count],I left] []=some (I r,[]):=by
 rw [ab (af:=jM) rfl]
 unfold kJ at h
 simp only [jM,sM]
 have d1:= @FA
 exact go2
section
theorem Da: ∀k,yx 2002 k [I (0:Int)]=rws eI (List.replicate k (0:Int)):=fun _=>T9 eI (0:Int) _ _
attribute [local go_sem] Da
def jK (a2:List Int):(List Int)×Int→Option (((List Int)×Int)⊕(((List Int)×Int×Bool)))
 | (l,i)=>
   br (decide (i<((a2.length:Nat):Int))) (
   (atL a2 i).bind fun x=>
   br (decide (0≤i)) (
   br (decide (i.toNat<l.length)) (
   (l[i.toNat]?).bind fun x2=>
   some (.inl ((l.set i.toNat x),(wrap .i64 (i+1))))) none) none) (
   some (.inr (l,i,decide (i<((a2.length:Nat):Int)))))
abbrev sO (a2:List Int) (s:(List Int)×Int):St:=⟨[(0,sl eI a2),(3,.sl 2002 0 s.1.length),(4,I s.2)],[(2002,⟨1,false,rws eI s.1⟩)]⟩
abbrev sU (a2:List Int):((List Int)×Int×Bool)→al×St:=fun e=>(.exit 0,⟨[(0,sl eI a2),(3,.sl 2002 0 e.1.length),(4,I e.2.1),(11,B e.2.2)],[(2002,⟨1,false,rws eI e.1⟩)]⟩)
theorem A7 {a2 s e} (h:Loop (jK a2) s=some e):aX tab ow (.close []) sZ (sO a2 s)=some (sU a2 e):=by
 refine lrG (fun s o h=> ?_) h
 obtain ⟨_,_⟩:=s
 simp only [jK] at h
 simp only [sO,sU,sZ,tH]
 exact go2
def iX (a:(List Int)):Option ((List Int)):=
 br (vt ((a.length:Nat):Int) ((a.length:Nat):Int) 8) (
 (Loop (jK a) ((List.replicate (((a.length:Nat):Int).toNat) (0:Int)),(0:Int))).bind fun e_=>
 some e_.1) none
theorem Fw {a r} (h:iX a=some r):Call tab ow 45 [sl eI a] []=some (.sl 0 0 r.length,[⟨1,false,rws eI r⟩]):=by
 rw [ab (af:=n7) rfl]
 unfold iX at h
 simp only [n7,rN]
 have d1:= @A7
 exact go2
end
def dT (a:Source):Option (Int×(List UInt8)×Int×(List Ext)):=
 (pF a.Script).bind fun r_=>
 some (a.At,a.State,a.Count,r_)
theorem yK {a r} (h:dT a=some r):Call tab ow 46 [.agg [sl eExt a.Script,I a.At,S a.State,I a.Count]] []=some (.agg [.sl 0 0 r.2.2.2.length,I r.1,S r.2.1,I r.2.2.1],[⟨2,false,rws eExt r.2.2.2⟩]):=by
 rw [ab (af:=iL) rfl]
 unfold dT at h
 simp only [iL,qR]
 have d1:= @Fc
 exact go2
def jr (list2:List Int):Int→Option ((Int)⊕(Unit⊕(Int×Bool)))
 |i=>
  br (decide (i<((list2.length:Nat):Int))) (
  (atL list2 i).bind fun x=>
  (gu x).bind fun r_=>
  br (!r_) (
  some (.inr (.inl ()))) (
  some (.inl (wrap .i64 (i+1))))) (
  some (.inr (.inr (i,decide (i<((list2.length:Nat):Int))))))
abbrev o7 (list2:List Int) (s:Int):St:=⟨[(0,sl eI list2),(3,I s)],[]⟩
abbrev od (list2:List Int):(Unit⊕(Int×Bool))→al×St:=alt (fun e=>((.ret,⟨[(2,B false)],[]⟩):al×St)) (fun e=>(.exit 0,⟨[(0,sl eI list2),(3,I e.1),(7,B e.2)],[]⟩))
theorem v6 {list2 s e} (h:Loop (jr list2) s=some e):aX tab ow (.close [5004]) ol (o7 list2 s)=some (od list2 e):=by
 refine lrG (fun s o h=> ?_) h
 simp only [jr] at h
 simp only [o7,od,ol,nV]
 have d1:= @uL
 exact go2
def iY (list:(List Int)):Option (Bool):=
 (Loop (jr list) 0).bind (alt (fun e_2=>
 some false) (fun e_3=>
 some true))
theorem yn {list r} (h:iY list=some r):Call tab ow 166 [sl eI list] []=some (B r,[]):=by
 rw [ab (af:=iJ) rfl]
 unfold iY at h
 simp only [iJ,ly]
 have d1:= @v6
 exact go2
def kL (s:Source):Option (Bool):=
 br (decide (((s.Script.length:Nat):Int)≤64)) (
 (lU s.Script).bind fun r_=>
 br r_ (
 (dg s.At 0 1000000).bind fun r_2=>
 br r_2 (
 br (((s.State.length:Nat):Int)==32) (
 (dg s.Count 0 1000000).bind fun r_3=>
 some r_3) (
 some false)) (
 some false)) (
 some false)) (
 some false)
theorem Al {s r} (h:kL s=some r):Call tab ow 167 [.agg [sl eExt s.Script,I s.At,S s.State,I s.Count]] []=some (B r,[]):=by
 rw [ab (af:=jV) rfl]
 unfold kL at h
 simp only [jV,tC]
 have d1:= @Ch
 have d2:= @mR
 exact go2
def mY (s:Source) (n:Int):Option (Bool):=
 br (decide (s.At>(wrap .i64 (1000000-n)))) (
 some true) (
 some (decide (s.Count>(wrap .i64 (1000000-n)))))
theorem A0 {s n r} (h:mY s n=some r):Call tab ow 168 [.agg [sl eExt s.Script,I s.At,S s.State,I s.Count],I n] []=some (B r,[]):=by
 rw [ab (af:=jE) rfl]
 unfold mY at h
 simp only [jE,sH]
 exact go2
def oP (s:System) (t:Setting) (publics:(List Int)) (source:Source):Option (Int):=
 br (decide (((publics.length:Nat):Int)>4096)) (
 some 2) (
 (kK s).bind fun r_=>
 br (!r_) (
 some 1) (
 (j4 t).bind fun r_2=>
 br (!r_2) (
 some 1) (
 (iY publics).bind fun r_3=>
 br (!r_3) (
 some 1) (
 (kL source).bind fun r_4=>
 br (!r_4) (
 some 1) (
 br (((publics.length:Nat):Int) !=s.Publics) (
 some 17) (
 (mY source 200).bind fun r_5=>
 br r_5 (
 some 6) (
 some 0)))))))
theorem Fg {s t publics source r} (h:oP s t publics source=some r):Call tab ow 106 [.agg [I s.Rows,I s.Cols,I s.Publics,sl eEntry s.A,sl eEntry s.B,sl eEntry s.C],.agg [I t.Rate,I t.Queries,I t.Grind],sl eI publics,.agg [sl eExt source.Script,I source.At,S source.State,I source.Count]] []=some (I r,[]):=by
 rw [ab (af:=nL) rfl]
 unfold oP at h
 simp only [nL,w4]
 have d1:= @Ba
 have d2:= @yl
 have d3:= @yn
 have d4:= @Al
 have d5:= @A0
 exact go2
end
end Go.AI.Fn
set_option linter.unusedVariables false
set_option linter.unusedSimpArgs false
set_option maxRecDepth 100000
set_option maxHeartbeats 1000000
namespace Go.AI.Fn
noncomputable section
open IntKind (wrap)
def dJ (m:List Int) (t2:List UInt8):(List Int)×Int→Option (((List Int)×Int)⊕(((List Int)×Int×Bool)))
 | (m2,i)=>
   br (decide (i<((t2.length:Nat):Int))) (
   br (decide (0≤(wrap .i64 (i.tdiv 8)))&&decide ((wrap .i64 (i.tdiv 8)).toNat<25)) (
   (m2[(wrap .i64 (i.tdiv 8)).toNat]?).bind fun x=>
   (atL t2 i).bind fun c=>
   br (decide (0≤(wrap .u64 (wrap .i64 (8*(i.tmod 8)))))) (
   br (decide (0≤(wrap .i64 (i.tdiv 8)))&&decide ((wrap .i64 (i.tdiv 8)).toNat<25)) (
   br (decide ((wrap .i64 (i.tdiv 8)).toNat<m2.length)) (
   some (.inl ((m2.set ((wrap .i64 (i.tdiv 8)).toNat) (ov .u64 x (bf .u64 (wrap .u64 (c.toNat:Int)) (wrap .u64 (wrap .i64 (8*(i.tmod 8))))))),(wrap .i64 (i+1))))) none) none) none) none) (
   some (.inr (m2,i,decide (i<((t2.length:Nat):Int)))))
abbrev kE (m m2:List Int):List (Nat×Blk):=[(1000,⟨25,true,[ar .u64 m]⟩),(2001,⟨25,true,[ar .u64 m2]⟩)]
abbrev pC (m:List Int) (t2:List UInt8) (s:(List Int)×Int):St:=⟨[(0,S t2),(2,.ptr 1000 0 0 1),(3,.ptr 2001 0 0 1),(4,I s.2)],kE m s.1⟩
abbrev pB (m:List Int) (t2:List UInt8):((List Int)×Int×Bool)→al×St:=fun e=>(.exit 0,⟨[(0,S t2),(2,.ptr 1000 0 0 1),(3,.ptr 2001 0 0 1),(4,I e.2.1),(9,B e.2.2)],kE m e.1⟩)
theorem wW {m t2 s e} (h:Loop (dJ m t2) s=some e):aX tab ow (.close []) kS (pC m t2 s)=some (pB m t2 e):=by
 refine lrG (fun s o h=> ?_) h
 obtain ⟨_,_⟩:=s
 simp only [dJ] at h
 simp only [pC,pB,kE,kS]
 exact go2
def l8 (t:(List UInt8)):Option ((List Int)):=
 (Loop (dJ (nZ 25) t) ((nZ 25),0)).bind fun e_=>
 br (decide (e_.1.length=25)) (
 br (decide (e_.1.length=25)) (
 br (decide (e_.1.length=25)) (
 some e_.1) none) none) none
theorem BG {t r} (h:l8 t=some r):Call tab ow 216 [S t] []=some (.agg (ar .u64 r),[]):=by
 rw [ab (af:=ke) rfl]
 unfold l8 at h
 simp only [ke,ta]
 have d1:= @wW
 exact go2
def oT:Option ((List Int)):=
 some ([1,32898,9223372036854808714,9223372039002292224,32907,2147483649,9223372039002292353,9223372036854808585,138,136,2147516425,2147483658,2147516555,9223372036854775947,9223372036854808713,9223372036854808579,9223372036854808578,9223372036854775936,32778,9223372039002259466,9223372039002292353,9223372036854808704,2147483649,9223372039002292232]:List Int)
theorem yC {r} (h:oT=some r):Call tab ow 223 [] []=some (.agg (ar .u64 r),[]):=by
 rw [ab (af:=iK) rfl]
 unfold oT at h
 simp only [iK,qT]
 exact go2
def pA:Option ((List Int)):=
 some ([0,1,62,28,27,36,44,6,55,20,3,10,43,25,39,41,45,15,21,8,18,2,61,56,14]:List Int)
theorem yS {r} (h:pA=some r):Call tab ow 224 [] []=some (.agg (ar .u64 r),[]):=by
 rw [ab (af:=iC) rfl]
 unfold pA at h
 simp only [iC,rC]
 exact go2
def kt (x n:Int):Option (Int):=
 br (n==0) (
 some x) (
 br (decide (0≤n)) (
 br (decide (0≤(wrap .u64 (64-n)))) (
 some (ov .u64 (bf .u64 x n) (bD .u64 x (wrap .u64 (64-n))))) none) none)
theorem uD {x n r} (h:kt x n=some r):Call tab ow 225 [.lit (.int .u64 x),.lit (.int .u64 n)] []=some (.lit (.int .u64 r),[]):=by
 rw [ab (af:=le) rfl]
 unfold kt at h
 simp only [le,uC]
 exact go2
def cT (m5 m6 m7 m8:List Int) (t2:Int):(List Int)×Int→Option (((List Int)×Int)⊕(((List Int)×Int×Bool)))
 | (m9,t3)=>
   br (decide (t3<5)) (
   br (decide (0≤t3)&&decide (t3.toNat<25)) (
   (m5[t3.toNat]?).bind fun x=>
   br (decide (0≤(wrap .i64 (t3+5)))&&decide ((wrap .i64 (t3+5)).toNat<25)) (
   (m5[(wrap .i64 (t3+5)).toNat]?).bind fun x2=>
   br (decide (0≤(wrap .i64 (t3+10)))&&decide ((wrap .i64 (t3+10)).toNat<25)) (
   (m5[(wrap .i64 (t3+10)).toNat]?).bind fun x3=>
   br (decide (0≤(wrap .i64 (t3+15)))&&decide ((wrap .i64 (t3+15)).toNat<25)) (
   (m5[(wrap .i64 (t3+15)).toNat]?).bind fun x4=>
   br (decide (0≤(wrap .i64 (t3+20)))&&decide ((wrap .i64 (t3+20)).toNat<25)) (
   (m5[(wrap .i64 (t3+20)).toNat]?).bind fun x5=>
   br (decide (0≤t3)&&decide (t3.toNat<5)) (
   br (decide (t3.toNat<m9.length)) (
   some (.inl ((m9.set t3.toNat (eJ .u64 (eJ .u64 (eJ .u64 (eJ .u64 x x2) x3) x4) x5)),(wrap .i64 (t3+1))))) none) none) none) none) none) none) none) (
   some (.inr (m9,t3,decide (t3<5))))
abbrev iw (m5 m6 m7 m8 m9:List Int):List (Nat×Blk):=[(1000,⟨25,true,[ar .u64 m5]⟩),(1001,⟨25,true,[ar .u64 m6]⟩),(2001,⟨24,true,[ar .u64 m7]⟩),(3001,⟨25,true,[ar .u64 m8]⟩),(7001,⟨5,true,[ar .u64 m9]⟩)]
abbrev mC (m5 m6 m7 m8:List Int) (t2:Int) (s:(List Int)×Int):St:=⟨[(1,.ptr 1000 0 0 1),(2,.ptr 1001 0 0 1),(3,.ptr 2001 0 0 1),(4,.ptr 3001 0 0 1),(5,I t2),(6,.ptr 7001 0 0 1),(7,I s.2)],iw m5 m6 m7 m8 s.1⟩
abbrev mS (m5 m6 m7 m8:List Int) (t2:Int):((List Int)×Int×Bool)→al×St:=fun e=>(.exit 2,⟨[(1,.ptr 1000 0 0 1),(2,.ptr 1001 0 0 1),(3,.ptr 2001 0 0 1),(4,.ptr 3001 0 0 1),(5,I t2),(6,.ptr 7001 0 0 1),(7,I e.2.1),(22,B e.2.2)],iw m5 m6 m7 m8 e.1⟩)
theorem uq {m5 m6 m7 m8 t2 s e} (h:Loop (cT m5 m6 m7 m8 t2) s=some e):aX tab ow (.close []) ie (mC m5 m6 m7 m8 t2 s)=some (mS m5 m6 m7 m8 t2 e):=by
 refine lrG (fun s o h=> ?_) h
 obtain ⟨_,_⟩:=s
 simp only [cT] at h
 simp only [mC,mS,iw,ie]
 exact go2
def cM (m11 m12 m13 m14:List Int) (t4:Int):(List Int)×Int→Option (((List Int)×Int)⊕(((List Int)×Int×Bool)))
 | (m10,t5)=>
   br (decide (t5<25)) (
   br (decide (0≤t5)&&decide (t5.toNat<25)) (
   (m10[t5.toNat]?).bind fun x6=>
   br (decide (0≤((wrap .i64 (t5+4)).tmod 5))&&decide (((wrap .i64 (t5+4)).tmod 5).toNat<5)) (
   (m14[((wrap .i64 (t5+4)).tmod 5).toNat]?).bind fun x7=>
   br (decide (0≤((wrap .i64 (t5+1)).tmod 5))&&decide (((wrap .i64 (t5+1)).tmod 5).toNat<5)) (
   (m14[((wrap .i64 (t5+1)).tmod 5).toNat]?).bind fun x8=>
   (kt x8 1).bind fun r_3=>
   br (decide (0≤t5)&&decide (t5.toNat<25)) (
   br (decide (t5.toNat<m10.length)) (
   some (.inl ((m10.set t5.toNat (eJ .u64 x6 (eJ .u64 x7 r_3))),(wrap .i64 (t5+1))))) none) none) none) none) none) (
   some (.inr (m10,t5,decide (t5<25))))
abbrev ic (m11 m12 m13 m14 m10:List Int):List (Nat×Blk):=[(1000,⟨25,true,[ar .u64 m10]⟩),(1001,⟨25,true,[ar .u64 m11]⟩),(2001,⟨24,true,[ar .u64 m12]⟩),(3001,⟨25,true,[ar .u64 m13]⟩),(7001,⟨5,true,[ar .u64 m14]⟩)]
abbrev mh (m11 m12 m13 m14:List Int) (t4:Int) (s:(List Int)×Int):St:=⟨[(1,.ptr 1000 0 0 1),(2,.ptr 1001 0 0 1),(3,.ptr 2001 0 0 1),(4,.ptr 3001 0 0 1),(5,I t4),(6,.ptr 7001 0 0 1),(8,I s.2)],ic m11 m12 m13 m14 s.1⟩
abbrev mK (m11 m12 m13 m14:List Int) (t4:Int):((List Int)×Int×Bool)→al×St:=fun e=>(.exit 4,⟨[(1,.ptr 1000 0 0 1),(2,.ptr 1001 0 0 1),(3,.ptr 2001 0 0 1),(4,.ptr 3001 0 0 1),(5,I t4),(6,.ptr 7001 0 0 1),(8,I e.2.1),(51,B e.2.2)],ic m11 m12 m13 m14 e.1⟩)
theorem ud {m11 m12 m13 m14 t4 s e} (h:Loop (cM m11 m12 m13 m14 t4) s=some e):aX tab ow (.close [15013]) hJ (mh m11 m12 m13 m14 t4 s)=some (mK m11 m12 m13 m14 t4 e):=by
 refine lrG (fun s o h=> ?_) h
 obtain ⟨_,_⟩:=s
 simp only [cM] at h
 simp only [mh,mK,ic,hJ]
 have d1:= @uD
 exact go2
def cR (m21 m22 m23 m24 m25:List Int) (t8 t9:Int):(List Int)×Int→Option (((List Int)×Int)⊕(((List Int)×Int×Bool)))
 | (m26,t10)=>
   br (decide (t10<5)) (
   br (decide (0≤(wrap .i64 (t9+(wrap .i64 (5*t10)))))&&decide ((wrap .i64 (t9+(wrap .i64 (5*t10)))).toNat<25)) (
   (m21[(wrap .i64 (t9+(wrap .i64 (5*t10)))).toNat]?).bind fun x9=>
   br (decide (0≤(wrap .i64 (t9+(wrap .i64 (5*t10)))))&&decide ((wrap .i64 (t9+(wrap .i64 (5*t10)))).toNat<25)) (
   (m24[(wrap .i64 (t9+(wrap .i64 (5*t10)))).toNat]?).bind fun x10=>
   (kt x9 x10).bind fun r_4=>
   br (decide (0≤(wrap .i64 (t10+(wrap .i64 (5*((wrap .i64 ((wrap .i64 (2*t9))+(wrap .i64 (3*t10)))).tmod 5))))))&&decide ((wrap .i64 (t10+(wrap .i64 (5*((wrap .i64 ((wrap .i64 (2*t9))+(wrap .i64 (3*t10)))).tmod 5))))).toNat<25)) (
   br (decide ((wrap .i64 (t10+(wrap .i64 (5*((wrap .i64 ((wrap .i64 (2*t9))+(wrap .i64 (3*t10)))).tmod 5))))).toNat<m26.length)) (
   some (.inl ((m26.set ((wrap .i64 (t10+(wrap .i64 (5*((wrap .i64 ((wrap .i64 (2*t9))+(wrap .i64 (3*t10)))).tmod 5))))).toNat) r_4),(wrap .i64 (t10+1))))) none) none) none) none) (
   some (.inr (m26,t10,decide (t10<5))))
abbrev iu (m21 m22 m23 m24 m25 m26:List Int):List (Nat×Blk):=[(1000,⟨25,true,[ar .u64 m21]⟩),(1001,⟨25,true,[ar .u64 m22]⟩),(2001,⟨24,true,[ar .u64 m23]⟩),(3001,⟨25,true,[ar .u64 m24]⟩),(7001,⟨5,true,[ar .u64 m25]⟩),(16001,⟨25,true,[ar .u64 m26]⟩)]
abbrev mN (m21 m22 m23 m24 m25:List Int) (t8 t9:Int) (s:(List Int)×Int):St:=⟨[(1,.ptr 1000 0 0 1),(2,.ptr 1001 0 0 1),(3,.ptr 2001 0 0 1),(4,.ptr 3001 0 0 1),(5,I t8),(9,.ptr 16001 0 0 1),(10,I t9),(11,I s.2)],iu m21 m22 m23 m24 m25 s.1⟩
abbrev mz (m21 m22 m23 m24 m25:List Int) (t8 t9:Int):((List Int)×Int×Bool)→al×St:=fun e=>(.exit 8,⟨[(1,.ptr 1000 0 0 1),(2,.ptr 1001 0 0 1),(3,.ptr 2001 0 0 1),(4,.ptr 3001 0 0 1),(5,I t8),(9,.ptr 16001 0 0 1),(10,I t9),(11,I e.2.1),(77,B e.2.2)],iu m21 m22 m23 m24 m25 e.1⟩)
theorem tW {m21 m22 m23 m24 m25 t8 t9 s e} (h:Loop (cR m21 m22 m23 m24 m25 t8 t9) s=some e):aX tab ow (.close [23021]) hU (mN m21 m22 m23 m24 m25 t8 t9 s)=some (mz m21 m22 m23 m24 m25 t8 t9 e):=by
 refine lrG (fun s o h=> ?_) h
 obtain ⟨_,_⟩:=s
 simp only [cR] at h
 simp only [mN,mz,iu,hU]
 have d1:= @uD
 exact go2
def cP (m15 m16 m17 m18 m19:List Int) (t6:Int):(List Int)×Int→Option (((List Int)×Int)⊕(((List Int)×Int×Bool)))
 | (m20,t7)=>
   br (decide (t7<5)) (
   (Loop (cR m15 m16 m17 m18 m19 t6 t7) (m20,0)).bind fun e_3=>
   some (.inl (e_3.1,(wrap .i64 (t7+1))))) (
   some (.inr (m20,t7,decide (t7<5))))
abbrev i9 (m15 m16 m17 m18 m19 m20:List Int):List (Nat×Blk):=[(1000,⟨25,true,[ar .u64 m15]⟩),(1001,⟨25,true,[ar .u64 m16]⟩),(2001,⟨24,true,[ar .u64 m17]⟩),(3001,⟨25,true,[ar .u64 m18]⟩),(7001,⟨5,true,[ar .u64 m19]⟩),(16001,⟨25,true,[ar .u64 m20]⟩)]
abbrev mc (m15 m16 m17 m18 m19:List Int) (t6:Int) (s:(List Int)×Int):St:=⟨[(1,.ptr 1000 0 0 1),(2,.ptr 1001 0 0 1),(3,.ptr 2001 0 0 1),(4,.ptr 3001 0 0 1),(5,I t6),(9,.ptr 16001 0 0 1),(10,I s.2)],i9 m15 m16 m17 m18 m19 s.1⟩
abbrev mE (m15 m16 m17 m18 m19:List Int) (t6:Int):((List Int)×Int×Bool)→al×St:=fun e=>(.exit 6,⟨[(1,.ptr 1000 0 0 1),(2,.ptr 1001 0 0 1),(3,.ptr 2001 0 0 1),(4,.ptr 3001 0 0 1),(5,I t6),(9,.ptr 16001 0 0 1),(10,I e.2.1),(73,B e.2.2)],i9 m15 m16 m17 m18 m19 e.1⟩)
theorem tM {m15 m16 m17 m18 m19 t6 s e} (h:Loop (cP m15 m16 m17 m18 m19 t6) s=some e):aX tab ow (.close [23021]) gZ (mc m15 m16 m17 m18 m19 t6 s)=some (mE m15 m16 m17 m18 m19 t6 e):=by
 refine lrG (fun s o h=> ?_) h
 obtain ⟨_,_⟩:=s
 simp only [cP] at h
 simp only [mc,mE,i9,gZ]
 have d1:= @tW
 exact go2
def cQ (m34 m35 m36 m37 m38:List Int) (t13 t14:Int):(List Int)×Int→Option (((List Int)×Int)⊕(((List Int)×Int×Bool)))
 | (m33,t15)=>
   br (decide (t15<5)) (
   br (decide (0≤(wrap .i64 (t14+(wrap .i64 (5*t15)))))&&decide ((wrap .i64 (t14+(wrap .i64 (5*t15)))).toNat<25)) (
   (m38[(wrap .i64 (t14+(wrap .i64 (5*t15)))).toNat]?).bind fun x11=>
   br (decide (0≤(wrap .i64 (((wrap .i64 (t14+1)).tmod 5)+(wrap .i64 (5*t15)))))&&decide ((wrap .i64 (((wrap .i64 (t14+1)).tmod 5)+(wrap .i64 (5*t15)))).toNat<25)) (
   (m38[(wrap .i64 (((wrap .i64 (t14+1)).tmod 5)+(wrap .i64 (5*t15)))).toNat]?).bind fun x12=>
   br (decide (0≤(wrap .i64 (((wrap .i64 (t14+2)).tmod 5)+(wrap .i64 (5*t15)))))&&decide ((wrap .i64 (((wrap .i64 (t14+2)).tmod 5)+(wrap .i64 (5*t15)))).toNat<25)) (
   (m38[(wrap .i64 (((wrap .i64 (t14+2)).tmod 5)+(wrap .i64 (5*t15)))).toNat]?).bind fun x13=>
   br (decide (0≤(wrap .i64 (t14+(wrap .i64 (5*t15)))))&&decide ((wrap .i64 (t14+(wrap .i64 (5*t15)))).toNat<25)) (
   br (decide ((wrap .i64 (t14+(wrap .i64 (5*t15)))).toNat<m33.length)) (
   some (.inl ((m33.set ((wrap .i64 (t14+(wrap .i64 (5*t15)))).toNat) (eJ .u64 x11 (aK .u64 (aW .u64 x12) x13))),(wrap .i64 (t15+1))))) none) none) none) none) none) (
   some (.inr (m33,t15,decide (t15<5))))
abbrev is (m34 m35 m36 m37 m38 m33:List Int):List (Nat×Blk):=[(1000,⟨25,true,[ar .u64 m33]⟩),(1001,⟨25,true,[ar .u64 m34]⟩),(2001,⟨24,true,[ar .u64 m35]⟩),(3001,⟨25,true,[ar .u64 m36]⟩),(7001,⟨5,true,[ar .u64 m37]⟩),(16001,⟨25,true,[ar .u64 m38]⟩)]
abbrev mD (m34 m35 m36 m37 m38:List Int) (t13 t14:Int) (s:(List Int)×Int):St:=⟨[(1,.ptr 1000 0 0 1),(2,.ptr 1001 0 0 1),(3,.ptr 2001 0 0 1),(4,.ptr 3001 0 0 1),(5,I t13),(9,.ptr 16001 0 0 1),(12,I t14),(13,I s.2)],is m34 m35 m36 m37 m38 s.1⟩
abbrev mu (m34 m35 m36 m37 m38:List Int) (t13 t14:Int):((List Int)×Int×Bool)→al×St:=fun e=>(.exit 12,⟨[(1,.ptr 1000 0 0 1),(2,.ptr 1001 0 0 1),(3,.ptr 2001 0 0 1),(4,.ptr 3001 0 0 1),(5,I t13),(9,.ptr 16001 0 0 1),(12,I t14),(13,I e.2.1),(108,B e.2.2)],is m34 m35 m36 m37 m38 e.1⟩)
theorem tU {m34 m35 m36 m37 m38 t13 t14 s e} (h:Loop (cQ m34 m35 m36 m37 m38 t13 t14) s=some e):aX tab ow (.close []) gY (mD m34 m35 m36 m37 m38 t13 t14 s)=some (mu m34 m35 m36 m37 m38 t13 t14 e):=by
 refine lrG (fun s o h=> ?_) h
 obtain ⟨_,_⟩:=s
 simp only [cQ] at h
 simp only [mD,mu,is,gY]
 exact go2
def cS (m28 m29 m30 m31 m32:List Int) (t11:Int):(List Int)×Int→Option (((List Int)×Int)⊕(((List Int)×Int×Bool)))
 | (m27,t12)=>
   br (decide (t12<5)) (
   (Loop (cQ m28 m29 m30 m31 m32 t11 t12) (m27,0)).bind fun e_5=>
   some (.inl (e_5.1,(wrap .i64 (t12+1))))) (
   some (.inr (m27,t12,decide (t12<5))))
abbrev ii (m28 m29 m30 m31 m32 m27:List Int):List (Nat×Blk):=[(1000,⟨25,true,[ar .u64 m27]⟩),(1001,⟨25,true,[ar .u64 m28]⟩),(2001,⟨24,true,[ar .u64 m29]⟩),(3001,⟨25,true,[ar .u64 m30]⟩),(7001,⟨5,true,[ar .u64 m31]⟩),(16001,⟨25,true,[ar .u64 m32]⟩)]
abbrev lZ (m28 m29 m30 m31 m32:List Int) (t11:Int) (s:(List Int)×Int):St:=⟨[(1,.ptr 1000 0 0 1),(2,.ptr 1001 0 0 1),(3,.ptr 2001 0 0 1),(4,.ptr 3001 0 0 1),(5,I t11),(9,.ptr 16001 0 0 1),(12,I s.2)],ii m28 m29 m30 m31 m32 s.1⟩
abbrev lW (m28 m29 m30 m31 m32:List Int) (t11:Int):((List Int)×Int×Bool)→al×St:=fun e=>(.exit 10,⟨[(1,.ptr 1000 0 0 1),(2,.ptr 1001 0 0 1),(3,.ptr 2001 0 0 1),(4,.ptr 3001 0 0 1),(5,I t11),(9,.ptr 16001 0 0 1),(12,I e.2.1),(104,B e.2.2)],ii m28 m29 m30 m31 m32 e.1⟩)
theorem uk {m28 m29 m30 m31 m32 t11 s e} (h:Loop (cS m28 m29 m30 m31 m32 t11) s=some e):aX tab ow (.close []) gV (lZ m28 m29 m30 m31 m32 t11 s)=some (lW m28 m29 m30 m31 m32 t11 e):=by
 refine lrG (fun s o h=> ?_) h
 obtain ⟨_,_⟩:=s
 simp only [cS] at h
 simp only [lZ,lW,ii,gV]
 have d1:= @tU
 exact go2
def cN (m2 m3 m4:List Int):(List Int)×Int→Option (((List Int)×Int)⊕(((List Int)×Int×Bool)))
 | (m,t)=>
   br (decide (t<24)) (
   (Loop (cT m m2 m3 m4 t) ((nZ 5),0)).bind fun e_=>
   (Loop (cM m2 m3 m4 e_.1 t) (m,0)).bind fun e_2=>
   (Loop (cP e_2.1 m2 m3 m4 e_.1 t) ((nZ 25),0)).bind fun e_4=>
   (Loop (cS m2 m3 m4 e_.1 e_4.1 t) (e_2.1,0)).bind fun e_6=>
   (e_6.1[0]?).bind fun x14=>
   br (decide (0≤t)&&decide (t.toNat<24)) (
   (m3[t.toNat]?).bind fun x15=>
   br (decide (0<e_6.1.length)) (
   some (.inl ((e_6.1.set 0 (eJ .u64 x14 x15)),(wrap .i64 (t+1))))) none) none) (
   some (.inr (m,t,decide (t<24))))
abbrev iq (m2 m3 m4 m:List Int):List (Nat×Blk):=[(1000,⟨25,true,[ar .u64 m]⟩),(1001,⟨25,true,[ar .u64 m2]⟩),(2001,⟨24,true,[ar .u64 m3]⟩),(3001,⟨25,true,[ar .u64 m4]⟩)]
abbrev ms (m2 m3 m4:List Int) (s:(List Int)×Int):St:=⟨[(1,.ptr 1000 0 0 1),(2,.ptr 1001 0 0 1),(3,.ptr 2001 0 0 1),(4,.ptr 3001 0 0 1),(5,I s.2)],iq m2 m3 m4 s.1⟩
abbrev mB (m2 m3 m4:List Int):((List Int)×Int×Bool)→al×St:=fun e=>(.exit 0,⟨[(1,.ptr 1000 0 0 1),(2,.ptr 1001 0 0 1),(3,.ptr 2001 0 0 1),(4,.ptr 3001 0 0 1),(5,I e.2.1),(17,B e.2.2)],iq m2 m3 m4 e.1⟩)
theorem tL {m2 m3 m4 s e} (h:Loop (cN m2 m3 m4) s=some e):aX tab ow (.close [7001,15013,16001,23021]) it (ms m2 m3 m4 s)=some (mB m2 m3 m4 e):=by
 refine lrG (fun s o h=> ?_) h
 obtain ⟨_,_⟩:=s
 simp only [cN] at h
 simp only [ms,mB,iq,it]
 have d1:= @uq
 have d2:= @ud
 have d3:= @tM
 have d4:= @uk
 exact go2
def hM (ListtoArray:(List Int)):Option ((List Int)):=
 br (decide (ListtoArray.length=25)) (
 (oT).bind fun r_=>
 br (decide (r_.length=24)) (
 (pA).bind fun r_2=>
 br (decide (r_2.length=25)) (
 (Loop (cN (nZ 25) r_ r_2) (ListtoArray,0)).bind fun e_7=>
 br (decide (e_7.1.length=25)) (
 br (decide (e_7.1.length=25)) (
 br (decide (e_7.1.length=25)) (
 some e_7.1) none) none) none) none) none) none
theorem vW {ListtoArray r} (h:hM ListtoArray=some r):Call tab ow 217 [.agg (ar .u64 ListtoArray)] []=some (.agg (ar .u64 r),[]):=by
 rw [ab (af:=gL) rfl]
 unfold hM at h
 simp only [gL,oX]
 have d1:= @yC
 have d2:= @yS
 have d3:= @tL
 exact go2
section
theorem Bu:mkR 2000 []=rws eU8 []:=rfl
attribute [local go_sem] Bu
theorem AY:mkR 6011 []=rws eU8 []:=rfl
attribute [local go_sem] AY
def ey (m:List Int) (n2:Int):(List UInt8)×Int→Option (((List UInt8)×Int)⊕(((List UInt8)×Int×Bool)))
 | (l,i)=>
   br (decide (i<n2)) (
   br (decide (0≤(wrap .i64 (i.tdiv 8)))&&decide ((wrap .i64 (i.tdiv 8)).toNat<25)) (
   (m[(wrap .i64 (i.tdiv 8)).toNat]?).bind fun x=>
   br (decide (0≤(wrap .u64 (wrap .i64 (8*(i.tmod 8)))))) (
   br (dC ((l++([(UInt8.ofInt (bD .u64 x (wrap .u64 (wrap .i64 (8*(i.tmod 8))))))]:List UInt8)).length) 1) (
   some (.inl ((l++([(UInt8.ofInt (bD .u64 x (wrap .u64 (wrap .i64 (8*(i.tmod 8))))))]:List UInt8)),(wrap .i64 (i+1))))) none) none) none) (
   some (.inr (l,i,decide (i<n2))))
abbrev lE (m:List Int) (l:List UInt8):List (Nat×Blk):=[(1000,⟨25,true,[ar .u64 m]⟩),(2000,⟨1,false,rws eU8 l⟩)]
abbrev rq (m:List Int) (n2:Int) (s:(List UInt8)×Int):St:=⟨[(1,I n2),(2,.ptr 1000 0 0 1),(5,.sl 2000 0 s.1.length),(6,I s.2)],lE m s.1⟩
abbrev re (m:List Int) (n2:Int):((List UInt8)×Int×Bool)→al×St:=fun e=>(.exit 0,⟨[(1,I n2),(2,.ptr 1000 0 0 1),(5,.sl 2000 0 e.1.length),(6,I e.2.1),(10,B e.2.2)],lE m e.1⟩)
theorem yd {m n2 s e} (h:Loop (ey m n2) s=some e):aX tab ow (.close [6011,6012]) rj (rq m n2 s)=some (re m n2 e):=by
 refine lrG (fun s o h=> ?_) h
 obtain ⟨_,_⟩:=s
 simp only [ey] at h
 simp only [rq,re,lE,rj,qO]
 exact go2
def my (a:(List Int)) (n:Int):Option ((List UInt8)):=
 br (decide (a.length=25)) (
 (Loop (ey a n) (([]:List UInt8),0)).bind fun e_=>
 some e_.1) none
theorem BX {a n r} (h:my a n=some r):Call tab ow 218 [.agg (ar .u64 a),I n] []=some (S r,[]):=by
 rw [ab (af:=lr) rfl]
 unfold my at h
 simp only [lr,pD]
 have d1:= @yd
 exact go2
end
section
theorem AX:mkR 2002 []=rws eU8 []:=rfl
attribute [local go_sem] AX
theorem As:mkR 4001 []=rws eU8 []:=rfl
attribute [local go_sem] As
def dz (l2:List UInt8):(List UInt8)→Option (((List UInt8))⊕(((List UInt8)×Bool)))
 |l=>
  br ((((l.length:Nat):Int).tmod 136) !=0) (
  br (dC ((l++([(0:UInt8)]:List UInt8)).length) 1) (
  some (.inl (l++([(0:UInt8)]:List UInt8)))) none) (
  some (.inr (l,((((l.length:Nat):Int).tmod 136) !=0))))
abbrev lK (l2 l:List UInt8):List (Nat×Blk):=[(2001,⟨1,false,rws eU8 l⟩),(2002,⟨1,false,rws eU8 l2⟩)]
abbrev rB (l2:List UInt8) (s:(List UInt8)):St:=⟨[(3,.sl 2001 0 s.length)],lK l2 s⟩
abbrev rF (l2:List UInt8):((List UInt8)×Bool)→al×St:=fun e=>(.exit 0,⟨[(3,.sl 2001 0 e.1.length),(15,B e.2)],lK l2 e.1⟩)
theorem y0 {l2 s e} (h:Loop (dz l2) s=some e):aX tab ow (.close [4001,4002]) lF (rB l2 s)=some (rF l2 e):=by
 refine lrG (fun s o h=> ?_) h
 simp only [dz] at h
 simp only [rB,rF,lK,lF]
 exact go2
def eu (l4:List UInt8) (m4:List Int) (m5:List UInt8) (at_2:Int):(List Int)×Int→Option (((List Int)×Int)⊕(((List Int)×Int×Bool)))
 | (m3,i)=>
   br (decide (i<25)) (
   br (decide (0≤i)&&decide (i.toNat<25)) (
   (m3[i.toNat]?).bind fun x3=>
   br (decide (0≤i)&&decide (i.toNat<25)) (
   (m4[i.toNat]?).bind fun x4=>
   br (decide (0≤i)&&decide (i.toNat<25)) (
   br (decide (i.toNat<m3.length)) (
   some (.inl ((m3.set i.toNat (eJ .u64 x3 x4)),(wrap .i64 (i+1))))) none) none) none) none) (
   some (.inr (m3,i,decide (i<25))))
abbrev lO (l4:List UInt8) (m4 m3:List Int):List (Nat×Blk):=[(2002,⟨1,false,rws eU8 l4⟩),(6001,⟨25,true,[ar .u64 m3]⟩),(10007,⟨25,true,[ar .u64 m4]⟩)]
abbrev rI (l4:List UInt8) (m4:List Int) (m5:List UInt8) (at_2:Int) (s:(List Int)×Int):St:=⟨[(3,sl eU8 m5),(4,.ptr 6001 0 0 1),(5,I at_2),(6,.ptr 10007 0 0 1),(7,I s.2)],lO l4 m4 s.1⟩
abbrev rp (l4:List UInt8) (m4:List Int) (m5:List UInt8) (at_2:Int):((List Int)×Int×Bool)→al×St:=fun e=>(.exit 4,⟨[(3,sl eU8 m5),(4,.ptr 6001 0 0 1),(5,I at_2),(6,.ptr 10007 0 0 1),(7,I e.2.1),(42,B e.2.2)],lO l4 m4 e.1⟩)
theorem yD {l4 m4 m5 at_2 s e} (h:Loop (eu l4 m4 m5 at_2) s=some e):aX tab ow (.close []) kM (rI l4 m4 m5 at_2 s)=some (rp l4 m4 m5 at_2 e):=by
 refine lrG (fun s o h=> ?_) h
 obtain ⟨_,_⟩:=s
 simp only [eu] at h
 simp only [rI,rp,lO,kM]
 exact go2
def ez (l3 m2:List UInt8):(List Int)×Int→Option (((List Int)×Int)⊕(((List Int)×Int×Bool)))
 | (m,at_)=>
   br (decide (at_<((m2.length:Nat):Int))) (
   (ox m2 at_ (wrap .i64 (at_+136))).bind fun y=>
   (l8 y).bind fun r_=>
   br (decide (r_.length=25)) (
   (Loop (eu l3 r_ m2 at_) (m,0)).bind fun e_2=>
   br (decide (e_2.1.length=25)) (
   (hM e_2.1).bind fun r_2=>
   br (decide (r_2.length=25)&&decide (e_2.1.length=25)) (
   some (.inl (r_2,(wrap .i64 (at_+136))))) none) none) none) (
   some (.inr (m,at_,decide (at_<((m2.length:Nat):Int)))))
abbrev iS (l3:List UInt8) (m:List Int):List (Nat×Blk):=[(2002,⟨1,false,rws eU8 l3⟩),(6001,⟨25,true,[ar .u64 m]⟩)]
abbrev lA (l3 m2:List UInt8) (s:(List Int)×Int):St:=⟨[(3,sl eU8 m2),(4,.ptr 6001 0 0 1),(5,I s.2)],iS l3 s.1⟩
abbrev qZ (l3 m2:List UInt8):((List Int)×Int×Bool)→al×St:=fun e=>(.exit 2,⟨[(3,sl eU8 m2),(4,.ptr 6001 0 0 1),(5,I e.2.1),(31,B e.2.2)],iS l3 e.1⟩)
theorem z5 {l3 m2 s e} (h:Loop (ez l3 m2) s=some e):aX tab ow (.close [10006,10007,15001,2001]) lN (lA l3 m2 s)=some (qZ l3 m2 e):=by
 refine lrG (fun s o h=> ?_) h
 obtain ⟨_,_⟩:=s
 simp only [ez] at h
 simp only [lA,qZ,iS,lN]
 have d1:= @BG
 have d2:= @yD
 have d3:= @vW
 exact go2
def kn (b:(List UInt8)):Option ((List UInt8)):=
 br (dC b.length 1) (
 br (dC ((b++([(1:UInt8)]:List UInt8)).length) 1) (
 (Loop (dz ([(1:UInt8)]:List UInt8)) (b++([(1:UInt8)]:List UInt8))).bind fun e_=>
 br (decide (0≤(wrap .i64 (((e_.1.length:Nat):Int)-1)))) (
 br (decide ((wrap .i64 (((e_.1.length:Nat):Int)-1)).toNat<e_.1.length)) (
 (e_.1[(wrap .i64 (((e_.1.length:Nat):Int)-1)).toNat]?).bind fun x=>
 br (decide (0≤(wrap .i64 (((e_.1.length:Nat):Int)-1)))) (
 br (decide ((wrap .i64 (((e_.1.length:Nat):Int)-1)).toNat<e_.1.length)) (
 (e_.1[(wrap .i64 (((e_.1.length:Nat):Int)-1)).toNat]?).bind fun x2=>
 (Loop (ez ([(1:UInt8)]:List UInt8) (e_.1.set ((wrap .i64 (((e_.1.length:Nat):Int)-1)).toNat) (UInt8.ofInt (ov .u8 (x.toNat:Int) 128)))) ((nZ 25),0)).bind fun e_3=>
 br (decide (e_3.1.length=25)) (
 (my e_3.1 32).bind fun r_3=>
 some r_3) none) none) none) none) none) none) none
theorem uJ {b r} (h:kn b=some r):Call tab ow 201 [S b] []=some (S r,[]):=by
 rw [ab (af:=lm) rfl]
 unfold kn at h
 simp only [lm,ux]
 have d1:= @y0
 have d2:= @z5
 simp only [lA,iS] at d2
 have d3:= @BX
 exact go2
end
section
theorem xh:mkR 2009 []=rws eU8 []:=rfl
attribute [local go_sem] xh
theorem wt:mkR 3006 []=rws (eL eEntry) []:=rfl
attribute [local go_sem] wt
theorem w7:mkR 12007 []=rws eU8 []:=rfl
attribute [local go_sem] w7
def cy (l3:List UInt8) (l4:List (List Entry)) (t4 c7 c8 c9:Int) (c10 c11 c12:List Entry):(List UInt8)×Int→Option (((List UInt8)×Int)⊕(((List UInt8)×Int×Bool)))
 | (t3,t5)=>
   br (decide (0≤t4)) (
   br (decide (t4.toNat<l4.length)) (
   (l4[t4.toNat]?).bind fun x2=>
   br (decide (t5<((x2.length:Nat):Int))) (
   br (decide (0≤t4)) (
   br (decide (t4.toNat<l4.length)) (
   (l4[t4.toNat]?).bind fun x3=>
   (atL x3 t5).bind fun x4=>
   (dY x4.Value 4).bind fun r_2=>
   br (dC (([(UInt8.ofInt x4.Row),(UInt8.ofInt x4.Col)]:List UInt8).length+r_2.length) 1) (
   br (dC (t3.length+(([(UInt8.ofInt x4.Row),(UInt8.ofInt x4.Col)]:List UInt8)++r_2).length) 1) (
   some (.inl ((t3++(([(UInt8.ofInt x4.Row),(UInt8.ofInt x4.Col)]:List UInt8)++r_2)),(wrap .i64 (t5+1))))) none) none) none) none) (
   some (.inr (t3,t5,decide (t5<((x2.length:Nat):Int)))))) none) none
abbrev jj (l3:List UInt8) (l4:List (List Entry)) (c7 c8 c9:Int) (c10 c11 c12:List Entry):List (Nat×Blk):=[(1000,⟨6,true,[[I c7,I c8,I c9,sl eEntry c10,sl eEntry c11,sl eEntry c12]]⟩),(2009,⟨1,false,rws eU8 l3⟩),(3006,⟨1,false,rws (eL eEntry) l4⟩)]
abbrev o0 (l3:List UInt8) (l4:List (List Entry)) (t4 c7 c8 c9:Int) (c10 c11 c12:List Entry) (s:(List UInt8)×Int):St:=⟨[(3,S s.1),(4,.sl 3006 0 l4.length),(5,I t4),(6,I s.2)],jj l3 l4 c7 c8 c9 c10 c11 c12⟩
abbrev o2 (l3:List UInt8) (l4:List (List Entry)) (t4 c7 c8 c9:Int) (c10 c11 c12:List Entry):((List UInt8)×Int×Bool)→al×St:=fun e=>(.exit 2,⟨[(3,S e.1),(4,.sl 3006 0 l4.length),(5,I t4),(6,I e.2.1),(46,B e.2.2)],jj l3 l4 c7 c8 c9 c10 c11 c12⟩)
theorem uY {l3 l4 t4 c7 c8 c9 c10 c11 c12 s e} (h:Loop (cy l3 l4 t4 c7 c8 c9 c10 c11 c12) s=some e):aX tab ow (.close [11007,12007,12011]) ob (o0 l3 l4 t4 c7 c8 c9 c10 c11 c12 s)=some (o2 l3 l4 t4 c7 c8 c9 c10 c11 c12 e):=by
 refine lrG (fun s o h=> ?_) h
 obtain ⟨_,_⟩:=s
 simp only [cy] at h
 simp only [o0,o2,jj,ob,o5]
 have d1:= @iB
 exact go2
def dq (l:List UInt8) (l2:List (List Entry)) (c c2 c3:Int) (c4 c5 c6:List Entry):(List UInt8)×Int→Option (((List UInt8)×Int)⊕(((List UInt8)×Int×Bool)))
 | (t,t2)=>
   br (decide (t2<3)) (
   br (decide (0≤t2)) (
   br (decide (t2.toNat<l2.length)) (
   (l2[t2.toNat]?).bind fun x=>
   (dY ((x.length:Nat):Int) 4).bind fun r_=>
   br (dC (t.length+r_.length) 1) (
   (Loop (cy l l2 t2 c c2 c3 c4 c5 c6) ((t++r_),0)).bind fun e_=>
   some (.inl (e_.1,(wrap .i64 (t2+1))))) none) none) none) (
   some (.inr (t,t2,decide (t2<3))))
abbrev jk (l:List UInt8) (l2:List (List Entry)) (c c2 c3:Int) (c4 c5 c6:List Entry):List (Nat×Blk):=[(1000,⟨6,true,[[I c,I c2,I c3,sl eEntry c4,sl eEntry c5,sl eEntry c6]]⟩),(2009,⟨1,false,rws eU8 l⟩),(3006,⟨1,false,rws (eL eEntry) l2⟩)]
abbrev nW (l:List UInt8) (l2:List (List Entry)) (c c2 c3:Int) (c4 c5 c6:List Entry) (s:(List UInt8)×Int):St:=⟨[(3,S s.1),(4,.sl 3006 0 l2.length),(5,I s.2)],jk l l2 c c2 c3 c4 c5 c6⟩
abbrev o8 (l:List UInt8) (l2:List (List Entry)) (c c2 c3:Int) (c4 c5 c6:List Entry):((List UInt8)×Int×Bool)→al×St:=fun e=>(.exit 0,⟨[(3,S e.1),(4,.sl 3006 0 l2.length),(5,I e.2.1),(28,B e.2.2)],jk l l2 c c2 c3 c4 c5 c6⟩)
theorem vg {l l2 c c2 c3 c4 c5 c6 s e} (h:Loop (dq l l2 c c2 c3 c4 c5 c6) s=some e):aX tab ow (.close [7006,11007,12007,12011]) nR (nW l l2 c c2 c3 c4 c5 c6 s)=some (o8 l l2 c c2 c3 c4 c5 c6 e):=by
 refine lrG (fun s o h=> ?_) h
 obtain ⟨_,_⟩:=s
 simp only [dq] at h
 simp only [nW,o8,jk,nR,oh]
 have d1:= @iB
 have d2:= @uY
 exact go2
def jc (ListtoArray:System):Option ((List UInt8)):=
 br (dC ((([115,121,115,116,101,109]:List UInt8)).length+([(UInt8.ofInt ListtoArray.Rows),(UInt8.ofInt ListtoArray.Cols),(UInt8.ofInt ListtoArray.Publics)]:List UInt8).length) 1) (
 (Loop (dq ([(UInt8.ofInt ListtoArray.Rows),(UInt8.ofInt ListtoArray.Cols),(UInt8.ofInt ListtoArray.Publics)]:List UInt8) ([ListtoArray.A,ListtoArray.B,ListtoArray.C]:List (List Entry)) ListtoArray.Rows ListtoArray.Cols ListtoArray.Publics ListtoArray.A ListtoArray.B ListtoArray.C) (((([115,121,115,116,101,109]:List UInt8))++([(UInt8.ofInt ListtoArray.Rows),(UInt8.ofInt ListtoArray.Cols),(UInt8.ofInt ListtoArray.Publics)]:List UInt8)),0)).bind fun e_2=>
 (kn e_2.1).bind fun r_3=>
 some r_3) none
theorem yY {ListtoArray r} (h:jc ListtoArray=some r):Call tab ow 169 [.agg [I ListtoArray.Rows,I ListtoArray.Cols,I ListtoArray.Publics,sl eEntry ListtoArray.A,sl eEntry ListtoArray.B,sl eEntry ListtoArray.C]] []=some (S r,[]):=by
 rw [ab (af:=iT) rfl]
 unfold jc at h
 simp only [iT,iI]
 have d1:= @vg
 have d2:= @uJ
 exact go2
end
def j5 (s:Source) (t:(List UInt8)):Option (Source):=
 br (dC (s.State.length+(([97,98,115,111,114,98]:List UInt8)).length) 1) (
 (dY ((t.length:Nat):Int) 4).bind fun r_=>
 br (dC ((s.State++(([97,98,115,111,114,98]:List UInt8))).length+r_.length) 1) (
 br (dC (((s.State++(([97,98,115,111,114,98]:List UInt8)))++r_).length+t.length) 1) (
 (kn (((s.State++(([97,98,115,111,114,98]:List UInt8)))++r_)++t)).bind fun r_2=>
 some (Source.mk s.Script s.At r_2 0)) none) none) none
theorem yP {s t r} (h:j5 s t=some r):Call tab ow 170 [.agg [sl eExt s.Script,I s.At,S s.State,I s.Count],S t] []=some (.agg [sl eExt r.Script,I r.At,S r.State,I r.Count],[]):=by
 rw [ab (af:=ix) rfl]
 unfold j5 at h
 simp only [ix,rf]
 have d1:= @iB
 have d2:= @uJ
 exact go2
section
theorem yf:mkR 2011 []=rws eU8 []:=rfl
attribute [local go_sem] yf
def cZ (l:List UInt8) (publics2:List Int) (c c2 c3:Int) (c4 c5 c6:List Entry) (c7 c8 c9:Int) (c10:List Ext) (c11:Int) (c12:List UInt8) (c13 c14:Int) (c15:List UInt8) (c16:Int):(List UInt8)×Int→Option (((List UInt8)×Int)⊕(((List UInt8)×Int×Bool)))
 | (text,i)=>
   br (decide (i<((publics2.length:Nat):Int))) (
   (atL publics2 i).bind fun x=>
   (dY x 4).bind fun r_2=>
   br (dC (text.length+r_2.length) 1) (
   some (.inl ((text++r_2),(wrap .i64 (i+1))))) none) (
   some (.inr (text,i,decide (i<((publics2.length:Nat):Int)))))
abbrev kI (l:List UInt8) (c c2 c3:Int) (c4 c5 c6:List Entry) (c7 c8 c9:Int) (c10:List Ext) (c11:Int) (c12:List UInt8) (c13 c14:Int) (c15:List UInt8) (c16:Int):List (Nat×Blk):=[(1000,⟨6,true,[[I c,I c2,I c3,sl eEntry c4,sl eEntry c5,sl eEntry c6]]⟩),(1001,⟨3,true,[[I c7,I c8,I c9]]⟩),(1002,⟨4,true,[[sl eExt c10,I c11,S c12,I c13]]⟩),(1003,⟨4,true,[[.lit (.slice none 0 0),I c14,S c15,I c16]]⟩),(2011,⟨1,false,rws eU8 l⟩)]
abbrev oS (l:List UInt8) (publics2:List Int) (c c2 c3:Int) (c4 c5 c6:List Entry) (c7 c8 c9:Int) (c10:List Ext) (c11:Int) (c12:List UInt8) (c13 c14:Int) (c15:List UInt8) (c16:Int) (s:(List UInt8)×Int):St:=⟨[(2,sl eI publics2),(7,.ptr 1002 0 0 1),(8,.ptr 1003 0 0 1),(9,S s.1),(10,I s.2)],kI l c c2 c3 c4 c5 c6 c7 c8 c9 c10 c11 c12 c13 c14 c15 c16⟩
abbrev oO (l:List UInt8) (publics2:List Int) (c c2 c3:Int) (c4 c5 c6:List Entry) (c7 c8 c9:Int) (c10:List Ext) (c11:Int) (c12:List UInt8) (c13 c14:Int) (c15:List UInt8) (c16:Int):((List UInt8)×Int×Bool)→al×St:=fun e=>(.exit 0,⟨[(2,sl eI publics2),(7,.ptr 1002 0 0 1),(8,.ptr 1003 0 0 1),(9,S e.1),(10,I e.2.1),(28,B e.2.2)],kI l c c2 c3 c4 c5 c6 c7 c8 c9 c10 c11 c12 c13 c14 c15 c16⟩)
theorem xz {l publics2 c c2 c3 c4 c5 c6 c7 c8 c9 c10 c11 c12 c13 c14 c15 c16 s e} (h:Loop (cZ l publics2 c c2 c3 c4 c5 c6 c7 c8 c9 c10 c11 c12 c13 c14 c15 c16) s=some e):aX tab ow (.close [6005]) pj (oS l publics2 c c2 c3 c4 c5 c6 c7 c8 c9 c10 c11 c12 c13 c14 c15 c16 s)=some (oO l publics2 c c2 c3 c4 c5 c6 c7 c8 c9 c10 c11 c12 c13 c14 c15 c16 e):=by
 refine lrG (fun s o h=> ?_) h
 obtain ⟨_,_⟩:=s
 simp only [cZ] at h
 simp only [oS,oO,kI,pj,p6]
 have d1:= @iB
 exact go2
def kU (s:System) (t:Setting) (publics:(List Int)) (source:Source):Option (Source):=
 (jc s).bind fun r_=>
 br (dC (r_.length+([(UInt8.ofInt t.Rate),(UInt8.ofInt t.Queries),(UInt8.ofInt t.Grind)]:List UInt8).length) 1) (
 (Loop (cZ ([(UInt8.ofInt t.Rate),(UInt8.ofInt t.Queries),(UInt8.ofInt t.Grind)]:List UInt8) publics s.Rows s.Cols s.Publics s.A s.B s.C t.Rate t.Queries t.Grind source.Script source.At source.State source.Count 0 (([]:List UInt8)) 0) ((r_++([(UInt8.ofInt t.Rate),(UInt8.ofInt t.Queries),(UInt8.ofInt t.Grind)]:List UInt8)),0)).bind fun e_=>
 (j5 source e_.1).bind fun r_3=>
 some r_3) none
theorem zV {s t publics source r} (h:kU s t publics source=some r):Call tab ow 108 [.agg [I s.Rows,I s.Cols,I s.Publics,sl eEntry s.A,sl eEntry s.B,sl eEntry s.C],.agg [I t.Rate,I t.Queries,I t.Grind],sl eI publics,.agg [sl eExt source.Script,I source.At,S source.State,I source.Count]] []=some (.agg [sl eExt r.Script,I r.At,S r.State,I r.Count],[]):=by
 rw [ab (af:=jD) rfl]
 unfold kU at h
 simp only [jD,na]
 have d1:= @yY
 have d2:= @xz
 have d3:= @yP
 exact go2
end
section
theorem D9:mkR 2000 []=rws eExt []:=rfl
attribute [local go_sem] D9
def pL (s:Source):Option (Source):=
 br (dC ((([]:List Ext)++s.Script).length) 16) (
 some (Source.mk (([]:List Ext)++s.Script) s.At s.State s.Count)) none
theorem FF {s r} (h:pL s=some r):Call tab ow 107 [.agg [sl eExt s.Script,I s.At,S s.State,I s.Count]] []=some (.agg [sl eExt r.Script,I r.At,S r.State,I r.Count],[]):=by
 rw [ab (af:=ni) rfl]
 unfold pL at h
 simp only [ni,wV]
 exact go2
end
def sJ (s:System) (t:Setting) (publics:(List Int)) (source:Source):Option (Source×Int):=
 br (decide (((publics.length:Nat):Int)>4096)) (
 some ((Source.mk ([]:List Ext) 0 (([]:List UInt8)) 0),2)) (
 (oP s t publics source).bind fun r_=>
 br (r_ !=0) (
 some ((Source.mk ([]:List Ext) 0 (([]:List UInt8)) 0),r_)) (
 (kU s t publics source).bind fun r_2=>
 (pL r_2).bind fun r_3=>
 some (r_3,0)))
theorem H0 {s t publics source r} (h:sJ s t publics source=some r):Call tab ow 44 [.agg [I s.Rows,I s.Cols,I s.Publics,sl eEntry s.A,sl eEntry s.B,sl eEntry s.C],.agg [I t.Rate,I t.Queries,I t.Grind],sl eI publics,.agg [sl eExt source.Script,I source.At,S source.State,I source.Count]] []=some (.tup [.agg [sl eExt r.1.Script,I r.1.At,S r.1.State,I r.1.Count],I r.2],[]):=by
 rw [ab (af:=qf) rfl]
 unfold sJ at h
 simp only [qf,zr]
 have d1:= @Fg
 have d2:= @zV
 have d3:= @FF
 exact go2
def cE (x:Int):Option (Bool):=
 (ir x).bind fun r_=>
 some (!r_)
theorem oz {x r} (h:cE x=some r):Call tab ow 203 [I x,.ptr 0 0 0 1] [⟨1,true,[[.fn 64 []]]⟩]=some (B r,[⟨1,true,[[.fn 64 []]]⟩]):=by
 rw [ab (af:=iD) rfl]
 unfold cE at h
 simp only [iD,qW]
 have d1:= @uR
 exact go2
def aF (s2:List Int) (t:Int):Int→Option ((Int)⊕(Int⊕(Int×Bool)))
 |t2=>
  br (decide (t2<t)) (
  (atL s2 t2).bind fun x=>
  (cE x).bind fun r_=>
  br r_ (
  some (.inr (.inl t2))) (
  some (.inl (wrap .i64 (t2+1))))) (
  some (.inr (.inr (t2,decide (t2<t)))))
abbrev bG (s2:List Int) (t s:Int):St:=⟨[(0,sl eI s2),(1,.fn 203 [.ptr 0 0 0 1]),(7,I t),(8,I s)],[(0,⟨1,true,[[.fn 64 []]]⟩)]⟩
abbrev bE (s2:List Int) (t:Int):(Int⊕(Int×Bool))→al×St:=alt (fun e=>((.ret,⟨[(4,I e)],[(0,⟨1,true,[[.fn 64 []]]⟩)]⟩):al×St)) (fun e=>(.exit 0,⟨[(0,sl eI s2),(1,.fn 203 [.ptr 0 0 0 1]),(7,I t),(8,I e.1),(9,B e.2)],[(0,⟨1,true,[[.fn 64 []]]⟩)]⟩))
theorem dv {s2 t s e} (h:Loop (aF s2 t) s=some e):aX tab ow (.close [5005]) dW (bG s2 t s)=some (bE s2 t e):=by
 refine lrG (fun s o h=> ?_) h
 simp only [aF] at h
 simp only [bG,bE,dW,dV]
 have d1:= @oz
 exact go2
def aL (s:(List Int)):Option (Int):=
 (Loop (aF s ((s.length:Nat):Int)) 0).bind (alt (fun e_2=>
 some e_2) (fun e_3=>
 some (-1:Int)))
theorem dB {s r} (h:aL s=some r):Call tab ow 219 [sl eI s,.fn 203 [.ptr 0 0 0 1]] [⟨1,true,[[.fn 64 []]]⟩]=some (I r,[⟨1,true,[[.fn 64 []]]⟩]):=by
 rw [ab (af:=bQ) rfl]
 unfold aL at h
 simp only [bQ,cJ]
 have d1:= @dv
 exact go2
def aG (s:(List Int)):Option (Bool):=
 (aL s).bind fun r_=>
 some (decide (r_≥0))
theorem dn {s r} (h:aG s=some r):Call tab ow 202 [sl eI s,.fn 203 [.ptr 0 0 0 1]] [⟨1,true,[[.fn 64 []]]⟩]=some (B r,[⟨1,true,[[.fn 64 []]]⟩]):=by
 rw [ab (af:=bw) rfl]
 unfold aG at h
 simp only [bw,dG]
 have d1:= @dB
 exact go2
def dt (list:(List Int)):Option (Bool):=
 (aG list).bind fun r_=>
 some (!r_)
theorem qE {list r} (h:dt list=some r):Call tab ow 171 [.fn 64 [],sl eI list] []=some (B r,[]):=by
 rw [ab (af:=lf) rfl]
 unfold dt at h
 simp only [lf,uH]
 have d1:= @dn
 exact go2
def kP (s:Source):Option (Bool):=
 br (decide (((s.Script.length:Nat):Int)≤64)) (
 (du s.Script).bind fun r_=>
 br r_ (
 (pn s.State).bind fun r_2=>
 br r_2 (
 (ot s.At 0 1000000).bind fun r_3=>
 br r_3 (
 (ot s.Count 0 1000000).bind fun r_4=>
 some r_4) (
 some false)) (
 some false)) (
 some false)) (
 some false)
theorem B9 {s r} (h:kP s=some r):Call tab ow 172 [.agg [sl eExt s.Script,I s.At,S s.State,I s.Count]] []=some (B r,[]):=by
 rw [ab (af:=ki) rfl]
 unfold kP at h
 simp only [ki,tD]
 have d1:= @qF
 have d2:= @EX
 have d3:= @rY
 exact go2
def iW (s:Source):Option (Int):=
 some (wrap .i64 (1000000-(mx s.At s.Count)))
theorem vk {s r} (h:iW s=some r):Call tab ow 173 [.agg [sl eExt s.Script,I s.At,S s.State,I s.Count]] []=some (I r,[]):=by
 rw [ab (af:=fS) rfl]
 unfold iW at h
 simp only [fS,oq]
 exact go2
def j1 (s:System) (t:Setting) (publics:(List Int)) (source:Source):Option (Int):=
 br (decide (((publics.length:Nat):Int)>4096)) (
 some 2) (
 (kA s).bind fun r_=>
 br (!r_) (
 some 1) (
 (j6 t).bind fun r_2=>
 br (!r_2) (
 some 1) (
 (dt publics).bind fun r_3=>
 br (!r_3) (
 some 1) (
 (kP source).bind fun r_4=>
 br (!r_4) (
 some 1) (
 br (((publics.length:Nat):Int) !=s.Publics) (
 some 17) (
 (iW source).bind fun r_5=>
 br (decide (r_5<200)) (
 some 6) (
 some 0)))))))
theorem yJ {s t publics source r} (h:j1 s t publics source=some r):Call tab ow 109 [.agg [I s.Rows,I s.Cols,I s.Publics,sl eEntry s.A,sl eEntry s.B,sl eEntry s.C],.agg [I t.Rate,I t.Queries,I t.Grind],sl eI publics,.agg [sl eExt source.Script,I source.At,S source.State,I source.Count]] []=some (I r,[]):=by
 rw [ab (af:=iN) rfl]
 unfold j1 at h
 simp only [iN,ru]
 have d1:= @B4
 have d2:= @yX
 have d3:= @qE
 have d4:= @B9
 have d5:= @vk
 exact go2
def dR (s:Source):Option (Int×(List UInt8)×Int×(List Ext)):=
 (ci s.Script).bind fun r_=>
 some (s.At,s.State,s.Count,r_)
theorem rX {s r} (h:dR s=some r):Call tab ow 110 [.agg [sl eExt s.Script,I s.At,S s.State,I s.Count]] []=some (.agg [.sl 0 0 r.2.2.2.length,I r.1,S r.2.1,I r.2.2.1],[⟨2,false,rws eExt r.2.2.2⟩]):=by
 rw [ab (af:=ej) rfl]
 unfold dR at h
 simp only [ej,kN]
 have d1:= @jX
 exact go2
end
end Go.AI.Fn
