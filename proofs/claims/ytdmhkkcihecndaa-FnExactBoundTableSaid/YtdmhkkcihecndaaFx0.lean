/- Walks through the program, with open values. -/
import Derived.Test.YtdmhkkcihecndaaStr
import Derived.Test.YtdmhkkcihecndaaTb2
set_option linter.unusedVariables false
set_option linter.unusedSimpArgs false
set_option maxRecDepth 100000
set_option maxHeartbeats 1000000
namespace Go.AI.Fn
noncomputable section
open IntKind (wrap)
def nG (n low high:Int):Option (Bool):=
 br (decide (low≤n)) (
 some (decide (n≤high))) (
 some false)
theorem pM {n low high r} (h:nG n low high=some r):Call tab ow 62 [I n,I low,I high] []=some (B r,[]):=by
 rw [a9 (af:=uD) rfl]
 unfold nG at h
 simp only [uD,EG]
 exact go2
def gK (a:Int):Option (Bool):=
 (nG a 0 2130706432).bind fun r_=>
 some r_
theorem va {a r} (h:gK a=some r):Call tab ow 64 [I a] []=some (B r,[]):=by
 rw [a9 (af:=ia) rfl]
 unfold gK at h
 simp only [ia,og]
 have d1:= @pM
 exact go2
def il (a:Ext):Option (Bool):=
 (gK a.A).bind fun r_=>
 br r_ (
 (gK a.B).bind fun r_2=>
 some r_2) (
 some false)
theorem sv {a r} (h:il a=some r):Call tab ow 67 [.agg [I a.A,I a.B]] []=some (B r,[]):=by
 rw [a9 (af:=lc) rfl]
 unfold il at h
 simp only [lc,sO]
 have d1:= @va
 exact go2
def bL (x:Ext):Option (Bool):=
 (il x).bind fun r_=>
 some (!r_)
theorem jA {x r} (h:bL x=some r):Call tab ow 128 [.agg [I x.A,I x.B],.ptr 0 0 0 1] [⟨1,true,[[.fn 67 []]]⟩]=some (B r,[⟨1,true,[[.fn 67 []]]⟩]):=by
 rw [a9 (af:=dM) rfl]
 unfold bL at h
 simp only [dM,js]
 have d1:= @sv
 exact go2
def ak (s2:List Ext) (t:Int):Int→Option ((Int)⊕(Int⊕(Int×Bool)))
 |t2=>
  br (decide (t2<t)) (
  (atL s2 t2).bind fun x=>
  (bL x).bind fun r_=>
  br r_ (
  some (.inr (.inl t2))) (
  some (.inl (wrap .i64 (t2+1))))) (
  some (.inr (.inr (t2,decide (t2<t)))))
abbrev aU (s2:List Ext) (t s:Int):St:=⟨[(0,sl eExt s2),(1,.fn 128 [.ptr 0 0 0 1]),(7,I t),(8,I s)],[(0,⟨1,true,[[.fn 67 []]]⟩)]⟩
abbrev aT (s2:List Ext) (t:Int):(Int⊕(Int×Bool))→au×St:=alt (fun e=>((.ret,⟨[(4,I e)],[(0,⟨1,true,[[.fn 67 []]]⟩)]⟩):au×St)) (fun e=>(.exit 0,⟨[(0,sl eExt s2),(1,.fn 128 [.ptr 0 0 0 1]),(7,I t),(8,I e.1),(9,B e.2)],[(0,⟨1,true,[[.fn 67 []]]⟩)]⟩))
theorem bP {s2 t s e} (h:Loop (ak s2 t) s=some e):cf tab ow (.close [5005]) cg (aU s2 t s)=some (aT s2 t e):=by
 refine lrG (fun s o h=> ?_) h
 simp only [ak] at h
 simp only [aU,aT,cg,ce]
 have d1:= @jA
 exact go2
def aw (s:(List Ext)):Option (Int):=
 (Loop (ak s ((s.length:Nat):Int)) 0).bind (alt (fun e_2=>
 some e_2) (fun e_3=>
 some (-1:Int)))
theorem bZ {s r} (h:aw s=some r):Call tab ow 184 [sl eExt s,.fn 128 [.ptr 0 0 0 1]] [⟨1,true,[[.fn 67 []]]⟩]=some (I r,[⟨1,true,[[.fn 67 []]]⟩]):=by
 rw [a9 (af:=aW) rfl]
 unfold aw at h
 simp only [aW,bw]
 have d1:= @bP
 exact go2
def an (s:(List Ext)):Option (Bool):=
 (aw s).bind fun r_=>
 some (decide (r_≥0))
theorem bM {s r} (h:an s=some r):Call tab ow 127 [sl eExt s,.fn 128 [.ptr 0 0 0 1]] [⟨1,true,[[.fn 67 []]]⟩]=some (B r,[⟨1,true,[[.fn 67 []]]⟩]):=by
 rw [a9 (af:=aP) rfl]
 unfold an at h
 simp only [aP,bX]
 have d1:= @bZ
 exact go2
def cm (list:(List Ext)):Option (Bool):=
 (an list).bind fun r_=>
 some (!r_)
theorem lk {list r} (h:cm list=some r):Call tab ow 66 [.fn 67 [],sl eExt list] []=some (B r,[]):=by
 rw [a9 (af:=fq) rfl]
 unfold cm at h
 simp only [fq,lF]
 have d1:= @bM
 exact go2
def kB (a b:Int):Option (Int):=
 some ((wrap .i64 (a*b)).tmod 2130706433)
theorem zs {a b r} (h:kB a b=some r):Call tab ow 126 [I a,I b] []=some (I r,[]):=by
 rw [a9 (af:=pr) rfl]
 unfold kB at h
 simp only [pr,zK]
 exact go2
def cN (a:Ext) (n:Int):Option (Ext):=
 (kB a.A n).bind fun r_=>
 (kB a.B n).bind fun r_2=>
 some (Ext.mk r_ r_2)
theorem hJ {a n r} (h:cN a n=some r):Call tab ow 125 [.agg [I a.A,I a.B],I n] []=some (.agg [I r.A,I r.B],[]):=by
 rw [a9 (af:=eD) rfl]
 unfold cN at h
 simp only [eD,k8]
 have d1:= @zs
 exact go2
def oj (a b:Int):Option (Int):=
 some ((wrap .i64 (a+b)).tmod 2130706433)
theorem zP {a b r} (h:oj a b=some r):Call tab ow 130 [I a,I b] []=some (I r,[]):=by
 rw [a9 (af:=p8) rfl]
 unfold oj at h
 simp only [p8,zZ]
 exact go2
def dY (a b:Ext):Option (Ext):=
 (oj a.A b.A).bind fun r_=>
 (oj a.B b.B).bind fun r_2=>
 some (Ext.mk r_ r_2)
theorem j1 {a b r} (h:dY a b=some r):Call tab ow 70 [.agg [I a.A,I a.B],.agg [I b.A,I b.B]] []=some (.agg [I r.A,I r.B],[]):=by
 rw [a9 (af:=gb) rfl]
 unfold dY at h
 simp only [gb,mX]
 have d1:= @zP
 exact go2
def sE (a b:Int):Option (Int):=
 some ((wrap .i64 ((wrap .i64 (a-b))+2130706433)).tmod 2130706433)
theorem Jk {a b r} (h:sE a b=some r):Call tab ow 208 [I a,I b] []=some (I r,[]):=by
 rw [a9 (af:=pa) rfl]
 unfold sE at h
 simp only [pa,zr]
 exact go2
def fN (a b:Ext):Option (Ext):=
 (sE a.A b.A).bind fun r_=>
 (sE a.B b.B).bind fun r_2=>
 some (Ext.mk r_ r_2)
theorem rF {a b r} (h:fN a b=some r):Call tab ow 179 [.agg [I a.A,I a.B],.agg [I b.A,I b.B]] []=some (.agg [I r.A,I r.B],[]):=by
 rw [a9 (af:=fA) rfl]
 unfold fN at h
 simp only [fA,lC]
 have d1:= @Jk
 exact go2
def dn (n low high:Int):Option (Bool):=
 br (decide (low≤n)) (
 some (decide (n≤high))) (
 some false)
theorem nC {n low high r} (h:dn n low high=some r):Call tab ow 72 [I n,I low,I high] []=some (B r,[]):=by
 rw [a9 (af:=l9) rfl]
 unfold dn at h
 simp only [l9,sU]
 exact go2
def gB (a:Int):Option (Bool):=
 (dn a 0 2130706432).bind fun r_=>
 some r_
theorem uW {a r} (h:gB a=some r):Call tab ow 186 [I a] []=some (B r,[]):=by
 rw [a9 (af:=ig) rfl]
 unfold gB at h
 simp only [ig,o7]
 have d1:= @nC
 exact go2
def l6 (a:Ext):Option (Bool):=
 (gB a.A).bind fun r_=>
 br r_ (
 (gB a.B).bind fun r_2=>
 some r_2) (
 some false)
theorem Cn {a r} (h:l6 a=some r):Call tab ow 135 [.agg [I a.A,I a.B]] []=some (B r,[]):=by
 rw [a9 (af:=le) rfl]
 unfold l6 at h
 simp only [le,sL]
 have d1:= @uW
 exact go2
def is (list2:List Ext):Int→Option ((Int)⊕(Unit⊕(Int×Bool)))
 |i=>
  br (decide (i<((list2.length:Nat):Int))) (
  (atL list2 i).bind fun x=>
  (l6 x).bind fun r_=>
  br (!r_) (
  some (.inr (.inl ()))) (
  some (.inl (wrap .i64 (i+1))))) (
  some (.inr (.inr (i,decide (i<((list2.length:Nat):Int))))))
abbrev lI (list2:List Ext) (s:Int):St:=⟨[(0,sl eExt list2),(3,I s)],[]⟩
abbrev ly (list2:List Ext):(Unit⊕(Int×Bool))→au×St:=alt (fun e=>((.ret,⟨[(2,B false)],[]⟩):au×St)) (fun e=>(.exit 0,⟨[(0,sl eExt list2),(3,I e.1),(7,B e.2)],[]⟩))
theorem rD {list2 s e} (h:Loop (is list2) s=some e):cf tab ow (.close [5004]) lD (lI list2 s)=some (ly list2 e):=by
 refine lrG (fun s o h=> ?_) h
 simp only [is] at h
 simp only [lI,ly,lD,lL]
 have d1:= @Cn
 exact go2
def gM (list:(List Ext)):Option (Bool):=
 (Loop (is list) 0).bind (alt (fun e_2=>
 some false) (fun e_3=>
 some true))
theorem vD {list r} (h:gM list=some r):Call tab ow 91 [sl eExt list] []=some (B r,[]):=by
 rw [a9 (af:=ic) rfl]
 unfold gM at h
 simp only [ic,ku]
 have d1:= @rD
 exact go2
def fG (a b:Int):Option (Int):=
 some ((wrap .i64 (a*b)).tmod 2130706433)
theorem yR {a b r} (h:fG a b=some r):Call tab ow 118 [I a,I b] []=some (I r,[]):=by
 rw [a9 (af:=j6) rfl]
 unfold fG at h
 simp only [j6,pv]
 exact go2
def nv (n:Int):Option (Ext):=
 some (Ext.mk n 0)
theorem tf {n r} (h:nv n=some r):Call tab ow 120 [I n] []=some (.agg [I r.A,I r.B],[]):=by
 rw [a9 (af:=l5) rfl]
 unfold nv at h
 simp only [l5,sQ]
 exact go2
def fH (a b:Int):Option (Int):=
 some ((wrap .i64 (a+b)).tmod 2130706433)
theorem pO {a b r} (h:fH a b=some r):Call tab ow 182 [I a,I b] []=some (I r,[]):=by
 rw [a9 (af:=j7) rfl]
 unfold fH at h
 simp only [j7,pR]
 exact go2
def fI (a b:Ext):Option (Ext):=
 (fG a.A b.A).bind fun r_=>
 (fG a.B b.B).bind fun r_2=>
 (fH r_ ((wrap .i64 (3*r_2)).tmod 2130706433)).bind fun r_3=>
 (fG a.A b.B).bind fun r_4=>
 (fG a.B b.A).bind fun r_5=>
 (fH r_4 r_5).bind fun r_6=>
 some (Ext.mk r_3 r_6)
theorem qv {a b r} (h:fI a b=some r):Call tab ow 119 [.agg [I a.A,I a.B],.agg [I b.A,I b.B]] []=some (.agg [I r.A,I r.B],[]):=by
 rw [a9 (af:=jd) rfl]
 unfold fI at h
 simp only [jd,rj]
 have d1:= @yR
 have d2:= @pO
 exact go2
def kD (a b:Ext):Option (Ext):=
 (fH a.A b.A).bind fun r_=>
 (fH a.B b.B).bind fun r_2=>
 some (Ext.mk r_ r_2)
theorem yK {a b r} (h:kD a b=some r):Call tab ow 121 [.agg [I a.A,I a.B],.agg [I b.A,I b.B]] []=some (.agg [I r.A,I r.B],[]):=by
 rw [a9 (af:=j3) rfl]
 unfold kD at h
 simp only [j3,qr]
 have d1:= @pO
 exact go2
def iL (a b:Int):Option (Int):=
 some ((wrap .i64 ((wrap .i64 (a+2130706433))-b)).tmod 2130706433)
theorem y5 {a b r} (h:iL a b=some r):Call tab ow 183 [I a,I b] []=some (I r,[]):=by
 rw [a9 (af:=iX) rfl]
 unfold iL at h
 simp only [iX,q6]
 exact go2
def kA (a b:Ext):Option (Ext):=
 (iL a.A b.A).bind fun r_=>
 (iL a.B b.B).bind fun r_2=>
 some (Ext.mk r_ r_2)
theorem yP {a b r} (h:kA a b=some r):Call tab ow 122 [.agg [I a.A,I a.B],.agg [I b.A,I b.B]] []=some (.agg [I r.A,I r.B],[]):=by
 rw [a9 (af:=iZ) rfl]
 unfold kA at h
 simp only [iZ,re]
 have d1:= @y5
 exact go2
def lh (a b:Ext):Option (Bool):=
 br (a.A !=b.A) (
 some false) (
 br (a.B !=b.B) (
 some false) (
 some true))
theorem Bb {a b r} (h:lh a b=some r):Call tab ow 81 [.agg [I a.A,I a.B],.agg [I b.A,I b.B]] []=some (B r,[]):=by
 rw [a9 (af:=kY) rfl]
 unfold lh at h
 simp only [kY,ta]
 exact go2
def jk (a2 b2:List Ext):Int→Option ((Int)⊕(Unit⊕(Int×Bool)))
 |i=>
  br (decide (i<((a2.length:Nat):Int))) (
  (atL a2 i).bind fun x=>
  (atL b2 i).bind fun x2=>
  (lh x x2).bind fun r_=>
  br (!r_) (
  some (.inr (.inl ()))) (
  some (.inl (wrap .i64 (i+1))))) (
  some (.inr (.inr (i,decide (i<((a2.length:Nat):Int))))))
abbrev ni (a2 b2:List Ext) (s:Int):St:=⟨[(0,sl eExt a2),(1,sl eExt b2),(5,I s)],[]⟩
abbrev ng (a2 b2:List Ext):(Unit⊕(Int×Bool))→au×St:=alt (fun e=>((.ret,⟨[(4,B false)],[]⟩):au×St)) (fun e=>(.exit 0,⟨[(0,sl eExt a2),(1,sl eExt b2),(5,I e.1),(14,B e.2)],[]⟩))
theorem uf {a2 b2 s e} (h:Loop (jk a2 b2) s=some e):cf tab ow (.close [7008]) mp (ni a2 b2 s)=some (ng a2 b2 e):=by
 refine lrG (fun s o h=> ?_) h
 simp only [jk] at h
 simp only [ni,ng,mp,mI]
 have d1:= @Bb
 exact go2
def fO (a b:(List Ext)):Option (Bool):=
 br (((a.length:Nat):Int) !=((b.length:Nat):Int)) (
 some false) (
 (Loop (jk a b) 0).bind (alt (fun e_2=>
 some false) (fun e_3=>
 some true)))
theorem z4 {a b r} (h:fO a b=some r):Call tab ow 33 [sl eExt a,sl eExt b] []=some (B r,[]):=by
 rw [a9 (af:=iT) rfl]
 unfold fO at h
 simp only [iT,mc]
 have d1:= @uf
 exact go2
def dZ (a:(List Entry)) (left:Int):Option (Int):=
 br (decide ((wrap .i64 (left-((a.length:Nat):Int)))<0)) (
 some (-1:Int)) (
 some (wrap .i64 (left-((a.length:Nat):Int))))
theorem tS {a left r} (h:dZ a left=some r):Call tab ow 89 [sl eEntry a,I left] []=some (I r,[]):=by
 rw [a9 (af:=gu) rfl]
 unfold dZ at h
 simp only [gu,mZ]
 exact go2
def i6 (a:System) (left:Int):Option (Int):=
 (dZ a.A left).bind fun r_=>
 br (decide (r_<0)) (
 some (-1:Int)) (
 (dZ a.B r_).bind fun r_2=>
 br (decide (r_2<0)) (
 some (-1:Int)) (
 (dZ a.C r_2).bind fun r_3=>
 br (decide (r_3<0)) (
 some (-1:Int)) (
 some r_3)))
theorem tz {a left r} (h:i6 a left=some r):Call tab ow 26 [.agg [I a.Rows,I a.Cols,I a.Publics,sl eEntry a.A,sl eEntry a.B,sl eEntry a.C],I left] []=some (I r,[]):=by
 rw [a9 (af:=gt) rfl]
 unfold i6 at h
 simp only [gt,mj]
 have d1:= @tS
 exact go2
def jW (a:(List Ext)) (left:Int):Option (Int):=
 br (decide ((wrap .i64 (left-((a.length:Nat):Int)))<0)) (
 some (-1:Int)) (
 some (wrap .i64 (left-((a.length:Nat):Int))))
theorem z2 {a left r} (h:jW a left=some r):Call tab ow 27 [sl eExt a,I left] []=some (I r,[]):=by
 rw [a9 (af:=ja) rfl]
 unfold jW at h
 simp only [ja,pG]
 exact go2
def kZ (a:Entry):Option (Entry):=
 some a
theorem vS {a r} (h:kZ a=some r):Call tab ow 154 [.agg [I a.Row,I a.Col,I a.Value]] []=some (.agg [I r.Row,I r.Col,I r.Value],[]):=by
 rw [a9 (af:=ib) rfl]
 unfold kZ at h
 simp only [ib,ov]
 exact go2
section
theorem rN: ∀k,oN 2002 k [I (0:Int),I (0:Int),I (0:Int)]=rws eEntry (List.replicate k (Entry.mk (0:Int) (0:Int) (0:Int))):=fun _=>F5 eEntry (Entry.mk (0:Int) (0:Int) (0:Int)) _ _
attribute [local go_sem] rN
def dg (a2:List Entry):(List Entry)×Int→Option (((List Entry)×Int)⊕(((List Entry)×Int×Bool)))
 | (l,i)=>
   br (decide (i<((a2.length:Nat):Int))) (
   (atL a2 i).bind fun x=>
   (kZ x).bind fun r_=>
   br (decide (0≤i)) (
   br (decide (i.toNat<l.length)) (
   (l[i.toNat]?).bind fun x2=>
   some (.inl ((l.set i.toNat r_),(wrap .i64 (i+1))))) none) none) (
   some (.inr (l,i,decide (i<((a2.length:Nat):Int)))))
abbrev jF (a2:List Entry) (s:(List Entry)×Int):St:=⟨[(0,sl eEntry a2),(3,.sl 2002 0 s.1.length),(4,I s.2)],[(2002,⟨3,false,rws eEntry s.1⟩)]⟩
abbrev ky (a2:List Entry):((List Entry)×Int×Bool)→au×St:=fun e=>(.exit 0,⟨[(0,sl eEntry a2),(3,.sl 2002 0 e.1.length),(4,I e.2.1),(11,B e.2.2)],[(2002,⟨3,false,rws eEntry e.1⟩)]⟩)
theorem qf {a2 s e} (h:Loop (dg a2) s=some e):cf tab ow (.close [6006]) kw (jF a2 s)=some (ky a2 e):=by
 refine lrG (fun s o h=> ?_) h
 obtain ⟨_,_⟩:=s
 simp only [dg] at h
 simp only [jF,ky,kw,jO]
 have d1:= @vS
 exact go2
def e7 (a:(List Entry)):Option ((List Entry)):=
 br (nw ((a.length:Nat):Int) ((a.length:Nat):Int) 24) (
 (Loop (dg a) ((List.replicate (((a.length:Nat):Int).toNat) (Entry.mk (0:Int) (0:Int) (0:Int))),(0:Int))).bind fun e_=>
 some e_.1) none
theorem uT {a r} (h:e7 a=some r):Call tab ow 93 [sl eEntry a] []=some (.sl 0 0 r.length,[⟨3,false,rws eEntry r⟩]):=by
 rw [a9 (af:=gw) rfl]
 unfold e7 at h
 simp only [gw,jg]
 have d1:= @qf
 exact go2
end
def cI (a:System):Option (Int×Int×Int×(List Entry)×(List Entry)×(List Entry)):=
 (e7 a.A).bind fun r_=>
 (e7 a.B).bind fun r_2=>
 (e7 a.C).bind fun r_3=>
 some (a.Rows,a.Cols,a.Publics,r_,r_2,r_3)
theorem rR {a r} (h:cI a=some r):Call tab ow 29 [.agg [I a.Rows,I a.Cols,I a.Publics,sl eEntry a.A,sl eEntry a.B,sl eEntry a.C]] []=some (.agg [I r.1,I r.2.1,I r.2.2.1,.sl 0 0 r.2.2.2.1.length,.sl 1 0 r.2.2.2.2.1.length,.sl 2 0 r.2.2.2.2.2.length],[⟨3,false,rws eEntry r.2.2.2.1⟩,⟨3,false,rws eEntry r.2.2.2.2.1⟩,⟨3,false,rws eEntry r.2.2.2.2.2⟩]):=by
 rw [a9 (af:=fD) rfl]
 unfold cI at h
 simp only [fD,lv]
 have d1:= @uT
 exact go2
def db (a:Ext):Option (Ext):=
 some a
theorem so {a r} (h:db a=some r):Call tab ow 31 [.agg [I a.A,I a.B]] []=some (.agg [I r.A,I r.B],[]):=by
 rw [a9 (af:=kW) rfl]
 unfold db at h
 simp only [kW,sM]
 exact go2
section
theorem w6: ∀k,oN 2002 k [I (0:Int),I (0:Int)]=rws eExt (List.replicate k (Ext.mk (0:Int) (0:Int))):=fun _=>F5 eExt (Ext.mk (0:Int) (0:Int)) _ _
attribute [local go_sem] w6
def g9 (a2:List Ext):(List Ext)×Int→Option (((List Ext)×Int)⊕(((List Ext)×Int×Bool)))
 | (l,i)=>
   br (decide (i<((a2.length:Nat):Int))) (
   (atL a2 i).bind fun x=>
   (db x).bind fun r_=>
   br (decide (0≤i)) (
   br (decide (i.toNat<l.length)) (
   (l[i.toNat]?).bind fun x2=>
   some (.inl ((l.set i.toNat r_),(wrap .i64 (i+1))))) none) none) (
   some (.inr (l,i,decide (i<((a2.length:Nat):Int)))))
abbrev mi (a2:List Ext) (s:(List Ext)×Int):St:=⟨[(0,sl eExt a2),(3,.sl 2002 0 s.1.length),(4,I s.2)],[(2002,⟨2,false,rws eExt s.1⟩)]⟩
abbrev mg (a2:List Ext):((List Ext)×Int×Bool)→au×St:=fun e=>(.exit 0,⟨[(0,sl eExt a2),(3,.sl 2002 0 e.1.length),(4,I e.2.1),(11,B e.2.2)],[(2002,⟨2,false,rws eExt e.1⟩)]⟩)
theorem tv {a2 s e} (h:Loop (g9 a2) s=some e):cf tab ow (.close [6006]) mG (mi a2 s)=some (mg a2 e):=by
 refine lrG (fun s o h=> ?_) h
 obtain ⟨_,_⟩:=s
 simp only [g9] at h
 simp only [mi,mg,mG,nu]
 have d1:= @so
 exact go2
def fJ (a:(List Ext)):Option ((List Ext)):=
 br (nw ((a.length:Nat):Int) ((a.length:Nat):Int) 16) (
 (Loop (g9 a) ((List.replicate (((a.length:Nat):Int).toNat) (Ext.mk (0:Int) (0:Int))),(0:Int))).bind fun e_=>
 some e_.1) none
theorem xA {a r} (h:fJ a=some r):Call tab ow 30 [sl eExt a] []=some (.sl 0 0 r.length,[⟨2,false,rws eExt r⟩]):=by
 rw [a9 (af:=j0) rfl]
 unfold fJ at h
 simp only [j0,m8]
 have d1:= @tv
 exact go2
end
def dH (ListtoArray2:List Entry) (t t2:Int):Int→Option ((Int)⊕((Int×Int×Int)⊕(Int×Bool)))
 |t3=>
  br (decide (t3<((ListtoArray2.length:Nat):Int))) (
  (atL ListtoArray2 t3).bind fun x=>
  br (decide (0≤(wrap .u64 t))) (
  (dn x.Row 0 (wrap .i64 ((aJ .i64 1 (wrap .u64 t))-1))).bind fun r_=>
  br (!r_) (
  some (.inr (.inl (x.Row,x.Col,x.Value)))) (
  br (decide (0≤(wrap .u64 t2))) (
  (dn x.Col 0 (wrap .i64 ((aJ .i64 1 (wrap .u64 t2))-1))).bind fun r_2=>
  br (!r_2) (
  some (.inr (.inl (x.Row,x.Col,x.Value)))) (
  (dn x.Value 1 2130706432).bind fun r_3=>
  br (!r_3) (
  some (.inr (.inl (x.Row,x.Col,x.Value)))) (
  br (decide (t3>0)) (
  (atL ListtoArray2 (wrap .i64 (t3-1))).bind fun x2=>
  br (decide (x2.Row>x.Row)) (
  some (.inr (.inl (x.Row,x.Col,x.Value)))) (
  (atL ListtoArray2 (wrap .i64 (t3-1))).bind fun x3=>
  br (x3.Row==x.Row) (
  (atL ListtoArray2 (wrap .i64 (t3-1))).bind fun x4=>
  br (decide (x4.Col≥x.Col)) (
  some (.inr (.inl (x.Row,x.Col,x.Value)))) (
  some (.inl (wrap .i64 (t3+1))))) (
  some (.inl (wrap .i64 (t3+1)))))) (
  some (.inl (wrap .i64 (t3+1))))))) none)) none) (
  some (.inr (.inr (t3,decide (t3<((ListtoArray2.length:Nat):Int))))))
abbrev lH (ListtoArray2:List Entry) (t t2 s:Int):St:=⟨[(0,sl eEntry ListtoArray2),(1,I t),(2,I t2),(7,I s)],[]⟩
abbrev lz (ListtoArray2:List Entry) (t t2:Int):((Int×Int×Int)⊕(Int×Bool))→au×St:=alt (fun e=>((.ret,⟨[(6,B false)],[(7004,⟨3,true,[[I e.1,I e.2.1,I e.2.2]]⟩)]⟩):au×St)) (fun e=>(.exit 0,⟨[(0,sl eEntry ListtoArray2),(1,I t),(2,I t2),(7,I e.1),(15,B e.2)],[]⟩))
theorem si {ListtoArray2 t t2 s e} (h:Loop (dH ListtoArray2 t t2) s=some e):cf tab ow (.close [7004,8006,8015,8021]) lu (lH ListtoArray2 t t2 s)=some (lz ListtoArray2 t t2 e):=by
 refine lrG (fun s o h=> ?_) h
 simp only [dH] at h
 simp only [lH,lz,lu,lm]
 have d1:= @nC
 exact go2
def ff (ListtoArray:(List Entry)) (a a2:Int):Option (Bool):=
 br (decide (((ListtoArray.length:Nat):Int)>200)) (
 some false) (
 (Loop (dH ListtoArray a a2) 0).bind (alt (fun e_2=>
 some false) (fun e_3=>
 some true)))
theorem vw {ListtoArray a a2 r} (h:ff ListtoArray a a2=some r):Call tab ow 152 [sl eEntry ListtoArray,I a,I a2] []=some (B r,[]):=by
 rw [a9 (af:=im) rfl]
 unfold ff at h
 simp only [im,jM]
 have d1:= @si
 exact go2
def hG (s:System):Option (Bool):=
 (dn s.Rows 1 5).bind fun r_=>
 br r_ (
 (dn s.Cols 2 5).bind fun r_2=>
 br r_2 (
 br (decide (0≤(wrap .u64 (wrap .i64 (s.Cols-1))))) (
 (dn s.Publics 0 (wrap .i64 ((aJ .i64 1 (wrap .u64 (wrap .i64 (s.Cols-1))))-1))).bind fun r_3=>
 br r_3 (
 (ff s.A s.Rows s.Cols).bind fun r_4=>
 br r_4 (
 (ff s.B s.Rows s.Cols).bind fun r_5=>
 br r_5 (
 (ff s.C s.Rows s.Cols).bind fun r_6=>
 some r_6) (
 some false)) (
 some false)) (
 some false)) none) (
 some false)) (
 some false)
theorem tB {s r} (h:hG s=some r):Call tab ow 90 [.agg [I s.Rows,I s.Cols,I s.Publics,sl eEntry s.A,sl eEntry s.B,sl eEntry s.C]] []=some (B r,[]):=by
 rw [a9 (af:=gi) rfl]
 unfold hG at h
 simp only [gi,mK]
 have d1:= @nC
 have d2:= @vw
 exact go2
def jU:Option (Ext):=
 (nv 1).bind fun r_=>
 some r_
theorem qF {r} (h:jU=some r):Call tab ow 195 [] []=some (.agg [I r.A,I r.B],[]):=by
 rw [a9 (af:=j8) rfl]
 unfold jU at h
 simp only [j8,rz]
 have d1:= @tf
 exact go2
def iD (a:Ext):Option (Ext):=
 (jU).bind fun r_=>
 (kA r_ a).bind fun r_2=>
 some r_2
theorem vX {a r} (h:iD a=some r):Call tab ow 196 [.agg [I a.A,I a.B]] []=some (.agg [I r.A,I r.B],[]):=by
 rw [a9 (af:=ip) rfl]
 unfold iD at h
 simp only [ip,oo]
 have d1:= @qF
 have d2:= @yP
 exact go2
section
theorem yl:mkR 2001 []=rws eExt []:=rfl
attribute [local go_sem] yl
theorem yj: ∀k,oN 6003 k [I (0:Int),I (0:Int)]=rws eExt (List.replicate k (Ext.mk (0:Int) (0:Int))):=fun _=>F5 eExt (Ext.mk (0:Int) (0:Int)) _ _
attribute [local go_sem] yj
def eo (point3 out2:List Ext) (i2:Int):(List Ext)×Int→Option (((List Ext)×Int)⊕(((List Ext)×Int×Bool)))
 | (l,k)=>
   br (decide (k<((out2.length:Nat):Int))) (
   (atL out2 k).bind fun x=>
   (atL point3 i2).bind fun x2=>
   (iD x2).bind fun r_2=>
   (fI x r_2).bind fun r_3=>
   br (decide (0≤k)) (
   br (decide (k.toNat<l.length)) (
   (l[k.toNat]?).bind fun x3=>
   (atL out2 k).bind fun x4=>
   (atL point3 i2).bind fun x5=>
   (fI x4 x5).bind fun r_4=>
   br (decide (0≤(wrap .i64 (k+((out2.length:Nat):Int))))) (
   br (decide ((wrap .i64 (k+((out2.length:Nat):Int))).toNat<l.length)) (
   ((l.set k.toNat r_3)[(wrap .i64 (k+((out2.length:Nat):Int))).toNat]?).bind fun x6=>
   some (.inl (((l.set k.toNat r_3).set ((wrap .i64 (k+((out2.length:Nat):Int))).toNat) r_4),(wrap .i64 (k+1))))) none) none) none) none) (
   some (.inr (l,k,decide (k<((out2.length:Nat):Int)))))
abbrev o4 (point3 out2:List Ext) (i2:Int) (s:(List Ext)×Int):St:=⟨[(0,sl eExt point3),(3,sl eExt out2),(4,I i2),(5,.sl 6003 0 s.1.length),(6,I s.2)],[(6003,⟨2,false,rws eExt s.1⟩)]⟩
abbrev ox (point3 out2:List Ext) (i2:Int):((List Ext)×Int×Bool)→au×St:=fun e=>(.exit 2,⟨[(0,sl eExt point3),(3,sl eExt out2),(4,I i2),(5,.sl 6003 0 e.1.length),(6,I e.2.1),(22,B e.2.2)],[(6003,⟨2,false,rws eExt e.1⟩)]⟩)
theorem wg {point3 out2 i2 s e} (h:Loop (eo point3 out2 i2) s=some e):cf tab ow (.close [10010,10011,11013]) ou (o4 point3 out2 i2 s)=some (ox point3 out2 i2 e):=by
 refine lrG (fun s o h=> ?_) h
 obtain ⟨_,_⟩:=s
 simp only [eo] at h
 simp only [o4,ox,ou,ob]
 have d1:= @vX
 have d2:= @qv
 exact go2
def ed (point2:List Ext):(List Ext)×Int→Option (((List Ext)×Int)⊕(((List Ext)×Int×Bool)))
 | (out,i)=>
   br (decide (i<((point2.length:Nat):Int))) (
   br (nw (wrap .i64 (2*((out.length:Nat):Int))) (wrap .i64 (2*((out.length:Nat):Int))) 16) (
   (Loop (eo point2 out i) ((List.replicate ((wrap .i64 ((2:Int)*((out.length:Nat):Int))).toNat) (Ext.mk (0:Int) (0:Int))),(0:Int))).bind fun e_=>
   some (.inl (e_.1,(wrap .i64 (i+1))))) none) (
   some (.inr (out,i,decide (i<((point2.length:Nat):Int)))))
abbrev oz (point2:List Ext) (s:(List Ext)×Int):St:=⟨[(0,sl eExt point2),(3,sl eExt s.1),(4,I s.2)],[]⟩
abbrev o6 (point2:List Ext):((List Ext)×Int×Bool)→au×St:=fun e=>(.exit 0,⟨[(0,sl eExt point2),(3,sl eExt e.1),(4,I e.2.1),(12,B e.2.2)],[]⟩)
theorem vb {point2 s e} (h:Loop (ed point2) s=some e):cf tab ow (.close [6003,10010,10011,11013,2001]) oC (oz point2 s)=some (o6 point2 e):=by
 refine lrG (fun s o h=> ?_) h
 obtain ⟨_,_⟩:=s
 simp only [ed] at h
 simp only [oz,o6,oC,o2]
 have d1:= @wg
 exact go2
def n8 (point:(List Ext)):Option ((List Ext)):=
 (jU).bind fun r_=>
 (Loop (ed point) (([r_]:List Ext),0)).bind fun e_2=>
 some e_2.1
theorem Ah {point r} (h:n8 point=some r):Call tab ow 153 [sl eExt point] []=some (sl eExt r,[]):=by
 rw [a9 (af:=kR) rfl]
 unfold n8 at h
 simp only [kR,ld]
 have d1:= @qF
 have d2:= @vb
 exact go2
end
section
theorem s5: ∀k,oN 2004 k [I (0:Int),I (0:Int)]=rws eExt (List.replicate k (Ext.mk (0:Int) (0:Int))):=fun _=>F5 eExt (Ext.mk (0:Int) (0:Int)) _ _
attribute [local go_sem] s5
theorem rM:mkR 4006 []=rws (eL eEntry) []:=rfl
attribute [local go_sem] rM
def bf (l4:List (List Entry)) (t4 t5:List Ext) (t6 c7 c8 c9:Int) (c10 c11 c12:List Entry):(List Ext)×Int→Option (((List Ext)×Int)⊕(((List Ext)×Int×Bool)))
 | (l3,t7)=>
   br (decide (0≤t6)) (
   br (decide (t6.toNat<l4.length)) (
   (l4[t6.toNat]?).bind fun x=>
   br (decide (t7<((x.length:Nat):Int))) (
   br (decide (0≤t6)) (
   br (decide (t6.toNat<l4.length)) (
   (l4[t6.toNat]?).bind fun x2=>
   (atL x2 t7).bind fun x3=>
   br (decide (0≤x3.Col)) (
   br (decide (x3.Col.toNat<l3.length)) (
   (l3[x3.Col.toNat]?).bind fun x4=>
   (atL t4 t6).bind fun x5=>
   (nv x3.Value).bind fun r_2=>
   (atL t5 x3.Row).bind fun x6=>
   (fI r_2 x6).bind fun r_3=>
   (fI x5 r_3).bind fun r_4=>
   (kD x4 r_4).bind fun r_5=>
   br (decide (0≤x3.Col)) (
   br (decide (x3.Col.toNat<l3.length)) (
   (l3[x3.Col.toNat]?).bind fun x7=>
   some (.inl ((l3.set x3.Col.toNat r_5),(wrap .i64 (t7+1))))) none) none) none) none) none) none) (
   some (.inr (l3,t7,decide (t7<((x.length:Nat):Int)))))) none) none
abbrev i0 (l4:List (List Entry)) (c7 c8 c9:Int) (c10 c11 c12:List Entry) (l3:List Ext):List (Nat×Blk):=[(1000,⟨6,true,[[I c7,I c8,I c9,sl eEntry c10,sl eEntry c11,sl eEntry c12]]⟩),(2004,⟨2,false,rws eExt l3⟩),(4006,⟨1,false,rws (eL eEntry) l4⟩)]
abbrev kH (l4:List (List Entry)) (t4 t5:List Ext) (t6 c7 c8 c9:Int) (c10 c11 c12:List Entry) (s:(List Ext)×Int):St:=⟨[(2,sl eExt t4),(7,.sl 2004 0 s.1.length),(8,sl eExt t5),(9,.sl 4006 0 l4.length),(10,I t6),(11,I s.2)],i0 l4 c7 c8 c9 c10 c11 c12 s.1⟩
abbrev ki (l4:List (List Entry)) (t4 t5:List Ext) (t6 c7 c8 c9:Int) (c10 c11 c12:List Entry):((List Ext)×Int×Bool)→au×St:=fun e=>(.exit 2,⟨[(2,sl eExt t4),(7,.sl 2004 0 e.1.length),(8,sl eExt t5),(9,.sl 4006 0 l4.length),(10,I t6),(11,I e.2.1),(37,B e.2.2)],i0 l4 c7 c8 c9 c10 c11 c12 e.1⟩)
theorem pu {l4 t4 t5 t6 c7 c8 c9 c10 c11 c12 s e} (h:Loop (bf l4 t4 t5 t6 c7 c8 c9 c10 c11 c12) s=some e):cf tab ow (.close [11007,12014,12020,12021,12022]) kz (kH l4 t4 t5 t6 c7 c8 c9 c10 c11 c12 s)=some (ki l4 t4 t5 t6 c7 c8 c9 c10 c11 c12 e):=by
 refine lrG (fun s o h=> ?_) h
 obtain ⟨_,_⟩:=s
 simp only [bf] at h
 simp only [kH,ki,i0,kz,kO]
 have d1:= @tf
 have d2:= @qv
 have d3:= @yK
 exact go2
def cE (l2:List (List Entry)) (t t2:List Ext) (c c2 c3:Int) (c4 c5 c6:List Entry):(List Ext)×Int→Option (((List Ext)×Int)⊕(((List Ext)×Int×Bool)))
 | (l,t3)=>
   br (decide (t3<3)) (
   (Loop (bf l2 t t2 t3 c c2 c3 c4 c5 c6) (l,0)).bind fun e_=>
   some (.inl (e_.1,(wrap .i64 (t3+1))))) (
   some (.inr (l,t3,decide (t3<3))))
abbrev h9 (l2:List (List Entry)) (c c2 c3:Int) (c4 c5 c6:List Entry) (l:List Ext):List (Nat×Blk):=[(1000,⟨6,true,[[I c,I c2,I c3,sl eEntry c4,sl eEntry c5,sl eEntry c6]]⟩),(2004,⟨2,false,rws eExt l⟩),(4006,⟨1,false,rws (eL eEntry) l2⟩)]
abbrev jI (l2:List (List Entry)) (t t2:List Ext) (c c2 c3:Int) (c4 c5 c6:List Entry) (s:(List Ext)×Int):St:=⟨[(2,sl eExt t),(7,.sl 2004 0 s.1.length),(8,sl eExt t2),(9,.sl 4006 0 l2.length),(10,I s.2)],h9 l2 c c2 c3 c4 c5 c6 s.1⟩
abbrev jE (l2:List (List Entry)) (t t2:List Ext) (c c2 c3:Int) (c4 c5 c6:List Entry):((List Ext)×Int×Bool)→au×St:=fun e=>(.exit 0,⟨[(2,sl eExt t),(7,.sl 2004 0 e.1.length),(8,sl eExt t2),(9,.sl 4006 0 l2.length),(10,I e.2.1),(28,B e.2.2)],h9 l2 c c2 c3 c4 c5 c6 e.1⟩)
theorem ru {l2 t t2 c c2 c3 c4 c5 c6 s e} (h:Loop (cE l2 t t2 c c2 c3 c4 c5 c6) s=some e):cf tab ow (.close [11007,12014,12020,12021,12022]) jC (jI l2 t t2 c c2 c3 c4 c5 c6 s)=some (jE l2 t t2 c c2 c3 c4 c5 c6 e):=by
 refine lrG (fun s o h=> ?_) h
 obtain ⟨_,_⟩:=s
 simp only [cE] at h
 simp only [jI,jE,h9,jC,kN]
 have d1:= @pu
 exact go2
def hO (ListtoArray:System) (a a2:(List Ext)):Option ((List Ext)):=
 br (decide (0≤(wrap .u64 ListtoArray.Cols))) (
 br (nw (aJ .i64 1 (wrap .u64 ListtoArray.Cols)) (aJ .i64 1 (wrap .u64 ListtoArray.Cols)) 16) (
 (n8 a).bind fun r_=>
 (Loop (cE ([ListtoArray.A,ListtoArray.B,ListtoArray.C]:List (List Entry)) a2 r_ ListtoArray.Rows ListtoArray.Cols ListtoArray.Publics ListtoArray.A ListtoArray.B ListtoArray.C) ((List.replicate ((aJ .i64 (1:Int) (wrap .u64 ListtoArray.Cols)).toNat) (Ext.mk (0:Int) (0:Int))),(0:Int))).bind fun e_2=>
 some e_2.1) none) none
theorem tT {ListtoArray a a2 r} (h:hO ListtoArray a a2=some r):Call tab ow 92 [.agg [I ListtoArray.Rows,I ListtoArray.Cols,I ListtoArray.Publics,sl eEntry ListtoArray.A,sl eEntry ListtoArray.B,sl eEntry ListtoArray.C],sl eExt a,sl eExt a2] []=some (sl eExt r,[]):=by
 rw [a9 (af:=gq) rfl]
 unfold hO at h
 simp only [gq,gj]
 have d1:= @Ah
 have d2:= @ru
 exact go2
end
section
theorem p5:mkR 3000 []=rws eExt []:=rfl
attribute [local go_sem] p5
theorem oR:mkR 5000 []=rws eExt []:=rfl
attribute [local go_sem] oR
theorem oQ:mkR 4012 []=rws eExt []:=rfl
attribute [local go_sem] oQ
theorem oK:mkR 7000 []=rws eExt []:=rfl
attribute [local go_sem] oK
theorem oL:mkR 8005 []=rws eExt []:=rfl
attribute [local go_sem] oL
def eu (s:System) (rx:(List Ext)) (ra rb rc:Ext):Option ((List Ext)×Int):=
 br (decide (((rx.length:Nat):Int)>4096)) (
 some (([]:List Ext),2)) (
 (hG s).bind fun r_=>
 br (!r_) (
 some (([]:List Ext),1)) (
 (gM rx).bind fun r_2=>
 br (!r_2) (
 some (([]:List Ext),1)) (
 (gM ([ra,rb,rc]:List Ext)).bind fun r_3=>
 br (!r_3) (
 some (([]:List Ext),1)) (
 br (((rx.length:Nat):Int) !=s.Rows) (
 some (([]:List Ext),8)) (
 (hO s rx ([ra,rb,rc]:List Ext)).bind fun r_4=>
 some (r_4,0))))))
theorem r8 {s rx ra rb rc r} (h:eu s rx ra rb rc=some r):Call tab ow 28 [.agg [I s.Rows,I s.Cols,I s.Publics,sl eEntry s.A,sl eEntry s.B,sl eEntry s.C],sl eExt rx,.agg [I ra.A,I ra.B],.agg [I rb.A,I rb.B],.agg [I rc.A,I rc.B]] []=some (.tup [sl eExt r.1,I r.2],[]):=by
 rw [a9 (af:=eO) rfl]
 unfold eu at h
 simp only [eO,ke]
 have d1:= @tB
 have d2:= @vD
 have d3:= @tT
 exact go2
end
def ft (s:System):Option (Int):=
 br (decide (0≤(wrap .i64 (s.Cols-1)))) (
 some (aJ .i64 1 (wrap .i64 (s.Cols-1)))) none
theorem oS {s r} (h:ft s=some r):Call tab ow 155 [.agg [I s.Rows,I s.Cols,I s.Publics,sl eEntry s.A,sl eEntry s.B,sl eEntry s.C]] []=some (I r,[]):=by
 rw [a9 (af:=dP) rfl]
 unfold ft at h
 simp only [dP,jy]
 exact go2
def bH (s:System):Option (((List Entry)×(List Entry)×(List Entry))):=
 some (s.A,s.B,s.C)
theorem g6 {s r} (h:bH s=some r):Call tab ow 156 [.agg [I s.Rows,I s.Cols,I s.Publics,sl eEntry s.A,sl eEntry s.B,sl eEntry s.C]] []=some (.agg [sl eEntry r.1,sl eEntry r.2.1,sl eEntry r.2.2],[]):=by
 rw [a9 (af:=cu) rfl]
 unfold bH at h
 simp only [cu,fY]
 exact go2
def dF (x:Int):Option (Bool):=
 some (x !=x)
theorem oW {x r} (h:dF x=some r):Call tab ow 222 [I x] []=some (B r,[]):=by
 rw [a9 (af:=dT) rfl]
 unfold dF at h
 simp only [dT,jr]
 exact go2
def cj (x y:Int):Option (Int):=
 (dF x).bind fun r_=>
 (dF y).bind fun r_2=>
 br r_ (
 br r_2 (
 some 0) (
 some (-1:Int))) (
 br r_2 (
 some 1) (
 br (decide (x<y)) (
 some (-1:Int)) (
 br (decide (x>y)) (
 some 1) (
 some 0))))
theorem ms {x y r} (h:cj x y=some r):Call tab ow 215 [I x,I y] []=some (I r,[]):=by
 rw [a9 (af:=cY) rfl]
 unfold cj at h
 simp only [cY,ie]
 have d1:= @oW
 exact go2
def bt (zero:Int) (t:List Int) (t2:Int):Int→Option ((Int)⊕(Int⊕(Int×Bool)))
 |t3=>
  br (decide (t3<t2)) (
  (atL t t3).bind fun x=>
  br (x !=zero) (
  some (.inr (.inl x))) (
  some (.inl (wrap .i64 (t3+1))))) (
  some (.inr (.inr (t3,decide (t3<t2)))))
abbrev jH (zero:Int) (t:List Int) (t2 s:Int):St:=⟨[(3,I zero),(6,sl eI t),(7,I t2),(8,I s)],[]⟩
abbrev jK (zero:Int) (t:List Int) (t2:Int):(Int⊕(Int×Bool))→au×St:=alt (fun e=>((.ret,⟨[(2,I e)],[]⟩):au×St)) (fun e=>(.exit 0,⟨[(3,I zero),(6,sl eI t),(7,I t2),(8,I e.1),(9,B e.2)],[]⟩))
theorem qO {zero t t2 s e} (h:Loop (bt zero t t2) s=some e):cf tab ow (.close []) kf (jH zero t t2 s)=some (jK zero t t2 e):=by
 refine lrG (fun s o h=> ?_) h
 simp only [bt] at h
 simp only [jH,jK,kf,k9]
 exact go2
def gS (vals:(List Int)):Option (Int):=
 (Loop (bt 0 vals ((vals.length:Nat):Int)) 0).bind (alt (fun e_2=>
 some e_2) (fun e_3=>
 some 0))
theorem uj {vals r} (h:gS vals=some r):Call tab ow 214 [sl eI vals] []=some (I r,[]):=by
 rw [a9 (af:=gr) rfl]
 unfold gS at h
 simp only [gr,je]
 have d1:= @qO
 exact go2
section
theorem nB:mkR 2010 []=rws eI []:=rfl
attribute [local go_sem] nB
def dE (e_ f:Entry):Option (Int):=
 (cj e_.Row f.Row).bind fun r_=>
 (cj e_.Col f.Col).bind fun r_2=>
 (gS ([r_,r_2]:List Int)).bind fun r_3=>
 some r_3
theorem oX {e_ f r} (h:dE e_ f=some r):Call tab ow 197 [.agg [I e_.Row,I e_.Col,I e_.Value],.agg [I f.Row,I f.Col,I f.Value]] []=some (I r,[]):=by
 rw [a9 (af:=dU) rfl]
 unfold dE at h
 simp only [dU,jq]
 have d1:= @ms
 have d2:= @uj
 exact go2
end
def dj (list2:List Entry) (rows2 cols2:Int) (t:List Entry) (t2:Int):Int→Option ((Int)⊕((Int×Int×Int)⊕(Int×Bool)))
 |t3=>
  br (decide (t3<t2)) (
  (atL t t3).bind fun x=>
  (nG x.Row 0 (wrap .i64 (rows2-1))).bind fun r_=>
  br (!r_) (
  some (.inr (.inl (x.Row,x.Col,x.Value)))) (
  (nG x.Col 0 (wrap .i64 (cols2-1))).bind fun r_2=>
  br (!r_2) (
  some (.inr (.inl (x.Row,x.Col,x.Value)))) (
  (nG x.Value 1 2130706432).bind fun r_3=>
  br (!r_3) (
  some (.inr (.inl (x.Row,x.Col,x.Value)))) (
  br (decide (t3>0)) (
  (atL list2 (wrap .i64 (t3-1))).bind fun x2=>
  (dE x2 x).bind fun r_4=>
  br (decide (r_4≥0)) (
  some (.inr (.inl (x.Row,x.Col,x.Value)))) (
  some (.inl (wrap .i64 (t3+1))))) (
  some (.inl (wrap .i64 (t3+1)))))))) (
  some (.inr (.inr (t3,decide (t3<t2)))))
abbrev jB (list2:List Entry) (rows2 cols2:Int) (t:List Entry) (t2 s:Int):St:=⟨[(0,sl eEntry list2),(1,I rows2),(2,I cols2),(9,sl eEntry t),(10,I t2),(11,I s)],[]⟩
abbrev kC (list2:List Entry) (rows2 cols2:Int) (t:List Entry) (t2:Int):((Int×Int×Int)⊕(Int×Bool))→au×St:=alt (fun e=>((.ret,⟨[(6,B false)],[(4003,⟨3,true,[[I e.1,I e.2.1,I e.2.2]]⟩)]⟩):au×St)) (fun e=>(.exit 0,⟨[(0,sl eEntry list2),(1,I rows2),(2,I cols2),(9,sl eEntry t),(10,I t2),(11,I e.1),(12,B e.2)],[]⟩))
theorem pI {list2 rows2 cols2 t t2 s e} (h:Loop (dj list2 rows2 cols2 t t2) s=some e):cf tab ow (.close [4003,5004,5011,5017,5030]) kQ (jB list2 rows2 cols2 t t2 s)=some (kC list2 rows2 cols2 t t2 e):=by
 refine lrG (fun s o h=> ?_) h
 simp only [dj] at h
 simp only [jB,kC,kQ,kE]
 have d1:= @pM
 have d2:= @oX
 exact go2
def e5 (list:(List Entry)) (rows cols:Int):Option (Bool):=
 (Loop (dj list rows cols list ((list.length:Nat):Int)) 0).bind (alt (fun e_2=>
 some false) (fun e_3=>
 some (decide (((list.length:Nat):Int)≤200))))
theorem j9 {list rows cols r} (h:e5 list rows cols=some r):Call tab ow 157 [sl eEntry list,I rows,I cols] []=some (B r,[]):=by
 rw [a9 (af:=gk) rfl]
 unfold e5 at h
 simp only [gk,jj]
 have d1:= @pI
 exact go2
def i4 (s:System):Option (Bool):=
 (nG s.Rows 1 5).bind fun r_=>
 br (!r_) (
 some false) (
 (nG s.Cols 2 5).bind fun r_2=>
 br (!r_2) (
 some false) (
 (ft s).bind fun r_3=>
 (nG s.Publics 0 (wrap .i64 (r_3-1))).bind fun r_4=>
 br (!r_4) (
 some false) (
 (bH s).bind fun r_5=>
 br (decide (0≤s.Rows)) (
 br (decide (0≤s.Cols)) (
 (e5 r_5.1 (aJ .i64 1 s.Rows) (aJ .i64 1 s.Cols)).bind fun r_6=>
 br (!r_6) (
 some false) (
 br (decide (0≤s.Rows)) (
 br (decide (0≤s.Cols)) (
 (e5 r_5.2.1 (aJ .i64 1 s.Rows) (aJ .i64 1 s.Cols)).bind fun r_7=>
 br (!r_7) (
 some false) (
 br (decide (0≤s.Rows)) (
 br (decide (0≤s.Cols)) (
 (e5 r_5.2.2 (aJ .i64 1 s.Rows) (aJ .i64 1 s.Cols)).bind fun r_8=>
 br (!r_8) (
 some false) (
 some true)) none) none)) none) none)) none) none)))
theorem uE {s r} (h:i4 s=some r):Call tab ow 94 [.agg [I s.Rows,I s.Cols,I s.Publics,sl eEntry s.A,sl eEntry s.B,sl eEntry s.C]] []=some (B r,[]):=by
 rw [a9 (af:=gp) rfl]
 unfold i4 at h
 simp+decide only [gp,j4,go_sem,reduceIte,Nat.reduceAdd,Int.reduceAdd,Int.reduceMul,Int.reduceSub]
 obtain ⟨r_,h1,h⟩:=bd h
 refine du (pM h1) ?_
 simp+decide only [go_sem,reduceIte,Nat.reduceAdd,Int.reduceAdd,Int.reduceMul,Int.reduceSub]
 rcases brc h with ⟨hb,h⟩|⟨hb,h⟩
 ·refine mw hb ?_
  obtain rfl:=Option.some.inj h
  first|rfl| (simp only [List.length_set,go_sem];done)
 ·refine Cp hb ?_
  obtain ⟨r_2,h1,h⟩:=bd h
  refine du (pM h1) ?_
  simp+decide only [go_sem,reduceIte,Nat.reduceAdd,Int.reduceAdd,Int.reduceMul,Int.reduceSub]
  rcases brc h with ⟨hb,h⟩|⟨hb,h⟩
  ·refine mw hb ?_
   obtain rfl:=Option.some.inj h
   first|rfl| (simp only [List.length_set,go_sem];done)
  ·refine Cp hb ?_
   obtain ⟨r_3,h1,h⟩:=bd h
   refine du (oS h1) ?_
   simp+decide only [go_sem,reduceIte,Nat.reduceAdd,Int.reduceAdd,Int.reduceMul,Int.reduceSub]
   obtain ⟨r_4,h1,h⟩:=bd h
   refine du (pM h1) ?_
   simp+decide only [go_sem,reduceIte,Nat.reduceAdd,Int.reduceAdd,Int.reduceMul,Int.reduceSub]
   rcases brc h with ⟨hb,h⟩|⟨hb,h⟩
   ·refine mw hb ?_
    obtain rfl:=Option.some.inj h
    first|rfl| (simp only [List.length_set,go_sem];done)
   ·refine Cp hb ?_
    obtain ⟨r_5,h1,h⟩:=bd h
    refine pF (g6 h1) ?_
    simp+decide only [go_sem,reduceIte,Nat.reduceAdd,Int.reduceAdd,Int.reduceMul,Int.reduceSub]
    refine ee ?_
    simp+decide only [mkL,go_sem,reduceIte,Nat.reduceAdd,Int.reduceAdd,Int.reduceMul,Int.reduceSub]
    obtain ⟨hb,h⟩:=brg h
    refine mw hb ?_
    obtain ⟨hb,h⟩:=brg h
    refine mw hb ?_
    obtain ⟨r_6,h1,h⟩:=bd h
    refine du (j9 h1) ?_
    simp+decide only [go_sem,reduceIte,Nat.reduceAdd,Int.reduceAdd,Int.reduceMul,Int.reduceSub]
    rcases brc h with ⟨hb,h⟩|⟨hb,h⟩
    ·refine mw hb ?_
     obtain rfl:=Option.some.inj h
     first|rfl| (simp only [List.length_set,go_sem];done)
    ·refine Cp hb ?_
     refine ee ?_
     simp+decide only [mkL,go_sem,reduceIte,Nat.reduceAdd,Int.reduceAdd,Int.reduceMul,Int.reduceSub]
     obtain ⟨hb,h⟩:=brg h
     refine mw hb ?_
     obtain ⟨hb,h⟩:=brg h
     refine mw hb ?_
     obtain ⟨r_7,h1,h⟩:=bd h
     refine du (j9 h1) ?_
     simp+decide only [go_sem,reduceIte,Nat.reduceAdd,Int.reduceAdd,Int.reduceMul,Int.reduceSub]
     rcases brc h with ⟨hb,h⟩|⟨hb,h⟩
     ·refine mw hb ?_
      obtain rfl:=Option.some.inj h
      first|rfl| (simp only [List.length_set,go_sem];done)
     ·refine Cp hb ?_
      refine ee ?_
      simp+decide only [mkL,go_sem,reduceIte,Nat.reduceAdd,Int.reduceAdd,Int.reduceMul,Int.reduceSub]
      obtain ⟨hb,h⟩:=brg h
      refine mw hb ?_
      obtain ⟨hb,h⟩:=brg h
      refine mw hb ?_
      obtain ⟨r_8,h1,h⟩:=bd h
      refine du (j9 h1) ?_
      simp+decide only [go_sem,reduceIte,Nat.reduceAdd,Int.reduceAdd,Int.reduceMul,Int.reduceSub]
      rcases brc h with ⟨hb,h⟩|⟨hb,h⟩
      ·refine mw hb ?_
       obtain rfl:=Option.some.inj h
       first|rfl| (simp only [List.length_set,go_sem];done)
      ·refine Cp hb ?_
       refine ee ?_
       simp+decide only [mkL,go_sem,reduceIte,Nat.reduceAdd,Int.reduceAdd,Int.reduceMul,Int.reduceSub]
       obtain rfl:=Option.some.inj h
       first|rfl| (simp only [List.length_set,go_sem];done)
def xf:Option (Ext):=
 some (Ext.mk 1 0)
theorem zz {r} (h:xf=some r):Call tab ow 198 [] []=some (.agg [I r.A,I r.B],[]):=by
 rw [a9 (af:=p7) rfl]
 unfold xf at h
 simp only [p7,A8]
 exact go2
def cp (a b:Ext):Option (Ext):=
 (kB a.A b.A).bind fun r_=>
 (kB a.B b.B).bind fun r_2=>
 (kB 3 r_2).bind fun r_3=>
 (oj r_ r_3).bind fun r_4=>
 (kB a.A b.B).bind fun r_5=>
 (kB a.B b.A).bind fun r_6=>
 (oj r_5 r_6).bind fun r_7=>
 some (Ext.mk r_4 r_7)
theorem fu {a b r} (h:cp a b=some r):Call tab ow 69 [.agg [I a.A,I a.B],.agg [I b.A,I b.B]] []=some (.agg [I r.A,I r.B],[]):=by
 rw [a9 (af:=fm) rfl]
 unfold cp at h
 simp only [fm,ll]
 have d1:= @zs
 have d2:= @zP
 exact go2
section
theorem uJ:mkR 2001 []=rws eExt []:=rfl
attribute [local go_sem] uJ
theorem tM:mkR 6000 []=rws eExt []:=rfl
attribute [local go_sem] tM
theorem th:mkR 6001 []=rws eExt []:=rfl
attribute [local go_sem] th
theorem tL:mkR 10006 []=rws eExt []:=rfl
attribute [local go_sem] tL
theorem tK:mkR 10012 []=rws eExt []:=rfl
attribute [local go_sem] tK
def cU (t4:List Ext) (t5 t6:Int) (t7:List Ext) (t8 c c2:Int):(List Ext)×(List Ext)×Int→Option (((List Ext)×(List Ext)×Int)⊕(((List Ext)×(List Ext)×Int×Bool)))
 | (l,l2,t9)=>
   br (decide (t9<t8)) (
   (atL t7 t9).bind fun x2=>
   (xf).bind fun r_2=>
   (fN r_2 (Ext.mk c c2)).bind fun r_3=>
   (cp x2 r_3).bind fun r_4=>
   br (mH ((l++([r_4]:List Ext)).length) 16) (
   (cp x2 (Ext.mk c c2)).bind fun r_5=>
   br (mH ((l2++([r_5]:List Ext)).length) 16) (
   some (.inl ((l++([r_4]:List Ext)),(l2++([r_5]:List Ext)),(wrap .i64 (t9+1))))) none) none) (
   some (.inr (l,l2,t9,decide (t9<t8))))
abbrev ir (c c2:Int) (l l2:List Ext):List (Nat×Blk):=[(5002,⟨2,true,[[I c,I c2]]⟩),(6000,⟨2,false,rws eExt l⟩),(6001,⟨2,false,rws eExt l2⟩)]
abbrev lB (t4:List Ext) (t5 t6:Int) (t7:List Ext) (t8 c c2:Int) (s:(List Ext)×(List Ext)×Int):St:=⟨[(5,.ptr 5002 0 0 1),(6,.sl 6000 0 s.1.length),(7,.sl 6001 0 s.2.1.length),(12,sl eExt t4),(13,I t5),(14,I t6),(20,sl eExt t7),(21,I t8),(22,I s.2.2)],ir c c2 s.1 s.2.1⟩
abbrev lw (t4:List Ext) (t5 t6:Int) (t7:List Ext) (t8 c c2:Int):((List Ext)×(List Ext)×Int×Bool)→au×St:=fun e=>(.exit 2,⟨[(5,.ptr 5002 0 0 1),(6,.sl 6000 0 e.1.length),(7,.sl 6001 0 e.2.1.length),(12,sl eExt t4),(13,I t5),(14,I t6),(20,sl eExt t7),(21,I t8),(22,I e.2.2.1),(23,B e.2.2.2)],ir c c2 e.1 e.2.1⟩)
theorem rB {t4 t5 t6 t7 t8 c c2 s e} (h:Loop (cU t4 t5 t6 t7 t8 c c2) s=some e):cf tab ow (.close [9002,10002,10004,10005,10006,10007,10011,10012,10013]) lP (lB t4 t5 t6 t7 t8 c c2 s)=some (lw t4 t5 t6 t7 t8 c c2 e):=by
 refine lrG (fun s o h=> ?_) h
 obtain ⟨_,_,_⟩:=s
 simp only [cU] at h
 simp only [lB,lw,ir,lP,lQ]
 have d1:= @zz
 have d2:= @rF
 have d3:= @fu
 exact go2
def cT (t:List Ext) (t2:Int):(List Ext)×Int→Option (((List Ext)×Int)⊕(((List Ext)×Int×Bool)))
 | (out,t3)=>
   br (decide (t3<t2)) (
   (atL t t3).bind fun x=>
   (Loop (cU t t2 t3 out ((out.length:Nat):Int) x.A x.B) (([]:List Ext),([]:List Ext),0)).bind fun e_=>
   br (mH ((e_.1++e_.2.1).length) 16) (
   some (.inl ((e_.1++e_.2.1),(wrap .i64 (t3+1))))) none) (
   some (.inr (out,t3,decide (t3<t2))))
abbrev lR (t:List Ext) (t2:Int) (s:(List Ext)×Int):St:=⟨[(3,sl eExt s.1),(12,sl eExt t),(13,I t2),(14,I s.2)],[]⟩
abbrev lN (t:List Ext) (t2:Int):((List Ext)×Int×Bool)→au×St:=fun e=>(.exit 0,⟨[(3,sl eExt e.1),(12,sl eExt t),(13,I t2),(14,I e.2.1),(15,B e.2.2)],[]⟩)
theorem rT {t t2 s e} (h:Loop (cT t t2) s=some e):cf tab ow (.close [5002,6000,6001,9002,10002,10004,10005,10006,10007,10011,10012,10013,12002,2001]) lK (lR t t2 s)=some (lN t t2 e):=by
 refine lrG (fun s o h=> ?_) h
 obtain ⟨_,_⟩:=s
 simp only [cT] at h
 simp only [lR,lN,lK,lG]
 have d1:= @rB
 exact go2
def iN (point:(List Ext)):Option ((List Ext)):=
 (xf).bind fun r_=>
 (Loop (cT point ((point.length:Nat):Int)) (([r_]:List Ext),0)).bind fun e_2=>
 some e_2.1
theorem vF {point r} (h:iN point=some r):Call tab ow 158 [sl eExt point] []=some (sl eExt r,[]):=by
 rw [a9 (af:=ik) rfl]
 unfold iN at h
 simp only [ik,iq]
 have d1:= @zz
 have d2:= @rT
 exact go2
end
end
end Go.AI.Fn
set_option linter.unusedVariables false
set_option linter.unusedSimpArgs false
set_option maxRecDepth 100000
set_option maxHeartbeats 1000000
namespace Go.AI.Fn
noncomputable section
open IntKind (wrap)
section
theorem oO: ∀k,oN 2003 k [I (0:Int),I (0:Int)]=rws eExt (List.replicate k (Ext.mk (0:Int) (0:Int))):=fun _=>F5 eExt (Ext.mk (0:Int) (0:Int)) _ _
attribute [local go_sem] oO
def bA (rows:List Ext) (t t2 t3:List Entry) (t4:Int) (t5:List Entry) (t6 c c2 c3:Int) (c4 c5 c6:List Entry) (c7 c8 c9 c10 c11 c12:Int):(List Ext)×Int→Option (((List Ext)×Int)⊕(((List Ext)×Int×Bool)))
 | (l,t7)=>
   br (decide (t7<t6)) (
   (atL t5 t7).bind fun x=>
   br (decide (0≤x.Col)) (
   br (decide (x.Col.toNat<l.length)) (
   (l[x.Col.toNat]?).bind fun x2=>
   (atL rows x.Row).bind fun x3=>
   (cp (Ext.mk c7 c8) x3).bind fun r_3=>
   (cN r_3 x.Value).bind fun r_4=>
   (dY x2 r_4).bind fun r_5=>
   br (decide (0≤x.Col)) (
   br (decide (x.Col.toNat<l.length)) (
   (l[x.Col.toNat]?).bind fun x4=>
   some (.inl ((l.set x.Col.toNat r_5),(wrap .i64 (t7+1))))) none) none) none) none) (
   some (.inr (l,t7,decide (t7<t6))))
abbrev fg (c c2 c3:Int) (c4 c5 c6:List Entry) (c7 c8 c9 c10 c11 c12:Int) (l:List Ext):List (Nat×Blk):=[(1000,⟨6,true,[[I c,I c2,I c3,sl eEntry c4,sl eEntry c5,sl eEntry c6]]⟩),(1001,⟨6,true,[[I c7,I c8,I c9,I c10,I c11,I c12]]⟩),(2003,⟨2,false,rws eExt l⟩)]
abbrev iP (rows:List Ext) (t t2 t3:List Entry) (t4:Int) (t5:List Entry) (t6 c c2 c3:Int) (c4 c5 c6:List Entry) (c7 c8 c9 c10 c11 c12:Int) (s:(List Ext)×Int):St:=⟨[(5,.ptr 1001 0 0 1),(7,.sl 2003 0 s.1.length),(8,sl eExt rows),(9,I 0),(20,.agg [sl eEntry t,sl eEntry t2,sl eEntry t3]),(21,I t4),(25,sl eEntry t5),(26,I t6),(27,I s.2)],fg c c2 c3 c4 c5 c6 c7 c8 c9 c10 c11 c12 s.1⟩
abbrev iA (rows:List Ext) (t t2 t3:List Entry) (t4:Int) (t5:List Entry) (t6 c c2 c3:Int) (c4 c5 c6:List Entry) (c7 c8 c9 c10 c11 c12:Int):((List Ext)×Int×Bool)→au×St:=fun e=>(.exit 2,⟨[(5,.ptr 1001 0 0 1),(7,.sl 2003 0 e.1.length),(8,sl eExt rows),(9,I 0),(20,.agg [sl eEntry t,sl eEntry t2,sl eEntry t3]),(21,I t4),(25,sl eEntry t5),(26,I t6),(27,I e.2.1),(28,B e.2.2)],fg c c2 c3 c4 c5 c6 c7 c8 c9 c10 c11 c12 e.1⟩)
theorem nF {rows t t2 t3 t4 t5 t6 c c2 c3 c4 c5 c6 c7 c8 c9 c10 c11 c12 s e} (h:Loop (bA rows t t2 t3 t4 t5 t6 c c2 c3 c4 c5 c6 c7 c8 c9 c10 c11 c12) s=some e):cf tab ow (.close [8002,9016,9019,9020]) bO (iP rows t t2 t3 t4 t5 t6 c c2 c3 c4 c5 c6 c7 c8 c9 c10 c11 c12 s)=some (iA rows t t2 t3 t4 t5 t6 c c2 c3 c4 c5 c6 c7 c8 c9 c10 c11 c12 e):=by
 refine lrG (fun s o h=> ?_) h
 obtain ⟨_,_⟩:=s
 simp only [bA] at h
 simp only [iP,iA,fg,bO,dv]
 have d1:= @fu
 have d2:= @hJ
 have d3:= @j1
 exact go2
def dx (rows2:List Ext) (t8 t9 t10 t11:List Entry) (t12 c13 c14 c15:Int) (c16 c17 c18:List Entry) (c19 c20 c21 c22 c23 c24:Int):(List Ext)×Int→Option (((List Ext)×Int)⊕(((List Ext)×Int×Bool)))
 | (l2,t13)=>
   br (decide (t13<t12)) (
   (atL t11 t13).bind fun x5=>
   br (decide (0≤x5.Col)) (
   br (decide (x5.Col.toNat<l2.length)) (
   (l2[x5.Col.toNat]?).bind fun x6=>
   (atL rows2 x5.Row).bind fun x7=>
   (cp (Ext.mk c21 c22) x7).bind fun r_6=>
   (cN r_6 x5.Value).bind fun r_7=>
   (dY x6 r_7).bind fun r_8=>
   br (decide (0≤x5.Col)) (
   br (decide (x5.Col.toNat<l2.length)) (
   (l2[x5.Col.toNat]?).bind fun x8=>
   some (.inl ((l2.set x5.Col.toNat r_8),(wrap .i64 (t13+1))))) none) none) none) none) (
   some (.inr (l2,t13,decide (t13<t12))))
abbrev fe (c13 c14 c15:Int) (c16 c17 c18:List Entry) (c19 c20 c21 c22 c23 c24:Int) (l2:List Ext):List (Nat×Blk):=[(1000,⟨6,true,[[I c13,I c14,I c15,sl eEntry c16,sl eEntry c17,sl eEntry c18]]⟩),(1001,⟨6,true,[[I c19,I c20,I c21,I c22,I c23,I c24]]⟩),(2003,⟨2,false,rws eExt l2⟩)]
abbrev iS (rows2:List Ext) (t8 t9 t10 t11:List Entry) (t12 c13 c14 c15:Int) (c16 c17 c18:List Entry) (c19 c20 c21 c22 c23 c24:Int) (s:(List Ext)×Int):St:=⟨[(5,.ptr 1001 0 0 1),(7,.sl 2003 0 s.1.length),(8,sl eExt rows2),(9,I 1),(20,.agg [sl eEntry t8,sl eEntry t9,sl eEntry t10]),(21,I 1),(25,sl eEntry t11),(26,I t12),(27,I s.2)],fe c13 c14 c15 c16 c17 c18 c19 c20 c21 c22 c23 c24 s.1⟩
abbrev iQ (rows2:List Ext) (t8 t9 t10 t11:List Entry) (t12 c13 c14 c15:Int) (c16 c17 c18:List Entry) (c19 c20 c21 c22 c23 c24:Int):((List Ext)×Int×Bool)→au×St:=fun e=>(.exit 2,⟨[(5,.ptr 1001 0 0 1),(7,.sl 2003 0 e.1.length),(8,sl eExt rows2),(9,I 1),(20,.agg [sl eEntry t8,sl eEntry t9,sl eEntry t10]),(21,I 1),(25,sl eEntry t11),(26,I t12),(27,I e.2.1),(28,B e.2.2)],fe c13 c14 c15 c16 c17 c18 c19 c20 c21 c22 c23 c24 e.1⟩)
theorem nL {rows2 t8 t9 t10 t11 t12 c13 c14 c15 c16 c17 c18 c19 c20 c21 c22 c23 c24 s e} (h:Loop (dx rows2 t8 t9 t10 t11 t12 c13 c14 c15 c16 c17 c18 c19 c20 c21 c22 c23 c24) s=some e):cf tab ow (.close [8002,9016,9019,9020]) bO (iS rows2 t8 t9 t10 t11 t12 c13 c14 c15 c16 c17 c18 c19 c20 c21 c22 c23 c24 s)=some (iQ rows2 t8 t9 t10 t11 t12 c13 c14 c15 c16 c17 c18 c19 c20 c21 c22 c23 c24 e):=by
 refine lrG (fun s o h=> ?_) h
 obtain ⟨_,_⟩:=s
 simp only [dx] at h
 simp only [iS,iQ,fe,bO,dv]
 have d1:= @fu
 have d2:= @hJ
 have d3:= @j1
 exact go2
def dt (rows3:List Ext) (t14 t15 t16 t17:List Entry) (t18 c25 c26 c27:Int) (c28 c29 c30:List Entry) (c31 c32 c33 c34 c35 c36:Int):(List Ext)×Int→Option (((List Ext)×Int)⊕(((List Ext)×Int×Bool)))
 | (l3,t19)=>
   br (decide (t19<t18)) (
   (atL t17 t19).bind fun x9=>
   br (decide (0≤x9.Col)) (
   br (decide (x9.Col.toNat<l3.length)) (
   (l3[x9.Col.toNat]?).bind fun x10=>
   (atL rows3 x9.Row).bind fun x11=>
   (cp (Ext.mk c35 c36) x11).bind fun r_9=>
   (cN r_9 x9.Value).bind fun r_10=>
   (dY x10 r_10).bind fun r_11=>
   br (decide (0≤x9.Col)) (
   br (decide (x9.Col.toNat<l3.length)) (
   (l3[x9.Col.toNat]?).bind fun x12=>
   some (.inl ((l3.set x9.Col.toNat r_11),(wrap .i64 (t19+1))))) none) none) none) none) (
   some (.inr (l3,t19,decide (t19<t18))))
abbrev eX (c25 c26 c27:Int) (c28 c29 c30:List Entry) (c31 c32 c33 c34 c35 c36:Int) (l3:List Ext):List (Nat×Blk):=[(1000,⟨6,true,[[I c25,I c26,I c27,sl eEntry c28,sl eEntry c29,sl eEntry c30]]⟩),(1001,⟨6,true,[[I c31,I c32,I c33,I c34,I c35,I c36]]⟩),(2003,⟨2,false,rws eExt l3⟩)]
abbrev iM (rows3:List Ext) (t14 t15 t16 t17:List Entry) (t18 c25 c26 c27:Int) (c28 c29 c30:List Entry) (c31 c32 c33 c34 c35 c36:Int) (s:(List Ext)×Int):St:=⟨[(5,.ptr 1001 0 0 1),(7,.sl 2003 0 s.1.length),(8,sl eExt rows3),(9,I 2),(20,.agg [sl eEntry t14,sl eEntry t15,sl eEntry t16]),(21,I 2),(25,sl eEntry t17),(26,I t18),(27,I s.2)],eX c25 c26 c27 c28 c29 c30 c31 c32 c33 c34 c35 c36 s.1⟩
abbrev iK (rows3:List Ext) (t14 t15 t16 t17:List Entry) (t18 c25 c26 c27:Int) (c28 c29 c30:List Entry) (c31 c32 c33 c34 c35 c36:Int):((List Ext)×Int×Bool)→au×St:=fun e=>(.exit 2,⟨[(5,.ptr 1001 0 0 1),(7,.sl 2003 0 e.1.length),(8,sl eExt rows3),(9,I 2),(20,.agg [sl eEntry t14,sl eEntry t15,sl eEntry t16]),(21,I 2),(25,sl eEntry t17),(26,I t18),(27,I e.2.1),(28,B e.2.2)],eX c25 c26 c27 c28 c29 c30 c31 c32 c33 c34 c35 c36 e.1⟩)
theorem o0 {rows3 t14 t15 t16 t17 t18 c25 c26 c27 c28 c29 c30 c31 c32 c33 c34 c35 c36 s e} (h:Loop (dt rows3 t14 t15 t16 t17 t18 c25 c26 c27 c28 c29 c30 c31 c32 c33 c34 c35 c36) s=some e):cf tab ow (.close [8002,9016,9019,9020]) bO (iM rows3 t14 t15 t16 t17 t18 c25 c26 c27 c28 c29 c30 c31 c32 c33 c34 c35 c36 s)=some (iK rows3 t14 t15 t16 t17 t18 c25 c26 c27 c28 c29 c30 c31 c32 c33 c34 c35 c36 e):=by
 refine lrG (fun s o h=> ?_) h
 obtain ⟨_,_⟩:=s
 simp only [dt] at h
 simp only [iM,iK,eX,bO,dv]
 have d1:= @fu
 have d2:= @hJ
 have d3:= @j1
 exact go2
def eT (s:System) (rx:(List Ext)) (by_:(Ext×Ext×Ext)):Option ((List Ext)):=
 br (decide (0≤s.Cols)) (
 br (nw (aJ .i64 1 s.Cols) (aJ .i64 1 s.Cols) 16) (
 (iN rx).bind fun r_=>
 (bH s).bind fun r_2=>
 (Loop (bA r_ r_2.1 r_2.2.1 r_2.2.2 (0:Int) r_2.1 ((r_2.1.length:Nat):Int) s.Rows s.Cols s.Publics s.A s.B s.C by_.1.A by_.1.B by_.2.1.A by_.2.1.B by_.2.2.A by_.2.2.B) ((List.replicate ((aJ .i64 (1:Int) s.Cols).toNat) (Ext.mk (0:Int) (0:Int))),(0:Int))).bind fun e_=>
 (Loop (dx r_ r_2.1 r_2.2.1 r_2.2.2 r_2.2.1 ((r_2.2.1.length:Nat):Int) s.Rows s.Cols s.Publics s.A s.B s.C by_.1.A by_.1.B by_.2.1.A by_.2.1.B by_.2.2.A by_.2.2.B) (e_.1,0)).bind fun e_2=>
 (Loop (dt r_ r_2.1 r_2.2.1 r_2.2.2 r_2.2.2 ((r_2.2.2.length:Nat):Int) s.Rows s.Cols s.Publics s.A s.B s.C by_.1.A by_.1.B by_.2.1.A by_.2.1.B by_.2.2.A by_.2.2.B) (e_2.1,0)).bind fun e_3=>
 some e_3.1) none) none
theorem rk {s rx by_ r} (h:eT s rx by_=some r):Call tab ow 95 [.agg [I s.Rows,I s.Cols,I s.Publics,sl eEntry s.A,sl eEntry s.B,sl eEntry s.C],sl eExt rx,.agg [I by_.1.A,I by_.1.B,I by_.2.1.A,I by_.2.1.B,I by_.2.2.A,I by_.2.2.B]] []=some (.sl 0 0 r.length,[⟨2,false,rws eExt r⟩]):=by
 rw [a9 (af:=eK) rfl]
 unfold eT at h
 simp+decide only [eK,ew,go_sem,reduceIte,Nat.reduceAdd,Int.reduceAdd,Int.reduceMul,Int.reduceSub]
 obtain ⟨hb,h⟩:=brg h
 refine mw hb ?_
 obtain ⟨hb,h⟩:=brg h
 refine mw hb ?_
 obtain ⟨r_,h1,h⟩:=bd h
 refine du (vF h1) ?_
 simp+decide only [go_sem,reduceIte,Nat.reduceAdd,Int.reduceAdd,Int.reduceMul,Int.reduceSub]
 obtain ⟨r_2,h1,h⟩:=bd h
 refine pF (g6 h1) ?_
 simp+decide only [go_sem,reduceIte,Nat.reduceAdd,Int.reduceAdd,Int.reduceMul,Int.reduceSub]
 refine ee ?_
 simp+decide only [mkL,go_sem,reduceIte,Nat.reduceAdd,Int.reduceAdd,Int.reduceMul,Int.reduceSub]
 obtain ⟨e_,h1,h⟩:=bd h
 refine uF (nF h1) ?_
 simp+decide only [go_sem,reduceIte,Nat.reduceAdd,Int.reduceAdd,Int.reduceMul,Int.reduceSub]
 refine ee ?_
 simp+decide only [mkL,go_sem,reduceIte,Nat.reduceAdd,Int.reduceAdd,Int.reduceMul,Int.reduceSub]
 obtain ⟨e_2,h1,h⟩:=bd h
 refine uF (nL h1) ?_
 simp+decide only [go_sem,reduceIte,Nat.reduceAdd,Int.reduceAdd,Int.reduceMul,Int.reduceSub]
 refine ee ?_
 simp+decide only [mkL,go_sem,reduceIte,Nat.reduceAdd,Int.reduceAdd,Int.reduceMul,Int.reduceSub]
 obtain ⟨e_3,h1,h⟩:=bd h
 refine uF (o0 h1) ?_
 simp+decide only [go_sem,reduceIte,Nat.reduceAdd,Int.reduceAdd,Int.reduceMul,Int.reduceSub]
 refine ee ?_
 simp+decide only [mkL,go_sem,reduceIte,Nat.reduceAdd,Int.reduceAdd,Int.reduceMul,Int.reduceSub]
 obtain rfl:=Option.some.inj h
 first|rfl| (simp only [List.length_set,go_sem];done)
end
def cS (s:System) (rx:(List Ext)) (ra rb rc:Ext):Option (Int×(List Ext)):=
 br (decide (((rx.length:Nat):Int)>4096)) (
 some (2,([]:List Ext))) (
 (i4 s).bind fun r_=>
 br (!r_) (
 some (1,([]:List Ext))) (
 (cm rx).bind fun r_2=>
 br (!r_2) (
 some (1,([]:List Ext))) (
 (il ra).bind fun r_3=>
 br (!r_3) (
 some (1,([]:List Ext))) (
 (il rb).bind fun r_4=>
 br (!r_4) (
 some (1,([]:List Ext))) (
 (il rc).bind fun r_5=>
 br (!r_5) (
 some (1,([]:List Ext))) (
 br (((rx.length:Nat):Int) !=s.Rows) (
 some (8,([]:List Ext))) (
 (eT s rx (ra,rb,rc)).bind fun r_6=>
 some (0,r_6))))))))
theorem oI {s rx ra rb rc r} (h:cS s rx ra rb rc=some r):Call tab ow 32 [.agg [I s.Rows,I s.Cols,I s.Publics,sl eEntry s.A,sl eEntry s.B,sl eEntry s.C],sl eExt rx,.agg [I ra.A,I ra.B],.agg [I rb.A,I rb.B],.agg [I rc.A,I rc.B]] []=some (.tup [.sl 0 0 r.2.length,I r.1],[⟨2,false,rws eExt r.2⟩]):=by
 rw [a9 (af:=dO) rfl]
 unfold cS at h
 simp only [dO,jp]
 have d1:= @uE
 have d2:= @lk
 have d3:= @sv
 have d4:= @rk
 exact go2
def lf (a b:Entry):Option (Bool):=
 br (a.Row !=b.Row) (
 some false) (
 br (a.Col !=b.Col) (
 some false) (
 br (a.Value !=b.Value) (
 some false) (
 some true)))
theorem vQ {a b r} (h:lf a b=some r):Call tab ow 159 [.agg [I a.Row,I a.Col,I a.Value],.agg [I b.Row,I b.Col,I b.Value]] []=some (B r,[]):=by
 rw [a9 (af:=io) rfl]
 unfold lf at h
 simp only [io,oy]
 exact go2
def dh (a2 b2:List Entry):Int→Option ((Int)⊕(Unit⊕(Int×Bool)))
 |i=>
  br (decide (i<((a2.length:Nat):Int))) (
  (atL a2 i).bind fun x=>
  (atL b2 i).bind fun x2=>
  (lf x x2).bind fun r_=>
  br (!r_) (
  some (.inr (.inl ()))) (
  some (.inl (wrap .i64 (i+1))))) (
  some (.inr (.inr (i,decide (i<((a2.length:Nat):Int))))))
abbrev jD (a2 b2:List Entry) (s:Int):St:=⟨[(0,sl eEntry a2),(1,sl eEntry b2),(5,I s)],[]⟩
abbrev kq (a2 b2:List Entry):(Unit⊕(Int×Bool))→au×St:=alt (fun e=>((.ret,⟨[(4,B false)],[]⟩):au×St)) (fun e=>(.exit 0,⟨[(0,sl eEntry a2),(1,sl eEntry b2),(5,I e.1),(14,B e.2)],[]⟩))
theorem pN {a2 b2 s e} (h:Loop (dh a2 b2) s=some e):cf tab ow (.close [7008]) jR (jD a2 b2 s)=some (kq a2 b2 e):=by
 refine lrG (fun s o h=> ?_) h
 simp only [dh] at h
 simp only [jD,kq,jR,jT]
 have d1:= @vQ
 exact go2
def dW (a b:(List Entry)):Option (Bool):=
 br (((a.length:Nat):Int) !=((b.length:Nat):Int)) (
 some false) (
 (Loop (dh a b) 0).bind (alt (fun e_2=>
 some false) (fun e_3=>
 some true)))
theorem tr {a b r} (h:dW a b=some r):Call tab ow 96 [sl eEntry a,sl eEntry b] []=some (B r,[]):=by
 rw [a9 (af:=gz) rfl]
 unfold dW at h
 simp only [gz,jn]
 have d1:= @pN
 exact go2
def i5 (a b:System):Option (Bool):=
 br (a.Rows !=b.Rows) (
 some false) (
 br (a.Cols !=b.Cols) (
 some false) (
 br (a.Publics !=b.Publics) (
 some false) (
 (dW a.A b.A).bind fun r_=>
 br (!r_) (
 some false) (
 (dW a.B b.B).bind fun r_2=>
 br (!r_2) (
 some false) (
 (dW a.C b.C).bind fun r_3=>
 br (!r_3) (
 some false) (
 some true))))))
theorem ue {a b r} (h:i5 a b=some r):Call tab ow 34 [.agg [I a.Rows,I a.Cols,I a.Publics,sl eEntry a.A,sl eEntry a.B,sl eEntry a.C],.agg [I b.Rows,I b.Cols,I b.Publics,sl eEntry b.A,sl eEntry b.B,sl eEntry b.C]] []=some (B r,[]):=by
 rw [a9 (af:=gy) rfl]
 unfold i5 at h
 simp only [gy,ne]
 have d1:= @tr
 exact go2
def bk:(List Entry)×Int×Int→Option (((List Entry)×Int×Int)⊕(((List Entry)×Int×Int×Bool)))
 | (l2,k2,i)=>
   br (decide (i<((l2.length:Nat):Int))) (
   br (decide (0≤i)) (
   br (decide (i.toNat<l2.length)) (
   (l2[i.toNat]?).bind fun x=>
   br (decide (0≤i)) (
   br (decide (i.toNat<l2.length)) (
   ((l2.set i.toNat (Entry.mk k2 x.Col x.Value))[i.toNat]?).bind fun x2=>
   br (decide (0≤i)) (
   br (decide (i.toNat<l2.length)) (
   (((l2.set i.toNat (Entry.mk k2 x.Col x.Value)).set i.toNat (Entry.mk x2.Row (wrap .i64 (k2+1)) x2.Value))[i.toNat]?).bind fun x3=>
   some (.inl ((((l2.set i.toNat (Entry.mk k2 x.Col x.Value)).set i.toNat (Entry.mk x2.Row (wrap .i64 (k2+1)) x2.Value)).set i.toNat (Entry.mk x3.Row x3.Col (wrap .i64 ((wrap .i64 (k2+1))+1)))),(wrap .i64 ((wrap .i64 ((wrap .i64 (k2+1))+1))+1)),(wrap .i64 (i+1))))) none) none) none) none) none) none) (
   some (.inr (l2,k2,i,decide (i<((l2.length:Nat):Int)))))
abbrev hN (s:(List Entry)×Int×Int):St:=⟨[(0,.sl 0 0 s.1.length),(1,I s.2.1),(5,I s.2.2)],[(0,⟨3,false,rws eEntry s.1⟩)]⟩
abbrev hZ:((List Entry)×Int×Int×Bool)→au×St:=fun e=>(.exit 0,⟨[(0,.sl 0 0 e.1.length),(1,I e.2.1),(5,I e.2.2.1),(9,B e.2.2.2)],[(0,⟨3,false,rws eEntry e.1⟩)]⟩)
theorem m9 { s e} (h:Loop (bk) s=some e):cf tab ow (.close []) iB (hN s)=some (hZ e):=by
 refine lrG (fun s o h=> ?_) h
 obtain ⟨_,_,_⟩:=s
 simp only [bk] at h
 simp only [hN,hZ,iB,iR]
 exact go2
def bU (k:Int) (l:List Entry):Option (Int×(List Entry)):=
 (Loop (bk) (l,k,0)).bind fun e_=>
 some (e_.2.1,e_.1)
theorem nW {k l r} (h:bU k l=some r):Call tab ow 97 [.sl 0 0 l.length,I k] [⟨3,false,rws eEntry l⟩]=some (I r.1,[⟨3,false,rws eEntry r.2⟩]):=by
 rw [a9 (af:=eH) rfl]
 unfold bU at h
 simp only [eH,hK]
 have d1:= @m9
 exact go2
def ex (a a2 a3 k:Int) (l l2 l3:List Entry):Option (Int×(List Entry)×(List Entry)×(List Entry)):=
 (bU k l).bind fun r_=>
 (bU r_.1 l2).bind fun r_2=>
 (bU r_2.1 l3).bind fun r_3=>
 some (r_3.1,r_.2,r_2.2,r_3.2)
theorem pQ {a a2 a3 k l l2 l3 r} (h:ex a a2 a3 k l l2 l3=some r):Call tab ow 35 [.agg [I a,I a2,I a3,.sl 0 0 l.length,.sl 1 0 l2.length,.sl 2 0 l3.length],I k] [⟨3,false,rws eEntry l⟩,⟨3,false,rws eEntry l2⟩,⟨3,false,rws eEntry l3⟩]=some (I r.1,[⟨3,false,rws eEntry r.2.1⟩,⟨3,false,rws eEntry r.2.2.1⟩,⟨3,false,rws eEntry r.2.2.2⟩]):=by
 rw [a9 (af:=ep) rfl]
 unfold ex at h
 simp only [ep,kP]
 have d1:= @nW
 exact go2
def bC:(List Ext)×Int×Int→Option (((List Ext)×Int×Int)⊕(((List Ext)×Int×Int×Bool)))
 | (l2,k2,i)=>
   br (decide (i<((l2.length:Nat):Int))) (
   br (decide (0≤i)) (
   br (decide (i.toNat<l2.length)) (
   (l2[i.toNat]?).bind fun x=>
   br (decide (0≤i)) (
   br (decide (i.toNat<l2.length)) (
   ((l2.set i.toNat (Ext.mk k2 x.B))[i.toNat]?).bind fun x2=>
   some (.inl (((l2.set i.toNat (Ext.mk k2 x.B)).set i.toNat (Ext.mk x2.A (wrap .i64 (k2+1)))),(wrap .i64 ((wrap .i64 (k2+1))+1)),(wrap .i64 (i+1))))) none) none) none) none) (
   some (.inr (l2,k2,i,decide (i<((l2.length:Nat):Int)))))
abbrev iE (s:(List Ext)×Int×Int):St:=⟨[(0,.sl 0 0 s.1.length),(1,I s.2.1),(5,I s.2.2)],[(0,⟨2,false,rws eExt s.1⟩)]⟩
abbrev iI:((List Ext)×Int×Int×Bool)→au×St:=fun e=>(.exit 0,⟨[(0,.sl 0 0 e.1.length),(1,I e.2.1),(5,I e.2.2.1),(9,B e.2.2.2)],[(0,⟨2,false,rws eExt e.1⟩)]⟩)
theorem nD { s e} (h:Loop (bC) s=some e):cf tab ow (.close []) jS (iE s)=some (iI e):=by
 refine lrG (fun s o h=> ?_) h
 obtain ⟨_,_,_⟩:=s
 simp only [bC] at h
 simp only [iE,iI,jS,kK]
 exact go2
def dy (k:Int) (l:List Ext):Option (Int×(List Ext)):=
 (Loop (bC) (l,k,0)).bind fun e_=>
 some (e_.2.1,e_.1)
theorem qZ {k l r} (h:dy k l=some r):Call tab ow 36 [.sl 0 0 l.length,I k] [⟨2,false,rws eExt l⟩]=some (I r.1,[⟨2,false,rws eExt r.2⟩]):=by
 rw [a9 (af:=gg) rfl]
 unfold dy at h
 simp only [gg,ji]
 have d1:= @nD
 exact go2
def bV (a2:List Ext):Int×Int→Option ((Int×Int)⊕(Unit⊕(Int×Int×Bool)))
 | (k2,i)=>
   br (decide (i<((a2.length:Nat):Int))) (
   (atL a2 i).bind fun x=>
   br (x.A !=k2) (
   some (.inr (.inl ()))) (
   (atL a2 i).bind fun x2=>
   br (x2.B !=(wrap .i64 (k2+1))) (
   some (.inr (.inl ()))) (
   some (.inl ((wrap .i64 ((wrap .i64 (k2+1))+1)),(wrap .i64 (i+1))))))) (
   some (.inr (.inr (k2,i,decide (i<((a2.length:Nat):Int))))))
abbrev kJ (a2:List Ext) (s:Int×Int):St:=⟨[(0,sl eExt a2),(1,I s.1),(5,I s.2)],[]⟩
abbrev jY (a2:List Ext):(Unit⊕(Int×Int×Bool))→au×St:=alt (fun e=>((.ret,⟨[(4,I (-1:Int))],[]⟩):au×St)) (fun e=>(.exit 0,⟨[(0,sl eExt a2),(1,I e.1),(5,I e.2.1),(9,B e.2.2)],[]⟩))
theorem q8 {a2 s e} (h:Loop (bV a2) s=some e):cf tab ow (.close []) jX (kJ a2 s)=some (jY a2 e):=by
 refine lrG (fun s o h=> ?_) h
 obtain ⟨_,_⟩:=s
 simp only [bV] at h
 simp only [kJ,jY,jX,kL]
 exact go2
def fa (a:(List Ext)) (k:Int):Option (Int):=
 (Loop (bV a) (k,0)).bind (alt (fun e_2=>
 some (-1:Int)) (fun e_3=>
 some e_3.1))
theorem ur {a k r} (h:fa a k=some r):Call tab ow 37 [sl eExt a,I k] []=some (I r,[]):=by
 rw [a9 (af:=gx) rfl]
 unfold fa at h
 simp only [gx,j2]
 have d1:= @q8
 exact go2
def cw (ListtoArray:System) (a:(List Ext)) (a2 a3 a4:Ext):Option (Bool):=
 (i6 ListtoArray 1048576).bind fun r_=>
 br (decide (r_<0)) (
 some true) (
 (jW a r_).bind fun r_2=>
 br (decide (r_2<0)) (
 some true) (
 (cI ListtoArray).bind fun r_3=>
 (fJ a).bind fun r_4=>
 (db a2).bind fun r_5=>
 (db a3).bind fun r_6=>
 (db a4).bind fun r_7=>
 (eu (System.mk r_3.1 r_3.2.1 r_3.2.2.1 r_3.2.2.2.1 r_3.2.2.2.2.1 r_3.2.2.2.2.2) r_4 r_5 r_6 r_7).bind fun r_8=>
 (cI ListtoArray).bind fun r_9=>
 (fJ a).bind fun r_10=>
 (db a2).bind fun r_11=>
 (db a3).bind fun r_12=>
 (db a4).bind fun r_13=>
 (cS (System.mk r_9.1 r_9.2.1 r_9.2.2.1 r_9.2.2.2.1 r_9.2.2.2.2.1 r_9.2.2.2.2.2) r_10 r_11 r_12 r_13).bind fun r_14=>
 (fO r_14.2 r_8.1).bind fun r_15=>
 br (!r_15) (
 some false) (
 br (r_14.1 !=r_8.2) (
 some false) (
 (cI ListtoArray).bind fun r_16=>
 (i5 (System.mk r_9.1 r_9.2.1 r_9.2.2.1 r_9.2.2.2.1 r_9.2.2.2.2.1 r_9.2.2.2.2.2) (System.mk r_16.1 r_16.2.1 r_16.2.2.1 r_16.2.2.2.1 r_16.2.2.2.2.1 r_16.2.2.2.2.2)).bind fun r_17=>
 br (!r_17) (
 some false) (
 (fJ a).bind fun r_18=>
 (fO r_10 r_18).bind fun r_19=>
 br (!r_19) (
 some false) (
 (ex r_9.1 r_9.2.1 r_9.2.2.1 1 r_9.2.2.2.1 r_9.2.2.2.2.1 r_9.2.2.2.2.2).bind fun r_20=>
 (dy r_20.1 r_10).bind fun r_21=>
 br (decide (r_21.1<0)) (
 some false) (
 (fO r_14.2 r_8.1).bind fun r_22=>
 br (!r_22) (
 some false) (
 br (r_14.1 !=r_8.2) (
 some false) (
 (dy 1 r_14.2).bind fun r_23=>
 br (decide (r_23.2.length=r_14.2.length)) (
 (fa r_23.2 1).bind fun r_24=>
 br (decide (r_24<0)) (
 some false) (
 br (r_24 !=r_23.1) (
 some false) (
 (cI ListtoArray).bind fun r_25=>
 (fJ a).bind fun r_26=>
 (db a2).bind fun r_27=>
 (db a3).bind fun r_28=>
 (db a4).bind fun r_29=>
 (cS (System.mk r_25.1 r_25.2.1 r_25.2.2.1 r_25.2.2.2.1 r_25.2.2.2.2.1 r_25.2.2.2.2.2) r_26 r_27 r_28 r_29).bind fun r_30=>
 (fO r_30.2 r_8.1).bind fun r_31=>
 br (!r_31) (
 some false) (
 br (r_30.1 !=r_8.2) (
 some false) (
 br (decide (r_23.2.length=r_14.2.length)) (
 (fa r_23.2 1).bind fun r_32=>
 br (decide (r_32<0)) (
 some false) (
 br (r_32 !=r_23.1) (
 some false) (
 some true))) none))))) none)))))))))
theorem w_FnExactBoundTable_c {ListtoArray a a2 a3 a4 r} (h:cw ListtoArray a a2 a3 a4=some r):Call tab ow 5 [.agg [I ListtoArray.Rows,I ListtoArray.Cols,I ListtoArray.Publics,sl eEntry ListtoArray.A,sl eEntry ListtoArray.B,sl eEntry ListtoArray.C],sl eExt a,.agg [I a2.A,I a2.B],.agg [I a3.A,I a3.B],.agg [I a4.A,I a4.B]] []=some (B r,[]):=by
 rw [a9 (af:=a_w_FnExactBoundTable) rfl]
 unfold cw at h
 simp only [a_w_FnExactBoundTable,eV]
 have d1:= @tz
 have d2:= @z2
 have d3:= @rR
 have d4:= @xA
 have d5:= @so
 have d6:= @r8
 have d7:= @oI
 have d8:= @z4
 have d9:= @ue
 have d10:= @pQ
 have d11:= @qZ
 have d12:= @ur
 exact go2
end
end Go.AI.Fn
