/- Part. -/
import Derived.Test.YtdnkignjanfikaaGreatFx1
set_option linter.unusedVariables false
set_option linter.unusedSimpArgs false
set_option maxRecDepth 100000
set_option maxHeartbeats 1000000
namespace Go.AI.Fn
noncomputable section
open IntKind (wrap)
section
attribute [local go_sem] Jd
@[local go_sem] theorem c02:mkR 6004 []=rws eS []:=rfl
@[local go_sem] theorem c07:mkR 8001 []=rws (eL eS) []:=rfl
@[local go_sem] theorem c0b:mkR 10000 []=rws eS []:=rfl
@[local go_sem] theorem c0e:mkR 14012 []=rws eS []:=rfl
@[local go_sem] theorem b9Y:mkR 15002 []=rws (eL eS) []:=rfl
def rJ (t:List (List UInt8)) (c:Int):(List (List UInt8))×Int->Option (((List (List UInt8))×Int)⊕(((List (List UInt8))×Int×Bool)))
 | (l,b)=>
   br (decide (b<c)) (
   (atL t b).bind fun x=>
   (wM x).bind fun d=>
   (v6 d).bind fun a=>
   br (bj ((l++([a]:List (List UInt8))).length) 16) (
   some (.inl ((l++([a]:List (List UInt8))),(wrap .i64 (b+1))))) none) (
   some (.inr (l,b,decide (b<c))))
theorem Yz {t a}:LXe tab ow (.close [6002,6003,6004,6005]) M9 (rJ t a) (fun s=>⟨[(3,.sl 2000 0 s.1.length),(10,sl eS t),(11,I a),(12,I s.2)],[(2000,⟨1,false,rws eS s.1⟩)]⟩) 0 (fun e=>(e.1,e.2.1)) (fun e=>[(13,B e.2.2)]):=by
 refine lrX (fun s o h=> ?_)
 obtain ⟨_,_⟩:=s
 simp only [rJ] at h
 simp only [M9,KS]
 have d1:= @KV
 have d2:= @Ar
 exact go2
def sv (h:List (List (List UInt8))) (a:List (List UInt8)):(List (List UInt8))×Int->Option (((List (List UInt8))×Int)⊕(((List (List UInt8))×Int×Bool)))
 | (d,i)=>
   br (decide (i<(a.length:Int))) (
   (atL a i).bind fun e=>
   (atL a (wrap .i64 (i+1))).bind fun f=>
   (u7 e f).bind fun c=>
   (v6 c).bind fun b=>
   br (bj ((d++([b]:List (List UInt8))).length) 16) (
   some (.inl ((d++([b]:List (List UInt8))),(wrap .i64 (i+2))))) none) (
   some (.inr (d,i,decide (i<(a.length:Int)))))
theorem Xe {b a}:LXe tab ow (.close [14010,14011,14012,14013]) IV (sv b a) (fun s=>⟨[(3,sl eS a),(6,.sl 8001 0 b.length),(7,.sl 10000 0 s.1.length),(8,I s.2)],[(8001,⟨1,false,rws (eL eS) b⟩),(10000,⟨1,false,rws eS s.1⟩)]⟩) 4 (fun e=>(e.1,e.2.1)) (fun e=>[(32,B e.2.2)]):=by
 refine lrX (fun s o h=> ?_)
 obtain ⟨_,_⟩:=s
 simp only [sv] at h
 simp only [IV,Ji]
 have d1:= @KZ
 have d2:= @Ar
 exact go2
def oK:(List (List (List UInt8)))×(List (List UInt8))->Option (((List (List (List UInt8)))×(List (List UInt8)))⊕(((List (List (List UInt8)))×(List (List UInt8))×Bool)))
 | (c,a)=>
   br (decide ((a.length:Int)>1)) (
   (Loop (sv c a) (([]:List (List UInt8)),0)).bind fun b=>
   br (bj ((c++([b.1]:List (List (List UInt8)))).length) 24) (
   some (.inl ((c++([b.1]:List (List (List UInt8)))),b.1))) none) (
   some (.inr (c,a,decide ((a.length:Int)>1))))
theorem Xv:LXe tab ow (.close [10000,14010,14011,14012,14013,15002,15003]) Kz (oK) (fun s=>⟨[(3,sl eS s.2),(6,.sl 8001 0 s.1.length)],[(8001,⟨1,false,rws (eL eS) s.1⟩)]⟩) 2 (fun e=>(e.1,e.2.1)) (fun e=>[(27,B e.2.2)]):=by
 refine lrX (fun s o h=> ?_)
 obtain ⟨_,_⟩:=s
 simp only [oK] at h
 simp only [Kz,Mk]
 have d1:= @Xe
 exact go2
def Ha (a:(List (List UInt8))):Option ((List (List (List UInt8)))):=
 (Loop (rJ a (a.length:Int)) (([]:List (List UInt8)),0)).bind fun c=>
 (Loop (oK) (([c.1]:List (List (List UInt8))),c.1)).bind fun b=>
 some b.1
theorem a2G {a r} (h:Ha a=some r):Call tab ow 194 [sl eS a] []=some (sl (eL eS) r,[]):=by
 rw [ak (af:=E4) rfl]
 unfold Ha at h
 simp only [E4,Ap]
 have d1:= @Yz
 have d2:= @Xv
 exact go2
end
def AF (a:List Ext):Option cQ:=
 (Ab a).bind fun c=>
 (Ha c).bind fun b=>
 some (cQ.mk a b)
theorem JH {a r} (h:AF a=some r):Call tab ow 97 [sl aG a] []=some (.agg [sl aG r.word,sl (eL eS) r.rows],[]):=by
 rw [ak (af:=DA) rfl]
 unfold AF at h
 simp only [DA,RZ]
 have d1:= @Wv
 have d2:= @a2G
 exact go2
def Ad (a:(List (List (List UInt8)))):Option (List UInt8):=
 (atL a (wrap .i64 ((a.length:Int)-1))).bind fun x=>
 (atL x 0).bind fun b=>
 some b
theorem SF {a r} (h:Ad a=some r):Call tab ow 96 [sl (eL eS) a] []=some (S r,[]):=by
 rw [ak (af:=E8) rfl]
 unfold Ad at h
 simp only [E8,R2]
 exact go2
def oC (t:List UInt8) (b:Int):Int×Int->Option ((Int×Int)⊕((Int×Int×Bool)))
 | (n,a)=>
   br (decide (a<b)) (
   (atL t a).bind fun x=>
   some (.inl ((Cp .u64 (ct .u64 n 8) (wrap .u64 (x.toNat:Int))),(wrap .i64 (a+1))))) (
   some (.inr (n,a,decide (a<b))))
theorem Yk {t a}:LXe tab ow (.close []) Mg (oC t a) (fun s=>⟨[(3,.lit (.int .u64 s.1)),(6,sl eU8 t),(7,I a),(8,I s.2)],[]⟩) 0 (fun e=>(e.1,e.2.1)) (fun e=>[(9,B e.2.2)]):=by
 refine lrX (fun s o h=> ?_)
 obtain ⟨_,_⟩:=s
 simp only [oC] at h
 simp only [Mg,L6]
 exact go2
def CZ (b:List UInt8):Option Int:=
 (Loop (oC b (b.length:Int)) (0,0)).bind fun a=>
 some (wrap .i64 (a.1.tmod 2130706433))
theorem a1R {b r} (h:CZ b=some r):Call tab ow 368 [sl eU8 b] []=some (I r,[]):=by
 rw [ak (af:=DH) rfl]
 unfold CZ at h
 simp only [DH,JX]
 have d1:= @Yk
 exact go2
section
@[local go_sem] theorem a8G:mkR 5005 []=rws eU8 []:=rfl
@[local go_sem] theorem a6L:mkR 5012 []=rws (eL eU8) []:=rfl
def il (m:Source):Option (Ext×Source):=
 br (decide ((m.Script.length:Int)>0)) (
 br (decide ((m.Script.length:Int)≠0)) (
 (atL m.Script ((wrap .i64 ((wrap .i64 (m.At+1))-1)).tmod (m.Script.length:Int))).bind fun x=>
 some (x,(Source.mk m.Script (wrap .i64 (m.At+1)) m.State m.Count))) none) (
 br (bj m.State.length 1) (
 (Ea m.Count).bind fun e=>
 (uQ ([m.State,([(100:UInt8),(114:UInt8),(97:UInt8),(119:UInt8)]:List UInt8),e]:List (List UInt8))).bind fun a=>
 br (bj a.length 1) (
 (qA a 0 8).bind fun y=>
 (CZ y).bind fun c=>
 (qA a 8 16).bind fun d=>
 (CZ d).bind fun b=>
 some ((Ext.mk c b),(Source.mk m.Script m.At m.State (wrap .i64 (m.Count+1))))) none) none)
theorem pg {m r} (h:il m=some r):Call tab ow 325 [.ptr 0 0 0 1] [⟨4,true,[[sl aG m.Script,I m.At,S m.State,I m.Count]]⟩]=some (.agg [I r.1.A,I r.1.B],[⟨4,true,[[sl aG r.2.Script,I r.2.At,S r.2.State,I r.2.Count]]⟩]):=by
 rw [ak (af:=tI) rfl]
 unfold il at h
 simp only [tI,EX]
 have d1:= @H0
 have d2:= @A3
 have d3:= @a1R
 exact go2
end
section
attribute [local go_sem] fh
@[local go_sem] theorem a54:mkR 5003 []=rws aG []:=rfl
def gZ (t:Int):(List Ext)×Int×(List Ext)×Int×(List UInt8)×Int->Option (((List Ext)×Int×(List Ext)×Int×(List UInt8)×Int)⊕(((List Ext)×Int×Bool×(List Ext)×Int×(List UInt8)×Int)))
 | (l,b,c,e,d,f)=>
   br (decide (b<t)) (
   (il (Source.mk c e d f)).bind fun a=>
   br (bj ((l++([a.1]:List Ext)).length) 16) (
   some (.inl ((l++([a.1]:List Ext)),(wrap .i64 (b+1)),a.2.Script,a.2.At,a.2.State,a.2.Count))) none) (
   some (.inr (l,b,decide (b<t),c,e,d,f)))
theorem Kl {t}:LXe tab ow (.close [5002,5003,5004]) Ah (gZ t) (fun s=>⟨[(0,.ptr 0 0 0 1),(5,.sl 2000 0 s.1.length),(7,I t),(8,I s.2.1)],[(0,⟨4,true,[[sl aG s.2.2.1,I s.2.2.2.1,S s.2.2.2.2.1,I s.2.2.2.2.2]]⟩),(2000,⟨2,false,rws aG s.1⟩)]⟩) 0 (fun e=>(e.1,e.2.1,e.2.2.2.1,e.2.2.2.2.1,e.2.2.2.2.2.1,e.2.2.2.2.2.2)) (fun e=>[(9,B e.2.2.1)]):=by
 refine lrX (fun s o h=> ?_)
 obtain ⟨_,_,_,_,_,_⟩:=s
 simp only [gZ] at h
 simp only [Ah,AV]
 have d1:= @pg
 exact go2
def gI (n:Int) (m:Source):Option ((List Ext)×Source):=
 (Loop (gZ n) (([]:List Ext),0,m.Script,m.At,m.State,m.Count)).bind fun a=>
 some (a.1,(Source.mk a.2.2.2.1 a.2.2.2.2.1 a.2.2.2.2.2.1 a.2.2.2.2.2.2))
theorem nN {n m r} (h:gI n m=some r):Call tab ow 227 [.ptr 0 0 0 1,I n] [⟨4,true,[[sl aG m.Script,I m.At,S m.State,I m.Count]]⟩]=some (sl aG r.1,[⟨4,true,[[sl aG r.2.Script,I r.2.At,S r.2.State,I r.2.Count]]⟩]):=by
 rw [ak (af:=rX) rfl]
 unfold gI at h
 simp only [rX,wP]
 have d1:= @Kl
 exact go2
end
def OL:Option Ext:=
 some (Ext.mk 1 0)
theorem PZ {r} (h:OL=some r):Call tab ow 201 [] []=some (.agg [I r.A,I r.B],[]):=by
 rw [ak (af:=PF) rfl]
 unfold OL at h
 simp only [PF,a5h]
 exact go2
def du (a b:Ext):Option Ext:=
 (uB a.A b.A).bind fun j=>
 (uB a.B b.B).bind fun e=>
 (uB 3 e).bind fun f=>
 (H6 j f).bind fun d=>
 (uB a.A b.B).bind fun i=>
 (uB a.B b.A).bind fun c=>
 (H6 i c).bind fun h=>
 some (Ext.mk d h)
theorem fP {a b r} (h:du a b=some r):Call tab ow 200 [.agg [I a.A,I a.B],.agg [I b.A,I b.B]] []=some (.agg [I r.A,I r.B],[]):=by
 rw [ak (af:=xp) rfl]
 unfold du at h
 simp only [xp,IM]
 have d1:= @Bj
 have d2:= @Lc
 exact go2
section
@[local go_sem] theorem MD:mkR 2001 []=rws aG []:=rfl
@[local go_sem] theorem Xh:mkR 6000 []=rws aG []:=rfl
@[local go_sem] theorem b6k:mkR 6001 []=rws aG []:=rfl
@[local go_sem] theorem b8f:mkR 10006 []=rws aG []:=rfl
@[local go_sem] theorem b8r:mkR 10012 []=rws aG []:=rfl
def pu (o:List Ext) (p n:Int) (m:List Ext) (k c j:Int):(List Ext)×(List Ext)×Int->Option (((List Ext)×(List Ext)×Int)⊕(((List Ext)×(List Ext)×Int×Bool)))
 | (l,e,a)=>
   br (decide (a<k)) (
   (atL m a).bind fun i=>
   (OL).bind fun f=>
   (i5 f (Ext.mk c j)).bind fun h=>
   (du i h).bind fun b=>
   br (bj ((l++([b]:List Ext)).length) 16) (
   (du i (Ext.mk c j)).bind fun d=>
   br (bj ((e++([d]:List Ext)).length) 16) (
   some (.inl ((l++([b]:List Ext)),(e++([d]:List Ext)),(wrap .i64 (a+1))))) none) none) (
   some (.inr (l,e,a,decide (a<k))))
theorem TB {b d a i j c f}:LXe tab ow (.close [9002,10002,10004,10005,10006,10007,10011,10012,10013]) Iw (pu b d a i j c f) (fun s=>⟨[(5,.ptr 5002 0 0 1),(6,.sl 6000 0 s.1.length),(7,.sl 6001 0 s.2.1.length),(12,sl aG b),(13,I d),(14,I a),(20,sl aG i),(21,I j),(22,I s.2.2)],[(5002,⟨2,true,[[I c,I f]]⟩),(6000,⟨2,false,rws aG s.1⟩),(6001,⟨2,false,rws aG s.2.1⟩)]⟩) 2 (fun e=>(e.1,e.2.1,e.2.2.1)) (fun e=>[(23,B e.2.2.2)]):=by
 refine lrX (fun s o h=> ?_)
 obtain ⟨_,_,_⟩:=s
 simp only [pu] at h
 simp only [Iw,Jm]
 have d1:= @PZ
 have d2:= @kC
 have d3:= @fP
 exact go2
def pw (t:List Ext) (d:Int):(List Ext)×Int->Option (((List Ext)×Int)⊕(((List Ext)×Int×Bool)))
 | (a,b)=>
   br (decide (b<d)) (
   (atL t b).bind fun x=>
   (Loop (pu t d b a (a.length:Int) x.A x.B) (([]:List Ext),([]:List Ext),0)).bind fun c=>
   br (bj ((c.1++c.2.1).length) 16) (
   some (.inl ((c.1++c.2.1),(wrap .i64 (b+1))))) none) (
   some (.inr (a,b,decide (b<d))))
theorem Uf {t a}:LXe tab ow (.close [5002,6000,6001,9002,10002,10004,10005,10006,10007,10011,10012,10013,12002,2001]) Jh (pw t a) (fun s=>⟨[(3,sl aG s.1),(12,sl aG t),(13,I a),(14,I s.2)],[]⟩) 0 (fun e=>(e.1,e.2.1)) (fun e=>[(15,B e.2.2)]):=by
 refine lrX (fun s o h=> ?_)
 obtain ⟨_,_⟩:=s
 simp only [pw] at h
 simp only [Jh,Ip]
 have d1:= @TB
 exact go2
def mb (a:List Ext):Option (List Ext):=
 (OL).bind fun c=>
 (Loop (pw a (a.length:Int)) (([c]:List Ext),0)).bind fun b=>
 some b.1
theorem uA {a r} (h:mb a=some r):Call tab ow 102 [sl aG a] []=some (sl aG r,[]):=by
 rw [ak (af:=Be) rfl]
 unfold mb at h
 simp only [Be,BT]
 have d1:= @PZ
 have d2:= @Uf
 exact go2
end
section
@[local go_sem] theorem b8B: ∀k,Uh 2002 k [I (0:Int)]=rws eI (List.replicate k (0:Int)):=fun _=>b3d eI (0:Int) _ _
def py (f:List Int) (t:List aN) (c:Int):(List Int)×Int->Option (((List Int)×Int)⊕(((List Int)×Int×Bool)))
 | (l,a)=>
   br (decide (a<c)) (
   (atL t a).bind fun x=>
   br (decide (0<=x.Row)) (
   br (decide (x.Row.toNat<l.length)) (
   (l[x.Row.toNat]?).bind fun d=>
   (atL f x.Col).bind fun h=>
   (uB x.Value h).bind fun e=>
   (H6 d e).bind fun b=>
   br (decide (0<=x.Row)) (
   br (decide (x.Row.toNat<l.length)) (
   (l[x.Row.toNat]?).bind fun i=>
   some (.inl ((l.set x.Row.toNat b),(wrap .i64 (a+1))))) none) none) none) none) (
   some (.inr (l,a,decide (a<c))))
theorem TO {b t a}:LXe tab ow (.close [5002,6015,6016]) IK (py b t a) (fun s=>⟨[(2,sl eI b),(7,.sl 2002 0 s.1.length),(13,sl aV t),(14,I a),(15,I s.2)],[(2002,⟨1,false,rws eI s.1⟩)]⟩) 0 (fun e=>(e.1,e.2.1)) (fun e=>[(16,B e.2.2)]):=by
 refine lrX (fun s o h=> ?_)
 obtain ⟨_,_⟩:=s
 simp only [py] at h
 simp only [IK,J3]
 have d1:= @Bj
 have d2:= @Lc
 exact go2
def uu (b:List aN) (a:Int) (z:List Int):Option (List Int):=
 br (decide (0<=a)) (
 br (TU (ct .i64 1 a) (ct .i64 1 a) 8) (
 (Loop (py z b (b.length:Int)) ((List.replicate ((ct .i64 (1:Int) a).toNat) (0:Int)),(0:Int))).bind fun c=>
 some c.1) none) none
theorem FM {b a z r} (h:uu b a z=some r):Call tab ow 249 [sl aV b,I a,sl eI z] []=some (sl eI r,[]):=by
 rw [ak (af:=Bq) rfl]
 unfold uu at h
 simp only [Bq,Gp]
 have d1:= @TO
 exact go2
end
def rA (a:Int):Option Int:=
 (jN a 1 2).bind fun b=>
 br (!b) (
 some 0) (
 some (wrap .i64 (a+1)))
theorem EP {a r} (h:rA a=some r):Call tab ow 324 [I a] []=some (I r,[]):=by
 rw [ak (af:=zD) rfl]
 unfold rA at h
 simp only [zD,Lt]
 have d1:= @wx
 exact go2
def wL (a b f:Ext):Option Ext:=
 (i5 b a).bind fun d=>
 (du f d).bind fun e=>
 (fK a e).bind fun c=>
 some c
theorem Ot {a b c r} (h:wL a b c=some r):Call tab ow 300 [.agg [I a.A,I a.B],.agg [I b.A,I b.B],.agg [I c.A,I c.B]] []=some (.agg [I r.A,I r.B],[]):=by
 rw [ak (af:=BM) rfl]
 unfold wL at h
 simp only [BM,OT]
 have d1:= @kC
 have d2:= @fP
 have d3:= @gS
 exact go2
section
attribute [local go_sem] fh
@[local go_sem] theorem b3M:mkR 6012 []=rws aG []:=rfl
def jO (a:List Ext) (c e:Int):(List Ext)×Int->Option (((List Ext)×Int)⊕(((List Ext)×Int×Bool)))
 | (l,i)=>
   br (decide (i<(a.length:Int))) (
   (atL a i).bind fun x=>
   (atL a (wrap .i64 (i+1))).bind fun d=>
   (wL x d (Ext.mk c e)).bind fun b=>
   br (bj ((l++([b]:List Ext)).length) 16) (
   some (.inl ((l++([b]:List Ext)),(wrap .i64 (i+2))))) none) (
   some (.inr (l,i,decide (i<(a.length:Int)))))
theorem P8 {a c b}:LXe tab ow (.close [6011,6012,6013]) Fc (jO a c b) (fun s=>⟨[(0,sl aG a),(3,.ptr 1000 0 0 1),(5,.sl 2000 0 s.1.length),(6,I s.2)],[(1000,⟨2,true,[[I c,I b]]⟩),(2000,⟨2,false,rws aG s.1⟩)]⟩) 0 (fun e=>(e.1,e.2.1)) (fun e=>[(11,B e.2.2)]):=by
 refine lrX (fun s o h=> ?_)
 obtain ⟨_,_⟩:=s
 simp only [jO] at h
 simp only [Fc,F0]
 have d1:= @Ot
 exact go2
def xN (a:List Ext) (b:Ext):Option (List Ext):=
 (Loop (jO a b.A b.B) (([]:List Ext),0)).bind fun c=>
 some c.1
theorem U6 {a b r} (h:xN a b=some r):Call tab ow 389 [sl aG a,.agg [I b.A,I b.B]] []=some (sl aG r,[]):=by
 rw [ak (af:=xy) rfl]
 unfold xN at h
 simp only [xy,Co]
 have d1:= @P8
 exact go2
end
section
@[local go_sem] theorem JG:mkR 2000 []=rws (eL aG) []:=rfl
@[local go_sem] theorem c0P:mkR 6004 []=rws (eL aG) []:=rfl
def rE (t:List (List Ext)) (d c e:Int):(List (List Ext))×Int->Option (((List (List Ext))×Int)⊕(((List (List Ext))×Int×Bool)))
 | (l,b)=>
   br (decide (b<d)) (
   (atL t b).bind fun x=>
   (xN x (Ext.mk c e)).bind fun a=>
   br (bj ((l++([a]:List (List Ext))).length) 24) (
   some (.inl ((l++([a]:List (List Ext))),(wrap .i64 (b+1))))) none) (
   some (.inr (l,b,decide (b<d))))
theorem Z1 {t a c b}:LXe tab ow (.close [6003,6004,6005]) Oh (rE t a c b) (fun s=>⟨[(3,.ptr 1000 0 0 1),(5,.sl 2000 0 s.1.length),(9,sl (eL aG) t),(10,I a),(11,I s.2)],[(1000,⟨2,true,[[I c,I b]]⟩),(2000,⟨1,false,rws (eL aG) s.1⟩)]⟩) 0 (fun e=>(e.1,e.2.1)) (fun e=>[(12,B e.2.2)]):=by
 refine lrX (fun s o h=> ?_)
 obtain ⟨_,_⟩:=s
 simp only [rE] at h
 simp only [Oh,OC]
 have d1:= @U6
 exact go2
def Eb (a:(List (List Ext))) (b:Ext):Option ((List (List Ext))):=
 (Loop (rE a (a.length:Int) b.A b.B) (([]:List (List Ext)),0)).bind fun c=>
 some c.1
theorem No {a b r} (h:Eb a b=some r):Call tab ow 353 [sl (eL aG) a,.agg [I b.A,I b.B]] []=some (sl (eL aG) r,[]):=by
 rw [ak (af:=HA) rfl]
 unfold Eb at h
 simp only [HA,Nl]
 have d1:= @Z1
 exact go2
end
def wJ (a:Int) (v:List Ext):Option Ext:=
 br (a==1) (
 (atL v 0).bind fun x=>
 (atL v 1).bind fun f=>
 (du x f).bind fun h=>
 some h) (
 (atL v 0).bind fun k=>
 (atL v 1).bind fun j=>
 (atL v 2).bind fun i=>
 (du j i).bind fun c=>
 (atL v 3).bind fun e=>
 (i5 c e).bind fun d=>
 (du k d).bind fun b=>
 some b)
theorem P3 {a v r} (h:wJ a v=some r):Call tab ow 299 [I a,sl aG v] []=some (.agg [I r.A,I r.B],[]):=by
 rw [ak (af:=Bl) rfl]
 unfold wJ at h
 simp only [Bl,Oc]
 have d1:= @fP
 have d2:= @kC
 exact go2
section
attribute [local go_sem] Xh
@[local go_sem] theorem c2O:mkR 10005 []=rws aG []:=rfl
def rz (c:Int) (a:List (List Ext)) (i o k:Int) (h:List (List Ext)) (d j p m n:Int):(List Ext)×Int->Option (((List Ext)×Int)⊕(((List Ext)×Int×Bool)))
 | (l,b)=>
   br (decide (b<d)) (
   (atL h b).bind fun f=>
   (atL f i).bind fun e=>
   br (bj ((l++([e]:List Ext)).length) 16) (
   some (.inl ((l++([e]:List Ext)),(wrap .i64 (b+1))))) none) (
   some (.inr (l,b,decide (b<d))))
theorem a0a {b a i m f j c d n k l}:LXe tab ow (.close [10005,10006]) Oz (rz b a i m f j c d n k l) (fun s=>⟨[(0,I b),(1,sl (eL aG) a),(4,.ptr 1000 0 0 1),(5,.ptr 2001 0 0 1),(6,I i),(7,.sl 6000 0 s.1.length),(14,I m),(15,I f),(19,sl (eL aG) j),(20,I c),(21,I s.2)],[(1000,⟨2,true,[[I d,I n]]⟩),(2001,⟨2,true,[[I k,I l]]⟩),(6000,⟨2,false,rws aG s.1⟩)]⟩) 2 (fun e=>(e.1,e.2.1)) (fun e=>[(22,B e.2.2)]):=by
 refine lrX (fun s o h=> ?_)
 obtain ⟨_,_⟩:=s
 simp only [rz] at h
 simp only [Oz,Ou]
 exact go2
def qE (b:Int) (a:List (List Ext)) (t c k:Int):Int×Int×Int->Option ((Int×Int×Int)⊕((Int×Bool×Int×Int)))
 | (d,f,h)=>
   br (decide (d<t)) (
   (Loop (rz b a d t d a (a.length:Int) c k f h) (([]:List Ext),0)).bind fun i=>
   (wJ b i.1).bind fun j=>
   (fK (Ext.mk f h) j).bind fun e=>
   some (.inl ((wrap .i64 (d+1)),e.A,e.B))) (
   some (.inr (d,decide (d<t),f,h)))
theorem ZJ {b a t c d}:LXe tab ow (.close [6000,10005,10006,12003,12004]) P0 (qE b a t c d) (fun s=>⟨[(0,I b),(1,sl (eL aG) a),(4,.ptr 1000 0 0 1),(5,.ptr 2001 0 0 1),(14,I t),(15,I s.1)],[(1000,⟨2,true,[[I c,I d]]⟩),(2001,⟨2,true,[[I s.2.1,I s.2.2]]⟩)]⟩) 0 (fun e=>(e.1,e.2.2.1,e.2.2.2)) (fun e=>[(16,B e.2.1)]):=by
 refine lrX (fun s o h=> ?_)
 obtain ⟨_,_,_⟩:=s
 simp only [qE] at h
 simp only [P0,OP]
 have d1:= @a0a
 have d2:= @P3
 have d3:= @gS
 exact go2
def Ln (b:Int) (a:(List (List Ext))):Option Ext:=
 (atL a 0).bind fun x=>
 (Loop (qE b a (x.length:Int) 0 0) (0,0,0)).bind fun c=>
 some (Ext.mk c.2.2.1 c.2.2.2)
theorem a9y {b a r} (h:Ln b a=some r):Call tab ow 388 [I b,sl (eL aG) a] []=some (.agg [I r.A,I r.B],[]):=by
 rw [ak (af:=Hz) rfl]
 unfold Ln at h
 simp only [Hz,HB]
 have d1:= @ZJ
 exact go2
end
section
attribute [local go_sem] fh
@[local go_sem] theorem b6e:mkR 6007 []=rws aG []:=rfl
def mS (b:Int) (a:List (List Ext)) (t:Int):(List Ext)×Int->Option (((List Ext)×Int)⊕(((List Ext)×Int×Bool)))
 | (l,c)=>
   br (decide (c<t)) (
   (Eb a (Ext.mk c 0)).bind fun e=>
   (Ln b e).bind fun d=>
   br (bj ((l++([d]:List Ext)).length) 16) (
   some (.inl ((l++([d]:List Ext)),(wrap .i64 (c+1))))) none) (
   some (.inr (l,c,decide (c<t))))
theorem U5 {b a t}:LXe tab ow (.close [6005,6006,6007,6008]) IG (mS b a t) (fun s=>⟨[(0,I b),(1,sl (eL aG) a),(5,.sl 2000 0 s.1.length),(10,I t),(11,I s.2)],[(2000,⟨2,false,rws aG s.1⟩)]⟩) 0 (fun e=>(e.1,e.2.1)) (fun e=>[(12,B e.2.2)]):=by
 refine lrX (fun s o h=> ?_)
 obtain ⟨_,_⟩:=s
 simp only [mS] at h
 simp only [IG,J8]
 have d1:= @No
 have d2:= @a9y
 exact go2
def ur (b:Int) (a:(List (List Ext))):Option (List Ext):=
 (rA b).bind fun c=>
 (Loop (mS b a (wrap .i64 (c+1))) (([]:List Ext),0)).bind fun d=>
 some d.1
theorem P4 {b a r} (h:ur b a=some r):Call tab ow 352 [I b,sl (eL aG) a] []=some (sl aG r,[]):=by
 rw [ak (af:=BK) rfl]
 unfold ur at h
 simp only [BK,Gt]
 have d1:= @EP
 have d2:= @U5
 exact go2
end
def bL (a:List Ext) (m:Source):Option Source:=
 (iw a).bind fun c=>
 (dJ c m).bind fun b=>
 some b
theorem dy {a m r} (h:bL a m=some r):Call tab ow 223 [.ptr 0 0 0 1,sl aG a] [⟨4,true,[[sl aG m.Script,I m.At,S m.State,I m.Count]]⟩]=some (.tup [],[⟨4,true,[[sl aG r.Script,I r.At,S r.State,I r.Count]]⟩]):=by
 rw [ak (af:=lJ) rfl]
 unfold bL at h
 simp only [lJ,w5]
 have d1:= @kz
 have d2:= @gu
 exact go2
def Nw (a:Ext):Option Unit:=
 some ()
theorem Zy {a r} (h:Nw a=some r):Call tab ow 292 [.agg [I a.A,I a.B]] []=some (.tup [],[]):=by
 rw [ak (af:=Bh) rfl]
 unfold Nw at h
 simp only [Bh,Og]
 exact go2
section
attribute [local go_sem] JG MD
@[local go_sem] theorem yK:mkR 2002 []=rws aG []:=rfl
@[local go_sem] theorem yE:mkR 8002 []=rws (eL aG) []:=rfl
@[local go_sem] theorem oV:mkR 8006 []=rws aG []:=rfl
@[local go_sem] theorem yC:mkR 13004 []=rws aG []:=rfl
def dB (o:List Ext) (d:Int):(List (List Ext))×(List Ext)×(List (List Ext))×(List Ext)×Int×(List UInt8)×Int->Option (((List (List Ext))×(List Ext)×(List (List Ext))×(List Ext)×Int×(List UInt8)×Int)⊕(((List (List Ext))×(List Ext)×(List (List Ext))×Bool×(List Ext)×Int×(List UInt8)×Int)))
 | (l,h,a,c,k,j,m)=>
   (atL a 0).bind fun x=>
   br (decide ((x.length:Int)>1)) (
   (ur d a).bind fun f=>
   (bL f (Source.mk c k j m)).bind fun i=>
   (il i).bind fun b=>
   (Eb a b.1).bind fun e=>
   br (bj ((l++([f]:List (List Ext))).length) 24) (
   br (bj ((h++([b.1]:List Ext)).length) 16) (
   (Nw b.1).bind fun n=>
   some (.inl ((l++([f]:List (List Ext))),(h++([b.1]:List Ext)),e,b.2.Script,b.2.At,b.2.State,b.2.Count))) none) none) (
   some (.inr (l,h,a,decide ((x.length:Int)>1),c,k,j,m)))
theorem yb {b a}:LXe tab ow (.both (.close [4002,5002,6001,6002,7002,8002,8003,8006,8007,9002]) (.nilCell 3 1 3900 1)) lO (dB b a) (fun s=>⟨[(0,.ptr 0 0 0 1),(1,I a),(2,sl (eL aG) s.2.2.1),(3,.fn 292 []),(11,.sl 2000 0 s.1.length),(12,.sl 2001 0 s.2.1.length),(13,.sl 2002 0 b.length)],[(0,⟨4,true,[[sl aG s.2.2.2.1,I s.2.2.2.2.1,S s.2.2.2.2.2.1,I s.2.2.2.2.2.2]]⟩),(2000,⟨1,false,rws (eL aG) s.1⟩),(2001,⟨2,false,rws aG s.2.1⟩),(2002,⟨2,false,rws aG b⟩)]⟩) 0 (fun e=>(e.1,e.2.1,e.2.2.1,e.2.2.2.2.1,e.2.2.2.2.2.1,e.2.2.2.2.2.2.1,e.2.2.2.2.2.2.2)) (fun e=>[(25,B e.2.2.2.1)]):=by
 refine lrX (fun s o h=> ?_)
 obtain ⟨_,_,_,_,_,_,_⟩:=s
 simp only [dB] at h
 simp only [lO,pG]
 have d1:= @P4
 have d2:= @dy
 have d3:= @pg
 have d4:= @No
 have d5:= @Zy
 exact go2
def cZ (l:List (List Ext)) (k:List Ext) (t:List (List Ext)) (c:Int) (f:List Ext) (h:Int) (i:List UInt8) (j:Int):(List Ext)×Int->Option (((List Ext)×Int)⊕(((List Ext)×Int×Bool)))
 | (b,a)=>
   br (decide (a<c)) (
   (atL t a).bind fun e=>
   (atL e 0).bind fun d=>
   br (bj ((b++([d]:List Ext)).length) 16) (
   some (.inl ((b++([d]:List Ext)),(wrap .i64 (a+1))))) none) (
   some (.inr (b,a,decide (a<c))))
theorem xO {b a t c d j f i}:LXe tab ow (.close [13004,13005]) kj (cZ b a t c d j f i) (fun s=>⟨[(11,.sl 2000 0 b.length),(12,.sl 2001 0 a.length),(13,.sl 2002 0 s.1.length),(48,sl (eL aG) t),(49,I c),(50,I s.2)],[(0,⟨4,true,[[sl aG d,I j,S f,I i]]⟩),(2000,⟨1,false,rws (eL aG) b⟩),(2001,⟨2,false,rws aG a⟩),(2002,⟨2,false,rws aG s.1⟩)]⟩) 2 (fun e=>(e.1,e.2.1)) (fun e=>[(51,B e.2.2)]):=by
 refine lrX (fun s o h=> ?_)
 obtain ⟨_,_⟩:=s
 simp only [cZ] at h
 simp only [kj,oc]
 exact go2
def di (c:Int) (b:(List (List Ext))) (m:Source):Option ((List (List Ext))×(List Ext)×(List Ext)×Source):=
 (Loop (dB ([]:List Ext) c) (([]:List (List Ext)),([]:List Ext),b,m.Script,m.At,m.State,m.Count)).bind fun a=>
 (Loop (cZ a.1 a.2.1 a.2.2.1 (a.2.2.1.length:Int) a.2.2.2.2.1 a.2.2.2.2.2.1 a.2.2.2.2.2.2.1 a.2.2.2.2.2.2.2) (([]:List Ext),0)).bind fun d=>
 some (a.1,a.2.1,d.1,(Source.mk a.2.2.2.2.1 a.2.2.2.2.2.1 a.2.2.2.2.2.2.1 a.2.2.2.2.2.2.2))
theorem qv {b a m r} (h:di b a m=some r):Call tab ow 291 [.ptr 0 0 0 1,I b,sl (eL aG) a,.fn 292 []] [⟨4,true,[[sl aG m.Script,I m.At,S m.State,I m.Count]]⟩]=some (.tup [sl (eL aG) r.1,sl aG r.2.1,sl aG r.2.2.1],[⟨4,true,[[sl aG r.2.2.2.Script,I r.2.2.2.At,S r.2.2.2.State,I r.2.2.2.Count]]⟩]):=by
 rw [ak (af:=iJ) rfl]
 unfold di at h
 simp only [iJ,k9]
 have d1:= @yb
 have d2:= @xO
 exact go2
end
section
@[local go_sem] theorem a9C: ∀k,Uh 2003 k [I (0:Int),I (0:Int)]=rws aG (List.replicate k (Ext.mk (0:Int) (0:Int))):=fun _=>b3d aG (Ext.mk (0:Int) (0:Int)) _ _
def ja (b:List Ext) (t v s:List aN) (t4:Int) (i:List aN) (h c z w:Int) (u c5 c6:List aN) (m n y o k j:Int):(List Ext)×Int->Option (((List Ext)×Int)⊕(((List Ext)×Int×Bool)))
 | (l,a)=>
   br (decide (a<h)) (
   (atL i a).bind fun x=>
   br (decide (0<=x.Col)) (
   br (decide (x.Col.toNat<l.length)) (
   (l[x.Col.toNat]?).bind fun q=>
   (atL b x.Row).bind fun p=>
   (du (Ext.mk m n) p).bind fun f=>
   (ip f x.Value).bind fun e=>
   (fK q e).bind fun d=>
   br (decide (0<=x.Col)) (
   br (decide (x.Col.toNat<l.length)) (
   (l[x.Col.toNat]?).bind fun r=>
   some (.inl ((l.set x.Col.toNat d),(wrap .i64 (a+1))))) none) none) none) none) (
   some (.inr (l,a,decide (a<h))))
theorem Ni {a t j v m p i c q l x k w r u n f d b}:LXe tab ow (.close [8002,9016,9019,9020]) kJ (ja a t j v m p i c q l x k w r u n f d b) (fun s=>⟨[(5,.ptr 1001 0 0 1),(7,.sl 2003 0 s.1.length),(8,sl aG a),(9,I 0),(20,.agg [sl aV t,sl aV j,sl aV v]),(21,I m),(25,sl aV p),(26,I i),(27,I s.2)],[(1000,⟨6,true,[[I c,I q,I l,sl aV x,sl aV k,sl aV w]]⟩),(1001,⟨6,true,[[I r,I u,I n,I f,I d,I b]]⟩),(2003,⟨2,false,rws aG s.1⟩)]⟩) 2 (fun e=>(e.1,e.2.1)) (fun e=>[(28,B e.2.2)]):=by
 refine lrX (fun s o h=> ?_)
 obtain ⟨_,_⟩:=s
 simp only [ja] at h
 simp only [kJ,sf]
 have d1:= @fP
 have d2:= @nS
 have d3:= @gS
 exact go2
def rZ (c:List Ext) (z t9 m i:List aN) (e p r n:Int) (v x o:List aN) (s q k h u w:Int):(List Ext)×Int->Option (((List Ext)×Int)⊕(((List Ext)×Int×Bool)))
 | (d,a)=>
   br (decide (a<e)) (
   (atL i a).bind fun b=>
   br (decide (0<=b.Col)) (
   br (decide (b.Col.toNat<d.length)) (
   (d[b.Col.toNat]?).bind fun t=>
   (atL c b.Row).bind fun y=>
   (du (Ext.mk k h) y).bind fun j=>
   (ip j b.Value).bind fun l=>
   (fK t l).bind fun f=>
   br (decide (0<=b.Col)) (
   br (decide (b.Col.toNat<d.length)) (
   (d[b.Col.toNat]?).bind fun x8=>
   some (.inl ((d.set b.Col.toNat f),(wrap .i64 (a+1))))) none) none) none) none) (
   some (.inr (d,a,decide (a<e))))
theorem N1 {a w v k p r c b l f u m t q i n d j}:LXe tab ow (.close [8002,9016,9019,9020]) kJ (rZ a w v k p r c b l f u m t q i n d j) (fun s=>⟨[(5,.ptr 1001 0 0 1),(7,.sl 2003 0 s.1.length),(8,sl aG a),(9,I 1),(20,.agg [sl aV w,sl aV v,sl aV k]),(21,I 1),(25,sl aV p),(26,I r),(27,I s.2)],[(1000,⟨6,true,[[I c,I b,I l,sl aV f,sl aV u,sl aV m]]⟩),(1001,⟨6,true,[[I t,I q,I i,I n,I d,I j]]⟩),(2003,⟨2,false,rws aG s.1⟩)]⟩) 2 (fun e=>(e.1,e.2.1)) (fun e=>[(28,B e.2.2)]):=by
 refine lrX (fun s o h=> ?_)
 obtain ⟨_,_⟩:=s
 simp only [rZ] at h
 simp only [kJ,sf]
 have d1:= @fP
 have d2:= @nS
 have d3:= @gS
 exact go2
def sg (c:List Ext) (s u t16 m:List aN) (e p v c27:Int) (q t y:List aN) (z r w o i l:Int):(List Ext)×Int->Option (((List Ext)×Int)⊕(((List Ext)×Int×Bool)))
 | (d,a)=>
   br (decide (a<e)) (
   (atL m a).bind fun b=>
   br (decide (0<=b.Col)) (
   br (decide (b.Col.toNat<d.length)) (
   (d[b.Col.toNat]?).bind fun j=>
   (atL c b.Row).bind fun n=>
   (du (Ext.mk i l) n).bind fun k=>
   (ip k b.Value).bind fun h=>
   (fK j h).bind fun f=>
   br (decide (0<=b.Col)) (
   br (decide (b.Col.toNat<d.length)) (
   (d[b.Col.toNat]?).bind fun x=>
   some (.inl ((d.set b.Col.toNat f),(wrap .i64 (a+1))))) none) none) none) none) (
   some (.inr (d,a,decide (a<e))))
theorem NA {a c d w p v m f u t n q r k i l b j}:LXe tab ow (.close [8002,9016,9019,9020]) kJ (sg a c d w p v m f u t n q r k i l b j) (fun s=>⟨[(5,.ptr 1001 0 0 1),(7,.sl 2003 0 s.1.length),(8,sl aG a),(9,I 2),(20,.agg [sl aV c,sl aV d,sl aV w]),(21,I 2),(25,sl aV p),(26,I v),(27,I s.2)],[(1000,⟨6,true,[[I m,I f,I u,sl aV t,sl aV n,sl aV q]]⟩),(1001,⟨6,true,[[I r,I k,I i,I l,I b,I j]]⟩),(2003,⟨2,false,rws aG s.1⟩)]⟩) 2 (fun e=>(e.1,e.2.1)) (fun e=>[(28,B e.2.2)]):=by
 refine lrX (fun s o h=> ?_)
 obtain ⟨_,_⟩:=s
 simp only [sg] at h
 simp only [kJ,sf]
 have d1:= @fP
 have d2:= @nS
 have d3:= @gS
 exact go2
def so (s:bD) (h:List Ext) (a:(Ext×Ext×Ext)):Option (List Ext):=
 br (decide (0<=s.Cols)) (
 br (TU (ct .i64 1 s.Cols) (ct .i64 1 s.Cols) 16) (
 (mb h).bind fun c=>
 (eG s).bind fun b=>
 (Loop (ja c b.1 b.2.1 b.2.2 (0:Int) b.1 (b.1.length:Int) s.Rows s.Cols s.Publics s.A s.B s.C a.1.A a.1.B a.2.1.A a.2.1.B a.2.2.A a.2.2.B) ((List.replicate ((ct .i64 (1:Int) s.Cols).toNat) (Ext.mk (0:Int) (0:Int))),(0:Int))).bind fun f=>
 (Loop (rZ c b.1 b.2.1 b.2.2 b.2.1 (b.2.1.length:Int) s.Rows s.Cols s.Publics s.A s.B s.C a.1.A a.1.B a.2.1.A a.2.1.B a.2.2.A a.2.2.B) (f.1,0)).bind fun d=>
 (Loop (sg c b.1 b.2.1 b.2.2 b.2.2 (b.2.2.length:Int) s.Rows s.Cols s.Publics s.A s.B s.C a.1.A a.1.B a.2.1.A a.2.1.B a.2.2.A a.2.2.B) (d.1,0)).bind fun e=>
 some e.1) none) none
theorem FZ {s b a r} (h:so s b a=some r):Call tab ow 293 [.agg [I s.Rows,I s.Cols,I s.Publics,sl aV s.A,sl aV s.B,sl aV s.C],sl aG b,.agg [I a.1.A,I a.1.B,I a.2.1.A,I a.2.1.B,I a.2.2.A,I a.2.2.B]] []=some (sl aG r,[]):=by
 rw [ak (af:=vq) rfl]
 unfold so at h
 simp+decide only [vq,vJ,go_sem,reduceIte,Nat.reduceAdd,Int.reduceAdd,Int.reduceMul,Int.reduceSub]
 obtain ⟨hb,h⟩:=brg h
 refine CV hb ?_
 obtain ⟨hb,h⟩:=brg h
 refine CV hb ?_
 obtain ⟨r_,h1,h⟩:=bd h
 refine kZ (uA h1) ?_
 simp+decide only [go_sem,reduceIte,Nat.reduceAdd,Int.reduceAdd,Int.reduceMul,Int.reduceSub]
 obtain ⟨r_2,h1,h⟩:=bd h
 refine dq (nf h1) ?_
 simp+decide only [go_sem,reduceIte,Nat.reduceAdd,Int.reduceAdd,Int.reduceMul,Int.reduceSub]
 refine fV ?_
 simp+decide only [mkL,go_sem,reduceIte,Nat.reduceAdd,Int.reduceAdd,Int.reduceMul,Int.reduceSub]
 obtain ⟨e_,h1,h⟩:=bd h
 refine Em (lxE Ni h1) ?_
 simp+decide only [go_sem,reduceIte,Nat.reduceAdd,Int.reduceAdd,Int.reduceMul,Int.reduceSub]
 refine fV ?_
 simp+decide only [mkL,go_sem,reduceIte,Nat.reduceAdd,Int.reduceAdd,Int.reduceMul,Int.reduceSub]
 obtain ⟨e_2,h1,h⟩:=bd h
 refine Em (lxE N1 h1) ?_
 simp+decide only [go_sem,reduceIte,Nat.reduceAdd,Int.reduceAdd,Int.reduceMul,Int.reduceSub]
 refine fV ?_
 simp+decide only [mkL,go_sem,reduceIte,Nat.reduceAdd,Int.reduceAdd,Int.reduceMul,Int.reduceSub]
 obtain ⟨e_3,h1,h⟩:=bd h
 refine Em (lxE NA h1) ?_
 simp+decide only [go_sem,reduceIte,Nat.reduceAdd,Int.reduceAdd,Int.reduceMul,Int.reduceSub]
 refine fV ?_
 simp+decide only [mkL,go_sem,reduceIte,Nat.reduceAdd,Int.reduceAdd,Int.reduceMul,Int.reduceSub]
 obtain rfl:=cS h
 first|rfl| (simp only [aO,go_sem];done)
end
def zV (i t:List Ext) (d c k:Int):Int×Int×Int->Option ((Int×Int×Int)⊕((Int×Bool×Int×Int)))
 | (a,e,f)=>
   br (decide (a<d)) (
   (atL t a).bind fun x=>
   (atL i a).bind fun h=>
   (du x h).bind fun j=>
   (fK (Ext.mk e f) j).bind fun b=>
   some (.inl ((wrap .i64 (a+1)),b.A,b.B))) (
   some (.inr (a,decide (a<d),e,f)))
theorem a89 {d t a c b}:LXe tab ow (.close [5003,6006,6007]) UN (zV d t a c b) (fun s=>⟨[(1,sl aG d),(4,.ptr 1000 0 0 1),(5,.ptr 2001 0 0 1),(9,sl aG t),(10,I a),(11,I s.1)],[(1000,⟨2,true,[[I c,I b]]⟩),(2001,⟨2,true,[[I s.2.1,I s.2.2]]⟩)]⟩) 0 (fun e=>(e.1,e.2.2.1,e.2.2.2)) (fun e=>[(12,B e.2.1)]):=by
 refine lrX (fun s o h=> ?_)
 obtain ⟨_,_,_⟩:=s
 simp only [zV] at h
 simp only [UN,Vh]
 have d1:= @fP
 have d2:= @gS
 exact go2
def GG (a b:List Ext):Option Ext:=
 (Loop (zV b a (a.length:Int) 0 0) (0,0,0)).bind fun c=>
 some (Ext.mk c.2.2.1 c.2.2.2)
theorem VM {a b r} (h:GG a b=some r):Call tab ow 101 [sl aG a,sl aG b] []=some (.agg [I r.A,I r.B],[]):=by
 rw [ak (af:=PI) rfl]
 unfold GG at h
 simp only [PI,WS]
 have d1:= @a89
 exact go2
def wC (a:Int):Option Int:=
 (Rb a 2130706431).bind fun b=>
 some b
theorem OW {a r} (h:wC a=some r):Call tab ow 369 [I a] []=some (I r,[]):=by
 rw [ak (af:=C6) rfl]
 unfold wC at h
 simp only [C6,O7]
 have d1:= @Ye
 exact go2
def oN (n i:Int) (a b r:Ext):Option Ext:=
 (wC 2).bind fun e=>
 (Hx n).bind fun k=>
 (N7 k).bind fun l=>
 (Rb l i).bind fun q=>
 (fK a b).bind fun j=>
 (ip j e).bind fun m=>
 (i5 a b).bind fun o=>
 (du r o).bind fun p=>
 (wC q).bind fun h=>
 (uB e h).bind fun f=>
 (ip p f).bind fun c=>
 (fK m c).bind fun d=>
 some d
theorem M1 {n i a b c r} (h:oN n i a b c=some r):Call tab ow 328 [I n,I i,.agg [I a.A,I a.B],.agg [I b.A,I b.B],.agg [I c.A,I c.B]] []=some (.agg [I r.A,I r.B],[]):=by
 rw [ak (af:=zB) rfl]
 unfold oN at h
 simp only [zB,KL]
 have d1:= @OW
 have d2:= @NP
 have d3:= @a0A
 have d4:= @Ye
 have d5:= @gS
 have d6:= @nS
 have d7:= @kC
 have d8:= @fP
 have d9:= @Bj
 exact go2
section
attribute [local go_sem] fh
@[local go_sem] theorem b5C:mkR 6016 []=rws aG []:=rfl
def lH (a:List Ext) (d t c h:Int):(List Ext)×Int->Option (((List Ext)×Int)⊕(((List Ext)×Int×Bool)))
 | (l,b)=>
   br (decide (b<t)) (
   (atL a b).bind fun x=>
   (atL a (wrap .i64 (b+d))).bind fun f=>
   (oN (a.length:Int) b x f (Ext.mk c h)).bind fun e=>
   br (bj ((l++([e]:List Ext)).length) 16) (
   some (.inl ((l++([e]:List Ext)),(wrap .i64 (b+1))))) none) (
   some (.inr (l,b,decide (b<t))))
theorem T7 {a b t c d}:LXe tab ow (.close [6015,6016,6017]) GF (lH a b t c d) (fun s=>⟨[(0,sl aG a),(3,.ptr 1000 0 0 1),(5,.sl 2000 0 s.1.length),(6,I b),(12,I t),(13,I s.2)],[(1000,⟨2,true,[[I c,I d]]⟩),(2000,⟨2,false,rws aG s.1⟩)]⟩) 0 (fun e=>(e.1,e.2.1)) (fun e=>[(14,B e.2.2)]):=by
 refine lrX (fun s o h=> ?_)
 obtain ⟨_,_⟩:=s
 simp only [lH] at h
 simp only [GF,H5]
 have d1:= @M1
 exact go2
def AX (a:List Ext) (b:Ext):Option (List Ext):=
 (Loop (lH a (wrap .i64 ((a.length:Int).tdiv 2)) (wrap .i64 ((a.length:Int).tdiv 2)) b.A b.B) (([]:List Ext),0)).bind fun c=>
 some c.1
theorem Xp {a b r} (h:AX a b=some r):Call tab ow 356 [sl aG a,.agg [I b.A,I b.B]] []=some (sl aG r,[]):=by
 rw [ak (af:=ze) rfl]
 unfold AX at h
 simp only [ze,Ef]
 have d1:= @T7
 exact go2
end
section
@[local go_sem] theorem a4f:mkR 4003 []=rws im []:=rfl
@[local go_sem] theorem a3t:mkR 6003 []=rws eS []:=rfl
def oY (n:Ext) (m h f i:Int) (l:List cQ) (c:List (List UInt8)) (j:Source):Option (Int×Int×Int×Int×(List cQ)×(List (List UInt8))×Source):=
 br (decide (0<=(wrap .i64 ((l.length:Int)-1)))) (
 br (decide ((wrap .i64 ((l.length:Int)-1)).toNat<l.length)) (
 (l[(wrap .i64 ((l.length:Int)-1)).toNat]?).bind fun x=>
 (AX x.word n).bind fun d=>
 br ((l.length:Int)==m) (
 some (m,h,f,i,l,c,j)) (
 (AF d).bind fun a=>
 br (bj ((l++([a]:List cQ)).length) 48) (
 br (decide (0<=(wrap .i64 ((((l++([a]:List cQ)).length:Nat):Int)-1)))) (
 br (decide ((wrap .i64 ((((l++([a]:List cQ)).length:Nat):Int)-1)).toNat<(l++([a]:List cQ)).length)) (
 ((l++([a]:List cQ))[(wrap .i64 ((((l++([a]:List cQ)).length:Nat):Int)-1)).toNat]?).bind fun k=>
 (Ad k.rows).bind fun b=>
 br (bj ((c++([b]:List (List UInt8))).length) 16) (
 br (bj b.length 1) (
 (dJ b j).bind fun e=>
 some (m,h,f,i,(l++([a]:List cQ)),(c++([b]:List (List UInt8))),e)) none) none) none) none) none)) none) none
theorem LB {b m e d f l c a r} (h:oY b m e d f l c a=some r):Call tab ow 355 [.agg [I b.A,I b.B],.ptr 0 0 0 1,.ptr 1 0 0 1,.ptr 2 0 0 1,.ptr 3 0 0 1] [⟨1,true,[[.sl 4 0 l.length]]⟩,⟨1,true,[[I m]]⟩,⟨6,true,[[.lit (.slice none 0 0),.sl 5 0 c.length,I e,I d,I f,.lit (.slice none 0 0)]]⟩,⟨1,true,[[.ptr 6 0 0 1]]⟩,⟨2,false,rws im l⟩,⟨1,false,rws eS c⟩,⟨4,true,[[sl aG a.Script,I a.At,S a.State,I a.Count]]⟩]=some (.tup [],[⟨1,true,[[.sl 4 0 r.2.2.2.2.1.length]]⟩,⟨1,true,[[I r.1]]⟩,⟨6,true,[[.lit (.slice none 0 0),.sl 5 0 r.2.2.2.2.2.1.length,I r.2.1,I r.2.2.1,I r.2.2.2.1,.lit (.slice none 0 0)]]⟩,⟨1,true,[[.ptr 6 0 0 1]]⟩,⟨2,false,rws im r.2.2.2.2.1⟩,⟨1,false,rws eS r.2.2.2.2.2.1⟩,⟨4,true,[[sl aG r.2.2.2.2.2.2.Script,I r.2.2.2.2.2.2.At,S r.2.2.2.2.2.2.State,I r.2.2.2.2.2.2.Count]]⟩]):=by
 rw [ak (af:=qd) rfl]
 unfold oY at h
 simp only [qd,BW]
 have d1:= @Xp
 have d2:= @JH
 have d3:= @SF
 have d4:= @gu
 exact go2
end
section
attribute [local go_sem] JG MD yK yE oV yC
def ck (u:List Ext) (e:Int):(List cQ)×(List (List Ext))×(List Ext)×(List (List UInt8))×(List (List Ext))×(List Ext)×Int×(List UInt8)×Int×Int×Int×Int×Int->Option (((List cQ)×(List (List Ext))×(List Ext)×(List (List UInt8))×(List (List Ext))×(List Ext)×Int×(List UInt8)×Int×Int×Int×Int×Int)⊕(((List cQ)×(List (List Ext))×(List Ext)×(List (List UInt8))×(List (List Ext))×Bool×(List Ext)×Int×(List UInt8)×Int×Int×Int×Int×Int)))
 | (q,j,i,p,a,c,r,m,l,t,s,n,o)=>
   (atL a 0).bind fun x=>
   br (decide ((x.length:Int)>1)) (
   (ur e a).bind fun f=>
   (bL f (Source.mk c r m l)).bind fun h=>
   (il h).bind fun d=>
   (Eb a d.1).bind fun k=>
   br (bj ((j++([f]:List (List Ext))).length) 24) (
   br (bj ((i++([d.1]:List Ext)).length) 16) (
   (oY d.1 t s n o q p d.2).bind fun b=>
   some (.inl (b.2.2.2.2.1,(j++([f]:List (List Ext))),(i++([d.1]:List Ext)),b.2.2.2.2.2.1,k,b.2.2.2.2.2.2.Script,b.2.2.2.2.2.2.At,b.2.2.2.2.2.2.State,b.2.2.2.2.2.2.Count,b.1,b.2.1,b.2.2.1,b.2.2.2.1))) none) none) (
   some (.inr (q,j,i,p,a,decide ((x.length:Int)>1),c,r,m,l,t,s,n,o)))
theorem th {b a}:LXe tab ow (.both (.close [4002,5002,6001,6002,7002,8002,8003,8006,8007,9002]) (.nilCell 3 1 3900 1)) lO (ck b a) (fun s=>⟨[(0,.ptr 0 0 0 1),(1,I a),(2,sl (eL aG) s.2.2.2.2.1),(3,.fn 355 [.ptr 1 0 0 1,.ptr 2 0 0 1,.ptr 3 0 0 1,.ptr 4 0 0 1]),(11,.sl 2000 0 s.2.1.length),(12,.sl 2001 0 s.2.2.1.length),(13,.sl 2002 0 b.length)],[(0,⟨4,true,[[sl aG s.2.2.2.2.2.1,I s.2.2.2.2.2.2.1,S s.2.2.2.2.2.2.2.1,I s.2.2.2.2.2.2.2.2.1]]⟩),(1,⟨1,true,[[.sl 5 0 s.1.length]]⟩),(2,⟨1,true,[[I s.2.2.2.2.2.2.2.2.2.1]]⟩),(3,⟨6,true,[[.lit (.slice none 0 0),.sl 3900 0 s.2.2.2.1.length,I s.2.2.2.2.2.2.2.2.2.2.1,I s.2.2.2.2.2.2.2.2.2.2.2.1,I s.2.2.2.2.2.2.2.2.2.2.2.2,.lit (.slice none 0 0)]]⟩),(4,⟨1,true,[[.ptr 0 0 0 1]]⟩),(5,⟨2,false,rws im s.1⟩),(2000,⟨1,false,rws (eL aG) s.2.1⟩),(2001,⟨2,false,rws aG s.2.2.1⟩),(2002,⟨2,false,rws aG b⟩),(3900,⟨1,false,rws eS s.2.2.2.1⟩)]⟩) 0 (fun e=>(e.1,e.2.1,e.2.2.1,e.2.2.2.1,e.2.2.2.2.1,e.2.2.2.2.2.2.1,e.2.2.2.2.2.2.2.1,e.2.2.2.2.2.2.2.2.1,e.2.2.2.2.2.2.2.2.2.1,e.2.2.2.2.2.2.2.2.2.2.1,e.2.2.2.2.2.2.2.2.2.2.2.1,e.2.2.2.2.2.2.2.2.2.2.2.2.1,e.2.2.2.2.2.2.2.2.2.2.2.2.2)) (fun e=>[(25,B e.2.2.2.2.2.1)]):=by
 refine lrX (fun s o h=> ?_)
 obtain ⟨_,_,_,_,_,_,_,_,_,_,_,_,_⟩:=s
 simp only [ck] at h
 simp only [lO,pG]
 have d1:= @P4
 have d2:= @dy
 have d3:= @pg
 have d4:= @No
 have d5:= @LB
 exact go2
def cL (q:List cQ) (r:List (List Ext)) (o:List Ext) (m:List (List UInt8)) (t:List (List Ext)) (c:Int) (p:List Ext) (k:Int) (i:List UInt8) (e h n l j:Int):(List Ext)×Int->Option (((List Ext)×Int)⊕(((List Ext)×Int×Bool)))
 | (a,b)=>
   br (decide (b<c)) (
   (atL t b).bind fun f=>
   (atL f 0).bind fun d=>
   br (bj ((a++([d]:List Ext)).length) 16) (
   some (.inl ((a++([d]:List Ext)),(wrap .i64 (b+1))))) none) (
   some (.inr (a,b,decide (b<c))))
theorem tw {m n l a t p q i d b c k j f}:LXe tab ow (.close [13004,13005]) kj (cL m n l a t p q i d b c k j f) (fun s=>⟨[(11,.sl 2000 0 n.length),(12,.sl 2001 0 l.length),(13,.sl 2002 0 s.1.length),(48,sl (eL aG) t),(49,I p),(50,I s.2)],[(0,⟨4,true,[[sl aG q,I i,S d,I b]]⟩),(1,⟨1,true,[[.sl 5 0 m.length]]⟩),(2,⟨1,true,[[I c]]⟩),(3,⟨6,true,[[.lit (.slice none 0 0),.sl 3900 0 a.length,I k,I j,I f,.lit (.slice none 0 0)]]⟩),(4,⟨1,true,[[.ptr 0 0 0 1]]⟩),(5,⟨2,false,rws im m⟩),(2000,⟨1,false,rws (eL aG) n⟩),(2001,⟨2,false,rws aG l⟩),(2002,⟨2,false,rws aG s.1⟩),(3900,⟨1,false,rws eS a⟩)]⟩) 2 (fun e=>(e.1,e.2.1)) (fun e=>[(51,B e.2.2)]):=by
 refine lrX (fun s o h=> ?_)
 obtain ⟨_,_⟩:=s
 simp only [cL] at h
 simp only [kj,oc]
 exact go2
def dU (c:Int) (b:(List (List Ext))) (m:Source) (f e h i:Int) (l:List cQ):Option ((List (List Ext))×(List Ext)×(List Ext)×Source×Int×Int×Int×Int×(List cQ)×(List (List UInt8))):=
 (Loop (ck ([]:List Ext) c) (l,([]:List (List Ext)),([]:List Ext),([]:List (List UInt8)),b,m.Script,m.At,m.State,m.Count,f,e,h,i)).bind fun a=>
 (Loop (cL a.1 a.2.1 a.2.2.1 a.2.2.2.1 a.2.2.2.2.1 (a.2.2.2.2.1.length:Int) a.2.2.2.2.2.2.1 a.2.2.2.2.2.2.2.1 a.2.2.2.2.2.2.2.2.1 a.2.2.2.2.2.2.2.2.2.1 a.2.2.2.2.2.2.2.2.2.2.1 a.2.2.2.2.2.2.2.2.2.2.2.1 a.2.2.2.2.2.2.2.2.2.2.2.2.1 a.2.2.2.2.2.2.2.2.2.2.2.2.2) (([]:List Ext),0)).bind fun d=>
 some (a.2.1,a.2.2.1,d.1,(Source.mk a.2.2.2.2.2.2.1 a.2.2.2.2.2.2.2.1 a.2.2.2.2.2.2.2.2.1 a.2.2.2.2.2.2.2.2.2.1),a.2.2.2.2.2.2.2.2.2.2.1,a.2.2.2.2.2.2.2.2.2.2.2.1,a.2.2.2.2.2.2.2.2.2.2.2.2.1,a.2.2.2.2.2.2.2.2.2.2.2.2.2,a.1,a.2.2.2.1)
theorem uN {b a m d c e f l r} (h:dU b a m d c e f l=some r):Call tab ow 291 [.ptr 0 0 0 1,I b,sl (eL aG) a,.fn 355 [.ptr 1 0 0 1,.ptr 2 0 0 1,.ptr 3 0 0 1,.ptr 4 0 0 1]] [⟨4,true,[[sl aG m.Script,I m.At,S m.State,I m.Count]]⟩,⟨1,true,[[.sl 5 0 l.length]]⟩,⟨1,true,[[I d]]⟩,⟨6,true,[[.lit (.slice none 0 0),.lit (.slice none 0 0),I c,I e,I f,.lit (.slice none 0 0)]]⟩,⟨1,true,[[.ptr 0 0 0 1]]⟩,⟨2,false,rws im l⟩]=some (.tup [sl (eL aG) r.1,sl aG r.2.1,sl aG r.2.2.1],[⟨4,true,[[sl aG r.2.2.2.1.Script,I r.2.2.2.1.At,S r.2.2.2.1.State,I r.2.2.2.1.Count]]⟩,⟨1,true,[[.sl 5 0 r.2.2.2.2.2.2.2.2.1.length]]⟩,⟨1,true,[[I r.2.2.2.2.1]]⟩,⟨6,true,[[.lit (.slice none 0 0),.sl 6 0 r.2.2.2.2.2.2.2.2.2.length,I r.2.2.2.2.2.1,I r.2.2.2.2.2.2.1,I r.2.2.2.2.2.2.2.1,.lit (.slice none 0 0)]]⟩,⟨1,true,[[.ptr 0 0 0 1]]⟩,⟨2,false,rws im r.2.2.2.2.2.2.2.2.1⟩,⟨1,false,rws eS r.2.2.2.2.2.2.2.2.2⟩]):=by
 rw [ak (af:=iJ) rfl]
 unfold dU at h
 simp only [iJ,k9]
 have d1:= @th
 have d2:= @tw
 exact go2
end
def rO (t:List UInt8) (b:Int):Int×Int->Option ((Int×Int)⊕((Int×Int×Bool)))
 | (n,a)=>
   br (decide (a<b)) (
   (atL t a).bind fun x=>
   some (.inl ((Cp .i64 (ct .i64 n 8) (wrap .i64 (x.toNat:Int))),(wrap .i64 (a+1))))) (
   some (.inr (n,a,decide (a<b))))
theorem WM {t a}:LXe tab ow (.close []) Ms (rO t a) (fun s=>⟨[(3,I s.1),(6,sl eU8 t),(7,I a),(8,I s.2)],[]⟩) 0 (fun e=>(e.1,e.2.1)) (fun e=>[(9,B e.2.2)]):=by
 refine lrX (fun s o h=> ?_)
 obtain ⟨_,_⟩:=s
 simp only [rO] at h
 simp only [Ms,L8]
 exact go2
def v8 (b:List UInt8):Option Int:=
 (Loop (rO b (b.length:Int)) (0,0)).bind fun a=>
 some a.1
theorem Ko {b r} (h:v8 b=some r):Call tab ow 297 [sl eU8 b] []=some (I r,[]):=by
 rw [ak (af:=DR) rfl]
 unfold v8 at h
 simp only [DR,Jz]
 have d1:= @WM
 exact go2
end
end Go.AI.Fn
set_option linter.unusedVariables false
set_option linter.unusedSimpArgs false
set_option maxRecDepth 100000
set_option maxHeartbeats 1000000
namespace Go.AI.Fn
noncomputable section
open IntKind (wrap)
section
@[local go_sem] theorem a7E:mkR 2003 []=rws eU8 []:=rfl
@[local go_sem] theorem a8R:mkR 2007 []=rws (eL eU8) []:=rfl
def pp (s:Source) (a b:Int):Option Bool:=
 br (bj s.State.length 1) (
 (Ea b).bind fun e=>
 (uQ ([s.State,([(103:UInt8),(114:UInt8),(105:UInt8),(110:UInt8),(100:UInt8)]:List UInt8),e]:List (List UInt8))).bind fun c=>
 br (bj c.length 1) (
 (qA c 0 4).bind fun y=>
 (v8 y).bind fun d=>
 br (decide (0<=(wrap .i64 (32-a)))) (
 some ((cc .i64 d (wrap .i64 (32-a)))==0)) none) none) none
theorem Fu {s b a r} (h:pp s b a=some r):Call tab ow 224 [.agg [sl aG s.Script,I s.At,S s.State,I s.Count],I b,I a] []=some (B r,[]):=by
 rw [ak (af:=tF) rfl]
 unfold pp at h
 simp only [tF,Fg]
 have d1:= @H0
 have d2:= @A3
 have d3:= @Ko
 exact go2
end
def eQ (a:Int) (c:List Ext) (e:Int) (d:List UInt8) (f:Int):Int->Option ((Int)⊕(Int⊕(Int×Bool)))
 |t=>
  br (decide (t<65536)) (
  (pp (Source.mk c e d f) a t).bind fun b=>
  br b (
  some (.inr (.inl t))) (
  some (.inl (wrap .i64 (t+1))))) (
  some (.inr (.inr (t,decide (t<65536)))))
theorem JL {a c d b f}:LX tab ow (.close [5003]) A2 (eQ a c d b f) (fun s=>⟨[(1,I a),(2,.ptr 1000 0 0 1),(6,I s)],[(1000,⟨4,true,[[sl aG c,I d,S b,I f]]⟩)]⟩) (alt (fun e=>((.ret,⟨[(4,I e)],[(1000,⟨4,true,[[sl aG c,I d,S b,I f]]⟩)]⟩):dd×St)) (fun e=>(.exit 0,⟨[(1,I a),(2,.ptr 1000 0 0 1),(6,I e.1),(7,B e.2)],[(1000,⟨4,true,[[sl aG c,I d,S b,I f]]⟩)]⟩))):=by
 refine lrX (fun s o h=> ?_)
 simp only [eQ] at h
 simp only [A2,AE]
 have d1:= @Fu
 exact go2
def qN (s:Source) (a:Int):Option Int:=
 (Loop (eQ a s.Script s.At s.State s.Count) 0).bind (alt (fun b=>
 some b) (fun c=>
 some (-1:Int)))
theorem Nj {s a r} (h:qN s a=some r):Call tab ow 357 [.agg [sl aG s.Script,I s.At,S s.State,I s.Count],I a] []=some (I r,[]):=by
 rw [ak (af:=rK) rfl]
 unfold qN at h
 simp only [rK,wB]
 have d1:= @JL
 exact go2
section
attribute [local go_sem] oh
@[local go_sem] theorem c01:mkR 6005 []=rws eI []:=rfl
def oq (a:Int) (t:List Ext) (c:Int):(List Int)×Int->Option (((List Int)×Int)⊕(((List Int)×Int×Bool)))
 | (l,b)=>
   br (decide (b<c)) (
   (atL t b).bind fun x=>
   br (decide (a≠0)) (
   br (bj ((l++([(x.A.tmod a)]:List Int)).length) 8) (
   some (.inl ((l++([(x.A.tmod a)]:List Int)),(wrap .i64 (b+1))))) none) none) (
   some (.inr (l,b,decide (b<c))))
theorem Ys {a t b}:LXe tab ow (.close [5002,6005,6006]) LA (oq a t b) (fun s=>⟨[(1,I a),(5,.sl 2000 0 s.1.length),(9,sl aG t),(10,I b),(11,I s.2)],[(2000,⟨1,false,rws eI s.1⟩)]⟩) 0 (fun e=>(e.1,e.2.1)) (fun e=>[(12,B e.2.2)]):=by
 refine lrX (fun s o h=> ?_)
 obtain ⟨_,_⟩:=s
 simp only [oq] at h
 simp only [LA,KB]
 exact go2
def D0 (a:List Ext) (b:Int):Option (List Int):=
 (Loop (oq b a (a.length:Int)) (([]:List Int),0)).bind fun c=>
 some c.1
theorem R0 {b a r} (h:D0 b a=some r):Call tab ow 226 [sl aG b,I a] []=some (sl eI r,[]):=by
 rw [ak (af:=Eh) rfl]
 unfold D0 at h
 simp only [Eh,JM]
 have d1:= @Ys
 exact go2
end
section
attribute [local go_sem] Jd
@[local go_sem] theorem c09:mkR 6006 []=rws eS []:=rfl
def oT (t:List (List (List UInt8))) (c:Int):(List (List UInt8))×Int×Int->Option (((List (List UInt8))×Int×Int)⊕(((List (List UInt8))×Int×Int×Bool)))
 | (l,b,a)=>
   br (decide (a<c)) (
   (atL t a).bind fun x=>
   (atL x (sA .i64 b 1)).bind fun d=>
   br (bj ((l++([d]:List (List UInt8))).length) 16) (
   some (.inl ((l++([d]:List (List UInt8))),(wrap .i64 (b.tdiv 2)),(wrap .i64 (a+1))))) none) (
   some (.inr (l,b,a,decide (a<c))))
theorem XW {t a}:LXe tab ow (.close [6006,6007]) Kx (oT t a) (fun s=>⟨[(1,I s.2.1),(5,.sl 2000 0 s.1.length),(13,sl (eL eS) t),(14,I a),(15,I s.2.2)],[(2000,⟨1,false,rws eS s.1⟩)]⟩) 0 (fun e=>(e.1,e.2.1,e.2.2.1)) (fun e=>[(16,B e.2.2.2)]):=by
 refine lrX (fun s o h=> ?_)
 obtain ⟨_,_,_⟩:=s
 simp only [oT] at h
 simp only [Kx,KF]
 exact go2
def Gx (a:(List (List (List UInt8)))) (i:Int):Option ((List (List UInt8))):=
 (qA a 0 (wrap .i64 ((a.length:Int)-1))).bind fun y=>
 (Loop (oT y (y.length:Int)) (([]:List (List UInt8)),i,0)).bind fun b=>
 some b.1
theorem a3P {a i r} (h:Gx a i=some r):Call tab ow 358 [sl (eL eS) a,I i] []=some (sl eS r,[]):=by
 rw [ak (af:=DV) rfl]
 unfold Gx at h
 simp only [DV,Ka]
 have d1:= @XW
 exact go2
end
section
@[local go_sem] theorem a8H:mkR 2006 []=rws im []:=rfl
theorem Nv:mkR 4004 []=rws (eL aG) []:=rfl
attribute [local go_sem] Nv D8
@[local go_sem] theorem a6G:mkR 20014 []=rws aG []:=rfl
@[local go_sem] theorem a7S:mkR 20022 []=rws (eL eS) []:=rfl
@[local go_sem] theorem NJ:mkR 22003 []=rws db []:=rfl
def jL (i:List cQ) (l5:List (List UInt8)) (l6:List cw) (f:Int) (t5:List Int) (t6 t7 k:Int) (s:List Ext) (v:Int) (l:List UInt8) (q p x m r u n:Int) (w:List (List Ext)) (z o t y:Int):(List Ext)×(List (List (List UInt8)))×Int->Option (((List Ext)×(List (List (List UInt8)))×Int)⊕(((List Ext)×(List (List (List UInt8)))×Int×Bool)))
 | (d,e,c)=>
   br (decide (c<k)) (
   br (decide (0<=c)) (
   br (decide (c.toNat<i.length)) (
   (i[c.toNat]?).bind fun a=>
   br (decide ((wrap .i64 ((a.word.length:Int).tdiv 2))≠0)) (
   (atL a.word (f.tmod (wrap .i64 ((a.word.length:Int).tdiv 2)))).bind fun j=>
   (atL a.word (wrap .i64 ((f.tmod (wrap .i64 ((a.word.length:Int).tdiv 2)))+(wrap .i64 ((a.word.length:Int).tdiv 2))))).bind fun h=>
   br (bj ((d++([j,h]:List Ext)).length) 16) (
   (Gx a.rows (f.tmod (wrap .i64 ((a.word.length:Int).tdiv 2)))).bind fun b=>
   br (bj ((e++([b]:List (List (List UInt8)))).length) 24) (
   some (.inl ((d++([j,h]:List Ext)),(e++([b]:List (List (List UInt8)))),(wrap .i64 (c+1))))) none) none) none) none) none) (
   some (.inr (d,e,c,decide (c<k))))
theorem MA {u v w t4 y x z t8 k n a i f q b j m c p t d l r}:LXe tab ow (.both (.both (.close [17002,20014,20015,20021,20022,20023]) (.nilCell 14001 0 16900 2)) (.nilCell 14001 1 16901 1)) An (jL u v w t4 y x z t8 k n a i f q b j m c p t d l r) (fun s=>⟨[(8,.ptr 1002 0 0 1),(10,.ptr 2007 0 0 1),(11,.ptr 3003 0 0 1),(17,I t4),(18,.ptr 14001 0 0 1),(81,sl eI y),(82,I x),(83,I z),(88,.sl 2006 0 u.length),(89,I t8),(90,I s.2.2)],[(0,⟨4,true,[[sl aG k,I n,S a,I i]]⟩),(1000,⟨1,true,[[.ptr 0 0 0 1]]⟩),(1001,⟨3,true,[[I f,I q,I b]]⟩),(1002,⟨6,true,[[.lit (.slice none 0 0),.lit (.slice none 0 0),I j,I m,I c,.lit (.slice none 0 0)]]⟩),(2006,⟨2,false,rws im u⟩),(2007,⟨1,true,[[.sl 2006 0 u.length]]⟩),(3003,⟨6,true,[[sl (eL aG) p,.sl 4006 0 v.length,I t,I d,I l,.sl 12900 0 w.length]]⟩),(3004,⟨1,true,[[I r]]⟩),(4004,kf),(4006,⟨1,false,rws eS v⟩),(6003,kf),(12900,⟨2,false,rws db w⟩),(14001,⟨2,true,[[.sl 16900 0 s.1.length,.sl 16901 0 s.2.1.length]]⟩),(16900,⟨2,false,rws aG s.1⟩),(16901,⟨1,false,rws (eL eS) s.2.1⟩)]⟩) 2 (fun e=>(e.1,e.2.1,e.2.2.1)) (fun e=>[(91,B e.2.2.2)]):=by
 refine lrX (fun s o h=> ?_)
 obtain ⟨_,_,_⟩:=s
 simp only [jL] at h
 simp only [An,A4]
 have d1:= @a3P
 exact go2
def iB (l:List cQ) (r:List (List UInt8)) (t:List Int) (i:Int) (c:List Ext) (u:Int) (o:List UInt8) (n x v p q s m:Int) (j:List (List Ext)) (f h k e:Int):(List cw)×Int->Option (((List cw)×Int)⊕(((List cw)×Int×Bool)))
 | (b,a)=>
   br (decide (a<i)) (
   (atL t a).bind fun w=>
   (Loop (jL l r b w t i a (l.length:Int) c u o n x v p q s m j f h k e) (([]:List Ext),([]:List (List (List UInt8))),0)).bind fun d=>
   br (bj ((b++([(cw.mk d.1 d.2.1)]:List cw)).length) 48) (
   some (.inl ((b++([(cw.mk d.1 d.2.1)]:List cw)),(wrap .i64 (a+1))))) none) (
   some (.inr (b,a,decide (a<i))))
theorem KI {l k t m c r p x n w u v q f d a b j i}:LXe tab ow (.both (.close [14001,17002,20014,20015,20021,20022,20023,22003,22004,16900,16901]) (.nilCell 3003 5 12900 2)) A7 (iB l k t m c r p x n w u v q f d a b j i) (fun s=>⟨[(8,.ptr 1002 0 0 1),(10,.ptr 2007 0 0 1),(11,.ptr 3003 0 0 1),(81,sl eI t),(82,I m),(83,I s.2)],[(0,⟨4,true,[[sl aG c,I r,S p,I x]]⟩),(1000,⟨1,true,[[.ptr 0 0 0 1]]⟩),(1001,⟨3,true,[[I n,I w,I u]]⟩),(1002,⟨6,true,[[.lit (.slice none 0 0),.lit (.slice none 0 0),I v,I q,I f,.lit (.slice none 0 0)]]⟩),(2006,⟨2,false,rws im l⟩),(2007,⟨1,true,[[.sl 2006 0 l.length]]⟩),(3003,⟨6,true,[[sl (eL aG) d,.sl 4006 0 k.length,I a,I b,I j,.sl 12900 0 s.1.length]]⟩),(3004,⟨1,true,[[I i]]⟩),(4004,kf),(4006,⟨1,false,rws eS k⟩),(6003,kf),(12900,⟨2,false,rws db s.1⟩)]⟩) 0 (fun e=>(e.1,e.2.1)) (fun e=>[(84,B e.2.2)]):=by
 refine lrX (fun s o h=> ?_)
 obtain ⟨_,_⟩:=s
 simp only [iB] at h
 simp only [A7,AM]
 have d1:= @MA
 exact go2
def te (a p:List Ext) (h:Setting) (m:Source):Option (bK×Bool×Source):=
 (zQ a).bind fun r=>
 (zX r h.Rate).bind fun o=>
 (AF o).bind fun i=>
 (mb p).bind fun j=>
 (dU 1 ([a,j]:List (List Ext)) m (p.length:Int) 0 0 0 ([i]:List cQ)).bind fun b=>
 (atL b.2.2.1 0).bind fun x=>
 (bL ([x]:List Ext) b.2.2.2.1).bind fun f=>
 (qN f h.Grind).bind fun d=>
 br (decide (d<0)) (
 some ((bK.mk ([]:List (List Ext)) ([]:List (List UInt8)) (Ext.mk 0 0) 0 ([]:List cw)),false,f)) (
 (Ea d).bind fun k=>
 (dJ k f).bind fun l=>
 (gI h.Queries l).bind fun c=>
 br (decide (0<b.2.2.2.2.2.2.2.2.1.length)) (
 (b.2.2.2.2.2.2.2.2.1[0]?).bind fun q=>
 (D0 c.1 (wrap .i64 ((q.word.length:Int).tdiv 2))).bind fun e=>
 (Loop (iB b.2.2.2.2.2.2.2.2.1 b.2.2.2.2.2.2.2.2.2 e (e.length:Int) c.2.Script c.2.At c.2.State c.2.Count h.Rate h.Queries h.Grind 0 0 0 b.1 x.A x.B d b.2.2.2.2.1) (([]:List cw),0)).bind fun n=>
 some ((bK.mk b.1 b.2.2.2.2.2.2.2.2.2 x d n.1),true,c.2)) none)
theorem Pc {a c b m r} (h:te a c b m=some r):Call tab ow 294 [.ptr 0 0 0 1,sl aG a,sl aG c,.agg [I b.Rate,I b.Queries,I b.Grind]] [⟨4,true,[[sl aG m.Script,I m.At,S m.State,I m.Count]]⟩]=some (.tup [.agg [sl (eL aG) r.1.Rounds,sl eS r.1.Roots,I r.1.Last.A,I r.1.Last.B,I r.1.Nonce,sl db r.1.Queries],B r.2.1],[⟨4,true,[[sl aG r.2.2.Script,I r.2.2.At,S r.2.2.State,I r.2.2.Count]]⟩]):=by
 rw [ak (af:=tP) rfl]
 unfold te at h
 simp only [tP,tW]
 have d1:= @Oi
 have d2:= @OS
 have d3:= @JH
 have d4:= @uA
 have d5:= @uN
 have d6:= @dy
 have d7:= @Nj
 have d8:= @H0
 have d9:= @gu
 have d10:= @nN
 have d11:= @R0
 have d12:= @KI
 exact go2
end
section
@[local go_sem] theorem a4V:mkR 6005 []=rws (eL aG) []:=rfl
@[local go_sem] theorem a6g:mkR 10007 []=rws (eL aG) []:=rfl
@[local go_sem] theorem a4H:mkR 14007 []=rws aG []:=rfl
@[local go_sem] theorem a4F:mkR 16007 []=rws (eL aG) []:=rfl
@[local go_sem] theorem Lq:mkR 19003 []=rws aG []:=rfl
def rG (a:bD) (a2:Setting) (a3 q:List Int) (m:Source):Option (jF×Bool×Source):=
 (fg a).bind fun r_=>
 (qA q r_ (q.length:Int)).bind fun y=>
 (As y).bind fun p=>
 (uL a a2 a3).bind fun r_3=>
 (dJ r_3 m).bind fun r_4=>
 (zQ p).bind fun r_5=>
 (zX r_5 a2.Rate).bind fun r_6=>
 (AF r_6).bind fun r_7=>
 (Ad r_7.rows).bind fun o=>
 br (bj o.length 1) (
 (dJ o r_4).bind fun r_9=>
 (gI a.Rows r_9).bind fun n=>
 (mb n.1).bind fun d=>
 (eG a).bind fun i=>
 (uu i.1 a.Rows q).bind fun z=>
 (As z).bind fun c=>
 br (bj ((([d]:List (List Ext))++([c]:List (List Ext))).length) 24) (
 (uu i.2.1 a.Rows q).bind fun r=>
 (As r).bind fun h=>
 br (bj (((([d]:List (List Ext))++([c]:List (List Ext)))++([h]:List (List Ext))).length) 24) (
 (uu i.2.2 a.Rows q).bind fun v=>
 (As v).bind fun k=>
 br (bj ((((([d]:List (List Ext))++([c]:List (List Ext)))++([h]:List (List Ext)))++([k]:List (List Ext))).length) 24) (
 (di 2 (((([d]:List (List Ext))++([c]:List (List Ext)))++([h]:List (List Ext)))++([k]:List (List Ext))) n.2).bind fun b=>
 (atL b.2.2.1 1).bind fun x=>
 (atL b.2.2.1 2).bind fun x2=>
 (atL b.2.2.1 3).bind fun x3=>
 (bL ([x,x2,x3]:List Ext) b.2.2.2).bind fun r_20=>
 (gI 3 r_20).bind fun j=>
 br (decide (3<=j.1.length)) (
 (a1c j.1).bind fun x4=>
 (so a b.2.1 (x4.1,x4.2.1,x4.2.2)).bind fun u=>
 (As q).bind fun s=>
 (di 1 ([u,s]:List (List Ext)) j.2).bind fun f=>
 (qA f.2.1 0 (wrap .i64 (a.Cols-1))).bind fun y2=>
 (mb y2).bind fun w=>
 (GG p w).bind fun l=>
 (bL ([l]:List Ext) f.2.2.2).bind fun t=>
 (te p y2 a2 t).bind fun e=>
 some ((jF.mk o b.1 x x2 x3 f.1 l e.1),e.2.1,e.2.2)) none) none) none) none) none
theorem MV {a b d c m r} (h:rG a b d c m=some r):Call tab ow 174 [.ptr 0 0 0 1,.agg [I a.Rows,I a.Cols,I a.Publics,sl aV a.A,sl aV a.B,sl aV a.C],.agg [I b.Rate,I b.Queries,I b.Grind],sl eI d,sl eI c] [⟨4,true,[[sl aG m.Script,I m.At,S m.State,I m.Count]]⟩]=some (.tup [.agg [S r.1.Root,sl (eL aG) r.1.Gates,I r.1.VA.A,I r.1.VA.B,I r.1.VB.A,I r.1.VB.B,I r.1.VC.A,I r.1.VC.B,sl (eL aG) r.1.Wires,I r.1.VW.A,I r.1.VW.B,sl (eL aG) r.1.Open.Rounds,sl eS r.1.Open.Roots,I r.1.Open.Last.A,I r.1.Open.Last.B,I r.1.Open.Nonce,sl db r.1.Open.Queries],B r.2.1],[⟨4,true,[[sl aG r.2.2.Script,I r.2.2.At,S r.2.2.State,I r.2.2.Count]]⟩]):=by
 rw [ak (af:=sh) rfl]
 unfold rG at h
 simp+decide only [sh,wK,go_sem,reduceIte,Nat.reduceAdd,Int.reduceAdd,Int.reduceMul,Int.reduceSub]
 obtain ⟨r_,h1,h⟩:=bd h
 refine dq (ma h1) ?_
 simp+decide only [go_sem,reduceIte,Nat.reduceAdd,Int.reduceAdd,Int.reduceMul,Int.reduceSub]
 obtain ⟨y,h1,h⟩:=bd h
 refine bind_some h1 ?_
 obtain ⟨r_2,h1,h⟩:=bd h
 refine dq (Dq h1) ?_
 simp+decide only [go_sem,reduceIte,Nat.reduceAdd,Int.reduceAdd,Int.reduceMul,Int.reduceSub]
 obtain ⟨r_3,h1,h⟩:=bd h
 refine dq (Jn h1) ?_
 simp+decide only [go_sem,reduceIte,Nat.reduceAdd,Int.reduceAdd,Int.reduceMul,Int.reduceSub]
 obtain ⟨r_4,h1,h⟩:=bd h
 refine dq (gu h1) ?_
 simp+decide only [go_sem,reduceIte,Nat.reduceAdd,Int.reduceAdd,Int.reduceMul,Int.reduceSub]
 obtain ⟨r_5,h1,h⟩:=bd h
 refine kZ (Oi h1) ?_
 simp+decide only [go_sem,reduceIte,Nat.reduceAdd,Int.reduceAdd,Int.reduceMul,Int.reduceSub]
 obtain ⟨r_6,h1,h⟩:=bd h
 refine kZ (OS h1) ?_
 simp+decide only [go_sem,reduceIte,Nat.reduceAdd,Int.reduceAdd,Int.reduceMul,Int.reduceSub]
 obtain ⟨r_7,h1,h⟩:=bd h
 refine kZ (JH h1) ?_
 simp+decide only [go_sem,reduceIte,Nat.reduceAdd,Int.reduceAdd,Int.reduceMul,Int.reduceSub]
 obtain ⟨r_8,h1,h⟩:=bd h
 refine kZ (SF h1) ?_
 simp+decide only [go_sem,reduceIte,Nat.reduceAdd,Int.reduceAdd,Int.reduceMul,Int.reduceSub]
 obtain ⟨hb,h⟩:=brg h
 refine CV hb ?_
 obtain ⟨r_9,h1,h⟩:=bd h
 refine dq (gu h1) ?_
 simp+decide only [go_sem,reduceIte,Nat.reduceAdd,Int.reduceAdd,Int.reduceMul,Int.reduceSub]
 obtain ⟨r_10,h1,h⟩:=bd h
 refine dq (nN h1) ?_
 simp+decide only [go_sem,reduceIte,Nat.reduceAdd,Int.reduceAdd,Int.reduceMul,Int.reduceSub]
 obtain ⟨r_11,h1,h⟩:=bd h
 refine dq (uA h1) ?_
 simp+decide only [go_sem,reduceIte,Nat.reduceAdd,Int.reduceAdd,Int.reduceMul,Int.reduceSub]
 obtain ⟨r_12,h1,h⟩:=bd h
 refine dq (nf h1) ?_
 simp+decide only [go_sem,reduceIte,Nat.reduceAdd,Int.reduceAdd,Int.reduceMul,Int.reduceSub]
 refine fV ?_
 simp+decide only [mkL,go_sem,reduceIte,Nat.reduceAdd,Int.reduceAdd,Int.reduceMul,Int.reduceSub]
 obtain ⟨r_13,h1,h⟩:=bd h
 refine dq (FM h1) ?_
 simp+decide only [go_sem,reduceIte,Nat.reduceAdd,Int.reduceAdd,Int.reduceMul,Int.reduceSub]
 obtain ⟨r_14,h1,h⟩:=bd h
 refine dq (Dq h1) ?_
 simp+decide only [go_sem,reduceIte,Nat.reduceAdd,Int.reduceAdd,Int.reduceMul,Int.reduceSub]
 obtain ⟨hb,h⟩:=brg h
 refine CV hb ?_
 refine fV ?_
 simp+decide only [mkL,go_sem,reduceIte,Nat.reduceAdd,Int.reduceAdd,Int.reduceMul,Int.reduceSub]
 obtain ⟨r_15,h1,h⟩:=bd h
 refine dq (FM h1) ?_
 simp+decide only [go_sem,reduceIte,Nat.reduceAdd,Int.reduceAdd,Int.reduceMul,Int.reduceSub]
 obtain ⟨r_16,h1,h⟩:=bd h
 refine dq (Dq h1) ?_
 simp+decide only [go_sem,reduceIte,Nat.reduceAdd,Int.reduceAdd,Int.reduceMul,Int.reduceSub]
 obtain ⟨hb,h⟩:=brg h
 refine CV hb ?_
 refine fV ?_
 simp+decide only [mkL,go_sem,reduceIte,Nat.reduceAdd,Int.reduceAdd,Int.reduceMul,Int.reduceSub]
 obtain ⟨r_17,h1,h⟩:=bd h
 refine dq (FM h1) ?_
 simp+decide only [go_sem,reduceIte,Nat.reduceAdd,Int.reduceAdd,Int.reduceMul,Int.reduceSub]
 obtain ⟨r_18,h1,h⟩:=bd h
 refine dq (Dq h1) ?_
 simp+decide only [go_sem,reduceIte,Nat.reduceAdd,Int.reduceAdd,Int.reduceMul,Int.reduceSub]
 obtain ⟨hb,h⟩:=brg h
 refine CV hb ?_
 refine fV ?_
 simp+decide only [mkL,go_sem,reduceIte,Nat.reduceAdd,Int.reduceAdd,Int.reduceMul,Int.reduceSub]
 obtain ⟨r_19,h1,h⟩:=bd h
 refine dq (qv h1) ?_
 simp+decide only [go_sem,reduceIte,Nat.reduceAdd,Int.reduceAdd,Int.reduceMul,Int.reduceSub]
 obtain ⟨x,h1,h⟩:=bd h
 refine bind_some h1 ?_
 obtain ⟨x2,h1,h⟩:=bd h
 refine bind_some h1 ?_
 obtain ⟨x3,h1,h⟩:=bd h
 refine bind_some h1 ?_
 obtain ⟨r_20,h1,h⟩:=bd h
 refine dq (dy h1) ?_
 simp+decide only [go_sem,reduceIte,Nat.reduceAdd,Int.reduceAdd,Int.reduceMul,Int.reduceSub]
 obtain ⟨r_21,h1,h⟩:=bd h
 refine dq (nN h1) ?_
 simp+decide only [go_sem,reduceIte,Nat.reduceAdd,Int.reduceAdd,Int.reduceMul,Int.reduceSub]
 obtain ⟨hb,h⟩:=brg h
 refine CV hb ?_
 obtain ⟨x4,h1,h⟩:=bd h
 refine bind_some h1 ?_
 obtain ⟨r_22,h1,h⟩:=bd h
 refine dq (FZ h1) ?_
 simp+decide only [go_sem,reduceIte,Nat.reduceAdd,Int.reduceAdd,Int.reduceMul,Int.reduceSub]
 obtain ⟨r_23,h1,h⟩:=bd h
 refine dq (Dq h1) ?_
 simp+decide only [go_sem,reduceIte,Nat.reduceAdd,Int.reduceAdd,Int.reduceMul,Int.reduceSub]
 obtain ⟨r_24,h1,h⟩:=bd h
 refine dq (qv h1) ?_
 simp+decide only [go_sem,reduceIte,Nat.reduceAdd,Int.reduceAdd,Int.reduceMul,Int.reduceSub]
 obtain ⟨y2,h1,h⟩:=bd h
 refine bind_some h1 ?_
 obtain ⟨r_25,h1,h⟩:=bd h
 refine dq (uA h1) ?_
 simp+decide only [go_sem,reduceIte,Nat.reduceAdd,Int.reduceAdd,Int.reduceMul,Int.reduceSub]
 obtain ⟨r_26,h1,h⟩:=bd h
 refine dq (VM h1) ?_
 simp+decide only [go_sem,reduceIte,Nat.reduceAdd,Int.reduceAdd,Int.reduceMul,Int.reduceSub]
 obtain ⟨r_27,h1,h⟩:=bd h
 refine dq (dy h1) ?_
 simp+decide only [go_sem,reduceIte,Nat.reduceAdd,Int.reduceAdd,Int.reduceMul,Int.reduceSub]
 obtain ⟨r_28,h1,h⟩:=bd h
 refine dq (Pc h1) ?_
 simp+decide only [go_sem,reduceIte,Nat.reduceAdd,Int.reduceAdd,Int.reduceMul,Int.reduceSub]
 obtain rfl:=cS h
 first|rfl| (simp only [aO,go_sem];done)
end
def GS (s:bD) (t:Setting) (a z:List Int) (b:Source):Option (jF×Int):=
 (mh b).bind fun d=>
 (rG s t a z d).bind fun c=>
 br (!c.2.1) (
 some ((jF.mk (([]:List UInt8)) ([]:List (List Ext)) (Ext.mk 0 0) (Ext.mk 0 0) (Ext.mk 0 0) ([]:List (List Ext)) (Ext.mk 0 0) (bK.mk ([]:List (List Ext)) ([]:List (List UInt8)) (Ext.mk 0 0) 0 ([]:List cw))),14)) (
 some (c.1,0))
theorem a2g {s t b z a r} (h:GS s t b z a=some r):Call tab ow 82 [.agg [I s.Rows,I s.Cols,I s.Publics,sl aV s.A,sl aV s.B,sl aV s.C],.agg [I t.Rate,I t.Queries,I t.Grind],sl eI b,sl eI z,.agg [sl aG a.Script,I a.At,S a.State,I a.Count]] []=some (.tup [.agg [S r.1.Root,sl (eL aG) r.1.Gates,I r.1.VA.A,I r.1.VA.B,I r.1.VB.A,I r.1.VB.B,I r.1.VC.A,I r.1.VC.B,sl (eL aG) r.1.Wires,I r.1.VW.A,I r.1.VW.B,sl (eL aG) r.1.Open.Rounds,sl eS r.1.Open.Roots,I r.1.Open.Last.A,I r.1.Open.Last.B,I r.1.Open.Nonce,sl db r.1.Open.Queries],I r.2],[]):=by
 rw [ak (af:=E5) rfl]
 unfold GS at h
 simp only [E5,Tr]
 have d1:= @BV
 have d2:= @MV
 exact go2
def eV (c:Circuit) (t:Setting) (a d:List Int) (b:Source):Option (jF×Int):=
 (zS c a d).bind fun n=>
 br (n !=0) (
 some ((jF.mk (([]:List UInt8)) ([]:List (List Ext)) (Ext.mk 0 0) (Ext.mk 0 0) (Ext.mk 0 0) ([]:List (List Ext)) (Ext.mk 0 0) (bK.mk ([]:List (List Ext)) ([]:List (List UInt8)) (Ext.mk 0 0) 0 ([]:List cw))),n)) (
 (kB t).bind fun k=>
 br (!k) (
 some ((jF.mk (([]:List UInt8)) ([]:List (List Ext)) (Ext.mk 0 0) (Ext.mk 0 0) (Ext.mk 0 0) ([]:List (List Ext)) (Ext.mk 0 0) (bK.mk ([]:List (List Ext)) ([]:List (List UInt8)) (Ext.mk 0 0) 0 ([]:List cw))),1)) (
 (uc b).bind fun l=>
 br (!l) (
 some ((jF.mk (([]:List UInt8)) ([]:List (List Ext)) (Ext.mk 0 0) (Ext.mk 0 0) (Ext.mk 0 0) ([]:List (List Ext)) (Ext.mk 0 0) (bK.mk ([]:List (List Ext)) ([]:List (List UInt8)) (Ext.mk 0 0) 0 ([]:List cw))),1)) (
 (mW b).bind fun i=>
 br (decide (i<200)) (
 some ((jF.mk (([]:List UInt8)) ([]:List (List Ext)) (Ext.mk 0 0) (Ext.mk 0 0) (Ext.mk 0 0) ([]:List (List Ext)) (Ext.mk 0 0) (bK.mk ([]:List (List Ext)) ([]:List (List UInt8)) (Ext.mk 0 0) 0 ([]:List cw))),6)) (
 (pm c a d).bind fun h=>
 br (!h.2) (
 some ((jF.mk (([]:List UInt8)) ([]:List (List Ext)) (Ext.mk 0 0) (Ext.mk 0 0) (Ext.mk 0 0) ([]:List (List Ext)) (Ext.mk 0 0) (bK.mk ([]:List (List Ext)) ([]:List (List UInt8)) (Ext.mk 0 0) 0 ([]:List cw))),15)) (
 (kQ c).bind fun e=>
 (o0 c h.1).bind fun m=>
 (jP e a m).bind fun j=>
 (GS e t a j b).bind fun f=>
 some (f.1,f.2))))))
theorem Nd {c t b d a r} (h:eV c t b d a=some r):Call tab ow 16 [.agg [sl en c.Gates],.agg [I t.Rate,I t.Queries,I t.Grind],sl eI b,sl eI d,.agg [sl aG a.Script,I a.At,S a.State,I a.Count]] []=some (.tup [.agg [S r.1.Root,sl (eL aG) r.1.Gates,I r.1.VA.A,I r.1.VA.B,I r.1.VB.A,I r.1.VB.B,I r.1.VC.A,I r.1.VC.B,sl (eL aG) r.1.Wires,I r.1.VW.A,I r.1.VW.B,sl (eL aG) r.1.Open.Rounds,sl eS r.1.Open.Roots,I r.1.Open.Last.A,I r.1.Open.Last.B,I r.1.Open.Nonce,sl db r.1.Open.Queries],I r.2],[]):=by
 rw [ak (af:=sw) rfl]
 unfold eV at h
 simp only [sw,CL]
 have d1:= @OV
 have d2:= @pn
 have d3:= @KG
 have d4:= @EV
 have d5:= @F9
 have d6:= @Ag
 have d7:= @JV
 have d8:= @Bv
 have d9:= @a2g
 exact go2
def wN (c:Circuit):Option (bD×Int):=
 (uF c).bind fun b=>
 br (!b) (
 some ((bD.mk 0 0 0 ([]:List aN) ([]:List aN) ([]:List aN)),19)) (
 (kQ c).bind fun a=>
 some (a,0))
theorem WH {c r} (h:wN c=some r):Call tab ow 17 [.agg [sl en c.Gates]] []=some (.tup [.agg [I r.1.Rows,I r.1.Cols,I r.1.Publics,sl aV r.1.A,sl aV r.1.B,sl aV r.1.C],I r.2],[]):=by
 rw [ak (af:=zJ) rfl]
 unfold wN at h
 simp only [zJ,Mn]
 have d1:= @Jp
 have d2:= @Ag
 exact go2
def gH (x:Int):Option Bool:=
 some (x !=x)
theorem yF {x r} (h:gH x=some r):Call tab ow 387 [I x] []=some (B r,[]):=by
 rw [ak (af:=gX) rfl]
 unfold gH at h
 simp only [gX,pd]
 exact go2
def dK (x y:Int):Option Int:=
 (gH x).bind fun b=>
 (gH y).bind fun a=>
 br b (
 br a (
 some 0) (
 some (-1:Int))) (
 br a (
 some 1) (
 br (decide (x<y)) (
 some (-1:Int)) (
 br (decide (x>y)) (
 some 1) (
 some 0))))
theorem uR {x y r} (h:dK x y=some r):Call tab ow 350 [I x,I y] []=some (I r,[]):=by
 rw [ak (af:=fx) rfl]
 unfold dK at h
 simp only [fx,mG]
 have d1:= @yF
 exact go2
def bY (zero:Int) (t:List Int) (b:Int):Int->Option ((Int)⊕(Int⊕(Int×Bool)))
 |a=>
  br (decide (a<b)) (
  (atL t a).bind fun x=>
  br (x !=zero) (
  some (.inr (.inl x))) (
  some (.inl (wrap .i64 (a+1))))) (
  some (.inr (.inr (a,decide (a<b)))))
theorem AZ {zero t a}:LX tab ow (.close []) rv (bY zero t a) (fun s=>⟨[(3,I zero),(6,sl eI t),(7,I a),(8,I s)],[]⟩) (alt (fun e=>((.ret,⟨[(2,I e)],[]⟩):dd×St)) (fun e=>(.exit 0,⟨[(3,I zero),(6,sl eI t),(7,I a),(8,I e.1),(9,B e.2)],[]⟩))):=by
 refine lrX (fun s o h=> ?_)
 simp only [bY] at h
 simp only [rv,rm]
 exact go2
def li (a:List Int):Option Int:=
 (Loop (bY 0 a (a.length:Int)) 0).bind (alt (fun b=>
 some b) (fun c=>
 some 0))
theorem DY {a r} (h:li a=some r):Call tab ow 349 [sl eI a] []=some (I r,[]):=by
 rw [ak (af:=kq) rfl]
 unfold li at h
 simp only [kq,ov]
 have d1:= @AZ
 exact go2
section
@[local go_sem] theorem Ds:mkR 2010 []=rws eI []:=rfl
def ik (c f:aN):Option Int:=
 (dK c.Row f.Row).bind fun d=>
 (dK c.Col f.Col).bind fun a=>
 (li ([d,a]:List Int)).bind fun b=>
 some b
theorem yI {a f r} (h:ik a f=some r):Call tab ow 288 [.agg [I a.Row,I a.Col,I a.Value],.agg [I f.Row,I f.Col,I f.Value]] []=some (I r,[]):=by
 rw [ak (af:=gU) rfl]
 unfold ik at h
 simp only [gU,p5]
 have d1:= @uR
 have d2:= @DY
 exact go2
end
def qO (c:List aN) (d b:Int) (t:List aN) (i:Int):Int->Option ((Int)⊕((Int×Int×Int)⊕(Int×Bool)))
 |a=>
  br (decide (a<i)) (
  (atL t a).bind fun x=>
  (jN x.Row 0 (wrap .i64 (d-1))).bind fun k=>
  br (!k) (
  some (.inr (.inl (x.Row,x.Col,x.Value)))) (
  (jN x.Col 0 (wrap .i64 (b-1))).bind fun f=>
  br (!f) (
  some (.inr (.inl (x.Row,x.Col,x.Value)))) (
  (jN x.Value 1 2130706432).bind fun h=>
  br (!h) (
  some (.inr (.inl (x.Row,x.Col,x.Value)))) (
  br (decide (a>0)) (
  (atL c (wrap .i64 (a-1))).bind fun j=>
  (ik j x).bind fun e=>
  br (decide (e>=0)) (
  some (.inr (.inl (x.Row,x.Col,x.Value)))) (
  some (.inl (wrap .i64 (a+1))))) (
  some (.inl (wrap .i64 (a+1)))))))) (
  some (.inr (.inr (a,decide (a<i)))))
theorem SK {a c b t d}:LX tab ow (.close [4003,5004,5011,5017,5030]) GU (qO a c b t d) (fun s=>⟨[(0,sl aV a),(1,I c),(2,I b),(9,sl aV t),(10,I d),(11,I s)],[]⟩) (alt (fun e=>((.ret,⟨[(6,B false)],[(4003,⟨3,true,[[I e.1,I e.2.1,I e.2.2]]⟩)]⟩):dd×St)) (fun e=>(.exit 0,⟨[(0,sl aV a),(1,I c),(2,I b),(9,sl aV t),(10,I d),(11,I e.1),(12,B e.2)],[]⟩))):=by
 refine lrX (fun s o h=> ?_)
 simp only [qO] at h
 simp only [GU,FH]
 have d1:= @wx
 have d2:= @yI
 exact go2
def ug (a:List aN) (b c:Int):Option Bool:=
 (Loop (qO a b c a (a.length:Int)) 0).bind (alt (fun d=>
 some false) (fun e=>
 some (decide ((a.length:Int)<=200))))
theorem Et {c a b r} (h:ug c a b=some r):Call tab ow 178 [sl aV c,I a,I b] []=some (B r,[]):=by
 rw [ak (af:=zt) rfl]
 unfold ug at h
 simp only [zt,DU]
 have d1:= @SK
 exact go2
def uj (s:bD):Option Bool:=
 (jN s.Rows 1 5).bind fun i=>
 br (!i) (
 some false) (
 (jN s.Cols 2 5).bind fun e=>
 br (!e) (
 some false) (
 (fg s).bind fun f=>
 (jN s.Publics 0 (wrap .i64 (f-1))).bind fun c=>
 br (!c) (
 some false) (
 (eG s).bind fun a=>
 br (decide (0<=s.Rows)) (
 br (decide (0<=s.Cols)) (
 (ug a.1 (ct .i64 1 s.Rows) (ct .i64 1 s.Cols)).bind fun b=>
 br (!b) (
 some false) (
 br (decide (0<=s.Rows)) (
 br (decide (0<=s.Cols)) (
 (ug a.2.1 (ct .i64 1 s.Rows) (ct .i64 1 s.Cols)).bind fun h=>
 br (!h) (
 some false) (
 br (decide (0<=s.Rows)) (
 br (decide (0<=s.Cols)) (
 (ug a.2.2 (ct .i64 1 s.Rows) (ct .i64 1 s.Cols)).bind fun d=>
 br (!d) (
 some false) (
 some true)) none) none)) none) none)) none) none)))
theorem DE {s r} (h:uj s=some r):Call tab ow 86 [.agg [I s.Rows,I s.Cols,I s.Publics,sl aV s.A,sl aV s.B,sl aV s.C]] []=some (B r,[]):=by
 rw [ak (af:=zC) rfl]
 unfold uj at h
 simp+decide only [zC,EJ,go_sem,reduceIte,Nat.reduceAdd,Int.reduceAdd,Int.reduceMul,Int.reduceSub]
 obtain ⟨r_,h1,h⟩:=bd h
 refine kZ (wx h1) ?_
 simp+decide only [go_sem,reduceIte,Nat.reduceAdd,Int.reduceAdd,Int.reduceMul,Int.reduceSub]
 rcases brc h with ⟨hb,h⟩|⟨hb,h⟩
 ·refine CV hb ?_
  obtain rfl:=cS h
  first|rfl| (simp only [aO,go_sem];done)
 ·refine a7y hb ?_
  obtain ⟨r_2,h1,h⟩:=bd h
  refine kZ (wx h1) ?_
  simp+decide only [go_sem,reduceIte,Nat.reduceAdd,Int.reduceAdd,Int.reduceMul,Int.reduceSub]
  rcases brc h with ⟨hb,h⟩|⟨hb,h⟩
  ·refine CV hb ?_
   obtain rfl:=cS h
   first|rfl| (simp only [aO,go_sem];done)
  ·refine a7y hb ?_
   obtain ⟨r_3,h1,h⟩:=bd h
   refine kZ (ma h1) ?_
   simp+decide only [go_sem,reduceIte,Nat.reduceAdd,Int.reduceAdd,Int.reduceMul,Int.reduceSub]
   obtain ⟨r_4,h1,h⟩:=bd h
   refine kZ (wx h1) ?_
   simp+decide only [go_sem,reduceIte,Nat.reduceAdd,Int.reduceAdd,Int.reduceMul,Int.reduceSub]
   rcases brc h with ⟨hb,h⟩|⟨hb,h⟩
   ·refine CV hb ?_
    obtain rfl:=cS h
    first|rfl| (simp only [aO,go_sem];done)
   ·refine a7y hb ?_
    obtain ⟨r_5,h1,h⟩:=bd h
    refine dq (nf h1) ?_
    simp+decide only [go_sem,reduceIte,Nat.reduceAdd,Int.reduceAdd,Int.reduceMul,Int.reduceSub]
    refine fV ?_
    simp+decide only [mkL,go_sem,reduceIte,Nat.reduceAdd,Int.reduceAdd,Int.reduceMul,Int.reduceSub]
    obtain ⟨hb,h⟩:=brg h
    refine CV hb ?_
    obtain ⟨hb,h⟩:=brg h
    refine CV hb ?_
    obtain ⟨r_6,h1,h⟩:=bd h
    refine kZ (Et h1) ?_
    simp+decide only [go_sem,reduceIte,Nat.reduceAdd,Int.reduceAdd,Int.reduceMul,Int.reduceSub]
    rcases brc h with ⟨hb,h⟩|⟨hb,h⟩
    ·refine CV hb ?_
     obtain rfl:=cS h
     first|rfl| (simp only [aO,go_sem];done)
    ·refine a7y hb ?_
     refine fV ?_
     simp+decide only [mkL,go_sem,reduceIte,Nat.reduceAdd,Int.reduceAdd,Int.reduceMul,Int.reduceSub]
     obtain ⟨hb,h⟩:=brg h
     refine CV hb ?_
     obtain ⟨hb,h⟩:=brg h
     refine CV hb ?_
     obtain ⟨r_7,h1,h⟩:=bd h
     refine kZ (Et h1) ?_
     simp+decide only [go_sem,reduceIte,Nat.reduceAdd,Int.reduceAdd,Int.reduceMul,Int.reduceSub]
     rcases brc h with ⟨hb,h⟩|⟨hb,h⟩
     ·refine CV hb ?_
      obtain rfl:=cS h
      first|rfl| (simp only [aO,go_sem];done)
     ·refine a7y hb ?_
      refine fV ?_
      simp+decide only [mkL,go_sem,reduceIte,Nat.reduceAdd,Int.reduceAdd,Int.reduceMul,Int.reduceSub]
      obtain ⟨hb,h⟩:=brg h
      refine CV hb ?_
      obtain ⟨hb,h⟩:=brg h
      refine CV hb ?_
      obtain ⟨r_8,h1,h⟩:=bd h
      refine kZ (Et h1) ?_
      simp+decide only [go_sem,reduceIte,Nat.reduceAdd,Int.reduceAdd,Int.reduceMul,Int.reduceSub]
      rcases brc h with ⟨hb,h⟩|⟨hb,h⟩
      ·refine CV hb ?_
       obtain rfl:=cS h
       first|rfl| (simp only [aO,go_sem];done)
      ·refine a7y hb ?_
       refine fV ?_
       simp+decide only [mkL,go_sem,reduceIte,Nat.reduceAdd,Int.reduceAdd,Int.reduceMul,Int.reduceSub]
       obtain rfl:=cS h
       first|rfl| (simp only [aO,go_sem];done)
def tu (a:List Ext) (m:Int):Option (Bool×Int):=
 br ((a.length:Int) !=m) (
 some (true,m)) (
 (ft a).bind fun b=>
 some ((!b),m))
theorem Ps {a m r} (h:tu a m=some r):Call tab ow 237 [sl aG a,.ptr 0 0 0 1] [⟨1,true,[[I m]]⟩]=some (B r.1,[⟨1,true,[[I r.2]]⟩]):=by
 rw [ak (af:=tB) rfl]
 unfold tu at h
 simp only [tB,EU]
 have d1:= @jV
 exact go2
def cP (d:List (List Ext)) (t:Int):Int×Int->Option ((Int×Int)⊕((Int×Int)⊕(Int×Bool×Int)))
 | (a,c)=>
   br (decide (a<t)) (
   (atL d a).bind fun x=>
   (tu x c).bind fun b=>
   br b.1 (
   some (.inr (.inl (a,b.2)))) (
   some (.inl ((wrap .i64 (a+1)),b.2)))) (
   some (.inr (.inr (a,decide (a<t),c))))
theorem mi {a t}:LX tab ow (.close [5005]) kD (cP a t) (fun s=>⟨[(0,sl (eL aG) a),(1,.fn 237 [.ptr 0 0 0 1]),(7,I t),(8,I s.1)],[(0,⟨1,true,[[I s.2]]⟩)]⟩) (alt (fun e=>((.ret,⟨[(4,I e.1)],[(0,⟨1,true,[[I e.2]]⟩)]⟩):dd×St)) (fun e=>(.exit 0,⟨[(0,sl (eL aG) a),(1,.fn 237 [.ptr 0 0 0 1]),(7,I t),(8,I e.1),(9,B e.2.1)],[(0,⟨1,true,[[I e.2.2]]⟩)]⟩))):=by
 refine lrX (fun s o h=> ?_)
 obtain ⟨_,_⟩:=s
 simp only [cP] at h
 simp only [kD,kH]
 have d1:= @Ps
 exact go2
def dl (s:(List (List Ext))) (m:Int):Option (Int×Int):=
 (Loop (cP s (s.length:Int)) (0,m)).bind (alt (fun a=>
 some (a.1,a.2)) (fun b=>
 some ((-1:Int),b.2.2)))
theorem n4 {s m r} (h:dl s m=some r):Call tab ow 332 [sl (eL aG) s,.fn 237 [.ptr 0 0 0 1]] [⟨1,true,[[I m]]⟩]=some (I r.1,[⟨1,true,[[I r.2]]⟩]):=by
 rw [ak (af:=eZ) rfl]
 unfold dl at h
 simp only [eZ,ib]
 have d1:= @mi
 exact go2
def cV (s:(List (List Ext))) (m:Int):Option (Bool×Int):=
 (dl s m).bind fun a=>
 some (decide (a.1>=0),a.2)
theorem lX {s m r} (h:cV s m=some r):Call tab ow 236 [sl (eL aG) s,.fn 237 [.ptr 0 0 0 1]] [⟨1,true,[[I m]]⟩]=some (B r.1,[⟨1,true,[[I r.2]]⟩]):=by
 rw [ak (af:=ed) rfl]
 unfold cV at h
 simp only [ed,jW]
 have d1:= @n4
 exact go2
def rf (a:(List (List Ext))) (c b:Int):Option Bool:=
 br ((a.length:Int)==c) (
 (cV a b).bind fun d=>
 some (!d.1)) (
 some false)
theorem J7 {a c b r} (h:rf a c b=some r):Call tab ow 117 [sl (eL aG) a,I c,I b] []=some (B r,[]):=by
 rw [ak (af:=xB) rfl]
 unfold rf at h
 simp only [xB,Jo]
 have d1:= @lX
 exact go2
def j6 (x:List UInt8):Option Bool:=
 (yt x).bind fun a=>
 some (!a)
theorem CU {x r} (h:j6 x=some r):Call tab ow 239 [S x,.ptr 0 0 0 1] [⟨1,true,[[.fn 119 []]]⟩]=some (B r,[⟨1,true,[[.fn 119 []]]⟩]):=by
 rw [ak (af:=rU) rfl]
 unfold j6 at h
 simp only [rU,CR]
 have d1:= @EC
 exact go2
def cj (b:List (List UInt8)) (t:Int):Int->Option ((Int)⊕(Int⊕(Int×Bool)))
 |a=>
  br (decide (a<t)) (
  (atL b a).bind fun x=>
  (j6 x).bind fun c=>
  br c (
  some (.inr (.inl a))) (
  some (.inl (wrap .i64 (a+1))))) (
  some (.inr (.inr (a,decide (a<t)))))
theorem jw {a t}:LX tab ow (.close [5005]) ez (cj a t) (fun s=>⟨[(0,sl eS a),(1,.fn 239 [.ptr 0 0 0 1]),(7,I t),(8,I s)],[(0,⟨1,true,[[.fn 119 []]]⟩)]⟩) (alt (fun e=>((.ret,⟨[(4,I e)],[(0,⟨1,true,[[.fn 119 []]]⟩)]⟩):dd×St)) (fun e=>(.exit 0,⟨[(0,sl eS a),(1,.fn 239 [.ptr 0 0 0 1]),(7,I t),(8,I e.1),(9,B e.2)],[(0,⟨1,true,[[.fn 119 []]]⟩)]⟩))):=by
 refine lrX (fun s o h=> ?_)
 simp only [cj] at h
 simp only [ez,gL]
 have d1:= @CU
 exact go2
def cB (s:(List (List UInt8))):Option Int:=
 (Loop (cj s (s.length:Int)) 0).bind (alt (fun a=>
 some a) (fun b=>
 some (-1:Int)))
theorem jZ {s r} (h:cB s=some r):Call tab ow 333 [sl eS s,.fn 239 [.ptr 0 0 0 1]] [⟨1,true,[[.fn 119 []]]⟩]=some (I r,[⟨1,true,[[.fn 119 []]]⟩]):=by
 rw [ak (af:=cY) rfl]
 unfold cB at h
 simp only [cY,eX]
 have d1:= @jw
 exact go2
def cp (s:(List (List UInt8))):Option Bool:=
 (cB s).bind fun a=>
 some (decide (a>=0))
theorem jo {s r} (h:cp s=some r):Call tab ow 238 [sl eS s,.fn 239 [.ptr 0 0 0 1]] [⟨1,true,[[.fn 119 []]]⟩]=some (B r,[⟨1,true,[[.fn 119 []]]⟩]):=by
 rw [ak (af:=cI) rfl]
 unfold cp at h
 simp only [cI,gk]
 have d1:= @jZ
 exact go2
def iI (a:(List (List UInt8))):Option Bool:=
 (cp a).bind fun b=>
 some (!b)
theorem we {a r} (h:iI a=some r):Call tab ow 118 [.fn 119 [],sl eS a] []=some (B r,[]):=by
 rw [ak (af:=vR) rfl]
 unfold iI at h
 simp only [vR,Gs]
 have d1:= @jo
 exact go2
def mT (a:Int) (f:List (List (List UInt8))) (e:Int) (c:List Ext) (j:List (List (List UInt8))) (h k i:Int):Int->Option ((Int)⊕(Unit⊕(Int×Bool)))
 |b=>
  br (decide (b<e)) (
  (atL f b).bind fun x=>
  br ((x.length:Int) !=(wrap .i64 ((wrap .i64 ((wrap .i64 (a+h))-1))-b))) (
  some (.inr (.inl ()))) (
  (iI x).bind fun d=>
  br (!d) (
  some (.inr (.inl ()))) (
  some (.inl (wrap .i64 (b+1)))))) (
  some (.inr (.inr (b,decide (b<e)))))
abbrev xz (c:List Ext) (d:List (List (List UInt8))) (a e b:Int):List (Nat×Blk):=[(1000,⟨2,true,[[sl aG c,sl (eL eS) d]]⟩),(1001,⟨3,true,[[I a,I e,I b]]⟩)]
theorem TV {a j k c f d i b}:LX tab ow (.close [7012]) Jj (mT a j k c f d i b) (fun s=>⟨[(1,I a),(5,.ptr 1001 0 0 1),(29,sl (eL eS) j),(30,I k),(31,I s)],xz c f d i b⟩) (alt (fun e=>((.ret,⟨[(6,B false)],xz c f d i b⟩):dd×St)) (fun e=>(.exit 0,⟨[(1,I a),(5,.ptr 1001 0 0 1),(29,sl (eL eS) j),(30,I k),(31,I e.1),(32,B e.2)],xz c f d i b⟩))):=by
 refine lrX (fun s o h=> ?_)
 simp only [mT] at h
 simp only [xz,Jj,Ix]
 have d1:= @we
 exact go2
def zN (q:cw) (a:Int) (t:Setting):Option Bool:=
 br ((q.Pairs.length:Int) !=(wrap .i64 (2*a))) (
 some false) (
 (ft q.Pairs).bind fun b=>
 br (!b) (
 some false) (
 br ((q.Paths.length:Int) !=a) (
 some false) (
 (Loop (mT a q.Paths (q.Paths.length:Int) q.Pairs q.Paths t.Rate t.Queries t.Grind) 0).bind (alt (fun c=>
 some false) (fun d=>
 some true)))))
theorem a0p {q a t r} (h:zN q a t=some r):Call tab ow 122 [.agg [sl aG q.Pairs,sl (eL eS) q.Paths],I a,.agg [I t.Rate,I t.Queries,I t.Grind]] []=some (B r,[]):=by
 rw [ak (af:=Bp) rfl]
 unfold zN at h
 simp only [Bp,Gn]
 have d1:= @jV
 have d2:= @TV
 exact go2
def xa (q:cw) (m:Int) (a:Setting):Option (Bool×Int×Setting):=
 (zN q m a).bind fun b=>
 some (b,m,a)
theorem P7 {q m a r} (h:xa q m a=some r):Call tab ow 121 [.agg [sl aG q.Pairs,sl (eL eS) q.Paths],.ptr 0 0 0 1,.ptr 1 0 0 1] [⟨1,true,[[I m]]⟩,⟨3,true,[[I a.Rate,I a.Queries,I a.Grind]]⟩]=some (B r.1,[⟨1,true,[[I r.2.1]]⟩,⟨3,true,[[I r.2.2.Rate,I r.2.2.Queries,I r.2.2.Grind]]⟩]):=by
 rw [ak (af:=u2) rfl]
 unfold xa at h
 simp only [u2,Fq]
 have d1:= @a0p
 exact go2
def dR (x:cw) (m:Int) (b:Setting):Option (Bool×Int×Setting):=
 (xa x m b).bind fun a=>
 some ((!a.1),a.2.1,a.2.2)
theorem yr {x m a r} (h:dR x m a=some r):Call tab ow 241 [.agg [sl aG x.Pairs,sl (eL eS) x.Paths],.ptr 0 0 0 1] [⟨1,true,[[.fn 121 [.ptr 1 0 0 1,.ptr 2 0 0 1]]]⟩,⟨1,true,[[I m]]⟩,⟨3,true,[[I a.Rate,I a.Queries,I a.Grind]]⟩]=some (B r.1,[⟨1,true,[[.fn 121 [.ptr 1 0 0 1,.ptr 2 0 0 1]]]⟩,⟨1,true,[[I r.2.1]]⟩,⟨3,true,[[I r.2.2.Rate,I r.2.2.Queries,I r.2.2.Grind]]⟩]):=by
 rw [ak (af:=pY) rfl]
 unfold dR at h
 simp only [pY,BA]
 have d1:= @P7
 exact go2
def bi (h:List cw) (t:Int):Int×Int×Int×Int×Int->Option ((Int×Int×Int×Int×Int)⊕((Int×Int×Int×Int×Int)⊕(Int×Bool×Int×Int×Int×Int)))
 | (b,c,e,d,f)=>
   br (decide (b<t)) (
   (atL h b).bind fun x=>
   (dR x c (Setting.mk e d f)).bind fun a=>
   br a.1 (
   some (.inr (.inl (b,a.2.1,a.2.2.Rate,a.2.2.Queries,a.2.2.Grind)))) (
   some (.inl ((wrap .i64 (b+1)),a.2.1,a.2.2.Rate,a.2.2.Queries,a.2.2.Grind)))) (
   some (.inr (.inr (b,decide (b<t),c,e,d,f))))
abbrev bR (c b a d:Int):List (Nat×Blk):=[(0,⟨1,true,[[.fn 121 [.ptr 1 0 0 1,.ptr 2 0 0 1]]]⟩),(1,⟨1,true,[[I c]]⟩),(2,⟨3,true,[[I b,I a,I d]]⟩)]
theorem ig {a t}:LX tab ow (.close [5005]) jI (bi a t) (fun s=>⟨[(0,sl db a),(1,.fn 241 [.ptr 0 0 0 1]),(7,I t),(8,I s.1)],bR s.2.1 s.2.2.1 s.2.2.2.1 s.2.2.2.2⟩) (alt (fun e=>((.ret,⟨[(4,I e.1)],bR e.2.1 e.2.2.1 e.2.2.2.1 e.2.2.2.2⟩):dd×St)) (fun e=>(.exit 0,⟨[(0,sl db a),(1,.fn 241 [.ptr 0 0 0 1]),(7,I t),(8,I e.1),(9,B e.2.1)],bR e.2.2.1 e.2.2.2.1 e.2.2.2.2.1 e.2.2.2.2.2⟩))):=by
 refine lrX (fun s o h=> ?_)
 obtain ⟨_,_,_,_,_⟩:=s
 simp only [bi] at h
 simp only [bR,jI,jC]
 have d1:= @yr
 exact go2
def ca (s:List cw) (m:Int) (c:Setting):Option (Int×Int×Setting):=
 (Loop (bi s (s.length:Int)) (0,m,c.Rate,c.Queries,c.Grind)).bind (alt (fun a=>
 some (a.1,a.2.1,(Setting.mk a.2.2.1 a.2.2.2.1 a.2.2.2.2))) (fun b=>
 some ((-1:Int),b.2.2.1,(Setting.mk b.2.2.2.1 b.2.2.2.2.1 b.2.2.2.2.2))))
theorem iS {s m a r} (h:ca s m a=some r):Call tab ow 334 [sl db s,.fn 241 [.ptr 0 0 0 1]] [⟨1,true,[[.fn 121 [.ptr 1 0 0 1,.ptr 2 0 0 1]]]⟩,⟨1,true,[[I m]]⟩,⟨3,true,[[I a.Rate,I a.Queries,I a.Grind]]⟩]=some (I r.1,[⟨1,true,[[.fn 121 [.ptr 1 0 0 1,.ptr 2 0 0 1]]]⟩,⟨1,true,[[I r.2.1]]⟩,⟨3,true,[[I r.2.2.Rate,I r.2.2.Queries,I r.2.2.Grind]]⟩]):=by
 rw [ak (af:=eD) rfl]
 unfold ca at h
 simp only [eD,gM]
 have d1:= @ig
 exact go2
def bU (s:List cw) (m:Int) (b:Setting):Option (Bool×Int×Setting):=
 (ca s m b).bind fun a=>
 some (decide (a.1>=0),a.2.1,a.2.2)
theorem ia {s m a r} (h:bU s m a=some r):Call tab ow 240 [sl db s,.fn 241 [.ptr 0 0 0 1]] [⟨1,true,[[.fn 121 [.ptr 1 0 0 1,.ptr 2 0 0 1]]]⟩,⟨1,true,[[I m]]⟩,⟨3,true,[[I a.Rate,I a.Queries,I a.Grind]]⟩]=some (B r.1,[⟨1,true,[[.fn 121 [.ptr 1 0 0 1,.ptr 2 0 0 1]]]⟩,⟨1,true,[[I r.2.1]]⟩,⟨3,true,[[I r.2.2.Rate,I r.2.2.Queries,I r.2.2.Grind]]⟩]):=by
 rw [ak (af:=dP) rfl]
 unfold bU at h
 simp only [dP,jq]
 have d1:= @iS
 exact go2
def j1 (a:List cw) (m:Int) (c:Setting):Option (Bool×Int×Setting):=
 (bU a m c).bind fun b=>
 some ((!b.1),b.2.1,b.2.2)
theorem zq {a m b r} (h:j1 a m b=some r):Call tab ow 120 [.fn 121 [.ptr 0 0 0 1,.ptr 1 0 0 1],sl db a] [⟨1,true,[[I m]]⟩,⟨3,true,[[I b.Rate,I b.Queries,I b.Grind]]⟩]=some (B r.1,[⟨1,true,[[I r.2.1]]⟩,⟨3,true,[[I r.2.2.Rate,I r.2.2.Queries,I r.2.2.Grind]]⟩]):=by
 rw [ak (af:=tN) rfl]
 unfold j1 at h
 simp only [tN,F5]
 have d1:= @ia
 exact go2
def yq (b:bK) (a:Int) (t:Setting):Option Bool:=
 (jN a 1 6).bind fun j=>
 br j (
 (kB t).bind fun e=>
 br e (
 (rf b.Rounds a 3).bind fun f=>
 br f (
 br ((b.Roots.length:Int)==(wrap .i64 (a-1))) (
 (iI b.Roots).bind fun d=>
 br d (
 (xd b.Last).bind fun i=>
 br i (
 (jN b.Nonce 0 65535).bind fun c=>
 br c (
 br ((b.Queries.length:Int)==t.Queries) (
 (j1 b.Queries a t).bind fun h=>
 some h.1) (
 some false)) (
 some false)) (
 some false)) (
 some false)) (
 some false)) (
 some false)) (
 some false)) (
 some false)
theorem Ut {b a t r} (h:yq b a t=some r):Call tab ow 33 [.agg [sl (eL aG) b.Rounds,sl eS b.Roots,I b.Last.A,I b.Last.B,I b.Nonce,sl db b.Queries],I a,.agg [I t.Rate,I t.Queries,I t.Grind]] []=some (B r,[]):=by
 rw [ak (af:=xA) rfl]
 unfold yq at h
 simp only [xA,Jq]
 have d1:= @wx
 have d2:= @pn
 have d3:= @J7
 have d4:= @we
 have d5:= @NO
 have d6:= @zq
 exact go2
end
end Go.AI.Fn
