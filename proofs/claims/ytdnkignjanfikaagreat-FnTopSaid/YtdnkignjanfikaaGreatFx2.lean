/- Part. -/
import Derived.Test.YtdnkignjanfikaaGreatFx1
set_option linter.unusedVariables false
set_option linter.unusedSimpArgs false
set_option maxRecDepth 100000
set_option maxHeartbeats 1000000
namespace Go.AI.Fn
noncomputable section
open IntKind (wrap)
section
attribute [local go_sem] IL
@[local go_sem] theorem c0s:mkR 6004 []=rws eS []:=rfl
@[local go_sem] theorem c0b:mkR 8001 []=rws (eL eS) []:=rfl
@[local go_sem] theorem c0B:mkR 10000 []=rws eS []:=rfl
@[local go_sem] theorem c01:mkR 14012 []=rws eS []:=rfl
@[local go_sem] theorem c0e:mkR 15002 []=rws (eL eS) []:=rfl
def rK (t:List (List UInt8)) (c:Int):(List (List UInt8))×Int->Option (((List (List UInt8))×Int)⊕(((List (List UInt8))×Int×Bool)))
 | (l,b)=>
   br (decide (b<c)) (
   (atL t b).bind fun x=>
   (wE x).bind fun d=>
   (uT d).bind fun a=>
   br (bj ((l++([a]:List (List UInt8))).length) 16) (
   some (.inl ((l++([a]:List (List UInt8))),(wrap .i64 (b+1))))) none) (
   some (.inr (l,b,decide (b<c))))
def W4 {t a}:LXe tab ow (.close [6002,6003,6004,6005]) Lg (rK t a) (fun s=>⟨[(3,.sl 2000 0 s.1.length),(10,sl eS t),(11,I a),(12,I s.2)],[(2000,⟨1,false,rws eS s.1⟩)]⟩) 0 (fun e=>(e.1,e.2.1)) (fun e=>[(13,B e.2.2)]):=by
 refine lrX (fun s o h=> ?_)
 obtain ⟨_,_⟩:=s
 simp only [rK] at h
 simp only [Lg,M3]
 have d1:= @M9
 have d2:= @A7
 exact go2
def rW (h:List (List (List UInt8))) (a:List (List UInt8)):(List (List UInt8))×Int->Option (((List (List UInt8))×Int)⊕(((List (List UInt8))×Int×Bool)))
 | (c,i)=>
   br (decide (i<(a.length:Int))) (
   (atL a i).bind fun e=>
   (atL a (wrap .i64 (i+1))).bind fun f=>
   (ua e f).bind fun d=>
   (uT d).bind fun b=>
   br (bj ((c++([b]:List (List UInt8))).length) 16) (
   some (.inl ((c++([b]:List (List UInt8))),(wrap .i64 (i+2))))) none) (
   some (.inr (c,i,decide (i<(a.length:Int)))))
def WA {b a}:LXe tab ow (.close [14010,14011,14012,14013]) IW (rW b a) (fun s=>⟨[(3,sl eS a),(6,.sl 8001 0 b.length),(7,.sl 10000 0 s.1.length),(8,I s.2)],[(8001,⟨1,false,rws (eL eS) b⟩),(10000,⟨1,false,rws eS s.1⟩)]⟩) 4 (fun e=>(e.1,e.2.1)) (fun e=>[(32,B e.2.2)]):=by
 refine lrX (fun s o h=> ?_)
 obtain ⟨_,_⟩:=s
 simp only [rW] at h
 simp only [IW,J2]
 have d1:= @KV
 have d2:= @A7
 exact go2
def oj:(List (List (List UInt8)))×(List (List UInt8))->Option (((List (List (List UInt8)))×(List (List UInt8)))⊕(((List (List (List UInt8)))×(List (List UInt8))×Bool)))
 | (c,a)=>
   br (decide ((a.length:Int)>1)) (
   (Loop (rW c a) (([]:List (List UInt8)),0)).bind fun b=>
   br (bj ((c++([b.1]:List (List (List UInt8)))).length) 24) (
   some (.inl ((c++([b.1]:List (List (List UInt8)))),b.1))) none) (
   some (.inr (c,a,decide ((a.length:Int)>1))))
def VY:LXe tab ow (.close [10000,14010,14011,14012,14013,15002,15003]) LS (oj) (fun s=>⟨[(3,sl eS s.2),(6,.sl 8001 0 s.1.length)],[(8001,⟨1,false,rws (eL eS) s.1⟩)]⟩) 2 (fun e=>(e.1,e.2.1)) (fun e=>[(27,B e.2.2)]):=by
 refine lrX (fun s o h=> ?_)
 obtain ⟨_,_⟩:=s
 simp only [oj] at h
 simp only [LS,Lj]
 have d1:= @WA
 exact go2
def Gx (a:(List (List UInt8))):Option ((List (List (List UInt8)))):=
 (Loop (rK a (a.length:Int)) (([]:List (List UInt8)),0)).bind fun c=>
 (Loop (oj) (([c.1]:List (List (List UInt8))),c.1)).bind fun b=>
 some b.1
def a2D {a r} (h:Gx a=some r):Call tab ow 194 [sl eS a] []=some (sl (eL eS) r,[]):=by
 rw [ak (af:=DI) rfl]
 unfold Gx at h
 simp only [DI,A9]
 have d1:= @W4
 have d2:= @VY
 exact go2
end
def AQ (a:List Ext):Option cQ:=
 (Ag a).bind fun c=>
 (Gx c).bind fun b=>
 some (cQ.mk a b)
def JK {a r} (h:AQ a=some r):Call tab ow 97 [sl aG a] []=some (.agg [sl aG r.word,sl (eL eS) r.rows],[]):=by
 rw [ak (af:=Eh) rfl]
 unfold AQ at h
 simp only [Eh,S9]
 have d1:= @WN
 have d2:= @a2D
 exact go2
def Av (a:(List (List (List UInt8)))):Option (List UInt8):=
 (atL a (wrap .i64 ((a.length:Int)-1))).bind fun x=>
 (atL x 0).bind fun b=>
 some b
def Se {a r} (h:Av a=some r):Call tab ow 96 [sl (eL eS) a] []=some (S r,[]):=by
 rw [ak (af:=Ef) rfl]
 unfold Av at h
 simp only [Ef,Ta]
 exact go2
def oL (t:List UInt8) (b:Int):Int×Int->Option ((Int×Int)⊕((Int×Int×Bool)))
 | (n,a)=>
   br (decide (a<b)) (
   (atL t a).bind fun x=>
   some (.inl ((Cy .u64 (ct .u64 n 8) (wrap .u64 (x.toNat:Int))),(wrap .i64 (a+1))))) (
   some (.inr (n,a,decide (a<b))))
def Xs {t a}:LXe tab ow (.close []) KB (oL t a) (fun s=>⟨[(3,.lit (.int .u64 s.1)),(6,sl eU8 t),(7,I a),(8,I s.2)],[]⟩) 0 (fun e=>(e.1,e.2.1)) (fun e=>[(9,B e.2.2)]):=by
 refine lrX (fun s o h=> ?_)
 obtain ⟨_,_⟩:=s
 simp only [oL] at h
 simp only [KB,Mb]
 exact go2
def Dq (b:List UInt8):Option Int:=
 (Loop (oL b (b.length:Int)) (0,0)).bind fun a=>
 some (wrap .i64 (a.1.tmod 2130706433))
def a3U {b r} (h:Dq b=some r):Call tab ow 368 [sl eU8 b] []=some (I r,[]):=by
 rw [ak (af:=Dw) rfl]
 unfold Dq at h
 simp only [Dw,K8]
 have d1:= @Xs
 exact go2
section
@[local go_sem] theorem a6F:mkR 5005 []=rws eU8 []:=rfl
@[local go_sem] theorem a8F:mkR 5012 []=rws (eL eU8) []:=rfl
def il (m:Source):Option (Ext×Source):=
 br (decide ((m.Script.length:Int)>0)) (
 br (decide ((m.Script.length:Int)≠0)) (
 (atL m.Script ((wrap .i64 ((wrap .i64 (m.At+1))-1)).tmod (m.Script.length:Int))).bind fun x=>
 some (x,(Source.mk m.Script (wrap .i64 (m.At+1)) m.State m.Count))) none) (
 br (bj m.State.length 1) (
 (DP m.Count).bind fun d=>
 (uR ([m.State,([(100:UInt8),(114:UInt8),(97:UInt8),(119:UInt8)]:List UInt8),d]:List (List UInt8))).bind fun a=>
 br (bj a.length 1) (
 (rF a 0 8).bind fun y=>
 (Dq y).bind fun c=>
 (rF a 8 16).bind fun e=>
 (Dq e).bind fun b=>
 some ((Ext.mk c b),(Source.mk m.Script m.At m.State (wrap .i64 (m.Count+1))))) none) none)
def pa {m r} (h:il m=some r):Call tab ow 325 [.ptr 0 0 0 1] [⟨4,true,[[sl aG m.Script,I m.At,S m.State,I m.Count]]⟩]=some (.agg [I r.1.A,I r.1.B],[⟨4,true,[[sl aG r.2.Script,I r.2.At,S r.2.State,I r.2.Count]]⟩]):=by
 rw [ak (af:=tB) rfl]
 unfold il at h
 simp only [tB,Fp]
 have d1:= @Gg
 have d2:= @AY
 have d3:= @a3U
 exact go2
end
section
attribute [local go_sem] fc
@[local go_sem] theorem a4Y:mkR 5003 []=rws aG []:=rfl
def gY (t:Int):(List Ext)×Int×(List Ext)×Int×(List UInt8)×Int->Option (((List Ext)×Int×(List Ext)×Int×(List UInt8)×Int)⊕(((List Ext)×Int×Bool×(List Ext)×Int×(List UInt8)×Int)))
 | (l,b,c,e,d,f)=>
   br (decide (b<t)) (
   (il (Source.mk c e d f)).bind fun a=>
   br (bj ((l++([a.1]:List Ext)).length) 16) (
   some (.inl ((l++([a.1]:List Ext)),(wrap .i64 (b+1)),a.2.Script,a.2.At,a.2.State,a.2.Count))) none) (
   some (.inr (l,b,decide (b<t),c,e,d,f)))
def JB {t}:LXe tab ow (.close [5002,5003,5004]) Aq (gY t) (fun s=>⟨[(0,.ptr 0 0 0 1),(5,.sl 2000 0 s.1.length),(7,I t),(8,I s.2.1)],[(0,⟨4,true,[[sl aG s.2.2.1,I s.2.2.2.1,S s.2.2.2.2.1,I s.2.2.2.2.2]]⟩),(2000,⟨2,false,rws aG s.1⟩)]⟩) 0 (fun e=>(e.1,e.2.1,e.2.2.2.1,e.2.2.2.2.1,e.2.2.2.2.2.1,e.2.2.2.2.2.2)) (fun e=>[(9,B e.2.2.1)]):=by
 refine lrX (fun s o h=> ?_)
 obtain ⟨_,_,_,_,_,_⟩:=s
 simp only [gY] at h
 simp only [Aq,AJ]
 have d1:= @pa
 exact go2
def gI (n:Int) (m:Source):Option ((List Ext)×Source):=
 (Loop (gY n) (([]:List Ext),0,m.Script,m.At,m.State,m.Count)).bind fun a=>
 some (a.1,(Source.mk a.2.2.2.1 a.2.2.2.2.1 a.2.2.2.2.2.1 a.2.2.2.2.2.2))
def nF {n m r} (h:gI n m=some r):Call tab ow 227 [.ptr 0 0 0 1,I n] [⟨4,true,[[sl aG m.Script,I m.At,S m.State,I m.Count]]⟩]=some (sl aG r.1,[⟨4,true,[[sl aG r.2.Script,I r.2.At,S r.2.State,I r.2.Count]]⟩]):=by
 rw [ak (af:=sn) rfl]
 unfold gI at h
 simp only [sn,wC]
 have d1:= @JB
 exact go2
end
def Oe:Option Ext:=
 some (Ext.mk 1 0)
def PC {r} (h:Oe=some r):Call tab ow 201 [] []=some (.agg [I r.A,I r.B],[]):=by
 rw [ak (af:=PT) rfl]
 unfold Oe at h
 simp only [PT,a5o]
 exact go2
def dt (a b:Ext):Option Ext:=
 (ut a.A b.A).bind fun j=>
 (ut a.B b.B).bind fun i=>
 (ut 3 i).bind fun f=>
 (G9 j f).bind fun e=>
 (ut a.A b.B).bind fun c=>
 (ut a.B b.A).bind fun d=>
 (G9 c d).bind fun h=>
 some (Ext.mk e h)
def fP {a b r} (h:dt a b=some r):Call tab ow 200 [.agg [I a.A,I a.B],.agg [I b.A,I b.B]] []=some (.agg [I r.A,I r.B],[]):=by
 rw [ak (af:=xm) rfl]
 unfold dt at h
 simp only [xm,Iu]
 have d1:= @Bj
 have d2:= @M1
 exact go2
section
@[local go_sem] theorem Kx:mkR 2001 []=rws aG []:=rfl
@[local go_sem] theorem Xl:mkR 6000 []=rws aG []:=rfl
@[local go_sem] theorem b6N:mkR 6001 []=rws aG []:=rfl
@[local go_sem] theorem b9V:mkR 10006 []=rws aG []:=rfl
@[local go_sem] theorem b7d:mkR 10012 []=rws aG []:=rfl
def pu (o:List Ext) (n p:Int) (m:List Ext) (i c k:Int):(List Ext)×(List Ext)×Int->Option (((List Ext)×(List Ext)×Int)⊕(((List Ext)×(List Ext)×Int×Bool)))
 | (l,h,d)=>
   br (decide (d<i)) (
   (atL m d).bind fun j=>
   (Oe).bind fun f=>
   (hS f (Ext.mk c k)).bind fun e=>
   (dt j e).bind fun b=>
   br (bj ((l++([b]:List Ext)).length) 16) (
   (dt j (Ext.mk c k)).bind fun a=>
   br (bj ((h++([a]:List Ext)).length) 16) (
   some (.inl ((l++([b]:List Ext)),(h++([a]:List Ext)),(wrap .i64 (d+1))))) none) none) (
   some (.inr (l,h,d,decide (d<i))))
def Uh {i a j d b c f}:LXe tab ow (.close [9002,10002,10004,10005,10006,10007,10011,10012,10013]) Jr (pu i a j d b c f) (fun s=>⟨[(5,.ptr 5002 0 0 1),(6,.sl 6000 0 s.1.length),(7,.sl 6001 0 s.2.1.length),(12,sl aG i),(13,I a),(14,I j),(20,sl aG d),(21,I b),(22,I s.2.2)],[(5002,⟨2,true,[[I c,I f]]⟩),(6000,⟨2,false,rws aG s.1⟩),(6001,⟨2,false,rws aG s.2.1⟩)]⟩) 2 (fun e=>(e.1,e.2.1,e.2.2.1)) (fun e=>[(23,B e.2.2.2)]):=by
 refine lrX (fun s o h=> ?_)
 obtain ⟨_,_,_⟩:=s
 simp only [pu] at h
 simp only [Jr,IJ]
 have d1:= @PC
 have d2:= @kB
 have d3:= @fP
 exact go2
def pw (t:List Ext) (d:Int):(List Ext)×Int->Option (((List Ext)×Int)⊕(((List Ext)×Int×Bool)))
 | (a,b)=>
   br (decide (b<d)) (
   (atL t b).bind fun x=>
   (Loop (pu t d b a (a.length:Int) x.A x.B) (([]:List Ext),([]:List Ext),0)).bind fun c=>
   br (bj ((c.1++c.2.1).length) 16) (
   some (.inl ((c.1++c.2.1),(wrap .i64 (b+1))))) none) (
   some (.inr (a,b,decide (b<d))))
def TX {t a}:LXe tab ow (.close [5002,6000,6001,9002,10002,10004,10005,10006,10007,10011,10012,10013,12002,2001]) Iw (pw t a) (fun s=>⟨[(3,sl aG s.1),(12,sl aG t),(13,I a),(14,I s.2)],[]⟩) 0 (fun e=>(e.1,e.2.1)) (fun e=>[(15,B e.2.2)]):=by
 refine lrX (fun s o h=> ?_)
 obtain ⟨_,_⟩:=s
 simp only [pw] at h
 simp only [Iw,Jh]
 have d1:= @Uh
 exact go2
def mg (a:List Ext):Option (List Ext):=
 (Oe).bind fun c=>
 (Loop (pw a (a.length:Int)) (([c]:List Ext),0)).bind fun b=>
 some b.1
def uI {a r} (h:mg a=some r):Call tab ow 102 [sl aG a] []=some (sl aG r,[]):=by
 rw [ak (af:=BX) rfl]
 unfold mg at h
 simp only [BX,Bs]
 have d1:= @PC
 have d2:= @TX
 exact go2
end
section
@[local go_sem] theorem b6n: ∀k,Uc 2002 k [I (0:Int)]=rws eI (List.replicate k (0:Int)):=fun _=>b0k eI (0:Int) _ _
def pm (d:List Int) (t:List aN) (c:Int):(List Int)×Int->Option (((List Int)×Int)⊕(((List Int)×Int×Bool)))
 | (l,a)=>
   br (decide (a<c)) (
   (atL t a).bind fun x=>
   br (decide (0<=x.Row)) (
   br (decide (x.Row.toNat<l.length)) (
   (l[x.Row.toNat]?).bind fun e=>
   (atL d x.Col).bind fun f=>
   (ut x.Value f).bind fun h=>
   (G9 e h).bind fun b=>
   br (decide (0<=x.Row)) (
   br (decide (x.Row.toNat<l.length)) (
   (l[x.Row.toNat]?).bind fun i=>
   some (.inl ((l.set x.Row.toNat b),(wrap .i64 (a+1))))) none) none) none) none) (
   some (.inr (l,a,decide (a<c))))
def TT {a t b}:LXe tab ow (.close [5002,6015,6016]) Jl (pm a t b) (fun s=>⟨[(2,sl eI a),(7,.sl 2002 0 s.1.length),(13,sl aV t),(14,I b),(15,I s.2)],[(2002,⟨1,false,rws eI s.1⟩)]⟩) 0 (fun e=>(e.1,e.2.1)) (fun e=>[(16,B e.2.2)]):=by
 refine lrX (fun s o h=> ?_)
 obtain ⟨_,_⟩:=s
 simp only [pm] at h
 simp only [Jl,J9]
 have d1:= @Bj
 have d2:= @M1
 exact go2
def uy (b:List aN) (a:Int) (z:List Int):Option (List Int):=
 br (decide (0<=a)) (
 br (TL (ct .i64 1 a) (ct .i64 1 a) 8) (
 (Loop (pm z b (b.length:Int)) ((List.replicate ((ct .i64 (1:Int) a).toNat) (0:Int)),(0:Int))).bind fun c=>
 some c.1) none) none
def FG {a b z r} (h:uy a b z=some r):Call tab ow 249 [sl aV a,I b,sl eI z] []=some (sl eI r,[]):=by
 rw [ak (af:=Bx) rfl]
 unfold uy at h
 simp only [Bx,GW]
 have d1:= @TT
 exact go2
end
def qE (a:Int):Option Int:=
 (jQ a 1 2).bind fun b=>
 br (!b) (
 some 0) (
 some (wrap .i64 (a+1)))
def Dx {a r} (h:qE a=some r):Call tab ow 324 [I a] []=some (I r,[]):=by
 rw [ak (af:=zF) rfl]
 unfold qE at h
 simp only [zF,LR]
 have d1:= @wy
 exact go2
def ww (a b f:Ext):Option Ext:=
 (hS b a).bind fun d=>
 (dt f d).bind fun e=>
 (fJ a e).bind fun c=>
 some c
def Oh {a b c r} (h:ww a b c=some r):Call tab ow 300 [.agg [I a.A,I a.B],.agg [I b.A,I b.B],.agg [I c.A,I c.B]] []=some (.agg [I r.A,I r.B],[]):=by
 rw [ak (af:=C4) rfl]
 unfold ww at h
 simp only [C4,O9]
 have d1:= @kB
 have d2:= @fP
 have d3:= @gU
 exact go2
section
attribute [local go_sem] fc
@[local go_sem] theorem b2T:mkR 6012 []=rws aG []:=rfl
def jR (a:List Ext) (c d:Int):(List Ext)×Int->Option (((List Ext)×Int)⊕(((List Ext)×Int×Bool)))
 | (l,i)=>
   br (decide (i<(a.length:Int))) (
   (atL a i).bind fun x=>
   (atL a (wrap .i64 (i+1))).bind fun e=>
   (ww x e (Ext.mk c d)).bind fun b=>
   br (bj ((l++([b]:List Ext)).length) 16) (
   some (.inl ((l++([b]:List Ext)),(wrap .i64 (i+2))))) none) (
   some (.inr (l,i,decide (i<(a.length:Int)))))
def Pr {a c b}:LXe tab ow (.close [6011,6012,6013]) EV (jR a c b) (fun s=>⟨[(0,sl aG a),(3,.ptr 1000 0 0 1),(5,.sl 2000 0 s.1.length),(6,I s.2)],[(1000,⟨2,true,[[I c,I b]]⟩),(2000,⟨2,false,rws aG s.1⟩)]⟩) 0 (fun e=>(e.1,e.2.1)) (fun e=>[(11,B e.2.2)]):=by
 refine lrX (fun s o h=> ?_)
 obtain ⟨_,_⟩:=s
 simp only [jR] at h
 simp only [EV,EY]
 have d1:= @Oh
 exact go2
def xR (a:List Ext) (b:Ext):Option (List Ext):=
 (Loop (jR a b.A b.B) (([]:List Ext),0)).bind fun c=>
 some c.1
def TO {a b r} (h:xR a b=some r):Call tab ow 389 [sl aG a,.agg [I b.A,I b.B]] []=some (sl aG r,[]):=by
 rw [ak (af:=xB) rfl]
 unfold xR at h
 simp only [xB,Cx]
 have d1:= @Pr
 exact go2
end
section
@[local go_sem] theorem Jz:mkR 2000 []=rws (eL aG) []:=rfl
@[local go_sem] theorem c2x:mkR 6004 []=rws (eL aG) []:=rfl
def qU (t:List (List Ext)) (d c e:Int):(List (List Ext))×Int->Option (((List (List Ext))×Int)⊕(((List (List Ext))×Int×Bool)))
 | (l,b)=>
   br (decide (b<d)) (
   (atL t b).bind fun x=>
   (xR x (Ext.mk c e)).bind fun a=>
   br (bj ((l++([a]:List (List Ext))).length) 24) (
   some (.inl ((l++([a]:List (List Ext))),(wrap .i64 (b+1))))) none) (
   some (.inr (l,b,decide (b<d))))
def a0p {t b c a}:LXe tab ow (.close [6003,6004,6005]) O8 (qU t b c a) (fun s=>⟨[(3,.ptr 1000 0 0 1),(5,.sl 2000 0 s.1.length),(9,sl (eL aG) t),(10,I b),(11,I s.2)],[(1000,⟨2,true,[[I c,I a]]⟩),(2000,⟨1,false,rws (eL aG) s.1⟩)]⟩) 0 (fun e=>(e.1,e.2.1)) (fun e=>[(12,B e.2.2)]):=by
 refine lrX (fun s o h=> ?_)
 obtain ⟨_,_⟩:=s
 simp only [qU] at h
 simp only [O8,OP]
 have d1:= @TO
 exact go2
def DU (a:(List (List Ext))) (b:Ext):Option ((List (List Ext))):=
 (Loop (qU a (a.length:Int) b.A b.B) (([]:List (List Ext)),0)).bind fun c=>
 some c.1
def N6 {a b r} (h:DU a b=some r):Call tab ow 353 [sl (eL aG) a,.agg [I b.A,I b.B]] []=some (sl (eL aG) r,[]):=by
 rw [ak (af:=HO) rfl]
 unfold DU at h
 simp only [HO,N8]
 have d1:= @a0p
 exact go2
end
def wA (a:Int) (v:List Ext):Option Ext:=
 br (a==1) (
 (atL v 0).bind fun x=>
 (atL v 1).bind fun f=>
 (dt x f).bind fun k=>
 some k) (
 (atL v 0).bind fun j=>
 (atL v 1).bind fun h=>
 (atL v 2).bind fun i=>
 (dt h i).bind fun d=>
 (atL v 3).bind fun e=>
 (hS d e).bind fun c=>
 (dt j c).bind fun b=>
 some b)
def OW {a v r} (h:wA a v=some r):Call tab ow 299 [I a,sl aG v] []=some (.agg [I r.A,I r.B],[]):=by
 rw [ak (af:=BT) rfl]
 unfold wA at h
 simp only [BT,Ot]
 have d1:= @fP
 have d2:= @kB
 exact go2
section
attribute [local go_sem] Xl
@[local go_sem] theorem c1F:mkR 10005 []=rws aG []:=rfl
def qM (c:Int) (b:List (List Ext)) (i n m:Int) (f:List (List Ext)) (e k p j o:Int):(List Ext)×Int->Option (((List Ext)×Int)⊕(((List Ext)×Int×Bool)))
 | (l,a)=>
   br (decide (a<e)) (
   (atL f a).bind fun h=>
   (atL h i).bind fun d=>
   br (bj ((l++([d]:List Ext)).length) 16) (
   some (.inl ((l++([d]:List Ext)),(wrap .i64 (a+1))))) none) (
   some (.inr (l,a,decide (a<e))))
def Z5 {b a i j m d n f l c k}:LXe tab ow (.close [10005,10006]) O6 (qM b a i j m d n f l c k) (fun s=>⟨[(0,I b),(1,sl (eL aG) a),(4,.ptr 1000 0 0 1),(5,.ptr 2001 0 0 1),(6,I i),(7,.sl 6000 0 s.1.length),(14,I j),(15,I m),(19,sl (eL aG) d),(20,I n),(21,I s.2)],[(1000,⟨2,true,[[I f,I l]]⟩),(2001,⟨2,true,[[I c,I k]]⟩),(6000,⟨2,false,rws aG s.1⟩)]⟩) 2 (fun e=>(e.1,e.2.1)) (fun e=>[(22,B e.2.2)]):=by
 refine lrX (fun s o h=> ?_)
 obtain ⟨_,_⟩:=s
 simp only [qM] at h
 simp only [O6,Ow]
 exact go2
def rz (b:Int) (a:List (List Ext)) (t c j:Int):Int×Int×Int->Option ((Int×Int×Int)⊕((Int×Bool×Int×Int)))
 | (d,f,h)=>
   br (decide (d<t)) (
   (Loop (qM b a d t d a (a.length:Int) c j f h) (([]:List Ext),0)).bind fun k=>
   (wA b k.1).bind fun i=>
   (fJ (Ext.mk f h) i).bind fun e=>
   some (.inl ((wrap .i64 (d+1)),e.A,e.B))) (
   some (.inr (d,decide (d<t),f,h)))
def a0V {b a t c d}:LXe tab ow (.close [6000,10005,10006,12003,12004]) OA (rz b a t c d) (fun s=>⟨[(0,I b),(1,sl (eL aG) a),(4,.ptr 1000 0 0 1),(5,.ptr 2001 0 0 1),(14,I t),(15,I s.1)],[(1000,⟨2,true,[[I c,I d]]⟩),(2001,⟨2,true,[[I s.2.1,I s.2.2]]⟩)]⟩) 0 (fun e=>(e.1,e.2.2.1,e.2.2.2)) (fun e=>[(16,B e.2.1)]):=by
 refine lrX (fun s o h=> ?_)
 obtain ⟨_,_,_⟩:=s
 simp only [rz] at h
 simp only [OA,OV]
 have d1:= @Z5
 have d2:= @OW
 have d3:= @gU
 exact go2
def Md (b:Int) (a:(List (List Ext))):Option Ext:=
 (atL a 0).bind fun x=>
 (Loop (rz b a (x.length:Int) 0 0) (0,0,0)).bind fun c=>
 some (Ext.mk c.2.2.1 c.2.2.2)
def a9t {b a r} (h:Md b a=some r):Call tab ow 388 [I b,sl (eL aG) a] []=some (.agg [I r.A,I r.B],[]):=by
 rw [ak (af:=Hv) rfl]
 unfold Md at h
 simp only [Hv,HR]
 have d1:= @a0V
 exact go2
end
section
attribute [local go_sem] fc
@[local go_sem] theorem b8K:mkR 6007 []=rws aG []:=rfl
def mT (b:Int) (a:List (List Ext)) (t:Int):(List Ext)×Int->Option (((List Ext)×Int)⊕(((List Ext)×Int×Bool)))
 | (l,c)=>
   br (decide (c<t)) (
   (DU a (Ext.mk c 0)).bind fun e=>
   (Md b e).bind fun d=>
   br (bj ((l++([d]:List Ext)).length) 16) (
   some (.inl ((l++([d]:List Ext)),(wrap .i64 (c+1))))) none) (
   some (.inr (l,c,decide (c<t))))
def TU {b a t}:LXe tab ow (.close [6005,6006,6007,6008]) IP (mT b a t) (fun s=>⟨[(0,I b),(1,sl (eL aG) a),(5,.sl 2000 0 s.1.length),(10,I t),(11,I s.2)],[(2000,⟨2,false,rws aG s.1⟩)]⟩) 0 (fun e=>(e.1,e.2.1)) (fun e=>[(12,B e.2.2)]):=by
 refine lrX (fun s o h=> ?_)
 obtain ⟨_,_⟩:=s
 simp only [mT] at h
 simp only [IP,IZ]
 have d1:= @N6
 have d2:= @a9t
 exact go2
def uD (b:Int) (a:(List (List Ext))):Option (List Ext):=
 (qE b).bind fun c=>
 (Loop (mT b a (wrap .i64 (c+1))) (([]:List Ext),0)).bind fun d=>
 some d.1
def OK {b a r} (h:uD b a=some r):Call tab ow 352 [I b,sl (eL aG) a] []=some (sl aG r,[]):=by
 rw [ak (af:=Bw) rfl]
 unfold uD at h
 simp only [Bw,Hh]
 have d1:= @Dx
 have d2:= @TU
 exact go2
end
def bM (a:List Ext) (m:Source):Option Source:=
 (iz a).bind fun c=>
 (dI c m).bind fun b=>
 some b
def dy {a m r} (h:bM a m=some r):Call tab ow 223 [.ptr 0 0 0 1,sl aG a] [⟨4,true,[[sl aG m.Script,I m.At,S m.State,I m.Count]]⟩]=some (.tup [],[⟨4,true,[[sl aG r.Script,I r.At,S r.State,I r.Count]]⟩]):=by
 rw [ak (af:=lJ) rfl]
 unfold bM at h
 simp only [lJ,we]
 have d1:= @kw
 have d2:= @gu
 exact go2
def Nm (a:Ext):Option Unit:=
 some ()
def a1D {a r} (h:Nm a=some r):Call tab ow 292 [.agg [I a.A,I a.B]] []=some (.tup [],[]):=by
 rw [ak (af:=BC) rfl]
 unfold Nm at h
 simp only [BC,Oc]
 exact go2
section
attribute [local go_sem] Jz Kx
@[local go_sem] theorem yB:mkR 2002 []=rws aG []:=rfl
@[local go_sem] theorem yA:mkR 8002 []=rws (eL aG) []:=rfl
@[local go_sem] theorem p9:mkR 8006 []=rws aG []:=rfl
@[local go_sem] theorem yM:mkR 13004 []=rws aG []:=rfl
def dC (o:List Ext) (d:Int):(List (List Ext))×(List Ext)×(List (List Ext))×(List Ext)×Int×(List UInt8)×Int->Option (((List (List Ext))×(List Ext)×(List (List Ext))×(List Ext)×Int×(List UInt8)×Int)⊕(((List (List Ext))×(List Ext)×(List (List Ext))×Bool×(List Ext)×Int×(List UInt8)×Int)))
 | (l,i,a,c,k,j,m)=>
   (atL a 0).bind fun x=>
   br (decide ((x.length:Int)>1)) (
   (uD d a).bind fun e=>
   (bM e (Source.mk c k j m)).bind fun h=>
   (il h).bind fun b=>
   (DU a b.1).bind fun f=>
   br (bj ((l++([e]:List (List Ext))).length) 24) (
   br (bj ((i++([b.1]:List Ext)).length) 16) (
   (Nm b.1).bind fun n=>
   some (.inl ((l++([e]:List (List Ext))),(i++([b.1]:List Ext)),f,b.2.Script,b.2.At,b.2.State,b.2.Count))) none) none) (
   some (.inr (l,i,a,decide ((x.length:Int)>1),c,k,j,m)))
def yl {b a}:LXe tab ow (.both (.close [4002,5002,6001,6002,7002,8002,8003,8006,8007,9002]) (.nilCell 3 1 3900 1)) lL (dC b a) (fun s=>⟨[(0,.ptr 0 0 0 1),(1,I a),(2,sl (eL aG) s.2.2.1),(3,.fn 292 []),(11,.sl 2000 0 s.1.length),(12,.sl 2001 0 s.2.1.length),(13,.sl 2002 0 b.length)],[(0,⟨4,true,[[sl aG s.2.2.2.1,I s.2.2.2.2.1,S s.2.2.2.2.2.1,I s.2.2.2.2.2.2]]⟩),(2000,⟨1,false,rws (eL aG) s.1⟩),(2001,⟨2,false,rws aG s.2.1⟩),(2002,⟨2,false,rws aG b⟩)]⟩) 0 (fun e=>(e.1,e.2.1,e.2.2.1,e.2.2.2.2.1,e.2.2.2.2.2.1,e.2.2.2.2.2.2.1,e.2.2.2.2.2.2.2)) (fun e=>[(25,B e.2.2.2.1)]):=by
 refine lrX (fun s o h=> ?_)
 obtain ⟨_,_,_,_,_,_,_⟩:=s
 simp only [dC] at h
 simp only [lL,pH]
 have d1:= @OK
 have d2:= @dy
 have d3:= @pa
 have d4:= @N6
 have d5:= @a1D
 exact go2
def da (i:List (List Ext)) (j:List Ext) (t:List (List Ext)) (c:Int) (h:List Ext) (l:Int) (f:List UInt8) (k:Int):(List Ext)×Int->Option (((List Ext)×Int)⊕(((List Ext)×Int×Bool)))
 | (b,a)=>
   br (decide (a<c)) (
   (atL t a).bind fun e=>
   (atL e 0).bind fun d=>
   br (bj ((b++([d]:List Ext)).length) 16) (
   some (.inl ((b++([d]:List Ext)),(wrap .i64 (a+1))))) none) (
   some (.inr (b,a,decide (a<c))))
def xW {a b t f d j c i}:LXe tab ow (.close [13004,13005]) ki (da a b t f d j c i) (fun s=>⟨[(11,.sl 2000 0 a.length),(12,.sl 2001 0 b.length),(13,.sl 2002 0 s.1.length),(48,sl (eL aG) t),(49,I f),(50,I s.2)],[(0,⟨4,true,[[sl aG d,I j,S c,I i]]⟩),(2000,⟨1,false,rws (eL aG) a⟩),(2001,⟨2,false,rws aG b⟩),(2002,⟨2,false,rws aG s.1⟩)]⟩) 2 (fun e=>(e.1,e.2.1)) (fun e=>[(51,B e.2.2)]):=by
 refine lrX (fun s o h=> ?_)
 obtain ⟨_,_⟩:=s
 simp only [da] at h
 simp only [ki,oH]
 exact go2
def dh (c:Int) (b:(List (List Ext))) (m:Source):Option ((List (List Ext))×(List Ext)×(List Ext)×Source):=
 (Loop (dC ([]:List Ext) c) (([]:List (List Ext)),([]:List Ext),b,m.Script,m.At,m.State,m.Count)).bind fun a=>
 (Loop (da a.1 a.2.1 a.2.2.1 (a.2.2.1.length:Int) a.2.2.2.2.1 a.2.2.2.2.2.1 a.2.2.2.2.2.2.1 a.2.2.2.2.2.2.2) (([]:List Ext),0)).bind fun d=>
 some (a.1,a.2.1,d.1,(Source.mk a.2.2.2.2.1 a.2.2.2.2.2.1 a.2.2.2.2.2.2.1 a.2.2.2.2.2.2.2))
def qh {b a m r} (h:dh b a m=some r):Call tab ow 291 [.ptr 0 0 0 1,I b,sl (eL aG) a,.fn 292 []] [⟨4,true,[[sl aG m.Script,I m.At,S m.State,I m.Count]]⟩]=some (.tup [sl (eL aG) r.1,sl aG r.2.1,sl aG r.2.2.1],[⟨4,true,[[sl aG r.2.2.2.Script,I r.2.2.2.At,S r.2.2.2.State,I r.2.2.2.Count]]⟩]):=by
 rw [ak (af:=iQ) rfl]
 unfold dh at h
 simp only [iQ,jU]
 have d1:= @yl
 have d2:= @xW
 exact go2
end
section
@[local go_sem] theorem a9B: ∀k,Uc 2003 k [I (0:Int),I (0:Int)]=rws aG (List.replicate k (Ext.mk (0:Int) (0:Int))):=fun _=>b0k aG (Ext.mk (0:Int) (0:Int)) _ _
def jh (b:List Ext) (t t2 y:List aN) (v:Int) (i:List aN) (h c s z:Int) (u w c6:List aN) (m k c9 o p n:Int):(List Ext)×Int->Option (((List Ext)×Int)⊕(((List Ext)×Int×Bool)))
 | (l,a)=>
   br (decide (a<h)) (
   (atL i a).bind fun x=>
   br (decide (0<=x.Col)) (
   br (decide (x.Col.toNat<l.length)) (
   (l[x.Col.toNat]?).bind fun j=>
   (atL b x.Row).bind fun q=>
   (dt (Ext.mk m k) q).bind fun d=>
   (iy d x.Value).bind fun f=>
   (fJ j f).bind fun e=>
   br (decide (0<=x.Col)) (
   br (decide (x.Col.toNat<l.length)) (
   (l[x.Col.toNat]?).bind fun r=>
   some (.inl ((l.set x.Col.toNat e),(wrap .i64 (a+1))))) none) none) none) none) (
   some (.inr (l,a,decide (a<h))))
def MF {a t p l w j x c r n v k u i q m d f b}:LXe tab ow (.close [8002,9016,9019,9020]) kW (jh a t p l w j x c r n v k u i q m d f b) (fun s=>⟨[(5,.ptr 1001 0 0 1),(7,.sl 2003 0 s.1.length),(8,sl aG a),(9,I 0),(20,.agg [sl aV t,sl aV p,sl aV l]),(21,I w),(25,sl aV j),(26,I x),(27,I s.2)],[(1000,⟨6,true,[[I c,I r,I n,sl aV v,sl aV k,sl aV u]]⟩),(1001,⟨6,true,[[I i,I q,I m,I d,I f,I b]]⟩),(2003,⟨2,false,rws aG s.1⟩)]⟩) 2 (fun e=>(e.1,e.2.1)) (fun e=>[(28,B e.2.2)]):=by
 refine lrX (fun s o h=> ?_)
 obtain ⟨_,_⟩:=s
 simp only [jh] at h
 simp only [kW,rY]
 have d1:= @fP
 have d2:= @nT
 have d3:= @gU
 exact go2
def s9 (c:List Ext) (t8 t9 o i:List aN) (e p s r:Int) (m q y:List aN) (t n l h u w:Int):(List Ext)×Int->Option (((List Ext)×Int)⊕(((List Ext)×Int×Bool)))
 | (d,a)=>
   br (decide (a<e)) (
   (atL i a).bind fun b=>
   br (decide (0<=b.Col)) (
   br (decide (b.Col.toNat<d.length)) (
   (d[b.Col.toNat]?).bind fun v=>
   (atL c b.Row).bind fun x=>
   (dt (Ext.mk l h) x).bind fun j=>
   (iy j b.Value).bind fun k=>
   (fJ v k).bind fun f=>
   br (decide (0<=b.Col)) (
   br (decide (b.Col.toNat<d.length)) (
   (d[b.Col.toNat]?).bind fun z=>
   some (.inl ((d.set b.Col.toNat f),(wrap .i64 (a+1))))) none) none) none) none) (
   some (.inr (d,a,decide (a<e))))
def Nt {a v w f m k i l r b p t d q u j c n}:LXe tab ow (.close [8002,9016,9019,9020]) kW (s9 a v w f m k i l r b p t d q u j c n) (fun s=>⟨[(5,.ptr 1001 0 0 1),(7,.sl 2003 0 s.1.length),(8,sl aG a),(9,I 1),(20,.agg [sl aV v,sl aV w,sl aV f]),(21,I 1),(25,sl aV m),(26,I k),(27,I s.2)],[(1000,⟨6,true,[[I i,I l,I r,sl aV b,sl aV p,sl aV t]]⟩),(1001,⟨6,true,[[I d,I q,I u,I j,I c,I n]]⟩),(2003,⟨2,false,rws aG s.1⟩)]⟩) 2 (fun e=>(e.1,e.2.1)) (fun e=>[(28,B e.2.2)]):=by
 refine lrX (fun s o h=> ?_)
 obtain ⟨_,_⟩:=s
 simp only [s9] at h
 simp only [kW,rY]
 have d1:= @fP
 have d2:= @nT
 have d3:= @gU
 exact go2
def su (c:List Ext) (r o q m:List aN) (f c25 t v:Int) (y c29 u:List aN) (s w x p l k:Int):(List Ext)×Int->Option (((List Ext)×Int)⊕(((List Ext)×Int×Bool)))
 | (d,a)=>
   br (decide (a<f)) (
   (atL m a).bind fun b=>
   br (decide (0<=b.Col)) (
   br (decide (b.Col.toNat<d.length)) (
   (d[b.Col.toNat]?).bind fun i=>
   (atL c b.Row).bind fun n=>
   (dt (Ext.mk l k) n).bind fun j=>
   (iy j b.Value).bind fun h=>
   (fJ i h).bind fun e=>
   br (decide (0<=b.Col)) (
   br (decide (b.Col.toNat<d.length)) (
   (d[b.Col.toNat]?).bind fun z=>
   some (.inl ((d.set b.Col.toNat e),(wrap .i64 (a+1))))) none) none) none) none) (
   some (.inr (d,a,decide (a<f))))
def NR {a k f j u c r w t l b d n i m p v q}:LXe tab ow (.close [8002,9016,9019,9020]) kW (su a k f j u c r w t l b d n i m p v q) (fun s=>⟨[(5,.ptr 1001 0 0 1),(7,.sl 2003 0 s.1.length),(8,sl aG a),(9,I 2),(20,.agg [sl aV k,sl aV f,sl aV j]),(21,I 2),(25,sl aV u),(26,I c),(27,I s.2)],[(1000,⟨6,true,[[I r,I w,I t,sl aV l,sl aV b,sl aV d]]⟩),(1001,⟨6,true,[[I n,I i,I m,I p,I v,I q]]⟩),(2003,⟨2,false,rws aG s.1⟩)]⟩) 2 (fun e=>(e.1,e.2.1)) (fun e=>[(28,B e.2.2)]):=by
 refine lrX (fun s o h=> ?_)
 obtain ⟨_,_⟩:=s
 simp only [su] at h
 simp only [kW,rY]
 have d1:= @fP
 have d2:= @nT
 have d3:= @gU
 exact go2
def sj (s:bD) (f:List Ext) (a:(Ext×Ext×Ext)):Option (List Ext):=
 br (decide (0<=s.Cols)) (
 br (TL (ct .i64 1 s.Cols) (ct .i64 1 s.Cols) 16) (
 (mg f).bind fun d=>
 (ez s).bind fun b=>
 (Loop (jh d b.1 b.2.1 b.2.2 (0:Int) b.1 (b.1.length:Int) s.Rows s.Cols s.Publics s.A s.B s.C a.1.A a.1.B a.2.1.A a.2.1.B a.2.2.A a.2.2.B) ((List.replicate ((ct .i64 (1:Int) s.Cols).toNat) (Ext.mk (0:Int) (0:Int))),(0:Int))).bind fun h=>
 (Loop (s9 d b.1 b.2.1 b.2.2 b.2.1 (b.2.1.length:Int) s.Rows s.Cols s.Publics s.A s.B s.C a.1.A a.1.B a.2.1.A a.2.1.B a.2.2.A a.2.2.B) (h.1,0)).bind fun e=>
 (Loop (su d b.1 b.2.1 b.2.2 b.2.2 (b.2.2.length:Int) s.Rows s.Cols s.Publics s.A s.B s.C a.1.A a.1.B a.2.1.A a.2.1.B a.2.2.A a.2.2.B) (e.1,0)).bind fun c=>
 some c.1) none) none
def GY {s b a r} (h:sj s b a=some r):Call tab ow 293 [.agg [I s.Rows,I s.Cols,I s.Publics,sl aV s.A,sl aV s.B,sl aV s.C],sl aG b,.agg [I a.1.A,I a.1.B,I a.2.1.A,I a.2.1.B,I a.2.2.A,I a.2.2.B]] []=some (sl aG r,[]):=by
 rw [ak (af:=vF) rfl]
 unfold sj at h
 simp+decide only [vF,vf,go_sem,reduceIte,Nat.reduceAdd,Int.reduceAdd,Int.reduceMul,Int.reduceSub]
 obtain ⟨hb,h⟩:=brg h
 refine Db hb ?_
 obtain ⟨hb,h⟩:=brg h
 refine Db hb ?_
 obtain ⟨r_,h1,h⟩:=bd h
 refine ld (uI h1) ?_
 simp+decide only [go_sem,reduceIte,Nat.reduceAdd,Int.reduceAdd,Int.reduceMul,Int.reduceSub]
 obtain ⟨r_2,h1,h⟩:=bd h
 refine dq (n8 h1) ?_
 simp+decide only [go_sem,reduceIte,Nat.reduceAdd,Int.reduceAdd,Int.reduceMul,Int.reduceSub]
 refine g8 ?_
 simp+decide only [mkL,go_sem,reduceIte,Nat.reduceAdd,Int.reduceAdd,Int.reduceMul,Int.reduceSub]
 obtain ⟨e_,h1,h⟩:=bd h
 refine E5 (lxE MF h1) ?_
 simp+decide only [go_sem,reduceIte,Nat.reduceAdd,Int.reduceAdd,Int.reduceMul,Int.reduceSub]
 refine g8 ?_
 simp+decide only [mkL,go_sem,reduceIte,Nat.reduceAdd,Int.reduceAdd,Int.reduceMul,Int.reduceSub]
 obtain ⟨e_2,h1,h⟩:=bd h
 refine E5 (lxE Nt h1) ?_
 simp+decide only [go_sem,reduceIte,Nat.reduceAdd,Int.reduceAdd,Int.reduceMul,Int.reduceSub]
 refine g8 ?_
 simp+decide only [mkL,go_sem,reduceIte,Nat.reduceAdd,Int.reduceAdd,Int.reduceMul,Int.reduceSub]
 obtain ⟨e_3,h1,h⟩:=bd h
 refine E5 (lxE NR h1) ?_
 simp+decide only [go_sem,reduceIte,Nat.reduceAdd,Int.reduceAdd,Int.reduceMul,Int.reduceSub]
 refine g8 ?_
 simp+decide only [mkL,go_sem,reduceIte,Nat.reduceAdd,Int.reduceAdd,Int.reduceMul,Int.reduceSub]
 obtain rfl:=cS h
 first|rfl| (simp only [aO,go_sem];done)
end
def zV (i t:List Ext) (e c k:Int):Int×Int×Int->Option ((Int×Int×Int)⊕((Int×Bool×Int×Int)))
 | (a,d,f)=>
   br (decide (a<e)) (
   (atL t a).bind fun x=>
   (atL i a).bind fun h=>
   (dt x h).bind fun j=>
   (fJ (Ext.mk d f) j).bind fun b=>
   some (.inl ((wrap .i64 (a+1)),b.A,b.B))) (
   some (.inr (a,decide (a<e),d,f)))
def a7g {b t d c a}:LXe tab ow (.close [5003,6006,6007]) Vj (zV b t d c a) (fun s=>⟨[(1,sl aG b),(4,.ptr 1000 0 0 1),(5,.ptr 2001 0 0 1),(9,sl aG t),(10,I d),(11,I s.1)],[(1000,⟨2,true,[[I c,I a]]⟩),(2001,⟨2,true,[[I s.2.1,I s.2.2]]⟩)]⟩) 0 (fun e=>(e.1,e.2.2.1,e.2.2.2)) (fun e=>[(12,B e.2.1)]):=by
 refine lrX (fun s o h=> ?_)
 obtain ⟨_,_,_⟩:=s
 simp only [zV] at h
 simp only [Vj,Vd]
 have d1:= @fP
 have d2:= @gU
 exact go2
def GF (a b:List Ext):Option Ext:=
 (Loop (zV b a (a.length:Int) 0 0) (0,0,0)).bind fun c=>
 some (Ext.mk c.2.2.1 c.2.2.2)
def VR {a b r} (h:GF a b=some r):Call tab ow 101 [sl aG a,sl aG b] []=some (.agg [I r.A,I r.B],[]):=by
 rw [ak (af:=PM) rfl]
 unfold GF at h
 simp only [PM,We]
 have d1:= @a7g
 exact go2
def wD (a:Int):Option Int:=
 (QZ a 2130706431).bind fun b=>
 some b
def Ou {a r} (h:wD a=some r):Call tab ow 369 [I a] []=some (I r,[]):=by
 rw [ak (af:=BV) rfl]
 unfold wD at h
 simp only [BV,Ox]
 have d1:= @Yu
 exact go2
def oO (n i:Int) (a b r:Ext):Option Ext:=
 (wD 2).bind fun f=>
 (Hz n).bind fun m=>
 (NL m).bind fun p=>
 (QZ p i).bind fun k=>
 (fJ a b).bind fun l=>
 (iy l f).bind fun q=>
 (hS a b).bind fun o=>
 (dt r o).bind fun j=>
 (wD k).bind fun e=>
 (ut f e).bind fun c=>
 (iy j c).bind fun h=>
 (fJ q h).bind fun d=>
 some d
def Lq {n i a b c r} (h:oO n i a b c=some r):Call tab ow 328 [I n,I i,.agg [I a.A,I a.B],.agg [I b.A,I b.B],.agg [I c.A,I c.B]] []=some (.agg [I r.A,I r.B],[]):=by
 rw [ak (af:=zs) rfl]
 unfold oO at h
 simp only [zs,Mq]
 have d1:= @Ou
 have d2:= @MY
 have d3:= @a1d
 have d4:= @Yu
 have d5:= @gU
 have d6:= @nT
 have d7:= @kB
 have d8:= @fP
 have d9:= @Bj
 exact go2
section
attribute [local go_sem] fc
@[local go_sem] theorem b5E:mkR 6016 []=rws aG []:=rfl
def ly (a:List Ext) (d t c h:Int):(List Ext)×Int->Option (((List Ext)×Int)⊕(((List Ext)×Int×Bool)))
 | (l,b)=>
   br (decide (b<t)) (
   (atL a b).bind fun x=>
   (atL a (wrap .i64 (b+d))).bind fun f=>
   (oO (a.length:Int) b x f (Ext.mk c h)).bind fun e=>
   br (bj ((l++([e]:List Ext)).length) 16) (
   some (.inl ((l++([e]:List Ext)),(wrap .i64 (b+1))))) none) (
   some (.inr (l,b,decide (b<t))))
def To {a b t c d}:LXe tab ow (.close [6015,6016,6017]) Gl (ly a b t c d) (fun s=>⟨[(0,sl aG a),(3,.ptr 1000 0 0 1),(5,.sl 2000 0 s.1.length),(6,I b),(12,I t),(13,I s.2)],[(1000,⟨2,true,[[I c,I d]]⟩),(2000,⟨2,false,rws aG s.1⟩)]⟩) 0 (fun e=>(e.1,e.2.1)) (fun e=>[(14,B e.2.2)]):=by
 refine lrX (fun s o h=> ?_)
 obtain ⟨_,_⟩:=s
 simp only [ly] at h
 simp only [Gl,GB]
 have d1:= @Lq
 exact go2
def Ao (a:List Ext) (b:Ext):Option (List Ext):=
 (Loop (ly a (wrap .i64 ((a.length:Int).tdiv 2)) (wrap .i64 ((a.length:Int).tdiv 2)) b.A b.B) (([]:List Ext),0)).bind fun c=>
 some c.1
def Yl {a b r} (h:Ao a b=some r):Call tab ow 356 [sl aG a,.agg [I b.A,I b.B]] []=some (sl aG r,[]):=by
 rw [ak (af:=ze) rfl]
 unfold Ao at h
 simp only [ze,Eo]
 have d1:= @To
 exact go2
end
section
@[local go_sem] theorem a3T:mkR 4003 []=rws io []:=rfl
@[local go_sem] theorem a2z:mkR 6003 []=rws eS []:=rfl
def ph (n:Ext) (m i f h:Int) (l:List cQ) (e:List (List UInt8)) (j:Source):Option (Int×Int×Int×Int×(List cQ)×(List (List UInt8))×Source):=
 br (decide (0<=(wrap .i64 ((l.length:Int)-1)))) (
 br (decide ((wrap .i64 ((l.length:Int)-1)).toNat<l.length)) (
 (l[(wrap .i64 ((l.length:Int)-1)).toNat]?).bind fun x=>
 (Ao x.word n).bind fun d=>
 br ((l.length:Int)==m) (
 some (m,i,f,h,l,e,j)) (
 (AQ d).bind fun a=>
 br (bj ((l++([a]:List cQ)).length) 48) (
 br (decide (0<=(wrap .i64 ((((l++([a]:List cQ)).length:Nat):Int)-1)))) (
 br (decide ((wrap .i64 ((((l++([a]:List cQ)).length:Nat):Int)-1)).toNat<(l++([a]:List cQ)).length)) (
 ((l++([a]:List cQ))[(wrap .i64 ((((l++([a]:List cQ)).length:Nat):Int)-1)).toNat]?).bind fun k=>
 (Av k.rows).bind fun b=>
 br (bj ((e++([b]:List (List UInt8))).length) 16) (
 br (bj b.length 1) (
 (dI b j).bind fun c=>
 some (m,i,f,h,(l++([a]:List cQ)),(e++([b]:List (List UInt8))),c)) none) none) none) none) none)) none) none
def KE {b m f d e l c a r} (h:ph b m f d e l c a=some r):Call tab ow 355 [.agg [I b.A,I b.B],.ptr 0 0 0 1,.ptr 1 0 0 1,.ptr 2 0 0 1,.ptr 3 0 0 1] [⟨1,true,[[.sl 4 0 l.length]]⟩,⟨1,true,[[I m]]⟩,⟨6,true,[[.lit (.slice none 0 0),.sl 5 0 c.length,I f,I d,I e,.lit (.slice none 0 0)]]⟩,⟨1,true,[[.ptr 6 0 0 1]]⟩,⟨2,false,rws io l⟩,⟨1,false,rws eS c⟩,⟨4,true,[[sl aG a.Script,I a.At,S a.State,I a.Count]]⟩]=some (.tup [],[⟨1,true,[[.sl 4 0 r.2.2.2.2.1.length]]⟩,⟨1,true,[[I r.1]]⟩,⟨6,true,[[.lit (.slice none 0 0),.sl 5 0 r.2.2.2.2.2.1.length,I r.2.1,I r.2.2.1,I r.2.2.2.1,.lit (.slice none 0 0)]]⟩,⟨1,true,[[.ptr 6 0 0 1]]⟩,⟨2,false,rws io r.2.2.2.2.1⟩,⟨1,false,rws eS r.2.2.2.2.2.1⟩,⟨4,true,[[sl aG r.2.2.2.2.2.2.Script,I r.2.2.2.2.2.2.At,S r.2.2.2.2.2.2.State,I r.2.2.2.2.2.2.Count]]⟩]):=by
 rw [ak (af:=pY) rfl]
 unfold ph at h
 simp only [pY,Bl]
 have d1:= @Yl
 have d2:= @JK
 have d3:= @Se
 have d4:= @gu
 exact go2
end
section
attribute [local go_sem] Jz Kx yB yA p9 yM
def ck (u:List Ext) (e:Int):(List cQ)×(List (List Ext))×(List Ext)×(List (List UInt8))×(List (List Ext))×(List Ext)×Int×(List UInt8)×Int×Int×Int×Int×Int->Option (((List cQ)×(List (List Ext))×(List Ext)×(List (List UInt8))×(List (List Ext))×(List Ext)×Int×(List UInt8)×Int×Int×Int×Int×Int)⊕(((List cQ)×(List (List Ext))×(List Ext)×(List (List UInt8))×(List (List Ext))×Bool×(List Ext)×Int×(List UInt8)×Int×Int×Int×Int×Int)))
 | (o,h,i,l,a,c,m,q,n,p,r,t,s)=>
   (atL a 0).bind fun x=>
   br (decide ((x.length:Int)>1)) (
   (uD e a).bind fun f=>
   (bM f (Source.mk c m q n)).bind fun k=>
   (il k).bind fun d=>
   (DU a d.1).bind fun j=>
   br (bj ((h++([f]:List (List Ext))).length) 24) (
   br (bj ((i++([d.1]:List Ext)).length) 16) (
   (ph d.1 p r t s o l d.2).bind fun b=>
   some (.inl (b.2.2.2.2.1,(h++([f]:List (List Ext))),(i++([d.1]:List Ext)),b.2.2.2.2.2.1,j,b.2.2.2.2.2.2.Script,b.2.2.2.2.2.2.At,b.2.2.2.2.2.2.State,b.2.2.2.2.2.2.Count,b.1,b.2.1,b.2.2.1,b.2.2.2.1))) none) none) (
   some (.inr (o,h,i,l,a,decide ((x.length:Int)>1),c,m,q,n,p,r,t,s)))
def to {b a}:LXe tab ow (.both (.close [4002,5002,6001,6002,7002,8002,8003,8006,8007,9002]) (.nilCell 3 1 3900 1)) lL (ck b a) (fun s=>⟨[(0,.ptr 0 0 0 1),(1,I a),(2,sl (eL aG) s.2.2.2.2.1),(3,.fn 355 [.ptr 1 0 0 1,.ptr 2 0 0 1,.ptr 3 0 0 1,.ptr 4 0 0 1]),(11,.sl 2000 0 s.2.1.length),(12,.sl 2001 0 s.2.2.1.length),(13,.sl 2002 0 b.length)],[(0,⟨4,true,[[sl aG s.2.2.2.2.2.1,I s.2.2.2.2.2.2.1,S s.2.2.2.2.2.2.2.1,I s.2.2.2.2.2.2.2.2.1]]⟩),(1,⟨1,true,[[.sl 5 0 s.1.length]]⟩),(2,⟨1,true,[[I s.2.2.2.2.2.2.2.2.2.1]]⟩),(3,⟨6,true,[[.lit (.slice none 0 0),.sl 3900 0 s.2.2.2.1.length,I s.2.2.2.2.2.2.2.2.2.2.1,I s.2.2.2.2.2.2.2.2.2.2.2.1,I s.2.2.2.2.2.2.2.2.2.2.2.2,.lit (.slice none 0 0)]]⟩),(4,⟨1,true,[[.ptr 0 0 0 1]]⟩),(5,⟨2,false,rws io s.1⟩),(2000,⟨1,false,rws (eL aG) s.2.1⟩),(2001,⟨2,false,rws aG s.2.2.1⟩),(2002,⟨2,false,rws aG b⟩),(3900,⟨1,false,rws eS s.2.2.2.1⟩)]⟩) 0 (fun e=>(e.1,e.2.1,e.2.2.1,e.2.2.2.1,e.2.2.2.2.1,e.2.2.2.2.2.2.1,e.2.2.2.2.2.2.2.1,e.2.2.2.2.2.2.2.2.1,e.2.2.2.2.2.2.2.2.2.1,e.2.2.2.2.2.2.2.2.2.2.1,e.2.2.2.2.2.2.2.2.2.2.2.1,e.2.2.2.2.2.2.2.2.2.2.2.2.1,e.2.2.2.2.2.2.2.2.2.2.2.2.2)) (fun e=>[(25,B e.2.2.2.2.2.1)]):=by
 refine lrX (fun s o h=> ?_)
 obtain ⟨_,_,_,_,_,_,_,_,_,_,_,_,_⟩:=s
 simp only [ck] at h
 simp only [lL,pH]
 have d1:= @OK
 have d2:= @dy
 have d3:= @pa
 have d4:= @N6
 have d5:= @KE
 exact go2
def cL (p:List cQ) (r:List (List Ext)) (q:List Ext) (k:List (List UInt8)) (t:List (List Ext)) (c:Int) (o:List Ext) (j:Int) (l:List UInt8) (h f m n e:Int):(List Ext)×Int->Option (((List Ext)×Int)⊕(((List Ext)×Int×Bool)))
 | (a,b)=>
   br (decide (b<c)) (
   (atL t b).bind fun i=>
   (atL i 0).bind fun d=>
   br (bj ((a++([d]:List Ext)).length) 16) (
   some (.inl ((a++([d]:List Ext)),(wrap .i64 (b+1))))) none) (
   some (.inr (a,b,decide (b<c))))
def tl {l n m a t q p f i d c j k b}:LXe tab ow (.close [13004,13005]) ki (cL l n m a t q p f i d c j k b) (fun s=>⟨[(11,.sl 2000 0 n.length),(12,.sl 2001 0 m.length),(13,.sl 2002 0 s.1.length),(48,sl (eL aG) t),(49,I q),(50,I s.2)],[(0,⟨4,true,[[sl aG p,I f,S i,I d]]⟩),(1,⟨1,true,[[.sl 5 0 l.length]]⟩),(2,⟨1,true,[[I c]]⟩),(3,⟨6,true,[[.lit (.slice none 0 0),.sl 3900 0 a.length,I j,I k,I b,.lit (.slice none 0 0)]]⟩),(4,⟨1,true,[[.ptr 0 0 0 1]]⟩),(5,⟨2,false,rws io l⟩),(2000,⟨1,false,rws (eL aG) n⟩),(2001,⟨2,false,rws aG m⟩),(2002,⟨2,false,rws aG s.1⟩),(3900,⟨1,false,rws eS a⟩)]⟩) 2 (fun e=>(e.1,e.2.1)) (fun e=>[(51,B e.2.2)]):=by
 refine lrX (fun s o h=> ?_)
 obtain ⟨_,_⟩:=s
 simp only [cL] at h
 simp only [ki,oH]
 exact go2
def dT (c:Int) (b:(List (List Ext))) (m:Source) (h e f i:Int) (l:List cQ):Option ((List (List Ext))×(List Ext)×(List Ext)×Source×Int×Int×Int×Int×(List cQ)×(List (List UInt8))):=
 (Loop (ck ([]:List Ext) c) (l,([]:List (List Ext)),([]:List Ext),([]:List (List UInt8)),b,m.Script,m.At,m.State,m.Count,h,e,f,i)).bind fun a=>
 (Loop (cL a.1 a.2.1 a.2.2.1 a.2.2.2.1 a.2.2.2.2.1 (a.2.2.2.2.1.length:Int) a.2.2.2.2.2.2.1 a.2.2.2.2.2.2.2.1 a.2.2.2.2.2.2.2.2.1 a.2.2.2.2.2.2.2.2.2.1 a.2.2.2.2.2.2.2.2.2.2.1 a.2.2.2.2.2.2.2.2.2.2.2.1 a.2.2.2.2.2.2.2.2.2.2.2.2.1 a.2.2.2.2.2.2.2.2.2.2.2.2.2) (([]:List Ext),0)).bind fun d=>
 some (a.2.1,a.2.2.1,d.1,(Source.mk a.2.2.2.2.2.2.1 a.2.2.2.2.2.2.2.1 a.2.2.2.2.2.2.2.2.1 a.2.2.2.2.2.2.2.2.2.1),a.2.2.2.2.2.2.2.2.2.2.1,a.2.2.2.2.2.2.2.2.2.2.2.1,a.2.2.2.2.2.2.2.2.2.2.2.2.1,a.2.2.2.2.2.2.2.2.2.2.2.2.2,a.1,a.2.2.2.1)
def uN {b a m e c d f l r} (h:dT b a m e c d f l=some r):Call tab ow 291 [.ptr 0 0 0 1,I b,sl (eL aG) a,.fn 355 [.ptr 1 0 0 1,.ptr 2 0 0 1,.ptr 3 0 0 1,.ptr 4 0 0 1]] [⟨4,true,[[sl aG m.Script,I m.At,S m.State,I m.Count]]⟩,⟨1,true,[[.sl 5 0 l.length]]⟩,⟨1,true,[[I e]]⟩,⟨6,true,[[.lit (.slice none 0 0),.lit (.slice none 0 0),I c,I d,I f,.lit (.slice none 0 0)]]⟩,⟨1,true,[[.ptr 0 0 0 1]]⟩,⟨2,false,rws io l⟩]=some (.tup [sl (eL aG) r.1,sl aG r.2.1,sl aG r.2.2.1],[⟨4,true,[[sl aG r.2.2.2.1.Script,I r.2.2.2.1.At,S r.2.2.2.1.State,I r.2.2.2.1.Count]]⟩,⟨1,true,[[.sl 5 0 r.2.2.2.2.2.2.2.2.1.length]]⟩,⟨1,true,[[I r.2.2.2.2.1]]⟩,⟨6,true,[[.lit (.slice none 0 0),.sl 6 0 r.2.2.2.2.2.2.2.2.2.length,I r.2.2.2.2.2.1,I r.2.2.2.2.2.2.1,I r.2.2.2.2.2.2.2.1,.lit (.slice none 0 0)]]⟩,⟨1,true,[[.ptr 0 0 0 1]]⟩,⟨2,false,rws io r.2.2.2.2.2.2.2.2.1⟩,⟨1,false,rws eS r.2.2.2.2.2.2.2.2.2⟩]):=by
 rw [ak (af:=iQ) rfl]
 unfold dT at h
 simp only [iQ,jU]
 have d1:= @to
 have d2:= @tl
 exact go2
end
def sv (t:List UInt8) (b:Int):Int×Int->Option ((Int×Int)⊕((Int×Int×Bool)))
 | (n,a)=>
   br (decide (a<b)) (
   (atL t a).bind fun x=>
   some (.inl ((Cy .i64 (ct .i64 n 8) (wrap .i64 (x.toNat:Int))),(wrap .i64 (a+1))))) (
   some (.inr (n,a,decide (a<b))))
def XG {t a}:LXe tab ow (.close []) Ln (sv t a) (fun s=>⟨[(3,I s.1),(6,sl eU8 t),(7,I a),(8,I s.2)],[]⟩) 0 (fun e=>(e.1,e.2.1)) (fun e=>[(9,B e.2.2)]):=by
 refine lrX (fun s o h=> ?_)
 obtain ⟨_,_⟩:=s
 simp only [sv] at h
 simp only [Ln,MA]
 exact go2
def vy (b:List UInt8):Option Int:=
 (Loop (sv b (b.length:Int)) (0,0)).bind fun a=>
 some a.1
def Kj {b r} (h:vy b=some r):Call tab ow 297 [sl eU8 b] []=some (I r,[]):=by
 rw [ak (af:=ER) rfl]
 unfold vy at h
 simp only [ER,JQ]
 have d1:= @XG
 exact go2
end
end Go.AI.Fn
set_option linter.unusedVariables false
set_option linter.unusedSimpArgs false
set_option maxRecDepth 100000
set_option maxHeartbeats 1000000
namespace Go.AI.Fn
noncomputable section
open IntKind (wrap)
section
@[local go_sem] theorem a9u:mkR 2003 []=rws eU8 []:=rfl
@[local go_sem] theorem a6A:mkR 2007 []=rws (eL eU8) []:=rfl
def pq (s:Source) (a b:Int):Option Bool:=
 br (bj s.State.length 1) (
 (DP b).bind fun e=>
 (uR ([s.State,([(103:UInt8),(114:UInt8),(105:UInt8),(110:UInt8),(100:UInt8)]:List UInt8),e]:List (List UInt8))).bind fun c=>
 br (bj c.length 1) (
 (rF c 0 4).bind fun y=>
 (vy y).bind fun d=>
 br (decide (0<=(wrap .i64 (32-a)))) (
 some ((cc .i64 d (wrap .i64 (32-a)))==0)) none) none) none
def Fa {s b a r} (h:pq s b a=some r):Call tab ow 224 [.agg [sl aG s.Script,I s.At,S s.State,I s.Count],I b,I a] []=some (B r,[]):=by
 rw [ak (af:=tN) rfl]
 unfold pq at h
 simp only [tN,Ff]
 have d1:= @Gg
 have d2:= @AY
 have d3:= @Kj
 exact go2
end
def eQ (a:Int) (c:List Ext) (e:Int) (b:List UInt8) (f:Int):Int->Option ((Int)⊕(Int⊕(Int×Bool)))
 |t=>
  br (decide (t<65536)) (
  (pq (Source.mk c e b f) a t).bind fun d=>
  br d (
  some (.inr (.inl t))) (
  some (.inl (wrap .i64 (t+1))))) (
  some (.inr (.inr (t,decide (t<65536)))))
def K7 {a c b f d}:LX tab ow (.close [5003]) A4 (eQ a c b f d) (fun s=>⟨[(1,I a),(2,.ptr 1000 0 0 1),(6,I s)],[(1000,⟨4,true,[[sl aG c,I b,S f,I d]]⟩)]⟩) (alt (fun e=>((.ret,⟨[(4,I e)],[(1000,⟨4,true,[[sl aG c,I b,S f,I d]]⟩)]⟩):dd×St)) (fun e=>(.exit 0,⟨[(1,I a),(2,.ptr 1000 0 0 1),(6,I e.1),(7,B e.2)],[(1000,⟨4,true,[[sl aG c,I b,S f,I d]]⟩)]⟩))):=by
 refine lrX (fun s o h=> ?_)
 simp only [eQ] at h
 simp only [A4,Ay]
 have d1:= @Fa
 exact go2
def rj (s:Source) (a:Int):Option Int:=
 (Loop (eQ a s.Script s.At s.State s.Count) 0).bind (alt (fun b=>
 some b) (fun c=>
 some (-1:Int)))
def ML {s a r} (h:rj s a=some r):Call tab ow 357 [.agg [sl aG s.Script,I s.At,S s.State,I s.Count],I a] []=some (I r,[]):=by
 rw [ak (af:=rU) rfl]
 unfold rj at h
 simp only [rU,wH]
 have d1:= @K7
 exact go2
section
attribute [local go_sem] o8
@[local go_sem] theorem c0o:mkR 6005 []=rws eI []:=rfl
def oi (a:Int) (t:List Ext) (c:Int):(List Int)×Int->Option (((List Int)×Int)⊕(((List Int)×Int×Bool)))
 | (l,b)=>
   br (decide (b<c)) (
   (atL t b).bind fun x=>
   br (decide (a≠0)) (
   br (bj ((l++([(x.A.tmod a)]:List Int)).length) 8) (
   some (.inl ((l++([(x.A.tmod a)]:List Int)),(wrap .i64 (b+1))))) none) none) (
   some (.inr (l,b,decide (b<c))))
def W7 {a t b}:LXe tab ow (.close [5002,6005,6006]) Kp (oi a t b) (fun s=>⟨[(1,I a),(5,.sl 2000 0 s.1.length),(9,sl aG t),(10,I b),(11,I s.2)],[(2000,⟨1,false,rws eI s.1⟩)]⟩) 0 (fun e=>(e.1,e.2.1)) (fun e=>[(12,B e.2.2)]):=by
 refine lrX (fun s o h=> ?_)
 obtain ⟨_,_⟩:=s
 simp only [oi] at h
 simp only [Kp,LK]
 exact go2
def Dk (a:List Ext) (b:Int):Option (List Int):=
 (Loop (oi b a (a.length:Int)) (([]:List Int),0)).bind fun c=>
 some c.1
def Tl {a b r} (h:Dk a b=some r):Call tab ow 226 [sl aG a,I b] []=some (sl eI r,[]):=by
 rw [ak (af:=DK) rfl]
 unfold Dk at h
 simp only [DK,JZ]
 have d1:= @W7
 exact go2
end
section
attribute [local go_sem] IL
@[local go_sem] theorem c0f:mkR 6006 []=rws eS []:=rfl
def o9 (t:List (List (List UInt8))) (c:Int):(List (List UInt8))×Int×Int->Option (((List (List UInt8))×Int×Int)⊕(((List (List UInt8))×Int×Int×Bool)))
 | (l,b,a)=>
   br (decide (a<c)) (
   (atL t a).bind fun x=>
   (atL x (sx .i64 b 1)).bind fun d=>
   br (bj ((l++([d]:List (List UInt8))).length) 16) (
   some (.inl ((l++([d]:List (List UInt8))),(wrap .i64 (b.tdiv 2)),(wrap .i64 (a+1))))) none) (
   some (.inr (l,b,a,decide (a<c))))
def X6 {t a}:LXe tab ow (.close [6006,6007]) Lh (o9 t a) (fun s=>⟨[(1,I s.2.1),(5,.sl 2000 0 s.1.length),(13,sl (eL eS) t),(14,I a),(15,I s.2.2)],[(2000,⟨1,false,rws eS s.1⟩)]⟩) 0 (fun e=>(e.1,e.2.1,e.2.2.1)) (fun e=>[(16,B e.2.2.2)]):=by
 refine lrX (fun s o h=> ?_)
 obtain ⟨_,_,_⟩:=s
 simp only [o9] at h
 simp only [Lh,Ly]
 exact go2
def Gs (a:(List (List (List UInt8)))) (i:Int):Option ((List (List UInt8))):=
 (rF a 0 (wrap .i64 ((a.length:Int)-1))).bind fun y=>
 (Loop (o9 y (y.length:Int)) (([]:List (List UInt8)),i,0)).bind fun b=>
 some b.1
def a4n {a i r} (h:Gs a i=some r):Call tab ow 358 [sl (eL eS) a,I i] []=some (sl eS r,[]):=by
 rw [ak (af:=Dy) rfl]
 unfold Gs at h
 simp only [Dy,JR]
 have d1:= @X6
 exact go2
end
section
@[local go_sem] theorem a9k:mkR 2006 []=rws io []:=rfl
theorem MO:mkR 4004 []=rws (eL aG) []:=rfl
attribute [local go_sem] MO Dn
@[local go_sem] theorem a7k:mkR 20014 []=rws aG []:=rfl
@[local go_sem] theorem a7O:mkR 20022 []=rws (eL eS) []:=rfl
@[local go_sem] theorem NW:mkR 22003 []=rws db []:=rfl
def jM (k:List cQ) (l5:List (List UInt8)) (l6:List cx) (e:Int) (t5:List Int) (t6 t7 i:Int) (l:List Ext) (r:Int) (z:List UInt8) (t m w q u y x:Int) (n:List (List Ext)) (p s v o:Int):(List Ext)×(List (List (List UInt8)))×Int->Option (((List Ext)×(List (List (List UInt8)))×Int)⊕(((List Ext)×(List (List (List UInt8)))×Int×Bool)))
 | (f,d,c)=>
   br (decide (c<i)) (
   br (decide (0<=c)) (
   br (decide (c.toNat<k.length)) (
   (k[c.toNat]?).bind fun a=>
   br (decide ((wrap .i64 ((a.word.length:Int).tdiv 2))≠0)) (
   (atL a.word (e.tmod (wrap .i64 ((a.word.length:Int).tdiv 2)))).bind fun h=>
   (atL a.word (wrap .i64 ((e.tmod (wrap .i64 ((a.word.length:Int).tdiv 2)))+(wrap .i64 ((a.word.length:Int).tdiv 2))))).bind fun j=>
   br (bj ((f++([h,j]:List Ext)).length) 16) (
   (Gs a.rows (e.tmod (wrap .i64 ((a.word.length:Int).tdiv 2)))).bind fun b=>
   br (bj ((d++([b]:List (List (List UInt8)))).length) 24) (
   some (.inl ((f++([h,j]:List Ext)),(d++([b]:List (List (List UInt8)))),(wrap .i64 (c+1))))) none) none) none) none) none) (
   some (.inr (f,d,c,decide (c<i))))
def M5 {u w v x y t6 z t8 a j t l b p i m r q c f k n d}:LXe tab ow (.both (.both (.close [17002,20014,20015,20021,20022,20023]) (.nilCell 14001 0 16900 2)) (.nilCell 14001 1 16901 1)) AE (jM u w v x y t6 z t8 a j t l b p i m r q c f k n d) (fun s=>⟨[(8,.ptr 1002 0 0 1),(10,.ptr 2007 0 0 1),(11,.ptr 3003 0 0 1),(17,I x),(18,.ptr 14001 0 0 1),(81,sl eI y),(82,I t6),(83,I z),(88,.sl 2006 0 u.length),(89,I t8),(90,I s.2.2)],[(0,⟨4,true,[[sl aG a,I j,S t,I l]]⟩),(1000,⟨1,true,[[.ptr 0 0 0 1]]⟩),(1001,⟨3,true,[[I b,I p,I i]]⟩),(1002,⟨6,true,[[.lit (.slice none 0 0),.lit (.slice none 0 0),I m,I r,I q,.lit (.slice none 0 0)]]⟩),(2006,⟨2,false,rws io u⟩),(2007,⟨1,true,[[.sl 2006 0 u.length]]⟩),(3003,⟨6,true,[[sl (eL aG) c,.sl 4006 0 w.length,I f,I k,I n,.sl 12900 0 v.length]]⟩),(3004,⟨1,true,[[I d]]⟩),(4004,kj),(4006,⟨1,false,rws eS w⟩),(6003,kj),(12900,⟨2,false,rws db v⟩),(14001,⟨2,true,[[.sl 16900 0 s.1.length,.sl 16901 0 s.2.1.length]]⟩),(16900,⟨2,false,rws aG s.1⟩),(16901,⟨1,false,rws (eL eS) s.2.1⟩)]⟩) 2 (fun e=>(e.1,e.2.1,e.2.2.1)) (fun e=>[(91,B e.2.2.2)]):=by
 refine lrX (fun s o h=> ?_)
 obtain ⟨_,_,_⟩:=s
 simp only [jM] at h
 simp only [AE,AB]
 have d1:= @a4n
 exact go2
def iq (l:List cQ) (p:List (List UInt8)) (t:List Int) (h:Int) (c:List Ext) (n:Int) (r:List UInt8) (o q s w v u k:Int) (m:List (List Ext)) (j e i f:Int):(List cx)×Int->Option (((List cx)×Int)⊕(((List cx)×Int×Bool)))
 | (b,a)=>
   br (decide (a<h)) (
   (atL t a).bind fun x=>
   (Loop (jM l p b x t h a (l.length:Int) c n r o q s w v u k m j e i f) (([]:List Ext),([]:List (List (List UInt8))),0)).bind fun d=>
   br (bj ((b++([(cx.mk d.1 d.2.1)]:List cx)).length) 48) (
   some (.inl ((b++([(cx.mk d.1 d.2.1)]:List cx)),(wrap .i64 (a+1))))) none) (
   some (.inr (b,a,decide (a<h))))
def KG {l k t r c v q x n w m u p d f b a i j}:LXe tab ow (.both (.close [14001,17002,20014,20015,20021,20022,20023,22003,22004,16900,16901]) (.nilCell 3003 5 12900 2)) Aw (iq l k t r c v q x n w m u p d f b a i j) (fun s=>⟨[(8,.ptr 1002 0 0 1),(10,.ptr 2007 0 0 1),(11,.ptr 3003 0 0 1),(81,sl eI t),(82,I r),(83,I s.2)],[(0,⟨4,true,[[sl aG c,I v,S q,I x]]⟩),(1000,⟨1,true,[[.ptr 0 0 0 1]]⟩),(1001,⟨3,true,[[I n,I w,I m]]⟩),(1002,⟨6,true,[[.lit (.slice none 0 0),.lit (.slice none 0 0),I u,I p,I d,.lit (.slice none 0 0)]]⟩),(2006,⟨2,false,rws io l⟩),(2007,⟨1,true,[[.sl 2006 0 l.length]]⟩),(3003,⟨6,true,[[sl (eL aG) f,.sl 4006 0 k.length,I b,I a,I i,.sl 12900 0 s.1.length]]⟩),(3004,⟨1,true,[[I j]]⟩),(4004,kj),(4006,⟨1,false,rws eS k⟩),(6003,kj),(12900,⟨2,false,rws db s.1⟩)]⟩) 0 (fun e=>(e.1,e.2.1)) (fun e=>[(84,B e.2.2)]):=by
 refine lrX (fun s o h=> ?_)
 obtain ⟨_,_⟩:=s
 simp only [iq] at h
 simp only [Aw,A6]
 have d1:= @M5
 exact go2
def te (a p:List Ext) (h:Setting) (m:Source):Option (bJ×Bool×Source):=
 (A0 a).bind fun r=>
 (zX r h.Rate).bind fun o=>
 (AQ o).bind fun j=>
 (mg p).bind fun n=>
 (dT 1 ([a,n]:List (List Ext)) m (p.length:Int) 0 0 0 ([j]:List cQ)).bind fun b=>
 (atL b.2.2.1 0).bind fun x=>
 (bM ([x]:List Ext) b.2.2.2.1).bind fun f=>
 (rj f h.Grind).bind fun d=>
 br (decide (d<0)) (
 some ((bJ.mk ([]:List (List Ext)) ([]:List (List UInt8)) (Ext.mk 0 0) 0 ([]:List cx)),false,f)) (
 (DP d).bind fun k=>
 (dI k f).bind fun i=>
 (gI h.Queries i).bind fun c=>
 br (decide (0<b.2.2.2.2.2.2.2.2.1.length)) (
 (b.2.2.2.2.2.2.2.2.1[0]?).bind fun q=>
 (Dk c.1 (wrap .i64 ((q.word.length:Int).tdiv 2))).bind fun e=>
 (Loop (iq b.2.2.2.2.2.2.2.2.1 b.2.2.2.2.2.2.2.2.2 e (e.length:Int) c.2.Script c.2.At c.2.State c.2.Count h.Rate h.Queries h.Grind 0 0 0 b.1 x.A x.B d b.2.2.2.2.1) (([]:List cx),0)).bind fun l=>
 some ((bJ.mk b.1 b.2.2.2.2.2.2.2.2.2 x d l.1),true,c.2)) none)
def Pb {a c b m r} (h:te a c b m=some r):Call tab ow 294 [.ptr 0 0 0 1,sl aG a,sl aG c,.agg [I b.Rate,I b.Queries,I b.Grind]] [⟨4,true,[[sl aG m.Script,I m.At,S m.State,I m.Count]]⟩]=some (.tup [.agg [sl (eL aG) r.1.Rounds,sl eS r.1.Roots,I r.1.Last.A,I r.1.Last.B,I r.1.Nonce,sl db r.1.Queries],B r.2.1],[⟨4,true,[[sl aG r.2.2.Script,I r.2.2.At,S r.2.2.State,I r.2.2.Count]]⟩]):=by
 rw [ak (af:=tP) rfl]
 unfold te at h
 simp only [tP,u2]
 have d1:= @O3
 have d2:= @Om
 have d3:= @JK
 have d4:= @uI
 have d5:= @uN
 have d6:= @dy
 have d7:= @ML
 have d8:= @Gg
 have d9:= @gu
 have d10:= @nF
 have d11:= @Tl
 have d12:= @KG
 exact go2
end
section
@[local go_sem] theorem a5b:mkR 6005 []=rws (eL aG) []:=rfl
@[local go_sem] theorem a5u:mkR 10007 []=rws (eL aG) []:=rfl
@[local go_sem] theorem a64:mkR 14007 []=rws aG []:=rfl
@[local go_sem] theorem a5L:mkR 16007 []=rws (eL aG) []:=rfl
@[local go_sem] theorem Lb:mkR 19003 []=rws aG []:=rfl
def rk (a:bD) (a2:Setting) (a3 q:List Int) (m:Source):Option (jy×Bool×Source):=
 (fh a).bind fun r_=>
 (rF q r_ (q.length:Int)).bind fun y=>
 (AU y).bind fun p=>
 (ul a a2 a3).bind fun r_3=>
 (dI r_3 m).bind fun r_4=>
 (A0 p).bind fun r_5=>
 (zX r_5 a2.Rate).bind fun r_6=>
 (AQ r_6).bind fun r_7=>
 (Av r_7.rows).bind fun o=>
 br (bj o.length 1) (
 (dI o r_4).bind fun r_9=>
 (gI a.Rows r_9).bind fun l=>
 (mg l.1).bind fun c=>
 (ez a).bind fun j=>
 (uy j.1 a.Rows q).bind fun w=>
 (AU w).bind fun d=>
 br (bj ((([c]:List (List Ext))++([d]:List (List Ext))).length) 24) (
 (uy j.2.1 a.Rows q).bind fun s=>
 (AU s).bind fun f=>
 br (bj (((([c]:List (List Ext))++([d]:List (List Ext)))++([f]:List (List Ext))).length) 24) (
 (uy j.2.2 a.Rows q).bind fun t=>
 (AU t).bind fun k=>
 br (bj ((((([c]:List (List Ext))++([d]:List (List Ext)))++([f]:List (List Ext)))++([k]:List (List Ext))).length) 24) (
 (dh 2 (((([c]:List (List Ext))++([d]:List (List Ext)))++([f]:List (List Ext)))++([k]:List (List Ext))) l.2).bind fun b=>
 (atL b.2.2.1 1).bind fun x=>
 (atL b.2.2.1 2).bind fun x2=>
 (atL b.2.2.1 3).bind fun x3=>
 (bM ([x,x2,x3]:List Ext) b.2.2.2).bind fun u=>
 (gI 3 u).bind fun i=>
 br (decide (3<=i.1.length)) (
 (YD i.1).bind fun x4=>
 (sj a b.2.1 (x4.1,x4.2.1,x4.2.2)).bind fun z=>
 (AU q).bind fun r=>
 (dh 1 ([z,r]:List (List Ext)) i.2).bind fun e=>
 (rF e.2.1 0 (wrap .i64 (a.Cols-1))).bind fun y2=>
 (mg y2).bind fun v=>
 (GF p v).bind fun n=>
 (bM ([n]:List Ext) e.2.2.2).bind fun r_27=>
 (te p y2 a2 r_27).bind fun h=>
 some ((jy.mk o b.1 x x2 x3 e.1 n h.1),h.2.1,h.2.2)) none) none) none) none) none
def MG {a b c d m r} (h:rk a b c d m=some r):Call tab ow 174 [.ptr 0 0 0 1,.agg [I a.Rows,I a.Cols,I a.Publics,sl aV a.A,sl aV a.B,sl aV a.C],.agg [I b.Rate,I b.Queries,I b.Grind],sl eI c,sl eI d] [⟨4,true,[[sl aG m.Script,I m.At,S m.State,I m.Count]]⟩]=some (.tup [.agg [S r.1.Root,sl (eL aG) r.1.Gates,I r.1.VA.A,I r.1.VA.B,I r.1.VB.A,I r.1.VB.B,I r.1.VC.A,I r.1.VC.B,sl (eL aG) r.1.Wires,I r.1.VW.A,I r.1.VW.B,sl (eL aG) r.1.Open.Rounds,sl eS r.1.Open.Roots,I r.1.Open.Last.A,I r.1.Open.Last.B,I r.1.Open.Nonce,sl db r.1.Open.Queries],B r.2.1],[⟨4,true,[[sl aG r.2.2.Script,I r.2.2.At,S r.2.2.State,I r.2.2.Count]]⟩]):=by
 rw [ak (af:=rM) rfl]
 unfold rk at h
 simp+decide only [rM,wO,go_sem,reduceIte,Nat.reduceAdd,Int.reduceAdd,Int.reduceMul,Int.reduceSub]
 obtain ⟨r_,h1,h⟩:=bd h
 refine dq (mb h1) ?_
 simp+decide only [go_sem,reduceIte,Nat.reduceAdd,Int.reduceAdd,Int.reduceMul,Int.reduceSub]
 obtain ⟨y,h1,h⟩:=bd h
 refine bind_some h1 ?_
 obtain ⟨r_2,h1,h⟩:=bd h
 refine dq (CK h1) ?_
 simp+decide only [go_sem,reduceIte,Nat.reduceAdd,Int.reduceAdd,Int.reduceMul,Int.reduceSub]
 obtain ⟨r_3,h1,h⟩:=bd h
 refine dq (Jd h1) ?_
 simp+decide only [go_sem,reduceIte,Nat.reduceAdd,Int.reduceAdd,Int.reduceMul,Int.reduceSub]
 obtain ⟨r_4,h1,h⟩:=bd h
 refine dq (gu h1) ?_
 simp+decide only [go_sem,reduceIte,Nat.reduceAdd,Int.reduceAdd,Int.reduceMul,Int.reduceSub]
 obtain ⟨r_5,h1,h⟩:=bd h
 refine ld (O3 h1) ?_
 simp+decide only [go_sem,reduceIte,Nat.reduceAdd,Int.reduceAdd,Int.reduceMul,Int.reduceSub]
 obtain ⟨r_6,h1,h⟩:=bd h
 refine ld (Om h1) ?_
 simp+decide only [go_sem,reduceIte,Nat.reduceAdd,Int.reduceAdd,Int.reduceMul,Int.reduceSub]
 obtain ⟨r_7,h1,h⟩:=bd h
 refine ld (JK h1) ?_
 simp+decide only [go_sem,reduceIte,Nat.reduceAdd,Int.reduceAdd,Int.reduceMul,Int.reduceSub]
 obtain ⟨r_8,h1,h⟩:=bd h
 refine ld (Se h1) ?_
 simp+decide only [go_sem,reduceIte,Nat.reduceAdd,Int.reduceAdd,Int.reduceMul,Int.reduceSub]
 obtain ⟨hb,h⟩:=brg h
 refine Db hb ?_
 obtain ⟨r_9,h1,h⟩:=bd h
 refine dq (gu h1) ?_
 simp+decide only [go_sem,reduceIte,Nat.reduceAdd,Int.reduceAdd,Int.reduceMul,Int.reduceSub]
 obtain ⟨r_10,h1,h⟩:=bd h
 refine dq (nF h1) ?_
 simp+decide only [go_sem,reduceIte,Nat.reduceAdd,Int.reduceAdd,Int.reduceMul,Int.reduceSub]
 obtain ⟨r_11,h1,h⟩:=bd h
 refine dq (uI h1) ?_
 simp+decide only [go_sem,reduceIte,Nat.reduceAdd,Int.reduceAdd,Int.reduceMul,Int.reduceSub]
 obtain ⟨r_12,h1,h⟩:=bd h
 refine dq (n8 h1) ?_
 simp+decide only [go_sem,reduceIte,Nat.reduceAdd,Int.reduceAdd,Int.reduceMul,Int.reduceSub]
 refine g8 ?_
 simp+decide only [mkL,go_sem,reduceIte,Nat.reduceAdd,Int.reduceAdd,Int.reduceMul,Int.reduceSub]
 obtain ⟨r_13,h1,h⟩:=bd h
 refine dq (FG h1) ?_
 simp+decide only [go_sem,reduceIte,Nat.reduceAdd,Int.reduceAdd,Int.reduceMul,Int.reduceSub]
 obtain ⟨r_14,h1,h⟩:=bd h
 refine dq (CK h1) ?_
 simp+decide only [go_sem,reduceIte,Nat.reduceAdd,Int.reduceAdd,Int.reduceMul,Int.reduceSub]
 obtain ⟨hb,h⟩:=brg h
 refine Db hb ?_
 refine g8 ?_
 simp+decide only [mkL,go_sem,reduceIte,Nat.reduceAdd,Int.reduceAdd,Int.reduceMul,Int.reduceSub]
 obtain ⟨r_15,h1,h⟩:=bd h
 refine dq (FG h1) ?_
 simp+decide only [go_sem,reduceIte,Nat.reduceAdd,Int.reduceAdd,Int.reduceMul,Int.reduceSub]
 obtain ⟨r_16,h1,h⟩:=bd h
 refine dq (CK h1) ?_
 simp+decide only [go_sem,reduceIte,Nat.reduceAdd,Int.reduceAdd,Int.reduceMul,Int.reduceSub]
 obtain ⟨hb,h⟩:=brg h
 refine Db hb ?_
 refine g8 ?_
 simp+decide only [mkL,go_sem,reduceIte,Nat.reduceAdd,Int.reduceAdd,Int.reduceMul,Int.reduceSub]
 obtain ⟨r_17,h1,h⟩:=bd h
 refine dq (FG h1) ?_
 simp+decide only [go_sem,reduceIte,Nat.reduceAdd,Int.reduceAdd,Int.reduceMul,Int.reduceSub]
 obtain ⟨r_18,h1,h⟩:=bd h
 refine dq (CK h1) ?_
 simp+decide only [go_sem,reduceIte,Nat.reduceAdd,Int.reduceAdd,Int.reduceMul,Int.reduceSub]
 obtain ⟨hb,h⟩:=brg h
 refine Db hb ?_
 refine g8 ?_
 simp+decide only [mkL,go_sem,reduceIte,Nat.reduceAdd,Int.reduceAdd,Int.reduceMul,Int.reduceSub]
 obtain ⟨r_19,h1,h⟩:=bd h
 refine dq (qh h1) ?_
 simp+decide only [go_sem,reduceIte,Nat.reduceAdd,Int.reduceAdd,Int.reduceMul,Int.reduceSub]
 obtain ⟨x,h1,h⟩:=bd h
 refine bind_some h1 ?_
 obtain ⟨x2,h1,h⟩:=bd h
 refine bind_some h1 ?_
 obtain ⟨x3,h1,h⟩:=bd h
 refine bind_some h1 ?_
 obtain ⟨r_20,h1,h⟩:=bd h
 refine dq (dy h1) ?_
 simp+decide only [go_sem,reduceIte,Nat.reduceAdd,Int.reduceAdd,Int.reduceMul,Int.reduceSub]
 obtain ⟨r_21,h1,h⟩:=bd h
 refine dq (nF h1) ?_
 simp+decide only [go_sem,reduceIte,Nat.reduceAdd,Int.reduceAdd,Int.reduceMul,Int.reduceSub]
 obtain ⟨hb,h⟩:=brg h
 refine Db hb ?_
 obtain ⟨x4,h1,h⟩:=bd h
 refine bind_some h1 ?_
 obtain ⟨r_22,h1,h⟩:=bd h
 refine dq (GY h1) ?_
 simp+decide only [go_sem,reduceIte,Nat.reduceAdd,Int.reduceAdd,Int.reduceMul,Int.reduceSub]
 obtain ⟨r_23,h1,h⟩:=bd h
 refine dq (CK h1) ?_
 simp+decide only [go_sem,reduceIte,Nat.reduceAdd,Int.reduceAdd,Int.reduceMul,Int.reduceSub]
 obtain ⟨r_24,h1,h⟩:=bd h
 refine dq (qh h1) ?_
 simp+decide only [go_sem,reduceIte,Nat.reduceAdd,Int.reduceAdd,Int.reduceMul,Int.reduceSub]
 obtain ⟨y2,h1,h⟩:=bd h
 refine bind_some h1 ?_
 obtain ⟨r_25,h1,h⟩:=bd h
 refine dq (uI h1) ?_
 simp+decide only [go_sem,reduceIte,Nat.reduceAdd,Int.reduceAdd,Int.reduceMul,Int.reduceSub]
 obtain ⟨r_26,h1,h⟩:=bd h
 refine dq (VR h1) ?_
 simp+decide only [go_sem,reduceIte,Nat.reduceAdd,Int.reduceAdd,Int.reduceMul,Int.reduceSub]
 obtain ⟨r_27,h1,h⟩:=bd h
 refine dq (dy h1) ?_
 simp+decide only [go_sem,reduceIte,Nat.reduceAdd,Int.reduceAdd,Int.reduceMul,Int.reduceSub]
 obtain ⟨r_28,h1,h⟩:=bd h
 refine dq (Pb h1) ?_
 simp+decide only [go_sem,reduceIte,Nat.reduceAdd,Int.reduceAdd,Int.reduceMul,Int.reduceSub]
 obtain rfl:=cS h
 first|rfl| (simp only [aO,go_sem];done)
end
def G4 (s:bD) (t:Setting) (a z:List Int) (b:Source):Option (jy×Int):=
 (mh b).bind fun d=>
 (rk s t a z d).bind fun c=>
 br (!c.2.1) (
 some ((jy.mk (([]:List UInt8)) ([]:List (List Ext)) (Ext.mk 0 0) (Ext.mk 0 0) (Ext.mk 0 0) ([]:List (List Ext)) (Ext.mk 0 0) (bJ.mk ([]:List (List Ext)) ([]:List (List UInt8)) (Ext.mk 0 0) 0 ([]:List cx))),14)) (
 some (c.1,0))
def a38 {s t b z a r} (h:G4 s t b z a=some r):Call tab ow 82 [.agg [I s.Rows,I s.Cols,I s.Publics,sl aV s.A,sl aV s.B,sl aV s.C],.agg [I t.Rate,I t.Queries,I t.Grind],sl eI b,sl eI z,.agg [sl aG a.Script,I a.At,S a.State,I a.Count]] []=some (.tup [.agg [S r.1.Root,sl (eL aG) r.1.Gates,I r.1.VA.A,I r.1.VA.B,I r.1.VB.A,I r.1.VB.B,I r.1.VC.A,I r.1.VC.B,sl (eL aG) r.1.Wires,I r.1.VW.A,I r.1.VW.B,sl (eL aG) r.1.Open.Rounds,sl eS r.1.Open.Roots,I r.1.Open.Last.A,I r.1.Open.Last.B,I r.1.Open.Nonce,sl db r.1.Open.Queries],I r.2],[]):=by
 rw [ak (af:=Es) rfl]
 unfold G4 at h
 simp only [Es,Rp]
 have d1:= @BZ
 have d2:= @MG
 exact go2
def eU (c:Circuit) (t:Setting) (a d:List Int) (b:Source):Option (jy×Int):=
 (zY c a d).bind fun n=>
 br (n !=0) (
 some ((jy.mk (([]:List UInt8)) ([]:List (List Ext)) (Ext.mk 0 0) (Ext.mk 0 0) (Ext.mk 0 0) ([]:List (List Ext)) (Ext.mk 0 0) (bJ.mk ([]:List (List Ext)) ([]:List (List UInt8)) (Ext.mk 0 0) 0 ([]:List cx))),n)) (
 (kH t).bind fun m=>
 br (!m) (
 some ((jy.mk (([]:List UInt8)) ([]:List (List Ext)) (Ext.mk 0 0) (Ext.mk 0 0) (Ext.mk 0 0) ([]:List (List Ext)) (Ext.mk 0 0) (bJ.mk ([]:List (List Ext)) ([]:List (List UInt8)) (Ext.mk 0 0) 0 ([]:List cx))),1)) (
 (ui b).bind fun k=>
 br (!k) (
 some ((jy.mk (([]:List UInt8)) ([]:List (List Ext)) (Ext.mk 0 0) (Ext.mk 0 0) (Ext.mk 0 0) ([]:List (List Ext)) (Ext.mk 0 0) (bJ.mk ([]:List (List Ext)) ([]:List (List UInt8)) (Ext.mk 0 0) 0 ([]:List cx))),1)) (
 (mW b).bind fun j=>
 br (decide (j<200)) (
 some ((jy.mk (([]:List UInt8)) ([]:List (List Ext)) (Ext.mk 0 0) (Ext.mk 0 0) (Ext.mk 0 0) ([]:List (List Ext)) (Ext.mk 0 0) (bJ.mk ([]:List (List Ext)) ([]:List (List UInt8)) (Ext.mk 0 0) 0 ([]:List cx))),6)) (
 (pp c a d).bind fun e=>
 br (!e.2) (
 some ((jy.mk (([]:List UInt8)) ([]:List (List Ext)) (Ext.mk 0 0) (Ext.mk 0 0) (Ext.mk 0 0) ([]:List (List Ext)) (Ext.mk 0 0) (bJ.mk ([]:List (List Ext)) ([]:List (List UInt8)) (Ext.mk 0 0) 0 ([]:List cx))),15)) (
 (kQ c).bind fun h=>
 (o0 c e.1).bind fun l=>
 (jP h a l).bind fun i=>
 (G4 h t a i b).bind fun f=>
 some (f.1,f.2))))))
def N7 {c t b d a r} (h:eU c t b d a=some r):Call tab ow 16 [.agg [sl er c.Gates],.agg [I t.Rate,I t.Queries,I t.Grind],sl eI b,sl eI d,.agg [sl aG a.Script,I a.At,S a.State,I a.Count]] []=some (.tup [.agg [S r.1.Root,sl (eL aG) r.1.Gates,I r.1.VA.A,I r.1.VA.B,I r.1.VB.A,I r.1.VB.B,I r.1.VC.A,I r.1.VC.B,sl (eL aG) r.1.Wires,I r.1.VW.A,I r.1.VW.B,sl (eL aG) r.1.Open.Rounds,sl eS r.1.Open.Roots,I r.1.Open.Last.A,I r.1.Open.Last.B,I r.1.Open.Nonce,sl db r.1.Open.Queries],I r.2],[]):=by
 rw [ak (af:=rJ) rfl]
 unfold eU at h
 simp only [rJ,D0]
 have d1:= @Of
 have d2:= @py
 have d3:= @Ms
 have d4:= @F3
 have d5:= @Fc
 have d6:= @As
 have d7:= @K5
 have d8:= @Bi
 have d9:= @a38
 exact go2
def wF (c:Circuit):Option (bD×Int):=
 (uw c).bind fun b=>
 br (!b) (
 some ((bD.mk 0 0 0 ([]:List aN) ([]:List aN) ([]:List aN)),19)) (
 (kQ c).bind fun a=>
 some (a,0))
def WO {c r} (h:wF c=some r):Call tab ow 17 [.agg [sl er c.Gates]] []=some (.tup [.agg [I r.1.Rows,I r.1.Cols,I r.1.Publics,sl aV r.1.A,sl aV r.1.B,sl aV r.1.C],I r.2],[]):=by
 rw [ak (af:=zw) rfl]
 unfold wF at h
 simp only [zw,Lu]
 have d1:= @IM
 have d2:= @As
 exact go2
def gJ (x:Int):Option Bool:=
 some (x !=x)
def yy {x r} (h:gJ x=some r):Call tab ow 387 [I x] []=some (B r,[]):=by
 rw [ak (af:=gS) rfl]
 unfold gJ at h
 simp only [gS,pc]
 exact go2
def dJ (x y:Int):Option Int:=
 (gJ x).bind fun b=>
 (gJ y).bind fun a=>
 br b (
 br a (
 some 0) (
 some (-1:Int))) (
 br a (
 some 1) (
 br (decide (x<y)) (
 some (-1:Int)) (
 br (decide (x>y)) (
 some 1) (
 some 0))))
def vv {x y r} (h:dJ x y=some r):Call tab ow 350 [I x,I y] []=some (I r,[]):=by
 rw [ak (af:=ft) rfl]
 unfold dJ at h
 simp only [ft,mj]
 have d1:= @yy
 exact go2
def bX (zero:Int) (t:List Int) (b:Int):Int->Option ((Int)⊕(Int⊕(Int×Bool)))
 |a=>
  br (decide (a<b)) (
  (atL t a).bind fun x=>
  br (x !=zero) (
  some (.inr (.inl x))) (
  some (.inl (wrap .i64 (a+1))))) (
  some (.inr (.inr (a,decide (a<b)))))
def A8 {zero t a}:LX tab ow (.close []) qA (bX zero t a) (fun s=>⟨[(3,I zero),(6,sl eI t),(7,I a),(8,I s)],[]⟩) (alt (fun e=>((.ret,⟨[(2,I e)],[]⟩):dd×St)) (fun e=>(.exit 0,⟨[(3,I zero),(6,sl eI t),(7,I a),(8,I e.1),(9,B e.2)],[]⟩))):=by
 refine lrX (fun s o h=> ?_)
 simp only [bX] at h
 simp only [qA,rm]
 exact go2
def li (a:List Int):Option Int:=
 (Loop (bX 0 a (a.length:Int)) 0).bind (alt (fun b=>
 some b) (fun c=>
 some 0))
def Ep {a r} (h:li a=some r):Call tab ow 349 [sl eI a] []=some (I r,[]):=by
 rw [ak (af:=ko) rfl]
 unfold li at h
 simp only [ko,oe]
 have d1:= @A8
 exact go2
section
@[local go_sem] theorem Df:mkR 2010 []=rws eI []:=rfl
def ik (c f:aN):Option Int:=
 (dJ c.Row f.Row).bind fun d=>
 (dJ c.Col f.Col).bind fun b=>
 (li ([d,b]:List Int)).bind fun a=>
 some a
def yx {a f r} (h:ik a f=some r):Call tab ow 288 [.agg [I a.Row,I a.Col,I a.Value],.agg [I f.Row,I f.Col,I f.Value]] []=some (I r,[]):=by
 rw [ak (af:=gX) rfl]
 unfold ik at h
 simp only [gX,oY]
 have d1:= @vv
 have d2:= @Ep
 exact go2
end
def qQ (b:List aN) (c d:Int) (t:List aN) (i:Int):Int->Option ((Int)⊕((Int×Int×Int)⊕(Int×Bool)))
 |a=>
  br (decide (a<i)) (
  (atL t a).bind fun x=>
  (jQ x.Row 0 (wrap .i64 (c-1))).bind fun k=>
  br (!k) (
  some (.inr (.inl (x.Row,x.Col,x.Value)))) (
  (jQ x.Col 0 (wrap .i64 (d-1))).bind fun h=>
  br (!h) (
  some (.inr (.inl (x.Row,x.Col,x.Value)))) (
  (jQ x.Value 1 2130706432).bind fun f=>
  br (!f) (
  some (.inr (.inl (x.Row,x.Col,x.Value)))) (
  br (decide (a>0)) (
  (atL b (wrap .i64 (a-1))).bind fun j=>
  (ik j x).bind fun e=>
  br (decide (e>=0)) (
  some (.inr (.inl (x.Row,x.Col,x.Value)))) (
  some (.inl (wrap .i64 (a+1))))) (
  some (.inl (wrap .i64 (a+1)))))))) (
  some (.inr (.inr (a,decide (a<i)))))
def T2 {b c a t d}:LX tab ow (.close [4003,5004,5011,5017,5030]) Ge (qQ b c a t d) (fun s=>⟨[(0,sl aV b),(1,I c),(2,I a),(9,sl aV t),(10,I d),(11,I s)],[]⟩) (alt (fun e=>((.ret,⟨[(6,B false)],[(4003,⟨3,true,[[I e.1,I e.2.1,I e.2.2]]⟩)]⟩):dd×St)) (fun e=>(.exit 0,⟨[(0,sl aV b),(1,I c),(2,I a),(9,sl aV t),(10,I d),(11,I e.1),(12,B e.2)],[]⟩))):=by
 refine lrX (fun s o h=> ?_)
 simp only [qQ] at h
 simp only [Ge,Gh]
 have d1:= @wy
 have d2:= @yx
 exact go2
def ud (a:List aN) (c b:Int):Option Bool:=
 (Loop (qQ a c b a (a.length:Int)) 0).bind (alt (fun e=>
 some false) (fun d=>
 some (decide ((a.length:Int)<=200))))
def EE {a b c r} (h:ud a b c=some r):Call tab ow 178 [sl aV a,I b,I c] []=some (B r,[]):=by
 rw [ak (af:=zB) rfl]
 unfold ud at h
 simp only [zB,EG]
 have d1:= @T2
 exact go2
def uj (s:bD):Option Bool:=
 (jQ s.Rows 1 5).bind fun i=>
 br (!i) (
 some false) (
 (jQ s.Cols 2 5).bind fun h=>
 br (!h) (
 some false) (
 (fh s).bind fun e=>
 (jQ s.Publics 0 (wrap .i64 (e-1))).bind fun d=>
 br (!d) (
 some false) (
 (ez s).bind fun a=>
 br (decide (0<=s.Rows)) (
 br (decide (0<=s.Cols)) (
 (ud a.1 (ct .i64 1 s.Rows) (ct .i64 1 s.Cols)).bind fun b=>
 br (!b) (
 some false) (
 br (decide (0<=s.Rows)) (
 br (decide (0<=s.Cols)) (
 (ud a.2.1 (ct .i64 1 s.Rows) (ct .i64 1 s.Cols)).bind fun f=>
 br (!f) (
 some false) (
 br (decide (0<=s.Rows)) (
 br (decide (0<=s.Cols)) (
 (ud a.2.2 (ct .i64 1 s.Rows) (ct .i64 1 s.Cols)).bind fun c=>
 br (!c) (
 some false) (
 some true)) none) none)) none) none)) none) none)))
def EA {s r} (h:uj s=some r):Call tab ow 86 [.agg [I s.Rows,I s.Cols,I s.Publics,sl aV s.A,sl aV s.B,sl aV s.C]] []=some (B r,[]):=by
 rw [ak (af:=zm) rfl]
 unfold uj at h
 simp+decide only [zm,Ec,go_sem,reduceIte,Nat.reduceAdd,Int.reduceAdd,Int.reduceMul,Int.reduceSub]
 obtain ⟨r_,h1,h⟩:=bd h
 refine ld (wy h1) ?_
 simp+decide only [go_sem,reduceIte,Nat.reduceAdd,Int.reduceAdd,Int.reduceMul,Int.reduceSub]
 rcases brc h with ⟨hb,h⟩|⟨hb,h⟩
 ·refine Db hb ?_
  obtain rfl:=cS h
  first|rfl| (simp only [aO,go_sem];done)
 ·refine a9c hb ?_
  obtain ⟨r_2,h1,h⟩:=bd h
  refine ld (wy h1) ?_
  simp+decide only [go_sem,reduceIte,Nat.reduceAdd,Int.reduceAdd,Int.reduceMul,Int.reduceSub]
  rcases brc h with ⟨hb,h⟩|⟨hb,h⟩
  ·refine Db hb ?_
   obtain rfl:=cS h
   first|rfl| (simp only [aO,go_sem];done)
  ·refine a9c hb ?_
   obtain ⟨r_3,h1,h⟩:=bd h
   refine ld (mb h1) ?_
   simp+decide only [go_sem,reduceIte,Nat.reduceAdd,Int.reduceAdd,Int.reduceMul,Int.reduceSub]
   obtain ⟨r_4,h1,h⟩:=bd h
   refine ld (wy h1) ?_
   simp+decide only [go_sem,reduceIte,Nat.reduceAdd,Int.reduceAdd,Int.reduceMul,Int.reduceSub]
   rcases brc h with ⟨hb,h⟩|⟨hb,h⟩
   ·refine Db hb ?_
    obtain rfl:=cS h
    first|rfl| (simp only [aO,go_sem];done)
   ·refine a9c hb ?_
    obtain ⟨r_5,h1,h⟩:=bd h
    refine dq (n8 h1) ?_
    simp+decide only [go_sem,reduceIte,Nat.reduceAdd,Int.reduceAdd,Int.reduceMul,Int.reduceSub]
    refine g8 ?_
    simp+decide only [mkL,go_sem,reduceIte,Nat.reduceAdd,Int.reduceAdd,Int.reduceMul,Int.reduceSub]
    obtain ⟨hb,h⟩:=brg h
    refine Db hb ?_
    obtain ⟨hb,h⟩:=brg h
    refine Db hb ?_
    obtain ⟨r_6,h1,h⟩:=bd h
    refine ld (EE h1) ?_
    simp+decide only [go_sem,reduceIte,Nat.reduceAdd,Int.reduceAdd,Int.reduceMul,Int.reduceSub]
    rcases brc h with ⟨hb,h⟩|⟨hb,h⟩
    ·refine Db hb ?_
     obtain rfl:=cS h
     first|rfl| (simp only [aO,go_sem];done)
    ·refine a9c hb ?_
     refine g8 ?_
     simp+decide only [mkL,go_sem,reduceIte,Nat.reduceAdd,Int.reduceAdd,Int.reduceMul,Int.reduceSub]
     obtain ⟨hb,h⟩:=brg h
     refine Db hb ?_
     obtain ⟨hb,h⟩:=brg h
     refine Db hb ?_
     obtain ⟨r_7,h1,h⟩:=bd h
     refine ld (EE h1) ?_
     simp+decide only [go_sem,reduceIte,Nat.reduceAdd,Int.reduceAdd,Int.reduceMul,Int.reduceSub]
     rcases brc h with ⟨hb,h⟩|⟨hb,h⟩
     ·refine Db hb ?_
      obtain rfl:=cS h
      first|rfl| (simp only [aO,go_sem];done)
     ·refine a9c hb ?_
      refine g8 ?_
      simp+decide only [mkL,go_sem,reduceIte,Nat.reduceAdd,Int.reduceAdd,Int.reduceMul,Int.reduceSub]
      obtain ⟨hb,h⟩:=brg h
      refine Db hb ?_
      obtain ⟨hb,h⟩:=brg h
      refine Db hb ?_
      obtain ⟨r_8,h1,h⟩:=bd h
      refine ld (EE h1) ?_
      simp+decide only [go_sem,reduceIte,Nat.reduceAdd,Int.reduceAdd,Int.reduceMul,Int.reduceSub]
      rcases brc h with ⟨hb,h⟩|⟨hb,h⟩
      ·refine Db hb ?_
       obtain rfl:=cS h
       first|rfl| (simp only [aO,go_sem];done)
      ·refine a9c hb ?_
       refine g8 ?_
       simp+decide only [mkL,go_sem,reduceIte,Nat.reduceAdd,Int.reduceAdd,Int.reduceMul,Int.reduceSub]
       obtain rfl:=cS h
       first|rfl| (simp only [aO,go_sem];done)
def ti (a:List Ext) (m:Int):Option (Bool×Int):=
 br ((a.length:Int) !=m) (
 some (true,m)) (
 (fq a).bind fun b=>
 some ((!b),m))
def Ph {a m r} (h:ti a m=some r):Call tab ow 237 [sl aG a,.ptr 0 0 0 1] [⟨1,true,[[I m]]⟩]=some (B r.1,[⟨1,true,[[I r.2]]⟩]):=by
 rw [ak (af:=tS) rfl]
 unfold ti at h
 simp only [tS,Fw]
 have d1:= @jZ
 exact go2
def cN (d:List (List Ext)) (t:Int):Int×Int->Option ((Int×Int)⊕((Int×Int)⊕(Int×Bool×Int)))
 | (a,c)=>
   br (decide (a<t)) (
   (atL d a).bind fun x=>
   (ti x c).bind fun b=>
   br b.1 (
   some (.inr (.inl (a,b.2)))) (
   some (.inl ((wrap .i64 (a+1)),b.2)))) (
   some (.inr (.inr (a,decide (a<t),c))))
def mo {a t}:LX tab ow (.close [5005]) kG (cN a t) (fun s=>⟨[(0,sl (eL aG) a),(1,.fn 237 [.ptr 0 0 0 1]),(7,I t),(8,I s.1)],[(0,⟨1,true,[[I s.2]]⟩)]⟩) (alt (fun e=>((.ret,⟨[(4,I e.1)],[(0,⟨1,true,[[I e.2]]⟩)]⟩):dd×St)) (fun e=>(.exit 0,⟨[(0,sl (eL aG) a),(1,.fn 237 [.ptr 0 0 0 1]),(7,I t),(8,I e.1),(9,B e.2.1)],[(0,⟨1,true,[[I e.2.2]]⟩)]⟩))):=by
 refine lrX (fun s o h=> ?_)
 obtain ⟨_,_⟩:=s
 simp only [cN] at h
 simp only [kG,kC]
 have d1:= @Ph
 exact go2
def dm (s:(List (List Ext))) (m:Int):Option (Int×Int):=
 (Loop (cN s (s.length:Int)) (0,m)).bind (alt (fun a=>
 some (a.1,a.2)) (fun b=>
 some ((-1:Int),b.2.2)))
def n7 {s m r} (h:dm s m=some r):Call tab ow 332 [sl (eL aG) s,.fn 237 [.ptr 0 0 0 1]] [⟨1,true,[[I m]]⟩]=some (I r.1,[⟨1,true,[[I r.2]]⟩]):=by
 rw [ak (af:=eX) rfl]
 unfold dm at h
 simp only [eX,ic]
 have d1:= @mo
 exact go2
def cU (s:(List (List Ext))) (m:Int):Option (Bool×Int):=
 (dm s m).bind fun a=>
 some (decide (a.1>=0),a.2)
def lY {s m r} (h:cU s m=some r):Call tab ow 236 [sl (eL aG) s,.fn 237 [.ptr 0 0 0 1]] [⟨1,true,[[I m]]⟩]=some (B r.1,[⟨1,true,[[I r.2]]⟩]):=by
 rw [ak (af:=dY) rfl]
 unfold cU at h
 simp only [dY,jX]
 have d1:= @n7
 exact go2
def rA (a:(List (List Ext))) (b c:Int):Option Bool:=
 br ((a.length:Int)==b) (
 (cU a c).bind fun d=>
 some (!d.1)) (
 some false)
def Js {a b c r} (h:rA a b c=some r):Call tab ow 117 [sl (eL aG) a,I b,I c] []=some (B r,[]):=by
 rw [ak (af:=xd) rfl]
 unfold rA at h
 simp only [xd,Jm]
 have d1:= @lY
 exact go2
def j3 (x:List UInt8):Option Bool:=
 (xI x).bind fun a=>
 some (!a)
def CI {x r} (h:j3 x=some r):Call tab ow 239 [S x,.ptr 0 0 0 1] [⟨1,true,[[.fn 119 []]]⟩]=some (B r,[⟨1,true,[[.fn 119 []]]⟩]):=by
 rw [ak (af:=so) rfl]
 unfold j3 at h
 simp only [so,CW]
 have d1:= @Ew
 exact go2
def cj (b:List (List UInt8)) (t:Int):Int->Option ((Int)⊕(Int⊕(Int×Bool)))
 |a=>
  br (decide (a<t)) (
  (atL b a).bind fun x=>
  (j3 x).bind fun c=>
  br c (
  some (.inr (.inl a))) (
  some (.inl (wrap .i64 (a+1))))) (
  some (.inr (.inr (a,decide (a<t)))))
def jw {a t}:LX tab ow (.close [5005]) eG (cj a t) (fun s=>⟨[(0,sl eS a),(1,.fn 239 [.ptr 0 0 0 1]),(7,I t),(8,I s)],[(0,⟨1,true,[[.fn 119 []]]⟩)]⟩) (alt (fun e=>((.ret,⟨[(4,I e)],[(0,⟨1,true,[[.fn 119 []]]⟩)]⟩):dd×St)) (fun e=>(.exit 0,⟨[(0,sl eS a),(1,.fn 239 [.ptr 0 0 0 1]),(7,I t),(8,I e.1),(9,B e.2)],[(0,⟨1,true,[[.fn 119 []]]⟩)]⟩))):=by
 refine lrX (fun s o h=> ?_)
 simp only [cj] at h
 simp only [eG,gH]
 have d1:= @CI
 exact go2
def cy (s:(List (List UInt8))):Option Int:=
 (Loop (cj s (s.length:Int)) 0).bind (alt (fun a=>
 some a) (fun b=>
 some (-1:Int)))
def jY {s r} (h:cy s=some r):Call tab ow 333 [sl eS s,.fn 239 [.ptr 0 0 0 1]] [⟨1,true,[[.fn 119 []]]⟩]=some (I r,[⟨1,true,[[.fn 119 []]]⟩]):=by
 rw [ak (af:=cY) rfl]
 unfold cy at h
 simp only [cY,eY]
 have d1:= @jw
 exact go2
def co (s:(List (List UInt8))):Option Bool:=
 (cy s).bind fun a=>
 some (decide (a>=0))
def ju {s r} (h:co s=some r):Call tab ow 238 [sl eS s,.fn 239 [.ptr 0 0 0 1]] [⟨1,true,[[.fn 119 []]]⟩]=some (B r,[⟨1,true,[[.fn 119 []]]⟩]):=by
 rw [ak (af:=cI) rfl]
 unfold co at h
 simp only [cI,gn]
 have d1:= @jY
 exact go2
def iG (a:(List (List UInt8))):Option Bool:=
 (co a).bind fun b=>
 some (!b)
def w5 {a r} (h:iG a=some r):Call tab ow 118 [.fn 119 [],sl eS a] []=some (B r,[]):=by
 rw [ak (af:=vh) rfl]
 unfold iG at h
 simp only [vh,GH]
 have d1:= @ju
 exact go2
def mV (a:Int) (h:List (List (List UInt8))) (e:Int) (c:List Ext) (j:List (List (List UInt8))) (f k i:Int):Int->Option ((Int)⊕(Unit⊕(Int×Bool)))
 |b=>
  br (decide (b<e)) (
  (atL h b).bind fun x=>
  br ((x.length:Int) !=(wrap .i64 ((wrap .i64 ((wrap .i64 (a+f))-1))-b))) (
  some (.inr (.inl ()))) (
  (iG x).bind fun d=>
  br (!d) (
  some (.inr (.inl ()))) (
  some (.inl (wrap .i64 (b+1)))))) (
  some (.inr (.inr (b,decide (b<e)))))
abbrev wW (c:List Ext) (a:List (List (List UInt8))) (e b d:Int):List (Nat×Blk):=[(1000,⟨2,true,[[sl aG c,sl (eL eS) a]]⟩),(1001,⟨3,true,[[I e,I b,I d]]⟩)]
def Ur {a k j c f d i b}:LX tab ow (.close [7012]) J8 (mV a k j c f d i b) (fun s=>⟨[(1,I a),(5,.ptr 1001 0 0 1),(29,sl (eL eS) k),(30,I j),(31,I s)],wW c f d i b⟩) (alt (fun e=>((.ret,⟨[(6,B false)],wW c f d i b⟩):dd×St)) (fun e=>(.exit 0,⟨[(1,I a),(5,.ptr 1001 0 0 1),(29,sl (eL eS) k),(30,I j),(31,I e.1),(32,B e.2)],wW c f d i b⟩))):=by
 refine lrX (fun s o h=> ?_)
 simp only [mV] at h
 simp only [wW,J8,Jq]
 have d1:= @w5
 exact go2
def zU (q:cx) (a:Int) (t:Setting):Option Bool:=
 br ((q.Pairs.length:Int) !=(wrap .i64 (2*a))) (
 some false) (
 (fq q.Pairs).bind fun c=>
 br (!c) (
 some false) (
 br ((q.Paths.length:Int) !=a) (
 some false) (
 (Loop (mV a q.Paths (q.Paths.length:Int) q.Pairs q.Paths t.Rate t.Queries t.Grind) 0).bind (alt (fun d=>
 some false) (fun b=>
 some true)))))
def ZU {q a t r} (h:zU q a t=some r):Call tab ow 122 [.agg [sl aG q.Pairs,sl (eL eS) q.Paths],I a,.agg [I t.Rate,I t.Queries,I t.Grind]] []=some (B r,[]):=by
 rw [ak (af:=BW) rfl]
 unfold zU at h
 simp only [BW,Gw]
 have d1:= @jZ
 have d2:= @Ur
 exact go2
def xg (q:cx) (m:Int) (a:Setting):Option (Bool×Int×Setting):=
 (zU q m a).bind fun b=>
 some (b,m,a)
def Pe {q m a r} (h:xg q m a=some r):Call tab ow 121 [.agg [sl aG q.Pairs,sl (eL eS) q.Paths],.ptr 0 0 0 1,.ptr 1 0 0 1] [⟨1,true,[[I m]]⟩,⟨3,true,[[I a.Rate,I a.Queries,I a.Grind]]⟩]=some (B r.1,[⟨1,true,[[I r.2.1]]⟩,⟨3,true,[[I r.2.2.Rate,I r.2.2.Queries,I r.2.2.Grind]]⟩]):=by
 rw [ak (af:=tF) rfl]
 unfold xg at h
 simp only [tF,EW]
 have d1:= @ZU
 exact go2
def dS (x:cx) (m:Int) (b:Setting):Option (Bool×Int×Setting):=
 (xg x m b).bind fun a=>
 some ((!a.1),a.2.1,a.2.2)
def xP {x m a r} (h:dS x m a=some r):Call tab ow 241 [.agg [sl aG x.Pairs,sl (eL eS) x.Paths],.ptr 0 0 0 1] [⟨1,true,[[.fn 121 [.ptr 1 0 0 1,.ptr 2 0 0 1]]]⟩,⟨1,true,[[I m]]⟩,⟨3,true,[[I a.Rate,I a.Queries,I a.Grind]]⟩]=some (B r.1,[⟨1,true,[[.fn 121 [.ptr 1 0 0 1,.ptr 2 0 0 1]]]⟩,⟨1,true,[[I r.2.1]]⟩,⟨3,true,[[I r.2.2.Rate,I r.2.2.Queries,I r.2.2.Grind]]⟩]):=by
 rw [ak (af:=qd) rfl]
 unfold dS at h
 simp only [qd,Bg]
 have d1:= @Pe
 exact go2
def bi (h:List cx) (t:Int):Int×Int×Int×Int×Int->Option ((Int×Int×Int×Int×Int)⊕((Int×Int×Int×Int×Int)⊕(Int×Bool×Int×Int×Int×Int)))
 | (b,c,e,d,f)=>
   br (decide (b<t)) (
   (atL h b).bind fun x=>
   (dS x c (Setting.mk e d f)).bind fun a=>
   br a.1 (
   some (.inr (.inl (b,a.2.1,a.2.2.Rate,a.2.2.Queries,a.2.2.Grind)))) (
   some (.inl ((wrap .i64 (b+1)),a.2.1,a.2.2.Rate,a.2.2.Queries,a.2.2.Grind)))) (
   some (.inr (.inr (b,decide (b<t),c,e,d,f))))
abbrev bR (c a d b:Int):List (Nat×Blk):=[(0,⟨1,true,[[.fn 121 [.ptr 1 0 0 1,.ptr 2 0 0 1]]]⟩),(1,⟨1,true,[[I c]]⟩),(2,⟨3,true,[[I a,I d,I b]]⟩)]
def ig {a t}:LX tab ow (.close [5005]) jx (bi a t) (fun s=>⟨[(0,sl db a),(1,.fn 241 [.ptr 0 0 0 1]),(7,I t),(8,I s.1)],bR s.2.1 s.2.2.1 s.2.2.2.1 s.2.2.2.2⟩) (alt (fun e=>((.ret,⟨[(4,I e.1)],bR e.2.1 e.2.2.1 e.2.2.2.1 e.2.2.2.2⟩):dd×St)) (fun e=>(.exit 0,⟨[(0,sl db a),(1,.fn 241 [.ptr 0 0 0 1]),(7,I t),(8,I e.1),(9,B e.2.1)],bR e.2.2.1 e.2.2.2.1 e.2.2.2.2.1 e.2.2.2.2.2⟩))):=by
 refine lrX (fun s o h=> ?_)
 obtain ⟨_,_,_,_,_⟩:=s
 simp only [bi] at h
 simp only [bR,jx,jF]
 have d1:= @xP
 exact go2
def ca (s:List cx) (m:Int) (c:Setting):Option (Int×Int×Setting):=
 (Loop (bi s (s.length:Int)) (0,m,c.Rate,c.Queries,c.Grind)).bind (alt (fun a=>
 some (a.1,a.2.1,(Setting.mk a.2.2.1 a.2.2.2.1 a.2.2.2.2))) (fun b=>
 some ((-1:Int),b.2.2.1,(Setting.mk b.2.2.2.1 b.2.2.2.2.1 b.2.2.2.2.2))))
def iS {s m a r} (h:ca s m a=some r):Call tab ow 334 [sl db s,.fn 241 [.ptr 0 0 0 1]] [⟨1,true,[[.fn 121 [.ptr 1 0 0 1,.ptr 2 0 0 1]]]⟩,⟨1,true,[[I m]]⟩,⟨3,true,[[I a.Rate,I a.Queries,I a.Grind]]⟩]=some (I r.1,[⟨1,true,[[.fn 121 [.ptr 1 0 0 1,.ptr 2 0 0 1]]]⟩,⟨1,true,[[I r.2.1]]⟩,⟨3,true,[[I r.2.2.Rate,I r.2.2.Queries,I r.2.2.Grind]]⟩]):=by
 rw [ak (af:=eD) rfl]
 unfold ca at h
 simp only [eD,gM]
 have d1:= @ig
 exact go2
def bU (s:List cx) (m:Int) (b:Setting):Option (Bool×Int×Setting):=
 (ca s m b).bind fun a=>
 some (decide (a.1>=0),a.2.1,a.2.2)
def ia {s m a r} (h:bU s m a=some r):Call tab ow 240 [sl db s,.fn 241 [.ptr 0 0 0 1]] [⟨1,true,[[.fn 121 [.ptr 1 0 0 1,.ptr 2 0 0 1]]]⟩,⟨1,true,[[I m]]⟩,⟨3,true,[[I a.Rate,I a.Queries,I a.Grind]]⟩]=some (B r.1,[⟨1,true,[[.fn 121 [.ptr 1 0 0 1,.ptr 2 0 0 1]]]⟩,⟨1,true,[[I r.2.1]]⟩,⟨3,true,[[I r.2.2.Rate,I r.2.2.Queries,I r.2.2.Grind]]⟩]):=by
 rw [ak (af:=dL) rfl]
 unfold bU at h
 simp only [dL,jt]
 have d1:= @iS
 exact go2
def iZ (a:List cx) (m:Int) (c:Setting):Option (Bool×Int×Setting):=
 (bU a m c).bind fun b=>
 some ((!b.1),b.2.1,b.2.2)
def zg {a m b r} (h:iZ a m b=some r):Call tab ow 120 [.fn 121 [.ptr 0 0 0 1,.ptr 1 0 0 1],sl db a] [⟨1,true,[[I m]]⟩,⟨3,true,[[I b.Rate,I b.Queries,I b.Grind]]⟩]=some (B r.1,[⟨1,true,[[I r.2.1]]⟩,⟨3,true,[[I r.2.2.Rate,I r.2.2.Queries,I r.2.2.Grind]]⟩]):=by
 rw [ak (af:=tG) rfl]
 unfold iZ at h
 simp only [tG,F9]
 have d1:= @ia
 exact go2
def ye (b:bJ) (a:Int) (t:Setting):Option Bool:=
 (jQ a 1 6).bind fun j=>
 br j (
 (kH t).bind fun i=>
 br i (
 (rA b.Rounds a 3).bind fun f=>
 br f (
 br ((b.Roots.length:Int)==(wrap .i64 (a-1))) (
 (iG b.Roots).bind fun e=>
 br e (
 (xe b.Last).bind fun c=>
 br c (
 (jQ b.Nonce 0 65535).bind fun d=>
 br d (
 br ((b.Queries.length:Int)==t.Queries) (
 (iZ b.Queries a t).bind fun h=>
 some h.1) (
 some false)) (
 some false)) (
 some false)) (
 some false)) (
 some false)) (
 some false)) (
 some false)) (
 some false)
def U5 {b a t r} (h:ye b a t=some r):Call tab ow 33 [.agg [sl (eL aG) b.Rounds,sl eS b.Roots,I b.Last.A,I b.Last.B,I b.Nonce,sl db b.Queries],I a,.agg [I t.Rate,I t.Queries,I t.Grind]] []=some (B r,[]):=by
 rw [ak (af:=xp) rfl]
 unfold ye at h
 simp only [xp,J4]
 have d1:= @wy
 have d2:= @py
 have d3:= @Js
 have d4:= @w5
 have d5:= @N0
 have d6:= @zg
 exact go2
end
end Go.AI.Fn
