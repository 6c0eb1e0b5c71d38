/- Walks through the program, with open values. -/
import Derived.Test.YtdnkignjanfikaaGreatFx1
set_option linter.unusedVariables false
set_option linter.unusedSimpArgs false
set_option maxRecDepth 100000
set_option maxHeartbeats 1000000
namespace Go.AI.Fn
noncomputable section
open IntKind (wrap)
section
theorem LV:mkR 8003 []=rws eExt []:=rfl
attribute [local go_sem] LV
theorem KE:mkR 12006 []=rws eS []:=rfl
attribute [local go_sem] KE
def fb (l:List (List UInt8)) (t:List Ext) (m:Int) (n:List Int) (k:Int) (c:List Ext) (w:Int) (c3:List UInt8) (c4 v u z s y:Int) (i:List (List Ext)) (j:List (List UInt8)) (f e h:Int) (d:List Query) (q r p:Int):Int->Option ((Int)⊕(Int⊕(Int×Bool)))
 |b=>
  br (decide (b<k)) (
  (atL n b).bind fun x=>
  (atL d b).bind fun o=>
  (xh l t m x (Opening.mk i j (Ext.mk f e) h d) o).bind fun a=>
  br (a !=0) (
  some (.inr (.inl a))) (
  some (.inl (wrap .i64 (b+1))))) (
  some (.inr (.inr (b,decide (b<k)))))
abbrev mN (l:List (List UInt8)) (c:List Ext) (o:Int) (q:List UInt8) (t n s r m p:Int) (b:List (List Ext)) (d:List (List UInt8)) (e a i:Int) (k:List Query) (h j f:Int):List (Nat×Blk):=[(0,⟨4,true,[[sl eExt c,I o,S q,I t]]⟩),(1000,⟨1,true,[[.ptr 0 0 0 1]]⟩),(1001,⟨2,true,[[I n,I s]]⟩),(1002,⟨3,true,[[I r,I m,I p]]⟩),(1003,⟨6,true,[[sl (eL eExt) b,sl eS d,I e,I a,I i,sl eQuery k]]⟩),(2002,⟨1,true,[[I h]]⟩),(3010,⟨2,true,[[I j,I f]]⟩),(8003,nG),(12006,⟨1,false,rws eS l⟩)]
theorem K6 {l t z t3 t4 c u y x r q w p v m n b a d f j k i}:LX tab ow (.close [16010]) wY (fb l t z t3 t4 c u y x r q w p v m n b a d f j k i) (fun s=>⟨[(11,.ptr 1003 0 0 1),(14,sl eExt t),(17,I z),(18,.sl 12006 0 l.length),(82,sl eI t3),(83,I t4),(84,I s)],mN l c u y x r q w p v m n b a d f j k i⟩) (alt (fun e=>((.ret,⟨[(12,I e)],mN l c u y x r q w p v m n b a d f j k i⟩):bT×St)) (fun e=>(.exit 1,⟨[(11,.ptr 1003 0 0 1),(14,sl eExt t),(17,I z),(18,.sl 12006 0 l.length),(82,sl eI t3),(83,I t4),(84,I e.1),(85,B e.2)],mN l c u y x r q w p v m n b a d f j k i⟩))):=by
 refine lrX (fun s o h=> ?_)
 simp only [fb] at h
 simp only [mN,wY,xc]
 have d1:= @QT
 exact go2
def oo (a:(List UInt8)) (q:(List Ext)) (n:Ext) (d:Setting) (p:Opening) (m:Source):Option (Int×Source):=
 (dY 1 n p.Rounds m ((q.length:Nat):Int) p).bind fun b=>
 br (b.2.2.1 !=0) (
 some (b.2.2.1,b.2.2.2.1)) (
 (Kr b.1 q).bind fun l=>
 (dd b.2.2.2.2.2.Last l).bind fun h=>
 br (h.A==b.2.1.A) (
 br (h.B==b.2.1.B) (
 (cY ([b.2.2.2.2.2.Last]:List Ext) b.2.2.2.1).bind fun e=>
 (pU e d.Grind b.2.2.2.2.2.Nonce).bind fun i=>
 br (!i) (
 some (14,e)) (
 (G2 b.2.2.2.2.2.Nonce).bind fun k=>
 (fQ k e).bind fun j=>
 br (decide (0<=(wrap .i64 (b.2.2.2.2.1+d.Rate)))) (
 br (cP ((([a]:List (List UInt8))++b.2.2.2.2.2.Roots).length) 16) (
 (jL d.Queries j).bind fun c=>
 (Gh c.1 (wrap .i64 ((bG .i64 1 (wrap .i64 (b.2.2.2.2.1+d.Rate))).tdiv 2))).bind fun f=>
 (Loop (fb (([a]:List (List UInt8))++b.2.2.2.2.2.Roots) b.1 (bG .i64 1 (wrap .i64 (b.2.2.2.2.1+d.Rate))) f ((f.length:Nat):Int) c.2.Script c.2.At c.2.State c.2.Count n.A n.B d.Rate d.Queries d.Grind b.2.2.2.2.2.Rounds b.2.2.2.2.2.Roots b.2.2.2.2.2.Last.A b.2.2.2.2.2.Last.B b.2.2.2.2.2.Nonce b.2.2.2.2.2.Queries b.2.2.2.2.1 b.2.1.A b.2.1.B) 0).bind (alt (fun o=>
 some (o,c.2)) (fun r=>
 some (0,c.2)))) none) none)) (
 some (11,b.2.2.2.1))) (
 some (11,b.2.2.2.1)))
theorem Nw {a e d c b m r} (h:oo a e d c b m=some r):Call tab ow 113 [.ptr 0 0 0 1,S a,sl eExt e,.agg [I d.A,I d.B],.agg [I c.Rate,I c.Queries,I c.Grind],.agg [sl (eL eExt) b.Rounds,sl eS b.Roots,I b.Last.A,I b.Last.B,I b.Nonce,sl eQuery b.Queries]] [⟨4,true,[[sl eExt m.Script,I m.At,S m.State,I m.Count]]⟩]=some (I r.1,[⟨4,true,[[sl eExt r.2.Script,I r.2.At,S r.2.State,I r.2.Count]]⟩]):=by
 rw [aj (af:=pk) rfl]
 unfold oo at h
 simp only [pk,tT]
 have d1:= @pW
 have d2:= @a2z
 have d3:= @fc
 have d4:= @jS
 have d5:= @P2
 have d6:= @L1
 have d7:= @nO
 have d8:= @BY
 have d9:= @a6s
 have d10:= @K6
 exact go2
end
section
theorem K7:mkR 8009 []=rws eExt []:=rfl
attribute [local go_sem] K7
theorem Ka:mkR 10007 []=rws eExt []:=rfl
attribute [local go_sem] Ka
theorem Kn:mkR 12008 []=rws eExt []:=rfl
attribute [local go_sem] Kn
theorem Kg:mkR 19003 []=rws eExt []:=rfl
attribute [local go_sem] Kg
def ki (a:bk) (a2:Setting) (z:(List Int)) (d:Proof) (m:Source):Option (Int×Source):=
 (vP a a2 z).bind fun r_=>
 (fQ r_ m).bind fun u=>
 br (cP d.Root.length 1) (
 (fQ d.Root u).bind fun v=>
 (jL a.Rows v).bind fun j=>
 (cN 2 (Ext.mk 0 0) d.Gates j.2).bind fun c=>
 br (c.2.2.1 !=0) (
 some (c.2.2.1,c.2.2.2)) (
 (Kr j.1 c.1).bind fun w=>
 (ye 2 ([w,d.VA,d.VB,d.VC]:List Ext)).bind fun q=>
 br (q.A==c.2.1.A) (
 br (q.B==c.2.1.B) (
 (cY ([d.VA,d.VB,d.VC]:List Ext) c.2.2.2).bind fun s=>
 (jL 3 s).bind fun e=>
 (KS e.1 ([d.VA,d.VB,d.VC]:List Ext)).bind fun p=>
 (cN 1 p d.Wires e.2).bind fun b=>
 br (b.2.2.1 !=0) (
 some (b.2.2.1,b.2.2.2)) (
 (lh b.1 0 (wrap .i64 (a.Cols-1))).bind fun y=>
 (atL b.1 (wrap .i64 (a.Cols-1))).bind fun x=>
 br (decide (3<=e.1.length)) (
 (c4r e.1).bind fun t=>
 (ta a c.1 (t.1,t.2.1,t.2.2)).bind fun o=>
 (u9 b.1).bind fun k=>
 (KS o k).bind fun r=>
 (yB a z y).bind fun l=>
 (CA l d.VW x).bind fun i=>
 (dd r i).bind fun h=>
 br (h.A==b.2.1.A) (
 br (h.B==b.2.1.B) (
 (cY ([d.VW]:List Ext) b.2.2.2).bind fun n=>
 (oo d.Root y d.VW a2 d.Open n).bind fun f=>
 some (f.1,f.2)) (
 some (11,b.2.2.2))) (
 some (11,b.2.2.2))) none)) (
 some (11,c.2.2.2))) (
 some (11,c.2.2.2)))) none
theorem M5 {a c d b m r} (h:ki a c d b m=some r):Call tab ow 184 [.ptr 0 0 0 1,.agg [I a.Rows,I a.Cols,I a.Publics,sl aA a.A,sl aA a.B,sl aA a.C],.agg [I c.Rate,I c.Queries,I c.Grind],sl eI d,.agg [S b.Root,sl (eL eExt) b.Gates,I b.VA.A,I b.VA.B,I b.VB.A,I b.VB.B,I b.VC.A,I b.VC.B,sl (eL eExt) b.Wires,I b.VW.A,I b.VW.B,sl (eL eExt) b.Open.Rounds,sl eS b.Open.Roots,I b.Open.Last.A,I b.Open.Last.B,I b.Open.Nonce,sl eQuery b.Open.Queries]] [⟨4,true,[[sl eExt m.Script,I m.At,S m.State,I m.Count]]⟩]=some (I r.1,[⟨4,true,[[sl eExt r.2.Script,I r.2.At,S r.2.State,I r.2.Count]]⟩]):=by
 rw [aj (af:=nV) rfl]
 unfold ki at h
 simp only [nV,Al]
 have d1:= @Vn
 have d2:= @nO
 have d3:= @BY
 have d4:= @wP
 have d5:= @a2z
 have d6:= @a2U
 have d7:= @jS
 have d8:= @a8z
 have d9:= @Uu
 have d10:= @GA
 have d11:= @XX
 have d12:= @a51
 have d13:= @fc
 have d14:= @Nw
 exact go2
end
def Dk (s:bk) (t:Setting) (a:(List Int)) (p:Proof) (b:Source):Option (Bool×Int):=
 (C9 p s t).bind fun e=>
 br (!e) (
 some (false,18)) (
 (nf b).bind fun d=>
 (ki s t a p d).bind fun c=>
 some ((c.1==0),c.1))
theorem YE {s t b p a r} (h:Dk s t b p a=some r):Call tab ow 90 [.agg [I s.Rows,I s.Cols,I s.Publics,sl aA s.A,sl aA s.B,sl aA s.C],.agg [I t.Rate,I t.Queries,I t.Grind],sl eI b,.agg [S p.Root,sl (eL eExt) p.Gates,I p.VA.A,I p.VA.B,I p.VB.A,I p.VB.B,I p.VC.A,I p.VC.B,sl (eL eExt) p.Wires,I p.VW.A,I p.VW.B,sl (eL eExt) p.Open.Rounds,sl eS p.Open.Roots,I p.Open.Last.A,I p.Open.Last.B,I p.Open.Nonce,sl eQuery p.Open.Queries],.agg [sl eExt a.Script,I a.At,S a.State,I a.Count]] []=some (.tup [B r.1,I r.2],[]):=by
 rw [aj (af:=y9) rfl]
 unfold Dk at h
 simp only [y9,M6]
 have d1:= @a2J
 have d2:= @M7
 have d3:= @M5
 exact go2
def dy (a:Int):Option (Bool):=
 (eH a 0 2130706432).bind fun b=>
 some b
theorem FR {a r} (h:dy a=some r):Call tab ow 229 [I a] []=some (B r,[]):=by
 rw [aj (af:=Ad) rfl]
 unfold dy at h
 simp only [Ad,Oh]
 have d1:= @oX
 exact go2
def CR (a:Ext):Option (Bool):=
 (dy a.A).bind fun c=>
 br c (
 (dy a.B).bind fun b=>
 some b) (
 some false)
theorem WL {a r} (h:CR a=some r):Call tab ow 114 [.agg [I a.A,I a.B]] []=some (B r,[]):=by
 rw [aj (af:=HJ) rfl]
 unfold CR at h
 simp only [HJ,Xz]
 have d1:= @FR
 exact go2
def Bu (a:List Ext):Int->Option ((Int)⊕(Unit⊕(Int×Bool)))
 |i=>
  br (decide (i<((a.length:Nat):Int))) (
  (atL a i).bind fun x=>
  (CR x).bind fun b=>
  br (!b) (
  some (.inr (.inl ()))) (
  some (.inl (wrap .i64 (i+1))))) (
  some (.inr (.inr (i,decide (i<((a.length:Nat):Int))))))
theorem V3 {a}:LX tab ow (.close [5004]) IQ (Bu a) (fun s=>⟨[(0,sl eExt a),(3,I s)],[]⟩) (alt (fun e=>((.ret,⟨[(2,B false)],[]⟩):bT×St)) (fun e=>(.exit 0,⟨[(0,sl eExt a),(3,I e.1),(7,B e.2)],[]⟩))):=by
 refine lrX (fun s o h=> ?_)
 simp only [Bu] at h
 simp only [IQ,IM]
 have d1:= @WL
 exact go2
def lX (a:(List Ext)):Option (Bool):=
 (Loop (Bu a) 0).bind (alt (fun c=>
 some false) (fun b=>
 some true))
theorem rK {a r} (h:lX a=some r):Call tab ow 123 [sl eExt a] []=some (B r,[]):=by
 rw [aj (af:=AA) rfl]
 unfold lX at h
 simp only [AA,Gn]
 have d1:= @V3
 exact go2
def ov (t:Setting):Option (Bool):=
 (eH t.Rate 1 3).bind fun c=>
 br c (
 (eH t.Queries 1 8).bind fun a=>
 br a (
 (eH t.Grind 0 12).bind fun b=>
 some b) (
 some false)) (
 some false)
theorem By {t r} (h:ov t=some r):Call tab ow 105 [.agg [I t.Rate,I t.Queries,I t.Grind]] []=some (B r,[]):=by
 rw [aj (af:=uy) rfl]
 unfold ov at h
 simp only [uy,IF]
 have d1:= @oX
 exact go2
def yv (s:Source):Option (Bool):=
 br (decide (((s.Script.length:Nat):Int)<=64)) (
 (lX s.Script).bind fun c=>
 br c (
 (eH s.At 0 1000000).bind fun a=>
 br a (
 br (((s.State.length:Nat):Int)==32) (
 (eH s.Count 0 1000000).bind fun b=>
 some b) (
 some false)) (
 some false)) (
 some false)) (
 some false)
theorem XT {s r} (h:yv s=some r):Call tab ow 106 [.agg [sl eExt s.Script,I s.At,S s.State,I s.Count]] []=some (B r,[]):=by
 rw [aj (af:=xR) rfl]
 unfold yv at h
 simp only [xR,LF]
 have d1:= @rK
 have d2:= @oX
 exact go2
def E7 (s:Source) (n:Int):Option (Bool):=
 br (decide (s.At>(wrap .i64 (1000000-n)))) (
 some true) (
 some (decide (s.Count>(wrap .i64 (1000000-n)))))
theorem a0U {s n r} (h:E7 s n=some r):Call tab ow 108 [.agg [sl eExt s.Script,I s.At,S s.State,I s.Count],I n] []=some (B r,[]):=by
 rw [aj (af:=xH) rfl]
 unfold E7 at h
 simp only [xH,LC]
 exact go2
def sv (n:Int):Option (Ext):=
 some (Ext.mk n 0)
theorem yq {n r} (h:sv n=some r):Call tab ow 315 [I n] []=some (.agg [I r.A,I r.B],[]):=by
 rw [aj (af:=HL) rfl]
 unfold sv at h
 simp only [HL,Xv]
 exact go2
def BU:Option (Ext):=
 (sv 1).bind fun a=>
 some a
theorem Kf {r} (h:BU=some r):Call tab ow 310 [] []=some (.agg [I r.A,I r.B],[]):=by
 rw [aj (af:=Dm) rfl]
 unfold BU at h
 simp only [Dm,Qt]
 have d1:= @yq
 exact go2
def vB (a b:Ext):Option (Ext):=
 (zn a.A b.A).bind fun d=>
 (zn a.B b.B).bind fun c=>
 some (Ext.mk d c)
theorem DQ {a b r} (h:vB a b=some r):Call tab ow 329 [.agg [I a.A,I a.B],.agg [I b.A,I b.B]] []=some (.agg [I r.A,I r.B],[]):=by
 rw [aj (af:=Dx) rfl]
 unfold vB at h
 simp only [Dx,RM]
 have d1:= @Qm
 exact go2
def p6 (a:Ext):Option (Ext):=
 (BU).bind fun c=>
 (vB c a).bind fun b=>
 some b
theorem Gb {a r} (h:p6 a=some r):Call tab ow 270 [.agg [I a.A,I a.B]] []=some (.agg [I r.A,I r.B],[]):=by
 rw [aj (af:=AL) rfl]
 unfold p6 at h
 simp only [AL,NR]
 have d1:= @Kf
 have d2:= @DQ
 exact go2
def dD (a b:Ext):Option (Ext):=
 (lL a.A b.A).bind fun i=>
 (lL a.B b.B).bind fun e=>
 (sk i ((wrap .i64 (3*e)).tmod 2130706433)).bind fun h=>
 (lL a.A b.B).bind fun f=>
 (lL a.B b.A).bind fun c=>
 (sk f c).bind fun d=>
 some (Ext.mk h d)
theorem kJ {a b r} (h:dD a b=some r):Call tab ow 232 [.agg [I a.A,I a.B],.agg [I b.A,I b.B]] []=some (.agg [I r.A,I r.B],[]):=by
 rw [aj (af:=DC) rfl]
 unfold dD at h
 simp only [DC,Tc]
 have d1:= @DL
 have d2:= @JN
 exact go2
section
theorem a7z:mkR 2001 []=rws eExt []:=rfl
attribute [local go_sem] a7z
theorem a7C: ∀k,Ck 6003 k [I (0:Int),I (0:Int)]=rws eExt (List.replicate k (Ext.mk (0:Int) (0:Int))):=fun _=>Nh eExt (Ext.mk (0:Int) (0:Int)) _ _
attribute [local go_sem] a7C
def rG (b a:List Ext) (f:Int):(List Ext)×Int->Option (((List Ext)×Int)⊕(((List Ext)×Int×Bool)))
 | (l,k)=>
   br (decide (k<((a.length:Nat):Int))) (
   (atL a k).bind fun x=>
   (atL b f).bind fun h=>
   (p6 h).bind fun d=>
   (dD x d).bind fun c=>
   br (decide (0<=k)) (
   br (decide (k.toNat<l.length)) (
   (l[k.toNat]?).bind fun n=>
   (atL a k).bind fun j=>
   (atL b f).bind fun i=>
   (dD j i).bind fun e=>
   br (decide (0<=(wrap .i64 (k+((a.length:Nat):Int))))) (
   br (decide ((wrap .i64 (k+((a.length:Nat):Int))).toNat<l.length)) (
   ((l.set k.toNat c)[(wrap .i64 (k+((a.length:Nat):Int))).toNat]?).bind fun m=>
   some (.inl (((l.set k.toNat c).set ((wrap .i64 (k+((a.length:Nat):Int))).toNat) e),(wrap .i64 (k+1))))) none) none) none) none) (
   some (.inr (l,k,decide (k<((a.length:Nat):Int)))))
theorem a4m {a b c}:LX tab ow (.close [10010,10011,11013]) Ox (rG a b c) (fun s=>⟨[(0,sl eExt a),(3,sl eExt b),(4,I c),(5,.sl 6003 0 s.1.length),(6,I s.2)],[(6003,⟨2,false,rws eExt s.1⟩)]⟩) (fun e=>(.exit 2,⟨[(0,sl eExt a),(3,sl eExt b),(4,I c),(5,.sl 6003 0 e.1.length),(6,I e.2.1),(22,B e.2.2)],[(6003,⟨2,false,rws eExt e.1⟩)]⟩)):=by
 refine lrX (fun s o h=> ?_)
 obtain ⟨_,_⟩:=s
 simp only [rG] at h
 simp only [Ox,OG]
 have d1:= @Gb
 have d2:= @kJ
 exact go2
def rO (a:List Ext):(List Ext)×Int->Option (((List Ext)×Int)⊕(((List Ext)×Int×Bool)))
 | (b,i)=>
   br (decide (i<((a.length:Nat):Int))) (
   br (zJ (wrap .i64 (2*((b.length:Nat):Int))) (wrap .i64 (2*((b.length:Nat):Int))) 16) (
   (Loop (rG a b i) ((List.replicate ((wrap .i64 ((2:Int)*((b.length:Nat):Int))).toNat) (Ext.mk (0:Int) (0:Int))),(0:Int))).bind fun c=>
   some (.inl (c.1,(wrap .i64 (i+1))))) none) (
   some (.inr (b,i,decide (i<((a.length:Nat):Int)))))
theorem a4e {a}:LX tab ow (.close [6003,10010,10011,11013,2001]) O8 (rO a) (fun s=>⟨[(0,sl eExt a),(3,sl eExt s.1),(4,I s.2)],[]⟩) (fun e=>(.exit 0,⟨[(0,sl eExt a),(3,sl eExt e.1),(4,I e.2.1),(12,B e.2.2)],[]⟩)):=by
 refine lrX (fun s o h=> ?_)
 obtain ⟨_,_⟩:=s
 simp only [rO] at h
 simp only [O8,OO]
 have d1:= @a4m
 exact go2
def Hm (a:(List Ext)):Option ((List Ext)):=
 (BU).bind fun c=>
 (Loop (rO a) (([c]:List Ext),0)).bind fun b=>
 some b.1
theorem WV {a r} (h:Hm a=some r):Call tab ow 204 [sl eExt a] []=some (sl eExt r,[]):=by
 rw [aj (af:=HC) rfl]
 unfold Hm at h
 simp only [HC,HH]
 have d1:= @Kf
 have d2:= @a4e
 exact go2
end
def j1 (a b:Ext):Option (Ext):=
 (sk a.A b.A).bind fun d=>
 (sk a.B b.B).bind fun c=>
 some (Ext.mk d c)
theorem oB {a b r} (h:j1 a b=some r):Call tab ow 230 [.agg [I a.A,I a.B],.agg [I b.A,I b.B]] []=some (.agg [I r.A,I r.B],[]):=by
 rw [aj (af:=DX) rfl]
 unfold j1 at h
 simp only [DX,QN]
 have d1:= @JN
 exact go2
def kN (a:Int):Int->Option ((Int)⊕((Int×Bool)))
 |k=>
  br (decide (0<=(wrap .u64 k))) (
  br (decide ((bG .i64 1 (wrap .u64 k))<a)) (
  some (.inl (wrap .i64 (k+1)))) (
  some (.inr (k,decide ((bG .i64 1 (wrap .u64 k))<a))))) none
theorem Wm {a}:LX tab ow (.close []) IA (kN a) (fun s=>⟨[(0,I a),(3,I s)],[]⟩) (fun e=>(.exit 0,⟨[(0,I a),(3,I e.1),(8,B e.2)],[]⟩)):=by
 refine lrX (fun s o h=> ?_)
 simp only [kN] at h
 simp only [IA,IV]
 exact go2
def BL (n:Int):Option (Int):=
 (Loop (kN n) 0).bind fun a=>
 some a.1
theorem a4r {n r} (h:BL n=some r):Call tab ow 362 [I n] []=some (I r,[]):=by
 rw [aj (af:=Ab) rfl]
 unfold BL at h
 simp only [Ab,Gz]
 have d1:= @Wm
 exact go2
def pi:Int×Int×Int->Option ((Int×Int×Int)⊕((Int×Int×Int×Bool)))
 | (b,a,d)=>
   br (decide (a>0)) (
   br ((a.tmod 2)==1) (
   (lL d b).bind fun c=>
   (lL b b).bind fun f=>
   some (.inl (f,(wrap .i64 (a.tdiv 2)),c))) (
   (lL b b).bind fun e=>
   some (.inl (e,(wrap .i64 (a.tdiv 2)),d)))) (
   some (.inr (b,a,d,decide (a>0))))
theorem Zn:LX tab ow (.close [5002,6002]) Mm (pi) (fun s=>⟨[(0,I s.1),(1,I s.2.1),(5,I s.2.2)],[]⟩) (fun e=>(.exit 0,⟨[(0,I e.1),(1,I e.2.1),(5,I e.2.2.1),(7,B e.2.2.2)],[]⟩)):=by
 refine lrX (fun s o h=> ?_)
 obtain ⟨_,_,_⟩:=s
 simp only [pi] at h
 simp only [Mm,LH]
 have d1:= @DL
 exact go2
def vJ (a n:Int):Option (Int):=
 (Loop (pi) (a,n,1)).bind fun b=>
 some b.2.2.1
theorem Kl {a n r} (h:vJ a n=some r):Call tab ow 364 [I a,I n] []=some (I r,[]):=by
 rw [aj (af:=DE) rfl]
 unfold vJ at h
 simp only [DE,K0]
 have d1:= @Zn
 exact go2
def Cu (k:Int):Option (Int):=
 br (decide (0<=(wrap .u64 (wrap .i64 (24-k))))) (
 (vJ 3 (bG .i64 127 (wrap .u64 (wrap .i64 (24-k))))).bind fun a=>
 some a) none
theorem a28 {k r} (h:Cu k=some r):Call tab ow 361 [I k] []=some (I r,[]):=by
 rw [aj (af:=AQ) rfl]
 unfold Cu at h
 simp only [AQ,OR]
 have d1:= @Kl
 exact go2
def vV (a:Int):Option (Int):=
 some (wrap .i64 (a+1))
theorem V2 {a r} (h:vV a=some r):Call tab ow 313 [I a] []=some (I r,[]):=by
 rw [aj (af:=vl) rfl]
 unfold vV at h
 simp only [vl,It]
 exact go2
def oT (a:Int) (v:(List Ext)):Option (Ext):=
 br (a==1) (
 (atL v 0).bind fun x=>
 (atL v 1).bind fun h=>
 (dD x h).bind fun i=>
 some i) (
 (atL v 0).bind fun k=>
 (atL v 1).bind fun j=>
 (atL v 2).bind fun f=>
 (dD j f).bind fun b=>
 (atL v 3).bind fun e=>
 (vB b e).bind fun c=>
 (dD k c).bind fun d=>
 some d)
theorem Tv {a v r} (h:oT a v=some r):Call tab ow 269 [I a,sl eExt v] []=some (.agg [I r.A,I r.B],[]):=by
 rw [aj (af:=sQ) rfl]
 unfold oT at h
 simp only [sQ,Fy]
 have d1:= @kJ
 have d2:= @DQ
 exact go2
section
theorem Ww:mkR 2000 []=rws eU8 []:=rfl
attribute [local go_sem] Ww
def li (a:List Ext):(List UInt8)×Int->Option (((List UInt8)×Int)⊕(((List UInt8)×Int×Bool)))
 | (l,i)=>
   br (decide (i<((a.length:Nat):Int))) (
   (atL a i).bind fun x=>
   (g9 x.A 4).bind fun c=>
   br (cP ((l++c).length) 1) (
   (atL a i).bind fun d=>
   (g9 d.B 4).bind fun b=>
   br (cP (((l++c)++b).length) 1) (
   some (.inl (((l++c)++b),(wrap .i64 (i+1))))) none) none) (
   some (.inr (l,i,decide (i<((a.length:Nat):Int)))))
theorem R9 {a}:LX tab ow (.close [6006,6007,6013,6014]) FE (li a) (fun s=>⟨[(0,sl eExt a),(3,.sl 2000 0 s.1.length),(4,I s.2)],[(2000,⟨1,false,rws eU8 s.1⟩)]⟩) (fun e=>(.exit 0,⟨[(0,sl eExt a),(3,.sl 2000 0 e.1.length),(4,I e.2.1),(9,B e.2.2)],[(2000,⟨1,false,rws eU8 e.1⟩)]⟩)):=by
 refine lrX (fun s o h=> ?_)
 obtain ⟨_,_⟩:=s
 simp only [li] at h
 simp only [FE,FQ]
 have d1:= @jm
 exact go2
def u5 (a:(List Ext)):Option ((List UInt8)):=
 (Loop (li a) (([]:List UInt8),0)).bind fun b=>
 some b.1
theorem L6 {a r} (h:u5 a=some r):Call tab ow 262 [sl eExt a] []=some (sl eU8 r,[]):=by
 rw [aj (af:=xV) rfl]
 unfold u5 at h
 simp only [xV,Dz]
 have d1:= @R9
 exact go2
end
def lF (s:Source) (a:(List Ext)):Option (Source):=
 (u5 a).bind fun c=>
 (kz s c).bind fun b=>
 some b
theorem zO {s a r} (h:lF s a=some r):Call tab ow 207 [.agg [sl eExt s.Script,I s.At,S s.State,I s.Count],sl eExt a] []=some (.agg [sl eExt r.Script,I r.At,S r.State,I r.Count],[]):=by
 rw [aj (af:=AD) rfl]
 unfold lF at h
 simp only [AD,Oj]
 have d1:= @L6
 have d2:= @qw
 exact go2
def mz (a:Int):Option (Int):=
 (vJ a 2130706431).bind fun b=>
 some b
theorem Hi {a r} (h:mz a=some r):Call tab ow 330 [I a] []=some (I r,[]):=by
 rw [aj (af:=s9) rfl]
 unfold mz at h
 simp only [s9,FB]
 have d1:= @Kl
 exact go2
def pc (n i:Int) (a b t:Ext):Option (Ext):=
 (BL n).bind fun p=>
 (Cu p).bind fun s=>
 (vJ s i).bind fun q=>
 (mz 2).bind fun d=>
 (j1 a b).bind fun o=>
 (sv d).bind fun l=>
 (dD o l).bind fun m=>
 (vB a b).bind fun r=>
 (mz q).bind fun c=>
 (lL d c).bind fun k=>
 (sv k).bind fun j=>
 (dD r j).bind fun e=>
 (dD t e).bind fun h=>
 (j1 m h).bind fun f=>
 some f
theorem a4s {n i a b c r} (h:pc n i a b c=some r):Call tab ow 317 [I n,I i,.agg [I a.A,I a.B],.agg [I b.A,I b.B],.agg [I c.A,I c.B]] []=some (.agg [I r.A,I r.B],[]):=by
 rw [aj (af:=zT) rfl]
 unfold pc at h
 simp only [zT,OF]
 have d1:= @a4r
 have d2:= @a28
 have d3:= @Kl
 have d4:= @Hi
 have d5:= @oB
 have d6:= @yq
 have d7:= @kJ
 have d8:= @DQ
 have d9:= @DL
 exact go2
def Cr (t:(List UInt8)):Option ((List UInt8)):=
 br (cP ((([0]:List UInt8)).length+t.length) 1) (
 (lx ((([0]:List UInt8))++t)).bind fun a=>
 some a) none
theorem a2L {t r} (h:Cr t=some r):Call tab ow 318 [S t] []=some (S r,[]):=by
 rw [aj (af:=zX) rfl]
 unfold Cr at h
 simp only [zX,OV]
 have d1:= @rT
 exact go2
def Ca (s:Source) (a b:Int):Option (Bool):=
 br (cP (s.State.length+(([103,114,105,110,100]:List UInt8)).length) 1) (
 (g9 b 4).bind fun e=>
 br (cP ((s.State++(([103,114,105,110,100]:List UInt8))).length+e.length) 1) (
 (lx ((s.State++(([103,114,105,110,100]:List UInt8)))++e)).bind fun d=>
 (atL d 0).bind fun c=>
 (atL d 1).bind fun f=>
 br (decide (0<=(wrap .u64 (wrap .i64 (16-a))))) (
 some ((bY .i64 (wrap .i64 ((wrap .i64 ((wrap .i64 (c.toNat:Int))*256))+(wrap .i64 (f.toNat:Int)))) (wrap .u64 (wrap .i64 (16-a))))==0)) none) none) none
theorem a3U {s b a r} (h:Ca s b a=some r):Call tab ow 234 [.agg [sl eExt s.Script,I s.At,S s.State,I s.Count],I b,I a] []=some (B r,[]):=by
 rw [aj (af:=Au) rfl]
 unfold Ca at h
 simp only [Au,Oz]
 have d1:= @jm
 have d2:= @rT
 exact go2
section
theorem a1F:mkR 2000 []=rws eExt []:=rfl
attribute [local go_sem] a1F
theorem YT:mkR 8002 []=rws eExt []:=rfl
attribute [local go_sem] YT
def kL (d h:Int) (k:List UInt8) (j:Int):(List Ext)×Int×(List Ext)×Int×(List UInt8)×Int->Option (((List Ext)×Int×(List Ext)×Int×(List UInt8)×Int)⊕(((List Ext)×Int×Bool×(List Ext)×Int×(List UInt8)×Int)))
 | (l,i,c,b,f,e)=>
   br (decide (i<d)) (
   (rM (Source.mk c b f e)).bind fun a=>
   br (cP ((l++([a.2]:List Ext)).length) 16) (
   some (.inl ((l++([a.2]:List Ext)),(wrap .i64 (i+1)),a.1.Script,a.1.At,a.1.State,a.1.Count))) none) (
   some (.inr (l,i,decide (i<d),c,b,f,e)))
abbrev Bx (a:Int) (f:List UInt8) (d:Int) (l c:List Ext) (b:Int) (h:List UInt8) (e:Int):List (Nat×Blk):=[(1000,⟨4,true,[[sl eExt c,I b,S h,I e]]⟩),(1001,⟨4,true,[[.lit (.slice none 0 0),I a,S f,I d]]⟩),(2000,⟨2,false,rws eExt l⟩)]
theorem VV {d b c a}:LX tab ow (.close [6001,6005,6006,8002,8003]) Ih (kL d b c a) (fun s=>⟨[(1,I d),(2,.ptr 1000 0 0 1),(4,.ptr 1001 0 0 1),(6,.sl 2000 0 s.1.length),(7,I s.2.1)],Bx b c a s.1 s.2.2.1 s.2.2.2.1 s.2.2.2.2.1 s.2.2.2.2.2⟩) (fun e=>(.exit 0,⟨[(1,I d),(2,.ptr 1000 0 0 1),(4,.ptr 1001 0 0 1),(6,.sl 2000 0 e.1.length),(7,I e.2.1),(13,B e.2.2.1)],Bx b c a e.1 e.2.2.2.1 e.2.2.2.2.1 e.2.2.2.2.2.1 e.2.2.2.2.2.2⟩)):=by
 refine lrX (fun s o h=> ?_)
 obtain ⟨_,_,_,_,_,_⟩:=s
 simp only [kL] at h
 simp only [Bx,Ih,J1]
 have d1:= @G5
 exact go2
def tX (s:Source) (n:Int):Option (Source×(List Ext)):=
 (Loop (kL n 0 (([]:List UInt8)) 0) (([]:List Ext),0,s.Script,s.At,s.State,s.Count)).bind fun a=>
 some ((Source.mk a.2.2.2.1 a.2.2.2.2.1 a.2.2.2.2.2.1 a.2.2.2.2.2.2),a.1)
theorem OC {s n r} (h:tX s n=some r):Call tab ow 253 [.agg [sl eExt s.Script,I s.At,S s.State,I s.Count],I n] []=some (.tup [.agg [sl eExt r.1.Script,I r.1.At,S r.1.State,I r.1.Count],sl eExt r.2],[]):=by
 rw [aj (af:=AN) rfl]
 unfold tX at h
 simp only [AN,FF]
 have d1:= @VV
 exact go2
end
section
theorem Rs:mkR 3000 []=rws eI []:=rfl
attribute [local go_sem] Rs
theorem TR:mkR 7008 []=rws eI []:=rfl
attribute [local go_sem] TR
def iY (d a:Int) (b c:List Ext) (k:Int) (q:List UInt8) (o j:Int) (p:List UInt8) (n:Int) (h:List Ext) (m:Int) (e:List UInt8) (f:Int):(List Int)×Int->Option (((List Int)×Int)⊕(((List Int)×Int×Bool)))
 | (l,i)=>
   br (decide (i<d)) (
   (atL b i).bind fun x=>
   br (decide (a≠0)) (
   br (cP ((l++([(x.A.tmod a)]:List Int)).length) 8) (
   some (.inl ((l++([(x.A.tmod a)]:List Int)),(wrap .i64 (i+1))))) none) none) (
   some (.inr (l,i,decide (i<d))))
abbrev wE (c:List Ext) (f:Int) (m:List UInt8) (j e:Int) (k:List UInt8) (i:Int) (d:List Ext) (h:Int) (a:List UInt8) (b:Int) (l:List Int):List (Nat×Blk):=[(1000,⟨4,true,[[sl eExt c,I f,S m,I j]]⟩),(1001,⟨4,true,[[.lit (.slice none 0 0),I e,S k,I i]]⟩),(2006,⟨4,true,[[sl eExt d,I h,S a,I b]]⟩),(3000,⟨1,false,rws eI l⟩)]
theorem P6 {m a b c k r p j q n i l d f}:LX tab ow (.close [7008,7009]) Fh (iY m a b c k r p j q n i l d f) (fun s=>⟨[(1,I m),(2,I a),(6,.ptr 1001 0 0 1),(8,.ptr 2006 0 0 1),(9,sl eExt b),(10,.sl 3000 0 s.1.length),(11,I s.2)],wE c k r p j q n i l d f s.1⟩) (fun e=>(.exit 0,⟨[(1,I m),(2,I a),(6,.ptr 1001 0 0 1),(8,.ptr 2006 0 0 1),(9,sl eExt b),(10,.sl 3000 0 e.1.length),(11,I e.2.1),(21,B e.2.2)],wE c k r p j q n i l d f e.1⟩)):=by
 refine lrX (fun s o h=> ?_)
 obtain ⟨_,_⟩:=s
 simp only [iY] at h
 simp only [wE,Fh,Fe]
 exact go2
def vW (s:Source) (n b:Int):Option (Source×(List Int)):=
 (tX s n).bind fun a=>
 (Loop (iY n b a.2 s.Script s.At s.State s.Count 0 (([]:List UInt8)) 0 a.1.Script a.1.At a.1.State a.1.Count) (([]:List Int),0)).bind fun c=>
 some (a.1,c.1)
theorem Wo {s n a r} (h:vW s n a=some r):Call tab ow 214 [.agg [sl eExt s.Script,I s.At,S s.State,I s.Count],I n,I a] []=some (.tup [.agg [sl eExt r.1.Script,I r.1.At,S r.1.State,I r.1.Count],sl eI r.2],[]):=by
 rw [aj (af:=ut) rfl]
 unfold vW at h
 simp only [ut,BE]
 have d1:= @OC
 have d2:= @P6
 exact go2
end
def Cq (g:Gate) (k:Int):Option (Bool):=
 (eH g.Op 1 8).bind fun y=>
 br (!y) (
 some false) (
 (C0 g.Op).bind fun a=>
 br (decide (a>0)) (
 (eH g.A 0 (wrap .i64 (k-1))).bind fun t=>
 br (!t) (
 some false) (
 br (a==0) (
 br (g.A !=0) (
 some false) (
 br (decide (a>1)) (
 (eH g.B 0 (wrap .i64 (k-1))).bind fun r=>
 br (!r) (
 some false) (
 br (decide (a<2)) (
 br (g.B !=0) (
 some false) (
 br (g.Op==3) (
 (dy g.K).bind fun v=>
 some v) (
 some (g.K==0)))) (
 br (g.Op==3) (
 (dy g.K).bind fun x=>
 some x) (
 some (g.K==0))))) (
 br (decide (a<2)) (
 br (g.B !=0) (
 some false) (
 br (g.Op==3) (
 (dy g.K).bind fun w=>
 some w) (
 some (g.K==0)))) (
 br (g.Op==3) (
 (dy g.K).bind fun s=>
 some s) (
 some (g.K==0)))))) (
 br (decide (a>1)) (
 (eH g.B 0 (wrap .i64 (k-1))).bind fun u=>
 br (!u) (
 some false) (
 br (decide (a<2)) (
 br (g.B !=0) (
 some false) (
 br (g.Op==3) (
 (dy g.K).bind fun l=>
 some l) (
 some (g.K==0)))) (
 br (g.Op==3) (
 (dy g.K).bind fun i=>
 some i) (
 some (g.K==0))))) (
 br (decide (a<2)) (
 br (g.B !=0) (
 some false) (
 br (g.Op==3) (
 (dy g.K).bind fun h=>
 some h) (
 some (g.K==0)))) (
 br (g.Op==3) (
 (dy g.K).bind fun d=>
 some d) (
 some (g.K==0))))))) (
 br (a==0) (
 br (g.A !=0) (
 some false) (
 br (decide (a>1)) (
 (eH g.B 0 (wrap .i64 (k-1))).bind fun m=>
 br (!m) (
 some false) (
 br (decide (a<2)) (
 br (g.B !=0) (
 some false) (
 br (g.Op==3) (
 (dy g.K).bind fun e=>
 some e) (
 some (g.K==0)))) (
 br (g.Op==3) (
 (dy g.K).bind fun b=>
 some b) (
 some (g.K==0))))) (
 br (decide (a<2)) (
 br (g.B !=0) (
 some false) (
 br (g.Op==3) (
 (dy g.K).bind fun q=>
 some q) (
 some (g.K==0)))) (
 br (g.Op==3) (
 (dy g.K).bind fun f=>
 some f) (
 some (g.K==0)))))) (
 br (decide (a>1)) (
 (eH g.B 0 (wrap .i64 (k-1))).bind fun o=>
 br (!o) (
 some false) (
 br (decide (a<2)) (
 br (g.B !=0) (
 some false) (
 br (g.Op==3) (
 (dy g.K).bind fun p=>
 some p) (
 some (g.K==0)))) (
 br (g.Op==3) (
 (dy g.K).bind fun n=>
 some n) (
 some (g.K==0))))) (
 br (decide (a<2)) (
 br (g.B !=0) (
 some false) (
 br (g.Op==3) (
 (dy g.K).bind fun c=>
 some c) (
 some (g.K==0)))) (
 br (g.Op==3) (
 (dy g.K).bind fun j=>
 some j) (
 some (g.K==0)))))))
theorem a4v {g k r} (h:Cq g k=some r):Call tab ow 260 [.agg [I g.Op,I g.A,I g.B,I g.K],I k] []=some (B r,[]):=by
 rw [aj (af:=A6) rfl]
 unfold Cq at h
 simp only [A6,O5]
 have d1:= @oX
 have d2:= @a5e
 have d3:= @FR
 exact go2
def fN (b:List Gate):Int->Option ((Int)⊕(Unit⊕(Int×Bool)))
 |k=>
  br (decide (k<((b.length:Nat):Int))) (
  (atL b k).bind fun x=>
  (Cq x k).bind fun a=>
  br (!a) (
  some (.inr (.inl ()))) (
  some (.inl (wrap .i64 (k+1))))) (
  some (.inr (.inr (k,decide (k<((b.length:Nat):Int))))))
theorem PL {a}:LX tab ow (.close [7006]) EL (fN a) (fun s=>⟨[(1,.ptr 1000 0 0 1),(3,I s)],[(1000,⟨1,true,[[sl eGate a]]⟩)]⟩) (alt (fun e=>((.ret,⟨[(2,B false)],[(1000,⟨1,true,[[sl eGate a]]⟩)]⟩):bT×St)) (fun e=>(.exit 0,⟨[(1,.ptr 1000 0 0 1),(3,I e.1),(13,B e.2)],[(1000,⟨1,true,[[sl eGate a]]⟩)]⟩))):=by
 refine lrX (fun s o h=> ?_)
 simp only [fN] at h
 simp only [EL,Eo]
 have d1:= @a4v
 exact go2
def wd (c:Circuit):Option (Bool):=
 (eH ((c.Gates.length:Nat):Int) 1 15).bind fun b=>
 br (!b) (
 some false) (
 (Loop (fN c.Gates) 0).bind (alt (fun e=>
 some false) (fun d=>
 (rg c 2).bind fun a=>
 some (decide (a<=7)))))
theorem UH {c r} (h:wd c=some r):Call tab ow 139 [.agg [sl eGate c.Gates]] []=some (B r,[]):=by
 rw [aj (af:=uT) rfl]
 unfold wd at h
 simp only [uT,Bk]
 have d1:= @oX
 have d2:= @PL
 have d3:= @DO
 exact go2
def wU (a:List Int):Int->Option ((Int)⊕(Unit⊕(Int×Bool)))
 |i=>
  br (decide (i<((a.length:Nat):Int))) (
  (atL a i).bind fun x=>
  (dy x).bind fun b=>
  br (!b) (
  some (.inr (.inl ()))) (
  some (.inl (wrap .i64 (i+1))))) (
  some (.inr (.inr (i,decide (i<((a.length:Nat):Int))))))
theorem P5 {a}:LX tab ow (.close [5004]) EW (wU a) (fun s=>⟨[(0,sl eI a),(3,I s)],[]⟩) (alt (fun e=>((.ret,⟨[(2,B false)],[]⟩):bT×St)) (fun e=>(.exit 0,⟨[(0,sl eI a),(3,I e.1),(7,B e.2)],[]⟩))):=by
 refine lrX (fun s o h=> ?_)
 simp only [wU] at h
 simp only [EW,ET]
 have d1:= @FR
 exact go2
def wB (a:(List Int)):Option (Bool):=
 (Loop (wU a) 0).bind (alt (fun c=>
 some false) (fun b=>
 some true))
theorem VQ {a r} (h:wB a=some r):Call tab ow 242 [sl eI a] []=some (B r,[]):=by
 rw [aj (af:=uM) rfl]
 unfold wB at h
 simp only [uM,Bm]
 have d1:= @P5
 exact go2
def oY (p a:Int) (b:List Gate):Int->Option ((Int)⊕((Int×Bool)))
 |k=>
  br (decide (0<=(wrap .u64 (wrap .i64 (k-1))))) (
  br (decide ((bG .i64 1 (wrap .u64 (wrap .i64 (k-1))))<(mx (wrap .i64 (p+1)) a))) (
  some (.inl (wrap .i64 (k+1)))) (
  some (.inr (k,decide ((bG .i64 1 (wrap .u64 (wrap .i64 (k-1))))<(mx (wrap .i64 (p+1)) a)))))) none
theorem ZY {p a b}:LX tab ow (.close []) L9 (oY p a b) (fun s=>⟨[(3,I p),(4,I a),(5,I s)],[(1000,⟨1,true,[[sl eGate b]]⟩)]⟩) (fun e=>(.exit 0,⟨[(3,I p),(4,I a),(5,I e.1),(21,B e.2)],[(1000,⟨1,true,[[sl eGate b]]⟩)]⟩)):=by
 refine lrX (fun s o h=> ?_)
 simp only [oY] at h
 simp only [L9,Lf]
 exact go2
def H3 (c:Circuit):Option (Int):=
 (rg c 2).bind fun a=>
 (Loop (oY a (wrap .i64 (((c.Gates.length:Nat):Int)-a)) c.Gates) 2).bind fun b=>
 some b.1
theorem a7u {c r} (h:H3 c=some r):Call tab ow 337 [.agg [sl eGate c.Gates]] []=some (I r,[]):=by
 rw [aj (af:=D9) rfl]
 unfold H3 at h
 simp only [D9,JS]
 have d1:= @DO
 have d2:= @ZY
 exact go2
section
theorem Zp:mkR 4000 []=rws eI []:=rfl
attribute [local go_sem] Zp
theorem YO:mkR 12002 []=rws eI []:=rfl
attribute [local go_sem] YO
theorem Za:mkR 13004 []=rws eI []:=rfl
attribute [local go_sem] Za
def nk (d a:Int) (c:List Gate):(List Int)×Int×Int×Int->Option (((List Int)×Int×Int×Int)⊕(((List Int)×Int×Int×Int×Bool)))
 | (l,p,b,k)=>
   br (decide (k<((c.length:Nat):Int))) (
   (atL c k).bind fun x=>
   br (x.Op==2) (
   br (cP ((l++([(wrap .i64 (p+1))]:List Int)).length) 8) (
   some (.inl ((l++([(wrap .i64 (p+1))]:List Int)),(wrap .i64 (p+1)),b,(wrap .i64 (k+1))))) none) (
   br (cP ((l++([(wrap .i64 (a+b))]:List Int)).length) 8) (
   some (.inl ((l++([(wrap .i64 (a+b))]:List Int)),p,(wrap .i64 (b+1)),(wrap .i64 (k+1))))) none)) (
   some (.inr (l,p,b,k,decide (k<((c.length:Nat):Int)))))
abbrev Bn (a:List Gate) (l:List Int):List (Nat×Blk):=[(1000,⟨1,true,[[sl eGate a]]⟩),(4000,⟨1,false,rws eI l⟩)]
theorem UL {b a c}:LX tab ow (.close [12002,12003,13004,13005]) Ir (nk b a c) (fun s=>⟨[(1,.ptr 1000 0 0 1),(4,I b),(5,I a),(6,.sl 4000 0 s.1.length),(7,I s.2.1),(8,I s.2.2.1),(9,I s.2.2.2)],Bn c s.1⟩) (fun e=>(.exit 0,⟨[(1,.ptr 1000 0 0 1),(4,I b),(5,I a),(6,.sl 4000 0 e.1.length),(7,I e.2.1),(8,I e.2.2.1),(9,I e.2.2.2.1),(21,B e.2.2.2.2)],Bn c e.1⟩)):=by
 refine lrX (fun s o h=> ?_)
 obtain ⟨_,_,_,_⟩:=s
 simp only [nk] at h
 simp only [Bn,Ir,Jz]
 exact go2
def C8 (c:Circuit):Option ((List Int)×Int):=
 (H3 c).bind fun a=>
 br (decide (0<=(wrap .u64 (wrap .i64 (a-1))))) (
 (Loop (nk a (bG .i64 1 (wrap .u64 (wrap .i64 (a-1)))) c.Gates) (([]:List Int),0,0,0)).bind fun b=>
 some (b.1,a)) none
theorem a4k {c r} (h:C8 c=some r):Call tab ow 258 [.agg [sl eGate c.Gates]] []=some (.tup [sl eI r.1,I r.2],[]):=by
 rw [aj (af:=A0) rfl]
 unfold C8 at h
 simp only [A0,FK]
 have d1:= @a7u
 have d2:= @UL
 exact go2
end
section
theorem Vt:mkR 7000 []=rws aA []:=rfl
attribute [local go_sem] Vt
theorem UP:mkR 9005 []=rws aA []:=rfl
attribute [local go_sem] UP
theorem Wr:mkR 11000 []=rws aA []:=rfl
attribute [local go_sem] Wr
theorem WA:mkR 11009 []=rws aA []:=rfl
attribute [local go_sem] WA
def jQ (a:List au) (t d e:Int):Int->Option ((Int)⊕((Int×Bool)))
 |b=>
  br (decide (b>0)) (
  (atL a (wrap .i64 (b-1))).bind fun x=>
  br (x.Row==t) (
  (atL a (wrap .i64 (b-1))).bind fun c=>
  br (decide (c.Col>d)) (
  some (.inl (wrap .i64 (b-1)))) (
  some (.inr (b,decide (c.Col>d))))) (
  some (.inr (b,false)))) (
  some (.inr (b,false)))
theorem TE {a t c b}:LX tab ow (.close []) Gw (jQ a t c b) (fun s=>⟨[(0,sl aA a),(1,I t),(2,I c),(3,I b),(9,I s)],[]⟩) (fun e=>(.exit 0,⟨[(0,sl aA a),(1,I t),(2,I c),(3,I b),(9,I e.1),(35,B e.2)],[]⟩)):=by
 refine lrX (fun s o h=> ?_)
 simp only [jQ] at h
 simp only [Gw,FV]
 exact go2
def aD (b:(List au)) (a c e:Int):Option ((List au)):=
 (Loop (jQ b a c e) ((b.length:Nat):Int)).bind fun d=>
 br (decide (d.1>0)) (
 (atL b (wrap .i64 (d.1-1))).bind fun r=>
 br (r.Row==a) (
 (atL b (wrap .i64 (d.1-1))).bind fun q=>
 br (q.Col==c) (
 (atL b (wrap .i64 (d.1-1))).bind fun p=>
 (sk p.Value e).bind fun h=>
 (lh b 0 (wrap .i64 (d.1-1))).bind fun y=>
 br (cP ((([]:List au)++y).length) 24) (
 br (h !=0) (
 br (cP (((([]:List au)++y)++([(au.mk a c h)]:List au)).length) 24) (
 (lh b d.1 ((b.length:Nat):Int)).bind fun m=>
 br (cP ((((([]:List au)++y)++([(au.mk a c h)]:List au))++m).length) 24) (
 some (((([]:List au)++y)++([(au.mk a c h)]:List au))++m)) none) none) (
 (lh b d.1 ((b.length:Nat):Int)).bind fun l=>
 br (cP (((([]:List au)++y)++l).length) 24) (
 some ((([]:List au)++y)++l)) none)) none) (
 (lh b 0 d.1).bind fun f=>
 br (cP ((([]:List au)++f).length) 24) (
 br (cP (((([]:List au)++f)++([(au.mk a c e)]:List au)).length) 24) (
 (lh b d.1 ((b.length:Nat):Int)).bind fun o=>
 br (cP ((((([]:List au)++f)++([(au.mk a c e)]:List au))++o).length) 24) (
 some (((([]:List au)++f)++([(au.mk a c e)]:List au))++o)) none) none) none)) (
 (lh b 0 d.1).bind fun j=>
 br (cP ((([]:List au)++j).length) 24) (
 br (cP (((([]:List au)++j)++([(au.mk a c e)]:List au)).length) 24) (
 (lh b d.1 ((b.length:Nat):Int)).bind fun k=>
 br (cP ((((([]:List au)++j)++([(au.mk a c e)]:List au))++k).length) 24) (
 some (((([]:List au)++j)++([(au.mk a c e)]:List au))++k)) none) none) none)) (
 (lh b 0 d.1).bind fun i=>
 br (cP ((([]:List au)++i).length) 24) (
 br (cP (((([]:List au)++i)++([(au.mk a c e)]:List au)).length) 24) (
 (lh b d.1 ((b.length:Nat):Int)).bind fun n=>
 br (cP ((((([]:List au)++i)++([(au.mk a c e)]:List au))++n).length) 24) (
 some (((([]:List au)++i)++([(au.mk a c e)]:List au))++n)) none) none) none)
theorem Ya {b a c d r} (h:aD b a c d=some r):Call tab ow 259 [sl aA b,I a,I c,I d] []=some (sl aA r,[]):=by
 rw [aj (af:=xl) rfl]
 unfold aD at h
 simp only [xl,E4]
 have d1:= @TE
 have d2:= @JN
 exact go2
end
end
end Go.AI.Fn
set_option linter.unusedVariables false
set_option linter.unusedSimpArgs false
set_option maxRecDepth 100000
set_option maxHeartbeats 1000000
namespace Go.AI.Fn
noncomputable section
open IntKind (wrap)
section
theorem Se:mkR 3003 []=rws aA []:=rfl
attribute [local go_sem] Se
theorem SX:mkR 3004 []=rws aA []:=rfl
attribute [local go_sem] SX
theorem Tw:mkR 3005 []=rws aA []:=rfl
attribute [local go_sem] Tw
def gX (t:List Int) (c:List Gate) (c2 c3 c4 c5 c6 c7:Int):Int×Int×(List au)×(List au)×(List au)->Option ((Int×Int×(List au)×(List au)×(List au))⊕((Int×Int×Bool×(List au)×(List au)×(List au))))
 | (a,b,f,e,d)=>
   br (decide (b<((c.length:Nat):Int))) (
   (atL c b).bind fun x=>
   br (x.Op==1) (
   br (x.Op==1) (
   some (.inl (a,(wrap .i64 (b+1)),f,e,d))) (
   br (x.Op==6) (
   (atL t x.A).bind fun x2=>
   (aD f a x2 1).bind fun r_3=>
   (atL t x.B).bind fun x3=>
   (aD e a x3 1).bind fun r_4=>
   (atL t b).bind fun x4=>
   (aD d a x4 1).bind fun r_5=>
   some (.inl ((wrap .i64 (a+1)),(wrap .i64 (b+1)),r_3,r_4,r_5))) (
   br (x.Op==4) (
   br (x.Op==4) (
   (atL t x.A).bind fun x5=>
   (aD f a x5 1).bind fun r_6=>
   br (x.Op==5) (
   (atL t x.B).bind fun x6=>
   (aD r_6 a x6 2130706432).bind fun r_7=>
   (aD e a 0 1).bind fun r_8=>
   (atL t b).bind fun x7=>
   (aD d a x7 1).bind fun r_9=>
   some (.inl ((wrap .i64 (a+1)),(wrap .i64 (b+1)),r_7,r_8,r_9))) (
   (atL t x.B).bind fun x8=>
   (aD r_6 a x8 1).bind fun r_10=>
   (aD e a 0 1).bind fun r_11=>
   (atL t b).bind fun x9=>
   (aD d a x9 1).bind fun r_12=>
   some (.inl ((wrap .i64 (a+1)),(wrap .i64 (b+1)),r_10,r_11,r_12)))) (
   br (x.Op==3) (
   br (decide (x.K>0)) (
   (aD f a 0 x.K).bind fun r_13=>
   (aD e a 0 1).bind fun r_14=>
   (atL t b).bind fun x10=>
   (aD d a x10 1).bind fun w=>
   some (.inl ((wrap .i64 (a+1)),(wrap .i64 (b+1)),r_13,r_14,w))) (
   (aD e a 0 1).bind fun r_16=>
   (atL t b).bind fun x11=>
   (aD d a x11 1).bind fun r_17=>
   some (.inl ((wrap .i64 (a+1)),(wrap .i64 (b+1)),f,r_16,r_17)))) (
   br (x.Op==7) (
   (atL t x.B).bind fun x12=>
   (aD f a x12 1).bind fun r_18=>
   (aD e a 0 1).bind fun r_19=>
   (atL t b).bind fun x13=>
   (aD d a x13 1).bind fun r_20=>
   (atL t x.A).bind fun x14=>
   (aD r_18 (wrap .i64 (a+1)) x14 1).bind fun r_21=>
   (aD r_19 (wrap .i64 (a+1)) 0 1).bind fun r_22=>
   (atL t b).bind fun x15=>
   (aD r_20 (wrap .i64 (a+1)) x15 1).bind fun r_23=>
   some (.inl ((wrap .i64 ((wrap .i64 (a+1))+1)),(wrap .i64 (b+1)),r_21,r_22,r_23))) (
   br (x.Op==8) (
   (atL t x.A).bind fun x16=>
   (aD f a x16 1).bind fun r_24=>
   (atL t x.A).bind fun x17=>
   (aD e a x17 1).bind fun r_25=>
   (atL t b).bind fun x18=>
   (aD d a x18 1).bind fun r_26=>
   (atL t x.A).bind fun x19=>
   (aD r_24 (wrap .i64 (a+1)) x19 1).bind fun r_27=>
   (aD r_25 (wrap .i64 (a+1)) 0 1).bind fun r_28=>
   (atL t b).bind fun x20=>
   (aD r_26 (wrap .i64 (a+1)) x20 1).bind fun r_29=>
   some (.inl ((wrap .i64 ((wrap .i64 (a+1))+1)),(wrap .i64 (b+1)),r_27,r_28,r_29))) (
   (atL t b).bind fun x21=>
   (aD d a x21 1).bind fun r_30=>
   some (.inl ((wrap .i64 (a+1)),(wrap .i64 (b+1)),f,e,r_30))))))) (
   br (x.Op==5) (
   (atL t x.A).bind fun x22=>
   (aD f a x22 1).bind fun j=>
   br (x.Op==5) (
   (atL t x.B).bind fun x23=>
   (aD j a x23 2130706432).bind fun r_32=>
   (aD e a 0 1).bind fun r_33=>
   (atL t b).bind fun x24=>
   (aD d a x24 1).bind fun r_34=>
   some (.inl ((wrap .i64 (a+1)),(wrap .i64 (b+1)),r_32,r_33,r_34))) (
   (atL t x.B).bind fun x25=>
   (aD j a x25 1).bind fun r_35=>
   (aD e a 0 1).bind fun r_36=>
   (atL t b).bind fun x26=>
   (aD d a x26 1).bind fun r_37=>
   some (.inl ((wrap .i64 (a+1)),(wrap .i64 (b+1)),r_35,r_36,r_37)))) (
   br (x.Op==3) (
   br (decide (x.K>0)) (
   (aD f a 0 x.K).bind fun r_38=>
   (aD e a 0 1).bind fun r_39=>
   (atL t b).bind fun x27=>
   (aD d a x27 1).bind fun r_40=>
   some (.inl ((wrap .i64 (a+1)),(wrap .i64 (b+1)),r_38,r_39,r_40))) (
   (aD e a 0 1).bind fun r_41=>
   (atL t b).bind fun x28=>
   (aD d a x28 1).bind fun u=>
   some (.inl ((wrap .i64 (a+1)),(wrap .i64 (b+1)),f,r_41,u)))) (
   br (x.Op==7) (
   (atL t x.B).bind fun x29=>
   (aD f a x29 1).bind fun r_43=>
   (aD e a 0 1).bind fun r_44=>
   (atL t b).bind fun x30=>
   (aD d a x30 1).bind fun r_45=>
   (atL t x.A).bind fun x31=>
   (aD r_43 (wrap .i64 (a+1)) x31 1).bind fun r_46=>
   (aD r_44 (wrap .i64 (a+1)) 0 1).bind fun r_47=>
   (atL t b).bind fun x32=>
   (aD r_45 (wrap .i64 (a+1)) x32 1).bind fun r_48=>
   some (.inl ((wrap .i64 ((wrap .i64 (a+1))+1)),(wrap .i64 (b+1)),r_46,r_47,r_48))) (
   br (x.Op==8) (
   (atL t x.A).bind fun x33=>
   (aD f a x33 1).bind fun r_49=>
   (atL t x.A).bind fun x34=>
   (aD e a x34 1).bind fun r_50=>
   (atL t b).bind fun x35=>
   (aD d a x35 1).bind fun r_51=>
   (atL t x.A).bind fun x36=>
   (aD r_49 (wrap .i64 (a+1)) x36 1).bind fun r_52=>
   (aD r_50 (wrap .i64 (a+1)) 0 1).bind fun r_53=>
   (atL t b).bind fun x37=>
   (aD r_51 (wrap .i64 (a+1)) x37 1).bind fun v=>
   some (.inl ((wrap .i64 ((wrap .i64 (a+1))+1)),(wrap .i64 (b+1)),r_52,r_53,v))) (
   (atL t b).bind fun x38=>
   (aD d a x38 1).bind fun r_55=>
   some (.inl ((wrap .i64 (a+1)),(wrap .i64 (b+1)),f,e,r_55)))))))))) (
   br (x.Op==2) (
   some (.inl (a,(wrap .i64 (b+1)),f,e,d))) (
   br (x.Op==6) (
   (atL t x.A).bind fun x39=>
   (aD f a x39 1).bind fun r_56=>
   (atL t x.B).bind fun x40=>
   (aD e a x40 1).bind fun r_57=>
   (atL t b).bind fun x41=>
   (aD d a x41 1).bind fun r_58=>
   some (.inl ((wrap .i64 (a+1)),(wrap .i64 (b+1)),r_56,r_57,r_58))) (
   br (x.Op==4) (
   br (x.Op==4) (
   (atL t x.A).bind fun x42=>
   (aD f a x42 1).bind fun i=>
   br (x.Op==5) (
   (atL t x.B).bind fun x43=>
   (aD i a x43 2130706432).bind fun r_60=>
   (aD e a 0 1).bind fun r_61=>
   (atL t b).bind fun x44=>
   (aD d a x44 1).bind fun y=>
   some (.inl ((wrap .i64 (a+1)),(wrap .i64 (b+1)),r_60,r_61,y))) (
   (atL t x.B).bind fun x45=>
   (aD i a x45 1).bind fun r_63=>
   (aD e a 0 1).bind fun r_64=>
   (atL t b).bind fun x46=>
   (aD d a x46 1).bind fun r_65=>
   some (.inl ((wrap .i64 (a+1)),(wrap .i64 (b+1)),r_63,r_64,r_65)))) (
   br (x.Op==3) (
   br (decide (x.K>0)) (
   (aD f a 0 x.K).bind fun r_66=>
   (aD e a 0 1).bind fun r_67=>
   (atL t b).bind fun x47=>
   (aD d a x47 1).bind fun r_68=>
   some (.inl ((wrap .i64 (a+1)),(wrap .i64 (b+1)),r_66,r_67,r_68))) (
   (aD e a 0 1).bind fun r_69=>
   (atL t b).bind fun x48=>
   (aD d a x48 1).bind fun r_70=>
   some (.inl ((wrap .i64 (a+1)),(wrap .i64 (b+1)),f,r_69,r_70)))) (
   br (x.Op==7) (
   (atL t x.B).bind fun x49=>
   (aD f a x49 1).bind fun r_71=>
   (aD e a 0 1).bind fun r_72=>
   (atL t b).bind fun x50=>
   (aD d a x50 1).bind fun r_73=>
   (atL t x.A).bind fun x51=>
   (aD r_71 (wrap .i64 (a+1)) x51 1).bind fun r_74=>
   (aD r_72 (wrap .i64 (a+1)) 0 1).bind fun r_75=>
   (atL t b).bind fun x52=>
   (aD r_73 (wrap .i64 (a+1)) x52 1).bind fun r_76=>
   some (.inl ((wrap .i64 ((wrap .i64 (a+1))+1)),(wrap .i64 (b+1)),r_74,r_75,r_76))) (
   br (x.Op==8) (
   (atL t x.A).bind fun x53=>
   (aD f a x53 1).bind fun r_77=>
   (atL t x.A).bind fun x54=>
   (aD e a x54 1).bind fun r_78=>
   (atL t b).bind fun x55=>
   (aD d a x55 1).bind fun r_79=>
   (atL t x.A).bind fun x56=>
   (aD r_77 (wrap .i64 (a+1)) x56 1).bind fun r_80=>
   (aD r_78 (wrap .i64 (a+1)) 0 1).bind fun r_81=>
   (atL t b).bind fun x57=>
   (aD r_79 (wrap .i64 (a+1)) x57 1).bind fun r_82=>
   some (.inl ((wrap .i64 ((wrap .i64 (a+1))+1)),(wrap .i64 (b+1)),r_80,r_81,r_82))) (
   (atL t b).bind fun x58=>
   (aD d a x58 1).bind fun r_83=>
   some (.inl ((wrap .i64 (a+1)),(wrap .i64 (b+1)),f,e,r_83))))))) (
   br (x.Op==5) (
   (atL t x.A).bind fun x59=>
   (aD f a x59 1).bind fun h=>
   br (x.Op==5) (
   (atL t x.B).bind fun x60=>
   (aD h a x60 2130706432).bind fun r_85=>
   (aD e a 0 1).bind fun r_86=>
   (atL t b).bind fun x61=>
   (aD d a x61 1).bind fun r_87=>
   some (.inl ((wrap .i64 (a+1)),(wrap .i64 (b+1)),r_85,r_86,r_87))) (
   (atL t x.B).bind fun x62=>
   (aD h a x62 1).bind fun r_88=>
   (aD e a 0 1).bind fun r_89=>
   (atL t b).bind fun x63=>
   (aD d a x63 1).bind fun r_90=>
   some (.inl ((wrap .i64 (a+1)),(wrap .i64 (b+1)),r_88,r_89,r_90)))) (
   br (x.Op==3) (
   br (decide (x.K>0)) (
   (aD f a 0 x.K).bind fun r_91=>
   (aD e a 0 1).bind fun r_92=>
   (atL t b).bind fun x64=>
   (aD d a x64 1).bind fun r_93=>
   some (.inl ((wrap .i64 (a+1)),(wrap .i64 (b+1)),r_91,r_92,r_93))) (
   (aD e a 0 1).bind fun z=>
   (atL t b).bind fun x65=>
   (aD d a x65 1).bind fun r_95=>
   some (.inl ((wrap .i64 (a+1)),(wrap .i64 (b+1)),f,z,r_95)))) (
   br (x.Op==7) (
   (atL t x.B).bind fun x66=>
   (aD f a x66 1).bind fun r_96=>
   (aD e a 0 1).bind fun r_97=>
   (atL t b).bind fun x67=>
   (aD d a x67 1).bind fun r_98=>
   (atL t x.A).bind fun x68=>
   (aD r_96 (wrap .i64 (a+1)) x68 1).bind fun r_99=>
   (aD r_97 (wrap .i64 (a+1)) 0 1).bind fun m=>
   (atL t b).bind fun x69=>
   (aD r_98 (wrap .i64 (a+1)) x69 1).bind fun q=>
   some (.inl ((wrap .i64 ((wrap .i64 (a+1))+1)),(wrap .i64 (b+1)),r_99,m,q))) (
   br (x.Op==8) (
   (atL t x.A).bind fun x70=>
   (aD f a x70 1).bind fun n=>
   (atL t x.A).bind fun x71=>
   (aD e a x71 1).bind fun s=>
   (atL t b).bind fun x72=>
   (aD d a x72 1).bind fun o=>
   (atL t x.A).bind fun x73=>
   (aD n (wrap .i64 (a+1)) x73 1).bind fun p=>
   (aD s (wrap .i64 (a+1)) 0 1).bind fun k=>
   (atL t b).bind fun x74=>
   (aD o (wrap .i64 (a+1)) x74 1).bind fun l=>
   some (.inl ((wrap .i64 ((wrap .i64 (a+1))+1)),(wrap .i64 (b+1)),p,k,l))) (
   (atL t b).bind fun x75=>
   (aD d a x75 1).bind fun r=>
   some (.inl ((wrap .i64 (a+1)),(wrap .i64 (b+1)),f,e,r))))))))))) (
   some (.inr (a,b,decide (b<((c.length:Nat):Int)),f,e,d)))
abbrev wC (c:List Gate) (e k i d j h:Int) (b f a:List au):List (Nat×Blk):=[(1000,⟨1,true,[[sl eGate c]]⟩),(1001,⟨6,true,[[I e,I k,I i,.lit (.slice none 0 0),.lit (.slice none 0 0),.lit (.slice none 0 0)]]⟩),(3007,⟨6,true,[[I d,I j,I h,sl aA b,sl aA f,sl aA a]]⟩)]
theorem Pv {t c b j f a i d}:LX tab ow (.close [8005,13008,14008,17008,21009,22003,25005,26003,28008,29003,30007,32008,33003,35008,36008,37007,39008,40003,41007,3003,3004,3005]) EI (gX t c b j f a i d) (fun s=>⟨[(1,.ptr 1000 0 0 1),(2,.ptr 1001 0 0 1),(3,sl eI t),(5,.ptr 3007 0 0 1),(6,I s.1),(7,I s.2.1)],wC c b j f a i d s.2.2.1 s.2.2.2.1 s.2.2.2.2⟩) (fun e=>(.exit 0,⟨[(1,.ptr 1000 0 0 1),(2,.ptr 1001 0 0 1),(3,sl eI t),(5,.ptr 3007 0 0 1),(6,I e.1),(7,I e.2.1),(26,B e.2.2.1)],wC c b j f a i d e.2.2.2.1 e.2.2.2.2.1 e.2.2.2.2.2⟩)):=by
 refine lrX (fun s o h=> ?_)
 obtain ⟨_,_,_,_,_⟩:=s
 simp only [gX] at h
 simp only [wC,EI,ED]
 have d1:= @Ya
 exact go2
def qJ (b:Int) (d:List Gate) (e c i h j:Int) (f k l:List au):Int->Option ((Int)⊕((Bool×Int)))
 |a=>
  br (decide (0<=(wrap .u64 a))) (
  br (decide ((bG .i64 1 (wrap .u64 a))<b)) (
  some (.inl (wrap .i64 (a+1)))) (
  some (.inr (decide ((bG .i64 1 (wrap .u64 a))<b),a)))) none
abbrev wL (b:List Gate) (c a f e h:Int) (d i k:List au) (j:Int):List (Nat×Blk):=[(1000,⟨1,true,[[sl eGate b]]⟩),(1001,⟨6,true,[[I c,I a,I f,.lit (.slice none 0 0),.lit (.slice none 0 0),.lit (.slice none 0 0)]]⟩),(3007,⟨6,true,[[I j,I e,I h,sl aA d,sl aA i,sl aA k]]⟩)]
theorem Px {m b c a i f j d k l}:LX tab ow (.close []) CE (qJ m b c a i f j d k l) (fun s=>⟨[(2,.ptr 1001 0 0 1),(5,.ptr 3007 0 0 1),(6,I m)],wL b c a i f j d k l s⟩) (fun e=>(.exit 3,⟨[(2,.ptr 1001 0 0 1),(5,.ptr 3007 0 0 1),(6,I m),(218,B e.1)],wL b c a i f j d k l e.2⟩)):=by
 refine lrX (fun s o h=> ?_)
 simp only [qJ] at h
 simp only [wL,CE,CK]
 exact go2
def wq (a:Circuit):Option (bk):=
 (C8 a).bind fun d=>
 (rg a 2).bind fun b=>
 (Loop (gX d.1 a.Gates 0 0 0 0 d.2 b) (0,0,([]:List au),([]:List au),([]:List au))).bind fun c=>
 (Loop (qJ c.1 a.Gates 0 0 0 d.2 b c.2.2.2.1 c.2.2.2.2.1 c.2.2.2.2.2) 1).bind fun e=>
 some (bk.mk e.2 d.2 b c.2.2.2.1 c.2.2.2.2.1 c.2.2.2.2.2)
theorem Vy {a r} (h:wq a=some r):Call tab ow 137 [.agg [sl eGate a.Gates]] []=some (.agg [I r.Rows,I r.Cols,I r.Publics,sl aA r.A,sl aA r.B,sl aA r.C],[]):=by
 rw [aj (af:=uu) rfl]
 unfold wq at h
 simp only [uu,uv]
 have d1:= @a4k
 have d2:= @DO
 have d3:= @Pv
 have d4:= @Px
 exact go2
end
section
theorem Rc:mkR 2009 []=rws eU8 []:=rfl
attribute [local go_sem] Rc
theorem QM:mkR 3006 []=rws (eL aA) []:=rfl
attribute [local go_sem] QM
theorem RN:mkR 12007 []=rws eU8 []:=rfl
attribute [local go_sem] RN
def iP (n:List UInt8) (e:List (List au)) (c p m o:Int) (i j k:List au):(List UInt8)×Int->Option (((List UInt8)×Int)⊕(((List UInt8)×Int×Bool)))
 | (f,d)=>
   br (decide (0<=c)) (
   br (decide (c.toNat<e.length)) (
   (e[c.toNat]?).bind fun h=>
   br (decide (d<((h.length:Nat):Int))) (
   br (decide (0<=c)) (
   br (decide (c.toNat<e.length)) (
   (e[c.toNat]?).bind fun l=>
   (atL l d).bind fun b=>
   (g9 b.Value 4).bind fun a=>
   br (cP (([(UInt8.ofInt b.Row),(UInt8.ofInt b.Col)]:List UInt8).length+a.length) 1) (
   br (cP (f.length+(([(UInt8.ofInt b.Row),(UInt8.ofInt b.Col)]:List UInt8)++a).length) 1) (
   some (.inl ((f++(([(UInt8.ofInt b.Row),(UInt8.ofInt b.Col)]:List UInt8)++a)),(wrap .i64 (d+1))))) none) none) none) none) (
   some (.inr (f,d,decide (d<((h.length:Nat):Int)))))) none) none
abbrev wT (e:List UInt8) (f:List (List au)) (i d h:Int) (a b c:List au):List (Nat×Blk):=[(1000,⟨6,true,[[I i,I d,I h,sl aA a,sl aA b,sl aA c]]⟩),(2009,⟨1,false,rws eU8 e⟩),(3006,⟨1,false,rws (eL aA) f⟩)]
theorem PJ {j d i l f k a b c}:LX tab ow (.close [11007,12007,12011]) EV (iP j d i l f k a b c) (fun s=>⟨[(3,S s.1),(4,.sl 3006 0 d.length),(5,I i),(6,I s.2)],wT j d l f k a b c⟩) (fun e=>(.exit 2,⟨[(3,S e.1),(4,.sl 3006 0 d.length),(5,I i),(6,I e.2.1),(46,B e.2.2)],wT j d l f k a b c⟩)):=by
 refine lrX (fun s o h=> ?_)
 obtain ⟨_,_⟩:=s
 simp only [iP] at h
 simp only [wT,EV,Ey]
 have d1:= @jm
 exact go2
def kh (l:List UInt8) (b:List (List au)) (c f k:Int) (i e j:List au):(List UInt8)×Int->Option (((List UInt8)×Int)⊕(((List UInt8)×Int×Bool)))
 | (t,a)=>
   br (decide (a<3)) (
   br (decide (0<=a)) (
   br (decide (a.toNat<b.length)) (
   (b[a.toNat]?).bind fun x=>
   (g9 ((x.length:Nat):Int) 4).bind fun d=>
   br (cP (t.length+d.length) 1) (
   (Loop (iP l b a c f k i e j) ((t++d),0)).bind fun h=>
   some (.inl (h.1,(wrap .i64 (a+1))))) none) none) none) (
   some (.inr (t,a,decide (a<3))))
abbrev wD (l:List UInt8) (h:List (List au)) (c b f:Int) (d a e:List au):List (Nat×Blk):=[(1000,⟨6,true,[[I c,I b,I f,sl aA d,sl aA a,sl aA e]]⟩),(2009,⟨1,false,rws eU8 l⟩),(3006,⟨1,false,rws (eL aA) h⟩)]
theorem Pq {l a c d j f b i}:LX tab ow (.close [7006,11007,12007,12011]) Ff (kh l a c d j f b i) (fun s=>⟨[(3,S s.1),(4,.sl 3006 0 a.length),(5,I s.2)],wD l a c d j f b i⟩) (fun e=>(.exit 0,⟨[(3,S e.1),(4,.sl 3006 0 a.length),(5,I e.2.1),(28,B e.2.2)],wD l a c d j f b i⟩)):=by
 refine lrX (fun s o h=> ?_)
 obtain ⟨_,_⟩:=s
 simp only [kh] at h
 simp only [wD,Ff,EY]
 have d1:= @jm
 have d2:= @PJ
 exact go2
def vK (a:bk):Option ((List UInt8)):=
 br (cP ((([115,121,115,116,101,109]:List UInt8)).length+([(UInt8.ofInt a.Rows),(UInt8.ofInt a.Cols),(UInt8.ofInt a.Publics)]:List UInt8).length) 1) (
 (Loop (kh ([(UInt8.ofInt a.Rows),(UInt8.ofInt a.Cols),(UInt8.ofInt a.Publics)]:List UInt8) ([a.A,a.B,a.C]:List (List au)) a.Rows a.Cols a.Publics a.A a.B a.C) (((([115,121,115,116,101,109]:List UInt8))++([(UInt8.ofInt a.Rows),(UInt8.ofInt a.Cols),(UInt8.ofInt a.Publics)]:List UInt8)),0)).bind fun c=>
 (lx c.1).bind fun b=>
 some b) none
theorem VX {a r} (h:vK a=some r):Call tab ow 336 [.agg [I a.Rows,I a.Cols,I a.Publics,sl aA a.A,sl aA a.B,sl aA a.C]] []=some (S r,[]):=by
 rw [aj (af:=vg) rfl]
 unfold vK at h
 simp only [vg,uP]
 have d1:= @Pq
 have d2:= @rT
 exact go2
end
section
theorem Vx:mkR 2011 []=rws eU8 []:=rfl
attribute [local go_sem] Vx
def jE (l:List UInt8) (a:List Int) (c r q:Int) (v p u:List au) (t o s:Int) (f:List Ext) (h:Int) (j:List UInt8) (e m:Int) (n:List UInt8) (k:Int):(List UInt8)×Int->Option (((List UInt8)×Int)⊕(((List UInt8)×Int×Bool)))
 | (b,i)=>
   br (decide (i<((a.length:Nat):Int))) (
   (atL a i).bind fun x=>
   (g9 x 4).bind fun d=>
   br (cP (b.length+d.length) 1) (
   some (.inl ((b++d),(wrap .i64 (i+1))))) none) (
   some (.inr (b,i,decide (i<((a.length:Nat):Int)))))
abbrev yX (l:List UInt8) (c n m:Int) (r k q:List au) (p j o:Int) (b:List Ext) (d:Int) (e:List UInt8) (a h:Int) (i:List UInt8) (f:Int):List (Nat×Blk):=[(1000,⟨6,true,[[I c,I n,I m,sl aA r,sl aA k,sl aA q]]⟩),(1001,⟨3,true,[[I p,I j,I o]]⟩),(1002,⟨4,true,[[sl eExt b,I d,S e,I a]]⟩),(1003,⟨4,true,[[.lit (.slice none 0 0),I h,S i,I f]]⟩),(2011,⟨1,false,rws eU8 l⟩)]
theorem Rb {l a c r q w p v u n t d f i b k m j}:LX tab ow (.close [6005]) Hh (jE l a c r q w p v u n t d f i b k m j) (fun s=>⟨[(2,sl eI a),(7,.ptr 1002 0 0 1),(8,.ptr 1003 0 0 1),(9,S s.1),(10,I s.2)],yX l c r q w p v u n t d f i b k m j⟩) (fun e=>(.exit 0,⟨[(2,sl eI a),(7,.ptr 1002 0 0 1),(8,.ptr 1003 0 0 1),(9,S e.1),(10,I e.2.1),(28,B e.2.2)],yX l c r q w p v u n t d f i b k m j⟩)):=by
 refine lrX (fun s o h=> ?_)
 obtain ⟨_,_⟩:=s
 simp only [jE] at h
 simp only [yX,Hh,H7]
 have d1:= @jm
 exact go2
def yG (s:bk) (t:Setting) (b:(List Int)) (a:Source):Option (Source):=
 (vK s).bind fun d=>
 br (cP (d.length+([(UInt8.ofInt t.Rate),(UInt8.ofInt t.Queries),(UInt8.ofInt t.Grind)]:List UInt8).length) 1) (
 (Loop (jE ([(UInt8.ofInt t.Rate),(UInt8.ofInt t.Queries),(UInt8.ofInt t.Grind)]:List UInt8) b s.Rows s.Cols s.Publics s.A s.B s.C t.Rate t.Queries t.Grind a.Script a.At a.State a.Count 0 (([]:List UInt8)) 0) ((d++([(UInt8.ofInt t.Rate),(UInt8.ofInt t.Queries),(UInt8.ofInt t.Grind)]:List UInt8)),0)).bind fun e=>
 (kz a e.1).bind fun c=>
 some c) none
theorem Zv {s t b a r} (h:yG s t b a=some r):Call tab ow 250 [.agg [I s.Rows,I s.Cols,I s.Publics,sl aA s.A,sl aA s.B,sl aA s.C],.agg [I t.Rate,I t.Queries,I t.Grind],sl eI b,.agg [sl eExt a.Script,I a.At,S a.State,I a.Count]] []=some (.agg [sl eExt r.Script,I r.At,S r.State,I r.Count],[]):=by
 rw [aj (af:=xQ) rfl]
 unfold yG at h
 simp only [xQ,DP]
 have d1:= @VX
 have d2:= @Rb
 have d3:= @qw
 exact go2
end
section
theorem Y4: ∀k,Ck 2001 k [I (0:Int),I (0:Int)]=rws eExt (List.replicate k (Ext.mk (0:Int) (0:Int))):=fun _=>Nh eExt (Ext.mk (0:Int) (0:Int)) _ _
attribute [local go_sem] Y4
def vh (a:List Int):(List Ext)×Int->Option (((List Ext)×Int)⊕(((List Ext)×Int×Bool)))
 | (l,i)=>
   br (decide (i<((a.length:Nat):Int))) (
   (atL a i).bind fun x=>
   (sv x).bind fun b=>
   br (decide (0<=i)) (
   br (decide (i.toNat<l.length)) (
   (l[i.toNat]?).bind fun c=>
   some (.inl ((l.set i.toNat b),(wrap .i64 (i+1))))) none) none) (
   some (.inr (l,i,decide (i<((a.length:Nat):Int)))))
theorem UU {a}:LX tab ow (.close [6006]) Iy (vh a) (fun s=>⟨[(0,sl eI a),(5,.sl 2001 0 s.1.length),(6,I s.2)],[(2001,⟨2,false,rws eExt s.1⟩)]⟩) (fun e=>(.exit 0,⟨[(0,sl eI a),(5,.sl 2001 0 e.1.length),(6,I e.2.1),(12,B e.2.2)],[(2001,⟨2,false,rws eExt e.1⟩)]⟩)):=by
 refine lrX (fun s o h=> ?_)
 obtain ⟨_,_⟩:=s
 simp only [vh] at h
 simp only [Iy,Iu]
 have d1:= @yq
 exact go2
def BK (a:(List Int)) (n:Int):Option ((List Ext)):=
 br (zJ n n 16) (
 (Loop (vh a) ((List.replicate n.toNat (Ext.mk (0:Int) (0:Int))),(0:Int))).bind fun b=>
 some b.1) none
theorem a3A {a n r} (h:BK a n=some r):Call tab ow 251 [sl eI a,I n] []=some (sl eExt r,[]):=by
 rw [aj (af:=Aa) rfl]
 unfold BK at h
 simp only [Aa,GP]
 have d1:= @UU
 exact go2
end
section
theorem RV: ∀k,Ck 3002 k [I (0:Int)]=rws eI (List.replicate k (0:Int)):=fun _=>Nh eI (0:Int) _ _
attribute [local go_sem] RV
def iR (a b:List Int) (d c h n:Int) (j f k:List au):(List Int)×Int->Option (((List Int)×Int)⊕(((List Int)×Int×Bool)))
 | (l,i)=>
   br (decide (i<((a.length:Nat):Int))) (
   (atL a i).bind fun e=>
   br (decide (0<=(wrap .i64 (1+i)))) (
   br (decide ((wrap .i64 (1+i)).toNat<l.length)) (
   (l[(wrap .i64 (1+i)).toNat]?).bind fun m=>
   some (.inl ((l.set ((wrap .i64 (1+i)).toNat) e),(wrap .i64 (i+1))))) none) none) (
   some (.inr (l,i,decide (i<((a.length:Nat):Int)))))
abbrev qy (c b f:Int) (d a e:List au) (l:List Int):List (Nat×Blk):=[(1000,⟨6,true,[[I c,I b,I f,sl aA d,sl aA a,sl aA e]]⟩),(3002,⟨1,false,rws eI l⟩)]
theorem P1 {b a d c i l j f k}:LX tab ow (.close []) EJ (iR b a d c i l j f k) (fun s=>⟨[(1,sl eI b),(2,sl eI a),(7,I d),(8,.sl 3002 0 s.1.length),(9,I s.2)],qy c i l j f k s.1⟩) (fun e=>(.exit 0,⟨[(1,sl eI b),(2,sl eI a),(7,I d),(8,.sl 3002 0 e.1.length),(9,I e.2.1),(24,B e.2.2)],qy c i l j f k e.1⟩)):=by
 refine lrX (fun s o h=> ?_)
 obtain ⟨_,_⟩:=s
 simp only [iR] at h
 simp only [qy,EJ,Ep]
 exact go2
def iQ (a:List Int) (b m j l:Int) (e f h:List au):(List Int)×Int->Option (((List Int)×Int)⊕(((List Int)×Int×Bool)))
 | (d,c)=>
   br (decide (c<((a.length:Nat):Int))) (
   (atL a c).bind fun i=>
   br (decide (0<=(wrap .i64 (b+c)))) (
   br (decide ((wrap .i64 (b+c)).toNat<d.length)) (
   (d[(wrap .i64 (b+c)).toNat]?).bind fun k=>
   some (.inl ((d.set ((wrap .i64 (b+c)).toNat) i),(wrap .i64 (c+1))))) none) none) (
   some (.inr (d,c,decide (c<((a.length:Nat):Int)))))
abbrev wR (f d e:Int) (a b c:List au) (h:List Int):List (Nat×Blk):=[(1000,⟨6,true,[[I f,I d,I e,sl aA a,sl aA b,sl aA c]]⟩),(3002,⟨1,false,rws eI h⟩)]
theorem PH {a b k i j c d f}:LX tab ow (.close []) Et (iQ a b k i j c d f) (fun s=>⟨[(2,sl eI a),(7,I b),(8,.sl 3002 0 s.1.length),(10,I s.2)],wR k i j c d f s.1⟩) (fun e=>(.exit 2,⟨[(2,sl eI a),(7,I b),(8,.sl 3002 0 e.1.length),(10,I e.2.1),(38,B e.2.2)],wR k i j c d f e.1⟩)):=by
 refine lrX (fun s o h=> ?_)
 obtain ⟨_,_⟩:=s
 simp only [iQ] at h
 simp only [wR,Et,Ew]
 exact go2
def wu (s:bk) (b a:(List Int)):Option ((List Int)):=
 br (decide (0<=(wrap .u64 (wrap .i64 (s.Cols-1))))) (
 br (zJ (wrap .i64 (2*(bG .i64 1 (wrap .u64 (wrap .i64 (s.Cols-1)))))) (wrap .i64 (2*(bG .i64 1 (wrap .u64 (wrap .i64 (s.Cols-1)))))) 8) (
 br (decide (0<(List.replicate ((wrap .i64 ((2:Int)*(bG .i64 (1:Int) (wrap .u64 (wrap .i64 (s.Cols-(1:Int))))))).toNat) (0:Int)).length)) (
 ((List.replicate ((wrap .i64 ((2:Int)*(bG .i64 (1:Int) (wrap .u64 (wrap .i64 (s.Cols-(1:Int))))))).toNat) (0:Int))[0]?).bind fun x=>
 (Loop (iR b a (bG .i64 (1:Int) (wrap .u64 (wrap .i64 (s.Cols-(1:Int))))) s.Rows s.Cols s.Publics s.A s.B s.C) (((List.replicate ((wrap .i64 ((2:Int)*(bG .i64 (1:Int) (wrap .u64 (wrap .i64 (s.Cols-(1:Int))))))).toNat) (0:Int)).set 0 (1:Int)),(0:Int))).bind fun d=>
 (Loop (iQ a (bG .i64 1 (wrap .u64 (wrap .i64 (s.Cols-1)))) s.Rows s.Cols s.Publics s.A s.B s.C) (d.1,0)).bind fun c=>
 some c.1) none) none) none
theorem UQ {s b a r} (h:wu s b a=some r):Call tab ow 252 [.agg [I s.Rows,I s.Cols,I s.Publics,sl aA s.A,sl aA s.B,sl aA s.C],sl eI b,sl eI a] []=some (sl eI r,[]):=by
 rw [aj (af:=uZ) rfl]
 unfold wu at h
 simp only [uZ,uC]
 have d1:= @P1
 simp only [qy] at d1
 have d2:= @PH
 exact go2
end
section
theorem VE: ∀k,Ck 2004 k [I (0:Int),I (0:Int)]=rws eExt (List.replicate k (Ext.mk (0:Int) (0:Int))):=fun _=>Nh eExt (Ext.mk (0:Int) (0:Int)) _ _
attribute [local go_sem] VE
theorem Vc:mkR 4006 []=rws (eL aA) []:=rfl
attribute [local go_sem] Vc
def fI (e:List (List au)) (p r:List Ext) (b w t v:Int) (o s l:List au):(List Ext)×Int->Option (((List Ext)×Int)⊕(((List Ext)×Int×Bool)))
 | (c,d)=>
   br (decide (0<=b)) (
   br (decide (b.toNat<e.length)) (
   (e[b.toNat]?).bind fun x=>
   br (decide (d<((x.length:Nat):Int))) (
   br (decide (0<=b)) (
   br (decide (b.toNat<e.length)) (
   (e[b.toNat]?).bind fun n=>
   (atL n d).bind fun a=>
   br (decide (0<=a.Col)) (
   br (decide (a.Col.toNat<c.length)) (
   (c[a.Col.toNat]?).bind fun q=>
   (atL p b).bind fun m=>
   (sv a.Value).bind fun h=>
   (atL r a.Row).bind fun k=>
   (dD h k).bind fun i=>
   (dD m i).bind fun f=>
   (j1 q f).bind fun j=>
   br (decide (0<=a.Col)) (
   br (decide (a.Col.toNat<c.length)) (
   (c[a.Col.toNat]?).bind fun u=>
   some (.inl ((c.set a.Col.toNat j),(wrap .i64 (d+1))))) none) none) none) none) none) none) (
   some (.inr (c,d,decide (d<((x.length:Nat):Int)))))) none) none
abbrev yA (f:List (List au)) (i d e:Int) (a b c:List au) (h:List Ext):List (Nat×Blk):=[(1000,⟨6,true,[[I i,I d,I e,sl aA a,sl aA b,sl aA c]]⟩),(2004,⟨2,false,rws eExt h⟩),(4006,⟨1,false,rws (eL aA) f⟩)]
theorem Uj {d j m f l i k a b c}:LX tab ow (.close [11007,12014,12020,12021,12022]) FX (fI d j m f l i k a b c) (fun s=>⟨[(2,sl eExt j),(7,.sl 2004 0 s.1.length),(8,sl eExt m),(9,.sl 4006 0 d.length),(10,I f),(11,I s.2)],yA d l i k a b c s.1⟩) (fun e=>(.exit 2,⟨[(2,sl eExt j),(7,.sl 2004 0 e.1.length),(8,sl eExt m),(9,.sl 4006 0 d.length),(10,I f),(11,I e.2.1),(37,B e.2.2)],yA d l i k a b c e.1⟩)):=by
 refine lrX (fun s o h=> ?_)
 obtain ⟨_,_⟩:=s
 simp only [fI] at h
 simp only [yA,FX,Fv]
 have d1:= @yq
 have d2:= @kJ
 have d3:= @oB
 exact go2
def lU (k:List (List au)) (t f:List Ext) (c d j:Int) (h b i:List au):(List Ext)×Int->Option (((List Ext)×Int)⊕(((List Ext)×Int×Bool)))
 | (l,a)=>
   br (decide (a<3)) (
   (Loop (fI k t f a c d j h b i) (l,0)).bind fun e=>
   some (.inl (e.1,(wrap .i64 (a+1))))) (
   some (.inr (l,a,decide (a<3))))
abbrev yS (h:List (List au)) (c b f:Int) (d a e:List au) (l:List Ext):List (Nat×Blk):=[(1000,⟨6,true,[[I c,I b,I f,sl aA d,sl aA a,sl aA e]]⟩),(2004,⟨2,false,rws eExt l⟩),(4006,⟨1,false,rws (eL aA) h⟩)]
theorem TZ {a t f c d k i b j}:LX tab ow (.close [11007,12014,12020,12021,12022]) Gd (lU a t f c d k i b j) (fun s=>⟨[(2,sl eExt t),(7,.sl 2004 0 s.1.length),(8,sl eExt f),(9,.sl 4006 0 a.length),(10,I s.2)],yS a c d k i b j s.1⟩) (fun e=>(.exit 0,⟨[(2,sl eExt t),(7,.sl 2004 0 e.1.length),(8,sl eExt f),(9,.sl 4006 0 a.length),(10,I e.2.1),(28,B e.2.2)],yS a c d k i b j e.1⟩)):=by
 refine lrX (fun s o h=> ?_)
 obtain ⟨_,_⟩:=s
 simp only [lU] at h
 simp only [yS,Gd,GT]
 have d1:= @Uj
 exact go2
def yY (b:bk) (a e:(List Ext)):Option ((List Ext)):=
 br (decide (0<=(wrap .u64 b.Cols))) (
 br (zJ (bG .i64 1 (wrap .u64 b.Cols)) (bG .i64 1 (wrap .u64 b.Cols)) 16) (
 (Hm a).bind fun d=>
 (Loop (lU ([b.A,b.B,b.C]:List (List au)) e d b.Rows b.Cols b.Publics b.A b.B b.C) ((List.replicate ((bG .i64 (1:Int) (wrap .u64 b.Cols)).toNat) (Ext.mk (0:Int) (0:Int))),(0:Int))).bind fun c=>
 some c.1) none) none
theorem YR {b a c r} (h:yY b a c=some r):Call tab ow 256 [.agg [I b.Rows,I b.Cols,I b.Publics,sl aA b.A,sl aA b.B,sl aA b.C],sl eExt a,sl eExt c] []=some (sl eExt r,[]):=by
 rw [aj (af:=xm) rfl]
 unfold yY at h
 simp only [xm,y7]
 have d1:= @WV
 have d2:= @TZ
 exact go2
end
def rR (a j:List Ext) (c k:Int):Int×Int×Int->Option ((Int×Int×Int)⊕((Int×Bool×Int×Int)))
 | (i,f,e)=>
   br (decide (i<((a.length:Nat):Int))) (
   (atL a i).bind fun x=>
   (atL j i).bind fun h=>
   (dD x h).bind fun d=>
   (j1 (Ext.mk f e) d).bind fun b=>
   some (.inl ((wrap .i64 (i+1)),b.A,b.B))) (
   some (.inr (i,decide (i<((a.length:Nat):Int)),f,e)))
abbrev Gi (c d b a:Int):List (Nat×Blk):=[(1000,⟨2,true,[[I c,I d]]⟩),(3001,⟨2,true,[[I b,I a]]⟩)]
theorem a5n {a b c d}:LX tab ow (.close [7009,7010]) Oi (rR a b c d) (fun s=>⟨[(0,sl eExt a),(4,.ptr 1000 0 0 1),(5,sl eExt b),(6,.ptr 3001 0 0 1),(7,I s.1)],Gi c d s.2.1 s.2.2⟩) (fun e=>(.exit 0,⟨[(0,sl eExt a),(4,.ptr 1000 0 0 1),(5,sl eExt b),(6,.ptr 3001 0 0 1),(7,I e.1),(14,B e.2.1)],Gi c d e.2.2.1 e.2.2.2⟩)):=by
 refine lrX (fun s o h=> ?_)
 obtain ⟨_,_,_⟩:=s
 simp only [rR] at h
 simp only [Gi,Oi,Oe]
 have d1:= @kJ
 have d2:= @oB
 exact go2
def DW (a b:(List Ext)):Option (Ext):=
 (Hm b).bind fun d=>
 (Loop (rR a d 0 0) (0,0,0)).bind fun c=>
 some (Ext.mk c.2.2.1 c.2.2.2)
theorem WQ {a b r} (h:DW a b=some r):Call tab ow 257 [sl eExt a,sl eExt b] []=some (.agg [I r.A,I r.B],[]):=by
 rw [aj (af:=HA) rfl]
 unfold DW at h
 simp only [HA,MO]
 have d1:= @WV
 have d2:= @a5n
 exact go2
def qd (a:List au) (t e:Int):Int->Option ((Int)⊕((Int×Int×Int)⊕(Int×Bool)))
 |b=>
  br (decide (b<((a.length:Nat):Int))) (
  (atL a b).bind fun x=>
  br (decide (0<=(wrap .u64 t))) (
  (eH x.Row 0 (wrap .i64 ((bG .i64 1 (wrap .u64 t))-1))).bind fun h=>
  br (!h) (
  some (.inr (.inl (x.Row,x.Col,x.Value)))) (
  br (decide (0<=(wrap .u64 e))) (
  (eH x.Col 0 (wrap .i64 ((bG .i64 1 (wrap .u64 e))-1))).bind fun c=>
  br (!c) (
  some (.inr (.inl (x.Row,x.Col,x.Value)))) (
  (eH x.Value 1 2130706432).bind fun d=>
  br (!d) (
  some (.inr (.inl (x.Row,x.Col,x.Value)))) (
  br (decide (b>0)) (
  (atL a (wrap .i64 (b-1))).bind fun f=>
  br (decide (f.Row>x.Row)) (
  some (.inr (.inl (x.Row,x.Col,x.Value)))) (
  (atL a (wrap .i64 (b-1))).bind fun j=>
  br (j.Row==x.Row) (
  (atL a (wrap .i64 (b-1))).bind fun i=>
  br (decide (i.Col>=x.Col)) (
  some (.inr (.inl (x.Row,x.Col,x.Value)))) (
  some (.inl (wrap .i64 (b+1))))) (
  some (.inl (wrap .i64 (b+1)))))) (
  some (.inl (wrap .i64 (b+1))))))) none)) none) (
  some (.inr (.inr (b,decide (b<((a.length:Nat):Int))))))
theorem VL {a t b}:LX tab ow (.close [7004,8006,8015,8021]) Ij (qd a t b) (fun s=>⟨[(0,sl aA a),(1,I t),(2,I b),(7,I s)],[]⟩) (alt (fun e=>((.ret,⟨[(6,B false)],[(7004,⟨3,true,[[I e.1,I e.2.1,I e.2.2]]⟩)]⟩):bT×St)) (fun e=>(.exit 0,⟨[(0,sl aA a),(1,I t),(2,I b),(7,I e.1),(15,B e.2)],[]⟩))):=by
 refine lrX (fun s o h=> ?_)
 simp only [qd] at h
 simp only [Ij,JA]
 have d1:= @oX
 exact go2
def ui (b:(List au)) (a c:Int):Option (Bool):=
 br (decide (((b.length:Nat):Int)>200)) (
 some false) (
 (Loop (qd b a c) 0).bind (alt (fun e=>
 some false) (fun d=>
 some true)))
theorem a1W {b a c r} (h:ui b a c=some r):Call tab ow 338 [sl aA b,I a,I c] []=some (B r,[]):=by
 rw [aj (af:=AP) rfl]
 unfold ui at h
 simp only [AP,FS]
 have d1:= @VL
 exact go2
def ua (s:bk):Option (Bool):=
 (eH s.Rows 1 5).bind fun f=>
 br f (
 (eH s.Cols 2 5).bind fun c=>
 br c (
 br (decide (0<=(wrap .u64 (wrap .i64 (s.Cols-1))))) (
 (eH s.Publics 0 (wrap .i64 ((bG .i64 1 (wrap .u64 (wrap .i64 (s.Cols-1))))-1))).bind fun e=>
 br e (
 (ui s.A s.Rows s.Cols).bind fun d=>
 br d (
 (ui s.B s.Rows s.Cols).bind fun a=>
 br a (
 (ui s.C s.Rows s.Cols).bind fun b=>
 some b) (
 some false)) (
 some false)) (
 some false)) none) (
 some false)) (
 some false)
theorem LG {s r} (h:ua s=some r):Call tab ow 261 [.agg [I s.Rows,I s.Cols,I s.Publics,sl aA s.A,sl aA s.B,sl aA s.C]] []=some (B r,[]):=by
 rw [aj (af:=xW) rfl]
 unfold ua at h
 simp only [xW,Lg]
 have d1:= @oX
 have d2:= @a1W
 exact go2
def iX (t:Int) (c:List (List Ext)) (e:List (List UInt8)) (n l i:Int) (m:List Query) (k h j:Int):Int->Option ((Int)⊕(Unit⊕(Int×Bool)))
 |a=>
  br (decide (a<t)) (
  (atL c a).bind fun x=>
  br (((x.length:Nat):Int) !=3) (
  some (.inr (.inl ()))) (
  (atL c a).bind fun d=>
  (lX d).bind fun b=>
  br (!b) (
  some (.inr (.inl ()))) (
  br (decide (a>0)) (
  (atL e (wrap .i64 (a-1))).bind fun f=>
  br (((f.length:Nat):Int) !=32) (
  some (.inr (.inl ()))) (
  some (.inl (wrap .i64 (a+1))))) (
  some (.inl (wrap .i64 (a+1))))))) (
  some (.inr (.inr (a,decide (a<t)))))
abbrev qV (c:List (List Ext)) (d:List (List UInt8)) (j h b:Int) (i:List Query) (f a e:Int):List (Nat×Blk):=[(1000,⟨6,true,[[sl (eL eExt) c,sl eS d,I j,I h,I b,sl eQuery i]]⟩),(1001,⟨3,true,[[I f,I a,I e]]⟩)]
theorem PN {t c d l j b k i a f}:LX tab ow (.close [7013]) EK (iX t c d l j b k i a f) (fun s=>⟨[(1,I t),(3,.ptr 1000 0 0 1),(5,.ptr 1001 0 0 1),(7,I s)],qV c d l j b k i a f⟩) (alt (fun e=>((.ret,⟨[(6,B false)],qV c d l j b k i a f⟩):bT×St)) (fun e=>(.exit 0,⟨[(1,I t),(3,.ptr 1000 0 0 1),(5,.ptr 1001 0 0 1),(7,I e.1),(57,B e.2)],qV c d l j b k i a f⟩))):=by
 refine lrX (fun s o h=> ?_)
 simp only [iX] at h
 simp only [qV,EK,Er]
 have d1:= @rK
 exact go2
def iW (s r c:Int) (n:List (List Ext)) (j:List (List UInt8)) (e m i:Int) (k:List Query) (f q o:Int) (p:List Ext) (b:List (List (List UInt8))):Int->Option ((Int)⊕(Unit⊕(Int×Bool)))
 |a=>
  (atL b c).bind fun d=>
  br (decide (a<((d.length:Nat):Int))) (
  (atL b c).bind fun h=>
  (atL h a).bind fun l=>
  br (((l.length:Nat):Int) !=32) (
  some (.inr (.inl ()))) (
  some (.inl (wrap .i64 (a+1))))) (
  some (.inr (.inr (a,decide (a<((d.length:Nat):Int))))))
abbrev qO (j:List (List Ext)) (e:List (List UInt8)) (a i c:Int) (h:List Query) (b d l:Int) (k:List Ext) (f:List (List (List UInt8))):List (Nat×Blk):=[(1000,⟨6,true,[[sl (eL eExt) j,sl eS e,I a,I i,I c,sl eQuery h]]⟩),(1001,⟨3,true,[[I b,I d,I l]]⟩),(12005,⟨2,true,[[sl eExt k,sl (eL eS) f]]⟩)]
theorem PD {r q p k d a j c i b n l m f}:LX tab ow (.close []) Cd (iW r q p k d a j c i b n l m f) (fun s=>⟨[(1,I r),(3,.ptr 1000 0 0 1),(5,.ptr 1001 0 0 1),(8,I q),(9,.ptr 12005 0 0 1),(10,I p),(11,I s)],qO k d a j c i b n l m f⟩) (alt (fun e=>((.ret,⟨[(6,B false)],qO k d a j c i b n l m f⟩):bT×St)) (fun e=>(.exit 6,⟨[(1,I r),(3,.ptr 1000 0 0 1),(5,.ptr 1001 0 0 1),(8,I q),(9,.ptr 12005 0 0 1),(10,I p),(11,I e.1),(147,B e.2)],qO k d a j c i b n l m f⟩))):=by
 refine lrX (fun s o h=> ?_)
 simp only [iW] at h
 simp only [qO,Cd,BZ]
 exact go2
def iS (d o:Int) (l:List (List Ext)) (m:List (List UInt8)) (n h k:Int) (j:List Query) (b f i:Int) (e:List Ext) (c:List (List (List UInt8))):Int->Option ((Int)⊕(Unit⊕(Int×Bool)))
 |a=>
  br (decide (a<d)) (
  (atL c a).bind fun q=>
  br (((q.length:Nat):Int) !=(wrap .i64 ((wrap .i64 ((wrap .i64 (d+b))-1))-a))) (
  some (.inr (.inl ()))) (
  (Loop (iW d o a l m n h k j b f i e c) 0).bind (alt (fun r=>
  some (.inr (.inl ()))) (fun p=>
  some (.inl (wrap .i64 (a+1))))))) (
  some (.inr (.inr (a,decide (a<d)))))
abbrev qY (j:List (List Ext)) (k:List (List UInt8)) (l e i:Int) (h:List Query) (a d f:Int) (c:List Ext) (b:List (List (List UInt8))):List (Nat×Blk):=[(1000,⟨6,true,[[sl (eL eExt) j,sl eS k,I l,I e,I i,sl eQuery h]]⟩),(1001,⟨3,true,[[I a,I d,I f]]⟩),(12005,⟨2,true,[[sl eExt c,sl (eL eS) b]]⟩)]
theorem OW {q p l m n f k j a d i c b}:LX tab ow (.close []) CG (iS q p l m n f k j a d i c b) (fun s=>⟨[(1,I q),(3,.ptr 1000 0 0 1),(5,.ptr 1001 0 0 1),(8,I p),(9,.ptr 12005 0 0 1),(10,I s)],qY l m n f k j a d i c b⟩) (alt (fun e=>((.ret,⟨[(6,B false)],qY l m n f k j a d i c b⟩):bT×St)) (fun e=>(.exit 4,⟨[(1,I q),(3,.ptr 1000 0 0 1),(5,.ptr 1001 0 0 1),(8,I p),(9,.ptr 12005 0 0 1),(10,I e.1),(123,B e.2)],qY l m n f k j a d i c b⟩))):=by
 refine lrX (fun s o h=> ?_)
 simp only [iS] at h
 simp only [qY,CG,BO]
 have d1:= @PD
 exact go2
def gV (n:Int) (d:List (List Ext)) (f:List (List UInt8)) (h e k:Int) (b:List Query) (j l i:Int):Int->Option ((Int)⊕(((List Ext)×(List (List (List UInt8))))⊕(Int×Bool)))
 |c=>
  br (decide (c<((b.length:Nat):Int))) (
  (atL b c).bind fun a=>
  br (((a.Pairs.length:Nat):Int) !=(wrap .i64 (2*n))) (
  some (.inr (.inl (a.Pairs,a.Paths)))) (
  (lX a.Pairs).bind fun m=>
  br (!m) (
  some (.inr (.inl (a.Pairs,a.Paths)))) (
  br (((a.Paths.length:Nat):Int) !=n) (
  some (.inr (.inl (a.Pairs,a.Paths)))) (
  (Loop (iS n c d f h e k b j l i a.Pairs a.Paths) 0).bind (alt (fun o=>
  some (.inr (.inl (a.Pairs,a.Paths)))) (fun p=>
  some (.inl (wrap .i64 (c+1))))))))) (
  some (.inr (.inr (c,decide (c<((b.length:Nat):Int))))))
abbrev wI (a:List (List Ext)) (c:List (List UInt8)) (d b h:Int) (j:List Query) (f i e:Int):List (Nat×Blk):=[(1000,⟨6,true,[[sl (eL eExt) a,sl eS c,I d,I b,I h,sl eQuery j]]⟩),(1001,⟨3,true,[[I f,I i,I e]]⟩)]
theorem P9 {m a c d b j l i k f}:LX tab ow (.close [12005,13009]) EG (gV m a c d b j l i k f) (fun s=>⟨[(1,I m),(3,.ptr 1000 0 0 1),(5,.ptr 1001 0 0 1),(8,I s)],wI a c d b j l i k f⟩) (alt (fun e=>((.ret,⟨[(6,B false)],[(1000,⟨6,true,[[sl (eL eExt) a,sl eS c,I d,I b,I j,sl eQuery l]]⟩),(1001,⟨3,true,[[I i,I k,I f]]⟩),(12005,⟨2,true,[[sl eExt e.1,sl (eL eS) e.2]]⟩)]⟩):bT×St)) (fun e=>(.exit 2,⟨[(1,I m),(3,.ptr 1000 0 0 1),(5,.ptr 1001 0 0 1),(8,I e.1),(94,B e.2)],wI a c d b j l i k f⟩))):=by
 refine lrX (fun s o h=> ?_)
 simp only [gV] at h
 simp only [wI,EG,F0]
 have d1:= @rK
 have d2:= @OW
 exact go2
def wt (b:Opening) (a:Int) (c:Setting):Option (Bool):=
 (eH a 1 6).bind fun j=>
 br (!j) (
 some false) (
 (ov c).bind fun d=>
 br (!d) (
 some false) (
 br (((b.Rounds.length:Nat):Int) !=a) (
 some false) (
 br (((b.Roots.length:Nat):Int) !=(wrap .i64 (a-1))) (
 some false) (
 br (((b.Queries.length:Nat):Int) !=c.Queries) (
 some false) (
 (CR b.Last).bind fun f=>
 br (!f) (
 some false) (
 (eH b.Nonce 0 65535).bind fun e=>
 br (!e) (
 some false) (
 (Loop (iX a b.Rounds b.Roots b.Last.A b.Last.B b.Nonce b.Queries c.Rate c.Queries c.Grind) 0).bind (alt (fun l=>
 some false) (fun k=>
 (Loop (gV a b.Rounds b.Roots b.Last.A b.Last.B b.Nonce b.Queries c.Rate c.Queries c.Grind) 0).bind (alt (fun h=>
 some false) (fun i=>
 some true)))))))))))
theorem Wl {b a c r} (h:wt b a c=some r):Call tab ow 34 [.agg [sl (eL eExt) b.Rounds,sl eS b.Roots,I b.Last.A,I b.Last.B,I b.Nonce,sl eQuery b.Queries],I a,.agg [I c.Rate,I c.Queries,I c.Grind]] []=some (B r,[]):=by
 rw [aj (af:=vk) rfl]
 unfold wt at h
 simp only [vk,nu]
 have d1:= @oX
 have d2:= @By
 have d3:= @WL
 have d4:= @PN
 have d5:= @P9
 exact go2
end
end Go.AI.Fn
