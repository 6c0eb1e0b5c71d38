/- Part. -/
import Derived.Test.YtdnkignjanfikaaGreatFx1
set_option linter.unusedVariables false
set_option linter.unusedSimpArgs false
set_option maxRecDepth 100000
set_option maxHeartbeats 1000000
namespace Go.AI.Fn
noncomputable section
open IntKind (wrap)
section
@[local go_sem] theorem a7s:mkR 8003 []=rws eExt []:=rfl
@[local go_sem] theorem a71:mkR 12006 []=rws eS []:=rfl
def eK (l:List (List UInt8)) (t:List Ext) (q:Int) (r:List Int) (k:Int) (c:List Ext) (s:Int) (z:List UInt8) (y v w c7 c8 u:Int) (e:List (List Ext)) (i:List (List UInt8)) (f j h:Int) (d:List Query) (n o p:Int):Int->Option ((Int)⊕(Int⊕(Int×Bool)))
 |b=>
  br (decide (b<k)) (
  (atL r b).bind fun x=>
  (atL d b).bind fun m=>
  (xm l t q x (Opening.mk e i (Ext.mk f j) h d) m).bind fun a=>
  br (a !=0) (
  some (.inr (.inl a))) (
  some (.inl (wrap .i64 (b+1))))) (
  some (.inr (.inr (b,decide (b<k)))))
abbrev mj (l:List (List UInt8)) (c:List Ext) (m:Int) (s:List UInt8) (n p r t q o:Int) (d:List (List Ext)) (e:List (List UInt8)) (a j b:Int) (k:List Query) (f h i:Int):List (Nat×Blk):=[(0,⟨4,true,[[sl eExt c,I m,S s,I n]]⟩),(1000,⟨1,true,[[.ptr 0 0 0 1]]⟩),(1001,⟨2,true,[[I p,I r]]⟩),(1002,⟨3,true,[[I t,I q,I o]]⟩),(1003,⟨6,true,[[sl (eL eExt) d,sl eS e,I a,I j,I b,sl eQuery k]]⟩),(2002,⟨1,true,[[I f]]⟩),(3010,⟨2,true,[[I h,I i]]⟩),(8003,my),(12006,⟨1,false,rws eS l⟩)]
theorem Jt {l t t2 t3 z c p w v r u x y q a k d n f b i j m}:LX tab ow (.close [16010]) wD (eK l t t2 t3 z c p w v r u x y q a k d n f b i j m) (fun s=>⟨[(11,.ptr 1003 0 0 1),(14,sl eExt t),(17,I t2),(18,.sl 12006 0 l.length),(82,sl eI t3),(83,I z),(84,I s)],mj l c p w v r u x y q a k d n f b i j m⟩) (alt (fun e=>((.ret,⟨[(12,I e)],mj l c p w v r u x y q a k d n f b i j m⟩):bR×St)) (fun e=>(.exit 1,⟨[(11,.ptr 1003 0 0 1),(14,sl eExt t),(17,I t2),(18,.sl 12006 0 l.length),(82,sl eI t3),(83,I z),(84,I e.1),(85,B e.2)],mj l c p w v r u x y q a k d n f b i j m⟩))):=by
 refine lrX (fun s o h=> ?_)
 simp only [eK] at h
 simp only [mj,wD,wC]
 have d1:= @PW
 exact go2
def nU (a:List UInt8) (q:List Ext) (l:Ext) (d:Setting) (p:Opening) (m:Source):Option (Int×Source):=
 (e5 1 l p.Rounds m (q.length:Int) p).bind fun b=>
 br (b.2.2.1 !=0) (
 some (b.2.2.1,b.2.2.2.1)) (
 (JZ b.1 q).bind fun o=>
 (dc b.2.2.2.2.2.Last o).bind fun h=>
 br (h.A==b.2.1.A) (
 br (h.B==b.2.1.B) (
 (cZ ([b.2.2.2.2.2.Last]:List Ext) b.2.2.2.1).bind fun e=>
 (px e d.Grind b.2.2.2.2.2.Nonce).bind fun n=>
 br (!n) (
 some (14,e)) (
 (Fg b.2.2.2.2.2.Nonce).bind fun i=>
 (fO i e).bind fun j=>
 br (decide (0<=(wrap .i64 (b.2.2.2.2.1+d.Rate)))) (
 br (cP ((([a]:List (List UInt8))++b.2.2.2.2.2.Roots).length) 16) (
 (jG d.Queries j).bind fun c=>
 (Fj c.1 (wrap .i64 ((bC .i64 1 (wrap .i64 (b.2.2.2.2.1+d.Rate))).tdiv 2))).bind fun f=>
 (Loop (eK (([a]:List (List UInt8))++b.2.2.2.2.2.Roots) b.1 (bC .i64 1 (wrap .i64 (b.2.2.2.2.1+d.Rate))) f (f.length:Int) c.2.Script c.2.At c.2.State c.2.Count l.A l.B d.Rate d.Queries d.Grind b.2.2.2.2.2.Rounds b.2.2.2.2.2.Roots b.2.2.2.2.2.Last.A b.2.2.2.2.2.Last.B b.2.2.2.2.2.Nonce b.2.2.2.2.2.Queries b.2.2.2.2.1 b.2.1.A b.2.1.B) 0).bind (alt (fun k=>
 some (k,c.2)) (fun r=>
 some (0,c.2)))) none) none)) (
 some (11,b.2.2.2.1))) (
 some (11,b.2.2.2.1)))
theorem ML {a e d c b m r} (h:nU a e d c b m=some r):Call tab ow 113 [.ptr 0 0 0 1,S a,sl eExt e,.agg [I d.A,I d.B],.agg [I c.Rate,I c.Queries,I c.Grind],.agg [sl (eL eExt) b.Rounds,sl eS b.Roots,I b.Last.A,I b.Last.B,I b.Nonce,sl eQuery b.Queries]] [⟨4,true,[[sl eExt m.Script,I m.At,S m.State,I m.Count]]⟩]=some (I r.1,[⟨4,true,[[sl eExt r.2.Script,I r.2.At,S r.2.State,I r.2.Count]]⟩]):=by
 rw [aj (af:=oC) rfl]
 unfold nU at h
 simp only [oC,tL]
 have d1:= @pw
 have d2:= @a0a
 have d3:= @eY
 have d4:= @jL
 have d5:= @OI
 have d6:= @KL
 have d7:= @nj
 have d8:= @Bx
 have d9:= @a5d
 have d10:= @Jt
 exact go2
end
section
@[local go_sem] theorem a5x:mkR 8009 []=rws eExt []:=rfl
@[local go_sem] theorem a4x:mkR 10007 []=rws eExt []:=rfl
@[local go_sem] theorem a5M:mkR 12008 []=rws eExt []:=rfl
@[local go_sem] theorem a4o:mkR 19003 []=rws eExt []:=rfl
def jZ (a:bj) (a2:Setting) (z:List Int) (d:Proof) (m:Source):Option (Int×Source):=
 (vS a a2 z).bind fun r_=>
 (fO r_ m).bind fun w=>
 br (cP d.Root.length 1) (
 (fO d.Root w).bind fun s=>
 (jG a.Rows s).bind fun j=>
 (cO 2 (Ext.mk 0 0) d.Gates j.2).bind fun c=>
 br (c.2.2.1 !=0) (
 some (c.2.2.1,c.2.2.2)) (
 (JZ j.1 c.1).bind fun v=>
 (xK 2 ([v,d.VA,d.VB,d.VC]:List Ext)).bind fun r=>
 br (r.A==c.2.1.A) (
 br (r.B==c.2.1.B) (
 (cZ ([d.VA,d.VB,d.VC]:List Ext) c.2.2.2).bind fun u=>
 (jG 3 u).bind fun e=>
 (KP e.1 ([d.VA,d.VB,d.VC]:List Ext)).bind fun q=>
 (cO 1 q d.Wires e.2).bind fun b=>
 br (b.2.2.1 !=0) (
 some (b.2.2.1,b.2.2.2)) (
 (l6 b.1 0 (wrap .i64 (a.Cols-1))).bind fun y=>
 (atL b.1 (wrap .i64 (a.Cols-1))).bind fun x=>
 br (decide (3<=e.1.length)) (
 (a64 e.1).bind fun t=>
 (rZ a c.1 (t.1,t.2.1,t.2.2)).bind fun p=>
 (sY b.1).bind fun o=>
 (KP p o).bind fun n=>
 (yo a z y).bind fun i=>
 (BD i d.VW x).bind fun k=>
 (dc n k).bind fun h=>
 br (h.A==b.2.1.A) (
 br (h.B==b.2.1.B) (
 (cZ ([d.VW]:List Ext) b.2.2.2).bind fun l=>
 (nU d.Root y d.VW a2 d.Open l).bind fun f=>
 some (f.1,f.2)) (
 some (11,b.2.2.2))) (
 some (11,b.2.2.2))) none)) (
 some (11,c.2.2.2))) (
 some (11,c.2.2.2)))) none
theorem LL {a c d b m r} (h:jZ a c d b m=some r):Call tab ow 184 [.ptr 0 0 0 1,.agg [I a.Rows,I a.Cols,I a.Publics,sl aA a.A,sl aA a.B,sl aA a.C],.agg [I c.Rate,I c.Queries,I c.Grind],sl eI d,.agg [S b.Root,sl (eL eExt) b.Gates,I b.VA.A,I b.VA.B,I b.VB.A,I b.VB.B,I b.VC.A,I b.VC.B,sl (eL eExt) b.Wires,I b.VW.A,I b.VW.B,sl (eL eExt) b.Open.Rounds,sl eS b.Open.Roots,I b.Open.Last.A,I b.Open.Last.B,I b.Open.Nonce,sl eQuery b.Open.Queries]] [⟨4,true,[[sl eExt m.Script,I m.At,S m.State,I m.Count]]⟩]=some (I r.1,[⟨4,true,[[sl eExt r.2.Script,I r.2.At,S r.2.State,I r.2.Count]]⟩]):=by
 rw [aj (af:=ni) rfl]
 unfold jZ at h
 simp only [ni,zq]
 have d1:= @Vd
 have d2:= @nj
 have d3:= @Bx
 have d4:= @wj
 have d5:= @a0a
 have d6:= @a2Y
 have d7:= @jL
 have d8:= @a7R
 have d9:= @QT
 have d10:= @GF
 have d11:= @Yd
 have d12:= @a0O
 have d13:= @eY
 have d14:= @ML
 exact go2
end
def DB (s:bj) (t:Setting) (a:List Int) (p:Proof) (b:Source):Option (Bool×Int):=
 (Ch p s t).bind fun e=>
 br (!e) (
 some (false,18)) (
 (mz b).bind fun d=>
 (jZ s t a p d).bind fun c=>
 some ((c.1==0),c.1))
theorem YA {s t b p a r} (h:DB s t b p a=some r):Call tab ow 90 [.agg [I s.Rows,I s.Cols,I s.Publics,sl aA s.A,sl aA s.B,sl aA s.C],.agg [I t.Rate,I t.Queries,I t.Grind],sl eI b,.agg [S p.Root,sl (eL eExt) p.Gates,I p.VA.A,I p.VA.B,I p.VB.A,I p.VB.B,I p.VC.A,I p.VC.B,sl (eL eExt) p.Wires,I p.VW.A,I p.VW.B,sl (eL eExt) p.Open.Rounds,sl eS p.Open.Roots,I p.Open.Last.A,I p.Open.Last.B,I p.Open.Nonce,sl eQuery p.Open.Queries],.agg [sl eExt a.Script,I a.At,S a.State,I a.Count]] []=some (.tup [B r.1,I r.2],[]):=by
 rw [aj (af:=xg) rfl]
 unfold DB at h
 simp only [xg,Lj]
 have d1:= @a3B
 have d2:= @Ks
 have d3:= @LL
 exact go2
def dy (a:Int):Option Bool:=
 (ez a 0 2130706432).bind fun b=>
 some b
theorem EZ {a r} (h:dy a=some r):Call tab ow 229 [I a] []=some (B r,[]):=by
 rw [aj (af:=zy) rfl]
 unfold dy at h
 simp only [zy,Nv]
 have d1:= @oO
 exact go2
def CG (a:Ext):Option Bool:=
 (dy a.A).bind fun c=>
 br c (
 (dy a.B).bind fun b=>
 some b) (
 some false)
theorem VU {a r} (h:CG a=some r):Call tab ow 114 [.agg [I a.A,I a.B]] []=some (B r,[]):=by
 rw [aj (af:=GQ) rfl]
 unfold CG at h
 simp only [GQ,Vs]
 have d1:= @EZ
 exact go2
def B7 (a:List Ext):Int->Option ((Int)⊕(Unit⊕(Int×Bool)))
 |i=>
  br (decide (i<(a.length:Int))) (
  (atL a i).bind fun x=>
  (CG x).bind fun b=>
  br (!b) (
  some (.inr (.inl ()))) (
  some (.inl (wrap .i64 (i+1))))) (
  some (.inr (.inr (i,decide (i<(a.length:Int))))))
theorem Tp {a}:LX tab ow (.close [5004]) HZ (B7 a) (fun s=>⟨[(0,sl eExt a),(3,I s)],[]⟩) (alt (fun e=>((.ret,⟨[(2,B false)],[]⟩):bR×St)) (fun e=>(.exit 0,⟨[(0,sl eExt a),(3,I e.1),(7,B e.2)],[]⟩))):=by
 refine lrX (fun s o h=> ?_)
 simp only [B7] at h
 simp only [HZ,Iz]
 have d1:= @VU
 exact go2
def lJ (a:List Ext):Option Bool:=
 (Loop (B7 a) 0).bind (alt (fun c=>
 some false) (fun b=>
 some true))
theorem rj {a r} (h:lJ a=some r):Call tab ow 123 [sl eExt a] []=some (B r,[]):=by
 rw [aj (af:=A4) rfl]
 unfold lJ at h
 simp only [A4,F4]
 have d1:= @Tp
 exact go2
def nK (t:Setting):Option Bool:=
 (ez t.Rate 1 3).bind fun c=>
 br c (
 (ez t.Queries 1 8).bind fun b=>
 br b (
 (ez t.Grind 0 12).bind fun a=>
 some a) (
 some false)) (
 some false)
theorem Ax {t r} (h:nK t=some r):Call tab ow 105 [.agg [I t.Rate,I t.Queries,I t.Grind]] []=some (B r,[]):=by
 rw [aj (af:=tU) rfl]
 unfold nK at h
 simp only [tU,If]
 have d1:= @oO
 exact go2
def yU (s:Source):Option Bool:=
 br (decide ((s.Script.length:Int)<=64)) (
 (lJ s.Script).bind fun c=>
 br c (
 (ez s.At 0 1000000).bind fun b=>
 br b (
 br ((s.State.length:Int)==32) (
 (ez s.Count 0 1000000).bind fun a=>
 some a) (
 some false)) (
 some false)) (
 some false)) (
 some false)
theorem WN {s r} (h:yU s=some r):Call tab ow 106 [.agg [sl eExt s.Script,I s.At,S s.State,I s.Count]] []=some (B r,[]):=by
 rw [aj (af:=wJ) rfl]
 unfold yU at h
 simp only [wJ,Ll]
 have d1:= @rj
 have d2:= @oO
 exact go2
def DE (s:Source) (n:Int):Option Bool:=
 br (decide (s.At>(wrap .i64 (1000000-n)))) (
 some true) (
 some (decide (s.Count>(wrap .i64 (1000000-n)))))
theorem Zf {s n r} (h:DE s n=some r):Call tab ow 108 [.agg [sl eExt s.Script,I s.At,S s.State,I s.Count],I n] []=some (B r,[]):=by
 rw [aj (af:=xr) rfl]
 unfold DE at h
 simp only [xr,KK]
 exact go2
def s6 (n:Int):Option Ext:=
 some (Ext.mk n 0)
theorem xS {n r} (h:s6 n=some r):Call tab ow 315 [I n] []=some (.agg [I r.A,I r.B],[]):=by
 rw [aj (af:=Hn) rfl]
 unfold s6 at h
 simp only [Hn,Wn]
 exact go2
def Cd:Option Ext:=
 (s6 1).bind fun a=>
 some a
theorem JX {r} (h:Cd=some r):Call tab ow 310 [] []=some (.agg [I r.A,I r.B],[]):=by
 rw [aj (af:=DC) rfl]
 unfold Cd at h
 simp only [DC,RB]
 have d1:= @xS
 exact go2
def vE (a b:Ext):Option Ext:=
 (yi a.A b.A).bind fun d=>
 (yi a.B b.B).bind fun c=>
 some (Ext.mk d c)
theorem Do {a b r} (h:vE a b=some r):Call tab ow 329 [.agg [I a.A,I a.B],.agg [I b.A,I b.B]] []=some (.agg [I r.A,I r.B],[]):=by
 rw [aj (af:=CV) rfl]
 unfold vE at h
 simp only [CV,Rv]
 have d1:= @QP
 exact go2
def oR (a:Ext):Option Ext:=
 (Cd).bind fun c=>
 (vE c a).bind fun b=>
 some b
theorem G3 {a r} (h:oR a=some r):Call tab ow 270 [.agg [I a.A,I a.B]] []=some (.agg [I r.A,I r.B],[]):=by
 rw [aj (af:=A0) rfl]
 unfold oR at h
 simp only [A0,N6]
 have d1:= @JX
 have d2:= @Do
 exact go2
def dz (a b:Ext):Option Ext:=
 (lf a.A b.A).bind fun i=>
 (lf a.B b.B).bind fun h=>
 (rI i ((wrap .i64 (3*h)).tmod 2130706433)).bind fun e=>
 (lf a.A b.B).bind fun c=>
 (lf a.B b.A).bind fun f=>
 (rI c f).bind fun d=>
 some (Ext.mk e d)
theorem kz {a b r} (h:dz a b=some r):Call tab ow 232 [.agg [I a.A,I a.B],.agg [I b.A,I b.B]] []=some (.agg [I r.A,I r.B],[]):=by
 rw [aj (af:=D0) rfl]
 unfold dz at h
 simp only [D0,Qu]
 have d1:= @CE
 have d2:= @JU
 exact go2
section
@[local go_sem] theorem c4o:mkR 2001 []=rws eExt []:=rfl
@[local go_sem] theorem c4s: ∀k,BQ 6003 k [I (0:Int),I (0:Int)]=rws eExt (List.replicate k (Ext.mk (0:Int) (0:Int))):=fun _=>M6 eExt (Ext.mk (0:Int) (0:Int)) _ _
def ra (b a:List Ext) (f:Int):(List Ext)×Int->Option (((List Ext)×Int)⊕(((List Ext)×Int×Bool)))
 | (l,k)=>
   br (decide (k<(a.length:Int))) (
   (atL a k).bind fun x=>
   (atL b f).bind fun h=>
   (oR h).bind fun e=>
   (dz x e).bind fun c=>
   br (decide (0<=k)) (
   br (decide (k.toNat<l.length)) (
   (l[k.toNat]?).bind fun n=>
   (atL a k).bind fun i=>
   (atL b f).bind fun j=>
   (dz i j).bind fun d=>
   br (decide (0<=(wrap .i64 (k+(a.length:Int))))) (
   br (decide ((wrap .i64 (k+(a.length:Int))).toNat<l.length)) (
   ((l.set k.toNat c)[(wrap .i64 (k+(a.length:Int))).toNat]?).bind fun m=>
   some (.inl (((l.set k.toNat c).set ((wrap .i64 (k+(a.length:Int))).toNat) d),(wrap .i64 (k+1))))) none) none) none) none) (
   some (.inr (l,k,decide (k<(a.length:Int)))))
theorem a0I {a b c}:LX tab ow (.close [10010,10011,11013]) NI (ra a b c) (fun s=>⟨[(0,sl eExt a),(3,sl eExt b),(4,I c),(5,.sl 6003 0 s.1.length),(6,I s.2)],[(6003,⟨2,false,rws eExt s.1⟩)]⟩) (fun e=>(.exit 2,⟨[(0,sl eExt a),(3,sl eExt b),(4,I c),(5,.sl 6003 0 e.1.length),(6,I e.2.1),(22,B e.2.2)],[(6003,⟨2,false,rws eExt e.1⟩)]⟩)):=by
 refine lrX (fun s o h=> ?_)
 obtain ⟨_,_⟩:=s
 simp only [ra] at h
 simp only [NI,O4]
 have d1:= @G3
 have d2:= @kz
 exact go2
def rA (a:List Ext):(List Ext)×Int->Option (((List Ext)×Int)⊕(((List Ext)×Int×Bool)))
 | (b,i)=>
   br (decide (i<(a.length:Int))) (
   br (zg (wrap .i64 (2*(b.length:Int))) (wrap .i64 (2*(b.length:Int))) 16) (
   (Loop (ra a b i) ((List.replicate ((wrap .i64 ((2:Int)*(b.length:Int))).toNat) (Ext.mk (0:Int) (0:Int))),(0:Int))).bind fun c=>
   some (.inl (c.1,(wrap .i64 (i+1))))) none) (
   some (.inr (b,i,decide (i<(a.length:Int)))))
theorem a3r {a}:LX tab ow (.close [6003,10010,10011,11013,2001]) Nh (rA a) (fun s=>⟨[(0,sl eExt a),(3,sl eExt s.1),(4,I s.2)],[]⟩) (fun e=>(.exit 0,⟨[(0,sl eExt a),(3,sl eExt e.1),(4,I e.2.1),(12,B e.2.2)],[]⟩)):=by
 refine lrX (fun s o h=> ?_)
 obtain ⟨_,_⟩:=s
 simp only [rA] at h
 simp only [Nh,Oa]
 have d1:= @a0I
 exact go2
def GR (a:List Ext):Option (List Ext):=
 (Cd).bind fun c=>
 (Loop (rA a) (([c]:List Ext),0)).bind fun b=>
 some b.1
theorem Vj {a r} (h:GR a=some r):Call tab ow 204 [sl eExt a] []=some (sl eExt r,[]):=by
 rw [aj (af:=H7) rfl]
 unfold GR at h
 simp only [H7,H5]
 have d1:= @JX
 have d2:= @a3r
 exact go2
end
def iX (a b:Ext):Option Ext:=
 (rI a.A b.A).bind fun d=>
 (rI a.B b.B).bind fun c=>
 some (Ext.mk d c)
theorem nE {a b r} (h:iX a b=some r):Call tab ow 230 [.agg [I a.A,I a.B],.agg [I b.A,I b.B]] []=some (.agg [I r.A,I r.B],[]):=by
 rw [aj (af:=Dl) rfl]
 unfold iX at h
 simp only [Dl,PZ]
 have d1:= @JU
 exact go2
def kH (a:Int):Int->Option ((Int)⊕((Int×Bool)))
 |k=>
  br (decide (0<=(wrap .u64 k))) (
  br (decide ((bC .i64 1 (wrap .u64 k))<a)) (
  some (.inl (wrap .i64 (k+1)))) (
  some (.inr (k,decide ((bC .i64 1 (wrap .u64 k))<a))))) none
theorem UJ {a}:LX tab ow (.close []) I5 (kH a) (fun s=>⟨[(0,I a),(3,I s)],[]⟩) (fun e=>(.exit 0,⟨[(0,I a),(3,I e.1),(8,B e.2)],[]⟩)):=by
 refine lrX (fun s o h=> ?_)
 simp only [kH] at h
 simp only [I5,HI]
 exact go2
def Bp (n:Int):Option Int:=
 (Loop (kH n) 0).bind fun a=>
 some a.1
theorem a36 {n r} (h:Bp n=some r):Call tab ow 362 [I n] []=some (I r,[]):=by
 rw [aj (af:=zG) rfl]
 unfold Bp at h
 simp only [zG,Fa]
 have d1:= @UJ
 exact go2
def oq:Int×Int×Int->Option ((Int×Int×Int)⊕((Int×Int×Int×Bool)))
 | (b,a,e)=>
   br (decide (a>0)) (
   br ((a.tmod 2)==1) (
   (lf e b).bind fun f=>
   (lf b b).bind fun d=>
   some (.inl (d,(wrap .i64 (a.tdiv 2)),f))) (
   (lf b b).bind fun c=>
   some (.inl (c,(wrap .i64 (a.tdiv 2)),e)))) (
   some (.inr (b,a,e,decide (a>0))))
theorem YQ:LX tab ow (.close [5002,6002]) LK (oq) (fun s=>⟨[(0,I s.1),(1,I s.2.1),(5,I s.2.2)],[]⟩) (fun e=>(.exit 0,⟨[(0,I e.1),(1,I e.2.1),(5,I e.2.2.1),(7,B e.2.2.2)],[]⟩)):=by
 refine lrX (fun s o h=> ?_)
 obtain ⟨_,_,_⟩:=s
 simp only [oq] at h
 simp only [LK,Lm]
 have d1:= @CE
 exact go2
def vg (a n:Int):Option Int:=
 (Loop (oq) (a,n,1)).bind fun b=>
 some b.2.2.1
theorem Jb {a n r} (h:vg a n=some r):Call tab ow 364 [I a,I n] []=some (I r,[]):=by
 rw [aj (af:=Cq) rfl]
 unfold vg at h
 simp only [Cq,JF]
 have d1:= @YQ
 exact go2
def BC (k:Int):Option Int:=
 br (decide (0<=(wrap .u64 (wrap .i64 (24-k))))) (
 (vg 3 (bC .i64 127 (wrap .u64 (wrap .i64 (24-k))))).bind fun a=>
 some a) none
theorem a0B {k r} (h:BC k=some r):Call tab ow 361 [I k] []=some (I r,[]):=by
 rw [aj (af:=zp) rfl]
 unfold BC at h
 simp only [zp,Nb]
 have d1:= @Jb
 exact go2
def vY (a:Int):Option Int:=
 some (wrap .i64 (a+1))
theorem Ux {a r} (h:vY a=some r):Call tab ow 313 [I a] []=some (I r,[]):=by
 rw [aj (af:=uB) rfl]
 unfold vY at h
 simp only [uB,J8]
 exact go2
def oU (a:Int) (v:List Ext):Option Ext:=
 br (a==1) (
 (atL v 0).bind fun x=>
 (atL v 1).bind fun e=>
 (dz x e).bind fun j=>
 some j) (
 (atL v 0).bind fun i=>
 (atL v 1).bind fun f=>
 (atL v 2).bind fun k=>
 (dz f k).bind fun c=>
 (atL v 3).bind fun h=>
 (vE c h).bind fun d=>
 (dz i d).bind fun b=>
 some b)
theorem QV {a v r} (h:oU a v=some r):Call tab ow 269 [I a,sl eExt v] []=some (.agg [I r.A,I r.B],[]):=by
 rw [aj (af:=sx) rfl]
 unfold oU at h
 simp only [sx,F5]
 have d1:= @kz
 have d2:= @Do
 exact go2
section
@[local go_sem] theorem b72:mkR 2000 []=rws eU8 []:=rfl
def l5 (a:List Ext):(List UInt8)×Int->Option (((List UInt8)×Int)⊕(((List UInt8)×Int×Bool)))
 | (l,i)=>
   br (decide (i<(a.length:Int))) (
   (atL a i).bind fun x=>
   (fZ x.A 4).bind fun c=>
   br (cP ((l++c).length) 1) (
   (atL a i).bind fun d=>
   (fZ d.B 4).bind fun b=>
   br (cP (((l++c)++b).length) 1) (
   some (.inl (((l++c)++b),(wrap .i64 (i+1))))) none) none) (
   some (.inr (l,i,decide (i<(a.length:Int)))))
theorem Q3 {a}:LX tab ow (.close [6006,6007,6013,6014]) Gz (l5 a) (fun s=>⟨[(0,sl eExt a),(3,.sl 2000 0 s.1.length),(4,I s.2)],[(2000,⟨1,false,rws eU8 s.1⟩)]⟩) (fun e=>(.exit 0,⟨[(0,sl eExt a),(3,.sl 2000 0 e.1.length),(4,I e.2.1),(9,B e.2.2)],[(2000,⟨1,false,rws eU8 e.1⟩)]⟩)):=by
 refine lrX (fun s o h=> ?_)
 obtain ⟨_,_⟩:=s
 simp only [l5] at h
 simp only [Gz,Gv]
 have d1:= @jf
 exact go2
def tQ (a:List Ext):Option (List UInt8):=
 (Loop (l5 a) (([]:List UInt8),0)).bind fun b=>
 some b.1
theorem KO {a r} (h:tQ a=some r):Call tab ow 262 [sl eExt a] []=some (sl eU8 r,[]):=by
 rw [aj (af:=xb) rfl]
 unfold tQ at h
 simp only [xb,DQ]
 have d1:= @Q3
 exact go2
end
def kZ (s:Source) (a:List Ext):Option Source:=
 (tQ a).bind fun c=>
 (ke s c).bind fun b=>
 some b
theorem A7 {s a r} (h:kZ s a=some r):Call tab ow 207 [.agg [sl eExt s.Script,I s.At,S s.State,I s.Count],sl eExt a] []=some (.agg [sl eExt r.Script,I r.At,S r.State,I r.Count],[]):=by
 rw [aj (af:=zL) rfl]
 unfold kZ at h
 simp only [zL,Ns]
 have d1:= @KO
 have d2:= @pO
 exact go2
def ma (a:Int):Option Int:=
 (vg a 2130706431).bind fun b=>
 some b
theorem Ga {a r} (h:ma a=some r):Call tab ow 330 [I a] []=some (I r,[]):=by
 rw [aj (af:=rN) rfl]
 unfold ma at h
 simp only [rN,G1]
 have d1:= @Jb
 exact go2
def oN (n i:Int) (a b t:Ext):Option Ext:=
 (Bp n).bind fun s=>
 (BC s).bind fun r=>
 (vg r i).bind fun l=>
 (ma 2).bind fun h=>
 (iX a b).bind fun o=>
 (s6 h).bind fun q=>
 (dz o q).bind fun m=>
 (vE a b).bind fun p=>
 (ma l).bind fun c=>
 (lf h c).bind fun f=>
 (s6 f).bind fun d=>
 (dz p d).bind fun k=>
 (dz t k).bind fun j=>
 (iX m j).bind fun e=>
 some e
theorem a1a {n i a b c r} (h:oN n i a b c=some r):Call tab ow 317 [I n,I i,.agg [I a.A,I a.B],.agg [I b.A,I b.B],.agg [I c.A,I c.B]] []=some (.agg [I r.A,I r.B],[]):=by
 rw [aj (af:=zV) rfl]
 unfold oN at h
 simp only [zV,Nu]
 have d1:= @a36
 have d2:= @a0B
 have d3:= @Jb
 have d4:= @Ga
 have d5:= @nE
 have d6:= @xS
 have d7:= @kz
 have d8:= @Do
 have d9:= @CE
 exact go2
def Be (t:List UInt8):Option (List UInt8):=
 br (cP ((([0]:List UInt8)).length+t.length) 1) (
 (lh ((([0]:List UInt8))++t)).bind fun a=>
 some a) none
theorem a1B {t r} (h:Be t=some r):Call tab ow 318 [S t] []=some (S r,[]):=by
 rw [aj (af:=zF) rfl]
 unfold Be at h
 simp only [zF,O9]
 have d1:= @ru
 exact go2
def Cl (s:Source) (a b:Int):Option Bool:=
 br (cP (s.State.length+(([103,114,105,110,100]:List UInt8)).length) 1) (
 (fZ b 4).bind fun e=>
 br (cP ((s.State++(([103,114,105,110,100]:List UInt8))).length+e.length) 1) (
 (lh ((s.State++(([103,114,105,110,100]:List UInt8)))++e)).bind fun d=>
 (atL d 0).bind fun c=>
 (atL d 1).bind fun f=>
 br (decide (0<=(wrap .u64 (wrap .i64 (16-a))))) (
 some ((bW .i64 (wrap .i64 ((wrap .i64 ((wrap .i64 (c.toNat:Int))*256))+(wrap .i64 (f.toNat:Int)))) (wrap .u64 (wrap .i64 (16-a))))==0)) none) none) none
theorem a1w {s b a r} (h:Cl s b a=some r):Call tab ow 234 [.agg [sl eExt s.Script,I s.At,S s.State,I s.Count],I b,I a] []=some (B r,[]):=by
 rw [aj (af:=zT) rfl]
 unfold Cl at h
 simp only [zT,NL]
 have d1:= @jf
 have d2:= @ru
 exact go2
section
@[local go_sem] theorem b7b:mkR 2000 []=rws eExt []:=rfl
@[local go_sem] theorem b89:mkR 8002 []=rws eExt []:=rfl
def kD (b h:Int) (j:List UInt8) (k:Int):(List Ext)×Int×(List Ext)×Int×(List UInt8)×Int->Option (((List Ext)×Int×(List Ext)×Int×(List UInt8)×Int)⊕(((List Ext)×Int×Bool×(List Ext)×Int×(List UInt8)×Int)))
 | (l,i,c,d,f,e)=>
   br (decide (i<b)) (
   (rB (Source.mk c d f e)).bind fun a=>
   br (cP ((l++([a.2]:List Ext)).length) 16) (
   some (.inl ((l++([a.2]:List Ext)),(wrap .i64 (i+1)),a.1.Script,a.1.At,a.1.State,a.1.Count))) none) (
   some (.inr (l,i,decide (i<b),c,d,f,e)))
abbrev AO (d:Int) (e:List UInt8) (h:Int) (l c:List Ext) (a:Int) (f:List UInt8) (b:Int):List (Nat×Blk):=[(1000,⟨4,true,[[sl eExt c,I a,S f,I b]]⟩),(1001,⟨4,true,[[.lit (.slice none 0 0),I d,S e,I h]]⟩),(2000,⟨2,false,rws eExt l⟩)]
theorem Tr {a c b d}:LX tab ow (.close [6001,6005,6006,8002,8003]) HD (kD a c b d) (fun s=>⟨[(1,I a),(2,.ptr 1000 0 0 1),(4,.ptr 1001 0 0 1),(6,.sl 2000 0 s.1.length),(7,I s.2.1)],AO c b d s.1 s.2.2.1 s.2.2.2.1 s.2.2.2.2.1 s.2.2.2.2.2⟩) (fun e=>(.exit 0,⟨[(1,I a),(2,.ptr 1000 0 0 1),(4,.ptr 1001 0 0 1),(6,.sl 2000 0 e.1.length),(7,I e.2.1),(13,B e.2.2.1)],AO c b d e.1 e.2.2.2.1 e.2.2.2.2.1 e.2.2.2.2.2.1 e.2.2.2.2.2.2⟩)):=by
 refine lrX (fun s o h=> ?_)
 obtain ⟨_,_,_,_,_,_⟩:=s
 simp only [kD] at h
 simp only [AO,HD,Iq]
 have d1:= @Gb
 exact go2
def te (s:Source) (n:Int):Option (Source×(List Ext)):=
 (Loop (kD n 0 (([]:List UInt8)) 0) (([]:List Ext),0,s.Script,s.At,s.State,s.Count)).bind fun a=>
 some ((Source.mk a.2.2.2.1 a.2.2.2.2.1 a.2.2.2.2.2.1 a.2.2.2.2.2.2),a.1)
theorem N4 {s n r} (h:te s n=some r):Call tab ow 253 [.agg [sl eExt s.Script,I s.At,S s.State,I s.Count],I n] []=some (.tup [.agg [sl eExt r.1.Script,I r.1.At,S r.1.State,I r.1.Count],sl eExt r.2],[]):=by
 rw [aj (af:=zQ) rfl]
 unfold te at h
 simp only [zQ,Gf]
 have d1:= @Tr
 exact go2
end
section
@[local go_sem] theorem b3G:mkR 3000 []=rws eI []:=rfl
@[local go_sem] theorem b27:mkR 7008 []=rws eI []:=rfl
def iP (d a:Int) (b c:List Ext) (h:Int) (p:List UInt8) (j k:Int) (o:List UInt8) (q:Int) (m:List Ext) (n:Int) (e:List UInt8) (f:Int):(List Int)×Int->Option (((List Int)×Int)⊕(((List Int)×Int×Bool)))
 | (l,i)=>
   br (decide (i<d)) (
   (atL b i).bind fun x=>
   br (decide (a≠0)) (
   br (cP ((l++([(x.A.tmod a)]:List Int)).length) 8) (
   some (.inl ((l++([(x.A.tmod a)]:List Int)),(wrap .i64 (i+1))))) none) none) (
   some (.inr (l,i,decide (i<d))))
abbrev wk (c:List Ext) (d:Int) (k:List UInt8) (e h:Int) (j:List UInt8) (m:Int) (i:List Ext) (f:Int) (a:List UInt8) (b:Int) (l:List Int):List (Nat×Blk):=[(1000,⟨4,true,[[sl eExt c,I d,S k,I e]]⟩),(1001,⟨4,true,[[.lit (.slice none 0 0),I h,S j,I m]]⟩),(2006,⟨4,true,[[sl eExt i,I f,S a,I b]]⟩),(3000,⟨1,false,rws eI l⟩)]
theorem ON {i a b c j q k l p r m n d f}:LX tab ow (.close [7008,7009]) EE (iP i a b c j q k l p r m n d f) (fun s=>⟨[(1,I i),(2,I a),(6,.ptr 1001 0 0 1),(8,.ptr 2006 0 0 1),(9,sl eExt b),(10,.sl 3000 0 s.1.length),(11,I s.2)],wk c j q k l p r m n d f s.1⟩) (fun e=>(.exit 0,⟨[(1,I i),(2,I a),(6,.ptr 1001 0 0 1),(8,.ptr 2006 0 0 1),(9,sl eExt b),(10,.sl 3000 0 e.1.length),(11,I e.2.1),(21,B e.2.2)],wk c j q k l p r m n d f e.1⟩)):=by
 refine lrX (fun s o h=> ?_)
 obtain ⟨_,_⟩:=s
 simp only [iP] at h
 simp only [wk,EE,Ep]
 exact go2
def vN (s:Source) (n b:Int):Option (Source×(List Int)):=
 (te s n).bind fun a=>
 (Loop (iP n b a.2 s.Script s.At s.State s.Count 0 (([]:List UInt8)) 0 a.1.Script a.1.At a.1.State a.1.Count) (([]:List Int),0)).bind fun c=>
 some (a.1,c.1)
theorem Ut {s n a r} (h:vN s n a=some r):Call tab ow 214 [.agg [sl eExt s.Script,I s.At,S s.State,I s.Count],I n,I a] []=some (.tup [.agg [sl eExt r.1.Script,I r.1.At,S r.1.State,I r.1.Count],sl eI r.2],[]):=by
 rw [aj (af:=um) rfl]
 unfold vN at h
 simp only [um,AS]
 have d1:= @N4
 have d2:= @ON
 exact go2
end
def C8 (g:Gate) (k:Int):Option Bool:=
 (ez g.Op 1 8).bind fun y=>
 br (!y) (
 some false) (
 (Bw g.Op).bind fun a=>
 br (decide (a>0)) (
 (ez g.A 0 (wrap .i64 (k-1))).bind fun s=>
 br (!s) (
 some false) (
 br (a==0) (
 br (g.A !=0) (
 some false) (
 br (decide (a>1)) (
 (ez g.B 0 (wrap .i64 (k-1))).bind fun t=>
 br (!t) (
 some false) (
 br (decide (a<2)) (
 br (g.B !=0) (
 some false) (
 br (g.Op==3) (
 (dy g.K).bind fun x=>
 some x) (
 some (g.K==0)))) (
 br (g.Op==3) (
 (dy g.K).bind fun v=>
 some v) (
 some (g.K==0))))) (
 br (decide (a<2)) (
 br (g.B !=0) (
 some false) (
 br (g.Op==3) (
 (dy g.K).bind fun w=>
 some w) (
 some (g.K==0)))) (
 br (g.Op==3) (
 (dy g.K).bind fun u=>
 some u) (
 some (g.K==0)))))) (
 br (decide (a>1)) (
 (ez g.B 0 (wrap .i64 (k-1))).bind fun r=>
 br (!r) (
 some false) (
 br (decide (a<2)) (
 br (g.B !=0) (
 some false) (
 br (g.Op==3) (
 (dy g.K).bind fun o=>
 some o) (
 some (g.K==0)))) (
 br (g.Op==3) (
 (dy g.K).bind fun j=>
 some j) (
 some (g.K==0))))) (
 br (decide (a<2)) (
 br (g.B !=0) (
 some false) (
 br (g.Op==3) (
 (dy g.K).bind fun n=>
 some n) (
 some (g.K==0)))) (
 br (g.Op==3) (
 (dy g.K).bind fun m=>
 some m) (
 some (g.K==0))))))) (
 br (a==0) (
 br (g.A !=0) (
 some false) (
 br (decide (a>1)) (
 (ez g.B 0 (wrap .i64 (k-1))).bind fun l=>
 br (!l) (
 some false) (
 br (decide (a<2)) (
 br (g.B !=0) (
 some false) (
 br (g.Op==3) (
 (dy g.K).bind fun c=>
 some c) (
 some (g.K==0)))) (
 br (g.Op==3) (
 (dy g.K).bind fun e=>
 some e) (
 some (g.K==0))))) (
 br (decide (a<2)) (
 br (g.B !=0) (
 some false) (
 br (g.Op==3) (
 (dy g.K).bind fun h=>
 some h) (
 some (g.K==0)))) (
 br (g.Op==3) (
 (dy g.K).bind fun i=>
 some i) (
 some (g.K==0)))))) (
 br (decide (a>1)) (
 (ez g.B 0 (wrap .i64 (k-1))).bind fun b=>
 br (!b) (
 some false) (
 br (decide (a<2)) (
 br (g.B !=0) (
 some false) (
 br (g.Op==3) (
 (dy g.K).bind fun p=>
 some p) (
 some (g.K==0)))) (
 br (g.Op==3) (
 (dy g.K).bind fun d=>
 some d) (
 some (g.K==0))))) (
 br (decide (a<2)) (
 br (g.B !=0) (
 some false) (
 br (g.Op==3) (
 (dy g.K).bind fun q=>
 some q) (
 some (g.K==0)))) (
 br (g.Op==3) (
 (dy g.K).bind fun f=>
 some f) (
 some (g.K==0)))))))
theorem a0H {g k r} (h:C8 g k=some r):Call tab ow 260 [.agg [I g.Op,I g.A,I g.B,I g.K],I k] []=some (B r,[]):=by
 rw [aj (af:=zs) rfl]
 unfold C8 at h
 simp only [zs,N8]
 have d1:= @oO
 have d2:= @a1N
 have d3:= @EZ
 exact go2
def fN (a:List Gate):Int->Option ((Int)⊕(Unit⊕(Int×Bool)))
 |k=>
  br (decide (k<(a.length:Int))) (
  (atL a k).bind fun x=>
  (C8 x k).bind fun b=>
  br (!b) (
  some (.inr (.inl ()))) (
  some (.inl (wrap .i64 (k+1))))) (
  some (.inr (.inr (k,decide (k<(a.length:Int))))))
theorem Of {a}:LX tab ow (.close [7006]) Eg (fN a) (fun s=>⟨[(1,.ptr 1000 0 0 1),(3,I s)],[(1000,⟨1,true,[[sl eGate a]]⟩)]⟩) (alt (fun e=>((.ret,⟨[(2,B false)],[(1000,⟨1,true,[[sl eGate a]]⟩)]⟩):bR×St)) (fun e=>(.exit 0,⟨[(1,.ptr 1000 0 0 1),(3,I e.1),(13,B e.2)],[(1000,⟨1,true,[[sl eGate a]]⟩)]⟩))):=by
 refine lrX (fun s o h=> ?_)
 simp only [fN] at h
 simp only [Eg,EG]
 have d1:= @a0H
 exact go2
def uV (c:Circuit):Option Bool:=
 (ez (c.Gates.length:Int) 1 15).bind fun e=>
 br (!e) (
 some false) (
 (Loop (fN c.Gates) 0).bind (alt (fun d=>
 some false) (fun b=>
 (qN c 2).bind fun a=>
 some (decide (a<=7)))))
theorem Va {c r} (h:uV c=some r):Call tab ow 139 [.agg [sl eGate c.Gates]] []=some (B r,[]):=by
 rw [aj (af:=uw) rfl]
 unfold uV at h
 simp only [uw,AC]
 have d1:= @oO
 have d2:= @Of
 have d3:= @CK
 exact go2
def we (a:List Int):Int->Option ((Int)⊕(Unit⊕(Int×Bool)))
 |i=>
  br (decide (i<(a.length:Int))) (
  (atL a i).bind fun x=>
  (dy x).bind fun b=>
  br (!b) (
  some (.inr (.inl ()))) (
  some (.inl (wrap .i64 (i+1))))) (
  some (.inr (.inr (i,decide (i<(a.length:Int))))))
theorem P8 {a}:LX tab ow (.close [5004]) EM (we a) (fun s=>⟨[(0,sl eI a),(3,I s)],[]⟩) (alt (fun e=>((.ret,⟨[(2,B false)],[]⟩):bR×St)) (fun e=>(.exit 0,⟨[(0,sl eI a),(3,I e.1),(7,B e.2)],[]⟩))):=by
 refine lrX (fun s o h=> ?_)
 simp only [we] at h
 simp only [EM,Ee]
 have d1:= @EZ
 exact go2
def vv (a:List Int):Option Bool:=
 (Loop (we a) 0).bind (alt (fun c=>
 some false) (fun b=>
 some true))
theorem UK {a r} (h:vv a=some r):Call tab ow 242 [sl eI a] []=some (B r,[]):=by
 rw [aj (af:=tZ) rfl]
 unfold vv at h
 simp only [tZ,AH]
 have d1:= @P8
 exact go2
def oQ (p a:Int) (b:List Gate):Int->Option ((Int)⊕((Int×Bool)))
 |k=>
  br (decide (0<=(wrap .u64 (wrap .i64 (k-1))))) (
  br (decide ((bC .i64 1 (wrap .u64 (wrap .i64 (k-1))))<(mx (wrap .i64 (p+1)) a))) (
  some (.inl (wrap .i64 (k+1)))) (
  some (.inr (k,decide ((bC .i64 1 (wrap .u64 (wrap .i64 (k-1))))<(mx (wrap .i64 (p+1)) a)))))) none
theorem Zv {p a b}:LX tab ow (.close []) Kt (oQ p a b) (fun s=>⟨[(3,I p),(4,I a),(5,I s)],[(1000,⟨1,true,[[sl eGate b]]⟩)]⟩) (fun e=>(.exit 0,⟨[(3,I p),(4,I a),(5,I e.1),(21,B e.2)],[(1000,⟨1,true,[[sl eGate b]]⟩)]⟩)):=by
 refine lrX (fun s o h=> ?_)
 simp only [oQ] at h
 simp only [Kt,L6]
 exact go2
def Gs (c:Circuit):Option Int:=
 (qN c 2).bind fun a=>
 (Loop (oQ a (wrap .i64 ((c.Gates.length:Int)-a)) c.Gates) 2).bind fun b=>
 some b.1
theorem a6p {c r} (h:Gs c=some r):Call tab ow 337 [.agg [sl eGate c.Gates]] []=some (I r,[]):=by
 rw [aj (af:=CW) rfl]
 unfold Gs at h
 simp only [CW,Jg]
 have d1:= @CK
 have d2:= @Zv
 exact go2
section
@[local go_sem] theorem b9u:mkR 4000 []=rws eI []:=rfl
@[local go_sem] theorem b9e:mkR 12002 []=rws eI []:=rfl
@[local go_sem] theorem c0V:mkR 13004 []=rws eI []:=rfl
def mT (d a:Int) (c:List Gate):(List Int)×Int×Int×Int->Option (((List Int)×Int×Int×Int)⊕(((List Int)×Int×Int×Int×Bool)))
 | (l,p,b,k)=>
   br (decide (k<(c.length:Int))) (
   (atL c k).bind fun x=>
   br (x.Op==2) (
   br (cP ((l++([(wrap .i64 (p+1))]:List Int)).length) 8) (
   some (.inl ((l++([(wrap .i64 (p+1))]:List Int)),(wrap .i64 (p+1)),b,(wrap .i64 (k+1))))) none) (
   br (cP ((l++([(wrap .i64 (a+b))]:List Int)).length) 8) (
   some (.inl ((l++([(wrap .i64 (a+b))]:List Int)),p,(wrap .i64 (b+1)),(wrap .i64 (k+1))))) none)) (
   some (.inr (l,p,b,k,decide (k<(c.length:Int)))))
abbrev AB (a:List Gate) (l:List Int):List (Nat×Blk):=[(1000,⟨1,true,[[sl eGate a]]⟩),(4000,⟨1,false,rws eI l⟩)]
theorem UD {a b c}:LX tab ow (.close [12002,12003,13004,13005]) HY (mT a b c) (fun s=>⟨[(1,.ptr 1000 0 0 1),(4,I a),(5,I b),(6,.sl 4000 0 s.1.length),(7,I s.2.1),(8,I s.2.2.1),(9,I s.2.2.2)],AB c s.1⟩) (fun e=>(.exit 0,⟨[(1,.ptr 1000 0 0 1),(4,I a),(5,I b),(6,.sl 4000 0 e.1.length),(7,I e.2.1),(8,I e.2.2.1),(9,I e.2.2.2.1),(21,B e.2.2.2.2)],AB c e.1⟩)):=by
 refine lrX (fun s o h=> ?_)
 obtain ⟨_,_,_,_⟩:=s
 simp only [mT] at h
 simp only [AB,HY,II]
 exact go2
def BT (c:Circuit):Option ((List Int)×Int):=
 (Gs c).bind fun a=>
 br (decide (0<=(wrap .u64 (wrap .i64 (a-1))))) (
 (Loop (mT a (bC .i64 1 (wrap .u64 (wrap .i64 (a-1)))) c.Gates) (([]:List Int),0,0,0)).bind fun b=>
 some (b.1,a)) none
theorem a3l {c r} (h:BT c=some r):Call tab ow 258 [.agg [sl eGate c.Gates]] []=some (.tup [sl eI r.1,I r.2],[]):=by
 rw [aj (af:=zS) rfl]
 unfold BT at h
 simp only [zS,Fh]
 have d1:= @a6p
 have d2:= @UD
 exact go2
end
section
@[local go_sem] theorem b6W:mkR 7000 []=rws aA []:=rfl
@[local go_sem] theorem b73:mkR 9005 []=rws aA []:=rfl
@[local go_sem] theorem b6U:mkR 11000 []=rws aA []:=rfl
@[local go_sem] theorem b74:mkR 11009 []=rws aA []:=rfl
def jy (a:List au) (t d e:Int):Int->Option ((Int)⊕((Int×Bool)))
 |b=>
  br (decide (b>0)) (
  (atL a (wrap .i64 (b-1))).bind fun x=>
  br (x.Row==t) (
  (atL a (wrap .i64 (b-1))).bind fun c=>
  br (decide (c.Col>d)) (
  some (.inl (wrap .i64 (b-1)))) (
  some (.inr (b,decide (c.Col>d))))) (
  some (.inr (b,false)))) (
  some (.inr (b,false)))
theorem Px {a t c b}:LX tab ow (.close []) GJ (jy a t c b) (fun s=>⟨[(0,sl aA a),(1,I t),(2,I c),(3,I b),(9,I s)],[]⟩) (fun e=>(.exit 0,⟨[(0,sl aA a),(1,I t),(2,I c),(3,I b),(9,I e.1),(35,B e.2)],[]⟩)):=by
 refine lrX (fun s o h=> ?_)
 simp only [jy] at h
 simp only [GJ,GG]
 exact go2
def aG (b:List au) (a c e:Int):Option (List au):=
 (Loop (jy b a c e) (b.length:Int)).bind fun d=>
 br (decide (d.1>0)) (
 (atL b (wrap .i64 (d.1-1))).bind fun r=>
 br (r.Row==a) (
 (atL b (wrap .i64 (d.1-1))).bind fun p=>
 br (p.Col==c) (
 (atL b (wrap .i64 (d.1-1))).bind fun q=>
 (rI q.Value e).bind fun i=>
 (l6 b 0 (wrap .i64 (d.1-1))).bind fun y=>
 br (cP ((([]:List au)++y).length) 24) (
 br (i !=0) (
 br (cP (((([]:List au)++y)++([(au.mk a c i)]:List au)).length) 24) (
 (l6 b d.1 (b.length:Int)).bind fun l=>
 br (cP ((((([]:List au)++y)++([(au.mk a c i)]:List au))++l).length) 24) (
 some (((([]:List au)++y)++([(au.mk a c i)]:List au))++l)) none) none) (
 (l6 b d.1 (b.length:Int)).bind fun m=>
 br (cP (((([]:List au)++y)++m).length) 24) (
 some ((([]:List au)++y)++m)) none)) none) (
 (l6 b 0 d.1).bind fun f=>
 br (cP ((([]:List au)++f).length) 24) (
 br (cP (((([]:List au)++f)++([(au.mk a c e)]:List au)).length) 24) (
 (l6 b d.1 (b.length:Int)).bind fun k=>
 br (cP ((((([]:List au)++f)++([(au.mk a c e)]:List au))++k).length) 24) (
 some (((([]:List au)++f)++([(au.mk a c e)]:List au))++k)) none) none) none)) (
 (l6 b 0 d.1).bind fun h=>
 br (cP ((([]:List au)++h).length) 24) (
 br (cP (((([]:List au)++h)++([(au.mk a c e)]:List au)).length) 24) (
 (l6 b d.1 (b.length:Int)).bind fun o=>
 br (cP ((((([]:List au)++h)++([(au.mk a c e)]:List au))++o).length) 24) (
 some (((([]:List au)++h)++([(au.mk a c e)]:List au))++o)) none) none) none)) (
 (l6 b 0 d.1).bind fun j=>
 br (cP ((([]:List au)++j).length) 24) (
 br (cP (((([]:List au)++j)++([(au.mk a c e)]:List au)).length) 24) (
 (l6 b d.1 (b.length:Int)).bind fun n=>
 br (cP ((((([]:List au)++j)++([(au.mk a c e)]:List au))++n).length) 24) (
 some (((([]:List au)++j)++([(au.mk a c e)]:List au))++n)) none) none) none)
theorem Zw {b a d c r} (h:aG b a d c=some r):Call tab ow 259 [sl aA b,I a,I d,I c] []=some (sl aA r,[]):=by
 rw [aj (af:=xt) rfl]
 unfold aG at h
 simp only [xt,CH]
 have d1:= @Px
 have d2:= @JU
 exact go2
end
end
end Go.AI.Fn
set_option linter.unusedVariables false
set_option linter.unusedSimpArgs false
set_option maxRecDepth 100000
set_option maxHeartbeats 1000000
namespace Go.AI.Fn
noncomputable section
open IntKind (wrap)
section
@[local go_sem] theorem b5L:mkR 3003 []=rws aA []:=rfl
@[local go_sem] theorem b2A:mkR 3004 []=rws aA []:=rfl
@[local go_sem] theorem b3E:mkR 3005 []=rws aA []:=rfl
def gS (t:List Int) (c:List Gate) (c2 c3 c4 c5 c6 c7:Int):Int×Int×(List au)×(List au)×(List au)->Option ((Int×Int×(List au)×(List au)×(List au))⊕((Int×Int×Bool×(List au)×(List au)×(List au))))
 | (a,b,f,e,d)=>
   br (decide (b<(c.length:Int))) (
   (atL c b).bind fun x=>
   br (x.Op==1) (
   br (x.Op==1) (
   some (.inl (a,(wrap .i64 (b+1)),f,e,d))) (
   br (x.Op==6) (
   (atL t x.A).bind fun x2=>
   (aG f a x2 1).bind fun r_3=>
   (atL t x.B).bind fun x3=>
   (aG e a x3 1).bind fun r_4=>
   (atL t b).bind fun x4=>
   (aG d a x4 1).bind fun r_5=>
   some (.inl ((wrap .i64 (a+1)),(wrap .i64 (b+1)),r_3,r_4,r_5))) (
   br (x.Op==4) (
   br (x.Op==4) (
   (atL t x.A).bind fun x5=>
   (aG f a x5 1).bind fun r_6=>
   br (x.Op==5) (
   (atL t x.B).bind fun x6=>
   (aG r_6 a x6 2130706432).bind fun r_7=>
   (aG e a 0 1).bind fun r_8=>
   (atL t b).bind fun x7=>
   (aG d a x7 1).bind fun r_9=>
   some (.inl ((wrap .i64 (a+1)),(wrap .i64 (b+1)),r_7,r_8,r_9))) (
   (atL t x.B).bind fun x8=>
   (aG r_6 a x8 1).bind fun r_10=>
   (aG e a 0 1).bind fun r_11=>
   (atL t b).bind fun x9=>
   (aG d a x9 1).bind fun r_12=>
   some (.inl ((wrap .i64 (a+1)),(wrap .i64 (b+1)),r_10,r_11,r_12)))) (
   br (x.Op==3) (
   br (decide (x.K>0)) (
   (aG f a 0 x.K).bind fun r_13=>
   (aG e a 0 1).bind fun r_14=>
   (atL t b).bind fun x10=>
   (aG d a x10 1).bind fun y=>
   some (.inl ((wrap .i64 (a+1)),(wrap .i64 (b+1)),r_13,r_14,y))) (
   (aG e a 0 1).bind fun r_16=>
   (atL t b).bind fun x11=>
   (aG d a x11 1).bind fun r_17=>
   some (.inl ((wrap .i64 (a+1)),(wrap .i64 (b+1)),f,r_16,r_17)))) (
   br (x.Op==7) (
   (atL t x.B).bind fun x12=>
   (aG f a x12 1).bind fun r_18=>
   (aG e a 0 1).bind fun r_19=>
   (atL t b).bind fun x13=>
   (aG d a x13 1).bind fun r_20=>
   (atL t x.A).bind fun x14=>
   (aG r_18 (wrap .i64 (a+1)) x14 1).bind fun r_21=>
   (aG r_19 (wrap .i64 (a+1)) 0 1).bind fun r_22=>
   (atL t b).bind fun x15=>
   (aG r_20 (wrap .i64 (a+1)) x15 1).bind fun r_23=>
   some (.inl ((wrap .i64 ((wrap .i64 (a+1))+1)),(wrap .i64 (b+1)),r_21,r_22,r_23))) (
   br (x.Op==8) (
   (atL t x.A).bind fun x16=>
   (aG f a x16 1).bind fun r_24=>
   (atL t x.A).bind fun x17=>
   (aG e a x17 1).bind fun r_25=>
   (atL t b).bind fun x18=>
   (aG d a x18 1).bind fun r_26=>
   (atL t x.A).bind fun x19=>
   (aG r_24 (wrap .i64 (a+1)) x19 1).bind fun r_27=>
   (aG r_25 (wrap .i64 (a+1)) 0 1).bind fun u=>
   (atL t b).bind fun x20=>
   (aG r_26 (wrap .i64 (a+1)) x20 1).bind fun r_29=>
   some (.inl ((wrap .i64 ((wrap .i64 (a+1))+1)),(wrap .i64 (b+1)),r_27,u,r_29))) (
   (atL t b).bind fun x21=>
   (aG d a x21 1).bind fun r_30=>
   some (.inl ((wrap .i64 (a+1)),(wrap .i64 (b+1)),f,e,r_30))))))) (
   br (x.Op==5) (
   (atL t x.A).bind fun x22=>
   (aG f a x22 1).bind fun j=>
   br (x.Op==5) (
   (atL t x.B).bind fun x23=>
   (aG j a x23 2130706432).bind fun r_32=>
   (aG e a 0 1).bind fun r_33=>
   (atL t b).bind fun x24=>
   (aG d a x24 1).bind fun r_34=>
   some (.inl ((wrap .i64 (a+1)),(wrap .i64 (b+1)),r_32,r_33,r_34))) (
   (atL t x.B).bind fun x25=>
   (aG j a x25 1).bind fun r_35=>
   (aG e a 0 1).bind fun r_36=>
   (atL t b).bind fun x26=>
   (aG d a x26 1).bind fun r_37=>
   some (.inl ((wrap .i64 (a+1)),(wrap .i64 (b+1)),r_35,r_36,r_37)))) (
   br (x.Op==3) (
   br (decide (x.K>0)) (
   (aG f a 0 x.K).bind fun w=>
   (aG e a 0 1).bind fun r_39=>
   (atL t b).bind fun x27=>
   (aG d a x27 1).bind fun r_40=>
   some (.inl ((wrap .i64 (a+1)),(wrap .i64 (b+1)),w,r_39,r_40))) (
   (aG e a 0 1).bind fun r_41=>
   (atL t b).bind fun x28=>
   (aG d a x28 1).bind fun r_42=>
   some (.inl ((wrap .i64 (a+1)),(wrap .i64 (b+1)),f,r_41,r_42)))) (
   br (x.Op==7) (
   (atL t x.B).bind fun x29=>
   (aG f a x29 1).bind fun v=>
   (aG e a 0 1).bind fun r_44=>
   (atL t b).bind fun x30=>
   (aG d a x30 1).bind fun r_45=>
   (atL t x.A).bind fun x31=>
   (aG v (wrap .i64 (a+1)) x31 1).bind fun r_46=>
   (aG r_44 (wrap .i64 (a+1)) 0 1).bind fun r_47=>
   (atL t b).bind fun x32=>
   (aG r_45 (wrap .i64 (a+1)) x32 1).bind fun r_48=>
   some (.inl ((wrap .i64 ((wrap .i64 (a+1))+1)),(wrap .i64 (b+1)),r_46,r_47,r_48))) (
   br (x.Op==8) (
   (atL t x.A).bind fun x33=>
   (aG f a x33 1).bind fun r_49=>
   (atL t x.A).bind fun x34=>
   (aG e a x34 1).bind fun r_50=>
   (atL t b).bind fun x35=>
   (aG d a x35 1).bind fun r_51=>
   (atL t x.A).bind fun x36=>
   (aG r_49 (wrap .i64 (a+1)) x36 1).bind fun r_52=>
   (aG r_50 (wrap .i64 (a+1)) 0 1).bind fun r_53=>
   (atL t b).bind fun x37=>
   (aG r_51 (wrap .i64 (a+1)) x37 1).bind fun r_54=>
   some (.inl ((wrap .i64 ((wrap .i64 (a+1))+1)),(wrap .i64 (b+1)),r_52,r_53,r_54))) (
   (atL t b).bind fun x38=>
   (aG d a x38 1).bind fun r_55=>
   some (.inl ((wrap .i64 (a+1)),(wrap .i64 (b+1)),f,e,r_55)))))))))) (
   br (x.Op==2) (
   some (.inl (a,(wrap .i64 (b+1)),f,e,d))) (
   br (x.Op==6) (
   (atL t x.A).bind fun x39=>
   (aG f a x39 1).bind fun r_56=>
   (atL t x.B).bind fun x40=>
   (aG e a x40 1).bind fun r_57=>
   (atL t b).bind fun x41=>
   (aG d a x41 1).bind fun r_58=>
   some (.inl ((wrap .i64 (a+1)),(wrap .i64 (b+1)),r_56,r_57,r_58))) (
   br (x.Op==4) (
   br (x.Op==4) (
   (atL t x.A).bind fun x42=>
   (aG f a x42 1).bind fun h=>
   br (x.Op==5) (
   (atL t x.B).bind fun x43=>
   (aG h a x43 2130706432).bind fun r_60=>
   (aG e a 0 1).bind fun r_61=>
   (atL t b).bind fun x44=>
   (aG d a x44 1).bind fun r_62=>
   some (.inl ((wrap .i64 (a+1)),(wrap .i64 (b+1)),r_60,r_61,r_62))) (
   (atL t x.B).bind fun x45=>
   (aG h a x45 1).bind fun r_63=>
   (aG e a 0 1).bind fun r_64=>
   (atL t b).bind fun x46=>
   (aG d a x46 1).bind fun r_65=>
   some (.inl ((wrap .i64 (a+1)),(wrap .i64 (b+1)),r_63,r_64,r_65)))) (
   br (x.Op==3) (
   br (decide (x.K>0)) (
   (aG f a 0 x.K).bind fun r_66=>
   (aG e a 0 1).bind fun r_67=>
   (atL t b).bind fun x47=>
   (aG d a x47 1).bind fun r_68=>
   some (.inl ((wrap .i64 (a+1)),(wrap .i64 (b+1)),r_66,r_67,r_68))) (
   (aG e a 0 1).bind fun r_69=>
   (atL t b).bind fun x48=>
   (aG d a x48 1).bind fun z=>
   some (.inl ((wrap .i64 (a+1)),(wrap .i64 (b+1)),f,r_69,z)))) (
   br (x.Op==7) (
   (atL t x.B).bind fun x49=>
   (aG f a x49 1).bind fun r_71=>
   (aG e a 0 1).bind fun r_72=>
   (atL t b).bind fun x50=>
   (aG d a x50 1).bind fun r_73=>
   (atL t x.A).bind fun x51=>
   (aG r_71 (wrap .i64 (a+1)) x51 1).bind fun r_74=>
   (aG r_72 (wrap .i64 (a+1)) 0 1).bind fun r_75=>
   (atL t b).bind fun x52=>
   (aG r_73 (wrap .i64 (a+1)) x52 1).bind fun r_76=>
   some (.inl ((wrap .i64 ((wrap .i64 (a+1))+1)),(wrap .i64 (b+1)),r_74,r_75,r_76))) (
   br (x.Op==8) (
   (atL t x.A).bind fun x53=>
   (aG f a x53 1).bind fun r_77=>
   (atL t x.A).bind fun x54=>
   (aG e a x54 1).bind fun r_78=>
   (atL t b).bind fun x55=>
   (aG d a x55 1).bind fun r_79=>
   (atL t x.A).bind fun x56=>
   (aG r_77 (wrap .i64 (a+1)) x56 1).bind fun r_80=>
   (aG r_78 (wrap .i64 (a+1)) 0 1).bind fun r_81=>
   (atL t b).bind fun x57=>
   (aG r_79 (wrap .i64 (a+1)) x57 1).bind fun r_82=>
   some (.inl ((wrap .i64 ((wrap .i64 (a+1))+1)),(wrap .i64 (b+1)),r_80,r_81,r_82))) (
   (atL t b).bind fun x58=>
   (aG d a x58 1).bind fun r_83=>
   some (.inl ((wrap .i64 (a+1)),(wrap .i64 (b+1)),f,e,r_83))))))) (
   br (x.Op==5) (
   (atL t x.A).bind fun x59=>
   (aG f a x59 1).bind fun i=>
   br (x.Op==5) (
   (atL t x.B).bind fun x60=>
   (aG i a x60 2130706432).bind fun r_85=>
   (aG e a 0 1).bind fun r_86=>
   (atL t b).bind fun x61=>
   (aG d a x61 1).bind fun r_87=>
   some (.inl ((wrap .i64 (a+1)),(wrap .i64 (b+1)),r_85,r_86,r_87))) (
   (atL t x.B).bind fun x62=>
   (aG i a x62 1).bind fun r_88=>
   (aG e a 0 1).bind fun r_89=>
   (atL t b).bind fun x63=>
   (aG d a x63 1).bind fun r_90=>
   some (.inl ((wrap .i64 (a+1)),(wrap .i64 (b+1)),r_88,r_89,r_90)))) (
   br (x.Op==3) (
   br (decide (x.K>0)) (
   (aG f a 0 x.K).bind fun r_91=>
   (aG e a 0 1).bind fun r_92=>
   (atL t b).bind fun x64=>
   (aG d a x64 1).bind fun r_93=>
   some (.inl ((wrap .i64 (a+1)),(wrap .i64 (b+1)),r_91,r_92,r_93))) (
   (aG e a 0 1).bind fun r_94=>
   (atL t b).bind fun x65=>
   (aG d a x65 1).bind fun r_95=>
   some (.inl ((wrap .i64 (a+1)),(wrap .i64 (b+1)),f,r_94,r_95)))) (
   br (x.Op==7) (
   (atL t x.B).bind fun x66=>
   (aG f a x66 1).bind fun r_96=>
   (aG e a 0 1).bind fun r_97=>
   (atL t b).bind fun x67=>
   (aG d a x67 1).bind fun r_98=>
   (atL t x.A).bind fun x68=>
   (aG r_96 (wrap .i64 (a+1)) x68 1).bind fun r_99=>
   (aG r_97 (wrap .i64 (a+1)) 0 1).bind fun q=>
   (atL t b).bind fun x69=>
   (aG r_98 (wrap .i64 (a+1)) x69 1).bind fun l=>
   some (.inl ((wrap .i64 ((wrap .i64 (a+1))+1)),(wrap .i64 (b+1)),r_99,q,l))) (
   br (x.Op==8) (
   (atL t x.A).bind fun x70=>
   (aG f a x70 1).bind fun n=>
   (atL t x.A).bind fun x71=>
   (aG e a x71 1).bind fun r=>
   (atL t b).bind fun x72=>
   (aG d a x72 1).bind fun s=>
   (atL t x.A).bind fun x73=>
   (aG n (wrap .i64 (a+1)) x73 1).bind fun m=>
   (aG r (wrap .i64 (a+1)) 0 1).bind fun k=>
   (atL t b).bind fun x74=>
   (aG s (wrap .i64 (a+1)) x74 1).bind fun p=>
   some (.inl ((wrap .i64 ((wrap .i64 (a+1))+1)),(wrap .i64 (b+1)),m,k,p))) (
   (atL t b).bind fun x75=>
   (aG d a x75 1).bind fun o=>
   some (.inl ((wrap .i64 (a+1)),(wrap .i64 (b+1)),f,e,o))))))))))) (
   some (.inr (a,b,decide (b<(c.length:Int)),f,e,d)))
abbrev wi (c:List Gate) (b j d f i k:Int) (h e a:List au):List (Nat×Blk):=[(1000,⟨1,true,[[sl eGate c]]⟩),(1001,⟨6,true,[[I b,I j,I d,.lit (.slice none 0 0),.lit (.slice none 0 0),.lit (.slice none 0 0)]]⟩),(3007,⟨6,true,[[I f,I i,I k,sl aA h,sl aA e,sl aA a]]⟩)]
theorem Ot {t c a i b d f j}:LX tab ow (.close [8005,13008,14008,17008,21009,22003,25005,26003,28008,29003,30007,32008,33003,35008,36008,37007,39008,40003,41007,3003,3004,3005]) DX (gS t c a i b d f j) (fun s=>⟨[(1,.ptr 1000 0 0 1),(2,.ptr 1001 0 0 1),(3,sl eI t),(5,.ptr 3007 0 0 1),(6,I s.1),(7,I s.2.1)],wi c a i b d f j s.2.2.1 s.2.2.2.1 s.2.2.2.2⟩) (fun e=>(.exit 0,⟨[(1,.ptr 1000 0 0 1),(2,.ptr 1001 0 0 1),(3,sl eI t),(5,.ptr 3007 0 0 1),(6,I e.1),(7,I e.2.1),(26,B e.2.2.1)],wi c a i b d f j e.2.2.2.1 e.2.2.2.2.1 e.2.2.2.2.2⟩)):=by
 refine lrX (fun s o h=> ?_)
 obtain ⟨_,_,_,_,_⟩:=s
 simp only [gS] at h
 simp only [wi,DX,Et]
 have d1:= @Zw
 exact go2
def pU (b:Int) (f:List Gate) (c l d h j:Int) (k e i:List au):Int->Option ((Int)⊕((Bool×Int)))
 |a=>
  br (decide (0<=(wrap .u64 a))) (
  br (decide ((bC .i64 1 (wrap .u64 a))<b)) (
  some (.inl (wrap .i64 (a+1)))) (
  some (.inr (decide ((bC .i64 1 (wrap .u64 a))<b),a)))) none
abbrev wt (d:List Gate) (a j b e h:Int) (i c f:List au) (k:Int):List (Nat×Blk):=[(1000,⟨1,true,[[sl eGate d]]⟩),(1001,⟨6,true,[[I a,I j,I b,.lit (.slice none 0 0),.lit (.slice none 0 0),.lit (.slice none 0 0)]]⟩),(3007,⟨6,true,[[I k,I e,I h,sl aA i,sl aA c,sl aA f]]⟩)]
theorem Oi {m d a l b f j k c i}:LX tab ow (.close []) BL (pU m d a l b f j k c i) (fun s=>⟨[(2,.ptr 1001 0 0 1),(5,.ptr 3007 0 0 1),(6,I m)],wt d a l b f j k c i s⟩) (fun e=>(.exit 3,⟨[(2,.ptr 1001 0 0 1),(5,.ptr 3007 0 0 1),(6,I m),(218,B e.1)],wt d a l b f j k c i e.2⟩)):=by
 refine lrX (fun s o h=> ?_)
 simp only [pU] at h
 simp only [wt,BL,BG]
 exact go2
def vi (a:Circuit):Option bj:=
 (BT a).bind fun d=>
 (qN a 2).bind fun c=>
 (Loop (gS d.1 a.Gates 0 0 0 0 d.2 c) (0,0,([]:List au),([]:List au),([]:List au))).bind fun b=>
 (Loop (pU b.1 a.Gates 0 0 0 d.2 c b.2.2.2.1 b.2.2.2.2.1 b.2.2.2.2.2) 1).bind fun e=>
 some (bj.mk e.2 d.2 c b.2.2.2.1 b.2.2.2.2.1 b.2.2.2.2.2)
theorem Un {a r} (h:vi a=some r):Call tab ow 137 [.agg [sl eGate a.Gates]] []=some (.agg [I r.Rows,I r.Cols,I r.Publics,sl aA r.A,sl aA r.B,sl aA r.C],[]):=by
 rw [aj (af:=ur) rfl]
 unfold vi at h
 simp only [ur,uh]
 have d1:= @a3l
 have d2:= @CK
 have d3:= @Ot
 have d4:= @Oi
 exact go2
end
section
@[local go_sem] theorem b6D:mkR 2009 []=rws eU8 []:=rfl
@[local go_sem] theorem b2w:mkR 3006 []=rws (eL aA) []:=rfl
@[local go_sem] theorem b5l:mkR 12007 []=rws eU8 []:=rfl
def iL (m:List UInt8) (e:List (List au)) (c p o n:Int) (k j i:List au):(List UInt8)×Int->Option (((List UInt8)×Int)⊕(((List UInt8)×Int×Bool)))
 | (f,d)=>
   br (decide (0<=c)) (
   br (decide (c.toNat<e.length)) (
   (e[c.toNat]?).bind fun h=>
   br (decide (d<(h.length:Int))) (
   br (decide (0<=c)) (
   br (decide (c.toNat<e.length)) (
   (e[c.toNat]?).bind fun l=>
   (atL l d).bind fun a=>
   (fZ a.Value 4).bind fun b=>
   br (cP (([(UInt8.ofInt a.Row),(UInt8.ofInt a.Col)]:List UInt8).length+b.length) 1) (
   br (cP (f.length+(([(UInt8.ofInt a.Row),(UInt8.ofInt a.Col)]:List UInt8)++b).length) 1) (
   some (.inl ((f++(([(UInt8.ofInt a.Row),(UInt8.ofInt a.Col)]:List UInt8)++b)),(wrap .i64 (d+1))))) none) none) none) none) (
   some (.inr (f,d,decide (d<(h.length:Int)))))) none) none
abbrev w9 (d:List UInt8) (h:List (List au)) (i f e:Int) (c b a:List au):List (Nat×Blk):=[(1000,⟨6,true,[[I i,I f,I e,sl aA c,sl aA b,sl aA a]]⟩),(2009,⟨1,false,rws eU8 d⟩),(3006,⟨1,false,rws (eL aA) h⟩)]
theorem Od {f d k l i j b c a}:LX tab ow (.close [11007,12007,12011]) DU (iL f d k l i j b c a) (fun s=>⟨[(3,S s.1),(4,.sl 3006 0 d.length),(5,I k),(6,I s.2)],w9 f d l i j b c a⟩) (fun e=>(.exit 2,⟨[(3,S e.1),(4,.sl 3006 0 d.length),(5,I k),(6,I e.2.1),(46,B e.2.2)],w9 f d l i j b c a⟩)):=by
 refine lrX (fun s o h=> ?_)
 obtain ⟨_,_⟩:=s
 simp only [iL] at h
 simp only [w9,DU,DR]
 have d1:= @jf
 exact go2
def jY (l:List UInt8) (b:List (List au)) (c e k:Int) (f i j:List au):(List UInt8)×Int->Option (((List UInt8)×Int)⊕(((List UInt8)×Int×Bool)))
 | (t,a)=>
   br (decide (a<3)) (
   br (decide (0<=a)) (
   br (decide (a.toNat<b.length)) (
   (b[a.toNat]?).bind fun x=>
   (fZ (x.length:Int) 4).bind fun d=>
   br (cP (t.length+d.length) 1) (
   (Loop (iL l b a c e k f i j) ((t++d),0)).bind fun h=>
   some (.inl (h.1,(wrap .i64 (a+1))))) none) none) none) (
   some (.inr (t,a,decide (a<3))))
abbrev ws (l:List UInt8) (e:List (List au)) (c a h:Int) (b d f:List au):List (Nat×Blk):=[(1000,⟨6,true,[[I c,I a,I h,sl aA b,sl aA d,sl aA f]]⟩),(2009,⟨1,false,rws eU8 l⟩),(3006,⟨1,false,rws (eL aA) e⟩)]
theorem P7 {l a c b j d f i}:LX tab ow (.close [7006,11007,12007,12011]) EL (jY l a c b j d f i) (fun s=>⟨[(3,S s.1),(4,.sl 3006 0 a.length),(5,I s.2)],ws l a c b j d f i⟩) (fun e=>(.exit 0,⟨[(3,S e.1),(4,.sl 3006 0 a.length),(5,I e.2.1),(28,B e.2.2)],ws l a c b j d f i⟩)):=by
 refine lrX (fun s o h=> ?_)
 obtain ⟨_,_⟩:=s
 simp only [jY] at h
 simp only [ws,EL,Eb]
 have d1:= @jf
 have d2:= @Od
 exact go2
def vW (a:bj):Option (List UInt8):=
 br (cP ((([115,121,115,116,101,109]:List UInt8)).length+([(UInt8.ofInt a.Rows),(UInt8.ofInt a.Cols),(UInt8.ofInt a.Publics)]:List UInt8).length) 1) (
 (Loop (jY ([(UInt8.ofInt a.Rows),(UInt8.ofInt a.Cols),(UInt8.ofInt a.Publics)]:List UInt8) ([a.A,a.B,a.C]:List (List au)) a.Rows a.Cols a.Publics a.A a.B a.C) (((([115,121,115,116,101,109]:List UInt8))++([(UInt8.ofInt a.Rows),(UInt8.ofInt a.Cols),(UInt8.ofInt a.Publics)]:List UInt8)),0)).bind fun c=>
 (lh c.1).bind fun b=>
 some b) none
theorem UZ {a r} (h:vW a=some r):Call tab ow 336 [.agg [I a.Rows,I a.Cols,I a.Publics,sl aA a.A,sl aA a.B,sl aA a.C]] []=some (S r,[]):=by
 rw [aj (af:=tY) rfl]
 unfold vW at h
 simp only [tY,uc]
 have d1:= @P7
 have d2:= @ru
 exact go2
end
section
@[local go_sem] theorem b6R:mkR 2011 []=rws eU8 []:=rfl
def jE (l:List UInt8) (a:List Int) (c o u:Int) (p r t:List au) (v s q:Int) (h:List Ext) (j:Int) (e:List UInt8) (m f:Int) (n:List UInt8) (k:Int):(List UInt8)×Int->Option (((List UInt8)×Int)⊕(((List UInt8)×Int×Bool)))
 | (b,i)=>
   br (decide (i<(a.length:Int))) (
   (atL a i).bind fun x=>
   (fZ x 4).bind fun d=>
   br (cP (b.length+d.length) 1) (
   some (.inl ((b++d),(wrap .i64 (i+1))))) none) (
   some (.inr (b,i,decide (i<(a.length:Int)))))
abbrev yZ (l:List UInt8) (c j q:Int) (k m p:List au) (r n o:Int) (d:List Ext) (e:Int) (a:List UInt8) (h b:Int) (i:List UInt8) (f:Int):List (Nat×Blk):=[(1000,⟨6,true,[[I c,I j,I q,sl aA k,sl aA m,sl aA p]]⟩),(1001,⟨3,true,[[I r,I n,I o]]⟩),(1002,⟨4,true,[[sl eExt d,I e,S a,I h]]⟩),(1003,⟨4,true,[[.lit (.slice none 0 0),I b,S i,I f]]⟩),(2011,⟨1,false,rws eU8 l⟩)]
theorem Qv {l a c n v p r u w t q f i b k d m j}:LX tab ow (.close [6005]) FS (jE l a c n v p r u w t q f i b k d m j) (fun s=>⟨[(2,sl eI a),(7,.ptr 1002 0 0 1),(8,.ptr 1003 0 0 1),(9,S s.1),(10,I s.2)],yZ l c n v p r u w t q f i b k d m j⟩) (fun e=>(.exit 0,⟨[(2,sl eI a),(7,.ptr 1002 0 0 1),(8,.ptr 1003 0 0 1),(9,S e.1),(10,I e.2.1),(28,B e.2.2)],yZ l c n v p r u w t q f i b k d m j⟩)):=by
 refine lrX (fun s o h=> ?_)
 obtain ⟨_,_⟩:=s
 simp only [jE] at h
 simp only [yZ,FS,F8]
 have d1:= @jf
 exact go2
def yh (s:bj) (t:Setting) (b:List Int) (a:Source):Option Source:=
 (vW s).bind fun d=>
 br (cP (d.length+([(UInt8.ofInt t.Rate),(UInt8.ofInt t.Queries),(UInt8.ofInt t.Grind)]:List UInt8).length) 1) (
 (Loop (jE ([(UInt8.ofInt t.Rate),(UInt8.ofInt t.Queries),(UInt8.ofInt t.Grind)]:List UInt8) b s.Rows s.Cols s.Publics s.A s.B s.C t.Rate t.Queries t.Grind a.Script a.At a.State a.Count 0 (([]:List UInt8)) 0) ((d++([(UInt8.ofInt t.Rate),(UInt8.ofInt t.Queries),(UInt8.ofInt t.Grind)]:List UInt8)),0)).bind fun e=>
 (ke a e.1).bind fun c=>
 some c) none
theorem Xi {s t b a r} (h:yh s t b a=some r):Call tab ow 250 [.agg [I s.Rows,I s.Cols,I s.Publics,sl aA s.A,sl aA s.B,sl aA s.C],.agg [I t.Rate,I t.Queries,I t.Grind],sl eI b,.agg [sl eExt a.Script,I a.At,S a.State,I a.Count]] []=some (.agg [sl eExt r.Script,I r.At,S r.State,I r.Count],[]):=by
 rw [aj (af:=xf) rfl]
 unfold yh at h
 simp only [xf,CJ]
 have d1:= @UZ
 have d2:= @Qv
 have d3:= @pO
 exact go2
end
section
@[local go_sem] theorem c09: ∀k,BQ 2001 k [I (0:Int),I (0:Int)]=rws eExt (List.replicate k (Ext.mk (0:Int) (0:Int))):=fun _=>M6 eExt (Ext.mk (0:Int) (0:Int)) _ _
def tX (a:List Int):(List Ext)×Int->Option (((List Ext)×Int)⊕(((List Ext)×Int×Bool)))
 | (l,i)=>
   br (decide (i<(a.length:Int))) (
   (atL a i).bind fun x=>
   (s6 x).bind fun b=>
   br (decide (0<=i)) (
   br (decide (i.toNat<l.length)) (
   (l[i.toNat]?).bind fun c=>
   some (.inl ((l.set i.toNat b),(wrap .i64 (i+1))))) none) none) (
   some (.inr (l,i,decide (i<(a.length:Int)))))
theorem Uy {a}:LX tab ow (.close [6006]) J1 (tX a) (fun s=>⟨[(0,sl eI a),(5,.sl 2001 0 s.1.length),(6,I s.2)],[(2001,⟨2,false,rws eExt s.1⟩)]⟩) (fun e=>(.exit 0,⟨[(0,sl eI a),(5,.sl 2001 0 e.1.length),(6,I e.2.1),(12,B e.2.2)],[(2001,⟨2,false,rws eExt e.1⟩)]⟩)):=by
 refine lrX (fun s o h=> ?_)
 obtain ⟨_,_⟩:=s
 simp only [tX] at h
 simp only [J1,J4]
 have d1:= @xS
 exact go2
def Bv (a:List Int) (n:Int):Option (List Ext):=
 br (zg n n 16) (
 (Loop (tX a) ((List.replicate n.toNat (Ext.mk (0:Int) (0:Int))),(0:Int))).bind fun b=>
 some b.1) none
theorem a3z {a n r} (h:Bv a n=some r):Call tab ow 251 [sl eI a,I n] []=some (sl eExt r,[]):=by
 rw [aj (af:=zx) rfl]
 unfold Bv at h
 simp only [zx,Gm]
 have d1:= @Uy
 exact go2
end
section
@[local go_sem] theorem b3m: ∀k,BQ 3002 k [I (0:Int)]=rws eI (List.replicate k (0:Int)):=fun _=>M6 eI (0:Int) _ _
def iQ (a b:List Int) (d c f k:Int) (h j m:List au):(List Int)×Int->Option (((List Int)×Int)⊕(((List Int)×Int×Bool)))
 | (l,i)=>
   br (decide (i<(a.length:Int))) (
   (atL a i).bind fun e=>
   br (decide (0<=(wrap .i64 (1+i)))) (
   br (decide ((wrap .i64 (1+i)).toNat<l.length)) (
   (l[(wrap .i64 (1+i)).toNat]?).bind fun n=>
   some (.inl ((l.set ((wrap .i64 (1+i)).toNat) e),(wrap .i64 (i+1))))) none) none) (
   some (.inr (l,i,decide (i<(a.length:Int)))))
abbrev pX (c a f:Int) (b d e:List au) (l:List Int):List (Nat×Blk):=[(1000,⟨6,true,[[I c,I a,I f,sl aA b,sl aA d,sl aA e]]⟩),(3002,⟨1,false,rws eI l⟩)]
theorem OP {b a d c f l i j k}:LX tab ow (.close []) EJ (iQ b a d c f l i j k) (fun s=>⟨[(1,sl eI b),(2,sl eI a),(7,I d),(8,.sl 3002 0 s.1.length),(9,I s.2)],pX c f l i j k s.1⟩) (fun e=>(.exit 0,⟨[(1,sl eI b),(2,sl eI a),(7,I d),(8,.sl 3002 0 e.1.length),(9,I e.2.1),(24,B e.2.2)],pX c f l i j k e.1⟩)):=by
 refine lrX (fun s o h=> ?_)
 obtain ⟨_,_⟩:=s
 simp only [iQ] at h
 simp only [pX,EJ,Eu]
 exact go2
def iO (a:List Int) (b l k j:Int) (i h e:List au):(List Int)×Int->Option (((List Int)×Int)⊕(((List Int)×Int×Bool)))
 | (d,c)=>
   br (decide (c<(a.length:Int))) (
   (atL a c).bind fun f=>
   br (decide (0<=(wrap .i64 (b+c)))) (
   br (decide ((wrap .i64 (b+c)).toNat<d.length)) (
   (d[(wrap .i64 (b+c)).toNat]?).bind fun m=>
   some (.inl ((d.set ((wrap .i64 (b+c)).toNat) f),(wrap .i64 (c+1))))) none) none) (
   some (.inr (d,c,decide (c<(a.length:Int)))))
abbrev wu (h f d:Int) (c b a:List au) (e:List Int):List (Nat×Blk):=[(1000,⟨6,true,[[I h,I f,I d,sl aA c,sl aA b,sl aA a]]⟩),(3002,⟨1,false,rws eI e⟩)]
theorem OV {a b k j i d f c}:LX tab ow (.close []) E3 (iO a b k j i d f c) (fun s=>⟨[(2,sl eI a),(7,I b),(8,.sl 3002 0 s.1.length),(10,I s.2)],wu k j i d f c s.1⟩) (fun e=>(.exit 2,⟨[(2,sl eI a),(7,I b),(8,.sl 3002 0 e.1.length),(10,I e.2.1),(38,B e.2.2)],wu k j i d f c e.1⟩)):=by
 refine lrX (fun s o h=> ?_)
 obtain ⟨_,_⟩:=s
 simp only [iO] at h
 simp only [wu,E3,ED]
 exact go2
def v6 (s:bj) (b a:List Int):Option (List Int):=
 br (decide (0<=(wrap .u64 (wrap .i64 (s.Cols-1))))) (
 br (zg (wrap .i64 (2*(bC .i64 1 (wrap .u64 (wrap .i64 (s.Cols-1)))))) (wrap .i64 (2*(bC .i64 1 (wrap .u64 (wrap .i64 (s.Cols-1)))))) 8) (
 br (decide (0<(List.replicate ((wrap .i64 ((2:Int)*(bC .i64 (1:Int) (wrap .u64 (wrap .i64 (s.Cols-(1:Int))))))).toNat) (0:Int)).length)) (
 ((List.replicate ((wrap .i64 ((2:Int)*(bC .i64 (1:Int) (wrap .u64 (wrap .i64 (s.Cols-(1:Int))))))).toNat) (0:Int))[0]?).bind fun x=>
 (Loop (iQ b a (bC .i64 (1:Int) (wrap .u64 (wrap .i64 (s.Cols-(1:Int))))) s.Rows s.Cols s.Publics s.A s.B s.C) (((List.replicate ((wrap .i64 ((2:Int)*(bC .i64 (1:Int) (wrap .u64 (wrap .i64 (s.Cols-(1:Int))))))).toNat) (0:Int)).set 0 (1:Int)),(0:Int))).bind fun d=>
 (Loop (iO a (bC .i64 1 (wrap .u64 (wrap .i64 (s.Cols-1)))) s.Rows s.Cols s.Publics s.A s.B s.C) (d.1,0)).bind fun c=>
 some c.1) none) none) none
theorem TW {s b a r} (h:v6 s b a=some r):Call tab ow 252 [.agg [I s.Rows,I s.Cols,I s.Publics,sl aA s.A,sl aA s.B,sl aA s.C],sl eI b,sl eI a] []=some (sl eI r,[]):=by
 rw [aj (af:=uC) rfl]
 unfold v6 at h
 simp only [uC,ud]
 have d1:= @OP
 simp only [pX] at d1
 have d2:= @OV
 exact go2
end
section
@[local go_sem] theorem b6T: ∀k,BQ 2004 k [I (0:Int),I (0:Int)]=rws eExt (List.replicate k (Ext.mk (0:Int) (0:Int))):=fun _=>M6 eExt (Ext.mk (0:Int) (0:Int)) _ _
@[local go_sem] theorem b6V:mkR 4006 []=rws (eL aA) []:=rfl
def fH (e:List (List au)) (o n:List Ext) (b v w t:Int) (k q m:List au):(List Ext)×Int->Option (((List Ext)×Int)⊕(((List Ext)×Int×Bool)))
 | (c,d)=>
   br (decide (0<=b)) (
   br (decide (b.toNat<e.length)) (
   (e[b.toNat]?).bind fun x=>
   br (decide (d<(x.length:Int))) (
   br (decide (0<=b)) (
   br (decide (b.toNat<e.length)) (
   (e[b.toNat]?).bind fun l=>
   (atL l d).bind fun a=>
   br (decide (0<=a.Col)) (
   br (decide (a.Col.toNat<c.length)) (
   (c[a.Col.toNat]?).bind fun r=>
   (atL o b).bind fun p=>
   (s6 a.Value).bind fun i=>
   (atL n a.Row).bind fun s=>
   (dz i s).bind fun f=>
   (dz p f).bind fun h=>
   (iX r h).bind fun j=>
   br (decide (0<=a.Col)) (
   br (decide (a.Col.toNat<c.length)) (
   (c[a.Col.toNat]?).bind fun u=>
   some (.inl ((c.set a.Col.toNat j),(wrap .i64 (d+1))))) none) none) none) none) none) none) (
   some (.inr (c,d,decide (d<(x.length:Int)))))) none) none
abbrev yM (h:List (List au)) (i f e:Int) (c b a:List au) (d:List Ext):List (Nat×Blk):=[(1000,⟨6,true,[[I i,I f,I e,sl aA c,sl aA b,sl aA a]]⟩),(2004,⟨2,false,rws eExt d⟩),(4006,⟨1,false,rws (eL aA) h⟩)]
theorem QZ {d l f k m j i b c a}:LX tab ow (.close [11007,12014,12020,12021,12022]) Gq (fH d l f k m j i b c a) (fun s=>⟨[(2,sl eExt l),(7,.sl 2004 0 s.1.length),(8,sl eExt f),(9,.sl 4006 0 d.length),(10,I k),(11,I s.2)],yM d m j i b c a s.1⟩) (fun e=>(.exit 2,⟨[(2,sl eExt l),(7,.sl 2004 0 e.1.length),(8,sl eExt f),(9,.sl 4006 0 d.length),(10,I k),(11,I e.2.1),(37,B e.2.2)],yM d m j i b c a e.1⟩)):=by
 refine lrX (fun s o h=> ?_)
 obtain ⟨_,_⟩:=s
 simp only [fH] at h
 simp only [yM,Gq,FZ]
 have d1:= @xS
 have d2:= @kz
 have d3:= @nE
 exact go2
def li (h:List (List au)) (t j:List Ext) (c b k:Int) (d f i:List au):(List Ext)×Int->Option (((List Ext)×Int)⊕(((List Ext)×Int×Bool)))
 | (l,a)=>
   br (decide (a<3)) (
   (Loop (fH h t j a c b k d f i) (l,0)).bind fun e=>
   some (.inl (e.1,(wrap .i64 (a+1))))) (
   some (.inr (l,a,decide (a<3))))
abbrev yR (e:List (List au)) (c a h:Int) (b d f:List au) (l:List Ext):List (Nat×Blk):=[(1000,⟨6,true,[[I c,I a,I h,sl aA b,sl aA d,sl aA f]]⟩),(2004,⟨2,false,rws eExt l⟩),(4006,⟨1,false,rws (eL aA) e⟩)]
theorem Qs {a t j c b k d f i}:LX tab ow (.close [11007,12014,12020,12021,12022]) F7 (li a t j c b k d f i) (fun s=>⟨[(2,sl eExt t),(7,.sl 2004 0 s.1.length),(8,sl eExt j),(9,.sl 4006 0 a.length),(10,I s.2)],yR a c b k d f i s.1⟩) (fun e=>(.exit 0,⟨[(2,sl eExt t),(7,.sl 2004 0 e.1.length),(8,sl eExt j),(9,.sl 4006 0 a.length),(10,I e.2.1),(28,B e.2.2)],yR a c b k d f i e.1⟩)):=by
 refine lrX (fun s o h=> ?_)
 obtain ⟨_,_⟩:=s
 simp only [li] at h
 simp only [yR,F7,GL]
 have d1:= @QZ
 exact go2
def yj (b:bj) (a e:List Ext):Option (List Ext):=
 br (decide (0<=(wrap .u64 b.Cols))) (
 br (zg (bC .i64 1 (wrap .u64 b.Cols)) (bC .i64 1 (wrap .u64 b.Cols)) 16) (
 (GR a).bind fun d=>
 (Loop (li ([b.A,b.B,b.C]:List (List au)) e d b.Rows b.Cols b.Publics b.A b.B b.C) ((List.replicate ((bC .i64 (1:Int) (wrap .u64 b.Cols)).toNat) (Ext.mk (0:Int) (0:Int))),(0:Int))).bind fun c=>
 some c.1) none) none
theorem ZH {b a c r} (h:yj b a c=some r):Call tab ow 256 [.agg [I b.Rows,I b.Cols,I b.Publics,sl aA b.A,sl aA b.B,sl aA b.C],sl eExt a,sl eExt c] []=some (sl eExt r,[]):=by
 rw [aj (af:=wT) rfl]
 unfold yj at h
 simp only [wT,xp]
 have d1:= @Vj
 have d2:= @Qs
 exact go2
end
def rk (a j:List Ext) (c k:Int):Int×Int×Int->Option ((Int×Int×Int)⊕((Int×Bool×Int×Int)))
 | (i,f,e)=>
   br (decide (i<(a.length:Int))) (
   (atL a i).bind fun x=>
   (atL j i).bind fun h=>
   (dz x h).bind fun d=>
   (iX (Ext.mk f e) d).bind fun b=>
   some (.inl ((wrap .i64 (i+1)),b.A,b.B))) (
   some (.inr (i,decide (i<(a.length:Int)),f,e)))
abbrev Fk (c a b d:Int):List (Nat×Blk):=[(1000,⟨2,true,[[I c,I a]]⟩),(3001,⟨2,true,[[I b,I d]]⟩)]
theorem a2t {a d c b}:LX tab ow (.close [7009,7010]) Ny (rk a d c b) (fun s=>⟨[(0,sl eExt a),(4,.ptr 1000 0 0 1),(5,sl eExt d),(6,.ptr 3001 0 0 1),(7,I s.1)],Fk c b s.2.1 s.2.2⟩) (fun e=>(.exit 0,⟨[(0,sl eExt a),(4,.ptr 1000 0 0 1),(5,sl eExt d),(6,.ptr 3001 0 0 1),(7,I e.1),(14,B e.2.1)],Fk c b e.2.2.1 e.2.2.2⟩)):=by
 refine lrX (fun s o h=> ?_)
 obtain ⟨_,_,_⟩:=s
 simp only [rk] at h
 simp only [Fk,Ny,NK]
 have d1:= @kz
 have d2:= @nE
 exact go2
def D6 (b a:List Ext):Option Ext:=
 (GR a).bind fun d=>
 (Loop (rk b d 0 0) (0,0,0)).bind fun c=>
 some (Ext.mk c.2.2.1 c.2.2.2)
theorem W5 {b a r} (h:D6 b a=some r):Call tab ow 257 [sl eExt b,sl eExt a] []=some (.agg [I r.A,I r.B],[]):=by
 rw [aj (af:=Hg) rfl]
 unfold D6 at h
 simp only [Hg,MA]
 have d1:= @Vj
 have d2:= @a2t
 exact go2
def pD (a:List au) (t e:Int):Int->Option ((Int)⊕((Int×Int×Int)⊕(Int×Bool)))
 |b=>
  br (decide (b<(a.length:Int))) (
  (atL a b).bind fun x=>
  br (decide (0<=(wrap .u64 t))) (
  (ez x.Row 0 (wrap .i64 ((bC .i64 1 (wrap .u64 t))-1))).bind fun i=>
  br (!i) (
  some (.inr (.inl (x.Row,x.Col,x.Value)))) (
  br (decide (0<=(wrap .u64 e))) (
  (ez x.Col 0 (wrap .i64 ((bC .i64 1 (wrap .u64 e))-1))).bind fun d=>
  br (!d) (
  some (.inr (.inl (x.Row,x.Col,x.Value)))) (
  (ez x.Value 1 2130706432).bind fun c=>
  br (!c) (
  some (.inr (.inl (x.Row,x.Col,x.Value)))) (
  br (decide (b>0)) (
  (atL a (wrap .i64 (b-1))).bind fun f=>
  br (decide (f.Row>x.Row)) (
  some (.inr (.inl (x.Row,x.Col,x.Value)))) (
  (atL a (wrap .i64 (b-1))).bind fun j=>
  br (j.Row==x.Row) (
  (atL a (wrap .i64 (b-1))).bind fun h=>
  br (decide (h.Col>=x.Col)) (
  some (.inr (.inl (x.Row,x.Col,x.Value)))) (
  some (.inl (wrap .i64 (b+1))))) (
  some (.inl (wrap .i64 (b+1)))))) (
  some (.inl (wrap .i64 (b+1))))))) none)) none) (
  some (.inr (.inr (b,decide (b<(a.length:Int))))))
theorem Tu {a t b}:LX tab ow (.close [7004,8006,8015,8021]) Iv (pD a t b) (fun s=>⟨[(0,sl aA a),(1,I t),(2,I b),(7,I s)],[]⟩) (alt (fun e=>((.ret,⟨[(6,B false)],[(7004,⟨3,true,[[I e.1,I e.2.1,I e.2.2]]⟩)]⟩):bR×St)) (fun e=>(.exit 0,⟨[(0,sl aA a),(1,I t),(2,I b),(7,I e.1),(15,B e.2)],[]⟩))):=by
 refine lrX (fun s o h=> ?_)
 simp only [pD] at h
 simp only [Iv,J5]
 have d1:= @oO
 exact go2
def tN (b:List au) (a e:Int):Option Bool:=
 br (decide ((b.length:Int)>200)) (
 some false) (
 (Loop (pD b a e) 0).bind (alt (fun d=>
 some false) (fun c=>
 some true)))
theorem a1F {b a c r} (h:tN b a c=some r):Call tab ow 338 [sl aA b,I a,I c] []=some (B r,[]):=by
 rw [aj (af:=Ae) rfl]
 unfold tN at h
 simp only [Ae,GC]
 have d1:= @Tu
 exact go2
def sZ (s:bj):Option Bool:=
 (ez s.Rows 1 5).bind fun f=>
 br f (
 (ez s.Cols 2 5).bind fun e=>
 br e (
 br (decide (0<=(wrap .u64 (wrap .i64 (s.Cols-1))))) (
 (ez s.Publics 0 (wrap .i64 ((bC .i64 1 (wrap .u64 (wrap .i64 (s.Cols-1))))-1))).bind fun c=>
 br c (
 (tN s.A s.Rows s.Cols).bind fun a=>
 br a (
 (tN s.B s.Rows s.Cols).bind fun d=>
 br d (
 (tN s.C s.Rows s.Cols).bind fun b=>
 some b) (
 some false)) (
 some false)) (
 some false)) none) (
 some false)) (
 some false)
theorem KF {s r} (h:sZ s=some r):Call tab ow 261 [.agg [I s.Rows,I s.Cols,I s.Publics,sl aA s.A,sl aA s.B,sl aA s.C]] []=some (B r,[]):=by
 rw [aj (af:=xG) rfl]
 unfold sZ at h
 simp only [xG,Ly]
 have d1:= @oO
 have d2:= @a1F
 exact go2
def iN (t:Int) (c:List (List Ext)) (e:List (List UInt8)) (m h i:Int) (l:List Query) (n j k:Int):Int->Option ((Int)⊕(Unit⊕(Int×Bool)))
 |a=>
  br (decide (a<t)) (
  (atL c a).bind fun x=>
  br ((x.length:Int) !=3) (
  some (.inr (.inl ()))) (
  (atL c a).bind fun d=>
  (lJ d).bind fun b=>
  br (!b) (
  some (.inr (.inl ()))) (
  br (decide (a>0)) (
  (atL e (wrap .i64 (a-1))).bind fun f=>
  br ((f.length:Int) !=32) (
  some (.inr (.inl ()))) (
  some (.inl (wrap .i64 (a+1))))) (
  some (.inl (wrap .i64 (a+1))))))) (
  some (.inr (.inr (a,decide (a<t)))))
abbrev qw (c:List (List Ext)) (a:List (List UInt8)) (i b e:Int) (h:List Query) (j f d:Int):List (Nat×Blk):=[(1000,⟨6,true,[[sl (eL eExt) c,sl eS a,I i,I b,I e,sl eQuery h]]⟩),(1001,⟨3,true,[[I j,I f,I d]]⟩)]
theorem OK {t c a k b f j l i d}:LX tab ow (.close [7013]) E8 (iN t c a k b f j l i d) (fun s=>⟨[(1,I t),(3,.ptr 1000 0 0 1),(5,.ptr 1001 0 0 1),(7,I s)],qw c a k b f j l i d⟩) (alt (fun e=>((.ret,⟨[(6,B false)],qw c a k b f j l i d⟩):bR×St)) (fun e=>(.exit 0,⟨[(1,I t),(3,.ptr 1000 0 0 1),(5,.ptr 1001 0 0 1),(7,I e.1),(57,B e.2)],qw c a k b f j l i d⟩))):=by
 refine lrX (fun s o h=> ?_)
 simp only [iN] at h
 simp only [qw,E8,Ei]
 have d1:= @rj
 exact go2
def iK (r s b:Int) (n:List (List Ext)) (q:List (List UInt8)) (j k p:Int) (m:List Query) (e h l:Int) (o:List Ext) (c:List (List (List UInt8))):Int->Option ((Int)⊕(Unit⊕(Int×Bool)))
 |a=>
  (atL c b).bind fun d=>
  br (decide (a<(d.length:Int))) (
  (atL c b).bind fun f=>
  (atL f a).bind fun i=>
  br ((i.length:Int) !=32) (
  some (.inr (.inl ()))) (
  some (.inl (wrap .i64 (a+1))))) (
  some (.inr (.inr (a,decide (a<(d.length:Int))))))
abbrev pT (h:List (List Ext)) (k:List (List UInt8)) (c d j:Int) (l:List Query) (a b e:Int) (i:List Ext) (f:List (List (List UInt8))):List (Nat×Blk):=[(1000,⟨6,true,[[sl (eL eExt) h,sl eS k,I c,I d,I j,sl eQuery l]]⟩),(1001,⟨3,true,[[I a,I b,I e]]⟩),(12005,⟨2,true,[[sl eExt i,sl (eL eS) f]]⟩)]
theorem OC {q r p j m c d l n a b f k i}:LX tab ow (.close []) Bn (iK q r p j m c d l n a b f k i) (fun s=>⟨[(1,I q),(3,.ptr 1000 0 0 1),(5,.ptr 1001 0 0 1),(8,I r),(9,.ptr 12005 0 0 1),(10,I p),(11,I s)],pT j m c d l n a b f k i⟩) (alt (fun e=>((.ret,⟨[(6,B false)],pT j m c d l n a b f k i⟩):bR×St)) (fun e=>(.exit 6,⟨[(1,I q),(3,.ptr 1000 0 0 1),(5,.ptr 1001 0 0 1),(8,I r),(9,.ptr 12005 0 0 1),(10,I p),(11,I e.1),(147,B e.2)],pT j m c d l n a b f k i⟩))):=by
 refine lrX (fun s o h=> ?_)
 simp only [iK] at h
 simp only [pT,Bn,BE]
 exact go2
def iJ (d p:Int) (h:List (List Ext)) (j:List (List UInt8)) (i e m:Int) (n:List Query) (b k f:Int) (l:List Ext) (c:List (List (List UInt8))):Int->Option ((Int)⊕(Unit⊕(Int×Bool)))
 |a=>
  br (decide (a<d)) (
  (atL c a).bind fun q=>
  br ((q.length:Int) !=(wrap .i64 ((wrap .i64 ((wrap .i64 (d+b))-1))-a))) (
  some (.inr (.inl ()))) (
  (Loop (iK d p a h j i e m n b k f l c) 0).bind (alt (fun o=>
  some (.inr (.inl ()))) (fun r=>
  some (.inl (wrap .i64 (a+1))))))) (
  some (.inr (.inr (a,decide (a<d)))))
abbrev qA (c:List (List Ext)) (h:List (List UInt8)) (f a k:Int) (l:List Query) (e d b:Int) (i:List Ext) (j:List (List (List UInt8))):List (Nat×Blk):=[(1000,⟨6,true,[[sl (eL eExt) c,sl eS h,I f,I a,I k,sl eQuery l]]⟩),(1001,⟨3,true,[[I e,I d,I b]]⟩),(12005,⟨2,true,[[sl eExt i,sl (eL eS) j]]⟩)]
theorem On {p q c f d a m n i j b k l}:LX tab ow (.close []) Ca (iJ p q c f d a m n i j b k l) (fun s=>⟨[(1,I p),(3,.ptr 1000 0 0 1),(5,.ptr 1001 0 0 1),(8,I q),(9,.ptr 12005 0 0 1),(10,I s)],qA c f d a m n i j b k l⟩) (alt (fun e=>((.ret,⟨[(6,B false)],qA c f d a m n i j b k l⟩):bR×St)) (fun e=>(.exit 4,⟨[(1,I p),(3,.ptr 1000 0 0 1),(5,.ptr 1001 0 0 1),(8,I q),(9,.ptr 12005 0 0 1),(10,I e.1),(123,B e.2)],qA c f d a m n i j b k l⟩))):=by
 refine lrX (fun s o h=> ?_)
 simp only [iJ] at h
 simp only [qA,Ca,BV]
 have d1:= @OC
 exact go2
def gV (n:Int) (h:List (List Ext)) (j:List (List UInt8)) (d m f:Int) (b:List Query) (i k l:Int):Int->Option ((Int)⊕(((List Ext)×(List (List (List UInt8))))⊕(Int×Bool)))
 |c=>
  br (decide (c<(b.length:Int))) (
  (atL b c).bind fun a=>
  br ((a.Pairs.length:Int) !=(wrap .i64 (2*n))) (
  some (.inr (.inl (a.Pairs,a.Paths)))) (
  (lJ a.Pairs).bind fun e=>
  br (!e) (
  some (.inr (.inl (a.Pairs,a.Paths)))) (
  br ((a.Paths.length:Int) !=n) (
  some (.inr (.inl (a.Pairs,a.Paths)))) (
  (Loop (iJ n c h j d m f b i k l a.Pairs a.Paths) 0).bind (alt (fun p=>
  some (.inr (.inl (a.Pairs,a.Paths)))) (fun o=>
  some (.inl (wrap .i64 (c+1))))))))) (
  some (.inr (.inr (c,decide (c<(b.length:Int))))))
abbrev wv (c:List (List Ext)) (d:List (List UInt8)) (a i b:Int) (j:List Query) (e f h:Int):List (Nat×Blk):=[(1000,⟨6,true,[[sl (eL eExt) c,sl eS d,I a,I i,I b,sl eQuery j]]⟩),(1001,⟨3,true,[[I e,I f,I h]]⟩)]
theorem Ov {m c d a k b l f i j}:LX tab ow (.close [12005,13009]) DY (gV m c d a k b l f i j) (fun s=>⟨[(1,I m),(3,.ptr 1000 0 0 1),(5,.ptr 1001 0 0 1),(8,I s)],wv c d a k b l f i j⟩) (alt (fun e=>((.ret,⟨[(6,B false)],[(1000,⟨6,true,[[sl (eL eExt) c,sl eS d,I a,I k,I b,sl eQuery l]]⟩),(1001,⟨3,true,[[I f,I i,I j]]⟩),(12005,⟨2,true,[[sl eExt e.1,sl (eL eS) e.2]]⟩)]⟩):bR×St)) (fun e=>(.exit 2,⟨[(1,I m),(3,.ptr 1000 0 0 1),(5,.ptr 1001 0 0 1),(8,I e.1),(94,B e.2)],wv c d a k b l f i j⟩))):=by
 refine lrX (fun s o h=> ?_)
 simp only [gV] at h
 simp only [wv,DY,EK]
 have d1:= @rj
 have d2:= @On
 exact go2
def vH (b:Opening) (a:Int) (c:Setting):Option Bool:=
 (ez a 1 6).bind fun l=>
 br (!l) (
 some false) (
 (nK c).bind fun f=>
 br (!f) (
 some false) (
 br ((b.Rounds.length:Int) !=a) (
 some false) (
 br ((b.Roots.length:Int) !=(wrap .i64 (a-1))) (
 some false) (
 br ((b.Queries.length:Int) !=c.Queries) (
 some false) (
 (CG b.Last).bind fun e=>
 br (!e) (
 some false) (
 (ez b.Nonce 0 65535).bind fun d=>
 br (!d) (
 some false) (
 (Loop (iN a b.Rounds b.Roots b.Last.A b.Last.B b.Nonce b.Queries c.Rate c.Queries c.Grind) 0).bind (alt (fun k=>
 some false) (fun j=>
 (Loop (gV a b.Rounds b.Roots b.Last.A b.Last.B b.Nonce b.Queries c.Rate c.Queries c.Grind) 0).bind (alt (fun h=>
 some false) (fun i=>
 some true)))))))))))
theorem Tl {b a c r} (h:vH b a c=some r):Call tab ow 34 [.agg [sl (eL eExt) b.Rounds,sl eS b.Roots,I b.Last.A,I b.Last.B,I b.Nonce,sl eQuery b.Queries],I a,.agg [I c.Rate,I c.Queries,I c.Grind]] []=some (B r,[]):=by
 rw [aj (af:=uS) rfl]
 unfold vH at h
 simp only [uS,mR]
 have d1:= @oO
 have d2:= @Ax
 have d3:= @VU
 have d4:= @OK
 have d5:= @Ov
 exact go2
end
end Go.AI.Fn
