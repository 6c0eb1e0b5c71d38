/- Part. -/
import Derived.Test.YtdnkignjanfikaaGreatFx1
set_option linter.unusedVariables false
set_option linter.unusedSimpArgs false
set_option maxRecDepth 100000
set_option maxHeartbeats 1000000
namespace Go.AI.Fn
noncomputable section
open IntKind (wrap)
section
@[local go_sem] theorem a7Q:mkR 8003 []=rws eExt []:=rfl
@[local go_sem] theorem a6V:mkR 12006 []=rws eS []:=rfl
def eP (l:List (List UInt8)) (t:List Ext) (q:Int) (o:List Int) (k:Int) (c:List Ext) (w:Int) (c3:List UInt8) (z c5 v s u y:Int) (e:List (List Ext)) (j:List (List UInt8)) (h i f:Int) (d:List Query) (m n p:Int):Int->Option ((Int)⊕(Int⊕(Int×Bool)))
 |b=>
  br (decide (b<k)) (
  (atL o b).bind fun x=>
  (atL d b).bind fun r=>
  (wZ l t q x (Opening.mk e j (Ext.mk h i) f d) r).bind fun a=>
  br (a !=0) (
  some (.inr (.inl a))) (
  some (.inl (wrap .i64 (b+1))))) (
  some (.inr (.inr (b,decide (b<k)))))
abbrev mb (l:List (List UInt8)) (c:List Ext) (q:Int) (s:List UInt8) (n r m o p t:Int) (k:List (List Ext)) (i:List (List UInt8)) (j a b:Int) (e:List Query) (d f h:Int):List (Nat×Blk):=[(0,⟨4,true,[[sl eExt c,I q,S s,I n]]⟩),(1000,⟨1,true,[[.ptr 0 0 0 1]]⟩),(1001,⟨2,true,[[I r,I m]]⟩),(1002,⟨3,true,[[I o,I p,I t]]⟩),(1003,⟨6,true,[[sl (eL eExt) k,sl eS i,I j,I a,I b,sl eQuery e]]⟩),(2002,⟨1,true,[[I d]]⟩),(3010,⟨2,true,[[I f,I h]]⟩),(8003,mO),(12006,⟨1,false,rws eS l⟩)]
theorem Jq {l t t2 z t4 c u y w x r p q v f n k m i b a d j}:LX tab ow (.close [16010]) wD (eP l t t2 z t4 c u y w x r p q v f n k m i b a d j) (fun s=>⟨[(11,.ptr 1003 0 0 1),(14,sl eExt t),(17,I t2),(18,.sl 12006 0 l.length),(82,sl eI z),(83,I t4),(84,I s)],mb l c u y w x r p q v f n k m i b a d j⟩) (alt (fun e=>((.ret,⟨[(12,I e)],mb l c u y w x r p q v f n k m i b a d j⟩):bR×St)) (fun e=>(.exit 1,⟨[(11,.ptr 1003 0 0 1),(14,sl eExt t),(17,I t2),(18,.sl 12006 0 l.length),(82,sl eI z),(83,I t4),(84,I e.1),(85,B e.2)],mb l c u y w x r p q v f n k m i b a d j⟩))):=by
 refine lrX (fun s o h=> ?_)
 simp only [eP] at h
 simp only [mb,wD,wC]
 have d1:= @Te
 exact go2
def o0 (a:List UInt8) (q:List Ext) (o:Ext) (d:Setting) (p:Opening) (m:Source):Option (Int×Source):=
 (e5 1 o p.Rounds m (q.length:Int) p).bind fun b=>
 br (b.2.2.1 !=0) (
 some (b.2.2.1,b.2.2.2.1)) (
 (Jk b.1 q).bind fun n=>
 (dc b.2.2.2.2.2.Last n).bind fun f=>
 br (f.A==b.2.1.A) (
 br (f.B==b.2.1.B) (
 (da ([b.2.2.2.2.2.Last]:List Ext) b.2.2.2.1).bind fun e=>
 (pN e d.Grind b.2.2.2.2.2.Nonce).bind fun j=>
 br (!j) (
 some (14,e)) (
 (Gc b.2.2.2.2.2.Nonce).bind fun l=>
 (fN l e).bind fun i=>
 br (decide (0<=(wrap .i64 (b.2.2.2.2.1+d.Rate)))) (
 br (cP ((([a]:List (List UInt8))++b.2.2.2.2.2.Roots).length) 16) (
 (jD d.Queries i).bind fun c=>
 (F3 c.1 (wrap .i64 ((bC .i64 1 (wrap .i64 (b.2.2.2.2.1+d.Rate))).tdiv 2))).bind fun h=>
 (Loop (eP (([a]:List (List UInt8))++b.2.2.2.2.2.Roots) b.1 (bC .i64 1 (wrap .i64 (b.2.2.2.2.1+d.Rate))) h (h.length:Int) c.2.Script c.2.At c.2.State c.2.Count o.A o.B d.Rate d.Queries d.Grind b.2.2.2.2.2.Rounds b.2.2.2.2.2.Roots b.2.2.2.2.2.Last.A b.2.2.2.2.2.Last.B b.2.2.2.2.2.Nonce b.2.2.2.2.2.Queries b.2.2.2.2.1 b.2.1.A b.2.1.B) 0).bind (alt (fun k=>
 some (k,c.2)) (fun r=>
 some (0,c.2)))) none) none)) (
 some (11,b.2.2.2.1))) (
 some (11,b.2.2.2.1)))
theorem LY {a e d c b m r} (h:o0 a e d c b m=some r):Call tab ow 113 [.ptr 0 0 0 1,S a,sl eExt e,.agg [I d.A,I d.B],.agg [I c.Rate,I c.Queries,I c.Grind],.agg [sl (eL eExt) b.Rounds,sl eS b.Roots,I b.Last.A,I b.Last.B,I b.Nonce,sl eQuery b.Queries]] [⟨4,true,[[sl eExt m.Script,I m.At,S m.State,I m.Count]]⟩]=some (I r.1,[⟨4,true,[[sl eExt r.2.Script,I r.2.At,S r.2.State,I r.2.Count]]⟩]):=by
 rw [aj (af:=oJ) rfl]
 unfold o0 at h
 simp only [oJ,tw]
 have d1:= @pG
 have d2:= @a2r
 have d3:= @eY
 have d4:= @jP
 have d5:= @OZ
 have d6:= @Kg
 have d7:= @np
 have d8:= @BS
 have d9:= @a6u
 have d10:= @Jq
 exact go2
end
section
@[local go_sem] theorem a5g:mkR 8009 []=rws eExt []:=rfl
@[local go_sem] theorem a4t:mkR 10007 []=rws eExt []:=rfl
@[local go_sem] theorem a5J:mkR 12008 []=rws eExt []:=rfl
@[local go_sem] theorem a4N:mkR 19003 []=rws eExt []:=rfl
def jZ (a:bi) (a2:Setting) (z:List Int) (d:Proof) (m:Source):Option (Int×Source):=
 (vV a a2 z).bind fun r_=>
 (fN r_ m).bind fun v=>
 br (cP d.Root.length 1) (
 (fN d.Root v).bind fun t=>
 (jD a.Rows t).bind fun i=>
 (cO 2 (Ext.mk 0 0) d.Gates i.2).bind fun c=>
 br (c.2.2.1 !=0) (
 some (c.2.2.1,c.2.2.2)) (
 (Jk i.1 c.1).bind fun u=>
 (xO 2 ([u,d.VA,d.VB,d.VC]:List Ext)).bind fun l=>
 br (l.A==c.2.1.A) (
 br (l.B==c.2.1.B) (
 (da ([d.VA,d.VB,d.VC]:List Ext) c.2.2.2).bind fun s=>
 (jD 3 s).bind fun e=>
 (Lt e.1 ([d.VA,d.VB,d.VC]:List Ext)).bind fun q=>
 (cO 1 q d.Wires e.2).bind fun b=>
 br (b.2.2.1 !=0) (
 some (b.2.2.1,b.2.2.2)) (
 (lr b.1 0 (wrap .i64 (a.Cols-1))).bind fun y=>
 (atL b.1 (wrap .i64 (a.Cols-1))).bind fun x=>
 br (decide (3<=e.1.length)) (
 (a5o e.1).bind fun w=>
 (sA a c.1 (w.1,w.2.1,w.2.2)).bind fun j=>
 (tj b.1).bind fun o=>
 (Lt j o).bind fun k=>
 (yW a z y).bind fun p=>
 (Bg p d.VW x).bind fun n=>
 (dc k n).bind fun h=>
 br (h.A==b.2.1.A) (
 br (h.B==b.2.1.B) (
 (da ([d.VW]:List Ext) b.2.2.2).bind fun r=>
 (o0 d.Root y d.VW a2 d.Open r).bind fun f=>
 some (f.1,f.2)) (
 some (11,b.2.2.2))) (
 some (11,b.2.2.2))) none)) (
 some (11,c.2.2.2))) (
 some (11,c.2.2.2)))) none
theorem Ly {a c d b m r} (h:jZ a c d b m=some r):Call tab ow 184 [.ptr 0 0 0 1,.agg [I a.Rows,I a.Cols,I a.Publics,sl aA a.A,sl aA a.B,sl aA a.C],.agg [I c.Rate,I c.Queries,I c.Grind],sl eI d,.agg [S b.Root,sl (eL eExt) b.Gates,I b.VA.A,I b.VA.B,I b.VB.A,I b.VB.B,I b.VC.A,I b.VC.B,sl (eL eExt) b.Wires,I b.VW.A,I b.VW.B,sl (eL eExt) b.Open.Rounds,sl eS b.Open.Roots,I b.Open.Last.A,I b.Open.Last.B,I b.Open.Nonce,sl eQuery b.Open.Queries]] [⟨4,true,[[sl eExt m.Script,I m.At,S m.State,I m.Count]]⟩]=some (I r.1,[⟨4,true,[[sl eExt r.2.Script,I r.2.At,S r.2.State,I r.2.Count]]⟩]):=by
 rw [aj (af:=na) rfl]
 unfold jZ at h
 simp only [na,zn]
 have d1:= @TM
 have d2:= @np
 have d3:= @BS
 have d4:= @w9
 have d5:= @a2r
 have d6:= @a0e
 have d7:= @jP
 have d8:= @a6G
 have d9:= @R1
 have d10:= @Fg
 have d11:= @Zi
 have d12:= @a0r
 have d13:= @eY
 have d14:= @LY
 exact go2
end
def D8 (s:bi) (t:Setting) (a:List Int) (p:Proof) (b:Source):Option (Bool×Int):=
 (Ci p s t).bind fun e=>
 br (!e) (
 some (false,18)) (
 (mL b).bind fun d=>
 (jZ s t a p d).bind fun c=>
 some ((c.1==0),c.1))
theorem YR {s t b p a r} (h:D8 s t b p a=some r):Call tab ow 90 [.agg [I s.Rows,I s.Cols,I s.Publics,sl aA s.A,sl aA s.B,sl aA s.C],.agg [I t.Rate,I t.Queries,I t.Grind],sl eI b,.agg [S p.Root,sl (eL eExt) p.Gates,I p.VA.A,I p.VA.B,I p.VB.A,I p.VB.B,I p.VC.A,I p.VC.B,sl (eL eExt) p.Wires,I p.VW.A,I p.VW.B,sl (eL eExt) p.Open.Rounds,sl eS p.Open.Roots,I p.Open.Last.A,I p.Open.Last.B,I p.Open.Nonce,sl eQuery p.Open.Queries],.agg [sl eExt a.Script,I a.At,S a.State,I a.Count]] []=some (.tup [B r.1,I r.2],[]):=by
 rw [aj (af:=xc) rfl]
 unfold D8 at h
 simp only [xc,Kp]
 have d1:= @a0G
 have d2:= @Lm
 have d3:= @Ly
 exact go2
def dy (a:Int):Option Bool:=
 (ez a 0 2130706432).bind fun b=>
 some b
theorem GA {a r} (h:dy a=some r):Call tab ow 229 [I a] []=some (B r,[]):=by
 rw [aj (af:=zZ) rfl]
 unfold dy at h
 simp only [zZ,Nn]
 have d1:= @oM
 exact go2
def Dv (a:Ext):Option Bool:=
 (dy a.A).bind fun c=>
 br c (
 (dy a.B).bind fun b=>
 some b) (
 some false)
theorem Vh {a r} (h:Dv a=some r):Call tab ow 114 [.agg [I a.A,I a.B]] []=some (B r,[]):=by
 rw [aj (af:=GY) rfl]
 unfold Dv at h
 simp only [GY,VS]
 have d1:= @GA
 exact go2
def AK (a:List Ext):Int->Option ((Int)⊕(Unit⊕(Int×Bool)))
 |i=>
  br (decide (i<(a.length:Int))) (
  (atL a i).bind fun x=>
  (Dv x).bind fun b=>
  br (!b) (
  some (.inr (.inl ()))) (
  some (.inl (wrap .i64 (i+1))))) (
  some (.inr (.inr (i,decide (i<(a.length:Int))))))
theorem Va {a}:LX tab ow (.close [5004]) J2 (AK a) (fun s=>⟨[(0,sl eExt a),(3,I s)],[]⟩) (alt (fun e=>((.ret,⟨[(2,B false)],[]⟩):bR×St)) (fun e=>(.exit 0,⟨[(0,sl eExt a),(3,I e.1),(7,B e.2)],[]⟩))):=by
 refine lrX (fun s o h=> ?_)
 simp only [AK] at h
 simp only [J2,HE]
 have d1:= @Vh
 exact go2
def lF (a:List Ext):Option Bool:=
 (Loop (AK a) 0).bind (alt (fun b=>
 some false) (fun c=>
 some true))
theorem rg {a r} (h:lF a=some r):Call tab ow 123 [sl eExt a] []=some (B r,[]):=by
 rw [aj (af:=An) rfl]
 unfold lF at h
 simp only [An,Fs]
 have d1:= @Va
 exact go2
def nJ (t:Setting):Option Bool:=
 (ez t.Rate 1 3).bind fun c=>
 br c (
 (ez t.Queries 1 8).bind fun a=>
 br a (
 (ez t.Grind 0 12).bind fun b=>
 some b) (
 some false)) (
 some false)
theorem AJ {t r} (h:nJ t=some r):Call tab ow 105 [.agg [I t.Rate,I t.Queries,I t.Grind]] []=some (B r,[]):=by
 rw [aj (af:=u5) rfl]
 unfold nJ at h
 simp only [u5,HC]
 have d1:= @oM
 exact go2
def yh (s:Source):Option Bool:=
 br (decide ((s.Script.length:Int)<=64)) (
 (lF s.Script).bind fun c=>
 br c (
 (ez s.At 0 1000000).bind fun a=>
 br a (
 br ((s.State.length:Int)==32) (
 (ez s.Count 0 1000000).bind fun b=>
 some b) (
 some false)) (
 some false)) (
 some false)) (
 some false)
theorem Yv {s r} (h:yh s=some r):Call tab ow 106 [.agg [sl eExt s.Script,I s.At,S s.State,I s.Count]] []=some (B r,[]):=by
 rw [aj (af:=xh) rfl]
 unfold yh at h
 simp only [xh,K2]
 have d1:= @rg
 have d2:= @oM
 exact go2
def DE (s:Source) (n:Int):Option Bool:=
 br (decide (s.At>(wrap .i64 (1000000-n)))) (
 some true) (
 some (decide (s.Count>(wrap .i64 (1000000-n)))))
theorem WK {s n r} (h:DE s n=some r):Call tab ow 108 [.agg [sl eExt s.Script,I s.At,S s.State,I s.Count],I n] []=some (B r,[]):=by
 rw [aj (af:=xr) rfl]
 unfold DE at h
 simp only [xr,LN]
 exact go2
def s8 (n:Int):Option Ext:=
 some (Ext.mk n 0)
theorem xN {n r} (h:s8 n=some r):Call tab ow 315 [I n] []=some (.agg [I r.A,I r.B],[]):=by
 rw [aj (af:=H0) rfl]
 unfold s8 at h
 simp only [H0,W7]
 exact go2
def Bw:Option Ext:=
 (s8 1).bind fun a=>
 some a
theorem Jm {r} (h:Bw=some r):Call tab ow 310 [] []=some (.agg [I r.A,I r.B],[]):=by
 rw [aj (af:=CX) rfl]
 unfold Bw at h
 simp only [CX,SN]
 have d1:= @xN
 exact go2
def uV (a b:Ext):Option Ext:=
 (yr a.A b.A).bind fun d=>
 (yr a.B b.B).bind fun c=>
 some (Ext.mk d c)
theorem CI {a b r} (h:uV a b=some r):Call tab ow 329 [.agg [I a.A,I a.B],.agg [I b.A,I b.B]] []=some (.agg [I r.A,I r.B],[]):=by
 rw [aj (af:=Dm) rfl]
 unfold uV at h
 simp only [Dm,Rg]
 have d1:= @Qz
 exact go2
def oL (a:Ext):Option Ext:=
 (Bw).bind fun c=>
 (uV c a).bind fun b=>
 some b
theorem Fc {a r} (h:oL a=some r):Call tab ow 270 [.agg [I a.A,I a.B]] []=some (.agg [I r.A,I r.B],[]):=by
 rw [aj (af:=zy) rfl]
 unfold oL at h
 simp only [zy,Nh]
 have d1:= @Jm
 have d2:= @CI
 exact go2
def dD (a b:Ext):Option Ext:=
 (li a.A b.A).bind fun i=>
 (li a.B b.B).bind fun h=>
 (sx i ((wrap .i64 (3*h)).tmod 2130706433)).bind fun c=>
 (li a.A b.B).bind fun d=>
 (li a.B b.A).bind fun e=>
 (sx d e).bind fun f=>
 some (Ext.mk c f)
theorem kD {a b r} (h:dD a b=some r):Call tab ow 232 [.agg [I a.A,I a.B],.agg [I b.A,I b.B]] []=some (.agg [I r.A,I r.B],[]):=by
 rw [aj (af:=Cq) rfl]
 unfold dD at h
 simp only [Cq,RX]
 have d1:= @Db
 have d2:= @Jj
 exact go2
section
@[local go_sem] theorem c6b:mkR 2001 []=rws eExt []:=rfl
@[local go_sem] theorem c3h: ∀k,Bi 6003 k [I (0:Int),I (0:Int)]=rws eExt (List.replicate k (Ext.mk (0:Int) (0:Int))):=fun _=>MD eExt (Ext.mk (0:Int) (0:Int)) _ _
def rz (b a:List Ext) (f:Int):(List Ext)×Int->Option (((List Ext)×Int)⊕(((List Ext)×Int×Bool)))
 | (l,k)=>
   br (decide (k<(a.length:Int))) (
   (atL a k).bind fun x=>
   (atL b f).bind fun j=>
   (oL j).bind fun e=>
   (dD x e).bind fun c=>
   br (decide (0<=k)) (
   br (decide (k.toNat<l.length)) (
   (l[k.toNat]?).bind fun m=>
   (atL a k).bind fun i=>
   (atL b f).bind fun h=>
   (dD i h).bind fun d=>
   br (decide (0<=(wrap .i64 (k+(a.length:Int))))) (
   br (decide ((wrap .i64 (k+(a.length:Int))).toNat<l.length)) (
   ((l.set k.toNat c)[(wrap .i64 (k+(a.length:Int))).toNat]?).bind fun n=>
   some (.inl (((l.set k.toNat c).set ((wrap .i64 (k+(a.length:Int))).toNat) d),(wrap .i64 (k+1))))) none) none) none) none) (
   some (.inr (l,k,decide (k<(a.length:Int)))))
theorem a2O {a b c}:LX tab ow (.close [10010,10011,11013]) Nm (rz a b c) (fun s=>⟨[(0,sl eExt a),(3,sl eExt b),(4,I c),(5,.sl 6003 0 s.1.length),(6,I s.2)],[(6003,⟨2,false,rws eExt s.1⟩)]⟩) (fun e=>(.exit 2,⟨[(0,sl eExt a),(3,sl eExt b),(4,I c),(5,.sl 6003 0 e.1.length),(6,I e.2.1),(22,B e.2.2)],[(6003,⟨2,false,rws eExt e.1⟩)]⟩)):=by
 refine lrX (fun s o h=> ?_)
 obtain ⟨_,_⟩:=s
 simp only [rz] at h
 simp only [Nm,O0]
 have d1:= @Fc
 have d2:= @kD
 exact go2
def rd (a:List Ext):(List Ext)×Int->Option (((List Ext)×Int)⊕(((List Ext)×Int×Bool)))
 | (b,i)=>
   br (decide (i<(a.length:Int))) (
   br (zf (wrap .i64 (2*(b.length:Int))) (wrap .i64 (2*(b.length:Int))) 16) (
   (Loop (rz a b i) ((List.replicate ((wrap .i64 ((2:Int)*(b.length:Int))).toNat) (Ext.mk (0:Int) (0:Int))),(0:Int))).bind fun c=>
   some (.inl (c.1,(wrap .i64 (i+1))))) none) (
   some (.inr (b,i,decide (i<(a.length:Int)))))
theorem ZX {a}:LX tab ow (.close [6003,10010,10011,11013,2001]) N9 (rd a) (fun s=>⟨[(0,sl eExt a),(3,sl eExt s.1),(4,I s.2)],[]⟩) (fun e=>(.exit 0,⟨[(0,sl eExt a),(3,sl eExt e.1),(4,I e.2.1),(12,B e.2.2)],[]⟩)):=by
 refine lrX (fun s o h=> ?_)
 obtain ⟨_,_⟩:=s
 simp only [rd] at h
 simp only [N9,NY]
 have d1:= @a2O
 exact go2
def Hd (a:List Ext):Option (List Ext):=
 (Bw).bind fun c=>
 (Loop (rd a) (([c]:List Ext),0)).bind fun b=>
 some b.1
theorem Vs {a r} (h:Hd a=some r):Call tab ow 204 [sl eExt a] []=some (sl eExt r,[]):=by
 rw [aj (af:=GX) rfl]
 unfold Hd at h
 simp only [GX,Hk]
 have d1:= @Jm
 have d2:= @ZX
 exact go2
end
def iS (a b:Ext):Option Ext:=
 (sx a.A b.A).bind fun d=>
 (sx a.B b.B).bind fun c=>
 some (Ext.mk d c)
theorem nH {a b r} (h:iS a b=some r):Call tab ow 230 [.agg [I a.A,I a.B],.agg [I b.A,I b.B]] []=some (.agg [I r.A,I r.B],[]):=by
 rw [aj (af:=De) rfl]
 unfold iS at h
 simp only [De,Ru]
 have d1:= @Jj
 exact go2
def kz (a:Int):Int->Option ((Int)⊕((Int×Bool)))
 |k=>
  br (decide (0<=(wrap .u64 k))) (
  br (decide ((bC .i64 1 (wrap .u64 k))<a)) (
  some (.inl (wrap .i64 (k+1)))) (
  some (.inr (k,decide ((bC .i64 1 (wrap .u64 k))<a))))) none
theorem V7 {a}:LX tab ow (.close []) IU (kz a) (fun s=>⟨[(0,I a),(3,I s)],[]⟩) (fun e=>(.exit 0,⟨[(0,I a),(3,I e.1),(8,B e.2)],[]⟩)):=by
 refine lrX (fun s o h=> ?_)
 simp only [kz] at h
 simp only [IU,IM]
 exact go2
def BG (n:Int):Option Int:=
 (Loop (kz n) 0).bind fun a=>
 some a.1
theorem a2o {n r} (h:BG n=some r):Call tab ow 362 [I n] []=some (I r,[]):=by
 rw [aj (af:=Am) rfl]
 unfold BG at h
 simp only [Am,Gh]
 have d1:= @V7
 exact go2
def oT:Int×Int×Int->Option ((Int×Int×Int)⊕((Int×Int×Int×Bool)))
 | (a,b,e)=>
   br (decide (b>0)) (
   br ((b.tmod 2)==1) (
   (li e a).bind fun f=>
   (li a a).bind fun c=>
   some (.inl (c,(wrap .i64 (b.tdiv 2)),f))) (
   (li a a).bind fun d=>
   some (.inl (d,(wrap .i64 (b.tdiv 2)),e)))) (
   some (.inr (a,b,e,decide (b>0))))
theorem YN:LX tab ow (.close [5002,6002]) Ke (oT) (fun s=>⟨[(0,I s.1),(1,I s.2.1),(5,I s.2.2)],[]⟩) (fun e=>(.exit 0,⟨[(0,I e.1),(1,I e.2.1),(5,I e.2.2.1),(7,B e.2.2.2)],[]⟩)):=by
 refine lrX (fun s o h=> ?_)
 obtain ⟨_,_,_⟩:=s
 simp only [oT] at h
 simp only [Ke,KS]
 have d1:= @Db
 exact go2
def vZ (a n:Int):Option Int:=
 (Loop (oT) (a,n,1)).bind fun b=>
 some b.2.2.1
theorem Jt {a n r} (h:vZ a n=some r):Call tab ow 364 [I a,I n] []=some (I r,[]):=by
 rw [aj (af:=CJ) rfl]
 unfold vZ at h
 simp only [CJ,JF]
 have d1:= @YN
 exact go2
def Cg (k:Int):Option Int:=
 br (decide (0<=(wrap .u64 (wrap .i64 (24-k))))) (
 (vZ 3 (bC .i64 127 (wrap .u64 (wrap .i64 (24-k))))).bind fun a=>
 some a) none
theorem a2p {k r} (h:Cg k=some r):Call tab ow 361 [I k] []=some (I r,[]):=by
 rw [aj (af:=zw) rfl]
 unfold Cg at h
 simp only [zw,Ns]
 have d1:= @Jt
 exact go2
def vQ (a:Int):Option Int:=
 some (wrap .i64 (a+1))
theorem Ux {a r} (h:vQ a=some r):Call tab ow 313 [I a] []=some (I r,[]):=by
 rw [aj (af:=uE) rfl]
 unfold vQ at h
 simp only [uE,I5]
 exact go2
def oK (a:Int) (v:List Ext):Option Ext:=
 br (a==1) (
 (atL v 0).bind fun x=>
 (atL v 1).bind fun k=>
 (dD x k).bind fun h=>
 some h) (
 (atL v 0).bind fun f=>
 (atL v 1).bind fun i=>
 (atL v 2).bind fun e=>
 (dD i e).bind fun d=>
 (atL v 3).bind fun j=>
 (uV d j).bind fun b=>
 (dD f b).bind fun c=>
 some c)
theorem PG {a v r} (h:oK a v=some r):Call tab ow 269 [I a,sl eExt v] []=some (.agg [I r.A,I r.B],[]):=by
 rw [aj (af:=su) rfl]
 unfold oK at h
 simp only [su,G4]
 have d1:= @kD
 have d2:= @CI
 exact go2
section
@[local go_sem] theorem b74:mkR 2000 []=rws eU8 []:=rfl
def kZ (a:List Ext):(List UInt8)×Int->Option (((List UInt8)×Int)⊕(((List UInt8)×Int×Bool)))
 | (l,i)=>
   br (decide (i<(a.length:Int))) (
   (atL a i).bind fun x=>
   (fZ x.A 4).bind fun c=>
   br (cP ((l++c).length) 1) (
   (atL a i).bind fun d=>
   (fZ d.B 4).bind fun b=>
   br (cP (((l++c)++b).length) 1) (
   some (.inl (((l++c)++b),(wrap .i64 (i+1))))) none) none) (
   some (.inr (l,i,decide (i<(a.length:Int)))))
theorem Tb {a}:LX tab ow (.close [6006,6007,6013,6014]) F0 (kZ a) (fun s=>⟨[(0,sl eExt a),(3,.sl 2000 0 s.1.length),(4,I s.2)],[(2000,⟨1,false,rws eU8 s.1⟩)]⟩) (fun e=>(.exit 0,⟨[(0,sl eExt a),(3,.sl 2000 0 e.1.length),(4,I e.2.1),(9,B e.2.2)],[(2000,⟨1,false,rws eU8 e.1⟩)]⟩)):=by
 refine lrX (fun s o h=> ?_)
 obtain ⟨_,_⟩:=s
 simp only [kZ] at h
 simp only [F0,GD]
 have d1:= @jd
 exact go2
def tB (a:List Ext):Option (List UInt8):=
 (Loop (kZ a) (([]:List UInt8),0)).bind fun b=>
 some b.1
theorem L7 {a r} (h:tB a=some r):Call tab ow 262 [sl eExt a] []=some (sl eU8 r,[]):=by
 rw [aj (af:=wO) rfl]
 unfold tB at h
 simp only [wO,D4]
 have d1:= @Tb
 exact go2
end
def l0 (s:Source) (a:List Ext):Option Source:=
 (tB a).bind fun c=>
 (kn s c).bind fun b=>
 some b
theorem zp {s a r} (h:l0 s a=some r):Call tab ow 207 [.agg [sl eExt s.Script,I s.At,S s.State,I s.Count],sl eExt a] []=some (.agg [sl eExt r.Script,I r.At,S r.State,I r.Count],[]):=by
 rw [aj (af:=Ah) rfl]
 unfold l0 at h
 simp only [Ah,NI]
 have d1:= @L7
 have d2:= @pP
 exact go2
def m7 (a:Int):Option Int:=
 (vZ a 2130706431).bind fun b=>
 some b
theorem F5 {a r} (h:m7 a=some r):Call tab ow 330 [I a] []=some (I r,[]):=by
 rw [aj (af:=rN) rfl]
 unfold m7 at h
 simp only [rN,Fm]
 have d1:= @Jt
 exact go2
def oh (n i:Int) (a b t:Ext):Option Ext:=
 (BG n).bind fun s=>
 (Cg s).bind fun l=>
 (vZ l i).bind fun o=>
 (m7 2).bind fun h=>
 (iS a b).bind fun r=>
 (s8 h).bind fun q=>
 (dD r q).bind fun p=>
 (uV a b).bind fun m=>
 (m7 o).bind fun f=>
 (li h f).bind fun k=>
 (s8 k).bind fun c=>
 (dD m c).bind fun e=>
 (dD t e).bind fun d=>
 (iS p d).bind fun j=>
 some j
theorem a3I {n i a b c r} (h:oh n i a b c=some r):Call tab ow 317 [I n,I i,.agg [I a.A,I a.B],.agg [I b.A,I b.B],.agg [I c.A,I c.B]] []=some (.agg [I r.A,I r.B],[]):=by
 rw [aj (af:=A3) rfl]
 unfold oh at h
 simp only [A3,Nz]
 have d1:= @a2o
 have d2:= @a2p
 have d3:= @Jt
 have d4:= @F5
 have d5:= @nH
 have d6:= @xN
 have d7:= @kD
 have d8:= @CI
 have d9:= @Db
 exact go2
def BW (t:List UInt8):Option (List UInt8):=
 br (cP ((([0]:List UInt8)).length+t.length) 1) (
 (l8 ((([0]:List UInt8))++t)).bind fun a=>
 some a) none
theorem a2D {t r} (h:BW t=some r):Call tab ow 318 [S t] []=some (S r,[]):=by
 rw [aj (af:=Aq) rfl]
 unfold BW at h
 simp only [Aq,NU]
 have d1:= @rA
 exact go2
def Bp (s:Source) (a b:Int):Option Bool:=
 br (cP (s.State.length+(([103,114,105,110,100]:List UInt8)).length) 1) (
 (fZ b 4).bind fun e=>
 br (cP ((s.State++(([103,114,105,110,100]:List UInt8))).length+e.length) 1) (
 (l8 ((s.State++(([103,114,105,110,100]:List UInt8)))++e)).bind fun d=>
 (atL d 0).bind fun c=>
 (atL d 1).bind fun f=>
 br (decide (0<=(wrap .u64 (wrap .i64 (16-a))))) (
 some ((bW .i64 (wrap .i64 ((wrap .i64 ((wrap .i64 (c.toNat:Int))*256))+(wrap .i64 (f.toNat:Int)))) (wrap .u64 (wrap .i64 (16-a))))==0)) none) none) none
theorem a1G {s b a r} (h:Bp s b a=some r):Call tab ow 234 [.agg [sl eExt s.Script,I s.At,S s.State,I s.Count],I b,I a] []=some (B r,[]):=by
 rw [aj (af:=zJ) rfl]
 unfold Bp at h
 simp only [zJ,NR]
 have d1:= @jd
 have d2:= @rA
 exact go2
section
@[local go_sem] theorem b7j:mkR 2000 []=rws eExt []:=rfl
@[local go_sem] theorem b7b:mkR 8002 []=rws eExt []:=rfl
def kA (d k:Int) (h:List UInt8) (j:Int):(List Ext)×Int×(List Ext)×Int×(List UInt8)×Int->Option (((List Ext)×Int×(List Ext)×Int×(List UInt8)×Int)⊕(((List Ext)×Int×Bool×(List Ext)×Int×(List UInt8)×Int)))
 | (l,i,c,e,f,b)=>
   br (decide (i<d)) (
   (rf (Source.mk c e f b)).bind fun a=>
   br (cP ((l++([a.2]:List Ext)).length) 16) (
   some (.inl ((l++([a.2]:List Ext)),(wrap .i64 (i+1)),a.1.Script,a.1.At,a.1.State,a.1.Count))) none) (
   some (.inr (l,i,decide (i<d),c,e,f,b)))
abbrev Ax (e:Int) (a:List UInt8) (d:Int) (l c:List Ext) (f:Int) (h:List UInt8) (b:Int):List (Nat×Blk):=[(1000,⟨4,true,[[sl eExt c,I f,S h,I b]]⟩),(1001,⟨4,true,[[.lit (.slice none 0 0),I e,S a,I d]]⟩),(2000,⟨2,false,rws eExt l⟩)]
theorem Uu {d c b a}:LX tab ow (.close [6001,6005,6006,8002,8003]) HV (kA d c b a) (fun s=>⟨[(1,I d),(2,.ptr 1000 0 0 1),(4,.ptr 1001 0 0 1),(6,.sl 2000 0 s.1.length),(7,I s.2.1)],Ax c b a s.1 s.2.2.1 s.2.2.2.1 s.2.2.2.2.1 s.2.2.2.2.2⟩) (fun e=>(.exit 0,⟨[(1,I d),(2,.ptr 1000 0 0 1),(4,.ptr 1001 0 0 1),(6,.sl 2000 0 e.1.length),(7,I e.2.1),(13,B e.2.2.1)],Ax c b a e.1 e.2.2.2.1 e.2.2.2.2.1 e.2.2.2.2.2.1 e.2.2.2.2.2.2⟩)):=by
 refine lrX (fun s o h=> ?_)
 obtain ⟨_,_,_,_,_,_⟩:=s
 simp only [kA] at h
 simp only [Ax,HV,J0]
 have d1:= @G1
 exact go2
def tE (s:Source) (n:Int):Option (Source×(List Ext)):=
 (Loop (kA n 0 (([]:List UInt8)) 0) (([]:List Ext),0,s.Script,s.At,s.State,s.Count)).bind fun a=>
 some ((Source.mk a.2.2.2.1 a.2.2.2.2.1 a.2.2.2.2.2.1 a.2.2.2.2.2.2),a.1)
theorem O5 {s n r} (h:tE s n=some r):Call tab ow 253 [.agg [sl eExt s.Script,I s.At,S s.State,I s.Count],I n] []=some (.tup [.agg [sl eExt r.1.Script,I r.1.At,S r.1.State,I r.1.Count],sl eExt r.2],[]):=by
 rw [aj (af:=zx) rfl]
 unfold tE at h
 simp only [zx,Fa]
 have d1:= @Uu
 exact go2
end
section
@[local go_sem] theorem b4D:mkR 3000 []=rws eI []:=rfl
@[local go_sem] theorem b37:mkR 7008 []=rws eI []:=rfl
def iQ (d a:Int) (b c:List Ext) (n:Int) (p:List UInt8) (j o:Int) (h:List UInt8) (m:Int) (k:List Ext) (q:Int) (f:List UInt8) (e:Int):(List Int)×Int->Option (((List Int)×Int)⊕(((List Int)×Int×Bool)))
 | (l,i)=>
   br (decide (i<d)) (
   (atL b i).bind fun x=>
   br (decide (a≠0)) (
   br (cP ((l++([(x.A.tmod a)]:List Int)).length) 8) (
   some (.inl ((l++([(x.A.tmod a)]:List Int)),(wrap .i64 (i+1))))) none) none) (
   some (.inr (l,i,decide (i<d))))
abbrev w8 (c:List Ext) (i:Int) (k:List UInt8) (e j:Int) (d:List UInt8) (h:Int) (f:List Ext) (m:Int) (b:List UInt8) (a:Int) (l:List Int):List (Nat×Blk):=[(1000,⟨4,true,[[sl eExt c,I i,S k,I e]]⟩),(1001,⟨4,true,[[.lit (.slice none 0 0),I j,S d,I h]]⟩),(2006,⟨4,true,[[sl eExt f,I m,S b,I a]]⟩),(3000,⟨1,false,rws eI l⟩)]
theorem OU {m a b c n q j p i l k r f d}:LX tab ow (.close [7008,7009]) Eb (iQ m a b c n q j p i l k r f d) (fun s=>⟨[(1,I m),(2,I a),(6,.ptr 1001 0 0 1),(8,.ptr 2006 0 0 1),(9,sl eExt b),(10,.sl 3000 0 s.1.length),(11,I s.2)],w8 c n q j p i l k r f d s.1⟩) (fun e=>(.exit 0,⟨[(1,I m),(2,I a),(6,.ptr 1001 0 0 1),(8,.ptr 2006 0 0 1),(9,sl eExt b),(10,.sl 3000 0 e.1.length),(11,I e.2.1),(21,B e.2.2)],w8 c n q j p i l k r f d e.1⟩)):=by
 refine lrX (fun s o h=> ?_)
 obtain ⟨_,_⟩:=s
 simp only [iQ] at h
 simp only [w8,Eb,Ek]
 exact go2
def vB (s:Source) (n b:Int):Option (Source×(List Int)):=
 (tE s n).bind fun a=>
 (Loop (iQ n b a.2 s.Script s.At s.State s.Count 0 (([]:List UInt8)) 0 a.1.Script a.1.At a.1.State a.1.Count) (([]:List Int),0)).bind fun c=>
 some (a.1,c.1)
theorem UO {s n a r} (h:vB s n a=some r):Call tab ow 214 [.agg [sl eExt s.Script,I s.At,S s.State,I s.Count],I n,I a] []=some (.tup [.agg [sl eExt r.1.Script,I r.1.At,S r.1.State,I r.1.Count],sl eI r.2],[]):=by
 rw [aj (af:=u7) rfl]
 unfold vB at h
 simp only [u7,Bb]
 have d1:= @O5
 have d2:= @OU
 exact go2
end
def BB (g:Gate) (k:Int):Option Bool:=
 (ez g.Op 1 8).bind fun y=>
 br (!y) (
 some false) (
 (Bv g.Op).bind fun a=>
 br (decide (a>0)) (
 (ez g.A 0 (wrap .i64 (k-1))).bind fun v=>
 br (!v) (
 some false) (
 br (a==0) (
 br (g.A !=0) (
 some false) (
 br (decide (a>1)) (
 (ez g.B 0 (wrap .i64 (k-1))).bind fun r=>
 br (!r) (
 some false) (
 br (decide (a<2)) (
 br (g.B !=0) (
 some false) (
 br (g.Op==3) (
 (dy g.K).bind fun u=>
 some u) (
 some (g.K==0)))) (
 br (g.Op==3) (
 (dy g.K).bind fun w=>
 some w) (
 some (g.K==0))))) (
 br (decide (a<2)) (
 br (g.B !=0) (
 some false) (
 br (g.Op==3) (
 (dy g.K).bind fun t=>
 some t) (
 some (g.K==0)))) (
 br (g.Op==3) (
 (dy g.K).bind fun s=>
 some s) (
 some (g.K==0)))))) (
 br (decide (a>1)) (
 (ez g.B 0 (wrap .i64 (k-1))).bind fun x=>
 br (!x) (
 some false) (
 br (decide (a<2)) (
 br (g.B !=0) (
 some false) (
 br (g.Op==3) (
 (dy g.K).bind fun o=>
 some o) (
 some (g.K==0)))) (
 br (g.Op==3) (
 (dy g.K).bind fun q=>
 some q) (
 some (g.K==0))))) (
 br (decide (a<2)) (
 br (g.B !=0) (
 some false) (
 br (g.Op==3) (
 (dy g.K).bind fun c=>
 some c) (
 some (g.K==0)))) (
 br (g.Op==3) (
 (dy g.K).bind fun j=>
 some j) (
 some (g.K==0))))))) (
 br (a==0) (
 br (g.A !=0) (
 some false) (
 br (decide (a>1)) (
 (ez g.B 0 (wrap .i64 (k-1))).bind fun d=>
 br (!d) (
 some false) (
 br (decide (a<2)) (
 br (g.B !=0) (
 some false) (
 br (g.Op==3) (
 (dy g.K).bind fun l=>
 some l) (
 some (g.K==0)))) (
 br (g.Op==3) (
 (dy g.K).bind fun e=>
 some e) (
 some (g.K==0))))) (
 br (decide (a<2)) (
 br (g.B !=0) (
 some false) (
 br (g.Op==3) (
 (dy g.K).bind fun n=>
 some n) (
 some (g.K==0)))) (
 br (g.Op==3) (
 (dy g.K).bind fun p=>
 some p) (
 some (g.K==0)))))) (
 br (decide (a>1)) (
 (ez g.B 0 (wrap .i64 (k-1))).bind fun m=>
 br (!m) (
 some false) (
 br (decide (a<2)) (
 br (g.B !=0) (
 some false) (
 br (g.Op==3) (
 (dy g.K).bind fun b=>
 some b) (
 some (g.K==0)))) (
 br (g.Op==3) (
 (dy g.K).bind fun h=>
 some h) (
 some (g.K==0))))) (
 br (decide (a<2)) (
 br (g.B !=0) (
 some false) (
 br (g.Op==3) (
 (dy g.K).bind fun i=>
 some i) (
 some (g.K==0)))) (
 br (g.Op==3) (
 (dy g.K).bind fun f=>
 some f) (
 some (g.K==0)))))))
theorem a1u {g k r} (h:BB g k=some r):Call tab ow 260 [.agg [I g.Op,I g.A,I g.B,I g.K],I k] []=some (B r,[]):=by
 rw [aj (af:=A5) rfl]
 unfold BB at h
 simp only [A5,NZ]
 have d1:= @oM
 have d2:= @a2J
 have d3:= @GA
 exact go2
def fM (b:List Gate):Int->Option ((Int)⊕(Unit⊕(Int×Bool)))
 |k=>
  br (decide (k<(b.length:Int))) (
  (atL b k).bind fun x=>
  (BB x k).bind fun a=>
  br (!a) (
  some (.inr (.inl ()))) (
  some (.inl (wrap .i64 (k+1))))) (
  some (.inr (.inr (k,decide (k<(b.length:Int))))))
theorem OM {a}:LX tab ow (.close [7006]) Ef (fM a) (fun s=>⟨[(1,.ptr 1000 0 0 1),(3,I s)],[(1000,⟨1,true,[[sl eGate a]]⟩)]⟩) (alt (fun e=>((.ret,⟨[(2,B false)],[(1000,⟨1,true,[[sl eGate a]]⟩)]⟩):bR×St)) (fun e=>(.exit 0,⟨[(1,.ptr 1000 0 0 1),(3,I e.1),(13,B e.2)],[(1000,⟨1,true,[[sl eGate a]]⟩)]⟩))):=by
 refine lrX (fun s o h=> ?_)
 simp only [fM] at h
 simp only [Ef,EE]
 have d1:= @a1u
 exact go2
def vH (c:Circuit):Option Bool:=
 (ez (c.Gates.length:Int) 1 15).bind fun d=>
 br (!d) (
 some false) (
 (Loop (fM c.Gates) 0).bind (alt (fun b=>
 some false) (fun e=>
 (qJ c 2).bind fun a=>
 some (decide (a<=7)))))
theorem Uh {c r} (h:vH c=some r):Call tab ow 139 [.agg [sl eGate c.Gates]] []=some (B r,[]):=by
 rw [aj (af:=ux) rfl]
 unfold vH at h
 simp only [ux,Ay]
 have d1:= @oM
 have d2:= @OM
 have d3:= @CF
 exact go2
def wc (a:List Int):Int->Option ((Int)⊕(Unit⊕(Int×Bool)))
 |i=>
  br (decide (i<(a.length:Int))) (
  (atL a i).bind fun x=>
  (dy x).bind fun b=>
  br (!b) (
  some (.inr (.inl ()))) (
  some (.inl (wrap .i64 (i+1))))) (
  some (.inr (.inr (i,decide (i<(a.length:Int))))))
theorem Ot {a}:LX tab ow (.close [5004]) EA (wc a) (fun s=>⟨[(0,sl eI a),(3,I s)],[]⟩) (alt (fun e=>((.ret,⟨[(2,B false)],[]⟩):bR×St)) (fun e=>(.exit 0,⟨[(0,sl eI a),(3,I e.1),(7,B e.2)],[]⟩))):=by
 refine lrX (fun s o h=> ?_)
 simp only [wc] at h
 simp only [EA,EM]
 have d1:= @GA
 exact go2
def vq (a:List Int):Option Bool:=
 (Loop (wc a) 0).bind (alt (fun b=>
 some false) (fun c=>
 some true))
theorem UK {a r} (h:vq a=some r):Call tab ow 242 [sl eI a] []=some (B r,[]):=by
 rw [aj (af:=uA) rfl]
 unfold vq at h
 simp only [uA,AW]
 have d1:= @Ot
 exact go2
def oP (p a:Int) (b:List Gate):Int->Option ((Int)⊕((Int×Bool)))
 |k=>
  br (decide (0<=(wrap .u64 (wrap .i64 (k-1))))) (
  br (decide ((bC .i64 1 (wrap .u64 (wrap .i64 (k-1))))<(mx (wrap .i64 (p+1)) a))) (
  some (.inl (wrap .i64 (k+1)))) (
  some (.inr (k,decide ((bC .i64 1 (wrap .u64 (wrap .i64 (k-1))))<(mx (wrap .i64 (p+1)) a)))))) none
theorem WL {p b a}:LX tab ow (.close []) K5 (oP p b a) (fun s=>⟨[(3,I p),(4,I b),(5,I s)],[(1000,⟨1,true,[[sl eGate a]]⟩)]⟩) (fun e=>(.exit 0,⟨[(3,I p),(4,I b),(5,I e.1),(21,B e.2)],[(1000,⟨1,true,[[sl eGate a]]⟩)]⟩)):=by
 refine lrX (fun s o h=> ?_)
 simp only [oP] at h
 simp only [K5,Ld]
 exact go2
def Fl (c:Circuit):Option Int:=
 (qJ c 2).bind fun a=>
 (Loop (oP a (wrap .i64 ((c.Gates.length:Int)-a)) c.Gates) 2).bind fun b=>
 some b.1
theorem a4e {c r} (h:Fl c=some r):Call tab ow 337 [.agg [sl eGate c.Gates]] []=some (I r,[]):=by
 rw [aj (af:=DK) rfl]
 unfold Fl at h
 simp only [DK,JT]
 have d1:= @CF
 have d2:= @WL
 exact go2
section
@[local go_sem] theorem c0b:mkR 4000 []=rws eI []:=rfl
@[local go_sem] theorem b88:mkR 12002 []=rws eI []:=rfl
@[local go_sem] theorem b9n:mkR 13004 []=rws eI []:=rfl
def mQ (d a:Int) (c:List Gate):(List Int)×Int×Int×Int->Option (((List Int)×Int×Int×Int)⊕(((List Int)×Int×Int×Int×Bool)))
 | (l,p,b,k)=>
   br (decide (k<(c.length:Int))) (
   (atL c k).bind fun x=>
   br (x.Op==2) (
   br (cP ((l++([(wrap .i64 (p+1))]:List Int)).length) 8) (
   some (.inl ((l++([(wrap .i64 (p+1))]:List Int)),(wrap .i64 (p+1)),b,(wrap .i64 (k+1))))) none) (
   br (cP ((l++([(wrap .i64 (a+b))]:List Int)).length) 8) (
   some (.inl ((l++([(wrap .i64 (a+b))]:List Int)),p,(wrap .i64 (b+1)),(wrap .i64 (k+1))))) none)) (
   some (.inr (l,p,b,k,decide (k<(c.length:Int)))))
abbrev B9 (a:List Gate) (l:List Int):List (Nat×Blk):=[(1000,⟨1,true,[[sl eGate a]]⟩),(4000,⟨1,false,rws eI l⟩)]
theorem TY {b a c}:LX tab ow (.close [12002,12003,13004,13005]) HF (mQ b a c) (fun s=>⟨[(1,.ptr 1000 0 0 1),(4,I b),(5,I a),(6,.sl 4000 0 s.1.length),(7,I s.2.1),(8,I s.2.2.1),(9,I s.2.2.2)],B9 c s.1⟩) (fun e=>(.exit 0,⟨[(1,.ptr 1000 0 0 1),(4,I b),(5,I a),(6,.sl 4000 0 e.1.length),(7,I e.2.1),(8,I e.2.2.1),(9,I e.2.2.2.1),(21,B e.2.2.2.2)],B9 c e.1⟩)):=by
 refine lrX (fun s o h=> ?_)
 obtain ⟨_,_,_,_⟩:=s
 simp only [mQ] at h
 simp only [B9,HF,II]
 exact go2
def Bu (c:Circuit):Option ((List Int)×Int):=
 (Fl c).bind fun a=>
 br (decide (0<=(wrap .u64 (wrap .i64 (a-1))))) (
 (Loop (mQ a (bC .i64 1 (wrap .u64 (wrap .i64 (a-1)))) c.Gates) (([]:List Int),0,0,0)).bind fun b=>
 some (b.1,a)) none
theorem a0J {c r} (h:Bu c=some r):Call tab ow 258 [.agg [sl eGate c.Gates]] []=some (.tup [sl eI r.1,I r.2],[]):=by
 rw [aj (af:=zm) rfl]
 unfold Bu at h
 simp only [zm,Gz]
 have d1:= @a4e
 have d2:= @TY
 exact go2
end
section
@[local go_sem] theorem b6Z:mkR 7000 []=rws aA []:=rfl
@[local go_sem] theorem b6T:mkR 9005 []=rws aA []:=rfl
@[local go_sem] theorem b72:mkR 11000 []=rws aA []:=rfl
@[local go_sem] theorem b6X:mkR 11009 []=rws aA []:=rfl
def jG (a:List au) (t c e:Int):Int->Option ((Int)⊕((Int×Bool)))
 |b=>
  br (decide (b>0)) (
  (atL a (wrap .i64 (b-1))).bind fun x=>
  br (x.Row==t) (
  (atL a (wrap .i64 (b-1))).bind fun d=>
  br (decide (d.Col>c)) (
  some (.inl (wrap .i64 (b-1)))) (
  some (.inr (b,decide (d.Col>c))))) (
  some (.inr (b,false)))) (
  some (.inr (b,false)))
theorem Th {a t c b}:LX tab ow (.close []) FL (jG a t c b) (fun s=>⟨[(0,sl aA a),(1,I t),(2,I c),(3,I b),(9,I s)],[]⟩) (fun e=>(.exit 0,⟨[(0,sl aA a),(1,I t),(2,I c),(3,I b),(9,I e.1),(35,B e.2)],[]⟩)):=by
 refine lrX (fun s o h=> ?_)
 simp only [jG] at h
 simp only [FL,FZ]
 exact go2
def aG (b:List au) (a c e:Int):Option (List au):=
 (Loop (jG b a c e) (b.length:Int)).bind fun d=>
 br (decide (d.1>0)) (
 (atL b (wrap .i64 (d.1-1))).bind fun q=>
 br (q.Row==a) (
 (atL b (wrap .i64 (d.1-1))).bind fun r=>
 br (r.Col==c) (
 (atL b (wrap .i64 (d.1-1))).bind fun p=>
 (sx p.Value e).bind fun i=>
 (lr b 0 (wrap .i64 (d.1-1))).bind fun y=>
 br (cP ((([]:List au)++y).length) 24) (
 br (i !=0) (
 br (cP (((([]:List au)++y)++([(au.mk a c i)]:List au)).length) 24) (
 (lr b d.1 (b.length:Int)).bind fun o=>
 br (cP ((((([]:List au)++y)++([(au.mk a c i)]:List au))++o).length) 24) (
 some (((([]:List au)++y)++([(au.mk a c i)]:List au))++o)) none) none) (
 (lr b d.1 (b.length:Int)).bind fun m=>
 br (cP (((([]:List au)++y)++m).length) 24) (
 some ((([]:List au)++y)++m)) none)) none) (
 (lr b 0 d.1).bind fun j=>
 br (cP ((([]:List au)++j).length) 24) (
 br (cP (((([]:List au)++j)++([(au.mk a c e)]:List au)).length) 24) (
 (lr b d.1 (b.length:Int)).bind fun l=>
 br (cP ((((([]:List au)++j)++([(au.mk a c e)]:List au))++l).length) 24) (
 some (((([]:List au)++j)++([(au.mk a c e)]:List au))++l)) none) none) none)) (
 (lr b 0 d.1).bind fun f=>
 br (cP ((([]:List au)++f).length) 24) (
 br (cP (((([]:List au)++f)++([(au.mk a c e)]:List au)).length) 24) (
 (lr b d.1 (b.length:Int)).bind fun k=>
 br (cP ((((([]:List au)++f)++([(au.mk a c e)]:List au))++k).length) 24) (
 some (((([]:List au)++f)++([(au.mk a c e)]:List au))++k)) none) none) none)) (
 (lr b 0 d.1).bind fun h=>
 br (cP ((([]:List au)++h).length) 24) (
 br (cP (((([]:List au)++h)++([(au.mk a c e)]:List au)).length) 24) (
 (lr b d.1 (b.length:Int)).bind fun n=>
 br (cP ((((([]:List au)++h)++([(au.mk a c e)]:List au))++n).length) 24) (
 some (((([]:List au)++h)++([(au.mk a c e)]:List au))++n)) none) none) none)
theorem Yp {b a d c r} (h:aG b a d c=some r):Call tab ow 259 [sl aA b,I a,I d,I c] []=some (sl aA r,[]):=by
 rw [aj (af:=xx) rfl]
 unfold aG at h
 simp only [xx,CO]
 have d1:= @Th
 have d2:= @Jj
 exact go2
end
end
end Go.AI.Fn
set_option linter.unusedVariables false
set_option linter.unusedSimpArgs false
set_option maxRecDepth 100000
set_option maxHeartbeats 1000000
namespace Go.AI.Fn
noncomputable section
open IntKind (wrap)
section
@[local go_sem] theorem b2X:mkR 3003 []=rws aA []:=rfl
@[local go_sem] theorem b6g:mkR 3004 []=rws aA []:=rfl
@[local go_sem] theorem b1G:mkR 3005 []=rws aA []:=rfl
def gS (t:List Int) (c:List Gate) (c2 c3 c4 c5 c6 c7:Int):Int×Int×(List au)×(List au)×(List au)->Option ((Int×Int×(List au)×(List au)×(List au))⊕((Int×Int×Bool×(List au)×(List au)×(List au))))
 | (a,b,f,e,d)=>
   br (decide (b<(c.length:Int))) (
   (atL c b).bind fun x=>
   br (x.Op==1) (
   br (x.Op==1) (
   some (.inl (a,(wrap .i64 (b+1)),f,e,d))) (
   br (x.Op==6) (
   (atL t x.A).bind fun x2=>
   (aG f a x2 1).bind fun r_3=>
   (atL t x.B).bind fun x3=>
   (aG e a x3 1).bind fun r_4=>
   (atL t b).bind fun x4=>
   (aG d a x4 1).bind fun r_5=>
   some (.inl ((wrap .i64 (a+1)),(wrap .i64 (b+1)),r_3,r_4,r_5))) (
   br (x.Op==4) (
   br (x.Op==4) (
   (atL t x.A).bind fun x5=>
   (aG f a x5 1).bind fun r_6=>
   br (x.Op==5) (
   (atL t x.B).bind fun x6=>
   (aG r_6 a x6 2130706432).bind fun r_7=>
   (aG e a 0 1).bind fun r_8=>
   (atL t b).bind fun x7=>
   (aG d a x7 1).bind fun r_9=>
   some (.inl ((wrap .i64 (a+1)),(wrap .i64 (b+1)),r_7,r_8,r_9))) (
   (atL t x.B).bind fun x8=>
   (aG r_6 a x8 1).bind fun r_10=>
   (aG e a 0 1).bind fun r_11=>
   (atL t b).bind fun x9=>
   (aG d a x9 1).bind fun r_12=>
   some (.inl ((wrap .i64 (a+1)),(wrap .i64 (b+1)),r_10,r_11,r_12)))) (
   br (x.Op==3) (
   br (decide (x.K>0)) (
   (aG f a 0 x.K).bind fun r_13=>
   (aG e a 0 1).bind fun r_14=>
   (atL t b).bind fun x10=>
   (aG d a x10 1).bind fun r_15=>
   some (.inl ((wrap .i64 (a+1)),(wrap .i64 (b+1)),r_13,r_14,r_15))) (
   (aG e a 0 1).bind fun r_16=>
   (atL t b).bind fun x11=>
   (aG d a x11 1).bind fun r_17=>
   some (.inl ((wrap .i64 (a+1)),(wrap .i64 (b+1)),f,r_16,r_17)))) (
   br (x.Op==7) (
   (atL t x.B).bind fun x12=>
   (aG f a x12 1).bind fun r_18=>
   (aG e a 0 1).bind fun r_19=>
   (atL t b).bind fun x13=>
   (aG d a x13 1).bind fun u=>
   (atL t x.A).bind fun x14=>
   (aG r_18 (wrap .i64 (a+1)) x14 1).bind fun r_21=>
   (aG r_19 (wrap .i64 (a+1)) 0 1).bind fun r_22=>
   (atL t b).bind fun x15=>
   (aG u (wrap .i64 (a+1)) x15 1).bind fun r_23=>
   some (.inl ((wrap .i64 ((wrap .i64 (a+1))+1)),(wrap .i64 (b+1)),r_21,r_22,r_23))) (
   br (x.Op==8) (
   (atL t x.A).bind fun x16=>
   (aG f a x16 1).bind fun r_24=>
   (atL t x.A).bind fun x17=>
   (aG e a x17 1).bind fun r_25=>
   (atL t b).bind fun x18=>
   (aG d a x18 1).bind fun r_26=>
   (atL t x.A).bind fun x19=>
   (aG r_24 (wrap .i64 (a+1)) x19 1).bind fun r_27=>
   (aG r_25 (wrap .i64 (a+1)) 0 1).bind fun r_28=>
   (atL t b).bind fun x20=>
   (aG r_26 (wrap .i64 (a+1)) x20 1).bind fun r_29=>
   some (.inl ((wrap .i64 ((wrap .i64 (a+1))+1)),(wrap .i64 (b+1)),r_27,r_28,r_29))) (
   (atL t b).bind fun x21=>
   (aG d a x21 1).bind fun r_30=>
   some (.inl ((wrap .i64 (a+1)),(wrap .i64 (b+1)),f,e,r_30))))))) (
   br (x.Op==5) (
   (atL t x.A).bind fun x22=>
   (aG f a x22 1).bind fun h=>
   br (x.Op==5) (
   (atL t x.B).bind fun x23=>
   (aG h a x23 2130706432).bind fun r_32=>
   (aG e a 0 1).bind fun r_33=>
   (atL t b).bind fun x24=>
   (aG d a x24 1).bind fun y=>
   some (.inl ((wrap .i64 (a+1)),(wrap .i64 (b+1)),r_32,r_33,y))) (
   (atL t x.B).bind fun x25=>
   (aG h a x25 1).bind fun r_35=>
   (aG e a 0 1).bind fun r_36=>
   (atL t b).bind fun x26=>
   (aG d a x26 1).bind fun r_37=>
   some (.inl ((wrap .i64 (a+1)),(wrap .i64 (b+1)),r_35,r_36,r_37)))) (
   br (x.Op==3) (
   br (decide (x.K>0)) (
   (aG f a 0 x.K).bind fun r_38=>
   (aG e a 0 1).bind fun r_39=>
   (atL t b).bind fun x27=>
   (aG d a x27 1).bind fun r_40=>
   some (.inl ((wrap .i64 (a+1)),(wrap .i64 (b+1)),r_38,r_39,r_40))) (
   (aG e a 0 1).bind fun r_41=>
   (atL t b).bind fun x28=>
   (aG d a x28 1).bind fun r_42=>
   some (.inl ((wrap .i64 (a+1)),(wrap .i64 (b+1)),f,r_41,r_42)))) (
   br (x.Op==7) (
   (atL t x.B).bind fun x29=>
   (aG f a x29 1).bind fun r_43=>
   (aG e a 0 1).bind fun r_44=>
   (atL t b).bind fun x30=>
   (aG d a x30 1).bind fun v=>
   (atL t x.A).bind fun x31=>
   (aG r_43 (wrap .i64 (a+1)) x31 1).bind fun r_46=>
   (aG r_44 (wrap .i64 (a+1)) 0 1).bind fun r_47=>
   (atL t b).bind fun x32=>
   (aG v (wrap .i64 (a+1)) x32 1).bind fun r_48=>
   some (.inl ((wrap .i64 ((wrap .i64 (a+1))+1)),(wrap .i64 (b+1)),r_46,r_47,r_48))) (
   br (x.Op==8) (
   (atL t x.A).bind fun x33=>
   (aG f a x33 1).bind fun r_49=>
   (atL t x.A).bind fun x34=>
   (aG e a x34 1).bind fun r_50=>
   (atL t b).bind fun x35=>
   (aG d a x35 1).bind fun r_51=>
   (atL t x.A).bind fun x36=>
   (aG r_49 (wrap .i64 (a+1)) x36 1).bind fun r_52=>
   (aG r_50 (wrap .i64 (a+1)) 0 1).bind fun r_53=>
   (atL t b).bind fun x37=>
   (aG r_51 (wrap .i64 (a+1)) x37 1).bind fun r_54=>
   some (.inl ((wrap .i64 ((wrap .i64 (a+1))+1)),(wrap .i64 (b+1)),r_52,r_53,r_54))) (
   (atL t b).bind fun x38=>
   (aG d a x38 1).bind fun r_55=>
   some (.inl ((wrap .i64 (a+1)),(wrap .i64 (b+1)),f,e,r_55)))))))))) (
   br (x.Op==2) (
   some (.inl (a,(wrap .i64 (b+1)),f,e,d))) (
   br (x.Op==6) (
   (atL t x.A).bind fun x39=>
   (aG f a x39 1).bind fun z=>
   (atL t x.B).bind fun x40=>
   (aG e a x40 1).bind fun r_57=>
   (atL t b).bind fun x41=>
   (aG d a x41 1).bind fun r_58=>
   some (.inl ((wrap .i64 (a+1)),(wrap .i64 (b+1)),z,r_57,r_58))) (
   br (x.Op==4) (
   br (x.Op==4) (
   (atL t x.A).bind fun x42=>
   (aG f a x42 1).bind fun i=>
   br (x.Op==5) (
   (atL t x.B).bind fun x43=>
   (aG i a x43 2130706432).bind fun r_60=>
   (aG e a 0 1).bind fun r_61=>
   (atL t b).bind fun x44=>
   (aG d a x44 1).bind fun r_62=>
   some (.inl ((wrap .i64 (a+1)),(wrap .i64 (b+1)),r_60,r_61,r_62))) (
   (atL t x.B).bind fun x45=>
   (aG i a x45 1).bind fun r_63=>
   (aG e a 0 1).bind fun r_64=>
   (atL t b).bind fun x46=>
   (aG d a x46 1).bind fun r_65=>
   some (.inl ((wrap .i64 (a+1)),(wrap .i64 (b+1)),r_63,r_64,r_65)))) (
   br (x.Op==3) (
   br (decide (x.K>0)) (
   (aG f a 0 x.K).bind fun r_66=>
   (aG e a 0 1).bind fun r_67=>
   (atL t b).bind fun x47=>
   (aG d a x47 1).bind fun r_68=>
   some (.inl ((wrap .i64 (a+1)),(wrap .i64 (b+1)),r_66,r_67,r_68))) (
   (aG e a 0 1).bind fun r_69=>
   (atL t b).bind fun x48=>
   (aG d a x48 1).bind fun r_70=>
   some (.inl ((wrap .i64 (a+1)),(wrap .i64 (b+1)),f,r_69,r_70)))) (
   br (x.Op==7) (
   (atL t x.B).bind fun x49=>
   (aG f a x49 1).bind fun r_71=>
   (aG e a 0 1).bind fun r_72=>
   (atL t b).bind fun x50=>
   (aG d a x50 1).bind fun r_73=>
   (atL t x.A).bind fun x51=>
   (aG r_71 (wrap .i64 (a+1)) x51 1).bind fun w=>
   (aG r_72 (wrap .i64 (a+1)) 0 1).bind fun r_75=>
   (atL t b).bind fun x52=>
   (aG r_73 (wrap .i64 (a+1)) x52 1).bind fun r_76=>
   some (.inl ((wrap .i64 ((wrap .i64 (a+1))+1)),(wrap .i64 (b+1)),w,r_75,r_76))) (
   br (x.Op==8) (
   (atL t x.A).bind fun x53=>
   (aG f a x53 1).bind fun r_77=>
   (atL t x.A).bind fun x54=>
   (aG e a x54 1).bind fun r_78=>
   (atL t b).bind fun x55=>
   (aG d a x55 1).bind fun r_79=>
   (atL t x.A).bind fun x56=>
   (aG r_77 (wrap .i64 (a+1)) x56 1).bind fun r_80=>
   (aG r_78 (wrap .i64 (a+1)) 0 1).bind fun r_81=>
   (atL t b).bind fun x57=>
   (aG r_79 (wrap .i64 (a+1)) x57 1).bind fun r_82=>
   some (.inl ((wrap .i64 ((wrap .i64 (a+1))+1)),(wrap .i64 (b+1)),r_80,r_81,r_82))) (
   (atL t b).bind fun x58=>
   (aG d a x58 1).bind fun r_83=>
   some (.inl ((wrap .i64 (a+1)),(wrap .i64 (b+1)),f,e,r_83))))))) (
   br (x.Op==5) (
   (atL t x.A).bind fun x59=>
   (aG f a x59 1).bind fun j=>
   br (x.Op==5) (
   (atL t x.B).bind fun x60=>
   (aG j a x60 2130706432).bind fun r_85=>
   (aG e a 0 1).bind fun r_86=>
   (atL t b).bind fun x61=>
   (aG d a x61 1).bind fun r_87=>
   some (.inl ((wrap .i64 (a+1)),(wrap .i64 (b+1)),r_85,r_86,r_87))) (
   (atL t x.B).bind fun x62=>
   (aG j a x62 1).bind fun r_88=>
   (aG e a 0 1).bind fun r_89=>
   (atL t b).bind fun x63=>
   (aG d a x63 1).bind fun r_90=>
   some (.inl ((wrap .i64 (a+1)),(wrap .i64 (b+1)),r_88,r_89,r_90)))) (
   br (x.Op==3) (
   br (decide (x.K>0)) (
   (aG f a 0 x.K).bind fun r_91=>
   (aG e a 0 1).bind fun r_92=>
   (atL t b).bind fun x64=>
   (aG d a x64 1).bind fun r_93=>
   some (.inl ((wrap .i64 (a+1)),(wrap .i64 (b+1)),r_91,r_92,r_93))) (
   (aG e a 0 1).bind fun r_94=>
   (atL t b).bind fun x65=>
   (aG d a x65 1).bind fun r_95=>
   some (.inl ((wrap .i64 (a+1)),(wrap .i64 (b+1)),f,r_94,r_95)))) (
   br (x.Op==7) (
   (atL t x.B).bind fun x66=>
   (aG f a x66 1).bind fun r_96=>
   (aG e a 0 1).bind fun r_97=>
   (atL t b).bind fun x67=>
   (aG d a x67 1).bind fun r_98=>
   (atL t x.A).bind fun x68=>
   (aG r_96 (wrap .i64 (a+1)) x68 1).bind fun r_99=>
   (aG r_97 (wrap .i64 (a+1)) 0 1).bind fun m=>
   (atL t b).bind fun x69=>
   (aG r_98 (wrap .i64 (a+1)) x69 1).bind fun q=>
   some (.inl ((wrap .i64 ((wrap .i64 (a+1))+1)),(wrap .i64 (b+1)),r_99,m,q))) (
   br (x.Op==8) (
   (atL t x.A).bind fun x70=>
   (aG f a x70 1).bind fun o=>
   (atL t x.A).bind fun x71=>
   (aG e a x71 1).bind fun s=>
   (atL t b).bind fun x72=>
   (aG d a x72 1).bind fun r=>
   (atL t x.A).bind fun x73=>
   (aG o (wrap .i64 (a+1)) x73 1).bind fun k=>
   (aG s (wrap .i64 (a+1)) 0 1).bind fun l=>
   (atL t b).bind fun x74=>
   (aG r (wrap .i64 (a+1)) x74 1).bind fun p=>
   some (.inl ((wrap .i64 ((wrap .i64 (a+1))+1)),(wrap .i64 (b+1)),k,l,p))) (
   (atL t b).bind fun x75=>
   (aG d a x75 1).bind fun n=>
   some (.inl ((wrap .i64 (a+1)),(wrap .i64 (b+1)),f,e,n))))))))))) (
   some (.inr (a,b,decide (b<(c.length:Int)),f,e,d)))
abbrev wk (c:List Gate) (h j d i b f:Int) (e k a:List au):List (Nat×Blk):=[(1000,⟨1,true,[[sl eGate c]]⟩),(1001,⟨6,true,[[I h,I j,I d,.lit (.slice none 0 0),.lit (.slice none 0 0),.lit (.slice none 0 0)]]⟩),(3007,⟨6,true,[[I i,I b,I f,sl aA e,sl aA k,sl aA a]]⟩)]
theorem Oh {t c i j b f a d}:LX tab ow (.close [8005,13008,14008,17008,21009,22003,25005,26003,28008,29003,30007,32008,33003,35008,36008,37007,39008,40003,41007,3003,3004,3005]) DU (gS t c i j b f a d) (fun s=>⟨[(1,.ptr 1000 0 0 1),(2,.ptr 1001 0 0 1),(3,sl eI t),(5,.ptr 3007 0 0 1),(6,I s.1),(7,I s.2.1)],wk c i j b f a d s.2.2.1 s.2.2.2.1 s.2.2.2.2⟩) (fun e=>(.exit 0,⟨[(1,.ptr 1000 0 0 1),(2,.ptr 1001 0 0 1),(3,sl eI t),(5,.ptr 3007 0 0 1),(6,I e.1),(7,I e.2.1),(26,B e.2.2.1)],wk c i j b f a d e.2.2.2.1 e.2.2.2.2.1 e.2.2.2.2.2⟩)):=by
 refine lrX (fun s o h=> ?_)
 obtain ⟨_,_,_,_,_⟩:=s
 simp only [gS] at h
 simp only [wk,DU,Ex]
 have d1:= @Yp
 exact go2
def q9 (b:Int) (j:List Gate) (k c d e f:Int) (h i l:List au):Int->Option ((Int)⊕((Bool×Int)))
 |a=>
  br (decide (0<=(wrap .u64 a))) (
  br (decide ((bC .i64 1 (wrap .u64 a))<b)) (
  some (.inl (wrap .i64 (a+1)))) (
  some (.inr (decide ((bC .i64 1 (wrap .u64 a))<b),a)))) none
abbrev w7 (i:List Gate) (j a b c d:Int) (f h k:List au) (e:Int):List (Nat×Blk):=[(1000,⟨1,true,[[sl eGate i]]⟩),(1001,⟨6,true,[[I j,I a,I b,.lit (.slice none 0 0),.lit (.slice none 0 0),.lit (.slice none 0 0)]]⟩),(3007,⟨6,true,[[I e,I c,I d,sl aA f,sl aA h,sl aA k]]⟩)]
theorem Oj {m j k a b c d f i l}:LX tab ow (.close []) BK (q9 m j k a b c d f i l) (fun s=>⟨[(2,.ptr 1001 0 0 1),(5,.ptr 3007 0 0 1),(6,I m)],w7 j k a b c d f i l s⟩) (fun e=>(.exit 3,⟨[(2,.ptr 1001 0 0 1),(5,.ptr 3007 0 0 1),(6,I m),(218,B e.1)],w7 j k a b c d f i l e.2⟩)):=by
 refine lrX (fun s o h=> ?_)
 simp only [q9] at h
 simp only [w7,BK,C7]
 exact go2
def vK (a:Circuit):Option bi:=
 (Bu a).bind fun d=>
 (qJ a 2).bind fun c=>
 (Loop (gS d.1 a.Gates 0 0 0 0 d.2 c) (0,0,([]:List au),([]:List au),([]:List au))).bind fun b=>
 (Loop (q9 b.1 a.Gates 0 0 0 d.2 c b.2.2.2.1 b.2.2.2.2.1 b.2.2.2.2.2) 1).bind fun e=>
 some (bi.mk e.2 d.2 c b.2.2.2.1 b.2.2.2.2.1 b.2.2.2.2.2)
theorem Uy {a r} (h:vK a=some r):Call tab ow 137 [.agg [sl eGate a.Gates]] []=some (.agg [I r.Rows,I r.Cols,I r.Publics,sl aA r.A,sl aA r.B,sl aA r.C],[]):=by
 rw [aj (af:=um) rfl]
 unfold vK at h
 simp only [um,tZ]
 have d1:= @a0J
 have d2:= @CF
 have d3:= @Oh
 have d4:= @Oj
 exact go2
end
section
@[local go_sem] theorem b2b:mkR 2009 []=rws eU8 []:=rfl
@[local go_sem] theorem b4a:mkR 3006 []=rws (eL aA) []:=rfl
@[local go_sem] theorem b2P:mkR 12007 []=rws eU8 []:=rfl
def iP (p:List UInt8) (e:List (List au)) (c n o m:Int) (l k j:List au):(List UInt8)×Int->Option (((List UInt8)×Int)⊕(((List UInt8)×Int×Bool)))
 | (f,d)=>
   br (decide (0<=c)) (
   br (decide (c.toNat<e.length)) (
   (e[c.toNat]?).bind fun h=>
   br (decide (d<(h.length:Int))) (
   br (decide (0<=c)) (
   br (decide (c.toNat<e.length)) (
   (e[c.toNat]?).bind fun i=>
   (atL i d).bind fun a=>
   (fZ a.Value 4).bind fun b=>
   br (cP (([(UInt8.ofInt a.Row),(UInt8.ofInt a.Col)]:List UInt8).length+b.length) 1) (
   br (cP (f.length+(([(UInt8.ofInt a.Row),(UInt8.ofInt a.Col)]:List UInt8)++b).length) 1) (
   some (.inl ((f++(([(UInt8.ofInt a.Row),(UInt8.ofInt a.Col)]:List UInt8)++b)),(wrap .i64 (d+1))))) none) none) none) none) (
   some (.inr (f,d,decide (d<(h.length:Int)))))) none) none
abbrev w6 (h:List UInt8) (d:List (List au)) (e f i:Int) (c a b:List au):List (Nat×Blk):=[(1000,⟨6,true,[[I e,I f,I i,sl aA c,sl aA a,sl aA b]]⟩),(2009,⟨1,false,rws eU8 h⟩),(3006,⟨1,false,rws (eL aA) d⟩)]
theorem OD {i d l f j k c a b}:LX tab ow (.close [11007,12007,12011]) E4 (iP i d l f j k c a b) (fun s=>⟨[(3,S s.1),(4,.sl 3006 0 d.length),(5,I l),(6,I s.2)],w6 i d f j k c a b⟩) (fun e=>(.exit 2,⟨[(3,S e.1),(4,.sl 3006 0 d.length),(5,I l),(6,I e.2.1),(46,B e.2.2)],w6 i d f j k c a b⟩)):=by
 refine lrX (fun s o h=> ?_)
 obtain ⟨_,_⟩:=s
 simp only [iP] at h
 simp only [w6,E4,Em]
 have d1:= @jd
 exact go2
def jY (l:List UInt8) (b:List (List au)) (c i k:Int) (f j e:List au):(List UInt8)×Int->Option (((List UInt8)×Int)⊕(((List UInt8)×Int×Bool)))
 | (t,a)=>
   br (decide (a<3)) (
   br (decide (0<=a)) (
   br (decide (a.toNat<b.length)) (
   (b[a.toNat]?).bind fun x=>
   (fZ (x.length:Int) 4).bind fun d=>
   br (cP (t.length+d.length) 1) (
   (Loop (iP l b a c i k f j e) ((t++d),0)).bind fun h=>
   some (.inl (h.1,(wrap .i64 (a+1))))) none) none) none) (
   some (.inr (t,a,decide (a<3))))
abbrev wd (l:List UInt8) (d:List (List au)) (c f h:Int) (b e a:List au):List (Nat×Blk):=[(1000,⟨6,true,[[I c,I f,I h,sl aA b,sl aA e,sl aA a]]⟩),(2009,⟨1,false,rws eU8 l⟩),(3006,⟨1,false,rws (eL aA) d⟩)]
theorem Od {l a c i j d f b}:LX tab ow (.close [7006,11007,12007,12011]) E5 (jY l a c i j d f b) (fun s=>⟨[(3,S s.1),(4,.sl 3006 0 a.length),(5,I s.2)],wd l a c i j d f b⟩) (fun e=>(.exit 0,⟨[(3,S e.1),(4,.sl 3006 0 a.length),(5,I e.2.1),(28,B e.2.2)],wd l a c i j d f b⟩)):=by
 refine lrX (fun s o h=> ?_)
 obtain ⟨_,_⟩:=s
 simp only [jY] at h
 simp only [wd,E5,EC]
 have d1:= @jd
 have d2:= @OD
 exact go2
def vf (a:bi):Option (List UInt8):=
 br (cP ((([115,121,115,116,101,109]:List UInt8)).length+([(UInt8.ofInt a.Rows),(UInt8.ofInt a.Cols),(UInt8.ofInt a.Publics)]:List UInt8).length) 1) (
 (Loop (jY ([(UInt8.ofInt a.Rows),(UInt8.ofInt a.Cols),(UInt8.ofInt a.Publics)]:List UInt8) ([a.A,a.B,a.C]:List (List au)) a.Rows a.Cols a.Publics a.A a.B a.C) (((([115,121,115,116,101,109]:List UInt8))++([(UInt8.ofInt a.Rows),(UInt8.ofInt a.Cols),(UInt8.ofInt a.Publics)]:List UInt8)),0)).bind fun c=>
 (l8 c.1).bind fun b=>
 some b) none
theorem TP {a r} (h:vf a=some r):Call tab ow 336 [.agg [I a.Rows,I a.Cols,I a.Publics,sl aA a.A,sl aA a.B,sl aA a.C]] []=some (S r,[]):=by
 rw [aj (af:=uw) rfl]
 unfold vf at h
 simp only [uw,uF]
 have d1:= @Od
 have d2:= @rA
 exact go2
end
section
@[local go_sem] theorem b71:mkR 2011 []=rws eU8 []:=rfl
def jC (l:List UInt8) (a:List Int) (c s u:Int) (p t o:List au) (q r v:Int) (n:List Ext) (k:Int) (m:List UInt8) (e f:Int) (j:List UInt8) (h:Int):(List UInt8)×Int->Option (((List UInt8)×Int)⊕(((List UInt8)×Int×Bool)))
 | (b,i)=>
   br (decide (i<(a.length:Int))) (
   (atL a i).bind fun x=>
   (fZ x 4).bind fun d=>
   br (cP (b.length+d.length) 1) (
   some (.inl ((b++d),(wrap .i64 (i+1))))) none) (
   some (.inr (b,i,decide (i<(a.length:Int)))))
abbrev yN (l:List UInt8) (c o q:Int) (k p j:List au) (m n r:Int) (i:List Ext) (f:Int) (h:List UInt8) (a b:Int) (e:List UInt8) (d:Int):List (Nat×Blk):=[(1000,⟨6,true,[[I c,I o,I q,sl aA k,sl aA p,sl aA j]]⟩),(1001,⟨3,true,[[I m,I n,I r]]⟩),(1002,⟨4,true,[[sl eExt i,I f,S h,I a]]⟩),(1003,⟨4,true,[[.lit (.slice none 0 0),I b,S e,I d]]⟩),(2011,⟨1,false,rws eU8 l⟩)]
theorem PW {l a c t v p u n q r w m j k b d i f}:LX tab ow (.close [6005]) Gm (jC l a c t v p u n q r w m j k b d i f) (fun s=>⟨[(2,sl eI a),(7,.ptr 1002 0 0 1),(8,.ptr 1003 0 0 1),(9,S s.1),(10,I s.2)],yN l c t v p u n q r w m j k b d i f⟩) (fun e=>(.exit 0,⟨[(2,sl eI a),(7,.ptr 1002 0 0 1),(8,.ptr 1003 0 0 1),(9,S e.1),(10,I e.2.1),(28,B e.2.2)],yN l c t v p u n q r w m j k b d i f⟩)):=by
 refine lrX (fun s o h=> ?_)
 obtain ⟨_,_⟩:=s
 simp only [jC] at h
 simp only [yN,Gm,Ga]
 have d1:= @jd
 exact go2
def yt (s:bi) (t:Setting) (b:List Int) (a:Source):Option Source:=
 (vf s).bind fun d=>
 br (cP (d.length+([(UInt8.ofInt t.Rate),(UInt8.ofInt t.Queries),(UInt8.ofInt t.Grind)]:List UInt8).length) 1) (
 (Loop (jC ([(UInt8.ofInt t.Rate),(UInt8.ofInt t.Queries),(UInt8.ofInt t.Grind)]:List UInt8) b s.Rows s.Cols s.Publics s.A s.B s.C t.Rate t.Queries t.Grind a.Script a.At a.State a.Count 0 (([]:List UInt8)) 0) ((d++([(UInt8.ofInt t.Rate),(UInt8.ofInt t.Queries),(UInt8.ofInt t.Grind)]:List UInt8)),0)).bind fun e=>
 (kn a e.1).bind fun c=>
 some c) none
theorem XA {s t b a r} (h:yt s t b a=some r):Call tab ow 250 [.agg [I s.Rows,I s.Cols,I s.Publics,sl aA s.A,sl aA s.B,sl aA s.C],.agg [I t.Rate,I t.Queries,I t.Grind],sl eI b,.agg [sl eExt a.Script,I a.At,S a.State,I a.Count]] []=some (.agg [sl eExt r.Script,I r.At,S r.State,I r.Count],[]):=by
 rw [aj (af:=xu) rfl]
 unfold yt at h
 simp only [xu,Dt]
 have d1:= @TP
 have d2:= @PW
 have d3:= @pP
 exact go2
end
section
@[local go_sem] theorem c0w: ∀k,Bi 2001 k [I (0:Int),I (0:Int)]=rws eExt (List.replicate k (Ext.mk (0:Int) (0:Int))):=fun _=>MD eExt (Ext.mk (0:Int) (0:Int)) _ _
def uc (a:List Int):(List Ext)×Int->Option (((List Ext)×Int)⊕(((List Ext)×Int×Bool)))
 | (l,i)=>
   br (decide (i<(a.length:Int))) (
   (atL a i).bind fun x=>
   (s8 x).bind fun b=>
   br (decide (0<=i)) (
   br (decide (i.toNat<l.length)) (
   (l[i.toNat]?).bind fun c=>
   some (.inl ((l.set i.toNat b),(wrap .i64 (i+1))))) none) none) (
   some (.inr (l,i,decide (i<(a.length:Int)))))
theorem TS {a}:LX tab ow (.close [6006]) Ic (uc a) (fun s=>⟨[(0,sl eI a),(5,.sl 2001 0 s.1.length),(6,I s.2)],[(2001,⟨2,false,rws eExt s.1⟩)]⟩) (fun e=>(.exit 0,⟨[(0,sl eI a),(5,.sl 2001 0 e.1.length),(6,I e.2.1),(12,B e.2.2)],[(2001,⟨2,false,rws eExt e.1⟩)]⟩)):=by
 refine lrX (fun s o h=> ?_)
 obtain ⟨_,_⟩:=s
 simp only [uc] at h
 simp only [Ic,Iu]
 have d1:= @xN
 exact go2
def BV (a:List Int) (n:Int):Option (List Ext):=
 br (zf n n 16) (
 (Loop (uc a) ((List.replicate n.toNat (Ext.mk (0:Int) (0:Int))),(0:Int))).bind fun b=>
 some b.1) none
theorem a0v {a n r} (h:BV a n=some r):Call tab ow 251 [sl eI a,I n] []=some (sl eExt r,[]):=by
 rw [aj (af:=Af) rfl]
 unfold BV at h
 simp only [Af,Gu]
 have d1:= @TS
 exact go2
end
section
@[local go_sem] theorem b3L: ∀k,Bi 3002 k [I (0:Int)]=rws eI (List.replicate k (0:Int)):=fun _=>MD eI (0:Int) _ _
def iK (a b:List Int) (d c k n:Int) (h m f:List au):(List Int)×Int->Option (((List Int)×Int)⊕(((List Int)×Int×Bool)))
 | (l,i)=>
   br (decide (i<(a.length:Int))) (
   (atL a i).bind fun e=>
   br (decide (0<=(wrap .i64 (1+i)))) (
   br (decide ((wrap .i64 (1+i)).toNat<l.length)) (
   (l[(wrap .i64 (1+i)).toNat]?).bind fun j=>
   some (.inl ((l.set ((wrap .i64 (1+i)).toNat) e),(wrap .i64 (i+1))))) none) none) (
   some (.inr (l,i,decide (i<(a.length:Int)))))
abbrev qw (c e f:Int) (b d a:List au) (l:List Int):List (Nat×Blk):=[(1000,⟨6,true,[[I c,I e,I f,sl aA b,sl aA d,sl aA a]]⟩),(3002,⟨1,false,rws eI l⟩)]
theorem Of {b a d c j l i k f}:LX tab ow (.close []) Er (iK b a d c j l i k f) (fun s=>⟨[(1,sl eI b),(2,sl eI a),(7,I d),(8,.sl 3002 0 s.1.length),(9,I s.2)],qw c j l i k f s.1⟩) (fun e=>(.exit 0,⟨[(1,sl eI b),(2,sl eI a),(7,I d),(8,.sl 3002 0 e.1.length),(9,I e.2.1),(24,B e.2.2)],qw c j l i k f e.1⟩)):=by
 refine lrX (fun s o h=> ?_)
 obtain ⟨_,_⟩:=s
 simp only [iK] at h
 simp only [qw,Er,Ew]
 exact go2
def iM (a:List Int) (b l j m:Int) (i f h:List au):(List Int)×Int->Option (((List Int)×Int)⊕(((List Int)×Int×Bool)))
 | (d,c)=>
   br (decide (c<(a.length:Int))) (
   (atL a c).bind fun e=>
   br (decide (0<=(wrap .i64 (b+c)))) (
   br (decide ((wrap .i64 (b+c)).toNat<d.length)) (
   (d[(wrap .i64 (b+c)).toNat]?).bind fun k=>
   some (.inl ((d.set ((wrap .i64 (b+c)).toNat) e),(wrap .i64 (c+1))))) none) none) (
   some (.inr (d,c,decide (c<(a.length:Int)))))
abbrev wi (e d h:Int) (c a b:List au) (f:List Int):List (Nat×Blk):=[(1000,⟨6,true,[[I e,I d,I h,sl aA c,sl aA a,sl aA b]]⟩),(3002,⟨1,false,rws eI f⟩)]
theorem OE {a b i j k f c d}:LX tab ow (.close []) Ez (iM a b i j k f c d) (fun s=>⟨[(2,sl eI a),(7,I b),(8,.sl 3002 0 s.1.length),(10,I s.2)],wi i j k f c d s.1⟩) (fun e=>(.exit 2,⟨[(2,sl eI a),(7,I b),(8,.sl 3002 0 e.1.length),(10,I e.2.1),(38,B e.2.2)],wi i j k f c d e.1⟩)):=by
 refine lrX (fun s o h=> ?_)
 obtain ⟨_,_⟩:=s
 simp only [iM] at h
 simp only [wi,Ez,Ea]
 exact go2
def vI (s:bi) (b a:List Int):Option (List Int):=
 br (decide (0<=(wrap .u64 (wrap .i64 (s.Cols-1))))) (
 br (zf (wrap .i64 (2*(bC .i64 1 (wrap .u64 (wrap .i64 (s.Cols-1)))))) (wrap .i64 (2*(bC .i64 1 (wrap .u64 (wrap .i64 (s.Cols-1)))))) 8) (
 br (decide (0<(List.replicate ((wrap .i64 ((2:Int)*(bC .i64 (1:Int) (wrap .u64 (wrap .i64 (s.Cols-(1:Int))))))).toNat) (0:Int)).length)) (
 ((List.replicate ((wrap .i64 ((2:Int)*(bC .i64 (1:Int) (wrap .u64 (wrap .i64 (s.Cols-(1:Int))))))).toNat) (0:Int))[0]?).bind fun x=>
 (Loop (iK b a (bC .i64 (1:Int) (wrap .u64 (wrap .i64 (s.Cols-(1:Int))))) s.Rows s.Cols s.Publics s.A s.B s.C) (((List.replicate ((wrap .i64 ((2:Int)*(bC .i64 (1:Int) (wrap .u64 (wrap .i64 (s.Cols-(1:Int))))))).toNat) (0:Int)).set 0 (1:Int)),(0:Int))).bind fun d=>
 (Loop (iM a (bC .i64 1 (wrap .u64 (wrap .i64 (s.Cols-1)))) s.Rows s.Cols s.Publics s.A s.B s.C) (d.1,0)).bind fun c=>
 some c.1) none) none) none
theorem V9 {s b a r} (h:vI s b a=some r):Call tab ow 252 [.agg [I s.Rows,I s.Cols,I s.Publics,sl aA s.A,sl aA s.B,sl aA s.C],sl eI b,sl eI a] []=some (sl eI r,[]):=by
 rw [aj (af:=u3) rfl]
 unfold vI at h
 simp only [u3,uT]
 have d1:= @Of
 simp only [qw] at d1
 have d2:= @OE
 exact go2
end
section
@[local go_sem] theorem b6S: ∀k,Bi 2004 k [I (0:Int),I (0:Int)]=rws eExt (List.replicate k (Ext.mk (0:Int) (0:Int))):=fun _=>MD eExt (Ext.mk (0:Int) (0:Int)) _ _
@[local go_sem] theorem b76:mkR 4006 []=rws (eL aA) []:=rfl
def fE (e:List (List au)) (m q:List Ext) (b t u w:Int) (l o n:List au):(List Ext)×Int->Option (((List Ext)×Int)⊕(((List Ext)×Int×Bool)))
 | (c,d)=>
   br (decide (0<=b)) (
   br (decide (b.toNat<e.length)) (
   (e[b.toNat]?).bind fun x=>
   br (decide (d<(x.length:Int))) (
   br (decide (0<=b)) (
   br (decide (b.toNat<e.length)) (
   (e[b.toNat]?).bind fun p=>
   (atL p d).bind fun a=>
   br (decide (0<=a.Col)) (
   br (decide (a.Col.toNat<c.length)) (
   (c[a.Col.toNat]?).bind fun r=>
   (atL m b).bind fun k=>
   (s8 a.Value).bind fun j=>
   (atL q a.Row).bind fun s=>
   (dD j s).bind fun i=>
   (dD k i).bind fun f=>
   (iS r f).bind fun h=>
   br (decide (0<=a.Col)) (
   br (decide (a.Col.toNat<c.length)) (
   (c[a.Col.toNat]?).bind fun v=>
   some (.inl ((c.set a.Col.toNat h),(wrap .i64 (d+1))))) none) none) none) none) none) none) (
   some (.inr (c,d,decide (d<(x.length:Int)))))) none) none
abbrev yw (d:List (List au)) (h e i:Int) (c a b:List au) (f:List Ext):List (Nat×Blk):=[(1000,⟨6,true,[[I h,I e,I i,sl aA c,sl aA a,sl aA b]]⟩),(2004,⟨2,false,rws eExt f⟩),(4006,⟨1,false,rws (eL aA) d⟩)]
theorem Sq {d m f i j k l c a b}:LX tab ow (.close [11007,12014,12020,12021,12022]) F6 (fE d m f i j k l c a b) (fun s=>⟨[(2,sl eExt m),(7,.sl 2004 0 s.1.length),(8,sl eExt f),(9,.sl 4006 0 d.length),(10,I i),(11,I s.2)],yw d j k l c a b s.1⟩) (fun e=>(.exit 2,⟨[(2,sl eExt m),(7,.sl 2004 0 e.1.length),(8,sl eExt f),(9,.sl 4006 0 d.length),(10,I i),(11,I e.2.1),(37,B e.2.2)],yw d j k l c a b e.1⟩)):=by
 refine lrX (fun s o h=> ?_)
 obtain ⟨_,_⟩:=s
 simp only [fE] at h
 simp only [yw,F6,Gp]
 have d1:= @xN
 have d2:= @kD
 have d3:= @nH
 exact go2
def lM (f:List (List au)) (t h:List Ext) (c i k:Int) (d j b:List au):(List Ext)×Int->Option (((List Ext)×Int)⊕(((List Ext)×Int×Bool)))
 | (l,a)=>
   br (decide (a<3)) (
   (Loop (fE f t h a c i k d j b) (l,0)).bind fun e=>
   some (.inl (e.1,(wrap .i64 (a+1))))) (
   some (.inr (l,a,decide (a<3))))
abbrev yL (d:List (List au)) (c f h:Int) (b e a:List au) (l:List Ext):List (Nat×Blk):=[(1000,⟨6,true,[[I c,I f,I h,sl aA b,sl aA e,sl aA a]]⟩),(2004,⟨2,false,rws eExt l⟩),(4006,⟨1,false,rws (eL aA) d⟩)]
theorem PT {a t i c f k d j b}:LX tab ow (.close [11007,12014,12020,12021,12022]) Gl (lM a t i c f k d j b) (fun s=>⟨[(2,sl eExt t),(7,.sl 2004 0 s.1.length),(8,sl eExt i),(9,.sl 4006 0 a.length),(10,I s.2)],yL a c f k d j b s.1⟩) (fun e=>(.exit 0,⟨[(2,sl eExt t),(7,.sl 2004 0 e.1.length),(8,sl eExt i),(9,.sl 4006 0 a.length),(10,I e.2.1),(28,B e.2.2)],yL a c f k d j b e.1⟩)):=by
 refine lrX (fun s o h=> ?_)
 obtain ⟨_,_⟩:=s
 simp only [lM] at h
 simp only [yL,Gl,Fq]
 have d1:= @Sq
 exact go2
def yS (b:bi) (a e:List Ext):Option (List Ext):=
 br (decide (0<=(wrap .u64 b.Cols))) (
 br (zf (bC .i64 1 (wrap .u64 b.Cols)) (bC .i64 1 (wrap .u64 b.Cols)) 16) (
 (Hd a).bind fun d=>
 (Loop (lM ([b.A,b.B,b.C]:List (List au)) e d b.Rows b.Cols b.Publics b.A b.B b.C) ((List.replicate ((bC .i64 (1:Int) (wrap .u64 b.Cols)).toNat) (Ext.mk (0:Int) (0:Int))),(0:Int))).bind fun c=>
 some c.1) none) none
theorem Y6 {b a c r} (h:yS b a c=some r):Call tab ow 256 [.agg [I b.Rows,I b.Cols,I b.Publics,sl aA b.A,sl aA b.B,sl aA b.C],sl eExt a,sl eExt c] []=some (sl eExt r,[]):=by
 rw [aj (af:=xy) rfl]
 unfold yS at h
 simp only [xy,xb]
 have d1:= @Vs
 have d2:= @PT
 exact go2
end
def rp (a h:List Ext) (c k:Int):Int×Int×Int->Option ((Int×Int×Int)⊕((Int×Bool×Int×Int)))
 | (i,f,e)=>
   br (decide (i<(a.length:Int))) (
   (atL a i).bind fun x=>
   (atL h i).bind fun j=>
   (dD x j).bind fun d=>
   (iS (Ext.mk f e) d).bind fun b=>
   some (.inl ((wrap .i64 (i+1)),b.A,b.B))) (
   some (.inr (i,decide (i<(a.length:Int)),f,e)))
abbrev GF (c b a d:Int):List (Nat×Blk):=[(1000,⟨2,true,[[I c,I b]]⟩),(3001,⟨2,true,[[I a,I d]]⟩)]
theorem a1N {a d c b}:LX tab ow (.close [7009,7010]) Ni (rp a d c b) (fun s=>⟨[(0,sl eExt a),(4,.ptr 1000 0 0 1),(5,sl eExt d),(6,.ptr 3001 0 0 1),(7,I s.1)],GF c b s.2.1 s.2.2⟩) (fun e=>(.exit 0,⟨[(0,sl eExt a),(4,.ptr 1000 0 0 1),(5,sl eExt d),(6,.ptr 3001 0 0 1),(7,I e.1),(14,B e.2.1)],GF c b e.2.2.1 e.2.2.2⟩)):=by
 refine lrX (fun s o h=> ?_)
 obtain ⟨_,_,_⟩:=s
 simp only [rp] at h
 simp only [GF,Ni,Nr]
 have d1:= @kD
 have d2:= @nH
 exact go2
def Ds (a b:List Ext):Option Ext:=
 (Hd b).bind fun d=>
 (Loop (rp a d 0 0) (0,0,0)).bind fun c=>
 some (Ext.mk c.2.2.1 c.2.2.2)
theorem VQ {a b r} (h:Ds a b=some r):Call tab ow 257 [sl eExt a,sl eExt b] []=some (.agg [I r.A,I r.B],[]):=by
 rw [aj (af:=GW) rfl]
 unfold Ds at h
 simp only [GW,MS]
 have d1:= @Vs
 have d2:= @a1N
 exact go2
def pA (a:List au) (t e:Int):Int->Option ((Int)⊕((Int×Int×Int)⊕(Int×Bool)))
 |b=>
  br (decide (b<(a.length:Int))) (
  (atL a b).bind fun x=>
  br (decide (0<=(wrap .u64 t))) (
  (ez x.Row 0 (wrap .i64 ((bC .i64 1 (wrap .u64 t))-1))).bind fun h=>
  br (!h) (
  some (.inr (.inl (x.Row,x.Col,x.Value)))) (
  br (decide (0<=(wrap .u64 e))) (
  (ez x.Col 0 (wrap .i64 ((bC .i64 1 (wrap .u64 e))-1))).bind fun d=>
  br (!d) (
  some (.inr (.inl (x.Row,x.Col,x.Value)))) (
  (ez x.Value 1 2130706432).bind fun c=>
  br (!c) (
  some (.inr (.inl (x.Row,x.Col,x.Value)))) (
  br (decide (b>0)) (
  (atL a (wrap .i64 (b-1))).bind fun j=>
  br (decide (j.Row>x.Row)) (
  some (.inr (.inl (x.Row,x.Col,x.Value)))) (
  (atL a (wrap .i64 (b-1))).bind fun f=>
  br (f.Row==x.Row) (
  (atL a (wrap .i64 (b-1))).bind fun i=>
  br (decide (i.Col>=x.Col)) (
  some (.inr (.inl (x.Row,x.Col,x.Value)))) (
  some (.inl (wrap .i64 (b+1))))) (
  some (.inl (wrap .i64 (b+1)))))) (
  some (.inl (wrap .i64 (b+1))))))) none)) none) (
  some (.inr (.inr (b,decide (b<(a.length:Int))))))
theorem TH {a t b}:LX tab ow (.close [7004,8006,8015,8021]) HU (pA a t b) (fun s=>⟨[(0,sl aA a),(1,I t),(2,I b),(7,I s)],[]⟩) (alt (fun e=>((.ret,⟨[(6,B false)],[(7004,⟨3,true,[[I e.1,I e.2.1,I e.2.2]]⟩)]⟩):bR×St)) (fun e=>(.exit 0,⟨[(0,sl aA a),(1,I t),(2,I b),(7,I e.1),(15,B e.2)],[]⟩))):=by
 refine lrX (fun s o h=> ?_)
 simp only [pA] at h
 simp only [HU,Io]
 have d1:= @oM
 exact go2
def tv (b:List au) (a c:Int):Option Bool:=
 br (decide ((b.length:Int)>200)) (
 some false) (
 (Loop (pA b a c) 0).bind (alt (fun d=>
 some false) (fun e=>
 some true)))
theorem a0T {b a c r} (h:tv b a c=some r):Call tab ow 338 [sl aA b,I a,I c] []=some (B r,[]):=by
 rw [aj (af:=Ac) rfl]
 unfold tv at h
 simp only [Ac,GK]
 have d1:= @TH
 exact go2
def tq (s:bi):Option Bool:=
 (ez s.Rows 1 5).bind fun f=>
 br f (
 (ez s.Cols 2 5).bind fun e=>
 br e (
 br (decide (0<=(wrap .u64 (wrap .i64 (s.Cols-1))))) (
 (ez s.Publics 0 (wrap .i64 ((bC .i64 1 (wrap .u64 (wrap .i64 (s.Cols-1))))-1))).bind fun a=>
 br a (
 (tv s.A s.Rows s.Cols).bind fun b=>
 br b (
 (tv s.B s.Rows s.Cols).bind fun c=>
 br c (
 (tv s.C s.Rows s.Cols).bind fun d=>
 some d) (
 some false)) (
 some false)) (
 some false)) none) (
 some false)) (
 some false)
theorem LB {s r} (h:tq s=some r):Call tab ow 261 [.agg [I s.Rows,I s.Cols,I s.Publics,sl aA s.A,sl aA s.B,sl aA s.C]] []=some (B r,[]):=by
 rw [aj (af:=wI) rfl]
 unfold tq at h
 simp only [wI,LQ]
 have d1:= @oM
 have d2:= @a0T
 exact go2
def iN (t:Int) (c:List (List Ext)) (e:List (List UInt8)) (m i l:Int) (h:List Query) (k j n:Int):Int->Option ((Int)⊕(Unit⊕(Int×Bool)))
 |a=>
  br (decide (a<t)) (
  (atL c a).bind fun x=>
  br ((x.length:Int) !=3) (
  some (.inr (.inl ()))) (
  (atL c a).bind fun f=>
  (lF f).bind fun b=>
  br (!b) (
  some (.inr (.inl ()))) (
  br (decide (a>0)) (
  (atL e (wrap .i64 (a-1))).bind fun d=>
  br ((d.length:Int) !=32) (
  some (.inr (.inl ()))) (
  some (.inl (wrap .i64 (a+1))))) (
  some (.inl (wrap .i64 (a+1))))))) (
  some (.inr (.inr (a,decide (a<t)))))
abbrev qd (c:List (List Ext)) (f:List (List UInt8)) (i b h:Int) (a:List Query) (e d j:Int):List (Nat×Blk):=[(1000,⟨6,true,[[sl (eL eExt) c,sl eS f,I i,I b,I h,sl eQuery a]]⟩),(1001,⟨3,true,[[I e,I d,I j]]⟩)]
theorem OP {t c i k b j a f d l}:LX tab ow (.close [7013]) Eh (iN t c i k b j a f d l) (fun s=>⟨[(1,I t),(3,.ptr 1000 0 0 1),(5,.ptr 1001 0 0 1),(7,I s)],qd c i k b j a f d l⟩) (alt (fun e=>((.ret,⟨[(6,B false)],qd c i k b j a f d l⟩):bR×St)) (fun e=>(.exit 0,⟨[(1,I t),(3,.ptr 1000 0 0 1),(5,.ptr 1001 0 0 1),(7,I e.1),(57,B e.2)],qd c i k b j a f d l⟩))):=by
 refine lrX (fun s o h=> ?_)
 simp only [iN] at h
 simp only [qd,Eh,EG]
 have d1:= @rg
 exact go2
def iR (s r b:Int) (l:List (List Ext)) (p:List (List UInt8)) (m q i:Int) (j:List Query) (h f k:Int) (o:List Ext) (c:List (List (List UInt8))):Int->Option ((Int)⊕(Unit⊕(Int×Bool)))
 |a=>
  (atL c b).bind fun d=>
  br (decide (a<(d.length:Int))) (
  (atL c b).bind fun e=>
  (atL e a).bind fun n=>
  br ((n.length:Int) !=32) (
  some (.inr (.inl ()))) (
  some (.inl (wrap .i64 (a+1))))) (
  some (.inr (.inr (a,decide (a<(d.length:Int))))))
abbrev qA (i:List (List Ext)) (k:List (List UInt8)) (h l c:Int) (f:List Query) (b a e:Int) (j:List Ext) (d:List (List (List UInt8))):List (Nat×Blk):=[(1000,⟨6,true,[[sl (eL eExt) i,sl eS k,I h,I l,I c,sl eQuery f]]⟩),(1001,⟨3,true,[[I b,I a,I e]]⟩),(12005,⟨2,true,[[sl eExt j,sl (eL eS) d]]⟩)]
theorem P2 {r q p k m j n c d b a f l i}:LX tab ow (.close []) Bq (iR r q p k m j n c d b a f l i) (fun s=>⟨[(1,I r),(3,.ptr 1000 0 0 1),(5,.ptr 1001 0 0 1),(8,I q),(9,.ptr 12005 0 0 1),(10,I p),(11,I s)],qA k m j n c d b a f l i⟩) (alt (fun e=>((.ret,⟨[(6,B false)],qA k m j n c d b a f l i⟩):bR×St)) (fun e=>(.exit 6,⟨[(1,I r),(3,.ptr 1000 0 0 1),(5,.ptr 1001 0 0 1),(8,I q),(9,.ptr 12005 0 0 1),(10,I p),(11,I e.1),(147,B e.2)],qA k m j n c d b a f l i⟩))):=by
 refine lrX (fun s o h=> ?_)
 simp only [iR] at h
 simp only [qA,Bq,BC]
 exact go2
def iL (d o:Int) (l:List (List Ext)) (n:List (List UInt8)) (k i e:Int) (h:List Query) (b j f:Int) (m:List Ext) (c:List (List (List UInt8))):Int->Option ((Int)⊕(Unit⊕(Int×Bool)))
 |a=>
  br (decide (a<d)) (
  (atL c a).bind fun q=>
  br ((q.length:Int) !=(wrap .i64 ((wrap .i64 ((wrap .i64 (d+b))-1))-a))) (
  some (.inr (.inl ()))) (
  (Loop (iR d o a l n k i e h b j f m c) 0).bind (alt (fun r=>
  some (.inr (.inl ()))) (fun p=>
  some (.inl (wrap .i64 (a+1))))))) (
  some (.inr (.inr (a,decide (a<d)))))
abbrev pR (i:List (List Ext)) (k:List (List UInt8)) (h d a:Int) (c:List Query) (f e b:Int) (j:List Ext) (l:List (List (List UInt8))):List (Nat×Blk):=[(1000,⟨6,true,[[sl (eL eExt) i,sl eS k,I h,I d,I a,sl eQuery c]]⟩),(1001,⟨3,true,[[I f,I e,I b]]⟩),(12005,⟨2,true,[[sl eExt j,sl (eL eS) l]]⟩)]
theorem OO {p q k m j d a c i f b l n}:LX tab ow (.close []) By (iL p q k m j d a c i f b l n) (fun s=>⟨[(1,I p),(3,.ptr 1000 0 0 1),(5,.ptr 1001 0 0 1),(8,I q),(9,.ptr 12005 0 0 1),(10,I s)],pR k m j d a c i f b l n⟩) (alt (fun e=>((.ret,⟨[(6,B false)],pR k m j d a c i f b l n⟩):bR×St)) (fun e=>(.exit 4,⟨[(1,I p),(3,.ptr 1000 0 0 1),(5,.ptr 1001 0 0 1),(8,I q),(9,.ptr 12005 0 0 1),(10,I e.1),(123,B e.2)],pR k m j d a c i f b l n⟩))):=by
 refine lrX (fun s o h=> ?_)
 simp only [iL] at h
 simp only [pR,By,Br]
 have d1:= @P2
 exact go2
def gU (l:Int) (n:List (List Ext)) (j:List (List UInt8)) (m d e:Int) (b:List Query) (f h i:Int):Int->Option ((Int)⊕(((List Ext)×(List (List (List UInt8))))⊕(Int×Bool)))
 |c=>
  br (decide (c<(b.length:Int))) (
  (atL b c).bind fun a=>
  br ((a.Pairs.length:Int) !=(wrap .i64 (2*l))) (
  some (.inr (.inl (a.Pairs,a.Paths)))) (
  (lF a.Pairs).bind fun k=>
  br (!k) (
  some (.inr (.inl (a.Pairs,a.Paths)))) (
  br ((a.Paths.length:Int) !=l) (
  some (.inr (.inl (a.Pairs,a.Paths)))) (
  (Loop (iL l c n j m d e b f h i a.Pairs a.Paths) 0).bind (alt (fun p=>
  some (.inr (.inl (a.Pairs,a.Paths)))) (fun o=>
  some (.inl (wrap .i64 (c+1))))))))) (
  some (.inr (.inr (c,decide (c<(b.length:Int))))))
abbrev ws (j:List (List Ext)) (h:List (List UInt8)) (i a b:Int) (e:List Query) (c d f:Int):List (Nat×Blk):=[(1000,⟨6,true,[[sl (eL eExt) j,sl eS h,I i,I a,I b,sl eQuery e]]⟩),(1001,⟨3,true,[[I c,I d,I f]]⟩)]
theorem OL {m l j k a b f c d i}:LX tab ow (.close [12005,13009]) Eo (gU m l j k a b f c d i) (fun s=>⟨[(1,I m),(3,.ptr 1000 0 0 1),(5,.ptr 1001 0 0 1),(8,I s)],ws l j k a b f c d i⟩) (alt (fun e=>((.ret,⟨[(6,B false)],[(1000,⟨6,true,[[sl (eL eExt) l,sl eS j,I k,I a,I b,sl eQuery f]]⟩),(1001,⟨3,true,[[I c,I d,I i]]⟩),(12005,⟨2,true,[[sl eExt e.1,sl (eL eS) e.2]]⟩)]⟩):bR×St)) (fun e=>(.exit 2,⟨[(1,I m),(3,.ptr 1000 0 0 1),(5,.ptr 1001 0 0 1),(8,I e.1),(94,B e.2)],ws l j k a b f c d i⟩))):=by
 refine lrX (fun s o h=> ?_)
 simp only [gU] at h
 simp only [ws,Eo,Ej]
 have d1:= @rg
 have d2:= @OO
 exact go2
def vO (b:Opening) (a:Int) (c:Setting):Option Bool:=
 (ez a 1 6).bind fun j=>
 br (!j) (
 some false) (
 (nJ c).bind fun f=>
 br (!f) (
 some false) (
 br ((b.Rounds.length:Int) !=a) (
 some false) (
 br ((b.Roots.length:Int) !=(wrap .i64 (a-1))) (
 some false) (
 br ((b.Queries.length:Int) !=c.Queries) (
 some false) (
 (Dv b.Last).bind fun d=>
 br (!d) (
 some false) (
 (ez b.Nonce 0 65535).bind fun e=>
 br (!e) (
 some false) (
 (Loop (iN a b.Rounds b.Roots b.Last.A b.Last.B b.Nonce b.Queries c.Rate c.Queries c.Grind) 0).bind (alt (fun k=>
 some false) (fun l=>
 (Loop (gU a b.Rounds b.Roots b.Last.A b.Last.B b.Nonce b.Queries c.Rate c.Queries c.Grind) 0).bind (alt (fun i=>
 some false) (fun h=>
 some true)))))))))))
theorem TE {b a c r} (h:vO b a c=some r):Call tab ow 34 [.agg [sl (eL eExt) b.Rounds,sl eS b.Roots,I b.Last.A,I b.Last.B,I b.Nonce,sl eQuery b.Queries],I a,.agg [I c.Rate,I c.Queries,I c.Grind]] []=some (B r,[]):=by
 rw [aj (af:=uL) rfl]
 unfold vO at h
 simp only [uL,mS]
 have d1:= @oM
 have d2:= @AJ
 have d3:= @Vh
 have d4:= @OP
 have d5:= @OL
 exact go2
end
end Go.AI.Fn
