/- Walks through the program, with open values. -/
import Derived.Test.YtdnkignjanfikaaGreatFx2
set_option linter.unusedVariables false
set_option linter.unusedSimpArgs false
set_option maxRecDepth 100000
set_option maxHeartbeats 1000000
namespace Go.AI.Fn
noncomputable section
open IntKind (wrap)
section
theorem XS:mkR 2039 []=rws eExt []:=rfl
attribute [local go_sem] XS
def uQ (l:List Ext) (c:List UInt8) (a:List (List Ext)) (c3 c4 c5 c6 c7 z:Int) (c9:List (List Ext)) (s w:Int) (e:List (List Ext)) (d:List (List UInt8)) (f j o:Int) (p:List Query) (n i k:Int) (y q r:List au) (h v u:Int):Int->Option ((Int)⊕(Unit⊕(Int×Bool)))
 |t=>
  br (decide (t<((a.length:Nat):Int))) (
  (atL a t).bind fun x=>
  br (((x.length:Nat):Int) !=4) (
  some (.inr (.inl ()))) (
  (atL a t).bind fun m=>
  (lX m).bind fun b=>
  br (!b) (
  some (.inr (.inl ()))) (
  some (.inl (wrap .i64 (t+1)))))) (
  some (.inr (.inr (t,decide (t<((a.length:Nat):Int))))))
abbrev uD (l:List Ext) (c:List UInt8) (x:List (List Ext)) (c3 c4 w v z u:Int) (y:List (List Ext)) (p s:Int) (b:List (List Ext)) (a:List (List UInt8)) (d h k:Int) (m:List Query) (j f i:Int) (t n o:List au) (e r q:Int):List (Nat×Blk):=[(1000,⟨17,true,[[S c,sl (eL eExt) x,I c3,I c4,I w,I v,I z,I u,sl (eL eExt) y,I p,I s,sl (eL eExt) b,sl eS a,I d,I h,I k,sl eQuery m]]⟩),(1001,⟨6,true,[[I j,I f,I i,sl aA t,sl aA n,sl aA o]]⟩),(1002,⟨3,true,[[I e,I r,I q]]⟩),(2039,⟨2,false,rws eExt l⟩)]
theorem UF {l c c2 c3 c4 c5 z c7 y c9 t w b a d j n p m i k x q r f v u}:LX tab ow (.close [7013]) Jb (uQ l c c2 c3 c4 c5 z c7 y c9 t w b a d j n p m i k x q r f v u) (fun s=>⟨[(3,.ptr 1000 0 0 1),(4,.ptr 1001 0 0 1),(5,.ptr 1002 0 0 1),(7,I s)],uD l c c2 c3 c4 c5 z c7 y c9 t w b a d j n p m i k x q r f v u⟩) (alt (fun e=>((.ret,⟨[(6,B false)],uD l c c2 c3 c4 c5 z c7 y c9 t w b a d j n p m i k x q r f v u⟩):bT×St)) (fun e=>(.exit 0,⟨[(3,.ptr 1000 0 0 1),(4,.ptr 1001 0 0 1),(5,.ptr 1002 0 0 1),(7,I e.1),(56,B e.2)],uD l c c2 c3 c4 c5 z c7 y c9 t w b a d j n p m i k x q r f v u⟩))):=by
 refine lrX (fun s o h=> ?_)
 simp only [uQ] at h
 simp only [uD,Jb,Jp]
 have d1:= @rK
 exact go2
def uI (l2:List Ext) (w:List UInt8) (j:List (List Ext)) (t n c31 r y u:Int) (a:List (List Ext)) (s p:Int) (q:List (List Ext)) (i:List (List UInt8)) (d l h:Int) (f:List Query) (k c45 c46:Int) (e m z:List au) (v c51 o:Int):Int->Option ((Int)⊕(Unit⊕(Int×Bool)))
 |b=>
  br (decide (b<((a.length:Nat):Int))) (
  (atL a b).bind fun x3=>
  br (((x3.length:Nat):Int) !=3) (
  some (.inr (.inl ()))) (
  (atL a b).bind fun x=>
  (lX x).bind fun c=>
  br (!c) (
  some (.inr (.inl ()))) (
  some (.inl (wrap .i64 (b+1)))))) (
  some (.inr (.inr (b,decide (b<((a.length:Nat):Int))))))
abbrev v8 (l2:List Ext) (t:List UInt8) (f:List (List Ext)) (q k x o v r:Int) (u:List (List Ext)) (p m:Int) (n:List (List Ext)) (e:List (List UInt8)) (a i d:Int) (c:List Query) (h z y:Int) (b j w:List au) (s c51 l:Int):List (Nat×Blk):=[(1000,⟨17,true,[[S t,sl (eL eExt) f,I q,I k,I x,I o,I v,I r,sl (eL eExt) u,I p,I m,sl (eL eExt) n,sl eS e,I a,I i,I d,sl eQuery c]]⟩),(1001,⟨6,true,[[I h,I z,I y,sl aA b,sl aA j,sl aA w]]⟩),(1002,⟨3,true,[[I s,I c51,I l]]⟩),(2039,⟨2,false,rws eExt l2⟩)]
theorem W6 {l2 x i u m c31 r z v y t p q f a k d c j c45 c46 b l c49 w c51 n}:LX tab ow (.close [12013]) JB (uI l2 x i u m c31 r z v y t p q f a k d c j c45 c46 b l c49 w c51 n) (fun s=>⟨[(3,.ptr 1000 0 0 1),(4,.ptr 1001 0 0 1),(5,.ptr 1002 0 0 1),(8,I s)],v8 l2 x i u m c31 r z v y t p q f a k d c j c45 c46 b l c49 w c51 n⟩) (alt (fun e=>((.ret,⟨[(6,B false)],v8 l2 x i u m c31 r z v y t p q f a k d c j c45 c46 b l c49 w c51 n⟩):bT×St)) (fun e=>(.exit 2,⟨[(3,.ptr 1000 0 0 1),(4,.ptr 1001 0 0 1),(5,.ptr 1002 0 0 1),(8,I e.1),(79,B e.2)],v8 l2 x i u m c31 r z v y t p q f a k d c j c45 c46 b l c49 w c51 n⟩))):=by
 refine lrX (fun s o h=> ?_)
 simp only [uI] at h
 simp only [v8,JB,Jl]
 have d1:= @rK
 exact go2
def CD (b:Proof) (a:bk) (c:Setting):Option (Bool):=
 (ua a).bind fun j=>
 br (!j) (
 some false) (
 (ov c).bind fun e=>
 br (!e) (
 some false) (
 br (((b.Root.length:Nat):Int) !=32) (
 some false) (
 br (((b.Gates.length:Nat):Int) !=a.Rows) (
 some false) (
 br (((b.Wires.length:Nat):Int) !=a.Cols) (
 some false) (
 (lX ([b.VA,b.VB,b.VC,b.VW]:List Ext)).bind fun f=>
 br (!f) (
 some false) (
 (Loop (uQ ([b.VA,b.VB,b.VC,b.VW]:List Ext) b.Root b.Gates b.VA.A b.VA.B b.VB.A b.VB.B b.VC.A b.VC.B b.Wires b.VW.A b.VW.B b.Open.Rounds b.Open.Roots b.Open.Last.A b.Open.Last.B b.Open.Nonce b.Open.Queries a.Rows a.Cols a.Publics a.A a.B a.C c.Rate c.Queries c.Grind) 0).bind (alt (fun l=>
 some false) (fun k=>
 (Loop (uI ([b.VA,b.VB,b.VC,b.VW]:List Ext) b.Root b.Gates b.VA.A b.VA.B b.VB.A b.VB.B b.VC.A b.VC.B b.Wires b.VW.A b.VW.B b.Open.Rounds b.Open.Roots b.Open.Last.A b.Open.Last.B b.Open.Nonce b.Open.Queries a.Rows a.Cols a.Publics a.A a.B a.C c.Rate c.Queries c.Grind) 0).bind (alt (fun i=>
 some false) (fun h=>
 (wt b.Open (wrap .i64 (a.Cols-1)) c).bind fun d=>
 some d))))))))))
theorem a2o {b a c r} (h:CD b a c=some r):Call tab ow 140 [.agg [S b.Root,sl (eL eExt) b.Gates,I b.VA.A,I b.VA.B,I b.VB.A,I b.VB.B,I b.VC.A,I b.VC.B,sl (eL eExt) b.Wires,I b.VW.A,I b.VW.B,sl (eL eExt) b.Open.Rounds,sl eS b.Open.Roots,I b.Open.Last.A,I b.Open.Last.B,I b.Open.Nonce,sl eQuery b.Open.Queries],.agg [I a.Rows,I a.Cols,I a.Publics,sl aA a.A,sl aA a.B,sl aA a.C],.agg [I c.Rate,I c.Queries,I c.Grind]] []=some (B r,[]):=by
 rw [aj (af:=A2) rfl]
 unfold CD at h
 simp only [A2,AR]
 have d1:= @LG
 have d2:= @By
 have d3:= @rK
 have d4:= @UF
 have d5:= @W6
 have d6:= @Wl
 exact go2
end
def Gl (s:bk) (t:Setting) (a:(List Int)) (b:Source):Option (Int):=
 br (decide (((a.length:Nat):Int)>4096)) (
 some 2) (
 (ua s).bind fun h=>
 br (!h) (
 some 1) (
 (ov t).bind fun d=>
 br (!d) (
 some 1) (
 (wB a).bind fun f=>
 br (!f) (
 some 1) (
 (yv b).bind fun e=>
 br (!e) (
 some 1) (
 br (((a.length:Nat):Int) !=s.Publics) (
 some 17) (
 (E7 b 200).bind fun c=>
 br c (
 some 6) (
 some 0)))))))
theorem a5K {s t b a r} (h:Gl s t b a=some r):Call tab ow 142 [.agg [I s.Rows,I s.Cols,I s.Publics,sl aA s.A,sl aA s.B,sl aA s.C],.agg [I t.Rate,I t.Queries,I t.Grind],sl eI b,.agg [sl eExt a.Script,I a.At,S a.State,I a.Count]] []=some (I r,[]):=by
 rw [aj (af:=D2) rfl]
 unfold Gl at h
 simp only [D2,SM]
 have d1:= @LG
 have d2:= @By
 have d3:= @VQ
 have d4:= @XT
 have d5:= @a0U
 exact go2
def kS (a:List Ext) (j q l r m n o:Int):Int×Int×Int×Int->Option ((Int×Int×Int×Int)⊕((Int×Int×Bool×Int×Int)))
 | (d,k,b,c)=>
   br (decide (k<((a.length:Nat):Int))) (
   br (k !=j) (
   (sv k).bind fun p=>
   (vB (Ext.mk q l) p).bind fun h=>
   (dD (Ext.mk b c) h).bind fun e=>
   (zn j k).bind fun i=>
   (lL d i).bind fun f=>
   some (.inl (f,(wrap .i64 (k+1)),e.A,e.B))) (
   some (.inl (d,(wrap .i64 (k+1)),b,c)))) (
   some (.inr (d,k,decide (k<((a.length:Nat):Int)),b,c)))
abbrev Bj (i f h b c d a e:Int):List (Nat×Blk):=[(1000,⟨2,true,[[I i,I f]]⟩),(1001,⟨2,true,[[I h,I b]]⟩),(2001,⟨2,true,[[I c,I d]]⟩),(6004,⟨2,true,[[I a,I e]]⟩)]
theorem W8 {a f k i j b c d}:LX tab ow (.close [12003,12004,12005,13003,13004]) Jf (kS a f k i j b c d) (fun s=>⟨[(0,sl eExt a),(3,.ptr 1000 0 0 1),(4,.ptr 1001 0 0 1),(5,.ptr 2001 0 0 1),(6,I f),(7,.ptr 6004 0 0 1),(8,I s.1),(9,I s.2.1)],Bj k i j b c d s.2.2.1 s.2.2.2⟩) (fun e=>(.exit 2,⟨[(0,sl eExt a),(3,.ptr 1000 0 0 1),(4,.ptr 1001 0 0 1),(5,.ptr 2001 0 0 1),(6,I f),(7,.ptr 6004 0 0 1),(8,I e.1),(9,I e.2.1),(24,B e.2.2.1)],Bj k i j b c d e.2.2.2.1 e.2.2.2.2⟩)):=by
 refine lrX (fun s o h=> ?_)
 obtain ⟨_,_,_,_⟩:=s
 simp only [kS] at h
 simp only [Bj,Jf,Ix]
 have d1:= @yq
 have d2:= @DQ
 have d3:= @kJ
 have d4:= @Qm
 have d5:= @DL
 exact go2
def kQ (a:List Ext) (c m o n:Int):Int×Int×Int->Option ((Int×Int×Int)⊕((Int×Bool×Int×Int)))
 | (i,f,k)=>
   br (decide (i<((a.length:Nat):Int))) (
   (atL a i).bind fun l=>
   (Loop (kS a i c m o n f k) (1,0,l.A,l.B)).bind fun j=>
   (mz j.1).bind fun h=>
   (sv h).bind fun d=>
   (dD (Ext.mk j.2.2.2.1 j.2.2.2.2) d).bind fun e=>
   (j1 (Ext.mk f k) e).bind fun b=>
   some (.inl ((wrap .i64 (i+1)),b.A,b.B))) (
   some (.inr (i,decide (i<((a.length:Nat):Int)),f,k)))
abbrev Bo (c b f d a e:Int):List (Nat×Blk):=[(1000,⟨2,true,[[I c,I b]]⟩),(1001,⟨2,true,[[I f,I d]]⟩),(2001,⟨2,true,[[I a,I e]]⟩)]
theorem W0 {a c f d b}:LX tab ow (.close [6004,12003,12004,12005,13003,13004,14003,14004,14005,14006]) In (kQ a c f d b) (fun s=>⟨[(0,sl eExt a),(3,.ptr 1000 0 0 1),(4,.ptr 1001 0 0 1),(5,.ptr 2001 0 0 1),(6,I s.1)],Bo c f d b s.2.1 s.2.2⟩) (fun e=>(.exit 0,⟨[(0,sl eExt a),(3,.ptr 1000 0 0 1),(4,.ptr 1001 0 0 1),(5,.ptr 2001 0 0 1),(6,I e.1),(14,B e.2.1)],Bo c f d b e.2.2.1 e.2.2.2⟩)):=by
 refine lrX (fun s o h=> ?_)
 obtain ⟨_,_,_⟩:=s
 simp only [kQ] at h
 simp only [Bo,In,IJ]
 have d1:= @W8
 have d2:= @Hi
 have d3:= @yq
 have d4:= @kJ
 have d5:= @oB
 exact go2
def ym (a:(List Ext)) (x:Ext):Option (Ext):=
 (Loop (kQ a x.A x.B 0 0) (0,0,0)).bind fun b=>
 some (Ext.mk b.2.2.1 b.2.2.2)
theorem NQ {a x r} (h:ym a x=some r):Call tab ow 231 [sl eExt a,.agg [I x.A,I x.B]] []=some (.agg [I r.A,I r.B],[]):=by
 rw [aj (af:=Am) rfl]
 unfold ym at h
 simp only [Am,AT]
 have d1:= @W0
 exact go2
section
theorem U9:mkR 3000 []=rws eExt []:=rfl
attribute [local go_sem] U9
theorem RD:mkR 4000 []=rws eExt []:=rfl
attribute [local go_sem] RD
theorem R6:mkR 10000 []=rws eExt []:=rfl
attribute [local go_sem] R6
theorem QW:mkR 17002 []=rws eExt []:=rfl
attribute [local go_sem] QW
theorem Sl:mkR 12000 []=rws eExt []:=rfl
attribute [local go_sem] Sl
def dV (a:Int) (t:List (List Ext)) (o y v w:Int) (q:List UInt8) (s:Int):(List Ext)×Int×Int×Int×(List Ext)×Int×(List UInt8)×Int->Option (((List Ext)×Int×Int×Int×(List Ext)×Int×(List UInt8)×Int)⊕(((List Ext)×(List Ext)×Int×Int×(List Ext)×Int×(List UInt8)×Int×(List Ext)×Int×(List UInt8)×Int)⊕((List Ext)×(List Ext)×Int×Int×(List Ext)×Int×(List UInt8)×Int×(List Ext)×Int×(List UInt8)×Int)⊕((List Ext)×Int×Bool×Int×Int×(List Ext)×Int×(List UInt8)×Int)))
 | (l,i,c,j,h,f,e,d)=>
   br (decide (i<o)) (
   (atL t i).bind fun x=>
   (vV a).bind fun u=>
   br (((x.length:Nat):Int) !=(wrap .i64 (u+1))) (
   some (.inr (.inl (l,([]:List Ext),c,j,h,f,e,d,h,f,e,d)))) (
   (atL x 0).bind fun p=>
   (atL x 1).bind fun r=>
   (j1 p r).bind fun k=>
   br (k.A==c) (
   br (k.B==j) (
   (lF (Source.mk h f e d) x).bind fun n=>
   (rM n).bind fun b=>
   (ym x b.2).bind fun m=>
   br (cP ((l++([b.2]:List Ext)).length) 16) (
   some (.inl ((l++([b.2]:List Ext)),(wrap .i64 (i+1)),m.A,m.B,b.1.Script,b.1.At,b.1.State,b.1.Count))) none) (
   some (.inr (.inr (.inl (l,([]:List Ext),c,j,h,f,e,d,h,f,e,d)))))) (
   some (.inr (.inr (.inl (l,([]:List Ext),c,j,h,f,e,d,h,f,e,d))))))) (
   some (.inr (.inr (.inr (l,i,decide (i<o),c,j,h,f,e,d)))))
abbrev wQ (i d h:Int) (a:List UInt8) (b:Int) (l:List Ext) (c f:Int) (m:List Ext) (j:Int) (e:List UInt8) (k:Int):List (Nat×Blk):=[(1000,⟨2,true,[[I c,I f]]⟩),(1001,⟨4,true,[[sl eExt m,I j,S e,I k]]⟩),(1003,⟨2,true,[[I i,I d]]⟩),(1004,⟨4,true,[[.lit (.slice none 0 0),I h,S a,I b]]⟩),(4000,⟨2,false,rws eExt l⟩)]
theorem PV {a t i j d f b c}:LX tab ow (.close [9003,10000,11006,12000,13002,14001,14005,14006,16002,17002,17003]) EC (dV a t i j d f b c) (fun s=>⟨[(0,I a),(2,sl (eL eExt) t),(3,I i),(6,.ptr 1000 0 0 1),(9,.ptr 1001 0 0 1),(11,.ptr 1003 0 0 1),(12,.ptr 1004 0 0 1),(14,.sl 4000 0 s.1.length),(15,I s.2.1)],wQ j d f b c s.1 s.2.2.1 s.2.2.2.1 s.2.2.2.2.1 s.2.2.2.2.2.1 s.2.2.2.2.2.2.1 s.2.2.2.2.2.2.2⟩) (alt (fun e=>((.ret,⟨[(10,.sl 10000 0 e.2.1.length),(11,.ptr 1003 0 0 1),(12,.ptr 1004 0 0 1),(13,I 18)],[(1000,⟨2,true,[[I e.2.2.1,I e.2.2.2.1]]⟩),(1001,⟨4,true,[[sl eExt e.2.2.2.2.1,I e.2.2.2.2.2.1,S e.2.2.2.2.2.2.1,I e.2.2.2.2.2.2.2.1]]⟩),(1003,⟨2,true,[[I 0,I 0]]⟩),(1004,⟨4,true,[[sl eExt e.2.2.2.2.2.2.2.2.1,I e.2.2.2.2.2.2.2.2.2.1,S e.2.2.2.2.2.2.2.2.2.2.1,I e.2.2.2.2.2.2.2.2.2.2.2]]⟩),(4000,⟨2,false,rws eExt e.1⟩),(10000,⟨2,false,rws eExt e.2.1⟩)]⟩):bT×St)) (alt (fun e=>((.ret,⟨[(10,.sl 12000 0 e.2.1.length),(11,.ptr 1003 0 0 1),(12,.ptr 1004 0 0 1),(13,I 10)],[(1000,⟨2,true,[[I e.2.2.1,I e.2.2.2.1]]⟩),(1001,⟨4,true,[[sl eExt e.2.2.2.2.1,I e.2.2.2.2.2.1,S e.2.2.2.2.2.2.1,I e.2.2.2.2.2.2.2.1]]⟩),(1003,⟨2,true,[[I 0,I 0]]⟩),(1004,⟨4,true,[[sl eExt e.2.2.2.2.2.2.2.2.1,I e.2.2.2.2.2.2.2.2.2.1,S e.2.2.2.2.2.2.2.2.2.2.1,I e.2.2.2.2.2.2.2.2.2.2.2]]⟩),(4000,⟨2,false,rws eExt e.1⟩),(12000,⟨2,false,rws eExt e.2.1⟩)]⟩):bT×St)) (fun e=>(.exit 0,⟨[(0,I a),(2,sl (eL eExt) t),(3,I i),(6,.ptr 1000 0 0 1),(9,.ptr 1001 0 0 1),(11,.ptr 1003 0 0 1),(12,.ptr 1004 0 0 1),(14,.sl 4000 0 e.1.length),(15,I e.2.1),(29,B e.2.2.1)],wQ j d f b c e.1 e.2.2.2.1 e.2.2.2.2.1 e.2.2.2.2.2.1 e.2.2.2.2.2.2.1 e.2.2.2.2.2.2.2.1 e.2.2.2.2.2.2.2.2⟩)))):=by
 refine lrX (fun s o h=> ?_)
 obtain ⟨_,_,_,_,_,_,_,_⟩:=s
 simp only [dV] at h
 simp only [wQ,EC,EF]
 have d1:= @V2
 have d2:= @oB
 have d3:= @zO
 have d4:= @G5
 have d5:= @NQ
 exact go2
def mh (b:Int) (a:Ext) (i:(List (List Ext))) (h:Int) (f:Source):Option ((List Ext)×Ext×Source×Int):=
 br (((i.length:Nat):Int) !=h) (
 some (([]:List Ext),(Ext.mk 0 0),f,18)) (
 (Loop (dV b i h 0 0 0 (([]:List UInt8)) 0) (([]:List Ext),0,a.A,a.B,f.Script,f.At,f.State,f.Count)).bind (alt (fun e=>
 some (e.2.1,(Ext.mk 0 0),(Source.mk e.2.2.2.2.2.2.2.2.1 e.2.2.2.2.2.2.2.2.2.1 e.2.2.2.2.2.2.2.2.2.2.1 e.2.2.2.2.2.2.2.2.2.2.2),18)) (alt (fun d=>
 some (d.2.1,(Ext.mk 0 0),(Source.mk d.2.2.2.2.2.2.2.2.1 d.2.2.2.2.2.2.2.2.2.1 d.2.2.2.2.2.2.2.2.2.2.1 d.2.2.2.2.2.2.2.2.2.2.2),10)) (fun c=>
 some (c.1,(Ext.mk c.2.2.2.1 c.2.2.2.2.1),(Source.mk c.2.2.2.2.2.1 c.2.2.2.2.2.2.1 c.2.2.2.2.2.2.2.1 c.2.2.2.2.2.2.2.2),0)))))
theorem Wg {b a d e c r} (h:mh b a d e c=some r):Call tab ow 268 [I b,.agg [I a.A,I a.B],sl (eL eExt) d,I e,.agg [sl eExt c.Script,I c.At,S c.State,I c.Count]] []=some (.tup [sl eExt r.1,.agg [I r.2.1.A,I r.2.1.B],.agg [sl eExt r.2.2.1.Script,I r.2.2.1.At,S r.2.2.1.State,I r.2.2.1.Count],I r.2.2.2],[]):=by
 rw [aj (af:=v6) rfl]
 unfold mh at h
 simp only [v6,B5]
 have d1:= @PV
 exact go2
end
def kI (b k:List Ext) (c q:Int):Int×Int×Int->Option ((Int×Int×Int)⊕((Int×Bool×Int×Int)))
 | (i,m,l)=>
   br (decide (i<((b.length:Nat):Int))) (
   (atL b i).bind fun x=>
   (atL k i).bind fun n=>
   (dD x n).bind fun h=>
   (atL b i).bind fun p=>
   (p6 p).bind fun f=>
   (atL k i).bind fun o=>
   (p6 o).bind fun j=>
   (dD f j).bind fun d=>
   (j1 h d).bind fun e=>
   (dD (Ext.mk m l) e).bind fun a=>
   some (.inl ((wrap .i64 (i+1)),a.A,a.B))) (
   some (.inr (i,decide (i<((b.length:Nat):Int)),m,l)))
abbrev B8 (c d b a:Int):List (Nat×Blk):=[(1000,⟨2,true,[[I c,I d]]⟩),(2001,⟨2,true,[[I b,I a]]⟩)]
theorem Wf {b d c a}:LX tab ow (.close [6009,6014,6019,6020,6021,6022]) Im (kI b d c a) (fun s=>⟨[(0,sl eExt b),(1,sl eExt d),(4,.ptr 1000 0 0 1),(5,.ptr 2001 0 0 1),(6,I s.1)],B8 c a s.2.1 s.2.2⟩) (fun e=>(.exit 0,⟨[(0,sl eExt b),(1,sl eExt d),(4,.ptr 1000 0 0 1),(5,.ptr 2001 0 0 1),(6,I e.1),(11,B e.2.1)],B8 c a e.2.2.1 e.2.2.2⟩)):=by
 refine lrX (fun s o h=> ?_)
 obtain ⟨_,_,_⟩:=s
 simp only [kI] at h
 simp only [B8,Im,J5]
 have d1:= @kJ
 have d2:= @Gb
 have d3:= @oB
 exact go2
def uc (a b:(List Ext)):Option (Ext):=
 (BU).bind fun c=>
 (Loop (kI a b 0 0) (0,c.A,c.B)).bind fun d=>
 some (Ext.mk d.2.2.1 d.2.2.2)
theorem OD {a b r} (h:uc a b=some r):Call tab ow 233 [sl eExt a,sl eExt b] []=some (.agg [I r.A,I r.B],[]):=by
 rw [aj (af:=AB) rfl]
 unfold uc at h
 simp only [AB,Gg]
 have d1:= @Kf
 have d2:= @Wf
 exact go2
section
theorem Ut:mkR 2002 []=rws eI []:=rfl
attribute [local go_sem] Ut
def wv (s:bk) (a:(List Int)) (b:(List Ext)):Option (Ext):=
 (wu s a ([]:List Int)).bind fun e=>
 br (decide (0<=(wrap .u64 (wrap .i64 (s.Cols-1))))) (
 (lh e 0 (bG .i64 1 (wrap .u64 (wrap .i64 (s.Cols-1))))).bind fun y=>
 br (decide (0<=(wrap .u64 (wrap .i64 (s.Cols-1))))) (
 (BK y (bG .i64 1 (wrap .u64 (wrap .i64 (s.Cols-1))))).bind fun c=>
 (DW c b).bind fun d=>
 some d) none) none
theorem UJ {s a b r} (h:wv s a b=some r):Call tab ow 271 [.agg [I s.Rows,I s.Cols,I s.Publics,sl aA s.A,sl aA s.B,sl aA s.C],sl eI a,sl eExt b] []=some (.agg [I r.A,I r.B],[]):=by
 rw [aj (af:=uN) rfl]
 unfold wv at h
 simp only [uN,IG]
 have d1:= @UQ
 have d2:= @a3A
 have d3:= @WQ
 exact go2
end
section
theorem a6W:mkR 2002 []=rws eS []:=rfl
attribute [local go_sem] a6W
theorem a72:mkR 10002 []=rws eS []:=rfl
attribute [local go_sem] a72
def ox (a:List (List UInt8)):(List (List UInt8))×Int×(List UInt8)×Int->Option (((List (List UInt8))×Int×(List UInt8)×Int)⊕(((List (List UInt8))×Int×(List UInt8)×Int×Bool)))
 | (l,d,b,k)=>
   br (decide (k<((a.length:Nat):Int))) (
   br (cP ((([1]:List UInt8)).length+b.length) 1) (
   (atL a k).bind fun x=>
   br (cP (((([1]:List UInt8))++b).length+x.length) 1) (
   br ((d.tmod 2)==1) (
   (atL a k).bind fun c=>
   br (cP ((([1]:List UInt8)).length+c.length) 1) (
   br (cP (((([1]:List UInt8))++c).length+b.length) 1) (
   br (cP ((l++([(((([1]:List UInt8))++c)++b)]:List (List UInt8))).length) 16) (
   (lx (((([1]:List UInt8))++c)++b)).bind fun f=>
   some (.inl ((l++([(((([1]:List UInt8))++c)++b)]:List (List UInt8))),(wrap .i64 (d.tdiv 2)),f,(wrap .i64 (k+1))))) none) none) none) (
   br (cP ((l++([(((([1]:List UInt8))++b)++x)]:List (List UInt8))).length) 16) (
   (lx (((([1]:List UInt8))++b)++x)).bind fun e=>
   some (.inl ((l++([(((([1]:List UInt8))++b)++x)]:List (List UInt8))),(wrap .i64 (d.tdiv 2)),e,(wrap .i64 (k+1))))) none)) none) none) (
   some (.inr (l,d,b,k,decide (k<((a.length:Nat):Int)))))
theorem a31 {a}:LX tab ow (.close [10002,10003,11001]) Od (ox a) (fun s=>⟨[(0,I s.2.1),(2,sl eS a),(8,.sl 2002 0 s.1.length),(9,S s.2.2.1),(10,I s.2.2.2)],[(2002,⟨1,false,rws eS s.1⟩)]⟩) (fun e=>(.exit 0,⟨[(0,I e.2.1),(2,sl eS a),(8,.sl 2002 0 e.1.length),(9,S e.2.2.1),(10,I e.2.2.2.1),(20,B e.2.2.2.2)],[(2002,⟨1,false,rws eS e.1⟩)]⟩)):=by
 refine lrX (fun s o h=> ?_)
 obtain ⟨_,_,_,_⟩:=s
 simp only [ox] at h
 simp only [Od,OL]
 have d1:= @rT
 exact go2
def LD (i:Int) (a:(List UInt8)) (b:(List (List UInt8))):Option ((List (List UInt8))×(List UInt8)):=
 br (cP ((([0]:List UInt8)).length+a.length) 1) (
 (Cr a).bind fun d=>
 (Loop (ox b) (([((([0]:List UInt8))++a)]:List (List UInt8)),i,d,0)).bind fun c=>
 some (c.1,c.2.2.1)) none
theorem a9a {i b a r} (h:LD i b a=some r):Call tab ow 372 [I i,S b,sl eS a] []=some (.tup [sl eS r.1,S r.2],[]):=by
 rw [aj (af:=Hp) rfl]
 unfold LD at h
 simp only [Hp,Na]
 have d1:= @a2L
 have d2:= @a31
 exact go2
end
def jF (c:List UInt8) (d:Int) (b:List UInt8) (a:List (List UInt8)):Int->Option ((Int)⊕(Unit⊕(Int×Bool)))
 |k=>
  br (decide (k<((a.length:Nat):Int))) (
  (atL a k).bind fun x=>
  br (((x.length:Nat):Int) !=32) (
  some (.inr (.inl ()))) (
  some (.inl (wrap .i64 (k+1))))) (
  some (.inr (.inr (k,decide (k<((a.length:Nat):Int))))))
theorem To {c d a b}:LX tab ow (.close []) G1 (jF c d a b) (fun s=>⟨[(0,S c),(2,I d),(3,S a),(4,sl eS b),(11,I s)],[]⟩) (alt (fun e=>((.ret,⟨[(10,B false)],[]⟩):bT×St)) (fun e=>(.exit 0,⟨[(0,S c),(2,I d),(3,S a),(4,sl eS b),(11,I e.1),(29,B e.2)],[]⟩))):=by
 refine lrX (fun s o h=> ?_)
 simp only [jF] at h
 simp only [G1,FU]
 exact go2
def uh (c:(List UInt8)) (n i:Int) (b:(List UInt8)) (a:(List (List UInt8))):Option (Bool):=
 br (decide (((b.length:Nat):Int)>64)) (
 some false) (
 br (decide (0<=(wrap .u64 (mn 20 ((a.length:Nat):Int))))) (
 br (n !=(bG .i64 1 (wrap .u64 (mn 20 ((a.length:Nat):Int))))) (
 some false) (
 (Loop (jF c i b a) 0).bind (alt (fun f=>
 some false) (fun e=>
 (LD i b a).bind fun d=>
 some (d.2==c))))) none)
theorem a0o {c n i a b r} (h:uh c n i a b=some r):Call tab ow 331 [S c,I n,I i,S a,sl eS b] []=some (B r,[]):=by
 rw [aj (af:=y0) rfl]
 unfold uh at h
 simp only [y0,Dd]
 have d1:= @To
 have d2:= @a9a
 exact go2
section
theorem Wi:mkR 11008 []=rws eExt []:=rfl
attribute [local go_sem] Wi
def jH (e:List (List UInt8)) (t:Int) (l:List Ext) (c:List (List Ext)) (c2:List (List UInt8)) (c3 c4 c5:Int) (c6:List Query) (q:List Ext) (r:List (List (List UInt8))):Int×Int×Int×Int×Int->Option ((Int×Int×Int×Int×Int)⊕((Int×Int×Int×Int×Int×Int×Int)⊕(Int×Int×Int×Bool×Int×Int)))
 | (a,h,f,i,d)=>
   br (decide (f<t)) (
   br (decide ((wrap .i64 (a.tdiv 2))≠0)) (
   (atL q (wrap .i64 (2*f))).bind fun x=>
   (atL q (wrap .i64 ((wrap .i64 (2*f))+1))).bind fun b=>
   (atL e f).bind fun z=>
   (u5 ([x,b]:List Ext)).bind fun r_=>
   (atL r f).bind fun y=>
   (uh z (wrap .i64 (a.tdiv 2)) (h.tmod (wrap .i64 (a.tdiv 2))) r_ y).bind fun p=>
   br (!p) (
   some (.inr (.inl (9,i,d,x.A,x.B,b.A,b.B)))) (
   br (decide (f>0)) (
   br (decide (h<(wrap .i64 (a.tdiv 2)))) (
   br (x.A==i) (
   br (x.B==d) (
   br (!decide (h<(wrap .i64 (a.tdiv 2)))) (
   br (b.A==i) (
   br (b.B==d) (
   (atL l f).bind fun u=>
   (pc a (h.tmod (wrap .i64 (a.tdiv 2))) x b u).bind fun k=>
   some (.inl ((wrap .i64 (a.tdiv 2)),(h.tmod (wrap .i64 (a.tdiv 2))),(wrap .i64 (f+1)),k.A,k.B))) (
   some (.inr (.inl (12,i,d,x.A,x.B,b.A,b.B))))) (
   some (.inr (.inl (12,i,d,x.A,x.B,b.A,b.B))))) (
   (atL l f).bind fun s=>
   (pc a (h.tmod (wrap .i64 (a.tdiv 2))) x b s).bind fun j=>
   some (.inl ((wrap .i64 (a.tdiv 2)),(h.tmod (wrap .i64 (a.tdiv 2))),(wrap .i64 (f+1)),j.A,j.B)))) (
   some (.inr (.inl (12,i,d,x.A,x.B,b.A,b.B))))) (
   some (.inr (.inl (12,i,d,x.A,x.B,b.A,b.B))))) (
   br (!decide (h<(wrap .i64 (a.tdiv 2)))) (
   br (b.A==i) (
   br (b.B==d) (
   (atL l f).bind fun w=>
   (pc a (h.tmod (wrap .i64 (a.tdiv 2))) x b w).bind fun m=>
   some (.inl ((wrap .i64 (a.tdiv 2)),(h.tmod (wrap .i64 (a.tdiv 2))),(wrap .i64 (f+1)),m.A,m.B))) (
   some (.inr (.inl (12,i,d,x.A,x.B,b.A,b.B))))) (
   some (.inr (.inl (12,i,d,x.A,x.B,b.A,b.B))))) (
   (atL l f).bind fun x8=>
   (pc a (h.tmod (wrap .i64 (a.tdiv 2))) x b x8).bind fun o=>
   some (.inl ((wrap .i64 (a.tdiv 2)),(h.tmod (wrap .i64 (a.tdiv 2))),(wrap .i64 (f+1)),o.A,o.B))))) (
   (atL l f).bind fun v=>
   (pc a (h.tmod (wrap .i64 (a.tdiv 2))) x b v).bind fun n=>
   some (.inl ((wrap .i64 (a.tdiv 2)),(h.tmod (wrap .i64 (a.tdiv 2))),(wrap .i64 (f+1)),n.A,n.B))))) none) (
   some (.inr (.inr (a,h,f,decide (f<t),i,d))))
abbrev zq (c:List (List Ext)) (e:List (List UInt8)) (k i d:Int) (j:List Query) (h:List Ext) (b:List (List (List UInt8))) (f a:Int):List (Nat×Blk):=[(1000,⟨6,true,[[sl (eL eExt) c,sl eS e,I k,I i,I d,sl eQuery j]]⟩),(1001,⟨2,true,[[sl eExt h,sl (eL eS) b]]⟩),(2001,⟨2,true,[[I f,I a]]⟩)]
theorem Sw {a t m c f l j d k i b}:LX tab ow (.close [9006,10007,11008,11009,11016,15008]) G0 (jH a t m c f l j d k i b) (fun s=>⟨[(0,sl eS a),(1,I t),(2,I s.1),(3,I s.2.1),(4,sl eExt m),(12,.ptr 1000 0 0 1),(13,.ptr 1001 0 0 1),(15,.ptr 2001 0 0 1),(16,I s.2.2.1)],zq c f l j d k i b s.2.2.2.1 s.2.2.2.2⟩) (alt (fun e=>((.ret,⟨[(14,I e.1)],[(1000,⟨6,true,[[sl (eL eExt) c,sl eS f,I l,I j,I d,sl eQuery k]]⟩),(1001,⟨2,true,[[sl eExt i,sl (eL eS) b]]⟩),(2001,⟨2,true,[[I e.2.1,I e.2.2.1]]⟩),(9006,⟨2,true,[[I e.2.2.2.1,I e.2.2.2.2.1]]⟩),(10007,⟨2,true,[[I e.2.2.2.2.2.1,I e.2.2.2.2.2.2]]⟩),(11008,nG)]⟩):bT×St)) (fun e=>(.exit 0,⟨[(0,sl eS a),(1,I t),(2,I e.1),(3,I e.2.1),(4,sl eExt m),(12,.ptr 1000 0 0 1),(13,.ptr 1001 0 0 1),(15,.ptr 2001 0 0 1),(16,I e.2.2.1),(24,B e.2.2.2.1)],zq c f l j d k i b e.2.2.2.2.1 e.2.2.2.2.2⟩))):=by
 refine lrX (fun s o h=> ?_)
 obtain ⟨_,_,_,_,_⟩:=s
 simp only [jH] at h
 simp only [zq,G0,GR]
 have d1:= @L6
 have d2:= @a0o
 have d3:= @a4s
 exact go2
def Dn (b:(List (List UInt8))) (a j i:Int) (h:(List Ext)) (c:Opening) (f:Query):Option (Int):=
 (Loop (jH b a h c.Rounds c.Roots c.Last.A c.Last.B c.Nonce c.Queries f.Pairs f.Paths) (j,i,0,0,0)).bind (alt (fun e=>
 some e.1) (fun d=>
 br (d.2.2.2.2.1==c.Last.A) (
 br (d.2.2.2.2.2==c.Last.B) (
 some 0) (
 some 13)) (
 some 13)))
theorem a0n {b a i f e c d r} (h:Dn b a i f e c d=some r):Call tab ow 235 [sl eS b,I a,I i,I f,sl eExt e,.agg [sl (eL eExt) c.Rounds,sl eS c.Roots,I c.Last.A,I c.Last.B,I c.Nonce,sl eQuery c.Queries],.agg [sl eExt d.Pairs,sl (eL eS) d.Paths]] []=some (I r,[]):=by
 rw [aj (af:=xx) rfl]
 unfold Dn at h
 simp only [xx,D7]
 have d1:= @Sw
 exact go2
end
section
theorem VR:mkR 2001 []=rws eS []:=rfl
attribute [local go_sem] VR
theorem UO:mkR 3000 []=rws eExt []:=rfl
attribute [local go_sem] UO
theorem Vm:mkR 15002 []=rws eExt []:=rfl
attribute [local go_sem] Vm
theorem Vp:mkR 20003 []=rws eExt []:=rfl
attribute [local go_sem] Vp
def eY (l:List (List UInt8)) (t:Int) (t2:List Ext) (c c2 c3 c4 c5:Int) (q:List (List Ext)) (z:List (List UInt8)) (c8 c9 w:Int) (c11:List Query) (u:Int) (v:List UInt8) (s:Int):(List Ext)×Int×(List Ext)×Int×(List UInt8)×Int×Int×Int->Option (((List Ext)×Int×(List Ext)×Int×(List UInt8)×Int×Int×Int)⊕(((List Ext)×(List Ext)×Int×(List UInt8)×Int×(List Ext)×Int×(List UInt8)×Int×Int×Int)⊕((List Ext)×Int×Bool×(List Ext)×Int×(List UInt8)×Int×Int×Int)))
 | (n,m,d,b,e,f,i,j)=>
   br (decide (m<t)) (
   (atL q m).bind fun x=>
   (atL x 0).bind fun r=>
   (atL x 1).bind fun x3=>
   (j1 r x3).bind fun p=>
   br (p.A==i) (
   br (p.B==j) (
   (lF (Source.mk d b e f) x).bind fun o=>
   (rM o).bind fun a=>
   (ym x a.2).bind fun h=>
   br (cP ((n++([a.2]:List Ext)).length) 16) (
   br (decide ((wrap .i64 (m+1))<t)) (
   (atL z m).bind fun y=>
   (kz a.1 y).bind fun k=>
   some (.inl ((n++([a.2]:List Ext)),(wrap .i64 (m+1)),k.Script,k.At,k.State,k.Count,h.A,h.B))) (
   some (.inl ((n++([a.2]:List Ext)),(wrap .i64 (m+1)),a.1.Script,a.1.At,a.1.State,a.1.Count,h.A,h.B)))) none) (
   some (.inr (.inl (n,d,b,e,f,d,b,e,f,i,j))))) (
   some (.inr (.inl (n,d,b,e,f,d,b,e,f,i,j))))) (
   some (.inr (.inr (n,m,decide (m<t),d,b,e,f,i,j))))
abbrev yE (l:List (List UInt8)) (c s w v r:Int) (p:List (List Ext)) (u:List (List UInt8)) (o t m:Int) (n:List Query) (j:Int) (k:List UInt8) (i:Int) (q b:List Ext) (a:Int) (d:List UInt8) (f e h:Int):List (Nat×Blk):=[(1000,⟨2,true,[[I c,I s]]⟩),(1001,⟨3,true,[[I w,I v,I r]]⟩),(1002,⟨6,true,[[sl (eL eExt) p,sl eS u,I o,I t,I m,sl eQuery n]]⟩),(1003,⟨4,true,[[sl eExt b,I a,S d,I f]]⟩),(1004,⟨4,true,[[.lit (.slice none 0 0),I j,S k,I i]]⟩),(2001,⟨1,false,rws eS l⟩),(3000,⟨2,false,rws eExt q⟩),(4001,⟨2,true,[[I e,I h]]⟩)]
theorem SN {l t v c m u q k r p j n a b f i d}:LX tab ow (.close [9006,11002,12001,12005,12006,14002,15002,15003,17006]) Hb (eY l t v c m u q k r p j n a b f i d) (fun s=>⟨[(1,I t),(2,sl eExt v),(11,.ptr 1001 0 0 1),(12,.ptr 1002 0 0 1),(13,.ptr 1003 0 0 1),(14,.ptr 1004 0 0 1),(16,.sl 2001 0 l.length),(17,.sl 3000 0 s.1.length),(18,.ptr 4001 0 0 1),(19,I s.2.1)],yE l c m u q k r p j n a b f i d s.1 s.2.2.1 s.2.2.2.1 s.2.2.2.2.1 s.2.2.2.2.2.1 s.2.2.2.2.2.2.1 s.2.2.2.2.2.2.2⟩) (alt (fun e=>((.ret,⟨[(14,.ptr 1004 0 0 1),(15,I 10)],[(1000,⟨2,true,[[I c,I m]]⟩),(1001,⟨3,true,[[I u,I q,I k]]⟩),(1002,⟨6,true,[[sl (eL eExt) r,sl eS p,I j,I n,I a,sl eQuery b]]⟩),(1003,⟨4,true,[[sl eExt e.2.1,I e.2.2.1,S e.2.2.2.1,I e.2.2.2.2.1]]⟩),(1004,⟨4,true,[[sl eExt e.2.2.2.2.2.1,I e.2.2.2.2.2.2.1,S e.2.2.2.2.2.2.2.1,I e.2.2.2.2.2.2.2.2.1]]⟩),(2001,⟨1,false,rws eS l⟩),(3000,⟨2,false,rws eExt e.1⟩),(4001,⟨2,true,[[I e.2.2.2.2.2.2.2.2.2.1,I e.2.2.2.2.2.2.2.2.2.2]]⟩)]⟩):bT×St)) (fun e=>(.exit 0,⟨[(1,I t),(2,sl eExt v),(11,.ptr 1001 0 0 1),(12,.ptr 1002 0 0 1),(13,.ptr 1003 0 0 1),(14,.ptr 1004 0 0 1),(16,.sl 2001 0 l.length),(17,.sl 3000 0 e.1.length),(18,.ptr 4001 0 0 1),(19,I e.2.1),(36,B e.2.2.1)],yE l c m u q k r p j n a b f i d e.1 e.2.2.2.1 e.2.2.2.2.1 e.2.2.2.2.2.1 e.2.2.2.2.2.2.1 e.2.2.2.2.2.2.2.1 e.2.2.2.2.2.2.2.2⟩))):=by
 refine lrX (fun s o h=> ?_)
 obtain ⟨_,_,_,_,_,_,_,_⟩:=s
 simp only [eY] at h
 simp only [yE,Hb,Hd]
 have d1:= @oB
 have d2:= @zO
 have d3:= @G5
 have d4:= @NQ
 have d5:= @qw
 exact go2
def iy (l3:List (List UInt8)) (o:List Ext) (x t5:Int) (j:List Int) (c21 q r n c25:Int) (h:List (List Ext)) (i:List (List UInt8)) (d f e:Int) (c:List Query) (u:List Ext) (z:Int) (w:List UInt8) (y v:Int) (t:List UInt8) (s p m:Int):Int->Option ((Int)⊕(Int⊕(Int×Bool)))
 |b=>
  br (decide (b<((j.length:Nat):Int))) (
  (atL j b).bind fun l=>
  (atL c b).bind fun k=>
  (Dn l3 x t5 l o (Opening.mk h i (Ext.mk d f) e c) k).bind fun a=>
  br (a !=0) (
  some (.inr (.inl a))) (
  some (.inl (wrap .i64 (b+1))))) (
  some (.inr (.inr (b,decide (b<((j.length:Nat):Int))))))
abbrev zg (w:List (List UInt8)) (v:List Ext) (u e f b s:Int) (o:List (List Ext)) (p:List (List UInt8)) (d m h:Int) (t:List Query) (k:List Ext) (r:Int) (n:List UInt8) (q l:Int) (j:List UInt8) (i c a:Int):List (Nat×Blk):=[(1000,⟨2,true,[[I u,I e]]⟩),(1001,⟨3,true,[[I f,I b,I s]]⟩),(1002,⟨6,true,[[sl (eL eExt) o,sl eS p,I d,I m,I h,sl eQuery t]]⟩),(1003,⟨4,true,[[sl eExt k,I r,S n,I q]]⟩),(1004,⟨4,true,[[.lit (.slice none 0 0),I l,S j,I i]]⟩),(2001,⟨1,false,rws eS w⟩),(3000,⟨2,false,rws eExt v⟩),(4001,⟨2,true,[[I c,I a]]⟩),(20003,nG)]
theorem Rt {l3 z t4 t5 t6 v l m i t q r k p n u a d b c y x w j f}:LX tab ow (.close [29014]) Em (iy l3 z t4 t5 t6 v l m i t q r k p n u a d b c y x w j f) (fun s=>⟨[(1,I t4),(12,.ptr 1002 0 0 1),(13,.ptr 1003 0 0 1),(14,.ptr 1004 0 0 1),(16,.sl 2001 0 l3.length),(17,.sl 3000 0 z.length),(23,I t5),(24,sl eI t6),(25,I s)],zg l3 z v l m i t q r k p n u a d b c y x w j f⟩) (alt (fun e=>((.ret,⟨[(14,.ptr 1004 0 0 1),(15,I e)],[(1000,⟨2,true,[[I v,I l]]⟩),(1001,⟨3,true,[[I m,I i,I t]]⟩),(1002,⟨6,true,[[sl (eL eExt) q,sl eS r,I k,I p,I n,sl eQuery u]]⟩),(1003,⟨4,true,[[sl eExt a,I d,S b,I c]]⟩),(1004,⟨4,true,[[sl eExt a,I d,S b,I c]]⟩),(2001,⟨1,false,rws eS l3⟩),(3000,⟨2,false,rws eExt z⟩),(4001,⟨2,true,[[I j,I f]]⟩),(20003,nG)]⟩):bT×St)) (fun e=>(.exit 2,⟨[(1,I t4),(12,.ptr 1002 0 0 1),(13,.ptr 1003 0 0 1),(14,.ptr 1004 0 0 1),(16,.sl 2001 0 l3.length),(17,.sl 3000 0 z.length),(23,I t5),(24,sl eI t6),(25,I e.1),(127,B e.2)],zg l3 z v l m i t q r k p n u a d b c y x w j f⟩))):=by
 refine lrX (fun s o h=> ?_)
 simp only [iy] at h
 simp only [zg,Em,EB]
 have d1:= @a0n
 exact go2
def yP (b:(List UInt8)) (a:Int) (r:(List Ext)) (j:Ext) (f:Setting) (e:Opening) (n:Source):Option (Source×Int):=
 br (cP ((([b]:List (List UInt8))++e.Roots).length) 16) (
 (Loop (eY (([b]:List (List UInt8))++e.Roots) a r j.A j.B f.Rate f.Queries f.Grind e.Rounds e.Roots e.Last.A e.Last.B e.Nonce e.Queries 0 (([]:List UInt8)) 0) (([]:List Ext),0,n.Script,n.At,n.State,n.Count,j.A,j.B)).bind (alt (fun h=>
 some ((Source.mk h.2.2.2.2.2.1 h.2.2.2.2.2.2.1 h.2.2.2.2.2.2.2.1 h.2.2.2.2.2.2.2.2.1),10)) (fun c=>
 (uc c.1 r).bind fun p=>
 (dD e.Last p).bind fun l=>
 br (l.A==c.2.2.2.2.2.2.2.1) (
 br (l.B==c.2.2.2.2.2.2.2.2) (
 (lF (Source.mk c.2.2.2.1 c.2.2.2.2.1 c.2.2.2.2.2.1 c.2.2.2.2.2.2.1) ([e.Last]:List Ext)).bind fun i=>
 (Ca i f.Grind e.Nonce).bind fun q=>
 br (!q) (
 some (i,14)) (
 (g9 e.Nonce 4).bind fun k=>
 (kz i k).bind fun m=>
 br (decide (0<=(wrap .u64 (wrap .i64 (a+f.Rate))))) (
 (vW m f.Queries (wrap .i64 ((bG .i64 1 (wrap .u64 (wrap .i64 (a+f.Rate)))).tdiv 2))).bind fun d=>
 (Loop (iy (([b]:List (List UInt8))++e.Roots) c.1 a (bG .i64 1 (wrap .u64 (wrap .i64 (a+f.Rate)))) d.2 j.A j.B f.Rate f.Queries f.Grind e.Rounds e.Roots e.Last.A e.Last.B e.Nonce e.Queries d.1.Script d.1.At d.1.State d.1.Count 0 (([]:List UInt8)) 0 c.2.2.2.2.2.2.2.1 c.2.2.2.2.2.2.2.2) 0).bind (alt (fun o=>
 some (d.1,o)) (fun s=>
 some (d.1,0)))) none)) (
 some ((Source.mk c.2.2.2.1 c.2.2.2.2.1 c.2.2.2.2.2.1 c.2.2.2.2.2.2.1),11))) (
 some ((Source.mk c.2.2.2.1 c.2.2.2.2.1 c.2.2.2.2.2.1 c.2.2.2.2.2.2.1),11))))) none
theorem a1o {b a i f e c d r} (h:yP b a i f e c d=some r):Call tab ow 116 [S b,I a,sl eExt i,.agg [I f.A,I f.B],.agg [I e.Rate,I e.Queries,I e.Grind],.agg [sl (eL eExt) c.Rounds,sl eS c.Roots,I c.Last.A,I c.Last.B,I c.Nonce,sl eQuery c.Queries],.agg [sl eExt d.Script,I d.At,S d.State,I d.Count]] []=some (.tup [.agg [sl eExt r.1.Script,I r.1.At,S r.1.State,I r.1.Count],I r.2],[]):=by
 rw [aj (af:=xr) rfl]
 unfold yP at h
 simp only [xr,xF]
 have d1:= @SN
 have d2:= @OD
 have d3:= @kJ
 have d4:= @zO
 have d5:= @a3U
 have d6:= @jm
 have d7:= @qw
 have d8:= @Wo
 have d9:= @Rt
 exact go2
end
section
theorem Uc:mkR 7009 []=rws eExt []:=rfl
attribute [local go_sem] Uc
theorem Up:mkR 9007 []=rws eExt []:=rfl
attribute [local go_sem] Up
theorem Rz:mkR 21003 []=rws eExt []:=rfl
attribute [local go_sem] Rz
def rX (b:bk) (a:Setting) (a2:(List Int)) (d:Proof) (a4:Source):Option (Int):=
 (yG b a a2 a4).bind fun r_=>
 (kz r_ d.Root).bind fun z=>
 (tX z b.Rows).bind fun l=>
 (mh 2 (Ext.mk 0 0) d.Gates b.Rows l.1).bind fun e=>
 br (e.2.2.2 !=0) (
 some e.2.2.2) (
 (uc l.2 e.1).bind fun r_5=>
 (oT 2 ([r_5,d.VA,d.VB,d.VC]:List Ext)).bind fun r=>
 br (r.A==e.2.1.A) (
 br (r.B==e.2.1.B) (
 (lF e.2.2.1 ([d.VA,d.VB,d.VC]:List Ext)).bind fun r_7=>
 (tX r_7 3).bind fun f=>
 (atL f.2 0).bind fun x=>
 (dD x d.VA).bind fun r_9=>
 (atL f.2 1).bind fun x2=>
 (dD x2 d.VB).bind fun q=>
 (atL f.2 2).bind fun x3=>
 (dD x3 d.VC).bind fun o=>
 (j1 q o).bind fun n=>
 (j1 r_9 n).bind fun j=>
 (mh 1 j d.Wires b.Cols f.1).bind fun c=>
 br (c.2.2.2 !=0) (
 some c.2.2.2) (
 (lh c.1 0 (wrap .i64 (b.Cols-1))).bind fun y=>
 (atL c.1 (wrap .i64 (b.Cols-1))).bind fun x4=>
 (p6 x4).bind fun k=>
 (wv b a2 y).bind fun i=>
 (dD k i).bind fun w=>
 (dD x4 d.VW).bind fun m=>
 (j1 w m).bind fun t=>
 (yY b e.1 f.2).bind fun v=>
 (DW v c.1).bind fun s=>
 (dD s t).bind fun h=>
 br (h.A==c.2.1.A) (
 br (h.B==c.2.1.B) (
 (lF c.2.2.1 ([d.VW]:List Ext)).bind fun p=>
 (yP d.Root (wrap .i64 (b.Cols-1)) y d.VW a d.Open p).bind fun u=>
 some u.2) (
 some 11)) (
 some 11))) (
 some 11)) (
 some 11))
theorem UY {b a e c d r} (h:rX b a e c d=some r):Call tab ow 144 [.agg [I b.Rows,I b.Cols,I b.Publics,sl aA b.A,sl aA b.B,sl aA b.C],.agg [I a.Rate,I a.Queries,I a.Grind],sl eI e,.agg [S c.Root,sl (eL eExt) c.Gates,I c.VA.A,I c.VA.B,I c.VB.A,I c.VB.B,I c.VC.A,I c.VC.B,sl (eL eExt) c.Wires,I c.VW.A,I c.VW.B,sl (eL eExt) c.Open.Rounds,sl eS c.Open.Roots,I c.Open.Last.A,I c.Open.Last.B,I c.Open.Nonce,sl eQuery c.Open.Queries],.agg [sl eExt d.Script,I d.At,S d.State,I d.Count]] []=some (I r,[]):=by
 rw [aj (af:=vi) rfl]
 unfold rX at h
 simp only [vi,J4]
 have d1:= @Zv
 have d2:= @qw
 have d3:= @OC
 have d4:= @Wg
 have d5:= @OD
 have d6:= @Tv
 have d7:= @zO
 have d8:= @kJ
 have d9:= @oB
 have d10:= @Gb
 have d11:= @UJ
 have d12:= @YR
 have d13:= @WQ
 have d14:= @a1o
 exact go2
end
def CL (a:(List Gate)) (b:Int):Option (Int):=
 br (decide ((wrap .i64 (b-((a.length:Nat):Int)))<0)) (
 some (-1:Int)) (
 some (wrap .i64 (b-((a.length:Nat):Int))))
theorem a3z {a b r} (h:CL a b=some r):Call tab ow 145 [sl eGate a,I b] []=some (I r,[]):=by
 rw [aj (af:=Aw) rfl]
 unfold CL at h
 simp only [Aw,OI]
 exact go2
def wy (a:Circuit) (b:Int):Option (Int):=
 (CL a.Gates b).bind fun c=>
 br (decide (c<0)) (
 some (-1:Int)) (
 some c)
theorem WB {a b r} (h:wy a b=some r):Call tab ow 46 [.agg [sl eGate a.Gates],I b] []=some (I r,[]):=by
 rw [aj (af:=uA) rfl]
 unfold wy at h
 simp only [uA,J0]
 have d1:= @a3z
 exact go2
def vL (a:(List Ext)) (b:Int):Option (Int):=
 br (decide ((wrap .i64 (b-((a.length:Nat):Int)))<0)) (
 some (-1:Int)) (
 some (wrap .i64 (b-((a.length:Nat):Int))))
theorem JU {a b r} (h:vL a b=some r):Call tab ow 148 [sl eExt a,I b] []=some (I r,[]):=by
 rw [aj (af:=D8) rfl]
 unfold vL at h
 simp only [D8,S5]
 exact go2
def vp (b:List (List Ext)):Int×Int->Option ((Int×Int)⊕(Unit⊕(Int×Int×Bool)))
 | (a,i)=>
   br (decide (i<((b.length:Nat):Int))) (
   (atL b i).bind fun x=>
   (vL x a).bind fun c=>
   br (decide (c<0)) (
   some (.inr (.inl ()))) (
   some (.inl (c,(wrap .i64 (i+1)))))) (
   some (.inr (.inr (a,i,decide (i<((b.length:Nat):Int))))))
theorem W5 {a}:LX tab ow (.close [8005]) ID (vp a) (fun s=>⟨[(0,sl (eL eExt) a),(1,I s.1),(5,I s.2)],[]⟩) (alt (fun e=>((.ret,⟨[(4,I (-1:Int))],[]⟩):bT×St)) (fun e=>(.exit 0,⟨[(0,sl (eL eExt) a),(1,I e.1),(5,I e.2.1),(15,B e.2.2)],[]⟩))):=by
 refine lrX (fun s o h=> ?_)
 obtain ⟨_,_⟩:=s
 simp only [vp] at h
 simp only [ID,Iv]
 have d1:= @JU
 exact go2
def yf (a:(List (List Ext))) (b:Int):Option (Int):=
 br (decide ((wrap .i64 (b-((a.length:Nat):Int)))<0)) (
 some (-1:Int)) (
 (Loop (vp a) ((wrap .i64 (b-((a.length:Nat):Int))),0)).bind (alt (fun d=>
 some (-1:Int)) (fun c=>
 some c.1)))
theorem NW {a b r} (h:yf a b=some r):Call tab ow 146 [sl (eL eExt) a,I b] []=some (I r,[]):=by
 rw [aj (af:=Az) rfl]
 unfold yf at h
 simp only [Az,Fx]
 have d1:= @W5
 exact go2
def na (b:List (List UInt8)):Int×Int->Option ((Int×Int)⊕(Unit⊕(Int×Int×Bool)))
 | (a,i)=>
   br (decide (i<((b.length:Nat):Int))) (
   (atL b i).bind fun x=>
   br (decide ((wrap .i64 (a-((x.length:Nat):Int)))<0)) (
   some (.inr (.inl ()))) (
   some (.inl ((wrap .i64 (a-((x.length:Nat):Int))),(wrap .i64 (i+1)))))) (
   some (.inr (.inr (a,i,decide (i<((b.length:Nat):Int))))))
theorem PC {a}:LX tab ow (.close []) F7 (na a) (fun s=>⟨[(0,sl eS a),(1,I s.1),(5,I s.2)],[]⟩) (alt (fun e=>((.ret,⟨[(4,I (-1:Int))],[]⟩):bT×St)) (fun e=>(.exit 0,⟨[(0,sl eS a),(1,I e.1),(5,I e.2.1),(15,B e.2.2)],[]⟩))):=by
 refine lrX (fun s o h=> ?_)
 obtain ⟨_,_⟩:=s
 simp only [na] at h
 simp only [F7,ER]
 exact go2
def rH (a:(List (List UInt8))) (b:Int):Option (Int):=
 br (decide ((wrap .i64 (b-((a.length:Nat):Int)))<0)) (
 some (-1:Int)) (
 (Loop (na a) ((wrap .i64 (b-((a.length:Nat):Int))),0)).bind (alt (fun d=>
 some (-1:Int)) (fun c=>
 some c.1)))
theorem Iz {a b r} (h:rH a b=some r):Call tab ow 272 [sl eS a,I b] []=some (I r,[]):=by
 rw [aj (af:=uL) rfl]
 unfold rH at h
 simp only [uL,B0]
 have d1:= @PC
 exact go2
def oW (b:List (List (List UInt8))):Int×Int->Option ((Int×Int)⊕(Unit⊕(Int×Int×Bool)))
 | (a,i)=>
   br (decide (i<((b.length:Nat):Int))) (
   (atL b i).bind fun x=>
   (rH x a).bind fun c=>
   br (decide (c<0)) (
   some (.inr (.inl ()))) (
   some (.inl (c,(wrap .i64 (i+1)))))) (
   some (.inr (.inr (a,i,decide (i<((b.length:Nat):Int))))))
theorem MQ {a}:LX tab ow (.close [8005]) BP (oW a) (fun s=>⟨[(0,sl (eL eS) a),(1,I s.1),(5,I s.2)],[]⟩) (alt (fun e=>((.ret,⟨[(4,I (-1:Int))],[]⟩):bT×St)) (fun e=>(.exit 0,⟨[(0,sl (eL eS) a),(1,I e.1),(5,I e.2.1),(15,B e.2.2)],[]⟩))):=by
 refine lrX (fun s o h=> ?_)
 obtain ⟨_,_⟩:=s
 simp only [oW] at h
 simp only [BP,Cs]
 have d1:= @Iz
 exact go2
def xk (a:(List (List (List UInt8)))) (b:Int):Option (Int):=
 br (decide ((wrap .i64 (b-((a.length:Nat):Int)))<0)) (
 some (-1:Int)) (
 (Loop (oW a) ((wrap .i64 (b-((a.length:Nat):Int))),0)).bind (alt (fun d=>
 some (-1:Int)) (fun c=>
 some c.1)))
theorem TA {a b r} (h:xk a b=some r):Call tab ow 373 [sl (eL eS) a,I b] []=some (I r,[]):=by
 rw [aj (af:=sg) rfl]
 unfold xk at h
 simp only [sg,zw]
 have d1:= @MQ
 exact go2
def yk (a:Query) (c:Int):Option (Int):=
 (vL a.Pairs c).bind fun d=>
 br (decide (d<0)) (
 some (-1:Int)) (
 (xk a.Paths d).bind fun b=>
 br (decide (b<0)) (
 some (-1:Int)) (
 some b))
theorem a4U {a b r} (h:yk a b=some r):Call tab ow 341 [.agg [sl eExt a.Pairs,sl (eL eS) a.Paths],I b] []=some (I r,[]):=by
 rw [aj (af:=Ak) rfl]
 unfold yk at h
 simp only [Ak,NV]
 have d1:= @JU
 have d2:= @TA
 exact go2
def sP (b:List Query):Int×Int->Option ((Int×Int)⊕(Unit⊕(Int×Int×Bool)))
 | (a,i)=>
   br (decide (i<((b.length:Nat):Int))) (
   (atL b i).bind fun x=>
   (yk x a).bind fun c=>
   br (decide (c<0)) (
   some (.inr (.inl ()))) (
   some (.inl (c,(wrap .i64 (i+1)))))) (
   some (.inr (.inr (a,i,decide (i<((b.length:Nat):Int))))))
theorem SY {a}:LX tab ow (.close [8005]) GB (sP a) (fun s=>⟨[(0,sl eQuery a),(1,I s.1),(5,I s.2)],[]⟩) (alt (fun e=>((.ret,⟨[(4,I (-1:Int))],[]⟩):bT×St)) (fun e=>(.exit 0,⟨[(0,sl eQuery a),(1,I e.1),(5,I e.2.1),(15,B e.2.2)],[]⟩))):=by
 refine lrX (fun s o h=> ?_)
 obtain ⟨_,_⟩:=s
 simp only [sP] at h
 simp only [GB,Hf]
 have d1:= @a4U
 exact go2
def CW (a:(List Query)) (b:Int):Option (Int):=
 br (decide ((wrap .i64 (b-((a.length:Nat):Int)))<0)) (
 some (-1:Int)) (
 (Loop (sP a) ((wrap .i64 (b-((a.length:Nat):Int))),0)).bind (alt (fun d=>
 some (-1:Int)) (fun c=>
 some c.1)))
theorem a0m {a b r} (h:CW a b=some r):Call tab ow 273 [sl eQuery a,I b] []=some (I r,[]):=by
 rw [aj (af:=xj) rfl]
 unfold CW at h
 simp only [xj,El]
 have d1:= @SY
 exact go2
def vS (a:Opening) (c:Int):Option (Int):=
 (yf a.Rounds c).bind fun e=>
 br (decide (e<0)) (
 some (-1:Int)) (
 (rH a.Roots e).bind fun b=>
 br (decide (b<0)) (
 some (-1:Int)) (
 (CW a.Queries b).bind fun d=>
 br (decide (d<0)) (
 some (-1:Int)) (
 some d)))
theorem V7 {a b r} (h:vS a b=some r):Call tab ow 147 [.agg [sl (eL eExt) a.Rounds,sl eS a.Roots,I a.Last.A,I a.Last.B,I a.Nonce,sl eQuery a.Queries],I b] []=some (I r,[]):=by
 rw [aj (af:=uO) rfl]
 unfold vS at h
 simp only [uO,Ii]
 have d1:= @NW
 have d2:= @Iz
 have d3:= @a0m
 exact go2
end
end Go.AI.Fn
set_option linter.unusedVariables false
set_option linter.unusedSimpArgs false
set_option maxRecDepth 100000
set_option maxHeartbeats 1000000
namespace Go.AI.Fn
noncomputable section
open IntKind (wrap)
def BH (a:Proof) (b:Int):Option (Int):=
 br (decide ((wrap .i64 (b-((a.Root.length:Nat):Int)))<0)) (
 some (-1:Int)) (
 (yf a.Gates (wrap .i64 (b-((a.Root.length:Nat):Int)))).bind fun e=>
 br (decide (e<0)) (
 some (-1:Int)) (
 (yf a.Wires e).bind fun c=>
 br (decide (c<0)) (
 some (-1:Int)) (
 (vS a.Open c).bind fun d=>
 br (decide (d<0)) (
 some (-1:Int)) (
 some d))))
theorem a3u {a b r} (h:BH a b=some r):Call tab ow 47 [.agg [S a.Root,sl (eL eExt) a.Gates,I a.VA.A,I a.VA.B,I a.VB.A,I a.VB.B,I a.VC.A,I a.VC.B,sl (eL eExt) a.Wires,I a.VW.A,I a.VW.B,sl (eL eExt) a.Open.Rounds,sl eS a.Open.Roots,I a.Open.Last.A,I a.Open.Last.B,I a.Open.Nonce,sl eQuery a.Open.Queries],I b] []=some (I r,[]):=by
 rw [aj (af:=AJ) rfl]
 unfold BH at h
 simp only [AJ,O3]
 have d1:= @NW
 have d2:= @V7
 exact go2
def zC (a:Source) (b:Int):Option (Int):=
 (vL a.Script b).bind fun c=>
 br (decide (c<0)) (
 some (-1:Int)) (
 br (decide ((wrap .i64 (c-((a.State.length:Nat):Int)))<0)) (
 some (-1:Int)) (
 some (wrap .i64 (c-((a.State.length:Nat):Int)))))
theorem a0h {a b r} (h:zC a b=some r):Call tab ow 48 [.agg [sl eExt a.Script,I a.At,S a.State,I a.Count],I b] []=some (I r,[]):=by
 rw [aj (af:=xS) rfl]
 unfold zC at h
 simp only [xS,LN]
 have d1:= @JU
 exact go2
def LL (a:Gate):Option (Gate):=
 some a
theorem a6c {a r} (h:LL a=some r):Call tab ow 274 [.agg [I a.Op,I a.A,I a.B,I a.K]] []=some (.agg [I r.Op,I r.A,I r.B,I r.K],[]):=by
 rw [aj (af:=DM) rfl]
 unfold LL at h
 simp only [DM,SS]
 exact go2
section
theorem YJ: ∀k,Ck 2002 k [I (0:Int),I (0:Int),I (0:Int),I (0:Int)]=rws eGate (List.replicate k (Gate.mk (0:Int) (0:Int) (0:Int) (0:Int))):=fun _=>Nh eGate (Gate.mk (0:Int) (0:Int) (0:Int) (0:Int)) _ _
attribute [local go_sem] YJ
def qv (a:List Gate):(List Gate)×Int->Option (((List Gate)×Int)⊕(((List Gate)×Int×Bool)))
 | (l,i)=>
   br (decide (i<((a.length:Nat):Int))) (
   (atL a i).bind fun x=>
   (LL x).bind fun b=>
   br (decide (0<=i)) (
   br (decide (i.toNat<l.length)) (
   (l[i.toNat]?).bind fun c=>
   some (.inl ((l.set i.toNat b),(wrap .i64 (i+1))))) none) none) (
   some (.inr (l,i,decide (i<((a.length:Nat):Int)))))
theorem Wa {a}:LX tab ow (.close [6006]) Js (qv a) (fun s=>⟨[(0,sl eGate a),(3,.sl 2002 0 s.1.length),(4,I s.2)],[(2002,⟨4,false,rws eGate s.1⟩)]⟩) (fun e=>(.exit 0,⟨[(0,sl eGate a),(3,.sl 2002 0 e.1.length),(4,I e.2.1),(11,B e.2.2)],[(2002,⟨4,false,rws eGate e.1⟩)]⟩)):=by
 refine lrX (fun s o h=> ?_)
 obtain ⟨_,_⟩:=s
 simp only [qv] at h
 simp only [Js,Jo]
 have d1:= @a6c
 exact go2
def CI (a:(List Gate)):Option ((List Gate)):=
 br (zJ ((a.length:Nat):Int) ((a.length:Nat):Int) 32) (
 (Loop (qv a) ((List.replicate (((a.length:Nat):Int).toNat) (Gate.mk (0:Int) (0:Int) (0:Int) (0:Int))),(0:Int))).bind fun b=>
 some b.1) none
theorem a3Z {a r} (h:CI a=some r):Call tab ow 150 [sl eGate a] []=some (sl eGate r,[]):=by
 rw [aj (af:=zW) rfl]
 unfold CI at h
 simp only [zW,G6]
 have d1:= @Wa
 exact go2
end
def oh (a:Circuit):Option (Circuit):=
 (CI a.Gates).bind fun b=>
 some (Circuit.mk b)
theorem UR {a r} (h:oh a=some r):Call tab ow 50 [.agg [sl eGate a.Gates]] []=some (.agg [sl eGate r.Gates],[]):=by
 rw [aj (af:=uK) rfl]
 unfold oh at h
 simp only [uK,Jt]
 have d1:= @a3Z
 exact go2
def vU (a:Setting):Option (Setting):=
 some a
theorem V4 {a r} (h:vU a=some r):Call tab ow 51 [.agg [I a.Rate,I a.Queries,I a.Grind]] []=some (.agg [I r.Rate,I r.Queries,I r.Grind],[]):=by
 rw [aj (af:=ve) rfl]
 unfold vU at h
 simp only [ve,J7]
 exact go2
section
theorem a1Z: ∀k,Ck 2002 k [I (0:Int)]=rws eI (List.replicate k (0:Int)):=fun _=>Nh eI (0:Int) _ _
attribute [local go_sem] a1Z
def xy (a:List Int):(List Int)×Int->Option (((List Int)×Int)⊕(((List Int)×Int×Bool)))
 | (l,i)=>
   br (decide (i<((a.length:Nat):Int))) (
   (atL a i).bind fun x=>
   br (decide (0<=i)) (
   br (decide (i.toNat<l.length)) (
   (l[i.toNat]?).bind fun b=>
   some (.inl ((l.set i.toNat x),(wrap .i64 (i+1))))) none) none) (
   some (.inr (l,i,decide (i<((a.length:Nat):Int)))))
theorem Yn {a}:LX tab ow (.close []) KH (xy a) (fun s=>⟨[(0,sl eI a),(3,.sl 2002 0 s.1.length),(4,I s.2)],[(2002,⟨1,false,rws eI s.1⟩)]⟩) (fun e=>(.exit 0,⟨[(0,sl eI a),(3,.sl 2002 0 e.1.length),(4,I e.2.1),(11,B e.2.2)],[(2002,⟨1,false,rws eI e.1⟩)]⟩)):=by
 refine lrX (fun s o h=> ?_)
 obtain ⟨_,_⟩:=s
 simp only [xy] at h
 simp only [KH,Ln]
 exact go2
def yH (a:(List Int)):Option ((List Int)):=
 br (zJ ((a.length:Nat):Int) ((a.length:Nat):Int) 8) (
 (Loop (xy a) ((List.replicate (((a.length:Nat):Int).toNat) (0:Int)),(0:Int))).bind fun b=>
 some b.1) none
theorem a7v {a r} (h:yH a=some r):Call tab ow 52 [sl eI a] []=some (sl eI r,[]):=by
 rw [aj (af:=E9) rfl]
 unfold yH at h
 simp only [E9,JG]
 have d1:= @Yn
 exact go2
end
def sD (a:Ext):Option (Ext):=
 some a
theorem N8 {a r} (h:sD a=some r):Call tab ow 152 [.agg [I a.A,I a.B]] []=some (.agg [I r.A,I r.B],[]):=by
 rw [aj (af:=Hq) rfl]
 unfold sD at h
 simp only [Hq,X4]
 exact go2
section
theorem a3J: ∀k,Ck 2002 k [I (0:Int),I (0:Int)]=rws eExt (List.replicate k (Ext.mk (0:Int) (0:Int))):=fun _=>Nh eExt (Ext.mk (0:Int) (0:Int)) _ _
attribute [local go_sem] a3J
def xM (a:List Ext):(List Ext)×Int->Option (((List Ext)×Int)⊕(((List Ext)×Int×Bool)))
 | (l,i)=>
   br (decide (i<((a.length:Nat):Int))) (
   (atL a i).bind fun x=>
   (sD x).bind fun b=>
   br (decide (0<=i)) (
   br (decide (i.toNat<l.length)) (
   (l[i.toNat]?).bind fun c=>
   some (.inl ((l.set i.toNat b),(wrap .i64 (i+1))))) none) none) (
   some (.inr (l,i,decide (i<((a.length:Nat):Int)))))
theorem ZH {a}:LX tab ow (.close [6006]) KQ (xM a) (fun s=>⟨[(0,sl eExt a),(3,.sl 2002 0 s.1.length),(4,I s.2)],[(2002,⟨2,false,rws eExt s.1⟩)]⟩) (fun e=>(.exit 0,⟨[(0,sl eExt a),(3,.sl 2002 0 e.1.length),(4,I e.2.1),(11,B e.2.2)],[(2002,⟨2,false,rws eExt e.1⟩)]⟩)):=by
 refine lrX (fun s o h=> ?_)
 obtain ⟨_,_⟩:=s
 simp only [xM] at h
 simp only [KQ,Ml]
 have d1:= @N8
 exact go2
def w7 (a:(List Ext)):Option ((List Ext)):=
 br (zJ ((a.length:Nat):Int) ((a.length:Nat):Int) 16) (
 (Loop (xM a) ((List.replicate (((a.length:Nat):Int).toNat) (Ext.mk (0:Int) (0:Int))),(0:Int))).bind fun b=>
 some b.1) none
theorem JV {a r} (h:w7 a=some r):Call tab ow 154 [sl eExt a] []=some (sl eExt r,[]):=by
 rw [aj (af:=Df) rfl]
 unfold w7 at h
 simp only [Df,Kv]
 have d1:= @ZH
 exact go2
end
section
theorem Yc: ∀k,Ck 2002 k [.imm 1 []]=rws (eL eExt) (List.replicate k ([]:List Ext)):=fun _=>Nh (eL eExt) ([]:List Ext) _ _
attribute [local go_sem] Yc
def uY (a:List (List Ext)):(List (List Ext))×Int->Option (((List (List Ext))×Int)⊕(((List (List Ext))×Int×Bool)))
 | (l,i)=>
   br (decide (i<((a.length:Nat):Int))) (
   (atL a i).bind fun x=>
   (w7 x).bind fun b=>
   br (decide (0<=i)) (
   br (decide (i.toNat<l.length)) (
   (l[i.toNat]?).bind fun c=>
   some (.inl ((l.set i.toNat b),(wrap .i64 (i+1))))) none) none) (
   some (.inr (l,i,decide (i<((a.length:Nat):Int)))))
theorem Vb {a}:LX tab ow (.close [6006]) IL (uY a) (fun s=>⟨[(0,sl (eL eExt) a),(3,.sl 2002 0 s.1.length),(4,I s.2)],[(2002,⟨1,false,rws (eL eExt) s.1⟩)]⟩) (fun e=>(.exit 0,⟨[(0,sl (eL eExt) a),(3,.sl 2002 0 e.1.length),(4,I e.2.1),(11,B e.2.2)],[(2002,⟨1,false,rws (eL eExt) e.1⟩)]⟩)):=by
 refine lrX (fun s o h=> ?_)
 obtain ⟨_,_⟩:=s
 simp only [uY] at h
 simp only [IL,IY]
 have d1:= @JV
 exact go2
def tZ (a:(List (List Ext))):Option ((List (List Ext))):=
 br (zJ ((a.length:Nat):Int) ((a.length:Nat):Int) 24) (
 (Loop (uY a) ((List.replicate (((a.length:Nat):Int).toNat) ([]:List Ext)),(0:Int))).bind fun b=>
 some b.1) none
theorem Of {a r} (h:tZ a=some r):Call tab ow 151 [sl (eL eExt) a] []=some (sl (eL eExt) r,[]):=by
 rw [aj (af:=AC) rfl]
 unfold tZ at h
 simp only [AC,Gq]
 have d1:= @Vb
 exact go2
end
section
theorem Ro: ∀k,Ck 2002 k [S (([]:List UInt8))]=rws eS (List.replicate k (([]:List UInt8))):=fun _=>Nh eS (([]:List UInt8)) _ _
attribute [local go_sem] Ro
def rb (a:List (List UInt8)):(List (List UInt8))×Int->Option (((List (List UInt8))×Int)⊕(((List (List UInt8))×Int×Bool)))
 | (l,i)=>
   br (decide (i<((a.length:Nat):Int))) (
   (atL a i).bind fun x=>
   br (decide (0<=i)) (
   br (decide (i.toNat<l.length)) (
   (l[i.toNat]?).bind fun b=>
   some (.inl ((l.set i.toNat x),(wrap .i64 (i+1))))) none) none) (
   some (.inr (l,i,decide (i<((a.length:Nat):Int)))))
theorem P8 {a}:LX tab ow (.close []) Fb (rb a) (fun s=>⟨[(0,sl eS a),(3,.sl 2002 0 s.1.length),(4,I s.2)],[(2002,⟨1,false,rws eS s.1⟩)]⟩) (fun e=>(.exit 0,⟨[(0,sl eS a),(3,.sl 2002 0 e.1.length),(4,I e.2.1),(11,B e.2.2)],[(2002,⟨1,false,rws eS e.1⟩)]⟩)):=by
 refine lrX (fun s o h=> ?_)
 obtain ⟨_,_⟩:=s
 simp only [rb] at h
 simp only [Fb,F6]
 exact go2
def o7 (a:(List (List UInt8))):Option ((List (List UInt8))):=
 br (zJ ((a.length:Nat):Int) ((a.length:Nat):Int) 16) (
 (Loop (rb a) ((List.replicate (((a.length:Nat):Int).toNat) (([]:List UInt8))),(0:Int))).bind fun b=>
 some b.1) none
theorem Io {a r} (h:o7 a=some r):Call tab ow 275 [sl eS a] []=some (sl eS r,[]):=by
 rw [aj (af:=vq) rfl]
 unfold o7 at h
 simp only [vq,Bp]
 have d1:= @P8
 exact go2
end
section
theorem Pt: ∀k,Ck 2002 k [.imm 1 []]=rws (eL eS) (List.replicate k ([]:List (List UInt8))):=fun _=>Nh (eL eS) ([]:List (List UInt8)) _ _
attribute [local go_sem] Pt
def pd (a:List (List (List UInt8))):(List (List (List UInt8)))×Int->Option (((List (List (List UInt8)))×Int)⊕(((List (List (List UInt8)))×Int×Bool)))
 | (l,i)=>
   br (decide (i<((a.length:Nat):Int))) (
   (atL a i).bind fun x=>
   (o7 x).bind fun b=>
   br (decide (0<=i)) (
   br (decide (i.toNat<l.length)) (
   (l[i.toNat]?).bind fun c=>
   some (.inl ((l.set i.toNat b),(wrap .i64 (i+1))))) none) none) (
   some (.inr (l,i,decide (i<((a.length:Nat):Int)))))
theorem N4 {a}:LX tab ow (.close [6006]) Cj (pd a) (fun s=>⟨[(0,sl (eL eS) a),(3,.sl 2002 0 s.1.length),(4,I s.2)],[(2002,⟨1,false,rws (eL eS) s.1⟩)]⟩) (fun e=>(.exit 0,⟨[(0,sl (eL eS) a),(3,.sl 2002 0 e.1.length),(4,I e.2.1),(11,B e.2.2)],[(2002,⟨1,false,rws (eL eS) e.1⟩)]⟩)):=by
 refine lrX (fun s o h=> ?_)
 obtain ⟨_,_⟩:=s
 simp only [pd] at h
 simp only [Cj,BN]
 have d1:= @Io
 exact go2
def s6 (a:(List (List (List UInt8)))):Option ((List (List (List UInt8)))):=
 br (zJ ((a.length:Nat):Int) ((a.length:Nat):Int) 24) (
 (Loop (pd a) ((List.replicate (((a.length:Nat):Int).toNat) ([]:List (List UInt8))),(0:Int))).bind fun b=>
 some b.1) none
theorem U3 {a r} (h:s6 a=some r):Call tab ow 374 [sl (eL eS) a] []=some (sl (eL eS) r,[]):=by
 rw [aj (af:=si) rfl]
 unfold s6 at h
 simp only [si,yC]
 have d1:= @N4
 exact go2
end
def yh (a:Query):Option (Query):=
 (w7 a.Pairs).bind fun c=>
 (s6 a.Paths).bind fun b=>
 some (Query.mk c b)
theorem a3r {a r} (h:yh a=some r):Call tab ow 342 [.agg [sl eExt a.Pairs,sl (eL eS) a.Paths]] []=some (.agg [sl eExt r.Pairs,sl (eL eS) r.Paths],[]):=by
 rw [aj (af:=A4) rfl]
 unfold yh at h
 simp only [A4,O9]
 have d1:= @JV
 have d2:= @U3
 exact go2
section
theorem VU: ∀k,Ck 2002 k [.imm 1 [],.imm 1 []]=rws eQuery (List.replicate k (Query.mk ([]:List Ext) ([]:List (List (List UInt8))))):=fun _=>Nh eQuery (Query.mk ([]:List Ext) ([]:List (List (List UInt8)))) _ _
attribute [local go_sem] VU
def te (a:List Query):(List Query)×Int->Option (((List Query)×Int)⊕(((List Query)×Int×Bool)))
 | (l,i)=>
   br (decide (i<((a.length:Nat):Int))) (
   (atL a i).bind fun x=>
   (yh x).bind fun b=>
   br (decide (0<=i)) (
   br (decide (i.toNat<l.length)) (
   (l[i.toNat]?).bind fun c=>
   some (.inl ((l.set i.toNat b),(wrap .i64 (i+1))))) none) none) (
   some (.inr (l,i,decide (i<((a.length:Nat):Int)))))
theorem QH {a}:LX tab ow (.close [6006]) GX (te a) (fun s=>⟨[(0,sl eQuery a),(3,.sl 2002 0 s.1.length),(4,I s.2)],[(2002,⟨2,false,rws eQuery s.1⟩)]⟩) (fun e=>(.exit 0,⟨[(0,sl eQuery a),(3,.sl 2002 0 e.1.length),(4,I e.2.1),(11,B e.2.2)],[(2002,⟨2,false,rws eQuery e.1⟩)]⟩)):=by
 refine lrX (fun s o h=> ?_)
 obtain ⟨_,_⟩:=s
 simp only [te] at h
 simp only [GX,GF]
 have d1:= @a3r
 exact go2
def zm (a:(List Query)):Option ((List Query)):=
 br (zJ ((a.length:Nat):Int) ((a.length:Nat):Int) 48) (
 (Loop (te a) ((List.replicate (((a.length:Nat):Int).toNat) (Query.mk ([]:List Ext) ([]:List (List (List UInt8))))),(0:Int))).bind fun b=>
 some b.1) none
theorem ZC {a r} (h:zm a=some r):Call tab ow 276 [sl eQuery a] []=some (sl eQuery r,[]):=by
 rw [aj (af:=xp) rfl]
 unfold zm at h
 simp only [xp,Dl]
 have d1:= @QH
 exact go2
end
def w8 (a:Opening):Option (Opening):=
 (tZ a.Rounds).bind fun e=>
 (o7 a.Roots).bind fun b=>
 (sD a.Last).bind fun d=>
 (zm a.Queries).bind fun c=>
 some (Opening.mk e b d a.Nonce c)
theorem Wd {a r} (h:w8 a=some r):Call tab ow 153 [.agg [sl (eL eExt) a.Rounds,sl eS a.Roots,I a.Last.A,I a.Last.B,I a.Nonce,sl eQuery a.Queries]] []=some (.agg [sl (eL eExt) r.Rounds,sl eS r.Roots,I r.Last.A,I r.Last.B,I r.Nonce,sl eQuery r.Queries],[]):=by
 rw [aj (af:=um) rfl]
 unfold w8 at h
 simp only [um,IS]
 have d1:= @Of
 have d2:= @Io
 have d3:= @N8
 have d4:= @ZC
 exact go2
def tQ (a:Proof):Option (Proof):=
 (tZ a.Gates).bind fun i=>
 (sD a.VA).bind fun e=>
 (sD a.VB).bind fun h=>
 (sD a.VC).bind fun f=>
 (tZ a.Wires).bind fun b=>
 (sD a.VW).bind fun d=>
 (w8 a.Open).bind fun c=>
 some (Proof.mk a.Root i e h f b d c)
theorem a3w {a r} (h:tQ a=some r):Call tab ow 53 [.agg [S a.Root,sl (eL eExt) a.Gates,I a.VA.A,I a.VA.B,I a.VB.A,I a.VB.B,I a.VC.A,I a.VC.B,sl (eL eExt) a.Wires,I a.VW.A,I a.VW.B,sl (eL eExt) a.Open.Rounds,sl eS a.Open.Roots,I a.Open.Last.A,I a.Open.Last.B,I a.Open.Nonce,sl eQuery a.Open.Queries]] []=some (.agg [S r.Root,sl (eL eExt) r.Gates,I r.VA.A,I r.VA.B,I r.VB.A,I r.VB.B,I r.VC.A,I r.VC.B,sl (eL eExt) r.Wires,I r.VW.A,I r.VW.B,sl (eL eExt) r.Open.Rounds,sl eS r.Open.Roots,I r.Open.Last.A,I r.Open.Last.B,I r.Open.Nonce,sl eQuery r.Open.Queries],[]):=by
 rw [aj (af:=Ax) rfl]
 unfold tQ at h
 simp only [Ax,Ov]
 have d1:= @Of
 have d2:= @N8
 have d3:= @Wd
 exact go2
def rq (a:Source):Option (Source):=
 (w7 a.Script).bind fun b=>
 some (Source.mk b a.At a.State a.Count)
theorem a1A {a r} (h:rq a=some r):Call tab ow 54 [.agg [sl eExt a.Script,I a.At,S a.State,I a.Count]] []=some (.agg [sl eExt r.Script,I r.At,S r.State,I r.Count],[]):=by
 rw [aj (af:=xD) rfl]
 unfold rq at h
 simp only [xD,Ly]
 have d1:= @JV
 exact go2
def vy (s:bk) (t:Setting) (a:(List Int)) (p:Proof) (b:Source):Option (Bool×Int):=
 br (decide (((a.length:Nat):Int)>4096)) (
 some (false,2)) (
 (Gl s t a b).bind fun e=>
 br (e !=0) (
 some (false,e)) (
 (CD p s t).bind fun d=>
 br (!d) (
 some (false,18)) (
 (rX s t a p b).bind fun c=>
 some ((c==0),c))))
theorem a7l {s t b p a r} (h:vy s t b p a=some r):Call tab ow 149 [.agg [I s.Rows,I s.Cols,I s.Publics,sl aA s.A,sl aA s.B,sl aA s.C],.agg [I t.Rate,I t.Queries,I t.Grind],sl eI b,.agg [S p.Root,sl (eL eExt) p.Gates,I p.VA.A,I p.VA.B,I p.VB.A,I p.VB.B,I p.VC.A,I p.VC.B,sl (eL eExt) p.Wires,I p.VW.A,I p.VW.B,sl (eL eExt) p.Open.Rounds,sl eS p.Open.Roots,I p.Open.Last.A,I p.Open.Last.B,I p.Open.Nonce,sl eQuery p.Open.Queries],.agg [sl eExt a.Script,I a.At,S a.State,I a.Count]] []=some (.tup [B r.1,I r.2],[]):=by
 rw [aj (af:=Dr) rfl]
 unfold vy at h
 simp only [Dr,Sr]
 have d1:= @a5K
 have d2:= @a2o
 have d3:= @UY
 exact go2
def gY (c:Circuit) (t:Setting) (a:(List Int)) (p:Proof) (b:Source):Option (Bool×Int):=
 br (decide (((a.length:Nat):Int)>4096)) (
 some (false,2)) (
 (wd c).bind fun f=>
 br (!f) (
 some (false,19)) (
 (wq c).bind fun e=>
 (vy e t a p b).bind fun d=>
 some (d.1,d.2)))
theorem L7 {c t b p a r} (h:gY c t b p a=some r):Call tab ow 49 [.agg [sl eGate c.Gates],.agg [I t.Rate,I t.Queries,I t.Grind],sl eI b,.agg [S p.Root,sl (eL eExt) p.Gates,I p.VA.A,I p.VA.B,I p.VB.A,I p.VB.B,I p.VC.A,I p.VC.B,sl (eL eExt) p.Wires,I p.VW.A,I p.VW.B,sl (eL eExt) p.Open.Rounds,sl eS p.Open.Roots,I p.Open.Last.A,I p.Open.Last.B,I p.Open.Nonce,sl eQuery p.Open.Queries],.agg [sl eExt a.Script,I a.At,S a.State,I a.Count]] []=some (.tup [B r.1,I r.2],[]):=by
 rw [aj (af:=nP) rfl]
 unfold gY at h
 simp only [nP,Ae]
 have d1:= @UH
 have d2:= @Vy
 have d3:= @a7l
 exact go2
def wx (s:bk) (t:Setting) (a:(List Int)) (p:Proof) (b:Source):Option (Bool×Int):=
 (ws s t a b).bind fun d=>
 br (d !=0) (
 some (false,d)) (
 (Dk s t a p b).bind fun c=>
 some (c.1,c.2))
theorem a5W {s t b p a r} (h:wx s t b p a=some r):Call tab ow 62 [.agg [I s.Rows,I s.Cols,I s.Publics,sl aA s.A,sl aA s.B,sl aA s.C],.agg [I t.Rate,I t.Queries,I t.Grind],sl eI b,.agg [S p.Root,sl (eL eExt) p.Gates,I p.VA.A,I p.VA.B,I p.VB.A,I p.VB.B,I p.VC.A,I p.VC.B,sl (eL eExt) p.Wires,I p.VW.A,I p.VW.B,sl (eL eExt) p.Open.Rounds,sl eS p.Open.Roots,I p.Open.Last.A,I p.Open.Last.B,I p.Open.Nonce,sl eQuery p.Open.Queries],.agg [sl eExt a.Script,I a.At,S a.State,I a.Count]] []=some (.tup [B r.1,I r.2],[]):=by
 rw [aj (af:=CZ) rfl]
 unfold wx at h
 simp only [CZ,SO]
 have d1:= @V5
 have d2:= @YE
 exact go2
def gU (c:Circuit) (t:Setting) (a:(List Int)) (p:Proof) (b:Source):Option (Bool×Int):=
 br (decide (((a.length:Nat):Int)>4096)) (
 some (false,2)) (
 (wm c).bind fun f=>
 br (!f) (
 some (false,19)) (
 (ly c).bind fun e=>
 (wx e t a p b).bind fun d=>
 some (d.1,d.2)))
theorem LR {c t b p a r} (h:gU c t b p a=some r):Call tab ow 55 [.agg [sl eGate c.Gates],.agg [I t.Rate,I t.Queries,I t.Grind],sl eI b,.agg [S p.Root,sl (eL eExt) p.Gates,I p.VA.A,I p.VA.B,I p.VB.A,I p.VB.B,I p.VC.A,I p.VC.B,sl (eL eExt) p.Wires,I p.VW.A,I p.VW.B,sl (eL eExt) p.Open.Rounds,sl eS p.Open.Roots,I p.Open.Last.A,I p.Open.Last.B,I p.Open.Nonce,sl eQuery p.Open.Queries],.agg [sl eExt a.Script,I a.At,S a.State,I a.Count]] []=some (.tup [B r.1,I r.2],[]):=by
 rw [aj (af:=nW) rfl]
 unfold gU at h
 simp only [nW,Ay]
 have d1:= @Va
 have d2:= @Ku
 have d3:= @a5W
 exact go2
def KN (a b:Gate):Option (Bool):=
 br (a.Op !=b.Op) (
 some false) (
 br (a.A !=b.A) (
 some false) (
 br (a.B !=b.B) (
 some false) (
 br (a.K !=b.K) (
 some false) (
 some true))))
theorem a5N {a b r} (h:KN a b=some r):Call tab ow 277 [.agg [I a.Op,I a.A,I a.B,I a.K],.agg [I b.Op,I b.A,I b.B,I b.K]] []=some (B r,[]):=by
 rw [aj (af:=E0) rfl]
 unfold KN at h
 simp only [E0,R4]
 exact go2
def pV (a c:List Gate):Int->Option ((Int)⊕(Unit⊕(Int×Bool)))
 |i=>
  br (decide (i<((a.length:Nat):Int))) (
  (atL a i).bind fun x=>
  (atL c i).bind fun d=>
  (KN x d).bind fun b=>
  br (!b) (
  some (.inr (.inl ()))) (
  some (.inl (wrap .i64 (i+1))))) (
  some (.inr (.inr (i,decide (i<((a.length:Nat):Int))))))
theorem Vi {a b}:LX tab ow (.close [7008]) IC (pV a b) (fun s=>⟨[(0,sl eGate a),(1,sl eGate b),(5,I s)],[]⟩) (alt (fun e=>((.ret,⟨[(4,B false)],[]⟩):bT×St)) (fun e=>(.exit 0,⟨[(0,sl eGate a),(1,sl eGate b),(5,I e.1),(14,B e.2)],[]⟩))):=by
 refine lrX (fun s o h=> ?_)
 simp only [pV] at h
 simp only [IC,IZ]
 have d1:= @a5N
 exact go2
def Cy (a b:(List Gate)):Option (Bool):=
 br (((a.length:Nat):Int) !=((b.length:Nat):Int)) (
 some false) (
 (Loop (pV a b) 0).bind (alt (fun d=>
 some false) (fun c=>
 some true)))
theorem a4u {a b r} (h:Cy a b=some r):Call tab ow 155 [sl eGate a,sl eGate b] []=some (B r,[]):=by
 rw [aj (af:=zR) rfl]
 unfold Cy at h
 simp only [zR,GK]
 have d1:= @Vi
 exact go2
def w9 (a b:Circuit):Option (Bool):=
 (Cy a.Gates b.Gates).bind fun c=>
 br (!c) (
 some false) (
 some true)
theorem WC {a b r} (h:w9 a b=some r):Call tab ow 56 [.agg [sl eGate a.Gates],.agg [sl eGate b.Gates]] []=some (B r,[]):=by
 rw [aj (af:=uE) rfl]
 unfold w9 at h
 simp only [uE,Jr]
 have d1:= @a4u
 exact go2
def xU (a b:List Int):Int->Option ((Int)⊕(Unit⊕(Int×Bool)))
 |i=>
  br (decide (i<((a.length:Nat):Int))) (
  (atL a i).bind fun x=>
  (atL b i).bind fun c=>
  br (x !=c) (
  some (.inr (.inl ()))) (
  some (.inl (wrap .i64 (i+1))))) (
  some (.inr (.inr (i,decide (i<((a.length:Nat):Int))))))
theorem YH {a b}:LX tab ow (.close []) Mj (xU a b) (fun s=>⟨[(0,sl eI a),(1,sl eI b),(5,I s)],[]⟩) (alt (fun e=>((.ret,⟨[(4,B false)],[]⟩):bT×St)) (fun e=>(.exit 0,⟨[(0,sl eI a),(1,sl eI b),(5,I e.1),(14,B e.2)],[]⟩))):=by
 refine lrX (fun s o h=> ?_)
 simp only [xU] at h
 simp only [Mj,LW]
 exact go2
def FD (a b:(List Int)):Option (Bool):=
 br (((a.length:Nat):Int) !=((b.length:Nat):Int)) (
 some false) (
 (Loop (xU a b) 0).bind (alt (fun d=>
 some false) (fun c=>
 some true)))
theorem a79 {a b r} (h:FD a b=some r):Call tab ow 57 [sl eI a,sl eI b] []=some (B r,[]):=by
 rw [aj (af:=CQ) rfl]
 unfold FD at h
 simp only [CQ,Kd]
 have d1:= @YH
 exact go2
def sJ (a b:Ext):Option (Bool):=
 br (a.A !=b.A) (
 some false) (
 br (a.B !=b.B) (
 some false) (
 some true))
theorem NA {a b r} (h:sJ a b=some r):Call tab ow 157 [.agg [I a.A,I a.B],.agg [I b.A,I b.B]] []=some (B r,[]):=by
 rw [aj (af:=Hv) rfl]
 unfold sJ at h
 simp only [Hv,Xp]
 exact go2
def Du (a c:List Ext):Int->Option ((Int)⊕(Unit⊕(Int×Bool)))
 |i=>
  br (decide (i<((a.length:Nat):Int))) (
  (atL a i).bind fun x=>
  (atL c i).bind fun d=>
  (sJ x d).bind fun b=>
  br (!b) (
  some (.inr (.inl ()))) (
  some (.inl (wrap .i64 (i+1))))) (
  some (.inr (.inr (i,decide (i<((a.length:Nat):Int))))))
theorem a0f {a b}:LX tab ow (.close [7008]) L2 (Du a b) (fun s=>⟨[(0,sl eExt a),(1,sl eExt b),(5,I s)],[]⟩) (alt (fun e=>((.ret,⟨[(4,B false)],[]⟩):bT×St)) (fun e=>(.exit 0,⟨[(0,sl eExt a),(1,sl eExt b),(5,I e.1),(14,B e.2)],[]⟩))):=by
 refine lrX (fun s o h=> ?_)
 simp only [Du] at h
 simp only [L2,Lm]
 have d1:= @NA
 exact go2
def vI (a b:(List Ext)):Option (Bool):=
 br (((a.length:Nat):Int) !=((b.length:Nat):Int)) (
 some false) (
 (Loop (Du a b) 0).bind (alt (fun d=>
 some false) (fun c=>
 some true)))
theorem JP {a b r} (h:vI a b=some r):Call tab ow 159 [sl eExt a,sl eExt b] []=some (B r,[]):=by
 rw [aj (af:=CU) rfl]
 unfold vI at h
 simp only [CU,JW]
 have d1:= @a0f
 exact go2
def AY (a c:List (List Ext)):Int->Option ((Int)⊕(Unit⊕(Int×Bool)))
 |i=>
  br (decide (i<((a.length:Nat):Int))) (
  (atL a i).bind fun x=>
  (atL c i).bind fun d=>
  (vI x d).bind fun b=>
  br (!b) (
  some (.inr (.inl ()))) (
  some (.inl (wrap .i64 (i+1))))) (
  some (.inr (.inr (i,decide (i<((a.length:Nat):Int))))))
theorem Uy {a b}:LX tab ow (.close [7008]) Ja (AY a b) (fun s=>⟨[(0,sl (eL eExt) a),(1,sl (eL eExt) b),(5,I s)],[]⟩) (alt (fun e=>((.ret,⟨[(4,B false)],[]⟩):bT×St)) (fun e=>(.exit 0,⟨[(0,sl (eL eExt) a),(1,sl (eL eExt) b),(5,I e.1),(14,B e.2)],[]⟩))):=by
 refine lrX (fun s o h=> ?_)
 simp only [AY] at h
 simp only [Ja,Ji]
 have d1:= @JP
 exact go2
def tY (a b:(List (List Ext))):Option (Bool):=
 br (((a.length:Nat):Int) !=((b.length:Nat):Int)) (
 some false) (
 (Loop (AY a b) 0).bind (alt (fun d=>
 some false) (fun c=>
 some true)))
theorem O6 {a b r} (h:tY a b=some r):Call tab ow 156 [sl (eL eExt) a,sl (eL eExt) b] []=some (B r,[]):=by
 rw [aj (af:=Ac) rfl]
 unfold tY at h
 simp only [Ac,Gj]
 have d1:= @Uy
 exact go2
def qZ (a b:List (List UInt8)):Int->Option ((Int)⊕(Unit⊕(Int×Bool)))
 |i=>
  br (decide (i<((a.length:Nat):Int))) (
  (atL a i).bind fun x=>
  (atL b i).bind fun c=>
  br (x !=c) (
  some (.inr (.inl ()))) (
  some (.inl (wrap .i64 (i+1))))) (
  some (.inr (.inr (i,decide (i<((a.length:Nat):Int))))))
theorem Ps {a b}:LX tab ow (.close []) EU (qZ a b) (fun s=>⟨[(0,sl eS a),(1,sl eS b),(5,I s)],[]⟩) (alt (fun e=>((.ret,⟨[(4,B false)],[]⟩):bT×St)) (fun e=>(.exit 0,⟨[(0,sl eS a),(1,sl eS b),(5,I e.1),(14,B e.2)],[]⟩))):=by
 refine lrX (fun s o h=> ?_)
 simp only [qZ] at h
 simp only [EU,F5]
 exact go2
def o9 (a b:(List (List UInt8))):Option (Bool):=
 br (((a.length:Nat):Int) !=((b.length:Nat):Int)) (
 some false) (
 (Loop (qZ a b) 0).bind (alt (fun d=>
 some false) (fun c=>
 some true)))
theorem If {a b r} (h:o9 a b=some r):Call tab ow 278 [sl eS a,sl eS b] []=some (B r,[]):=by
 rw [aj (af:=uU) rfl]
 unfold o9 at h
 simp only [uU,B4]
 have d1:= @Ps
 exact go2
def tx (a c:List (List (List UInt8))):Int->Option ((Int)⊕(Unit⊕(Int×Bool)))
 |i=>
  br (decide (i<((a.length:Nat):Int))) (
  (atL a i).bind fun x=>
  (atL c i).bind fun d=>
  (o9 x d).bind fun b=>
  br (!b) (
  some (.inr (.inl ()))) (
  some (.inl (wrap .i64 (i+1))))) (
  some (.inr (.inr (i,decide (i<((a.length:Nat):Int))))))
theorem MG {a b}:LX tab ow (.close [7008]) BJ (tx a b) (fun s=>⟨[(0,sl (eL eS) a),(1,sl (eL eS) b),(5,I s)],[]⟩) (alt (fun e=>((.ret,⟨[(4,B false)],[]⟩):bT×St)) (fun e=>(.exit 0,⟨[(0,sl (eL eS) a),(1,sl (eL eS) b),(5,I e.1),(14,B e.2)],[]⟩))):=by
 refine lrX (fun s o h=> ?_)
 simp only [tx] at h
 simp only [BJ,Cv]
 have d1:= @If
 exact go2
def sj (a b:(List (List (List UInt8)))):Option (Bool):=
 br (((a.length:Nat):Int) !=((b.length:Nat):Int)) (
 some false) (
 (Loop (tx a b) 0).bind (alt (fun d=>
 some false) (fun c=>
 some true)))
theorem SA {a b r} (h:sj a b=some r):Call tab ow 375 [sl (eL eS) a,sl (eL eS) b] []=some (B r,[]):=by
 rw [aj (af:=sS) rfl]
 unfold sj at h
 simp only [sS,zD]
 have d1:= @MG
 exact go2
def yp (a b:Query):Option (Bool):=
 (vI a.Pairs b.Pairs).bind fun d=>
 br (!d) (
 some false) (
 (sj a.Paths b.Paths).bind fun c=>
 br (!c) (
 some false) (
 some true))
theorem a2n {a b r} (h:yp a b=some r):Call tab ow 343 [.agg [sl eExt a.Pairs,sl (eL eS) a.Paths],.agg [sl eExt b.Pairs,sl (eL eS) b.Paths]] []=some (B r,[]):=by
 rw [aj (af:=Ao) rfl]
 unfold yp at h
 simp only [Ao,NZ]
 have d1:= @JP
 have d2:= @SA
 exact go2
def yr (a c:List Query):Int->Option ((Int)⊕(Unit⊕(Int×Bool)))
 |i=>
  br (decide (i<((a.length:Nat):Int))) (
  (atL a i).bind fun x=>
  (atL c i).bind fun d=>
  (yp x d).bind fun b=>
  br (!b) (
  some (.inr (.inl ()))) (
  some (.inl (wrap .i64 (i+1))))) (
  some (.inr (.inr (i,decide (i<((a.length:Nat):Int))))))
theorem TW {a b}:LX tab ow (.close [7008]) GU (yr a b) (fun s=>⟨[(0,sl eQuery a),(1,sl eQuery b),(5,I s)],[]⟩) (alt (fun e=>((.ret,⟨[(4,B false)],[]⟩):bT×St)) (fun e=>(.exit 0,⟨[(0,sl eQuery a),(1,sl eQuery b),(5,I e.1),(14,B e.2)],[]⟩))):=by
 refine lrX (fun s o h=> ?_)
 simp only [yr] at h
 simp only [GU,Gt]
 have d1:= @a2n
 exact go2
def zr (a b:(List Query)):Option (Bool):=
 br (((a.length:Nat):Int) !=((b.length:Nat):Int)) (
 some false) (
 (Loop (yr a b) 0).bind (alt (fun d=>
 some false) (fun c=>
 some true)))
theorem Yu {a b r} (h:zr a b=some r):Call tab ow 279 [sl eQuery a,sl eQuery b] []=some (B r,[]):=by
 rw [aj (af:=y4) rfl]
 unfold zr at h
 simp only [y4,Di]
 have d1:= @TW
 exact go2
def wA (a b:Opening):Option (Bool):=
 (tY a.Rounds b.Rounds).bind fun f=>
 br (!f) (
 some false) (
 (o9 a.Roots b.Roots).bind fun c=>
 br (!c) (
 some false) (
 (sJ a.Last b.Last).bind fun e=>
 br (!e) (
 some false) (
 br (a.Nonce !=b.Nonce) (
 some false) (
 (zr a.Queries b.Queries).bind fun d=>
 br (!d) (
 some false) (
 some true)))))
theorem Wj {a b r} (h:wA a b=some r):Call tab ow 158 [.agg [sl (eL eExt) a.Rounds,sl eS a.Roots,I a.Last.A,I a.Last.B,I a.Nonce,sl eQuery a.Queries],.agg [sl (eL eExt) b.Rounds,sl eS b.Roots,I b.Last.A,I b.Last.B,I b.Nonce,sl eQuery b.Queries]] []=some (B r,[]):=by
 rw [aj (af:=uw) rfl]
 unfold wA at h
 simp only [uw,IT]
 have d1:= @O6
 have d2:= @If
 have d3:= @NA
 have d4:= @Yu
 exact go2
def BG (a b:Proof):Option (Bool):=
 br (a.Root !=b.Root) (
 some false) (
 (tY a.Gates b.Gates).bind fun j=>
 br (!j) (
 some false) (
 (sJ a.VA b.VA).bind fun f=>
 br (!f) (
 some false) (
 (sJ a.VB b.VB).bind fun i=>
 br (!i) (
 some false) (
 (sJ a.VC b.VC).bind fun h=>
 br (!h) (
 some false) (
 (tY a.Wires b.Wires).bind fun c=>
 br (!c) (
 some false) (
 (sJ a.VW b.VW).bind fun e=>
 br (!e) (
 some false) (
 (wA a.Open b.Open).bind fun d=>
 br (!d) (
 some false) (
 some true))))))))
theorem a3n {a b r} (h:BG a b=some r):Call tab ow 58 [.agg [S a.Root,sl (eL eExt) a.Gates,I a.VA.A,I a.VA.B,I a.VB.A,I a.VB.B,I a.VC.A,I a.VC.B,sl (eL eExt) a.Wires,I a.VW.A,I a.VW.B,sl (eL eExt) a.Open.Rounds,sl eS a.Open.Roots,I a.Open.Last.A,I a.Open.Last.B,I a.Open.Nonce,sl eQuery a.Open.Queries],.agg [S b.Root,sl (eL eExt) b.Gates,I b.VA.A,I b.VA.B,I b.VB.A,I b.VB.B,I b.VC.A,I b.VC.B,sl (eL eExt) b.Wires,I b.VW.A,I b.VW.B,sl (eL eExt) b.Open.Rounds,sl eS b.Open.Roots,I b.Open.Last.A,I b.Open.Last.B,I b.Open.Nonce,sl eQuery b.Open.Queries]] []=some (B r,[]):=by
 rw [aj (af:=AK) rfl]
 unfold BG at h
 simp only [AK,NL]
 have d1:= @O6
 have d2:= @NA
 have d3:= @Wj
 exact go2
def yW (a b:Source):Option (Bool):=
 (vI a.Script b.Script).bind fun c=>
 br (!c) (
 some false) (
 br (a.At !=b.At) (
 some false) (
 br (a.State !=b.State) (
 some false) (
 br (a.Count !=b.Count) (
 some false) (
 some true))))
theorem YC {a b r} (h:yW a b=some r):Call tab ow 59 [.agg [sl eExt a.Script,I a.At,S a.State,I a.Count],.agg [sl eExt b.Script,I b.At,S b.State,I b.Count]] []=some (B r,[]):=by
 rw [aj (af:=ya) rfl]
 unfold yW at h
 simp only [ya,Mf]
 have d1:= @JP
 exact go2
def jd (b:Circuit) (a:Setting) (u:(List Int)) (t:Proof) (v:Source):Option (Bool):=
 br (decide (((u.length:Nat):Int)>1048576)) (
 some true) (
 (wy b 1048576).bind fun r_=>
 br (decide (r_<0)) (
 some true) (
 (BH t r_).bind fun k=>
 br (decide (k<0)) (
 some true) (
 (zC v k).bind fun y=>
 br (decide (y<0)) (
 some true) (
 (oh b).bind fun w=>
 (vU a).bind fun z=>
 (yH u).bind fun r_6=>
 (tQ t).bind fun r_7=>
 (rq v).bind fun x=>
 (gY w z r_6 r_7 x).bind fun n=>
 (oh b).bind fun h=>
 (yH u).bind fun f=>
 (tQ t).bind fun e=>
 (rq v).bind fun c=>
 (vU a).bind fun o=>
 (gU h o f e c).bind fun d=>
 br (d.1 !=n.1) (
 some false) (
 br (d.2 !=n.2) (
 some false) (
 (oh b).bind fun i=>
 (w9 h i).bind fun l=>
 br (!l) (
 some false) (
 (yH u).bind fun m=>
 (FD f m).bind fun q=>
 br (!q) (
 some false) (
 (tQ t).bind fun r=>
 (BG e r).bind fun p=>
 br (!p) (
 some false) (
 (rq v).bind fun j=>
 (yW c j).bind fun s=>
 br (!s) (
 some false) (
 some true))))))))))
theorem w_FnExactVerifyCircuit_c {b a e c d r} (h:jd b a e c d=some r):Call tab ow 7 [.agg [sl eGate b.Gates],.agg [I a.Rate,I a.Queries,I a.Grind],sl eI e,.agg [S c.Root,sl (eL eExt) c.Gates,I c.VA.A,I c.VA.B,I c.VB.A,I c.VB.B,I c.VC.A,I c.VC.B,sl (eL eExt) c.Wires,I c.VW.A,I c.VW.B,sl (eL eExt) c.Open.Rounds,sl eS c.Open.Roots,I c.Open.Last.A,I c.Open.Last.B,I c.Open.Nonce,sl eQuery c.Open.Queries],.agg [sl eExt d.Script,I d.At,S d.State,I d.Count]] []=some (B r,[]):=by
 rw [aj (af:=a_w_FnExactVerifyCircuit) rfl]
 unfold jd at h
 simp only [a_w_FnExactVerifyCircuit,qa]
 have d1:= @WB
 have d2:= @a3u
 have d3:= @a0h
 have d4:= @UR
 have d5:= @V4
 have d6:= @a7v
 have d7:= @a3w
 have d8:= @a1A
 have d9:= @L7
 have d10:= @LR
 have d11:= @WC
 have d12:= @a79
 have d13:= @a3n
 have d14:= @YC
 exact go2
end
end Go.AI.Fn
