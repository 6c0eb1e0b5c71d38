/- Part. -/
import Derived.Test.YtdnkignjanfikaaGreatFx2
set_option linter.unusedVariables false
set_option linter.unusedSimpArgs false
set_option maxRecDepth 100000
set_option maxHeartbeats 1000000
namespace Go.AI.Fn
noncomputable section
open IntKind (wrap)
section
@[local go_sem] theorem c0W:mkR 2039 []=rws eExt []:=rfl
def u4 (l:List Ext) (c:List UInt8) (a:List (List Ext)) (c3 c4 c5 c6 c7 c8:Int) (z:List (List Ext)) (e r:Int) (j:List (List Ext)) (w:List (List UInt8)) (k h n:Int) (o:List Query) (v p s:Int) (m d u:List au) (f y q:Int):Int->Option ((Int)⊕(Unit⊕(Int×Bool)))
 |t=>
  br (decide (t<(a.length:Int))) (
  (atL a t).bind fun x=>
  br ((x.length:Int) !=4) (
  some (.inr (.inl ()))) (
  (atL a t).bind fun i=>
  (lJ i).bind fun b=>
  br (!b) (
  some (.inr (.inl ()))) (
  some (.inl (wrap .i64 (t+1)))))) (
  some (.inr (.inr (t,decide (t<(a.length:Int))))))
abbrev u7 (l:List Ext) (c:List UInt8) (u:List (List Ext)) (z y w x c7 c8:Int) (v:List (List Ext)) (b o:Int) (f:List (List Ext)) (s:List (List UInt8)) (h e j:Int) (k:List Query) (r m p:Int) (i a q:List au) (d t n:Int):List (Nat×Blk):=[(1000,⟨17,true,[[S c,sl (eL eExt) u,I z,I y,I w,I x,I c7,I c8,sl (eL eExt) v,I b,I o,sl (eL eExt) f,sl eS s,I h,I e,I j,sl eQuery k]]⟩),(1001,⟨6,true,[[I r,I m,I p,sl aA i,sl aA a,sl aA q]]⟩),(1002,⟨3,true,[[I d,I t,I n]]⟩),(2039,⟨2,false,rws eExt l⟩)]
theorem To {l c y c3 c4 c5 c6 c7 c8 z b r i w j f m n v p t k a u d x q}:LX tab ow (.close [7013]) IR (u4 l c y c3 c4 c5 c6 c7 c8 z b r i w j f m n v p t k a u d x q) (fun s=>⟨[(3,.ptr 1000 0 0 1),(4,.ptr 1001 0 0 1),(5,.ptr 1002 0 0 1),(7,I s)],u7 l c y c3 c4 c5 c6 c7 c8 z b r i w j f m n v p t k a u d x q⟩) (alt (fun e=>((.ret,⟨[(6,B false)],u7 l c y c3 c4 c5 c6 c7 c8 z b r i w j f m n v p t k a u d x q⟩):bR×St)) (fun e=>(.exit 0,⟨[(3,.ptr 1000 0 0 1),(4,.ptr 1001 0 0 1),(5,.ptr 1002 0 0 1),(7,I e.1),(56,B e.2)],u7 l c y c3 c4 c5 c6 c7 c8 z b r i w j f m n v p t k a u d x q⟩))):=by
 refine lrX (fun s o h=> ?_)
 simp only [u4] at h
 simp only [u7,IR,IL]
 have d1:= @rj
 exact go2
def uQ (l2:List Ext) (l:List UInt8) (p:List (List Ext)) (x c30 r c32 w s:Int) (a:List (List Ext)) (u v:Int) (n:List (List Ext)) (t:List (List UInt8)) (c40 c41 f:Int) (k:List Query) (q o i:Int) (m c48 e:List au) (h d y:Int):Int->Option ((Int)⊕(Unit⊕(Int×Bool)))
 |b=>
  br (decide (b<(a.length:Int))) (
  (atL a b).bind fun j=>
  br ((j.length:Int) !=3) (
  some (.inr (.inl ()))) (
  (atL a b).bind fun z=>
  (lJ z).bind fun c=>
  br (!c) (
  some (.inr (.inl ()))) (
  some (.inl (wrap .i64 (b+1)))))) (
  some (.inr (.inr (b,decide (b<(a.length:Int))))))
abbrev ui (l2:List Ext) (i:List UInt8) (m:List (List Ext)) (u y o w t p:Int) (f:List (List Ext)) (r s:Int) (k:List (List Ext)) (q:List (List UInt8)) (x z c:Int) (h:List Query) (n l e:Int) (j c48 b:List au) (d a v:Int):List (Nat×Blk):=[(1000,⟨17,true,[[S i,sl (eL eExt) m,I u,I y,I o,I w,I t,I p,sl (eL eExt) f,I r,I s,sl (eL eExt) k,sl eS q,I x,I z,I c,sl eQuery h]]⟩),(1001,⟨6,true,[[I n,I l,I e,sl aA j,sl aA c48,sl aA b]]⟩),(1002,⟨3,true,[[I d,I a,I v]]⟩),(2039,⟨2,false,rws eExt l2⟩)]
theorem V6 {l2 j n y r q c32 x u f v w l t c40 c41 c42 i p m d k c48 b c a z}:LX tab ow (.close [12013]) ID (uQ l2 j n y r q c32 x u f v w l t c40 c41 c42 i p m d k c48 b c a z) (fun s=>⟨[(3,.ptr 1000 0 0 1),(4,.ptr 1001 0 0 1),(5,.ptr 1002 0 0 1),(8,I s)],ui l2 j n y r q c32 x u f v w l t c40 c41 c42 i p m d k c48 b c a z⟩) (alt (fun e=>((.ret,⟨[(6,B false)],ui l2 j n y r q c32 x u f v w l t c40 c41 c42 i p m d k c48 b c a z⟩):bR×St)) (fun e=>(.exit 2,⟨[(3,.ptr 1000 0 0 1),(4,.ptr 1001 0 0 1),(5,.ptr 1002 0 0 1),(8,I e.1),(79,B e.2)],ui l2 j n y r q c32 x u f v w l t c40 c41 c42 i p m d k c48 b c a z⟩))):=by
 refine lrX (fun s o h=> ?_)
 simp only [uQ] at h
 simp only [ui,ID,Io]
 have d1:= @rj
 exact go2
def BP (b:Proof) (a:bj) (c:Setting):Option Bool:=
 (sZ a).bind fun l=>
 br (!l) (
 some false) (
 (nK c).bind fun f=>
 br (!f) (
 some false) (
 br ((b.Root.length:Int) !=32) (
 some false) (
 br ((b.Gates.length:Int) !=a.Rows) (
 some false) (
 br ((b.Wires.length:Int) !=a.Cols) (
 some false) (
 (lJ ([b.VA,b.VB,b.VC,b.VW]:List Ext)).bind fun e=>
 br (!e) (
 some false) (
 (Loop (u4 ([b.VA,b.VB,b.VC,b.VW]:List Ext) b.Root b.Gates b.VA.A b.VA.B b.VB.A b.VB.B b.VC.A b.VC.B b.Wires b.VW.A b.VW.B b.Open.Rounds b.Open.Roots b.Open.Last.A b.Open.Last.B b.Open.Nonce b.Open.Queries a.Rows a.Cols a.Publics a.A a.B a.C c.Rate c.Queries c.Grind) 0).bind (alt (fun j=>
 some false) (fun i=>
 (Loop (uQ ([b.VA,b.VB,b.VC,b.VW]:List Ext) b.Root b.Gates b.VA.A b.VA.B b.VB.A b.VB.B b.VC.A b.VC.B b.Wires b.VW.A b.VW.B b.Open.Rounds b.Open.Roots b.Open.Last.A b.Open.Last.B b.Open.Nonce b.Open.Queries a.Rows a.Cols a.Publics a.A a.B a.C c.Rate c.Queries c.Grind) 0).bind (alt (fun h=>
 some false) (fun k=>
 (vH b.Open (wrap .i64 (a.Cols-1)) c).bind fun d=>
 some d))))))))))
theorem ZZ {b a c r} (h:BP b a c=some r):Call tab ow 140 [.agg [S b.Root,sl (eL eExt) b.Gates,I b.VA.A,I b.VA.B,I b.VB.A,I b.VB.B,I b.VC.A,I b.VC.B,sl (eL eExt) b.Wires,I b.VW.A,I b.VW.B,sl (eL eExt) b.Open.Rounds,sl eS b.Open.Roots,I b.Open.Last.A,I b.Open.Last.B,I b.Open.Nonce,sl eQuery b.Open.Queries],.agg [I a.Rows,I a.Cols,I a.Publics,sl aA a.A,sl aA a.B,sl aA a.C],.agg [I c.Rate,I c.Queries,I c.Grind]] []=some (B r,[]):=by
 rw [aj (af:=Ag) rfl]
 unfold BP at h
 simp only [Ag,Af]
 have d1:= @KF
 have d2:= @Ax
 have d3:= @rj
 have d4:= @To
 have d5:= @V6
 have d6:= @Tl
 exact go2
end
def Gt (s:bj) (t:Setting) (a:List Int) (b:Source):Option Int:=
 br (decide ((a.length:Int)>4096)) (
 some 2) (
 (sZ s).bind fun h=>
 br (!h) (
 some 1) (
 (nK t).bind fun f=>
 br (!f) (
 some 1) (
 (vv a).bind fun d=>
 br (!d) (
 some 1) (
 (yU b).bind fun c=>
 br (!c) (
 some 1) (
 br ((a.length:Int) !=s.Publics) (
 some 17) (
 (DE b 200).bind fun e=>
 br e (
 some 6) (
 some 0)))))))
theorem a5z {s t b a r} (h:Gt s t b a=some r):Call tab ow 142 [.agg [I s.Rows,I s.Cols,I s.Publics,sl aA s.A,sl aA s.B,sl aA s.C],.agg [I t.Rate,I t.Queries,I t.Grind],sl eI b,.agg [sl eExt a.Script,I a.At,S a.State,I a.Count]] []=some (I r,[]):=by
 rw [aj (af:=Cu) rfl]
 unfold Gt at h
 simp only [Cu,Q8]
 have d1:= @KF
 have d2:= @Ax
 have d3:= @UK
 have d4:= @WN
 have d5:= @Zf
 exact go2
def kE (a:List Ext) (j p m r o n l:Int):Int×Int×Int×Int->Option ((Int×Int×Int×Int)⊕((Int×Int×Bool×Int×Int)))
 | (d,k,c,b)=>
   br (decide (k<(a.length:Int))) (
   br (k !=j) (
   (s6 k).bind fun q=>
   (vE (Ext.mk p m) q).bind fun i=>
   (dz (Ext.mk c b) i).bind fun e=>
   (yi j k).bind fun f=>
   (lf d f).bind fun h=>
   some (.inl (h,(wrap .i64 (k+1)),e.A,e.B))) (
   some (.inl (d,(wrap .i64 (k+1)),c,b)))) (
   some (.inr (d,k,decide (k<(a.length:Int)),c,b)))
abbrev AP (i f h d c a e b:Int):List (Nat×Blk):=[(1000,⟨2,true,[[I i,I f]]⟩),(1001,⟨2,true,[[I h,I d]]⟩),(2001,⟨2,true,[[I c,I a]]⟩),(6004,⟨2,true,[[I e,I b]]⟩)]
theorem TV {a f k j i c d b}:LX tab ow (.close [12003,12004,12005,13003,13004]) J9 (kE a f k j i c d b) (fun s=>⟨[(0,sl eExt a),(3,.ptr 1000 0 0 1),(4,.ptr 1001 0 0 1),(5,.ptr 2001 0 0 1),(6,I f),(7,.ptr 6004 0 0 1),(8,I s.1),(9,I s.2.1)],AP k j i c d b s.2.2.1 s.2.2.2⟩) (fun e=>(.exit 2,⟨[(0,sl eExt a),(3,.ptr 1000 0 0 1),(4,.ptr 1001 0 0 1),(5,.ptr 2001 0 0 1),(6,I f),(7,.ptr 6004 0 0 1),(8,I e.1),(9,I e.2.1),(24,B e.2.2.1)],AP k j i c d b e.2.2.2.1 e.2.2.2.2⟩)):=by
 refine lrX (fun s o h=> ?_)
 obtain ⟨_,_,_,_⟩:=s
 simp only [kE] at h
 simp only [AP,J9,Ig]
 have d1:= @xS
 have d2:= @Do
 have d3:= @kz
 have d4:= @QP
 have d5:= @CE
 exact go2
def ky (a:List Ext) (c m o n:Int):Int×Int×Int->Option ((Int×Int×Int)⊕((Int×Bool×Int×Int)))
 | (i,j,k)=>
   br (decide (i<(a.length:Int))) (
   (atL a i).bind fun l=>
   (Loop (kE a i c m o n j k) (1,0,l.A,l.B)).bind fun f=>
   (ma f.1).bind fun e=>
   (s6 e).bind fun h=>
   (dz (Ext.mk f.2.2.2.1 f.2.2.2.2) h).bind fun d=>
   (iX (Ext.mk j k) d).bind fun b=>
   some (.inl ((wrap .i64 (i+1)),b.A,b.B))) (
   some (.inr (i,decide (i<(a.length:Int)),j,k)))
abbrev AN (c a f b d e:Int):List (Nat×Blk):=[(1000,⟨2,true,[[I c,I a]]⟩),(1001,⟨2,true,[[I f,I b]]⟩),(2001,⟨2,true,[[I d,I e]]⟩)]
theorem UU {a c b d f}:LX tab ow (.close [6004,12003,12004,12005,13003,13004,14003,14004,14005,14006]) HC (ky a c b d f) (fun s=>⟨[(0,sl eExt a),(3,.ptr 1000 0 0 1),(4,.ptr 1001 0 0 1),(5,.ptr 2001 0 0 1),(6,I s.1)],AN c b d f s.2.1 s.2.2⟩) (fun e=>(.exit 0,⟨[(0,sl eExt a),(3,.ptr 1000 0 0 1),(4,.ptr 1001 0 0 1),(5,.ptr 2001 0 0 1),(6,I e.1),(14,B e.2.1)],AN c b d f e.2.2.1 e.2.2.2⟩)):=by
 refine lrX (fun s o h=> ?_)
 obtain ⟨_,_,_⟩:=s
 simp only [ky] at h
 simp only [AN,HC,HE]
 have d1:= @TV
 have d2:= @Ga
 have d3:= @xS
 have d4:= @kz
 have d5:= @nE
 exact go2
def xM (a:List Ext) (x:Ext):Option Ext:=
 (Loop (ky a x.A x.B 0 0) (0,0,0)).bind fun b=>
 some (Ext.mk b.2.2.1 b.2.2.2)
theorem Nn {a x r} (h:xM a x=some r):Call tab ow 231 [sl eExt a,.agg [I x.A,I x.B]] []=some (.agg [I r.A,I r.B],[]):=by
 rw [aj (af:=Ac) rfl]
 unfold xM at h
 simp only [Ac,zA]
 have d1:= @UU
 exact go2
section
@[local go_sem] theorem b5u:mkR 3000 []=rws eExt []:=rfl
@[local go_sem] theorem b4C:mkR 4000 []=rws eExt []:=rfl
@[local go_sem] theorem b3p:mkR 10000 []=rws eExt []:=rfl
@[local go_sem] theorem b6m:mkR 17002 []=rws eExt []:=rfl
@[local go_sem] theorem b5G:mkR 12000 []=rws eExt []:=rfl
def dY (a:Int) (t:List (List Ext)) (o w y v:Int) (p:List UInt8) (s:Int):(List Ext)×Int×Int×Int×(List Ext)×Int×(List UInt8)×Int->Option (((List Ext)×Int×Int×Int×(List Ext)×Int×(List UInt8)×Int)⊕(((List Ext)×(List Ext)×Int×Int×(List Ext)×Int×(List UInt8)×Int×(List Ext)×Int×(List UInt8)×Int)⊕((List Ext)×(List Ext)×Int×Int×(List Ext)×Int×(List UInt8)×Int×(List Ext)×Int×(List UInt8)×Int)⊕((List Ext)×Int×Bool×Int×Int×(List Ext)×Int×(List UInt8)×Int)))
 | (l,j,c,i,h,f,d,e)=>
   br (decide (j<o)) (
   (atL t j).bind fun x=>
   (vY a).bind fun u=>
   br ((x.length:Int) !=(wrap .i64 (u+1))) (
   some (.inr (.inl (l,([]:List Ext),c,i,h,f,d,e,h,f,d,e)))) (
   (atL x 0).bind fun r=>
   (atL x 1).bind fun q=>
   (iX r q).bind fun m=>
   br (m.A==c) (
   br (m.B==i) (
   (kZ (Source.mk h f d e) x).bind fun n=>
   (rB n).bind fun b=>
   (xM x b.2).bind fun k=>
   br (cP ((l++([b.2]:List Ext)).length) 16) (
   some (.inl ((l++([b.2]:List Ext)),(wrap .i64 (j+1)),k.A,k.B,b.1.Script,b.1.At,b.1.State,b.1.Count))) none) (
   some (.inr (.inr (.inl (l,([]:List Ext),c,i,h,f,d,e,h,f,d,e)))))) (
   some (.inr (.inr (.inl (l,([]:List Ext),c,i,h,f,d,e,h,f,d,e))))))) (
   some (.inr (.inr (.inr (l,j,decide (j<o),c,i,h,f,d,e)))))
abbrev w7 (m h f:Int) (b:List UInt8) (a:Int) (l:List Ext) (c d:Int) (k:List Ext) (e:Int) (i:List UInt8) (j:Int):List (Nat×Blk):=[(1000,⟨2,true,[[I c,I d]]⟩),(1001,⟨4,true,[[sl eExt k,I e,S i,I j]]⟩),(1003,⟨2,true,[[I m,I h]]⟩),(1004,⟨4,true,[[.lit (.slice none 0 0),I f,S b,I a]]⟩),(4000,⟨2,false,rws eExt l⟩)]
theorem OJ {a t i j f d b c}:LX tab ow (.close [9003,10000,11006,12000,13002,14001,14005,14006,16002,17002,17003]) Eh (dY a t i j f d b c) (fun s=>⟨[(0,I a),(2,sl (eL eExt) t),(3,I i),(6,.ptr 1000 0 0 1),(9,.ptr 1001 0 0 1),(11,.ptr 1003 0 0 1),(12,.ptr 1004 0 0 1),(14,.sl 4000 0 s.1.length),(15,I s.2.1)],w7 j f d b c s.1 s.2.2.1 s.2.2.2.1 s.2.2.2.2.1 s.2.2.2.2.2.1 s.2.2.2.2.2.2.1 s.2.2.2.2.2.2.2⟩) (alt (fun e=>((.ret,⟨[(10,.sl 10000 0 e.2.1.length),(11,.ptr 1003 0 0 1),(12,.ptr 1004 0 0 1),(13,I 18)],[(1000,⟨2,true,[[I e.2.2.1,I e.2.2.2.1]]⟩),(1001,⟨4,true,[[sl eExt e.2.2.2.2.1,I e.2.2.2.2.2.1,S e.2.2.2.2.2.2.1,I e.2.2.2.2.2.2.2.1]]⟩),(1003,⟨2,true,[[I 0,I 0]]⟩),(1004,⟨4,true,[[sl eExt e.2.2.2.2.2.2.2.2.1,I e.2.2.2.2.2.2.2.2.2.1,S e.2.2.2.2.2.2.2.2.2.2.1,I e.2.2.2.2.2.2.2.2.2.2.2]]⟩),(4000,⟨2,false,rws eExt e.1⟩),(10000,⟨2,false,rws eExt e.2.1⟩)]⟩):bR×St)) (alt (fun e=>((.ret,⟨[(10,.sl 12000 0 e.2.1.length),(11,.ptr 1003 0 0 1),(12,.ptr 1004 0 0 1),(13,I 10)],[(1000,⟨2,true,[[I e.2.2.1,I e.2.2.2.1]]⟩),(1001,⟨4,true,[[sl eExt e.2.2.2.2.1,I e.2.2.2.2.2.1,S e.2.2.2.2.2.2.1,I e.2.2.2.2.2.2.2.1]]⟩),(1003,⟨2,true,[[I 0,I 0]]⟩),(1004,⟨4,true,[[sl eExt e.2.2.2.2.2.2.2.2.1,I e.2.2.2.2.2.2.2.2.2.1,S e.2.2.2.2.2.2.2.2.2.2.1,I e.2.2.2.2.2.2.2.2.2.2.2]]⟩),(4000,⟨2,false,rws eExt e.1⟩),(12000,⟨2,false,rws eExt e.2.1⟩)]⟩):bR×St)) (fun e=>(.exit 0,⟨[(0,I a),(2,sl (eL eExt) t),(3,I i),(6,.ptr 1000 0 0 1),(9,.ptr 1001 0 0 1),(11,.ptr 1003 0 0 1),(12,.ptr 1004 0 0 1),(14,.sl 4000 0 e.1.length),(15,I e.2.1),(29,B e.2.2.1)],w7 j f d b c e.1 e.2.2.2.1 e.2.2.2.2.1 e.2.2.2.2.2.1 e.2.2.2.2.2.2.1 e.2.2.2.2.2.2.2.1 e.2.2.2.2.2.2.2.2⟩)))):=by
 refine lrX (fun s o h=> ?_)
 obtain ⟨_,_,_,_,_,_,_,_⟩:=s
 simp only [dY] at h
 simp only [w7,Eh,EC]
 have d1:= @Ux
 have d2:= @nE
 have d3:= @A7
 have d4:= @Gb
 have d5:= @Nn
 exact go2
def lX (b:Int) (a:Ext) (h:(List (List Ext))) (i:Int) (f:Source):Option ((List Ext)×Ext×Source×Int):=
 br ((h.length:Int) !=i) (
 some (([]:List Ext),(Ext.mk 0 0),f,18)) (
 (Loop (dY b h i 0 0 0 (([]:List UInt8)) 0) (([]:List Ext),0,a.A,a.B,f.Script,f.At,f.State,f.Count)).bind (alt (fun e=>
 some (e.2.1,(Ext.mk 0 0),(Source.mk e.2.2.2.2.2.2.2.2.1 e.2.2.2.2.2.2.2.2.2.1 e.2.2.2.2.2.2.2.2.2.2.1 e.2.2.2.2.2.2.2.2.2.2.2),18)) (alt (fun d=>
 some (d.2.1,(Ext.mk 0 0),(Source.mk d.2.2.2.2.2.2.2.2.1 d.2.2.2.2.2.2.2.2.2.1 d.2.2.2.2.2.2.2.2.2.2.1 d.2.2.2.2.2.2.2.2.2.2.2),10)) (fun c=>
 some (c.1,(Ext.mk c.2.2.2.1 c.2.2.2.2.1),(Source.mk c.2.2.2.2.2.1 c.2.2.2.2.2.2.1 c.2.2.2.2.2.2.2.1 c.2.2.2.2.2.2.2.2),0)))))
theorem UC {b a e d c r} (h:lX b a e d c=some r):Call tab ow 268 [I b,.agg [I a.A,I a.B],sl (eL eExt) e,I d,.agg [sl eExt c.Script,I c.At,S c.State,I c.Count]] []=some (.tup [sl eExt r.1,.agg [I r.2.1.A,I r.2.1.B],.agg [sl eExt r.2.2.1.Script,I r.2.2.1.At,S r.2.2.1.State,I r.2.2.1.Count],I r.2.2.2],[]):=by
 rw [aj (af:=ux) rfl]
 unfold lX at h
 simp only [ux,AA]
 have d1:= @OJ
 exact go2
end
def kB (b k:List Ext) (c q:Int):Int×Int×Int->Option ((Int×Int×Int)⊕((Int×Bool×Int×Int)))
 | (i,m,l)=>
   br (decide (i<(b.length:Int))) (
   (atL b i).bind fun x=>
   (atL k i).bind fun n=>
   (dz x n).bind fun j=>
   (atL b i).bind fun p=>
   (oR p).bind fun f=>
   (atL k i).bind fun o=>
   (oR o).bind fun d=>
   (dz f d).bind fun h=>
   (iX j h).bind fun e=>
   (dz (Ext.mk m l) e).bind fun a=>
   some (.inl ((wrap .i64 (i+1)),a.A,a.B))) (
   some (.inr (i,decide (i<(b.length:Int)),m,l)))
abbrev AG (c a b d:Int):List (Nat×Blk):=[(1000,⟨2,true,[[I c,I a]]⟩),(2001,⟨2,true,[[I b,I d]]⟩)]
theorem Tz {d a c b}:LX tab ow (.close [6009,6014,6019,6020,6021,6022]) IJ (kB d a c b) (fun s=>⟨[(0,sl eExt d),(1,sl eExt a),(4,.ptr 1000 0 0 1),(5,.ptr 2001 0 0 1),(6,I s.1)],AG c b s.2.1 s.2.2⟩) (fun e=>(.exit 0,⟨[(0,sl eExt d),(1,sl eExt a),(4,.ptr 1000 0 0 1),(5,.ptr 2001 0 0 1),(6,I e.1),(11,B e.2.1)],AG c b e.2.2.1 e.2.2.2⟩)):=by
 refine lrX (fun s o h=> ?_)
 obtain ⟨_,_,_⟩:=s
 simp only [kB] at h
 simp only [AG,IJ,HQ]
 have d1:= @kz
 have d2:= @G3
 have d3:= @nE
 exact go2
def th (a b:List Ext):Option Ext:=
 (Cd).bind fun d=>
 (Loop (kB a b 0 0) (0,d.A,d.B)).bind fun c=>
 some (Ext.mk c.2.2.1 c.2.2.2)
theorem Nj {a b r} (h:th a b=some r):Call tab ow 233 [sl eExt a,sl eExt b] []=some (.agg [I r.A,I r.B],[]):=by
 rw [aj (af:=zt) rfl]
 unfold th at h
 simp only [zt,FX]
 have d1:= @JX
 have d2:= @Tz
 exact go2
section
@[local go_sem] theorem b44:mkR 2002 []=rws eI []:=rfl
def vy (s:bj) (a:List Int) (b:List Ext):Option Ext:=
 (v6 s a ([]:List Int)).bind fun e=>
 br (decide (0<=(wrap .u64 (wrap .i64 (s.Cols-1))))) (
 (l6 e 0 (bC .i64 1 (wrap .u64 (wrap .i64 (s.Cols-1))))).bind fun y=>
 br (decide (0<=(wrap .u64 (wrap .i64 (s.Cols-1))))) (
 (Bv y (bC .i64 1 (wrap .u64 (wrap .i64 (s.Cols-1))))).bind fun d=>
 (D6 d b).bind fun c=>
 some c) none) none
theorem TJ {s a b r} (h:vy s a b=some r):Call tab ow 271 [.agg [I s.Rows,I s.Cols,I s.Publics,sl aA s.A,sl aA s.B,sl aA s.C],sl eI a,sl eExt b] []=some (.agg [I r.A,I r.B],[]):=by
 rw [aj (af:=uy) rfl]
 unfold vy at h
 simp only [uy,IC]
 have d1:= @TW
 have d2:= @a3z
 have d3:= @W5
 exact go2
end
section
@[local go_sem] theorem c3g:mkR 2002 []=rws eS []:=rfl
@[local go_sem] theorem c2Y:mkR 10002 []=rws eS []:=rfl
def o3 (a:List (List UInt8)):(List (List UInt8))×Int×(List UInt8)×Int->Option (((List (List UInt8))×Int×(List UInt8)×Int)⊕(((List (List UInt8))×Int×(List UInt8)×Int×Bool)))
 | (l,d,b,k)=>
   br (decide (k<(a.length:Int))) (
   br (cP ((([1]:List UInt8)).length+b.length) 1) (
   (atL a k).bind fun x=>
   br (cP (((([1]:List UInt8))++b).length+x.length) 1) (
   br ((d.tmod 2)==1) (
   (atL a k).bind fun c=>
   br (cP ((([1]:List UInt8)).length+c.length) 1) (
   br (cP (((([1]:List UInt8))++c).length+b.length) 1) (
   br (cP ((l++([(((([1]:List UInt8))++c)++b)]:List (List UInt8))).length) 16) (
   (lh (((([1]:List UInt8))++c)++b)).bind fun f=>
   some (.inl ((l++([(((([1]:List UInt8))++c)++b)]:List (List UInt8))),(wrap .i64 (d.tdiv 2)),f,(wrap .i64 (k+1))))) none) none) none) (
   br (cP ((l++([(((([1]:List UInt8))++b)++x)]:List (List UInt8))).length) 16) (
   (lh (((([1]:List UInt8))++b)++x)).bind fun e=>
   some (.inl ((l++([(((([1]:List UInt8))++b)++x)]:List (List UInt8))),(wrap .i64 (d.tdiv 2)),e,(wrap .i64 (k+1))))) none)) none) none) (
   some (.inr (l,d,b,k,decide (k<(a.length:Int)))))
theorem a1t {a}:LX tab ow (.close [10002,10003,11001]) NS (o3 a) (fun s=>⟨[(0,I s.2.1),(2,sl eS a),(8,.sl 2002 0 s.1.length),(9,S s.2.2.1),(10,I s.2.2.2)],[(2002,⟨1,false,rws eS s.1⟩)]⟩) (fun e=>(.exit 0,⟨[(0,I e.2.1),(2,sl eS a),(8,.sl 2002 0 e.1.length),(9,S e.2.2.1),(10,I e.2.2.2.1),(20,B e.2.2.2.2)],[(2002,⟨1,false,rws eS e.1⟩)]⟩)):=by
 refine lrX (fun s o h=> ?_)
 obtain ⟨_,_,_,_⟩:=s
 simp only [o3] at h
 simp only [NS,NB]
 have d1:= @ru
 exact go2
def L1 (i:Int) (a:List UInt8) (b:(List (List UInt8))):Option ((List (List UInt8))×(List UInt8)):=
 br (cP ((([0]:List UInt8)).length+a.length) 1) (
 (Be a).bind fun d=>
 (Loop (o3 b) (([((([0]:List UInt8))++a)]:List (List UInt8)),i,d,0)).bind fun c=>
 some (c.1,c.2.2.1)) none
theorem a8n {i b a r} (h:L1 i b a=some r):Call tab ow 372 [I i,S b,sl eS a] []=some (.tup [sl eS r.1,S r.2],[]):=by
 rw [aj (af:=He) rfl]
 unfold L1 at h
 simp only [He,Mr]
 have d1:= @a1B
 have d2:= @a1t
 exact go2
end
def jF (c:List UInt8) (d:Int) (b:List UInt8) (a:List (List UInt8)):Int->Option ((Int)⊕(Unit⊕(Int×Bool)))
 |k=>
  br (decide (k<(a.length:Int))) (
  (atL a k).bind fun x=>
  br ((x.length:Int) !=32) (
  some (.inr (.inl ()))) (
  some (.inl (wrap .i64 (k+1))))) (
  some (.inr (.inr (k,decide (k<(a.length:Int))))))
theorem SZ {c d a b}:LX tab ow (.close []) GD (jF c d a b) (fun s=>⟨[(0,S c),(2,I d),(3,S a),(4,sl eS b),(11,I s)],[]⟩) (alt (fun e=>((.ret,⟨[(10,B false)],[]⟩):bR×St)) (fun e=>(.exit 0,⟨[(0,S c),(2,I d),(3,S a),(4,sl eS b),(11,I e.1),(29,B e.2)],[]⟩))):=by
 refine lrX (fun s o h=> ?_)
 simp only [jF] at h
 simp only [GD,FW]
 exact go2
def tp (c:List UInt8) (n i:Int) (b:List UInt8) (a:(List (List UInt8))):Option Bool:=
 br (decide ((b.length:Int)>64)) (
 some false) (
 br (decide (0<=(wrap .u64 (mn 20 (a.length:Int))))) (
 br (n !=(bC .i64 1 (wrap .u64 (mn 20 (a.length:Int))))) (
 some false) (
 (Loop (jF c i b a) 0).bind (alt (fun e=>
 some false) (fun d=>
 (L1 i b a).bind fun f=>
 some (f.2==c))))) none)
theorem Zq {a n i b c r} (h:tp a n i b c=some r):Call tab ow 331 [S a,I n,I i,S b,sl eS c] []=some (B r,[]):=by
 rw [aj (af:=wU) rfl]
 unfold tp at h
 simp only [wU,DN]
 have d1:= @SZ
 have d2:= @a8n
 exact go2
section
@[local go_sem] theorem b6Z:mkR 11008 []=rws eExt []:=rfl
def ju (e:List (List UInt8)) (t:Int) (l:List Ext) (c:List (List Ext)) (c2:List (List UInt8)) (c3 c4 c5:Int) (c6:List Query) (q:List Ext) (c8:List (List (List UInt8))):Int×Int×Int×Int×Int->Option ((Int×Int×Int×Int×Int)⊕((Int×Int×Int×Int×Int×Int×Int)⊕(Int×Int×Int×Bool×Int×Int)))
 | (a,h,f,i,d)=>
   br (decide (f<t)) (
   br (decide ((wrap .i64 (a.tdiv 2))≠0)) (
   (atL q (wrap .i64 (2*f))).bind fun x=>
   (atL q (wrap .i64 ((wrap .i64 (2*f))+1))).bind fun b=>
   (atL e f).bind fun r=>
   (tQ ([x,b]:List Ext)).bind fun v=>
   (atL c8 f).bind fun z=>
   (tp r (wrap .i64 (a.tdiv 2)) (h.tmod (wrap .i64 (a.tdiv 2))) v z).bind fun p=>
   br (!p) (
   some (.inr (.inl (9,i,d,x.A,x.B,b.A,b.B)))) (
   br (decide (f>0)) (
   br (decide (h<(wrap .i64 (a.tdiv 2)))) (
   br (x.A==i) (
   br (x.B==d) (
   br (!decide (h<(wrap .i64 (a.tdiv 2)))) (
   br (b.A==i) (
   br (b.B==d) (
   (atL l f).bind fun w=>
   (oN a (h.tmod (wrap .i64 (a.tdiv 2))) x b w).bind fun j=>
   some (.inl ((wrap .i64 (a.tdiv 2)),(h.tmod (wrap .i64 (a.tdiv 2))),(wrap .i64 (f+1)),j.A,j.B))) (
   some (.inr (.inl (12,i,d,x.A,x.B,b.A,b.B))))) (
   some (.inr (.inl (12,i,d,x.A,x.B,b.A,b.B))))) (
   (atL l f).bind fun x6=>
   (oN a (h.tmod (wrap .i64 (a.tdiv 2))) x b x6).bind fun k=>
   some (.inl ((wrap .i64 (a.tdiv 2)),(h.tmod (wrap .i64 (a.tdiv 2))),(wrap .i64 (f+1)),k.A,k.B)))) (
   some (.inr (.inl (12,i,d,x.A,x.B,b.A,b.B))))) (
   some (.inr (.inl (12,i,d,x.A,x.B,b.A,b.B))))) (
   br (!decide (h<(wrap .i64 (a.tdiv 2)))) (
   br (b.A==i) (
   br (b.B==d) (
   (atL l f).bind fun u=>
   (oN a (h.tmod (wrap .i64 (a.tdiv 2))) x b u).bind fun o=>
   some (.inl ((wrap .i64 (a.tdiv 2)),(h.tmod (wrap .i64 (a.tdiv 2))),(wrap .i64 (f+1)),o.A,o.B))) (
   some (.inr (.inl (12,i,d,x.A,x.B,b.A,b.B))))) (
   some (.inr (.inl (12,i,d,x.A,x.B,b.A,b.B))))) (
   (atL l f).bind fun s=>
   (oN a (h.tmod (wrap .i64 (a.tdiv 2))) x b s).bind fun m=>
   some (.inl ((wrap .i64 (a.tdiv 2)),(h.tmod (wrap .i64 (a.tdiv 2))),(wrap .i64 (f+1)),m.A,m.B))))) (
   (atL l f).bind fun y=>
   (oN a (h.tmod (wrap .i64 (a.tdiv 2))) x b y).bind fun n=>
   some (.inl ((wrap .i64 (a.tdiv 2)),(h.tmod (wrap .i64 (a.tdiv 2))),(wrap .i64 (f+1)),n.A,n.B))))) none) (
   some (.inr (.inr (a,h,f,decide (f<t),i,d))))
abbrev yY (c:List (List Ext)) (b:List (List UInt8)) (j d f:Int) (i:List Query) (k:List Ext) (h:List (List (List UInt8))) (e a:Int):List (Nat×Blk):=[(1000,⟨6,true,[[sl (eL eExt) c,sl eS b,I j,I d,I f,sl eQuery i]]⟩),(1001,⟨2,true,[[sl eExt k,sl (eL eS) h]]⟩),(2001,⟨2,true,[[I e,I a]]⟩)]
theorem T4 {a t m c b k d f j l i}:LX tab ow (.close [9006,10007,11008,11009,11016,15008]) Gc (ju a t m c b k d f j l i) (fun s=>⟨[(0,sl eS a),(1,I t),(2,I s.1),(3,I s.2.1),(4,sl eExt m),(12,.ptr 1000 0 0 1),(13,.ptr 1001 0 0 1),(15,.ptr 2001 0 0 1),(16,I s.2.2.1)],yY c b k d f j l i s.2.2.2.1 s.2.2.2.2⟩) (alt (fun e=>((.ret,⟨[(14,I e.1)],[(1000,⟨6,true,[[sl (eL eExt) c,sl eS b,I k,I d,I f,sl eQuery j]]⟩),(1001,⟨2,true,[[sl eExt l,sl (eL eS) i]]⟩),(2001,⟨2,true,[[I e.2.1,I e.2.2.1]]⟩),(9006,⟨2,true,[[I e.2.2.2.1,I e.2.2.2.2.1]]⟩),(10007,⟨2,true,[[I e.2.2.2.2.2.1,I e.2.2.2.2.2.2]]⟩),(11008,my)]⟩):bR×St)) (fun e=>(.exit 0,⟨[(0,sl eS a),(1,I t),(2,I e.1),(3,I e.2.1),(4,sl eExt m),(12,.ptr 1000 0 0 1),(13,.ptr 1001 0 0 1),(15,.ptr 2001 0 0 1),(16,I e.2.2.1),(24,B e.2.2.2.1)],yY c b k d f j l i e.2.2.2.2.1 e.2.2.2.2.2⟩))):=by
 refine lrX (fun s o h=> ?_)
 obtain ⟨_,_,_,_,_⟩:=s
 simp only [ju] at h
 simp only [yY,Gc,Ft]
 have d1:= @KO
 have d2:= @Zq
 have d3:= @a1a
 exact go2
def CL (b:(List (List UInt8))) (a i j:Int) (h:List Ext) (c:Opening) (f:Query):Option Int:=
 (Loop (ju b a h c.Rounds c.Roots c.Last.A c.Last.B c.Nonce c.Queries f.Pairs f.Paths) (i,j,0,0,0)).bind (alt (fun e=>
 some e.1) (fun d=>
 br (d.2.2.2.2.1==c.Last.A) (
 br (d.2.2.2.2.2==c.Last.B) (
 some 0) (
 some 13)) (
 some 13)))
theorem Z6 {b a f i e c d r} (h:CL b a f i e c d=some r):Call tab ow 235 [sl eS b,I a,I f,I i,sl eExt e,.agg [sl (eL eExt) c.Rounds,sl eS c.Roots,I c.Last.A,I c.Last.B,I c.Nonce,sl eQuery c.Queries],.agg [sl eExt d.Pairs,sl (eL eS) d.Paths]] []=some (I r,[]):=by
 rw [aj (af:=xD) rfl]
 unfold CL at h
 simp only [xD,Du]
 have d1:= @T4
 exact go2
end
section
@[local go_sem] theorem b6X:mkR 2001 []=rws eS []:=rfl
@[local go_sem] theorem b6Y:mkR 3000 []=rws eExt []:=rfl
@[local go_sem] theorem b6S:mkR 15002 []=rws eExt []:=rfl
@[local go_sem] theorem b71:mkR 20003 []=rws eExt []:=rfl
def eP (l:List (List UInt8)) (t:Int) (t2:List Ext) (c c2 c3 c4 c5:Int) (v:List (List Ext)) (c7:List (List UInt8)) (c8 c9 q:Int) (y:List Query) (u:Int) (w:List UInt8) (z:Int):(List Ext)×Int×(List Ext)×Int×(List UInt8)×Int×Int×Int->Option (((List Ext)×Int×(List Ext)×Int×(List UInt8)×Int×Int×Int)⊕(((List Ext)×(List Ext)×Int×(List UInt8)×Int×(List Ext)×Int×(List UInt8)×Int×Int×Int)⊕((List Ext)×Int×Bool×(List Ext)×Int×(List UInt8)×Int×Int×Int)))
 | (n,m,d,f,e,b,i,j)=>
   br (decide (m<t)) (
   (atL v m).bind fun x=>
   (atL x 0).bind fun s=>
   (atL x 1).bind fun r=>
   (iX s r).bind fun p=>
   br (p.A==i) (
   br (p.B==j) (
   (kZ (Source.mk d f e b) x).bind fun o=>
   (rB o).bind fun a=>
   (xM x a.2).bind fun h=>
   br (cP ((n++([a.2]:List Ext)).length) 16) (
   br (decide ((wrap .i64 (m+1))<t)) (
   (atL c7 m).bind fun x4=>
   (ke a.1 x4).bind fun k=>
   some (.inl ((n++([a.2]:List Ext)),(wrap .i64 (m+1)),k.Script,k.At,k.State,k.Count,h.A,h.B))) (
   some (.inl ((n++([a.2]:List Ext)),(wrap .i64 (m+1)),a.1.Script,a.1.At,a.1.State,a.1.Count,h.A,h.B)))) none) (
   some (.inr (.inl (n,d,f,e,b,d,f,e,b,i,j))))) (
   some (.inr (.inl (n,d,f,e,b,d,f,e,b,i,j))))) (
   some (.inr (.inr (n,m,decide (m<t),d,f,e,b,i,j))))
abbrev y7 (l:List (List UInt8)) (c o t s q:Int) (r:List (List Ext)) (u:List (List UInt8)) (v p a:Int) (j:List Query) (f:Int) (h:List UInt8) (m:Int) (w d:List Ext) (n:Int) (e:List UInt8) (b i k:Int):List (Nat×Blk):=[(1000,⟨2,true,[[I c,I o]]⟩),(1001,⟨3,true,[[I t,I s,I q]]⟩),(1002,⟨6,true,[[sl (eL eExt) r,sl eS u,I v,I p,I a,sl eQuery j]]⟩),(1003,⟨4,true,[[sl eExt d,I n,S e,I b]]⟩),(1004,⟨4,true,[[.lit (.slice none 0 0),I f,S h,I m]]⟩),(2001,⟨1,false,rws eS l⟩),(3000,⟨2,false,rws eExt w⟩),(4001,⟨2,true,[[I i,I k]]⟩)]
theorem T6 {l t v c j r k n q u p m a b d f i}:LX tab ow (.close [9006,11002,12001,12005,12006,14002,15002,15003,17006]) Gr (eP l t v c j r k n q u p m a b d f i) (fun s=>⟨[(1,I t),(2,sl eExt v),(11,.ptr 1001 0 0 1),(12,.ptr 1002 0 0 1),(13,.ptr 1003 0 0 1),(14,.ptr 1004 0 0 1),(16,.sl 2001 0 l.length),(17,.sl 3000 0 s.1.length),(18,.ptr 4001 0 0 1),(19,I s.2.1)],y7 l c j r k n q u p m a b d f i s.1 s.2.2.1 s.2.2.2.1 s.2.2.2.2.1 s.2.2.2.2.2.1 s.2.2.2.2.2.2.1 s.2.2.2.2.2.2.2⟩) (alt (fun e=>((.ret,⟨[(14,.ptr 1004 0 0 1),(15,I 10)],[(1000,⟨2,true,[[I c,I j]]⟩),(1001,⟨3,true,[[I r,I k,I n]]⟩),(1002,⟨6,true,[[sl (eL eExt) q,sl eS u,I p,I m,I a,sl eQuery b]]⟩),(1003,⟨4,true,[[sl eExt e.2.1,I e.2.2.1,S e.2.2.2.1,I e.2.2.2.2.1]]⟩),(1004,⟨4,true,[[sl eExt e.2.2.2.2.2.1,I e.2.2.2.2.2.2.1,S e.2.2.2.2.2.2.2.1,I e.2.2.2.2.2.2.2.2.1]]⟩),(2001,⟨1,false,rws eS l⟩),(3000,⟨2,false,rws eExt e.1⟩),(4001,⟨2,true,[[I e.2.2.2.2.2.2.2.2.2.1,I e.2.2.2.2.2.2.2.2.2.2]]⟩)]⟩):bR×St)) (fun e=>(.exit 0,⟨[(1,I t),(2,sl eExt v),(11,.ptr 1001 0 0 1),(12,.ptr 1002 0 0 1),(13,.ptr 1003 0 0 1),(14,.ptr 1004 0 0 1),(16,.sl 2001 0 l.length),(17,.sl 3000 0 e.1.length),(18,.ptr 4001 0 0 1),(19,I e.2.1),(36,B e.2.2.1)],y7 l c j r k n q u p m a b d f i e.1 e.2.2.2.1 e.2.2.2.2.1 e.2.2.2.2.2.1 e.2.2.2.2.2.2.1 e.2.2.2.2.2.2.2.1 e.2.2.2.2.2.2.2.2⟩))):=by
 refine lrX (fun s o h=> ?_)
 obtain ⟨_,_,_,_,_,_,_,_⟩:=s
 simp only [eP] at h
 simp only [y7,Gr,GN]
 have d1:= @nE
 have d2:= @A7
 have d3:= @Gb
 have d4:= @Nn
 have d5:= @pO
 exact go2
def is (u:List (List UInt8)) (l4:List Ext) (q n:Int) (f:List Int) (o k y l c25:Int) (h:List (List Ext)) (d:List (List UInt8)) (e i j:Int) (c:List Query) (z:List Ext) (x:Int) (s:List UInt8) (m v:Int) (w:List UInt8) (p r c40:Int):Int->Option ((Int)⊕(Int⊕(Int×Bool)))
 |b=>
  br (decide (b<(f.length:Int))) (
  (atL f b).bind fun t=>
  (atL c b).bind fun x6=>
  (CL u q n t l4 (Opening.mk h d (Ext.mk e i) j c) x6).bind fun a=>
  br (a !=0) (
  some (.inr (.inl a))) (
  some (.inl (wrap .i64 (b+1))))) (
  some (.inr (.inr (b,decide (b<(f.length:Int))))))
abbrev yr (v:List (List UInt8)) (w:List Ext) (e a q b s:Int) (n:List (List Ext)) (d:List (List UInt8)) (h p u:Int) (j:List Query) (r:List Ext) (o:Int) (k:List UInt8) (c l:Int) (m:List UInt8) (f i t:Int):List (Nat×Blk):=[(1000,⟨2,true,[[I e,I a]]⟩),(1001,⟨3,true,[[I q,I b,I s]]⟩),(1002,⟨6,true,[[sl (eL eExt) n,sl eS d,I h,I p,I u,sl eQuery j]]⟩),(1003,⟨4,true,[[sl eExt r,I o,S k,I c]]⟩),(1004,⟨4,true,[[.lit (.slice none 0 0),I l,S m,I f]]⟩),(2001,⟨1,false,rws eS v⟩),(3000,⟨2,false,rws eExt w⟩),(4001,⟨2,true,[[I i,I t]]⟩),(20003,my)]
theorem PP {z l4 t4 t5 t6 k f r i t p j l q v n d c b a x y w m u}:LX tab ow (.close [29014]) E7 (is z l4 t4 t5 t6 k f r i t p j l q v n d c b a x y w m u) (fun s=>⟨[(1,I t4),(12,.ptr 1002 0 0 1),(13,.ptr 1003 0 0 1),(14,.ptr 1004 0 0 1),(16,.sl 2001 0 z.length),(17,.sl 3000 0 l4.length),(23,I t5),(24,sl eI t6),(25,I s)],yr z l4 k f r i t p j l q v n d c b a x y w m u⟩) (alt (fun e=>((.ret,⟨[(14,.ptr 1004 0 0 1),(15,I e)],[(1000,⟨2,true,[[I k,I f]]⟩),(1001,⟨3,true,[[I r,I i,I t]]⟩),(1002,⟨6,true,[[sl (eL eExt) p,sl eS j,I l,I q,I v,sl eQuery n]]⟩),(1003,⟨4,true,[[sl eExt d,I c,S b,I a]]⟩),(1004,⟨4,true,[[sl eExt d,I c,S b,I a]]⟩),(2001,⟨1,false,rws eS z⟩),(3000,⟨2,false,rws eExt l4⟩),(4001,⟨2,true,[[I m,I u]]⟩),(20003,my)]⟩):bR×St)) (fun e=>(.exit 2,⟨[(1,I t4),(12,.ptr 1002 0 0 1),(13,.ptr 1003 0 0 1),(14,.ptr 1004 0 0 1),(16,.sl 2001 0 z.length),(17,.sl 3000 0 l4.length),(23,I t5),(24,sl eI t6),(25,I e.1),(127,B e.2)],yr z l4 k f r i t p j l q v n d c b a x y w m u⟩))):=by
 refine lrX (fun s o h=> ?_)
 simp only [is] at h
 simp only [yr,E7,Ez]
 have d1:= @Z6
 exact go2
def y6 (b:List UInt8) (a:Int) (r:List Ext) (j:Ext) (f:Setting) (e:Opening) (n:Source):Option (Source×Int):=
 br (cP ((([b]:List (List UInt8))++e.Roots).length) 16) (
 (Loop (eP (([b]:List (List UInt8))++e.Roots) a r j.A j.B f.Rate f.Queries f.Grind e.Rounds e.Roots e.Last.A e.Last.B e.Nonce e.Queries 0 (([]:List UInt8)) 0) (([]:List Ext),0,n.Script,n.At,n.State,n.Count,j.A,j.B)).bind (alt (fun h=>
 some ((Source.mk h.2.2.2.2.2.1 h.2.2.2.2.2.2.1 h.2.2.2.2.2.2.2.1 h.2.2.2.2.2.2.2.2.1),10)) (fun c=>
 (th c.1 r).bind fun o=>
 (dz e.Last o).bind fun l=>
 br (l.A==c.2.2.2.2.2.2.2.1) (
 br (l.B==c.2.2.2.2.2.2.2.2) (
 (kZ (Source.mk c.2.2.2.1 c.2.2.2.2.1 c.2.2.2.2.2.1 c.2.2.2.2.2.2.1) ([e.Last]:List Ext)).bind fun i=>
 (Cl i f.Grind e.Nonce).bind fun q=>
 br (!q) (
 some (i,14)) (
 (fZ e.Nonce 4).bind fun k=>
 (ke i k).bind fun m=>
 br (decide (0<=(wrap .u64 (wrap .i64 (a+f.Rate))))) (
 (vN m f.Queries (wrap .i64 ((bC .i64 1 (wrap .u64 (wrap .i64 (a+f.Rate)))).tdiv 2))).bind fun d=>
 (Loop (is (([b]:List (List UInt8))++e.Roots) c.1 a (bC .i64 1 (wrap .u64 (wrap .i64 (a+f.Rate)))) d.2 j.A j.B f.Rate f.Queries f.Grind e.Rounds e.Roots e.Last.A e.Last.B e.Nonce e.Queries d.1.Script d.1.At d.1.State d.1.Count 0 (([]:List UInt8)) 0 c.2.2.2.2.2.2.2.1 c.2.2.2.2.2.2.2.2) 0).bind (alt (fun p=>
 some (d.1,p)) (fun s=>
 some (d.1,0)))) none)) (
 some ((Source.mk c.2.2.2.1 c.2.2.2.2.1 c.2.2.2.2.2.1 c.2.2.2.2.2.2.1),11))) (
 some ((Source.mk c.2.2.2.1 c.2.2.2.2.1 c.2.2.2.2.2.1 c.2.2.2.2.2.2.1),11))))) none
theorem XP {b a i f e c d r} (h:y6 b a i f e c d=some r):Call tab ow 116 [S b,I a,sl eExt i,.agg [I f.A,I f.B],.agg [I e.Rate,I e.Queries,I e.Grind],.agg [sl (eL eExt) c.Rounds,sl eS c.Roots,I c.Last.A,I c.Last.B,I c.Nonce,sl eQuery c.Queries],.agg [sl eExt d.Script,I d.At,S d.State,I d.Count]] []=some (.tup [.agg [sl eExt r.1.Script,I r.1.At,S r.1.State,I r.1.Count],I r.2],[]):=by
 rw [aj (af:=wM) rfl]
 unfold y6 at h
 simp only [wM,xe]
 have d1:= @T6
 have d2:= @Nj
 have d3:= @kz
 have d4:= @A7
 have d5:= @a1w
 have d6:= @jf
 have d7:= @pO
 have d8:= @Ut
 have d9:= @PP
 exact go2
end
section
@[local go_sem] theorem b2h:mkR 7009 []=rws eExt []:=rfl
@[local go_sem] theorem b3L:mkR 9007 []=rws eExt []:=rfl
@[local go_sem] theorem b5D:mkR 21003 []=rws eExt []:=rfl
def rC (b:bj) (a:Setting) (a2:List Int) (d:Proof) (a4:Source):Option Int:=
 (yh b a a2 a4).bind fun r_=>
 (ke r_ d.Root).bind fun r_2=>
 (te r_2 b.Rows).bind fun j=>
 (lX 2 (Ext.mk 0 0) d.Gates b.Rows j.1).bind fun e=>
 br (e.2.2.2 !=0) (
 some e.2.2.2) (
 (th j.2 e.1).bind fun r_5=>
 (oU 2 ([r_5,d.VA,d.VB,d.VC]:List Ext)).bind fun w=>
 br (w.A==e.2.1.A) (
 br (w.B==e.2.1.B) (
 (kZ e.2.2.1 ([d.VA,d.VB,d.VC]:List Ext)).bind fun r_7=>
 (te r_7 3).bind fun f=>
 (atL f.2 0).bind fun x=>
 (dz x d.VA).bind fun z=>
 (atL f.2 1).bind fun x2=>
 (dz x2 d.VB).bind fun t=>
 (atL f.2 2).bind fun x3=>
 (dz x3 d.VC).bind fun q=>
 (iX t q).bind fun s=>
 (iX z s).bind fun r=>
 (lX 1 r d.Wires b.Cols f.1).bind fun c=>
 br (c.2.2.2 !=0) (
 some c.2.2.2) (
 (l6 c.1 0 (wrap .i64 (b.Cols-1))).bind fun y=>
 (atL c.1 (wrap .i64 (b.Cols-1))).bind fun x4=>
 (oR x4).bind fun k=>
 (vy b a2 y).bind fun m=>
 (dz k m).bind fun o=>
 (dz x4 d.VW).bind fun p=>
 (iX o p).bind fun i=>
 (yj b e.1 f.2).bind fun u=>
 (D6 u c.1).bind fun l=>
 (dz l i).bind fun h=>
 br (h.A==c.2.1.A) (
 br (h.B==c.2.1.B) (
 (kZ c.2.2.1 ([d.VW]:List Ext)).bind fun n=>
 (y6 d.Root (wrap .i64 (b.Cols-1)) y d.VW a d.Open n).bind fun v=>
 some v.2) (
 some 11)) (
 some 11))) (
 some 11)) (
 some 11))
theorem UH {b a e c d r} (h:rC b a e c d=some r):Call tab ow 144 [.agg [I b.Rows,I b.Cols,I b.Publics,sl aA b.A,sl aA b.B,sl aA b.C],.agg [I a.Rate,I a.Queries,I a.Grind],sl eI e,.agg [S c.Root,sl (eL eExt) c.Gates,I c.VA.A,I c.VA.B,I c.VB.A,I c.VB.B,I c.VC.A,I c.VC.B,sl (eL eExt) c.Wires,I c.VW.A,I c.VW.B,sl (eL eExt) c.Open.Rounds,sl eS c.Open.Roots,I c.Open.Last.A,I c.Open.Last.B,I c.Open.Nonce,sl eQuery c.Open.Queries],.agg [sl eExt d.Script,I d.At,S d.State,I d.Count]] []=some (I r,[]):=by
 rw [aj (af:=uJ) rfl]
 unfold rC at h
 simp only [uJ,HP]
 have d1:= @Xi
 have d2:= @pO
 have d3:= @N4
 have d4:= @UC
 have d5:= @Nj
 have d6:= @QV
 have d7:= @A7
 have d8:= @kz
 have d9:= @nE
 have d10:= @G3
 have d11:= @TJ
 have d12:= @ZH
 have d13:= @W5
 have d14:= @XP
 exact go2
end
def C7 (a:List Gate) (b:Int):Option Int:=
 br (decide ((wrap .i64 (b-(a.length:Int)))<0)) (
 some (-1:Int)) (
 some (wrap .i64 (b-(a.length:Int))))
theorem a1n {a b r} (h:C7 a b=some r):Call tab ow 145 [sl eGate a,I b] []=some (I r,[]):=by
 rw [aj (af:=Ap) rfl]
 unfold C7 at h
 simp only [Ap,No]
 exact go2
def vL (a:Circuit) (b:Int):Option Int:=
 (C7 a.Gates b).bind fun c=>
 br (decide (c<0)) (
 some (-1:Int)) (
 some c)
theorem U1 {a b r} (h:vL a b=some r):Call tab ow 46 [.agg [sl eGate a.Gates],I b] []=some (I r,[]):=by
 rw [aj (af:=ua) rfl]
 unfold vL at h
 simp only [ua,HN]
 have d1:= @a1n
 exact go2
def ve (a:List Ext) (b:Int):Option Int:=
 br (decide ((wrap .i64 (b-(a.length:Int)))<0)) (
 some (-1:Int)) (
 some (wrap .i64 (b-(a.length:Int))))
theorem JS {a b r} (h:ve a b=some r):Call tab ow 148 [sl eExt a,I b] []=some (I r,[]):=by
 rw [aj (af:=DH) rfl]
 unfold ve at h
 simp only [DH,PV]
 exact go2
def ut (b:List (List Ext)):Int×Int->Option ((Int×Int)⊕(Unit⊕(Int×Int×Bool)))
 | (a,i)=>
   br (decide (i<(b.length:Int))) (
   (atL b i).bind fun x=>
   (ve x a).bind fun c=>
   br (decide (c<0)) (
   some (.inr (.inl ()))) (
   some (.inl (c,(wrap .i64 (i+1)))))) (
   some (.inr (.inr (a,i,decide (i<(b.length:Int))))))
theorem Tn {a}:LX tab ow (.close [8005]) Ix (ut a) (fun s=>⟨[(0,sl (eL eExt) a),(1,I s.1),(5,I s.2)],[]⟩) (alt (fun e=>((.ret,⟨[(4,I (-1:Int))],[]⟩):bR×St)) (fun e=>(.exit 0,⟨[(0,sl (eL eExt) a),(1,I e.1),(5,I e.2.1),(15,B e.2.2)],[]⟩))):=by
 refine lrX (fun s o h=> ?_)
 obtain ⟨_,_⟩:=s
 simp only [ut] at h
 simp only [Ix,IQ]
 have d1:= @JS
 exact go2
def xL (a:(List (List Ext))) (b:Int):Option Int:=
 br (decide ((wrap .i64 (b-(a.length:Int)))<0)) (
 some (-1:Int)) (
 (Loop (ut a) ((wrap .i64 (b-(a.length:Int))),0)).bind (alt (fun d=>
 some (-1:Int)) (fun c=>
 some c.1)))
theorem NR {a b r} (h:xL a b=some r):Call tab ow 146 [sl (eL eExt) a,I b] []=some (I r,[]):=by
 rw [aj (af:=zm) rfl]
 unfold xL at h
 simp only [zm,FT]
 have d1:= @Tn
 exact go2
def mN (b:List (List UInt8)):Int×Int->Option ((Int×Int)⊕(Unit⊕(Int×Int×Bool)))
 | (a,i)=>
   br (decide (i<(b.length:Int))) (
   (atL b i).bind fun x=>
   br (decide ((wrap .i64 (a-(x.length:Int)))<0)) (
   some (.inr (.inl ()))) (
   some (.inl ((wrap .i64 (a-(x.length:Int))),(wrap .i64 (i+1)))))) (
   some (.inr (.inr (a,i,decide (i<(b.length:Int))))))
theorem OX {a}:LX tab ow (.close []) Ev (mN a) (fun s=>⟨[(0,sl eS a),(1,I s.1),(5,I s.2)],[]⟩) (alt (fun e=>((.ret,⟨[(4,I (-1:Int))],[]⟩):bR×St)) (fun e=>(.exit 0,⟨[(0,sl eS a),(1,I e.1),(5,I e.2.1),(15,B e.2.2)],[]⟩))):=by
 refine lrX (fun s o h=> ?_)
 obtain ⟨_,_⟩:=s
 simp only [mN] at h
 simp only [Ev,Ey]
 exact go2
def rp (a:(List (List UInt8))) (b:Int):Option Int:=
 br (decide ((wrap .i64 (b-(a.length:Int)))<0)) (
 some (-1:Int)) (
 (Loop (mN a) ((wrap .i64 (b-(a.length:Int))),0)).bind (alt (fun d=>
 some (-1:Int)) (fun c=>
 some c.1)))
theorem Is {a b r} (h:rp a b=some r):Call tab ow 272 [sl eS a,I b] []=some (I r,[]):=by
 rw [aj (af:=uu) rfl]
 unfold rp at h
 simp only [uu,AE]
 have d1:= @OX
 exact go2
def oM (b:List (List (List UInt8))):Int×Int->Option ((Int×Int)⊕(Unit⊕(Int×Int×Bool)))
 | (a,i)=>
   br (decide (i<(b.length:Int))) (
   (atL b i).bind fun x=>
   (rp x a).bind fun c=>
   br (decide (c<0)) (
   some (.inr (.inl ()))) (
   some (.inl (c,(wrap .i64 (i+1)))))) (
   some (.inr (.inr (a,i,decide (i<(b.length:Int))))))
theorem MV {a}:LX tab ow (.close [8005]) BH (oM a) (fun s=>⟨[(0,sl (eL eS) a),(1,I s.1),(5,I s.2)],[]⟩) (alt (fun e=>((.ret,⟨[(4,I (-1:Int))],[]⟩):bR×St)) (fun e=>(.exit 0,⟨[(0,sl (eL eS) a),(1,I e.1),(5,I e.2.1),(15,B e.2.2)],[]⟩))):=by
 refine lrX (fun s o h=> ?_)
 obtain ⟨_,_⟩:=s
 simp only [oM] at h
 simp only [BH,Bo]
 have d1:= @Is
 exact go2
def wW (a:(List (List (List UInt8)))) (b:Int):Option Int:=
 br (decide ((wrap .i64 (b-(a.length:Int)))<0)) (
 some (-1:Int)) (
 (Loop (oM a) ((wrap .i64 (b-(a.length:Int))),0)).bind (alt (fun d=>
 some (-1:Int)) (fun c=>
 some c.1)))
theorem QJ {a b r} (h:wW a b=some r):Call tab ow 373 [sl (eL eS) a,I b] []=some (I r,[]):=by
 rw [aj (af:=rF) rfl]
 unfold wW at h
 simp only [rF,yD]
 have d1:= @MV
 exact go2
def xV (a:Query) (b:Int):Option Int:=
 (ve a.Pairs b).bind fun d=>
 br (decide (d<0)) (
 some (-1:Int)) (
 (wW a.Paths d).bind fun c=>
 br (decide (c<0)) (
 some (-1:Int)) (
 some c))
theorem a3J {a b r} (h:xV a b=some r):Call tab ow 341 [.agg [sl eExt a.Pairs,sl (eL eS) a.Paths],I b] []=some (I r,[]):=by
 rw [aj (af:=As) rfl]
 unfold xV at h
 simp only [As,Ob]
 have d1:= @JS
 have d2:= @QJ
 exact go2
def rO (b:List Query):Int×Int->Option ((Int×Int)⊕(Unit⊕(Int×Int×Bool)))
 | (a,i)=>
   br (decide (i<(b.length:Int))) (
   (atL b i).bind fun x=>
   (xV x a).bind fun c=>
   br (decide (c<0)) (
   some (.inr (.inl ()))) (
   some (.inl (c,(wrap .i64 (i+1)))))) (
   some (.inr (.inr (a,i,decide (i<(b.length:Int))))))
theorem QN {a}:LX tab ow (.close [8005]) FF (rO a) (fun s=>⟨[(0,sl eQuery a),(1,I s.1),(5,I s.2)],[]⟩) (alt (fun e=>((.ret,⟨[(4,I (-1:Int))],[]⟩):bR×St)) (fun e=>(.exit 0,⟨[(0,sl eQuery a),(1,I e.1),(5,I e.2.1),(15,B e.2.2)],[]⟩))):=by
 refine lrX (fun s o h=> ?_)
 obtain ⟨_,_⟩:=s
 simp only [rO] at h
 simp only [FF,Fo]
 have d1:= @a3J
 exact go2
def D4 (a:List Query) (b:Int):Option Int:=
 br (decide ((wrap .i64 (b-(a.length:Int)))<0)) (
 some (-1:Int)) (
 (Loop (rO a) ((wrap .i64 (b-(a.length:Int))),0)).bind (alt (fun d=>
 some (-1:Int)) (fun c=>
 some c.1)))
theorem Y1 {a b r} (h:D4 a b=some r):Call tab ow 273 [sl eQuery a,I b] []=some (I r,[]):=by
 rw [aj (af:=xl) rfl]
 unfold D4 at h
 simp only [xl,Dz]
 have d1:= @QN
 exact go2
def vo (a:Opening) (b:Int):Option Int:=
 (xL a.Rounds b).bind fun e=>
 br (decide (e<0)) (
 some (-1:Int)) (
 (rp a.Roots e).bind fun d=>
 br (decide (d<0)) (
 some (-1:Int)) (
 (D4 a.Queries d).bind fun c=>
 br (decide (c<0)) (
 some (-1:Int)) (
 some c)))
theorem Tv {a b r} (h:vo a b=some r):Call tab ow 147 [.agg [sl (eL eExt) a.Rounds,sl eS a.Roots,I a.Last.A,I a.Last.B,I a.Nonce,sl eQuery a.Queries],I b] []=some (I r,[]):=by
 rw [aj (af:=uo) rfl]
 unfold vo at h
 simp only [uo,In]
 have d1:= @NR
 have d2:= @Is
 have d3:= @Y1
 exact go2
end
end Go.AI.Fn
set_option linter.unusedVariables false
set_option linter.unusedSimpArgs false
set_option maxRecDepth 100000
set_option maxHeartbeats 1000000
namespace Go.AI.Fn
noncomputable section
open IntKind (wrap)
def C4 (a:Proof) (b:Int):Option Int:=
 br (decide ((wrap .i64 (b-(a.Root.length:Int)))<0)) (
 some (-1:Int)) (
 (xL a.Gates (wrap .i64 (b-(a.Root.length:Int)))).bind fun e=>
 br (decide (e<0)) (
 some (-1:Int)) (
 (xL a.Wires e).bind fun d=>
 br (decide (d<0)) (
 some (-1:Int)) (
 (vo a.Open d).bind fun c=>
 br (decide (c<0)) (
 some (-1:Int)) (
 some c))))
theorem a04 {a b r} (h:C4 a b=some r):Call tab ow 47 [.agg [S a.Root,sl (eL eExt) a.Gates,I a.VA.A,I a.VA.B,I a.VB.A,I a.VB.B,I a.VC.A,I a.VC.B,sl (eL eExt) a.Wires,I a.VW.A,I a.VW.B,sl (eL eExt) a.Open.Rounds,sl eS a.Open.Roots,I a.Open.Last.A,I a.Open.Last.B,I a.Open.Nonce,sl eQuery a.Open.Queries],I b] []=some (I r,[]):=by
 rw [aj (af:=zY) rfl]
 unfold C4 at h
 simp only [zY,NM]
 have d1:= @NR
 have d2:= @Tv
 exact go2
def yQ (a:Source) (b:Int):Option Int:=
 (ve a.Script b).bind fun c=>
 br (decide (c<0)) (
 some (-1:Int)) (
 br (decide ((wrap .i64 (c-(a.State.length:Int)))<0)) (
 some (-1:Int)) (
 some (wrap .i64 (c-(a.State.length:Int)))))
theorem WO {a b r} (h:yQ a b=some r):Call tab ow 48 [.agg [sl eExt a.Script,I a.At,S a.State,I a.Count],I b] []=some (I r,[]):=by
 rw [aj (af:=xn) rfl]
 unfold yQ at h
 simp only [xn,Ky]
 have d1:= @JS
 exact go2
def Kb (a:Gate):Option Gate:=
 some a
theorem a5t {a r} (h:Kb a=some r):Call tab ow 274 [.agg [I a.Op,I a.A,I a.B,I a.K]] []=some (.agg [I r.Op,I r.A,I r.B,I r.K],[]):=by
 rw [aj (af:=Cp) rfl]
 unfold Kb at h
 simp only [Cp,SK]
 exact go2
section
@[local go_sem] theorem b7S: ∀k,BQ 2002 k [I (0:Int),I (0:Int),I (0:Int),I (0:Int)]=rws eGate (List.replicate k (Gate.mk (0:Int) (0:Int) (0:Int) (0:Int))):=fun _=>M6 eGate (Gate.mk (0:Int) (0:Int) (0:Int) (0:Int)) _ _
def pG (a:List Gate):(List Gate)×Int->Option (((List Gate)×Int)⊕(((List Gate)×Int×Bool)))
 | (l,i)=>
   br (decide (i<(a.length:Int))) (
   (atL a i).bind fun x=>
   (Kb x).bind fun b=>
   br (decide (0<=i)) (
   br (decide (i.toNat<l.length)) (
   (l[i.toNat]?).bind fun c=>
   some (.inl ((l.set i.toNat b),(wrap .i64 (i+1))))) none) none) (
   some (.inr (l,i,decide (i<(a.length:Int)))))
theorem U8 {a}:LX tab ow (.close [6006]) IG (pG a) (fun s=>⟨[(0,sl eGate a),(3,.sl 2002 0 s.1.length),(4,I s.2)],[(2002,⟨4,false,rws eGate s.1⟩)]⟩) (fun e=>(.exit 0,⟨[(0,sl eGate a),(3,.sl 2002 0 e.1.length),(4,I e.2.1),(11,B e.2.2)],[(2002,⟨4,false,rws eGate e.1⟩)]⟩)):=by
 refine lrX (fun s o h=> ?_)
 obtain ⟨_,_⟩:=s
 simp only [pG] at h
 simp only [IG,I6]
 have d1:= @a5t
 exact go2
def Bl (a:List Gate):Option (List Gate):=
 br (zg (a.length:Int) (a.length:Int) 32) (
 (Loop (pG a) ((List.replicate ((a.length:Int).toNat) (Gate.mk (0:Int) (0:Int) (0:Int) (0:Int))),(0:Int))).bind fun b=>
 some b.1) none
theorem a0b {a r} (h:Bl a=some r):Call tab ow 150 [sl eGate a] []=some (sl eGate r,[]):=by
 rw [aj (af:=Aj) rfl]
 unfold Bl at h
 simp only [Aj,Fq]
 have d1:= @U8
 exact go2
end
def nX (a:Circuit):Option Circuit:=
 (Bl a.Gates).bind fun b=>
 some (Circuit.mk b)
theorem Uu {a r} (h:nX a=some r):Call tab ow 50 [.agg [sl eGate a.Gates]] []=some (.agg [sl eGate r.Gates],[]):=by
 rw [aj (af:=u2) rfl]
 unfold nX at h
 simp only [u2,IZ]
 have d1:= @a0b
 exact go2
def vQ (a:Setting):Option Setting:=
 some a
theorem Uw {a r} (h:vQ a=some r):Call tab ow 51 [.agg [I a.Rate,I a.Queries,I a.Grind]] []=some (.agg [I r.Rate,I r.Queries,I r.Grind],[]):=by
 rw [aj (af:=uE) rfl]
 unfold vQ at h
 simp only [uE,IU]
 exact go2
section
@[local go_sem] theorem c1Z: ∀k,BQ 2002 k [I (0:Int)]=rws eI (List.replicate k (0:Int)):=fun _=>M6 eI (0:Int) _ _
def xd (a:List Int):(List Int)×Int->Option (((List Int)×Int)⊕(((List Int)×Int×Bool)))
 | (l,i)=>
   br (decide (i<(a.length:Int))) (
   (atL a i).bind fun x=>
   br (decide (0<=i)) (
   br (decide (i.toNat<l.length)) (
   (l[i.toNat]?).bind fun b=>
   some (.inl ((l.set i.toNat x),(wrap .i64 (i+1))))) none) none) (
   some (.inr (l,i,decide (i<(a.length:Int)))))
theorem Xm {a}:LX tab ow (.close []) Ln (xd a) (fun s=>⟨[(0,sl eI a),(3,.sl 2002 0 s.1.length),(4,I s.2)],[(2002,⟨1,false,rws eI s.1⟩)]⟩) (fun e=>(.exit 0,⟨[(0,sl eI a),(3,.sl 2002 0 e.1.length),(4,I e.2.1),(11,B e.2.2)],[(2002,⟨1,false,rws eI e.1⟩)]⟩)):=by
 refine lrX (fun s o h=> ?_)
 obtain ⟨_,_⟩:=s
 simp only [xd] at h
 simp only [Ln,Kg]
 exact go2
def yu (a:List Int):Option (List Int):=
 br (zg (a.length:Int) (a.length:Int) 8) (
 (Loop (xd a) ((List.replicate ((a.length:Int).toNat) (0:Int)),(0:Int))).bind fun b=>
 some b.1) none
theorem a4K {a r} (h:yu a=some r):Call tab ow 52 [sl eI a] []=some (sl eI r,[]):=by
 rw [aj (af:=Ct) rfl]
 unfold yu at h
 simp only [Ct,JR]
 have d1:= @Xm
 exact go2
end
def sd (a:Ext):Option Ext:=
 some a
theorem Ma {a r} (h:sd a=some r):Call tab ow 152 [.agg [I a.A,I a.B]] []=some (.agg [I r.A,I r.B],[]):=by
 rw [aj (af:=GX) rfl]
 unfold sd at h
 simp only [GX,VM]
 exact go2
section
@[local go_sem] theorem c2k: ∀k,BQ 2002 k [I (0:Int),I (0:Int)]=rws eExt (List.replicate k (Ext.mk (0:Int) (0:Int))):=fun _=>M6 eExt (Ext.mk (0:Int) (0:Int)) _ _
def wG (a:List Ext):(List Ext)×Int->Option (((List Ext)×Int)⊕(((List Ext)×Int×Bool)))
 | (l,i)=>
   br (decide (i<(a.length:Int))) (
   (atL a i).bind fun x=>
   (sd x).bind fun b=>
   br (decide (0<=i)) (
   br (decide (i.toNat<l.length)) (
   (l[i.toNat]?).bind fun c=>
   some (.inl ((l.set i.toNat b),(wrap .i64 (i+1))))) none) none) (
   some (.inr (l,i,decide (i<(a.length:Int)))))
theorem WU {a}:LX tab ow (.close [6006]) Ko (wG a) (fun s=>⟨[(0,sl eExt a),(3,.sl 2002 0 s.1.length),(4,I s.2)],[(2002,⟨2,false,rws eExt s.1⟩)]⟩) (fun e=>(.exit 0,⟨[(0,sl eExt a),(3,.sl 2002 0 e.1.length),(4,I e.2.1),(11,B e.2.2)],[(2002,⟨2,false,rws eExt e.1⟩)]⟩)):=by
 refine lrX (fun s o h=> ?_)
 obtain ⟨_,_⟩:=s
 simp only [wG] at h
 simp only [Ko,Lp]
 have d1:= @Ma
 exact go2
def vZ (a:List Ext):Option (List Ext):=
 br (zg (a.length:Int) (a.length:Int) 16) (
 (Loop (wG a) ((List.replicate ((a.length:Int).toNat) (Ext.mk (0:Int) (0:Int))),(0:Int))).bind fun b=>
 some b.1) none
theorem JE {a r} (h:vZ a=some r):Call tab ow 154 [sl eExt a] []=some (sl eExt r,[]):=by
 rw [aj (af:=De) rfl]
 unfold vZ at h
 simp only [De,JB]
 have d1:= @WU
 exact go2
end
section
@[local go_sem] theorem b7y: ∀k,BQ 2002 k [.imm 1 []]=rws (eL eExt) (List.replicate k ([]:List Ext)):=fun _=>M6 (eL eExt) ([]:List Ext) _ _
def uI (a:List (List Ext)):(List (List Ext))×Int->Option (((List (List Ext))×Int)⊕(((List (List Ext))×Int×Bool)))
 | (l,i)=>
   br (decide (i<(a.length:Int))) (
   (atL a i).bind fun x=>
   (vZ x).bind fun b=>
   br (decide (0<=i)) (
   br (decide (i.toNat<l.length)) (
   (l[i.toNat]?).bind fun c=>
   some (.inl ((l.set i.toNat b),(wrap .i64 (i+1))))) none) none) (
   some (.inr (l,i,decide (i<(a.length:Int)))))
theorem Ua {a}:LX tab ow (.close [6006]) Ia (uI a) (fun s=>⟨[(0,sl (eL eExt) a),(3,.sl 2002 0 s.1.length),(4,I s.2)],[(2002,⟨1,false,rws (eL eExt) s.1⟩)]⟩) (fun e=>(.exit 0,⟨[(0,sl (eL eExt) a),(3,.sl 2002 0 e.1.length),(4,I e.2.1),(11,B e.2.2)],[(2002,⟨1,false,rws (eL eExt) e.1⟩)]⟩)):=by
 refine lrX (fun s o h=> ?_)
 obtain ⟨_,_⟩:=s
 simp only [uI] at h
 simp only [Ia,HT]
 have d1:= @JE
 exact go2
def tI (a:(List (List Ext))):Option ((List (List Ext))):=
 br (zg (a.length:Int) (a.length:Int) 24) (
 (Loop (uI a) ((List.replicate ((a.length:Int).toNat) ([]:List Ext)),(0:Int))).bind fun b=>
 some b.1) none
theorem N0 {a r} (h:tI a=some r):Call tab ow 151 [sl (eL eExt) a] []=some (sl (eL eExt) r,[]):=by
 rw [aj (af:=zJ) rfl]
 unfold tI at h
 simp only [zJ,Fc]
 have d1:= @Ua
 exact go2
end
section
@[local go_sem] theorem b4b: ∀k,BQ 2002 k [S (([]:List UInt8))]=rws eS (List.replicate k (([]:List UInt8))):=fun _=>M6 eS (([]:List UInt8)) _ _
def qf (a:List (List UInt8)):(List (List UInt8))×Int->Option (((List (List UInt8))×Int)⊕(((List (List UInt8))×Int×Bool)))
 | (l,i)=>
   br (decide (i<(a.length:Int))) (
   (atL a i).bind fun x=>
   br (decide (0<=i)) (
   br (decide (i.toNat<l.length)) (
   (l[i.toNat]?).bind fun b=>
   some (.inl ((l.set i.toNat x),(wrap .i64 (i+1))))) none) none) (
   some (.inr (l,i,decide (i<(a.length:Int)))))
theorem Ox {a}:LX tab ow (.close []) DZ (qf a) (fun s=>⟨[(0,sl eS a),(3,.sl 2002 0 s.1.length),(4,I s.2)],[(2002,⟨1,false,rws eS s.1⟩)]⟩) (fun e=>(.exit 0,⟨[(0,sl eS a),(3,.sl 2002 0 e.1.length),(4,I e.2.1),(11,B e.2.2)],[(2002,⟨1,false,rws eS e.1⟩)]⟩)):=by
 refine lrX (fun s o h=> ?_)
 obtain ⟨_,_⟩:=s
 simp only [qf] at h
 simp only [DZ,E5]
 exact go2
def oa (a:(List (List UInt8))):Option ((List (List UInt8))):=
 br (zg (a.length:Int) (a.length:Int) 16) (
 (Loop (qf a) ((List.replicate ((a.length:Int).toNat) (([]:List UInt8))),(0:Int))).bind fun b=>
 some b.1) none
theorem IW {a r} (h:oa a=some r):Call tab ow 275 [sl eS a] []=some (sl eS r,[]):=by
 rw [aj (af:=uz) rfl]
 unfold oa at h
 simp only [uz,B5]
 have d1:= @Ox
 exact go2
end
section
@[local go_sem] theorem b1k: ∀k,BQ 2002 k [.imm 1 []]=rws (eL eS) (List.replicate k ([]:List (List UInt8))):=fun _=>M6 (eL eS) ([]:List (List UInt8)) _ _
def ou (a:List (List (List UInt8))):(List (List (List UInt8)))×Int->Option (((List (List (List UInt8)))×Int)⊕(((List (List (List UInt8)))×Int×Bool)))
 | (l,i)=>
   br (decide (i<(a.length:Int))) (
   (atL a i).bind fun x=>
   (oa x).bind fun b=>
   br (decide (0<=i)) (
   br (decide (i.toNat<l.length)) (
   (l[i.toNat]?).bind fun c=>
   some (.inl ((l.set i.toNat b),(wrap .i64 (i+1))))) none) none) (
   some (.inr (l,i,decide (i<(a.length:Int)))))
theorem MQ {a}:LX tab ow (.close [6006]) Bf (ou a) (fun s=>⟨[(0,sl (eL eS) a),(3,.sl 2002 0 s.1.length),(4,I s.2)],[(2002,⟨1,false,rws (eL eS) s.1⟩)]⟩) (fun e=>(.exit 0,⟨[(0,sl (eL eS) a),(3,.sl 2002 0 e.1.length),(4,I e.2.1),(11,B e.2.2)],[(2002,⟨1,false,rws (eL eS) e.1⟩)]⟩)):=by
 refine lrX (fun s o h=> ?_)
 obtain ⟨_,_⟩:=s
 simp only [ou] at h
 simp only [Bf,BA]
 have d1:= @IW
 exact go2
def rT (a:(List (List (List UInt8)))):Option ((List (List (List UInt8)))):=
 br (zg (a.length:Int) (a.length:Int) 24) (
 (Loop (ou a) ((List.replicate ((a.length:Int).toNat) ([]:List (List UInt8))),(0:Int))).bind fun b=>
 some b.1) none
theorem Qc {a r} (h:rT a=some r):Call tab ow 374 [sl (eL eS) a] []=some (sl (eL eS) r,[]):=by
 rw [aj (af:=rM) rfl]
 unfold rT at h
 simp only [rM,yA]
 have d1:= @MQ
 exact go2
end
def xJ (a:Query):Option Query:=
 (vZ a.Pairs).bind fun c=>
 (rT a.Paths).bind fun b=>
 some (Query.mk c b)
theorem a2h {a r} (h:xJ a=some r):Call tab ow 342 [.agg [sl eExt a.Pairs,sl (eL eS) a.Paths]] []=some (.agg [sl eExt r.Pairs,sl (eL eS) r.Paths],[]):=by
 rw [aj (af:=A6) rfl]
 unfold xJ at h
 simp only [A6,NV]
 have d1:= @JE
 have d2:= @Qc
 exact go2
section
@[local go_sem] theorem b70: ∀k,BQ 2002 k [.imm 1 [],.imm 1 []]=rws eQuery (List.replicate k (Query.mk ([]:List Ext) ([]:List (List (List UInt8))))):=fun _=>M6 eQuery (Query.mk ([]:List Ext) ([]:List (List (List UInt8)))) _ _
def rJ (a:List Query):(List Query)×Int->Option (((List Query)×Int)⊕(((List Query)×Int×Bool)))
 | (l,i)=>
   br (decide (i<(a.length:Int))) (
   (atL a i).bind fun x=>
   (xJ x).bind fun b=>
   br (decide (0<=i)) (
   br (decide (i.toNat<l.length)) (
   (l[i.toNat]?).bind fun c=>
   some (.inl ((l.set i.toNat b),(wrap .i64 (i+1))))) none) none) (
   some (.inr (l,i,decide (i<(a.length:Int)))))
theorem Pz {a}:LX tab ow (.close [6006]) Ge (rJ a) (fun s=>⟨[(0,sl eQuery a),(3,.sl 2002 0 s.1.length),(4,I s.2)],[(2002,⟨2,false,rws eQuery s.1⟩)]⟩) (fun e=>(.exit 0,⟨[(0,sl eQuery a),(3,.sl 2002 0 e.1.length),(4,I e.2.1),(11,B e.2.2)],[(2002,⟨2,false,rws eQuery e.1⟩)]⟩)):=by
 refine lrX (fun s o h=> ?_)
 obtain ⟨_,_⟩:=s
 simp only [rJ] at h
 simp only [Ge,FQ]
 have d1:= @a2h
 exact go2
def yC (a:List Query):Option (List Query):=
 br (zg (a.length:Int) (a.length:Int) 48) (
 (Loop (rJ a) ((List.replicate ((a.length:Int).toNat) (Query.mk ([]:List Ext) ([]:List (List (List UInt8))))),(0:Int))).bind fun b=>
 some b.1) none
theorem YK {a r} (h:yC a=some r):Call tab ow 276 [sl eQuery a] []=some (sl eQuery r,[]):=by
 rw [aj (af:=wX) rfl]
 unfold yC at h
 simp only [wX,Dq]
 have d1:= @Pz
 exact go2
end
def vJ (a:Opening):Option Opening:=
 (tI a.Rounds).bind fun e=>
 (oa a.Roots).bind fun d=>
 (sd a.Last).bind fun c=>
 (yC a.Queries).bind fun b=>
 some (Opening.mk e d c a.Nonce b)
theorem TD {a r} (h:vJ a=some r):Call tab ow 153 [.agg [sl (eL eExt) a.Rounds,sl eS a.Roots,I a.Last.A,I a.Last.B,I a.Nonce,sl eQuery a.Queries]] []=some (.agg [sl (eL eExt) r.Rounds,sl eS r.Roots,I r.Last.A,I r.Last.B,I r.Nonce,sl eQuery r.Queries],[]):=by
 rw [aj (af:=ug) rfl]
 unfold vJ at h
 simp only [ug,Iy]
 have d1:= @N0
 have d2:= @IW
 have d3:= @Ma
 have d4:= @YK
 exact go2
def tx (a:Proof):Option Proof:=
 (tI a.Gates).bind fun i=>
 (sd a.VA).bind fun h=>
 (sd a.VB).bind fun e=>
 (sd a.VC).bind fun b=>
 (tI a.Wires).bind fun f=>
 (sd a.VW).bind fun c=>
 (vJ a.Open).bind fun d=>
 some (Proof.mk a.Root i h e b f c d)
theorem a0d {a r} (h:tx a=some r):Call tab ow 53 [.agg [S a.Root,sl (eL eExt) a.Gates,I a.VA.A,I a.VA.B,I a.VB.A,I a.VB.B,I a.VC.A,I a.VC.B,sl (eL eExt) a.Wires,I a.VW.A,I a.VW.B,sl (eL eExt) a.Open.Rounds,sl eS a.Open.Roots,I a.Open.Last.A,I a.Open.Last.B,I a.Open.Nonce,sl eQuery a.Open.Queries]] []=some (.agg [S r.Root,sl (eL eExt) r.Gates,I r.VA.A,I r.VA.B,I r.VB.A,I r.VB.B,I r.VC.A,I r.VC.B,sl (eL eExt) r.Wires,I r.VW.A,I r.VW.B,sl (eL eExt) r.Open.Rounds,sl eS r.Open.Roots,I r.Open.Last.A,I r.Open.Last.B,I r.Open.Nonce,sl eQuery r.Open.Queries],[]):=by
 rw [aj (af:=zN) rfl]
 unfold tx at h
 simp only [zN,N7]
 have d1:= @N0
 have d2:= @Ma
 have d3:= @TD
 exact go2
def qV (a:Source):Option Source:=
 (vZ a.Script).bind fun b=>
 some (Source.mk b a.At a.State a.Count)
theorem X8 {a r} (h:qV a=some r):Call tab ow 54 [.agg [sl eExt a.Script,I a.At,S a.State,I a.Count]] []=some (.agg [sl eExt r.Script,I r.At,S r.State,I r.Count],[]):=by
 rw [aj (af:=xk) rfl]
 unfold qV at h
 simp only [xk,K7]
 have d1:= @JE
 exact go2
def vM (s:bj) (t:Setting) (a:List Int) (p:Proof) (b:Source):Option (Bool×Int):=
 br (decide ((a.length:Int)>4096)) (
 some (false,2)) (
 (Gt s t a b).bind fun e=>
 br (e !=0) (
 some (false,e)) (
 (BP p s t).bind fun d=>
 br (!d) (
 some (false,18)) (
 (rC s t a p b).bind fun c=>
 some ((c==0),c))))
theorem a4W {s t b p a r} (h:vM s t b p a=some r):Call tab ow 149 [.agg [I s.Rows,I s.Cols,I s.Publics,sl aA s.A,sl aA s.B,sl aA s.C],.agg [I t.Rate,I t.Queries,I t.Grind],sl eI b,.agg [S p.Root,sl (eL eExt) p.Gates,I p.VA.A,I p.VA.B,I p.VB.A,I p.VB.B,I p.VC.A,I p.VC.B,sl (eL eExt) p.Wires,I p.VW.A,I p.VW.B,sl (eL eExt) p.Open.Rounds,sl eS p.Open.Roots,I p.Open.Last.A,I p.Open.Last.B,I p.Open.Nonce,sl eQuery p.Open.Queries],.agg [sl eExt a.Script,I a.At,S a.State,I a.Count]] []=some (.tup [B r.1,I r.2],[]):=by
 rw [aj (af:=CF) rfl]
 unfold vM at h
 simp only [CF,PK]
 have d1:= @a5z
 have d2:= @ZZ
 have d3:= @UH
 exact go2
def gR (c:Circuit) (t:Setting) (a:List Int) (p:Proof) (b:Source):Option (Bool×Int):=
 br (decide ((a.length:Int)>4096)) (
 some (false,2)) (
 (uV c).bind fun f=>
 br (!f) (
 some (false,19)) (
 (vi c).bind fun e=>
 (vM e t a p b).bind fun d=>
 some (d.1,d.2)))
theorem KR {c t b p a r} (h:gR c t b p a=some r):Call tab ow 49 [.agg [sl eGate c.Gates],.agg [I t.Rate,I t.Queries,I t.Grind],sl eI b,.agg [S p.Root,sl (eL eExt) p.Gates,I p.VA.A,I p.VA.B,I p.VB.A,I p.VB.B,I p.VC.A,I p.VC.B,sl (eL eExt) p.Wires,I p.VW.A,I p.VW.B,sl (eL eExt) p.Open.Rounds,sl eS p.Open.Roots,I p.Open.Last.A,I p.Open.Last.B,I p.Open.Nonce,sl eQuery p.Open.Queries],.agg [sl eExt a.Script,I a.At,S a.State,I a.Count]] []=some (.tup [B r.1,I r.2],[]):=by
 rw [aj (af:=nv) rfl]
 unfold gR at h
 simp only [nv,zo]
 have d1:= @Va
 have d2:= @Un
 have d3:= @a4W
 exact go2
def uZ (s:bj) (t:Setting) (a:List Int) (p:Proof) (b:Source):Option (Bool×Int):=
 (vU s t a b).bind fun d=>
 br (d !=0) (
 some (false,d)) (
 (DB s t a p b).bind fun c=>
 some (c.1,c.2))
theorem a6g {s t b p a r} (h:uZ s t b p a=some r):Call tab ow 62 [.agg [I s.Rows,I s.Cols,I s.Publics,sl aA s.A,sl aA s.B,sl aA s.C],.agg [I t.Rate,I t.Queries,I t.Grind],sl eI b,.agg [S p.Root,sl (eL eExt) p.Gates,I p.VA.A,I p.VA.B,I p.VB.A,I p.VB.B,I p.VC.A,I p.VC.B,sl (eL eExt) p.Wires,I p.VW.A,I p.VW.B,sl (eL eExt) p.Open.Rounds,sl eS p.Open.Roots,I p.Open.Last.A,I p.Open.Last.B,I p.Open.Nonce,sl eQuery p.Open.Queries],.agg [sl eExt a.Script,I a.At,S a.State,I a.Count]] []=some (.tup [B r.1,I r.2],[]):=by
 rw [aj (af:=DO) rfl]
 unfold uZ at h
 simp only [DO,Ro]
 have d1:= @Tk
 have d2:= @YA
 exact go2
def gU (c:Circuit) (t:Setting) (a:List Int) (p:Proof) (b:Source):Option (Bool×Int):=
 br (decide ((a.length:Int)>4096)) (
 some (false,2)) (
 (vX c).bind fun f=>
 br (!f) (
 some (false,19)) (
 (lH c).bind fun e=>
 (uZ e t a p b).bind fun d=>
 some (d.1,d.2)))
theorem K4 {c t b p a r} (h:gU c t b p a=some r):Call tab ow 55 [.agg [sl eGate c.Gates],.agg [I t.Rate,I t.Queries,I t.Grind],sl eI b,.agg [S p.Root,sl (eL eExt) p.Gates,I p.VA.A,I p.VA.B,I p.VB.A,I p.VB.B,I p.VC.A,I p.VC.B,sl (eL eExt) p.Wires,I p.VW.A,I p.VW.B,sl (eL eExt) p.Open.Rounds,sl eS p.Open.Roots,I p.Open.Last.A,I p.Open.Last.B,I p.Open.Nonce,sl eQuery p.Open.Queries],.agg [sl eExt a.Script,I a.At,S a.State,I a.Count]] []=some (.tup [B r.1,I r.2],[]):=by
 rw [aj (af:=n8) rfl]
 unfold gU at h
 simp only [n8,zu]
 have d1:= @UB
 have d2:= @JY
 have d3:= @a6g
 exact go2
def LP (a b:Gate):Option Bool:=
 br (a.Op !=b.Op) (
 some false) (
 br (a.A !=b.A) (
 some false) (
 br (a.B !=b.B) (
 some false) (
 br (a.K !=b.K) (
 some false) (
 some true))))
theorem a6b {a b r} (h:LP a b=some r):Call tab ow 277 [.agg [I a.Op,I a.A,I a.B,I a.K],.agg [I b.Op,I b.A,I b.B,I b.K]] []=some (B r,[]):=by
 rw [aj (af:=Dc) rfl]
 unfold LP at h
 simp only [Dc,PD]
 exact go2
def pI (a c:List Gate):Int->Option ((Int)⊕(Unit⊕(Int×Bool)))
 |i=>
  br (decide (i<(a.length:Int))) (
  (atL a i).bind fun x=>
  (atL c i).bind fun b=>
  (LP x b).bind fun d=>
  br (!d) (
  some (.inr (.inl ()))) (
  some (.inl (wrap .i64 (i+1))))) (
  some (.inr (.inr (i,decide (i<(a.length:Int))))))
theorem TX {b a}:LX tab ow (.close [7008]) HU (pI b a) (fun s=>⟨[(0,sl eGate b),(1,sl eGate a),(5,I s)],[]⟩) (alt (fun e=>((.ret,⟨[(4,B false)],[]⟩):bR×St)) (fun e=>(.exit 0,⟨[(0,sl eGate b),(1,sl eGate a),(5,I e.1),(14,B e.2)],[]⟩))):=by
 refine lrX (fun s o h=> ?_)
 simp only [pI] at h
 simp only [HU,HO]
 have d1:= @a6b
 exact go2
def BF (a b:List Gate):Option Bool:=
 br ((a.length:Int) !=(b.length:Int)) (
 some false) (
 (Loop (pI a b) 0).bind (alt (fun d=>
 some false) (fun c=>
 some true)))
theorem a2r {a b r} (h:BF a b=some r):Call tab ow 155 [sl eGate a,sl eGate b] []=some (B r,[]):=by
 rw [aj (af:=A5) rfl]
 unfold BF at h
 simp only [A5,Gi]
 have d1:= @TX
 exact go2
def vn (a b:Circuit):Option Bool:=
 (BF a.Gates b.Gates).bind fun c=>
 br (!c) (
 some false) (
 some true)
theorem US {a b r} (h:vn a b=some r):Call tab ow 56 [.agg [sl eGate a.Gates],.agg [sl eGate b.Gates]] []=some (B r,[]):=by
 rw [aj (af:=uL) rfl]
 unfold vn at h
 simp only [uL,It]
 have d1:= @a2r
 exact go2
def xz (a c:List Int):Int->Option ((Int)⊕(Unit⊕(Int×Bool)))
 |i=>
  br (decide (i<(a.length:Int))) (
  (atL a i).bind fun x=>
  (atL c i).bind fun b=>
  br (x !=b) (
  some (.inr (.inl ()))) (
  some (.inl (wrap .i64 (i+1))))) (
  some (.inr (.inr (i,decide (i<(a.length:Int))))))
theorem XU {b a}:LX tab ow (.close []) Lb (xz b a) (fun s=>⟨[(0,sl eI b),(1,sl eI a),(5,I s)],[]⟩) (alt (fun e=>((.ret,⟨[(4,B false)],[]⟩):bR×St)) (fun e=>(.exit 0,⟨[(0,sl eI b),(1,sl eI a),(5,I e.1),(14,B e.2)],[]⟩))):=by
 refine lrX (fun s o h=> ?_)
 simp only [xz] at h
 simp only [Lb,KN]
 exact go2
def G4 (a b:List Int):Option Bool:=
 br ((a.length:Int) !=(b.length:Int)) (
 some false) (
 (Loop (xz a b) 0).bind (alt (fun d=>
 some false) (fun c=>
 some true)))
theorem a4I {a b r} (h:G4 a b=some r):Call tab ow 57 [sl eI a,sl eI b] []=some (B r,[]):=by
 rw [aj (af:=Dg) rfl]
 unfold G4 at h
 simp only [Dg,Jv]
 have d1:= @XU
 exact go2
def sa (a b:Ext):Option Bool:=
 br (a.A !=b.A) (
 some false) (
 br (a.B !=b.B) (
 some false) (
 some true))
theorem MD {a b r} (h:sa a b=some r):Call tab ow 157 [.agg [I a.A,I a.B],.agg [I b.A,I b.B]] []=some (B r,[]):=by
 rw [aj (af:=GZ) rfl]
 unfold sa at h
 simp only [GZ,VD]
 exact go2
def CM (a c:List Ext):Int->Option ((Int)⊕(Unit⊕(Int×Bool)))
 |i=>
  br (decide (i<(a.length:Int))) (
  (atL a i).bind fun x=>
  (atL c i).bind fun b=>
  (sa x b).bind fun d=>
  br (!d) (
  some (.inr (.inl ()))) (
  some (.inl (wrap .i64 (i+1))))) (
  some (.inr (.inr (i,decide (i<(a.length:Int))))))
theorem Zx {b a}:LX tab ow (.close [7008]) LI (CM b a) (fun s=>⟨[(0,sl eExt b),(1,sl eExt a),(5,I s)],[]⟩) (alt (fun e=>((.ret,⟨[(4,B false)],[]⟩):bR×St)) (fun e=>(.exit 0,⟨[(0,sl eExt b),(1,sl eExt a),(5,I e.1),(14,B e.2)],[]⟩))):=by
 refine lrX (fun s o h=> ?_)
 simp only [CM] at h
 simp only [LI,KA]
 have d1:= @MD
 exact go2
def vC (a b:List Ext):Option Bool:=
 br ((a.length:Int) !=(b.length:Int)) (
 some false) (
 (Loop (CM a b) 0).bind (alt (fun d=>
 some false) (fun c=>
 some true)))
theorem Ju {a b r} (h:vC a b=some r):Call tab ow 159 [sl eExt a,sl eExt b] []=some (B r,[]):=by
 rw [aj (af:=CB) rfl]
 unfold vC at h
 simp only [CB,JO]
 have d1:= @Zx
 exact go2
def AJ (a c:List (List Ext)):Int->Option ((Int)⊕(Unit⊕(Int×Bool)))
 |i=>
  br (decide (i<(a.length:Int))) (
  (atL a i).bind fun x=>
  (atL c i).bind fun b=>
  (vC x b).bind fun d=>
  br (!d) (
  some (.inr (.inl ()))) (
  some (.inl (wrap .i64 (i+1))))) (
  some (.inr (.inr (i,decide (i<(a.length:Int))))))
theorem UT {b a}:LX tab ow (.close [7008]) HW (AJ b a) (fun s=>⟨[(0,sl (eL eExt) b),(1,sl (eL eExt) a),(5,I s)],[]⟩) (alt (fun e=>((.ret,⟨[(4,B false)],[]⟩):bR×St)) (fun e=>(.exit 0,⟨[(0,sl (eL eExt) b),(1,sl (eL eExt) a),(5,I e.1),(14,B e.2)],[]⟩))):=by
 refine lrX (fun s o h=> ?_)
 simp only [AJ] at h
 simp only [HW,Iu]
 have d1:= @Ju
 exact go2
def sW (a b:(List (List Ext))):Option Bool:=
 br ((a.length:Int) !=(b.length:Int)) (
 some false) (
 (Loop (AJ a b) 0).bind (alt (fun d=>
 some false) (fun c=>
 some true)))
theorem NJ {a b r} (h:sW a b=some r):Call tab ow 156 [sl (eL eExt) a,sl (eL eExt) b] []=some (B r,[]):=by
 rw [aj (af:=zw) rfl]
 unfold sW at h
 simp only [zw,FA]
 have d1:= @UT
 exact go2
def qz (a c:List (List UInt8)):Int->Option ((Int)⊕(Unit⊕(Int×Bool)))
 |i=>
  br (decide (i<(a.length:Int))) (
  (atL a i).bind fun x=>
  (atL c i).bind fun b=>
  br (x !=b) (
  some (.inr (.inl ()))) (
  some (.inl (wrap .i64 (i+1))))) (
  some (.inr (.inr (i,decide (i<(a.length:Int))))))
theorem OW {b a}:LX tab ow (.close []) E6 (qz b a) (fun s=>⟨[(0,sl eS b),(1,sl eS a),(5,I s)],[]⟩) (alt (fun e=>((.ret,⟨[(4,B false)],[]⟩):bR×St)) (fun e=>(.exit 0,⟨[(0,sl eS b),(1,sl eS a),(5,I e.1),(14,B e.2)],[]⟩))):=by
 refine lrX (fun s o h=> ?_)
 simp only [qz] at h
 simp only [E6,EB]
 exact go2
def o8 (a b:(List (List UInt8))):Option Bool:=
 br ((a.length:Int) !=(b.length:Int)) (
 some false) (
 (Loop (qz a b) 0).bind (alt (fun d=>
 some false) (fun c=>
 some true)))
theorem IS {a b r} (h:o8 a b=some r):Call tab ow 278 [sl eS a,sl eS b] []=some (B r,[]):=by
 rw [aj (af:=uK) rfl]
 unfold o8 at h
 simp only [uK,AL]
 have d1:= @OW
 exact go2
def tu (a c:List (List (List UInt8))):Int->Option ((Int)⊕(Unit⊕(Int×Bool)))
 |i=>
  br (decide (i<(a.length:Int))) (
  (atL a i).bind fun x=>
  (atL c i).bind fun b=>
  (o8 x b).bind fun d=>
  br (!d) (
  some (.inr (.inl ()))) (
  some (.inl (wrap .i64 (i+1))))) (
  some (.inr (.inr (i,decide (i<(a.length:Int))))))
theorem LV {b a}:LX tab ow (.close [7008]) BZ (tu b a) (fun s=>⟨[(0,sl (eL eS) b),(1,sl (eL eS) a),(5,I s)],[]⟩) (alt (fun e=>((.ret,⟨[(4,B false)],[]⟩):bR×St)) (fun e=>(.exit 0,⟨[(0,sl (eL eS) b),(1,sl (eL eS) a),(5,I e.1),(14,B e.2)],[]⟩))):=by
 refine lrX (fun s o h=> ?_)
 simp only [tu] at h
 simp only [BZ,BW]
 have d1:= @IS
 exact go2
def rP (a b:(List (List (List UInt8)))):Option Bool:=
 br ((a.length:Int) !=(b.length:Int)) (
 some false) (
 (Loop (tu a b) 0).bind (alt (fun d=>
 some false) (fun c=>
 some true)))
theorem RC {a b r} (h:rP a b=some r):Call tab ow 375 [sl (eL eS) a,sl (eL eS) b] []=some (B r,[]):=by
 rw [aj (af:=sk) rfl]
 unfold rP at h
 simp only [sk,yf]
 have d1:= @LV
 exact go2
def xP (a b:Query):Option Bool:=
 (vC a.Pairs b.Pairs).bind fun d=>
 br (!d) (
 some false) (
 (rP a.Paths b.Paths).bind fun c=>
 br (!c) (
 some false) (
 some true))
theorem a07 {a b r} (h:xP a b=some r):Call tab ow 343 [.agg [sl eExt a.Pairs,sl (eL eS) a.Paths],.agg [sl eExt b.Pairs,sl (eL eS) b.Paths]] []=some (B r,[]):=by
 rw [aj (af:=zW) rfl]
 unfold xP at h
 simp only [zW,NO]
 have d1:= @Ju
 have d2:= @RC
 exact go2
def yT (a c:List Query):Int->Option ((Int)⊕(Unit⊕(Int×Bool)))
 |i=>
  br (decide (i<(a.length:Int))) (
  (atL a i).bind fun x=>
  (atL c i).bind fun b=>
  (xP x b).bind fun d=>
  br (!d) (
  some (.inr (.inl ()))) (
  some (.inl (wrap .i64 (i+1))))) (
  some (.inr (.inr (i,decide (i<(a.length:Int))))))
theorem Rc {b a}:LX tab ow (.close [7008]) FC (yT b a) (fun s=>⟨[(0,sl eQuery b),(1,sl eQuery a),(5,I s)],[]⟩) (alt (fun e=>((.ret,⟨[(4,B false)],[]⟩):bR×St)) (fun e=>(.exit 0,⟨[(0,sl eQuery b),(1,sl eQuery a),(5,I e.1),(14,B e.2)],[]⟩))):=by
 refine lrX (fun s o h=> ?_)
 simp only [yT] at h
 simp only [FC,G8]
 have d1:= @a07
 exact go2
def y5 (a b:List Query):Option Bool:=
 br ((a.length:Int) !=(b.length:Int)) (
 some false) (
 (Loop (yT a b) 0).bind (alt (fun d=>
 some false) (fun c=>
 some true)))
theorem Xd {a b r} (h:y5 a b=some r):Call tab ow 279 [sl eQuery a,sl eQuery b] []=some (B r,[]):=by
 rw [aj (af:=wI) rfl]
 unfold y5 at h
 simp only [wI,DM]
 have d1:= @Rc
 exact go2
def vA (a b:Opening):Option Bool:=
 (sW a.Rounds b.Rounds).bind fun f=>
 br (!f) (
 some false) (
 (o8 a.Roots b.Roots).bind fun e=>
 br (!e) (
 some false) (
 (sa a.Last b.Last).bind fun d=>
 br (!d) (
 some false) (
 br (a.Nonce !=b.Nonce) (
 some false) (
 (y5 a.Queries b.Queries).bind fun c=>
 br (!c) (
 some false) (
 some true)))))
theorem TA {a b r} (h:vA a b=some r):Call tab ow 158 [.agg [sl (eL eExt) a.Rounds,sl eS a.Roots,I a.Last.A,I a.Last.B,I a.Nonce,sl eQuery a.Queries],.agg [sl (eL eExt) b.Rounds,sl eS b.Roots,I b.Last.A,I b.Last.B,I b.Nonce,sl eQuery b.Queries]] []=some (B r,[]):=by
 rw [aj (af:=uA) rfl]
 unfold vA at h
 simp only [uA,IT]
 have d1:= @NJ
 have d2:= @IS
 have d3:= @MD
 have d4:= @Xd
 exact go2
def Bk (a b:Proof):Option Bool:=
 br (a.Root !=b.Root) (
 some false) (
 (sW a.Gates b.Gates).bind fun j=>
 br (!j) (
 some false) (
 (sa a.VA b.VA).bind fun i=>
 br (!i) (
 some false) (
 (sa a.VB b.VB).bind fun f=>
 br (!f) (
 some false) (
 (sa a.VC b.VC).bind fun c=>
 br (!c) (
 some false) (
 (sW a.Wires b.Wires).bind fun h=>
 br (!h) (
 some false) (
 (sa a.VW b.VW).bind fun d=>
 br (!d) (
 some false) (
 (vA a.Open b.Open).bind fun e=>
 br (!e) (
 some false) (
 some true))))))))
theorem a0U {a b r} (h:Bk a b=some r):Call tab ow 58 [.agg [S a.Root,sl (eL eExt) a.Gates,I a.VA.A,I a.VA.B,I a.VB.A,I a.VB.B,I a.VC.A,I a.VC.B,sl (eL eExt) a.Wires,I a.VW.A,I a.VW.B,sl (eL eExt) a.Open.Rounds,sl eS a.Open.Roots,I a.Open.Last.A,I a.Open.Last.B,I a.Open.Nonce,sl eQuery a.Open.Queries],.agg [S b.Root,sl (eL eExt) b.Gates,I b.VA.A,I b.VA.B,I b.VB.A,I b.VB.B,I b.VC.A,I b.VC.B,sl (eL eExt) b.Wires,I b.VW.A,I b.VW.B,sl (eL eExt) b.Open.Rounds,sl eS b.Open.Roots,I b.Open.Last.A,I b.Open.Last.B,I b.Open.Nonce,sl eQuery b.Open.Queries]] []=some (B r,[]):=by
 rw [aj (af:=A1) rfl]
 unfold Bk at h
 simp only [A1,Nq]
 have d1:= @NJ
 have d2:= @MD
 have d3:= @TA
 exact go2
def yd (a b:Source):Option Bool:=
 (vC a.Script b.Script).bind fun c=>
 br (!c) (
 some false) (
 br (a.At !=b.At) (
 some false) (
 br (a.State !=b.State) (
 some false) (
 br (a.Count !=b.Count) (
 some false) (
 some true))))
theorem WE {a b r} (h:yd a b=some r):Call tab ow 59 [.agg [sl eExt a.Script,I a.At,S a.State,I a.Count],.agg [sl eExt b.Script,I b.At,S b.State,I b.Count]] []=some (B r,[]):=by
 rw [aj (af:=wS) rfl]
 unfold yd at h
 simp only [wS,LC]
 have d1:= @Ju
 exact go2
def j0 (b:Circuit) (a:Setting) (v:List Int) (t:Proof) (u:Source):Option Bool:=
 br (decide ((v.length:Int)>1048576)) (
 some true) (
 (vL b 1048576).bind fun r_=>
 br (decide (r_<0)) (
 some true) (
 (C4 t r_).bind fun s=>
 br (decide (s<0)) (
 some true) (
 (yQ u s).bind fun w=>
 br (decide (w<0)) (
 some true) (
 (nX b).bind fun x=>
 (vQ a).bind fun r_5=>
 (yu v).bind fun z=>
 (tx t).bind fun r_7=>
 (qV u).bind fun y=>
 (gR x r_5 z r_7 y).bind fun i=>
 (nX b).bind fun h=>
 (yu v).bind fun d=>
 (tx t).bind fun f=>
 (qV u).bind fun e=>
 (vQ a).bind fun p=>
 (gU h p d f e).bind fun c=>
 br (c.1 !=i.1) (
 some false) (
 br (c.2 !=i.2) (
 some false) (
 (nX b).bind fun l=>
 (vn h l).bind fun n=>
 br (!n) (
 some false) (
 (yu v).bind fun o=>
 (G4 d o).bind fun j=>
 br (!j) (
 some false) (
 (tx t).bind fun q=>
 (Bk f q).bind fun k=>
 br (!k) (
 some false) (
 (qV u).bind fun r=>
 (yd e r).bind fun m=>
 br (!m) (
 some false) (
 some true))))))))))
theorem w_FnExactVerifyCircuit_c {b a e c d r} (h:j0 b a e c d=some r):Call tab ow 7 [.agg [sl eGate b.Gates],.agg [I a.Rate,I a.Queries,I a.Grind],sl eI e,.agg [S c.Root,sl (eL eExt) c.Gates,I c.VA.A,I c.VA.B,I c.VB.A,I c.VB.B,I c.VC.A,I c.VC.B,sl (eL eExt) c.Wires,I c.VW.A,I c.VW.B,sl (eL eExt) c.Open.Rounds,sl eS c.Open.Roots,I c.Open.Last.A,I c.Open.Last.B,I c.Open.Nonce,sl eQuery c.Open.Queries],.agg [sl eExt d.Script,I d.At,S d.State,I d.Count]] []=some (B r,[]):=by
 rw [aj (af:=a_w_FnExactVerifyCircuit) rfl]
 unfold j0 at h
 simp only [a_w_FnExactVerifyCircuit,pL]
 have d1:= @U1
 have d2:= @a04
 have d3:= @WO
 have d4:= @Uu
 have d5:= @Uw
 have d6:= @a4K
 have d7:= @a0d
 have d8:= @X8
 have d9:= @KR
 have d10:= @K4
 have d11:= @US
 have d12:= @a4I
 have d13:= @a0U
 have d14:= @WE
 exact go2
end
end Go.AI.Fn
