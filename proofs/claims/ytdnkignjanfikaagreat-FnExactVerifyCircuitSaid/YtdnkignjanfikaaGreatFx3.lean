/- Part. -/
import Derived.Test.YtdnkignjanfikaaGreatFx2
set_option linter.unusedVariables false
set_option linter.unusedSimpArgs false
set_option maxRecDepth 100000
set_option maxHeartbeats 1000000
namespace Go.AI.Fn
noncomputable section
open IntKind (wrap)
section
@[local go_sem] theorem c1L:mkR 2039 []=rws eExt []:=rfl
def uy (l:List Ext) (c:List UInt8) (a:List (List Ext)) (c3 c4 c5 c6 z c8:Int) (c9:List (List Ext)) (h u:Int) (n:List (List Ext)) (p:List (List UInt8)) (i e d:Int) (f:List Query) (k m o:Int) (s y w:List au) (q r j:Int):Int->Option ((Int)⊕(Unit⊕(Int×Bool)))
 |t=>
  br (decide (t<(a.length:Int))) (
  (atL a t).bind fun x=>
  br ((x.length:Int) !=4) (
  some (.inr (.inl ()))) (
  (atL a t).bind fun v=>
  (lF v).bind fun b=>
  br (!b) (
  some (.inr (.inl ()))) (
  some (.inl (wrap .i64 (t+1)))))) (
  some (.inr (.inr (t,decide (t<(a.length:Int))))))
abbrev uv (l:List Ext) (c:List UInt8) (x:List (List Ext)) (c3 z c5 w u v:Int) (y:List (List Ext)) (e r:Int) (k:List (List Ext)) (n:List (List UInt8)) (f b a:Int) (d:List Query) (i j m:Int) (q t s:List au) (o p h:Int):List (Nat×Blk):=[(1000,⟨17,true,[[S c,sl (eL eExt) x,I c3,I z,I c5,I w,I u,I v,sl (eL eExt) y,I e,I r,sl (eL eExt) k,sl eS n,I f,I b,I a,sl eQuery d]]⟩),(1001,⟨6,true,[[I i,I j,I m,sl aA q,sl aA t,sl aA s]]⟩),(1002,⟨3,true,[[I o,I p,I h]]⟩),(2039,⟨2,false,rws eExt l⟩)]
theorem UE {l c c2 c3 c4 c5 c6 y z c9 f v n q i b a d k m p u x w r t j}:LX tab ow (.close [7013]) Il (uy l c c2 c3 c4 c5 c6 y z c9 f v n q i b a d k m p u x w r t j) (fun s=>⟨[(3,.ptr 1000 0 0 1),(4,.ptr 1001 0 0 1),(5,.ptr 1002 0 0 1),(7,I s)],uv l c c2 c3 c4 c5 c6 y z c9 f v n q i b a d k m p u x w r t j⟩) (alt (fun e=>((.ret,⟨[(6,B false)],uv l c c2 c3 c4 c5 c6 y z c9 f v n q i b a d k m p u x w r t j⟩):bR×St)) (fun e=>(.exit 0,⟨[(3,.ptr 1000 0 0 1),(4,.ptr 1001 0 0 1),(5,.ptr 1002 0 0 1),(7,I e.1),(56,B e.2)],uv l c c2 c3 c4 c5 c6 y z c9 f v n q i b a d k m p u x w r t j⟩))):=by
 refine lrX (fun s o h=> ?_)
 simp only [uy] at h
 simp only [uv,Il,IX]
 have d1:= @rg
 exact go2
def uD (l2:List Ext) (v:List UInt8) (c28:List (List Ext)) (i c30 c31 c32 h s:Int) (a:List (List Ext)) (r k:Int) (e:List (List Ext)) (u:List (List UInt8)) (o j z:Int) (x:List Query) (p m f:Int) (d q t:List au) (c50 l w:Int):Int->Option ((Int)⊕(Unit⊕(Int×Bool)))
 |b=>
  br (decide (b<(a.length:Int))) (
  (atL a b).bind fun n=>
  br ((n.length:Int) !=3) (
  some (.inr (.inl ()))) (
  (atL a b).bind fun y=>
  (lF y).bind fun c=>
  br (!c) (
  some (.inr (.inl ()))) (
  some (.inl (wrap .i64 (b+1)))))) (
  some (.inr (.inr (b,decide (b<(a.length:Int))))))
abbrev uu (l2:List Ext) (s:List UInt8) (z:List (List Ext)) (f x y w e p:Int) (c:List (List Ext)) (o i:Int) (b:List (List Ext)) (r:List (List UInt8)) (l h v:Int) (u:List Query) (m k d:Int) (a n q:List au) (c50 j t:Int):List (Nat×Blk):=[(1000,⟨17,true,[[S s,sl (eL eExt) z,I f,I x,I y,I w,I e,I p,sl (eL eExt) c,I o,I i,sl (eL eExt) b,sl eS r,I l,I h,I v,sl eQuery u]]⟩),(1001,⟨6,true,[[I m,I k,I d,sl aA a,sl aA n,sl aA q]]⟩),(1002,⟨3,true,[[I c50,I j,I t]]⟩),(2039,⟨2,false,rws eExt l2⟩)]
theorem TA {l2 w c28 i c30 c31 c32 f t c r k b v n j z y p m d a q u c50 l x}:LX tab ow (.close [12013]) Is (uD l2 w c28 i c30 c31 c32 f t c r k b v n j z y p m d a q u c50 l x) (fun s=>⟨[(3,.ptr 1000 0 0 1),(4,.ptr 1001 0 0 1),(5,.ptr 1002 0 0 1),(8,I s)],uu l2 w c28 i c30 c31 c32 f t c r k b v n j z y p m d a q u c50 l x⟩) (alt (fun e=>((.ret,⟨[(6,B false)],uu l2 w c28 i c30 c31 c32 f t c r k b v n j z y p m d a q u c50 l x⟩):bR×St)) (fun e=>(.exit 2,⟨[(3,.ptr 1000 0 0 1),(4,.ptr 1001 0 0 1),(5,.ptr 1002 0 0 1),(8,I e.1),(79,B e.2)],uu l2 w c28 i c30 c31 c32 f t c r k b v n j z y p m d a q u c50 l x⟩))):=by
 refine lrX (fun s o h=> ?_)
 simp only [uD] at h
 simp only [uu,Is,IW]
 have d1:= @rg
 exact go2
def BH (b:Proof) (a:bi) (c:Setting):Option Bool:=
 (tq a).bind fun i=>
 br (!i) (
 some false) (
 (nJ c).bind fun f=>
 br (!f) (
 some false) (
 br ((b.Root.length:Int) !=32) (
 some false) (
 br ((b.Gates.length:Int) !=a.Rows) (
 some false) (
 br ((b.Wires.length:Int) !=a.Cols) (
 some false) (
 (lF ([b.VA,b.VB,b.VC,b.VW]:List Ext)).bind fun d=>
 br (!d) (
 some false) (
 (Loop (uy ([b.VA,b.VB,b.VC,b.VW]:List Ext) b.Root b.Gates b.VA.A b.VA.B b.VB.A b.VB.B b.VC.A b.VC.B b.Wires b.VW.A b.VW.B b.Open.Rounds b.Open.Roots b.Open.Last.A b.Open.Last.B b.Open.Nonce b.Open.Queries a.Rows a.Cols a.Publics a.A a.B a.C c.Rate c.Queries c.Grind) 0).bind (alt (fun j=>
 some false) (fun k=>
 (Loop (uD ([b.VA,b.VB,b.VC,b.VW]:List Ext) b.Root b.Gates b.VA.A b.VA.B b.VB.A b.VB.B b.VC.A b.VC.B b.Wires b.VW.A b.VW.B b.Open.Rounds b.Open.Roots b.Open.Last.A b.Open.Last.B b.Open.Nonce b.Open.Queries a.Rows a.Cols a.Publics a.A a.B a.C c.Rate c.Queries c.Grind) 0).bind (alt (fun l=>
 some false) (fun h=>
 (vO b.Open (wrap .i64 (a.Cols-1)) c).bind fun e=>
 some e))))))))))
theorem a0Y {b a c r} (h:BH b a c=some r):Call tab ow 140 [.agg [S b.Root,sl (eL eExt) b.Gates,I b.VA.A,I b.VA.B,I b.VB.A,I b.VB.B,I b.VC.A,I b.VC.B,sl (eL eExt) b.Wires,I b.VW.A,I b.VW.B,sl (eL eExt) b.Open.Rounds,sl eS b.Open.Roots,I b.Open.Last.A,I b.Open.Last.B,I b.Open.Nonce,sl eQuery b.Open.Queries],.agg [I a.Rows,I a.Cols,I a.Publics,sl aA a.A,sl aA a.B,sl aA a.C],.agg [I c.Rate,I c.Queries,I c.Grind]] []=some (B r,[]):=by
 rw [aj (af:=A9) rfl]
 unfold BH at h
 simp only [A9,zs]
 have d1:= @LB
 have d2:= @AJ
 have d3:= @rg
 have d4:= @UE
 have d5:= @TA
 have d6:= @TE
 exact go2
end
def FB (s:bi) (t:Setting) (a:List Int) (b:Source):Option Int:=
 br (decide ((a.length:Int)>4096)) (
 some 2) (
 (tq s).bind fun h=>
 br (!h) (
 some 1) (
 (nJ t).bind fun f=>
 br (!f) (
 some 1) (
 (vq a).bind fun c=>
 br (!c) (
 some 1) (
 (yh b).bind fun d=>
 br (!d) (
 some 1) (
 br ((a.length:Int) !=s.Publics) (
 some 17) (
 (DE b 200).bind fun e=>
 br e (
 some 6) (
 some 0)))))))
theorem a5k {s t b a r} (h:FB s t b a=some r):Call tab ow 142 [.agg [I s.Rows,I s.Cols,I s.Publics,sl aA s.A,sl aA s.B,sl aA s.C],.agg [I t.Rate,I t.Queries,I t.Grind],sl eI b,.agg [sl eExt a.Script,I a.At,S a.State,I a.Count]] []=some (I r,[]):=by
 rw [aj (af:=D0) rfl]
 unfold FB at h
 simp only [D0,Rs]
 have d1:= @LB
 have d2:= @AJ
 have d3:= @UK
 have d4:= @Yv
 have d5:= @WK
 exact go2
def kG (a:List Ext) (j m l r q o p:Int):Int×Int×Int×Int->Option ((Int×Int×Int×Int)⊕((Int×Int×Bool×Int×Int)))
 | (d,k,b,c)=>
   br (decide (k<(a.length:Int))) (
   br (k !=j) (
   (s8 k).bind fun n=>
   (uV (Ext.mk m l) n).bind fun i=>
   (dD (Ext.mk b c) i).bind fun e=>
   (yr j k).bind fun f=>
   (li d f).bind fun h=>
   some (.inl (h,(wrap .i64 (k+1)),e.A,e.B))) (
   some (.inl (d,(wrap .i64 (k+1)),b,c)))) (
   some (.inr (d,k,decide (k<(a.length:Int)),b,c)))
abbrev B5 (h f i e c d a b:Int):List (Nat×Blk):=[(1000,⟨2,true,[[I h,I f]]⟩),(1001,⟨2,true,[[I i,I e]]⟩),(2001,⟨2,true,[[I c,I d]]⟩),(6004,⟨2,true,[[I a,I b]]⟩)]
theorem UR {a j f i k d b c}:LX tab ow (.close [12003,12004,12005,13003,13004]) IV (kG a j f i k d b c) (fun s=>⟨[(0,sl eExt a),(3,.ptr 1000 0 0 1),(4,.ptr 1001 0 0 1),(5,.ptr 2001 0 0 1),(6,I j),(7,.ptr 6004 0 0 1),(8,I s.1),(9,I s.2.1)],B5 f i k d b c s.2.2.1 s.2.2.2⟩) (fun e=>(.exit 2,⟨[(0,sl eExt a),(3,.ptr 1000 0 0 1),(4,.ptr 1001 0 0 1),(5,.ptr 2001 0 0 1),(6,I j),(7,.ptr 6004 0 0 1),(8,I e.1),(9,I e.2.1),(24,B e.2.2.1)],B5 f i k d b c e.2.2.2.1 e.2.2.2.2⟩)):=by
 refine lrX (fun s o h=> ?_)
 obtain ⟨_,_,_,_⟩:=s
 simp only [kG] at h
 simp only [B5,IV,IC]
 have d1:= @xN
 have d2:= @CI
 have d3:= @kD
 have d4:= @Qz
 have d5:= @Db
 exact go2
def kJ (a:List Ext) (c n o m:Int):Int×Int×Int->Option ((Int×Int×Int)⊕((Int×Bool×Int×Int)))
 | (i,j,d)=>
   br (decide (i<(a.length:Int))) (
   (atL a i).bind fun l=>
   (Loop (kG a i c n o m j d) (1,0,l.A,l.B)).bind fun f=>
   (m7 f.1).bind fun k=>
   (s8 k).bind fun h=>
   (dD (Ext.mk f.2.2.2.1 f.2.2.2.2) h).bind fun e=>
   (iS (Ext.mk j d) e).bind fun b=>
   some (.inl ((wrap .i64 (i+1)),b.A,b.B))) (
   some (.inr (i,decide (i<(a.length:Int)),j,d)))
abbrev AR (c e f b d a:Int):List (Nat×Blk):=[(1000,⟨2,true,[[I c,I e]]⟩),(1001,⟨2,true,[[I f,I b]]⟩),(2001,⟨2,true,[[I d,I a]]⟩)]
theorem Uz {a c d b f}:LX tab ow (.close [6004,12003,12004,12005,13003,13004,14003,14004,14005,14006]) HD (kJ a c d b f) (fun s=>⟨[(0,sl eExt a),(3,.ptr 1000 0 0 1),(4,.ptr 1001 0 0 1),(5,.ptr 2001 0 0 1),(6,I s.1)],AR c d b f s.2.1 s.2.2⟩) (fun e=>(.exit 0,⟨[(0,sl eExt a),(3,.ptr 1000 0 0 1),(4,.ptr 1001 0 0 1),(5,.ptr 2001 0 0 1),(6,I e.1),(14,B e.2.1)],AR c d b f e.2.2.1 e.2.2.2⟩)):=by
 refine lrX (fun s o h=> ?_)
 obtain ⟨_,_,_⟩:=s
 simp only [kJ] at h
 simp only [AR,HD,Ig]
 have d1:= @UR
 have d2:= @F5
 have d3:= @xN
 have d4:= @kD
 have d5:= @nH
 exact go2
def xT (a:List Ext) (x:Ext):Option Ext:=
 (Loop (kJ a x.A x.B 0 0) (0,0,0)).bind fun b=>
 some (Ext.mk b.2.2.1 b.2.2.2)
theorem Nc {a x r} (h:xT a x=some r):Call tab ow 231 [sl eExt a,.agg [I x.A,I x.B]] []=some (.agg [I r.A,I r.B],[]):=by
 rw [aj (af:=Ai) rfl]
 unfold xT at h
 simp only [Ai,zN]
 have d1:= @Uz
 exact go2
section
@[local go_sem] theorem b59:mkR 3000 []=rws eExt []:=rfl
@[local go_sem] theorem b1J:mkR 4000 []=rws eExt []:=rfl
@[local go_sem] theorem b6b:mkR 10000 []=rws eExt []:=rfl
@[local go_sem] theorem b6f:mkR 17002 []=rws eExt []:=rfl
@[local go_sem] theorem b1M:mkR 12000 []=rws eExt []:=rfl
def dX (a:Int) (t:List (List Ext)) (o w v y:Int) (p:List UInt8) (s:Int):(List Ext)×Int×Int×Int×(List Ext)×Int×(List UInt8)×Int->Option (((List Ext)×Int×Int×Int×(List Ext)×Int×(List UInt8)×Int)⊕(((List Ext)×(List Ext)×Int×Int×(List Ext)×Int×(List UInt8)×Int×(List Ext)×Int×(List UInt8)×Int)⊕((List Ext)×(List Ext)×Int×Int×(List Ext)×Int×(List UInt8)×Int×(List Ext)×Int×(List UInt8)×Int)⊕((List Ext)×Int×Bool×Int×Int×(List Ext)×Int×(List UInt8)×Int)))
 | (l,j,c,m,h,e,f,d)=>
   br (decide (j<o)) (
   (atL t j).bind fun x=>
   (vQ a).bind fun r=>
   br ((x.length:Int) !=(wrap .i64 (r+1))) (
   some (.inr (.inl (l,([]:List Ext),c,m,h,e,f,d,h,e,f,d)))) (
   (atL x 0).bind fun u=>
   (atL x 1).bind fun q=>
   (iS u q).bind fun k=>
   br (k.A==c) (
   br (k.B==m) (
   (l0 (Source.mk h e f d) x).bind fun n=>
   (rf n).bind fun b=>
   (xT x b.2).bind fun i=>
   br (cP ((l++([b.2]:List Ext)).length) 16) (
   some (.inl ((l++([b.2]:List Ext)),(wrap .i64 (j+1)),i.A,i.B,b.1.Script,b.1.At,b.1.State,b.1.Count))) none) (
   some (.inr (.inr (.inl (l,([]:List Ext),c,m,h,e,f,d,h,e,f,d)))))) (
   some (.inr (.inr (.inl (l,([]:List Ext),c,m,h,e,f,d,h,e,f,d))))))) (
   some (.inr (.inr (.inr (l,j,decide (j<o),c,m,h,e,f,d)))))
abbrev we (h f m:Int) (b:List UInt8) (a:Int) (l:List Ext) (c i:Int) (k:List Ext) (e:Int) (j:List UInt8) (d:Int):List (Nat×Blk):=[(1000,⟨2,true,[[I c,I i]]⟩),(1001,⟨4,true,[[sl eExt k,I e,S j,I d]]⟩),(1003,⟨2,true,[[I h,I f]]⟩),(1004,⟨4,true,[[.lit (.slice none 0 0),I m,S b,I a]]⟩),(4000,⟨2,false,rws eExt l⟩)]
theorem OX {a t i d f j c b}:LX tab ow (.close [9003,10000,11006,12000,13002,14001,14005,14006,16002,17002,17003]) Ee (dX a t i d f j c b) (fun s=>⟨[(0,I a),(2,sl (eL eExt) t),(3,I i),(6,.ptr 1000 0 0 1),(9,.ptr 1001 0 0 1),(11,.ptr 1003 0 0 1),(12,.ptr 1004 0 0 1),(14,.sl 4000 0 s.1.length),(15,I s.2.1)],we d f j c b s.1 s.2.2.1 s.2.2.2.1 s.2.2.2.2.1 s.2.2.2.2.2.1 s.2.2.2.2.2.2.1 s.2.2.2.2.2.2.2⟩) (alt (fun e=>((.ret,⟨[(10,.sl 10000 0 e.2.1.length),(11,.ptr 1003 0 0 1),(12,.ptr 1004 0 0 1),(13,I 18)],[(1000,⟨2,true,[[I e.2.2.1,I e.2.2.2.1]]⟩),(1001,⟨4,true,[[sl eExt e.2.2.2.2.1,I e.2.2.2.2.2.1,S e.2.2.2.2.2.2.1,I e.2.2.2.2.2.2.2.1]]⟩),(1003,⟨2,true,[[I 0,I 0]]⟩),(1004,⟨4,true,[[sl eExt e.2.2.2.2.2.2.2.2.1,I e.2.2.2.2.2.2.2.2.2.1,S e.2.2.2.2.2.2.2.2.2.2.1,I e.2.2.2.2.2.2.2.2.2.2.2]]⟩),(4000,⟨2,false,rws eExt e.1⟩),(10000,⟨2,false,rws eExt e.2.1⟩)]⟩):bR×St)) (alt (fun e=>((.ret,⟨[(10,.sl 12000 0 e.2.1.length),(11,.ptr 1003 0 0 1),(12,.ptr 1004 0 0 1),(13,I 10)],[(1000,⟨2,true,[[I e.2.2.1,I e.2.2.2.1]]⟩),(1001,⟨4,true,[[sl eExt e.2.2.2.2.1,I e.2.2.2.2.2.1,S e.2.2.2.2.2.2.1,I e.2.2.2.2.2.2.2.1]]⟩),(1003,⟨2,true,[[I 0,I 0]]⟩),(1004,⟨4,true,[[sl eExt e.2.2.2.2.2.2.2.2.1,I e.2.2.2.2.2.2.2.2.2.1,S e.2.2.2.2.2.2.2.2.2.2.1,I e.2.2.2.2.2.2.2.2.2.2.2]]⟩),(4000,⟨2,false,rws eExt e.1⟩),(12000,⟨2,false,rws eExt e.2.1⟩)]⟩):bR×St)) (fun e=>(.exit 0,⟨[(0,I a),(2,sl (eL eExt) t),(3,I i),(6,.ptr 1000 0 0 1),(9,.ptr 1001 0 0 1),(11,.ptr 1003 0 0 1),(12,.ptr 1004 0 0 1),(14,.sl 4000 0 e.1.length),(15,I e.2.1),(29,B e.2.2.1)],we d f j c b e.1 e.2.2.2.1 e.2.2.2.2.1 e.2.2.2.2.2.1 e.2.2.2.2.2.2.1 e.2.2.2.2.2.2.2.1 e.2.2.2.2.2.2.2.2⟩)))):=by
 refine lrX (fun s o h=> ?_)
 obtain ⟨_,_,_,_,_,_,_,_⟩:=s
 simp only [dX] at h
 simp only [we,Ee,E8]
 have d1:= @Ux
 have d2:= @nH
 have d3:= @zp
 have d4:= @G1
 have d5:= @Nc
 exact go2
def lU (b:Int) (a:Ext) (h:(List (List Ext))) (i:Int) (f:Source):Option ((List Ext)×Ext×Source×Int):=
 br ((h.length:Int) !=i) (
 some (([]:List Ext),(Ext.mk 0 0),f,18)) (
 (Loop (dX b h i 0 0 0 (([]:List UInt8)) 0) (([]:List Ext),0,a.A,a.B,f.Script,f.At,f.State,f.Count)).bind (alt (fun d=>
 some (d.2.1,(Ext.mk 0 0),(Source.mk d.2.2.2.2.2.2.2.2.1 d.2.2.2.2.2.2.2.2.2.1 d.2.2.2.2.2.2.2.2.2.2.1 d.2.2.2.2.2.2.2.2.2.2.2),18)) (alt (fun e=>
 some (e.2.1,(Ext.mk 0 0),(Source.mk e.2.2.2.2.2.2.2.2.1 e.2.2.2.2.2.2.2.2.2.1 e.2.2.2.2.2.2.2.2.2.2.1 e.2.2.2.2.2.2.2.2.2.2.2),10)) (fun c=>
 some (c.1,(Ext.mk c.2.2.2.1 c.2.2.2.2.1),(Source.mk c.2.2.2.2.2.1 c.2.2.2.2.2.2.1 c.2.2.2.2.2.2.2.1 c.2.2.2.2.2.2.2.2),0)))))
theorem U4 {b a e d c r} (h:lU b a e d c=some r):Call tab ow 268 [I b,.agg [I a.A,I a.B],sl (eL eExt) e,I d,.agg [sl eExt c.Script,I c.At,S c.State,I c.Count]] []=some (.tup [sl eExt r.1,.agg [I r.2.1.A,I r.2.1.B],.agg [sl eExt r.2.2.1.Script,I r.2.2.1.At,S r.2.2.1.State,I r.2.2.1.Count],I r.2.2.2],[]):=by
 rw [aj (af:=uJ) rfl]
 unfold lU at h
 simp only [uJ,AZ]
 have d1:= @OX
 exact go2
end
def kB (b m:List Ext) (c q:Int):Int×Int×Int->Option ((Int×Int×Int)⊕((Int×Bool×Int×Int)))
 | (i,l,k)=>
   br (decide (i<(b.length:Int))) (
   (atL b i).bind fun x=>
   (atL m i).bind fun p=>
   (dD x p).bind fun j=>
   (atL b i).bind fun n=>
   (oL n).bind fun d=>
   (atL m i).bind fun o=>
   (oL o).bind fun e=>
   (dD d e).bind fun f=>
   (iS j f).bind fun h=>
   (dD (Ext.mk l k) h).bind fun a=>
   some (.inl ((wrap .i64 (i+1)),a.A,a.B))) (
   some (.inr (i,decide (i<(b.length:Int)),l,k)))
abbrev Aw (c b a d:Int):List (Nat×Blk):=[(1000,⟨2,true,[[I c,I b]]⟩),(2001,⟨2,true,[[I a,I d]]⟩)]
theorem V6 {d a c b}:LX tab ow (.close [6009,6014,6019,6020,6021,6022]) In (kB d a c b) (fun s=>⟨[(0,sl eExt d),(1,sl eExt a),(4,.ptr 1000 0 0 1),(5,.ptr 2001 0 0 1),(6,I s.1)],Aw c b s.2.1 s.2.2⟩) (fun e=>(.exit 0,⟨[(0,sl eExt d),(1,sl eExt a),(4,.ptr 1000 0 0 1),(5,.ptr 2001 0 0 1),(6,I e.1),(11,B e.2.1)],Aw c b e.2.2.1 e.2.2.2⟩)):=by
 refine lrX (fun s o h=> ?_)
 obtain ⟨_,_,_⟩:=s
 simp only [kB] at h
 simp only [Aw,In,Iw]
 have d1:= @kD
 have d2:= @Fc
 have d3:= @nH
 exact go2
def sY (a b:List Ext):Option Ext:=
 (Bw).bind fun d=>
 (Loop (kB a b 0 0) (0,d.A,d.B)).bind fun c=>
 some (Ext.mk c.2.2.1 c.2.2.2)
theorem NP {a b r} (h:sY a b=some r):Call tab ow 233 [sl eExt a,sl eExt b] []=some (.agg [I r.A,I r.B],[]):=by
 rw [aj (af:=A7) rfl]
 unfold sY at h
 simp only [A7,GN]
 have d1:= @Jm
 have d2:= @V6
 exact go2
section
@[local go_sem] theorem b5o:mkR 2002 []=rws eI []:=rfl
def vk (s:bi) (a:List Int) (b:List Ext):Option Ext:=
 (vI s a ([]:List Int)).bind fun e=>
 br (decide (0<=(wrap .u64 (wrap .i64 (s.Cols-1))))) (
 (lr e 0 (bC .i64 1 (wrap .u64 (wrap .i64 (s.Cols-1))))).bind fun y=>
 br (decide (0<=(wrap .u64 (wrap .i64 (s.Cols-1))))) (
 (BV y (bC .i64 1 (wrap .u64 (wrap .i64 (s.Cols-1))))).bind fun d=>
 (Ds d b).bind fun c=>
 some c) none) none
theorem UQ {s a b r} (h:vk s a b=some r):Call tab ow 271 [.agg [I s.Rows,I s.Cols,I s.Publics,sl aA s.A,sl aA s.B,sl aA s.C],sl eI a,sl eExt b] []=some (.agg [I r.A,I r.B],[]):=by
 rw [aj (af:=uf) rfl]
 unfold vk at h
 simp only [uf,Ir]
 have d1:= @V9
 have d2:= @a0v
 have d3:= @VQ
 exact go2
end
section
@[local go_sem] theorem c4L:mkR 2002 []=rws eS []:=rfl
@[local go_sem] theorem c2S:mkR 10002 []=rws eS []:=rfl
def nF (a:List (List UInt8)):(List (List UInt8))×Int×(List UInt8)×Int->Option (((List (List UInt8))×Int×(List UInt8)×Int)⊕(((List (List UInt8))×Int×(List UInt8)×Int×Bool)))
 | (l,d,b,k)=>
   br (decide (k<(a.length:Int))) (
   br (cP ((([1]:List UInt8)).length+b.length) 1) (
   (atL a k).bind fun x=>
   br (cP (((([1]:List UInt8))++b).length+x.length) 1) (
   br ((d.tmod 2)==1) (
   (atL a k).bind fun c=>
   br (cP ((([1]:List UInt8)).length+c.length) 1) (
   br (cP (((([1]:List UInt8))++c).length+b.length) 1) (
   br (cP ((l++([(((([1]:List UInt8))++c)++b)]:List (List UInt8))).length) 16) (
   (l8 (((([1]:List UInt8))++c)++b)).bind fun f=>
   some (.inl ((l++([(((([1]:List UInt8))++c)++b)]:List (List UInt8))),(wrap .i64 (d.tdiv 2)),f,(wrap .i64 (k+1))))) none) none) none) (
   br (cP ((l++([(((([1]:List UInt8))++b)++x)]:List (List UInt8))).length) 16) (
   (l8 (((([1]:List UInt8))++b)++x)).bind fun e=>
   some (.inl ((l++([(((([1]:List UInt8))++b)++x)]:List (List UInt8))),(wrap .i64 (d.tdiv 2)),e,(wrap .i64 (k+1))))) none)) none) none) (
   some (.inr (l,d,b,k,decide (k<(a.length:Int)))))
theorem a32 {a}:LX tab ow (.close [10002,10003,11001]) NV (nF a) (fun s=>⟨[(0,I s.2.1),(2,sl eS a),(8,.sl 2002 0 s.1.length),(9,S s.2.2.1),(10,I s.2.2.2)],[(2002,⟨1,false,rws eS s.1⟩)]⟩) (fun e=>(.exit 0,⟨[(0,I e.2.1),(2,sl eS a),(8,.sl 2002 0 e.1.length),(9,S e.2.2.1),(10,I e.2.2.2.1),(20,B e.2.2.2.2)],[(2002,⟨1,false,rws eS e.1⟩)]⟩)):=by
 refine lrX (fun s o h=> ?_)
 obtain ⟨_,_,_,_⟩:=s
 simp only [nF] at h
 simp only [NV,N7]
 have d1:= @rA
 exact go2
def Lx (i:Int) (a:List UInt8) (b:(List (List UInt8))):Option ((List (List UInt8))×(List UInt8)):=
 br (cP ((([0]:List UInt8)).length+a.length) 1) (
 (BW a).bind fun d=>
 (Loop (nF b) (([((([0]:List UInt8))++a)]:List (List UInt8)),i,d,0)).bind fun c=>
 some (c.1,c.2.2.1)) none
theorem a8w {i a b r} (h:Lx i a b=some r):Call tab ow 372 [I i,S a,sl eS b] []=some (.tup [sl eS r.1,S r.2],[]):=by
 rw [aj (af:=GQ) rfl]
 unfold Lx at h
 simp only [GQ,Mj]
 have d1:= @a2D
 have d2:= @a32
 exact go2
end
def jF (b:List UInt8) (d:Int) (c:List UInt8) (a:List (List UInt8)):Int->Option ((Int)⊕(Unit⊕(Int×Bool)))
 |k=>
  br (decide (k<(a.length:Int))) (
  (atL a k).bind fun x=>
  br ((x.length:Int) !=32) (
  some (.inr (.inl ()))) (
  some (.inl (wrap .i64 (k+1))))) (
  some (.inr (.inr (k,decide (k<(a.length:Int))))))
theorem Py {a d c b}:LX tab ow (.close []) Fv (jF a d c b) (fun s=>⟨[(0,S a),(2,I d),(3,S c),(4,sl eS b),(11,I s)],[]⟩) (alt (fun e=>((.ret,⟨[(10,B false)],[]⟩):bR×St)) (fun e=>(.exit 0,⟨[(0,S a),(2,I d),(3,S c),(4,sl eS b),(11,I e.1),(29,B e.2)],[]⟩))):=by
 refine lrX (fun s o h=> ?_)
 simp only [jF] at h
 simp only [Fv,Gk]
 exact go2
def ta (c:List UInt8) (n i:Int) (b:List UInt8) (a:(List (List UInt8))):Option Bool:=
 br (decide ((b.length:Int)>64)) (
 some false) (
 br (decide (0<=(wrap .u64 (mn 20 (a.length:Int))))) (
 br (n !=(bC .i64 1 (wrap .u64 (mn 20 (a.length:Int))))) (
 some false) (
 (Loop (jF c i b a) 0).bind (alt (fun e=>
 some false) (fun f=>
 (Lx i b a).bind fun d=>
 some (d.2==c))))) none)
theorem Zw {a n i b c r} (h:ta a n i b c=some r):Call tab ow 331 [S a,I n,I i,S b,sl eS c] []=some (B r,[]):=by
 rw [aj (af:=xI) rfl]
 unfold ta at h
 simp only [xI,DC]
 have d1:= @Py
 have d2:= @a8w
 exact go2
section
@[local go_sem] theorem b70:mkR 11008 []=rws eExt []:=rfl
def jw (e:List (List UInt8)) (t:Int) (m:List Ext) (c:List (List Ext)) (c2:List (List UInt8)) (c3 c4 c5:Int) (c6:List Query) (q:List Ext) (s:List (List (List UInt8))):Int×Int×Int×Int×Int->Option ((Int×Int×Int×Int×Int)⊕((Int×Int×Int×Int×Int×Int×Int)⊕(Int×Int×Int×Bool×Int×Int)))
 | (a,h,f,i,d)=>
   br (decide (f<t)) (
   br (decide ((wrap .i64 (a.tdiv 2))≠0)) (
   (atL q (wrap .i64 (2*f))).bind fun x=>
   (atL q (wrap .i64 ((wrap .i64 (2*f))+1))).bind fun b=>
   (atL e f).bind fun v=>
   (tB ([x,b]:List Ext)).bind fun w=>
   (atL s f).bind fun x4=>
   (ta v (wrap .i64 (a.tdiv 2)) (h.tmod (wrap .i64 (a.tdiv 2))) w x4).bind fun p=>
   br (!p) (
   some (.inr (.inl (9,i,d,x.A,x.B,b.A,b.B)))) (
   br (decide (f>0)) (
   br (decide (h<(wrap .i64 (a.tdiv 2)))) (
   br (x.A==i) (
   br (x.B==d) (
   br (!decide (h<(wrap .i64 (a.tdiv 2)))) (
   br (b.A==i) (
   br (b.B==d) (
   (atL m f).bind fun r=>
   (oh a (h.tmod (wrap .i64 (a.tdiv 2))) x b r).bind fun n=>
   some (.inl ((wrap .i64 (a.tdiv 2)),(h.tmod (wrap .i64 (a.tdiv 2))),(wrap .i64 (f+1)),n.A,n.B))) (
   some (.inr (.inl (12,i,d,x.A,x.B,b.A,b.B))))) (
   some (.inr (.inl (12,i,d,x.A,x.B,b.A,b.B))))) (
   (atL m f).bind fun x6=>
   (oh a (h.tmod (wrap .i64 (a.tdiv 2))) x b x6).bind fun j=>
   some (.inl ((wrap .i64 (a.tdiv 2)),(h.tmod (wrap .i64 (a.tdiv 2))),(wrap .i64 (f+1)),j.A,j.B)))) (
   some (.inr (.inl (12,i,d,x.A,x.B,b.A,b.B))))) (
   some (.inr (.inl (12,i,d,x.A,x.B,b.A,b.B))))) (
   br (!decide (h<(wrap .i64 (a.tdiv 2)))) (
   br (b.A==i) (
   br (b.B==d) (
   (atL m f).bind fun u=>
   (oh a (h.tmod (wrap .i64 (a.tdiv 2))) x b u).bind fun l=>
   some (.inl ((wrap .i64 (a.tdiv 2)),(h.tmod (wrap .i64 (a.tdiv 2))),(wrap .i64 (f+1)),l.A,l.B))) (
   some (.inr (.inl (12,i,d,x.A,x.B,b.A,b.B))))) (
   some (.inr (.inl (12,i,d,x.A,x.B,b.A,b.B))))) (
   (atL m f).bind fun z=>
   (oh a (h.tmod (wrap .i64 (a.tdiv 2))) x b z).bind fun o=>
   some (.inl ((wrap .i64 (a.tdiv 2)),(h.tmod (wrap .i64 (a.tdiv 2))),(wrap .i64 (f+1)),o.A,o.B))))) (
   (atL m f).bind fun y=>
   (oh a (h.tmod (wrap .i64 (a.tdiv 2))) x b y).bind fun k=>
   some (.inl ((wrap .i64 (a.tdiv 2)),(h.tmod (wrap .i64 (a.tdiv 2))),(wrap .i64 (f+1)),k.A,k.B))))) none) (
   some (.inr (.inr (a,h,f,decide (f<t),i,d))))
abbrev yT (c:List (List Ext)) (h:List (List UInt8)) (j d i:Int) (b:List Query) (f:List Ext) (e:List (List (List UInt8))) (k a:Int):List (Nat×Blk):=[(1000,⟨6,true,[[sl (eL eExt) c,sl eS h,I j,I d,I i,sl eQuery b]]⟩),(1001,⟨2,true,[[sl eExt f,sl (eL eS) e]]⟩),(2001,⟨2,true,[[I k,I a]]⟩)]
theorem PF {a t m c j l d k b i f}:LX tab ow (.close [9006,10007,11008,11009,11016,15008]) GB (jw a t m c j l d k b i f) (fun s=>⟨[(0,sl eS a),(1,I t),(2,I s.1),(3,I s.2.1),(4,sl eExt m),(12,.ptr 1000 0 0 1),(13,.ptr 1001 0 0 1),(15,.ptr 2001 0 0 1),(16,I s.2.2.1)],yT c j l d k b i f s.2.2.2.1 s.2.2.2.2⟩) (alt (fun e=>((.ret,⟨[(14,I e.1)],[(1000,⟨6,true,[[sl (eL eExt) c,sl eS j,I l,I d,I k,sl eQuery b]]⟩),(1001,⟨2,true,[[sl eExt i,sl (eL eS) f]]⟩),(2001,⟨2,true,[[I e.2.1,I e.2.2.1]]⟩),(9006,⟨2,true,[[I e.2.2.2.1,I e.2.2.2.2.1]]⟩),(10007,⟨2,true,[[I e.2.2.2.2.2.1,I e.2.2.2.2.2.2]]⟩),(11008,mO)]⟩):bR×St)) (fun e=>(.exit 0,⟨[(0,sl eS a),(1,I t),(2,I e.1),(3,I e.2.1),(4,sl eExt m),(12,.ptr 1000 0 0 1),(13,.ptr 1001 0 0 1),(15,.ptr 2001 0 0 1),(16,I e.2.2.1),(24,B e.2.2.2.1)],yT c j l d k b i f e.2.2.2.2.1 e.2.2.2.2.2⟩))):=by
 refine lrX (fun s o h=> ?_)
 obtain ⟨_,_,_,_,_⟩:=s
 simp only [jw] at h
 simp only [yT,GB,Gs]
 have d1:= @L7
 have d2:= @Zw
 have d3:= @a3I
 exact go2
def Ct (b:(List (List UInt8))) (a h i:Int) (j:List Ext) (c:Opening) (f:Query):Option Int:=
 (Loop (jw b a j c.Rounds c.Roots c.Last.A c.Last.B c.Nonce c.Queries f.Pairs f.Paths) (h,i,0,0,0)).bind (alt (fun e=>
 some e.1) (fun d=>
 br (d.2.2.2.2.1==c.Last.A) (
 br (d.2.2.2.2.2==c.Last.B) (
 some 0) (
 some 13)) (
 some 13)))
theorem WX {b a e f i c d r} (h:Ct b a e f i c d=some r):Call tab ow 235 [sl eS b,I a,I e,I f,sl eExt i,.agg [sl (eL eExt) c.Rounds,sl eS c.Roots,I c.Last.A,I c.Last.B,I c.Nonce,sl eQuery c.Queries],.agg [sl eExt d.Pairs,sl (eL eS) d.Paths]] []=some (I r,[]):=by
 rw [aj (af:=wQ) rfl]
 unfold Ct at h
 simp only [wQ,Do]
 have d1:= @PF
 exact go2
end
section
@[local go_sem] theorem b75:mkR 2001 []=rws eS []:=rfl
@[local go_sem] theorem b6V:mkR 3000 []=rws eExt []:=rfl
@[local go_sem] theorem b6W:mkR 15002 []=rws eExt []:=rfl
@[local go_sem] theorem b73:mkR 20003 []=rws eExt []:=rfl
def eJ (l:List (List UInt8)) (t:Int) (t2:List Ext) (c c2 c3 c4 c5:Int) (v:List (List Ext)) (r:List (List UInt8)) (c8 c9 u:Int) (z:List Query) (q:Int) (s:List UInt8) (y:Int):(List Ext)×Int×(List Ext)×Int×(List UInt8)×Int×Int×Int->Option (((List Ext)×Int×(List Ext)×Int×(List UInt8)×Int×Int×Int)⊕(((List Ext)×(List Ext)×Int×(List UInt8)×Int×(List Ext)×Int×(List UInt8)×Int×Int×Int)⊕((List Ext)×Int×Bool×(List Ext)×Int×(List UInt8)×Int×Int×Int)))
 | (n,m,e,f,d,b,j,k)=>
   br (decide (m<t)) (
   (atL v m).bind fun x=>
   (atL x 0).bind fun x2=>
   (atL x 1).bind fun w=>
   (iS x2 w).bind fun p=>
   br (p.A==j) (
   br (p.B==k) (
   (l0 (Source.mk e f d b) x).bind fun o=>
   (rf o).bind fun a=>
   (xT x a.2).bind fun h=>
   br (cP ((n++([a.2]:List Ext)).length) 16) (
   br (decide ((wrap .i64 (m+1))<t)) (
   (atL r m).bind fun x4=>
   (kn a.1 x4).bind fun i=>
   some (.inl ((n++([a.2]:List Ext)),(wrap .i64 (m+1)),i.Script,i.At,i.State,i.Count,h.A,h.B))) (
   some (.inl ((n++([a.2]:List Ext)),(wrap .i64 (m+1)),a.1.Script,a.1.At,a.1.State,a.1.Count,h.A,h.B)))) none) (
   some (.inr (.inl (n,e,f,d,b,e,f,d,b,j,k))))) (
   some (.inr (.inl (n,e,f,d,b,e,f,d,b,j,k))))) (
   some (.inr (.inr (n,m,decide (m<t),e,f,d,b,j,k))))
abbrev xZ (l:List (List UInt8)) (c s w u v:Int) (r:List (List Ext)) (o:List (List UInt8)) (p t e:Int) (n:List Query) (a:Int) (b:List UInt8) (h:Int) (q j:List Ext) (m:Int) (f:List UInt8) (d i k:Int):List (Nat×Blk):=[(1000,⟨2,true,[[I c,I s]]⟩),(1001,⟨3,true,[[I w,I u,I v]]⟩),(1002,⟨6,true,[[sl (eL eExt) r,sl eS o,I p,I t,I e,sl eQuery n]]⟩),(1003,⟨4,true,[[sl eExt j,I m,S f,I d]]⟩),(1004,⟨4,true,[[.lit (.slice none 0 0),I a,S b,I h]]⟩),(2001,⟨1,false,rws eS l⟩),(3000,⟨2,false,rws eExt q⟩),(4001,⟨2,true,[[I i,I k]]⟩)]
theorem SZ {l t v c p r k q j m n u b a d f i}:LX tab ow (.close [9006,11002,12001,12005,12006,14002,15002,15003,17006]) Ge (eJ l t v c p r k q j m n u b a d f i) (fun s=>⟨[(1,I t),(2,sl eExt v),(11,.ptr 1001 0 0 1),(12,.ptr 1002 0 0 1),(13,.ptr 1003 0 0 1),(14,.ptr 1004 0 0 1),(16,.sl 2001 0 l.length),(17,.sl 3000 0 s.1.length),(18,.ptr 4001 0 0 1),(19,I s.2.1)],xZ l c p r k q j m n u b a d f i s.1 s.2.2.1 s.2.2.2.1 s.2.2.2.2.1 s.2.2.2.2.2.1 s.2.2.2.2.2.2.1 s.2.2.2.2.2.2.2⟩) (alt (fun e=>((.ret,⟨[(14,.ptr 1004 0 0 1),(15,I 10)],[(1000,⟨2,true,[[I c,I p]]⟩),(1001,⟨3,true,[[I r,I k,I q]]⟩),(1002,⟨6,true,[[sl (eL eExt) j,sl eS m,I n,I u,I b,sl eQuery a]]⟩),(1003,⟨4,true,[[sl eExt e.2.1,I e.2.2.1,S e.2.2.2.1,I e.2.2.2.2.1]]⟩),(1004,⟨4,true,[[sl eExt e.2.2.2.2.2.1,I e.2.2.2.2.2.2.1,S e.2.2.2.2.2.2.2.1,I e.2.2.2.2.2.2.2.2.1]]⟩),(2001,⟨1,false,rws eS l⟩),(3000,⟨2,false,rws eExt e.1⟩),(4001,⟨2,true,[[I e.2.2.2.2.2.2.2.2.2.1,I e.2.2.2.2.2.2.2.2.2.2]]⟩)]⟩):bR×St)) (fun e=>(.exit 0,⟨[(1,I t),(2,sl eExt v),(11,.ptr 1001 0 0 1),(12,.ptr 1002 0 0 1),(13,.ptr 1003 0 0 1),(14,.ptr 1004 0 0 1),(16,.sl 2001 0 l.length),(17,.sl 3000 0 e.1.length),(18,.ptr 4001 0 0 1),(19,I e.2.1),(36,B e.2.2.1)],xZ l c p r k q j m n u b a d f i e.1 e.2.2.2.1 e.2.2.2.2.1 e.2.2.2.2.2.1 e.2.2.2.2.2.2.1 e.2.2.2.2.2.2.2.1 e.2.2.2.2.2.2.2.2⟩))):=by
 refine lrX (fun s o h=> ?_)
 obtain ⟨_,_,_,_,_,_,_,_⟩:=s
 simp only [eJ] at h
 simp only [xZ,Ge,FA]
 have d1:= @nH
 have d2:= @zp
 have d3:= @G1
 have d4:= @Nc
 have d5:= @pP
 exact go2
def iq (r:List (List UInt8)) (z:List Ext) (o y:Int) (f:List Int) (w c22 c23 u v:Int) (e:List (List Ext)) (h:List (List UInt8)) (j d i:Int) (c:List Query) (c32:List Ext) (n:Int) (t:List UInt8) (m s:Int) (p:List UInt8) (l x q:Int):Int->Option ((Int)⊕(Int⊕(Int×Bool)))
 |b=>
  br (decide (b<(f.length:Int))) (
  (atL f b).bind fun k=>
  (atL c b).bind fun x6=>
  (Ct r o y k z (Opening.mk e h (Ext.mk j d) i c) x6).bind fun a=>
  br (a !=0) (
  some (.inr (.inl a))) (
  some (.inl (wrap .i64 (b+1))))) (
  some (.inr (.inr (b,decide (b<(f.length:Int))))))
abbrev yu (v:List (List UInt8)) (w:List Ext) (m q o i l:Int) (h:List (List Ext)) (p:List (List UInt8)) (u d s:Int) (t:List Query) (r:List Ext) (c:Int) (k:List UInt8) (b j:Int) (e:List UInt8) (a n f:Int):List (Nat×Blk):=[(1000,⟨2,true,[[I m,I q]]⟩),(1001,⟨3,true,[[I o,I i,I l]]⟩),(1002,⟨6,true,[[sl (eL eExt) h,sl eS p,I u,I d,I s,sl eQuery t]]⟩),(1003,⟨4,true,[[sl eExt r,I c,S k,I b]]⟩),(1004,⟨4,true,[[.lit (.slice none 0 0),I j,S e,I a]]⟩),(2001,⟨1,false,rws eS v⟩),(3000,⟨2,false,rws eExt w⟩),(4001,⟨2,true,[[I n,I f]]⟩),(20003,mO)]
theorem Qc {z l4 t4 t5 t6 m r p k l j q v f t u d b c a y x w n i}:LX tab ow (.close [29014]) EJ (iq z l4 t4 t5 t6 m r p k l j q v f t u d b c a y x w n i) (fun s=>⟨[(1,I t4),(12,.ptr 1002 0 0 1),(13,.ptr 1003 0 0 1),(14,.ptr 1004 0 0 1),(16,.sl 2001 0 z.length),(17,.sl 3000 0 l4.length),(23,I t5),(24,sl eI t6),(25,I s)],yu z l4 m r p k l j q v f t u d b c a y x w n i⟩) (alt (fun e=>((.ret,⟨[(14,.ptr 1004 0 0 1),(15,I e)],[(1000,⟨2,true,[[I m,I r]]⟩),(1001,⟨3,true,[[I p,I k,I l]]⟩),(1002,⟨6,true,[[sl (eL eExt) j,sl eS q,I v,I f,I t,sl eQuery u]]⟩),(1003,⟨4,true,[[sl eExt d,I b,S c,I a]]⟩),(1004,⟨4,true,[[sl eExt d,I b,S c,I a]]⟩),(2001,⟨1,false,rws eS z⟩),(3000,⟨2,false,rws eExt l4⟩),(4001,⟨2,true,[[I n,I i]]⟩),(20003,mO)]⟩):bR×St)) (fun e=>(.exit 2,⟨[(1,I t4),(12,.ptr 1002 0 0 1),(13,.ptr 1003 0 0 1),(14,.ptr 1004 0 0 1),(16,.sl 2001 0 z.length),(17,.sl 3000 0 l4.length),(23,I t5),(24,sl eI t6),(25,I e.1),(127,B e.2)],yu z l4 m r p k l j q v f t u d b c a y x w n i⟩))):=by
 refine lrX (fun s o h=> ?_)
 simp only [iq] at h
 simp only [yu,EJ,E3]
 have d1:= @WX
 exact go2
def y8 (b:List UInt8) (a:Int) (r:List Ext) (j:Ext) (f:Setting) (e:Opening) (n:Source):Option (Source×Int):=
 br (cP ((([b]:List (List UInt8))++e.Roots).length) 16) (
 (Loop (eJ (([b]:List (List UInt8))++e.Roots) a r j.A j.B f.Rate f.Queries f.Grind e.Rounds e.Roots e.Last.A e.Last.B e.Nonce e.Queries 0 (([]:List UInt8)) 0) (([]:List Ext),0,n.Script,n.At,n.State,n.Count,j.A,j.B)).bind (alt (fun h=>
 some ((Source.mk h.2.2.2.2.2.1 h.2.2.2.2.2.2.1 h.2.2.2.2.2.2.2.1 h.2.2.2.2.2.2.2.2.1),10)) (fun c=>
 (sY c.1 r).bind fun q=>
 (dD e.Last q).bind fun k=>
 br (k.A==c.2.2.2.2.2.2.2.1) (
 br (k.B==c.2.2.2.2.2.2.2.2) (
 (l0 (Source.mk c.2.2.2.1 c.2.2.2.2.1 c.2.2.2.2.2.1 c.2.2.2.2.2.2.1) ([e.Last]:List Ext)).bind fun i=>
 (Bp i f.Grind e.Nonce).bind fun o=>
 br (!o) (
 some (i,14)) (
 (fZ e.Nonce 4).bind fun l=>
 (kn i l).bind fun m=>
 br (decide (0<=(wrap .u64 (wrap .i64 (a+f.Rate))))) (
 (vB m f.Queries (wrap .i64 ((bC .i64 1 (wrap .u64 (wrap .i64 (a+f.Rate)))).tdiv 2))).bind fun d=>
 (Loop (iq (([b]:List (List UInt8))++e.Roots) c.1 a (bC .i64 1 (wrap .u64 (wrap .i64 (a+f.Rate)))) d.2 j.A j.B f.Rate f.Queries f.Grind e.Rounds e.Roots e.Last.A e.Last.B e.Nonce e.Queries d.1.Script d.1.At d.1.State d.1.Count 0 (([]:List UInt8)) 0 c.2.2.2.2.2.2.2.1 c.2.2.2.2.2.2.2.2) 0).bind (alt (fun p=>
 some (d.1,p)) (fun s=>
 some (d.1,0)))) none)) (
 some ((Source.mk c.2.2.2.1 c.2.2.2.2.1 c.2.2.2.2.2.1 c.2.2.2.2.2.2.1),11))) (
 some ((Source.mk c.2.2.2.1 c.2.2.2.2.1 c.2.2.2.2.2.1 c.2.2.2.2.2.2.1),11))))) none
theorem YT {b a i f e c d r} (h:y8 b a i f e c d=some r):Call tab ow 116 [S b,I a,sl eExt i,.agg [I f.A,I f.B],.agg [I e.Rate,I e.Queries,I e.Grind],.agg [sl (eL eExt) c.Rounds,sl eS c.Roots,I c.Last.A,I c.Last.B,I c.Nonce,sl eQuery c.Queries],.agg [sl eExt d.Script,I d.At,S d.State,I d.Count]] []=some (.tup [.agg [sl eExt r.1.Script,I r.1.At,S r.1.State,I r.1.Count],I r.2],[]):=by
 rw [aj (af:=wH) rfl]
 unfold y8 at h
 simp only [wH,xj]
 have d1:= @SZ
 have d2:= @NP
 have d3:= @kD
 have d4:= @zp
 have d5:= @a1G
 have d6:= @jd
 have d7:= @pP
 have d8:= @UO
 have d9:= @Qc
 exact go2
end
section
@[local go_sem] theorem b2r:mkR 7009 []=rws eExt []:=rfl
@[local go_sem] theorem b6R:mkR 9007 []=rws eExt []:=rfl
@[local go_sem] theorem b3k:mkR 21003 []=rws eExt []:=rfl
def rv (b:bi) (a:Setting) (a2:List Int) (d:Proof) (a4:Source):Option Int:=
 (yt b a a2 a4).bind fun r_=>
 (kn r_ d.Root).bind fun r_2=>
 (tE r_2 b.Rows).bind fun l=>
 (lU 2 (Ext.mk 0 0) d.Gates b.Rows l.1).bind fun e=>
 br (e.2.2.2 !=0) (
 some e.2.2.2) (
 (sY l.2 e.1).bind fun r_5=>
 (oK 2 ([r_5,d.VA,d.VB,d.VC]:List Ext)).bind fun o=>
 br (o.A==e.2.1.A) (
 br (o.B==e.2.1.B) (
 (l0 e.2.2.1 ([d.VA,d.VB,d.VC]:List Ext)).bind fun z=>
 (tE z 3).bind fun f=>
 (atL f.2 0).bind fun x=>
 (dD x d.VA).bind fun r_9=>
 (atL f.2 1).bind fun x2=>
 (dD x2 d.VB).bind fun t=>
 (atL f.2 2).bind fun x3=>
 (dD x3 d.VC).bind fun w=>
 (iS t w).bind fun j=>
 (iS r_9 j).bind fun p=>
 (lU 1 p d.Wires b.Cols f.1).bind fun c=>
 br (c.2.2.2 !=0) (
 some c.2.2.2) (
 (lr c.1 0 (wrap .i64 (b.Cols-1))).bind fun y=>
 (atL c.1 (wrap .i64 (b.Cols-1))).bind fun x4=>
 (oL x4).bind fun q=>
 (vk b a2 y).bind fun k=>
 (dD q k).bind fun s=>
 (dD x4 d.VW).bind fun u=>
 (iS s u).bind fun r=>
 (yS b e.1 f.2).bind fun i=>
 (Ds i c.1).bind fun n=>
 (dD n r).bind fun h=>
 br (h.A==c.2.1.A) (
 br (h.B==c.2.1.B) (
 (l0 c.2.2.1 ([d.VW]:List Ext)).bind fun m=>
 (y8 d.Root (wrap .i64 (b.Cols-1)) y d.VW a d.Open m).bind fun v=>
 some v.2) (
 some 11)) (
 some 11))) (
 some 11)) (
 some 11))
theorem UV {b a e c d r} (h:rv b a e c d=some r):Call tab ow 144 [.agg [I b.Rows,I b.Cols,I b.Publics,sl aA b.A,sl aA b.B,sl aA b.C],.agg [I a.Rate,I a.Queries,I a.Grind],sl eI e,.agg [S c.Root,sl (eL eExt) c.Gates,I c.VA.A,I c.VA.B,I c.VB.A,I c.VB.B,I c.VC.A,I c.VC.B,sl (eL eExt) c.Wires,I c.VW.A,I c.VW.B,sl (eL eExt) c.Open.Rounds,sl eS c.Open.Roots,I c.Open.Last.A,I c.Open.Last.B,I c.Open.Nonce,sl eQuery c.Open.Queries],.agg [sl eExt d.Script,I d.At,S d.State,I d.Count]] []=some (I r,[]):=by
 rw [aj (af:=ur) rfl]
 unfold rv at h
 simp only [ur,J7]
 have d1:= @XA
 have d2:= @pP
 have d3:= @O5
 have d4:= @U4
 have d5:= @NP
 have d6:= @PG
 have d7:= @zp
 have d8:= @kD
 have d9:= @nH
 have d10:= @Fc
 have d11:= @UQ
 have d12:= @Y6
 have d13:= @VQ
 have d14:= @YT
 exact go2
end
def BJ (a:List Gate) (b:Int):Option Int:=
 br (decide ((wrap .i64 (b-(a.length:Int)))<0)) (
 some (-1:Int)) (
 some (wrap .i64 (b-(a.length:Int))))
theorem a3a {a b r} (h:BJ a b=some r):Call tab ow 145 [sl eGate a,I b] []=some (I r,[]):=by
 rw [aj (af:=As) rfl]
 unfold BJ at h
 simp only [As,NS]
 exact go2
def vp (a:Circuit) (b:Int):Option Int:=
 (BJ a.Gates b).bind fun c=>
 br (decide (c<0)) (
 some (-1:Int)) (
 some c)
theorem UU {a b r} (h:vp a b=some r):Call tab ow 46 [.agg [sl eGate a.Gates],I b] []=some (I r,[]):=by
 rw [aj (af:=uk) rfl]
 unfold vp at h
 simp only [uk,IY]
 have d1:= @a3a
 exact go2
def vP (a:List Ext) (b:Int):Option Int:=
 br (decide ((wrap .i64 (b-(a.length:Int)))<0)) (
 some (-1:Int)) (
 some (wrap .i64 (b-(a.length:Int))))
theorem JN {a b r} (h:vP a b=some r):Call tab ow 148 [sl eExt a,I b] []=some (I r,[]):=by
 rw [aj (af:=DG) rfl]
 unfold vP at h
 simp only [DG,S6]
 exact go2
def uG (b:List (List Ext)):Int×Int->Option ((Int×Int)⊕(Unit⊕(Int×Int×Bool)))
 | (a,i)=>
   br (decide (i<(b.length:Int))) (
   (atL b i).bind fun x=>
   (vP x a).bind fun c=>
   br (decide (c<0)) (
   some (.inr (.inl ()))) (
   some (.inl (c,(wrap .i64 (i+1)))))) (
   some (.inr (.inr (a,i,decide (i<(b.length:Int))))))
theorem Vf {a}:LX tab ow (.close [8005]) J6 (uG a) (fun s=>⟨[(0,sl (eL eExt) a),(1,I s.1),(5,I s.2)],[]⟩) (alt (fun e=>((.ret,⟨[(4,I (-1:Int))],[]⟩):bR×St)) (fun e=>(.exit 0,⟨[(0,sl (eL eExt) a),(1,I e.1),(5,I e.2.1),(15,B e.2.2)],[]⟩))):=by
 refine lrX (fun s o h=> ?_)
 obtain ⟨_,_⟩:=s
 simp only [uG] at h
 simp only [J6,HM]
 have d1:= @JN
 exact go2
def xU (a:(List (List Ext))) (b:Int):Option Int:=
 br (decide ((wrap .i64 (b-(a.length:Int)))<0)) (
 some (-1:Int)) (
 (Loop (uG a) ((wrap .i64 (b-(a.length:Int))),0)).bind (alt (fun d=>
 some (-1:Int)) (fun c=>
 some c.1)))
theorem Nu {a b r} (h:xU a b=some r):Call tab ow 146 [sl (eL eExt) a,I b] []=some (I r,[]):=by
 rw [aj (af:=Ae) rfl]
 unfold xU at h
 simp only [Ae,Fo]
 have d1:= @Vf
 exact go2
def mM (b:List (List UInt8)):Int×Int->Option ((Int×Int)⊕(Unit⊕(Int×Int×Bool)))
 | (a,i)=>
   br (decide (i<(b.length:Int))) (
   (atL b i).bind fun x=>
   br (decide ((wrap .i64 (a-(x.length:Int)))<0)) (
   some (.inr (.inl ()))) (
   some (.inl ((wrap .i64 (a-(x.length:Int))),(wrap .i64 (i+1)))))) (
   some (.inr (.inr (a,i,decide (i<(b.length:Int))))))
theorem Oe {a}:LX tab ow (.close []) EK (mM a) (fun s=>⟨[(0,sl eS a),(1,I s.1),(5,I s.2)],[]⟩) (alt (fun e=>((.ret,⟨[(4,I (-1:Int))],[]⟩):bR×St)) (fun e=>(.exit 0,⟨[(0,sl eS a),(1,I e.1),(5,I e.2.1),(15,B e.2.2)],[]⟩))):=by
 refine lrX (fun s o h=> ?_)
 obtain ⟨_,_⟩:=s
 simp only [mM] at h
 simp only [EK,EN]
 exact go2
def rB (a:(List (List UInt8))) (b:Int):Option Int:=
 br (decide ((wrap .i64 (b-(a.length:Int)))<0)) (
 some (-1:Int)) (
 (Loop (mM a) ((wrap .i64 (b-(a.length:Int))),0)).bind (alt (fun d=>
 some (-1:Int)) (fun c=>
 some c.1)))
theorem IN {a b r} (h:rB a b=some r):Call tab ow 272 [sl eS a,I b] []=some (I r,[]):=by
 rw [aj (af:=ut) rfl]
 unfold rB at h
 simp only [ut,B4]
 have d1:= @Oe
 exact go2
def oO (b:List (List (List UInt8))):Int×Int->Option ((Int×Int)⊕(Unit⊕(Int×Int×Bool)))
 | (a,i)=>
   br (decide (i<(b.length:Int))) (
   (atL b i).bind fun x=>
   (rB x a).bind fun c=>
   br (decide (c<0)) (
   some (.inr (.inl ()))) (
   some (.inl (c,(wrap .i64 (i+1)))))) (
   some (.inr (.inr (a,i,decide (i<(b.length:Int))))))
theorem Mt {a}:LX tab ow (.close [8005]) C4 (oO a) (fun s=>⟨[(0,sl (eL eS) a),(1,I s.1),(5,I s.2)],[]⟩) (alt (fun e=>((.ret,⟨[(4,I (-1:Int))],[]⟩):bR×St)) (fun e=>(.exit 0,⟨[(0,sl (eL eS) a),(1,I e.1),(5,I e.2.1),(15,B e.2.2)],[]⟩))):=by
 refine lrX (fun s o h=> ?_)
 obtain ⟨_,_⟩:=s
 simp only [oO] at h
 simp only [C4,BP]
 have d1:= @IN
 exact go2
def wN (a:(List (List (List UInt8)))) (b:Int):Option Int:=
 br (decide ((wrap .i64 (b-(a.length:Int)))<0)) (
 some (-1:Int)) (
 (Loop (oO a) ((wrap .i64 (b-(a.length:Int))),0)).bind (alt (fun d=>
 some (-1:Int)) (fun c=>
 some c.1)))
theorem RQ {a b r} (h:wN a b=some r):Call tab ow 373 [sl (eL eS) a,I b] []=some (I r,[]):=by
 rw [aj (af:=sg) rfl]
 unfold wN at h
 simp only [sg,yk]
 have d1:= @Mt
 exact go2
def xL (a:Query) (b:Int):Option Int:=
 (vP a.Pairs b).bind fun d=>
 br (decide (d<0)) (
 some (-1:Int)) (
 (wN a.Paths d).bind fun c=>
 br (decide (c<0)) (
 some (-1:Int)) (
 some c))
theorem a0D {a b r} (h:xL a b=some r):Call tab ow 341 [.agg [sl eExt a.Pairs,sl (eL eS) a.Paths],I b] []=some (I r,[]):=by
 rw [aj (af:=zP) rfl]
 unfold xL at h
 simp only [zP,Nl]
 have d1:= @JN
 have d2:= @RQ
 exact go2
def rL (b:List Query):Int×Int->Option ((Int×Int)⊕(Unit⊕(Int×Int×Bool)))
 | (a,i)=>
   br (decide (i<(b.length:Int))) (
   (atL b i).bind fun x=>
   (xL x a).bind fun c=>
   br (decide (c<0)) (
   some (.inr (.inl ()))) (
   some (.inl (c,(wrap .i64 (i+1)))))) (
   some (.inr (.inr (a,i,decide (i<(b.length:Int))))))
theorem Qx {a}:LX tab ow (.close [8005]) Gf (rL a) (fun s=>⟨[(0,sl eQuery a),(1,I s.1),(5,I s.2)],[]⟩) (alt (fun e=>((.ret,⟨[(4,I (-1:Int))],[]⟩):bR×St)) (fun e=>(.exit 0,⟨[(0,sl eQuery a),(1,I e.1),(5,I e.2.1),(15,B e.2.2)],[]⟩))):=by
 refine lrX (fun s o h=> ?_)
 obtain ⟨_,_⟩:=s
 simp only [rL] at h
 simp only [Gf,G5]
 have d1:= @a0D
 exact go2
def Dq (a:List Query) (b:Int):Option Int:=
 br (decide ((wrap .i64 (b-(a.length:Int)))<0)) (
 some (-1:Int)) (
 (Loop (rL a) ((wrap .i64 (b-(a.length:Int))),0)).bind (alt (fun d=>
 some (-1:Int)) (fun c=>
 some c.1)))
theorem XD {a b r} (h:Dq a b=some r):Call tab ow 273 [sl eQuery a,I b] []=some (I r,[]):=by
 rw [aj (af:=wV) rfl]
 unfold Dq at h
 simp only [wV,CW]
 have d1:= @Qx
 exact go2
def vR (a:Opening) (b:Int):Option Int:=
 (xU a.Rounds b).bind fun e=>
 br (decide (e<0)) (
 some (-1:Int)) (
 (rB a.Roots e).bind fun c=>
 br (decide (c<0)) (
 some (-1:Int)) (
 (Dq a.Queries c).bind fun d=>
 br (decide (d<0)) (
 some (-1:Int)) (
 some d)))
theorem UZ {a b r} (h:vR a b=some r):Call tab ow 147 [.agg [sl (eL eExt) a.Rounds,sl eS a.Roots,I a.Last.A,I a.Last.B,I a.Nonce,sl eQuery a.Queries],I b] []=some (I r,[]):=by
 rw [aj (af:=u2) rfl]
 unfold vR at h
 simp only [u2,IL]
 have d1:= @Nu
 have d2:= @IN
 have d3:= @XD
 exact go2
end
end Go.AI.Fn
set_option linter.unusedVariables false
set_option linter.unusedSimpArgs false
set_option maxRecDepth 100000
set_option maxHeartbeats 1000000
namespace Go.AI.Fn
noncomputable section
open IntKind (wrap)
def BY (a:Proof) (b:Int):Option Int:=
 br (decide ((wrap .i64 (b-(a.Root.length:Int)))<0)) (
 some (-1:Int)) (
 (xU a.Gates (wrap .i64 (b-(a.Root.length:Int)))).bind fun e=>
 br (decide (e<0)) (
 some (-1:Int)) (
 (xU a.Wires e).bind fun c=>
 br (decide (c<0)) (
 some (-1:Int)) (
 (vR a.Open c).bind fun d=>
 br (decide (d<0)) (
 some (-1:Int)) (
 some d))))
theorem a0x {a b r} (h:BY a b=some r):Call tab ow 47 [.agg [S a.Root,sl (eL eExt) a.Gates,I a.VA.A,I a.VA.B,I a.VB.A,I a.VB.B,I a.VC.A,I a.VC.B,sl (eL eExt) a.Wires,I a.VW.A,I a.VW.B,sl (eL eExt) a.Open.Rounds,sl eS a.Open.Roots,I a.Open.Last.A,I a.Open.Last.B,I a.Open.Nonce,sl eQuery a.Open.Queries],I b] []=some (I r,[]):=by
 rw [aj (af:=zM) rfl]
 unfold BY at h
 simp only [zM,Nt]
 have d1:= @Nu
 have d2:= @UZ
 exact go2
def yJ (a:Source) (b:Int):Option Int:=
 (vP a.Script b).bind fun c=>
 br (decide (c<0)) (
 some (-1:Int)) (
 br (decide ((wrap .i64 (c-(a.State.length:Int)))<0)) (
 some (-1:Int)) (
 some (wrap .i64 (c-(a.State.length:Int)))))
theorem Zv {a b r} (h:yJ a b=some r):Call tab ow 48 [.agg [sl eExt a.Script,I a.At,S a.State,I a.Count],I b] []=some (I r,[]):=by
 rw [aj (af:=wY) rfl]
 unfold yJ at h
 simp only [wY,L8]
 have d1:= @JN
 exact go2
def KN (a:Gate):Option Gate:=
 some a
theorem a5R {a r} (h:KN a=some r):Call tab ow 274 [.agg [I a.Op,I a.A,I a.B,I a.K]] []=some (.agg [I r.Op,I r.A,I r.B,I r.K],[]):=by
 rw [aj (af:=DI) rfl]
 unfold KN at h
 simp only [DI,SQ]
 exact go2
section
@[local go_sem] theorem b8e: ∀k,Bi 2002 k [I (0:Int),I (0:Int),I (0:Int),I (0:Int)]=rws eGate (List.replicate k (Gate.mk (0:Int) (0:Int) (0:Int) (0:Int))):=fun _=>MD eGate (Gate.mk (0:Int) (0:Int) (0:Int) (0:Int)) _ _
def pL (a:List Gate):(List Gate)×Int->Option (((List Gate)×Int)⊕(((List Gate)×Int×Bool)))
 | (l,i)=>
   br (decide (i<(a.length:Int))) (
   (atL a i).bind fun x=>
   (KN x).bind fun b=>
   br (decide (0<=i)) (
   br (decide (i.toNat<l.length)) (
   (l[i.toNat]?).bind fun c=>
   some (.inl ((l.set i.toNat b),(wrap .i64 (i+1))))) none) none) (
   some (.inr (l,i,decide (i<(a.length:Int)))))
theorem Ul {a}:LX tab ow (.close [6006]) IT (pL a) (fun s=>⟨[(0,sl eGate a),(3,.sl 2002 0 s.1.length),(4,I s.2)],[(2002,⟨4,false,rws eGate s.1⟩)]⟩) (fun e=>(.exit 0,⟨[(0,sl eGate a),(3,.sl 2002 0 e.1.length),(4,I e.2.1),(11,B e.2.2)],[(2002,⟨4,false,rws eGate e.1⟩)]⟩)):=by
 refine lrX (fun s o h=> ?_)
 obtain ⟨_,_⟩:=s
 simp only [pL] at h
 simp only [IT,HN]
 have d1:= @a5R
 exact go2
def Bs (a:List Gate):Option (List Gate):=
 br (zf (a.length:Int) (a.length:Int) 32) (
 (Loop (pL a) ((List.replicate ((a.length:Int).toNat) (Gate.mk (0:Int) (0:Int) (0:Int) (0:Int))),(0:Int))).bind fun b=>
 some b.1) none
theorem a3y {a r} (h:Bs a=some r):Call tab ow 150 [sl eGate a] []=some (sl eGate r,[]):=by
 rw [aj (af:=zW) rfl]
 unfold Bs at h
 simp only [zW,FO]
 have d1:= @Ul
 exact go2
end
def oe (a:Circuit):Option Circuit:=
 (Bs a.Gates).bind fun b=>
 some (Circuit.mk b)
theorem Tn {a r} (h:oe a=some r):Call tab ow 50 [.agg [sl eGate a.Gates]] []=some (.agg [sl eGate r.Gates],[]):=by
 rw [aj (af:=uO) rfl]
 unfold oe at h
 simp only [uO,IG]
 have d1:= @a3y
 exact go2
def vm (a:Setting):Option Setting:=
 some a
theorem Ug {a r} (h:vm a=some r):Call tab ow 51 [.agg [I a.Rate,I a.Queries,I a.Grind]] []=some (.agg [I r.Rate,I r.Queries,I r.Grind],[]):=by
 rw [aj (af:=uS) rfl]
 unfold vm at h
 simp only [uS,J9]
 exact go2
section
@[local go_sem] theorem c2a: ∀k,Bi 2002 k [I (0:Int)]=rws eI (List.replicate k (0:Int)):=fun _=>MD eI (0:Int) _ _
def xt (a:List Int):(List Int)×Int->Option (((List Int)×Int)⊕(((List Int)×Int×Bool)))
 | (l,i)=>
   br (decide (i<(a.length:Int))) (
   (atL a i).bind fun x=>
   br (decide (0<=i)) (
   br (decide (i.toNat<l.length)) (
   (l[i.toNat]?).bind fun b=>
   some (.inl ((l.set i.toNat x),(wrap .i64 (i+1))))) none) none) (
   some (.inr (l,i,decide (i<(a.length:Int)))))
theorem XR {a}:LX tab ow (.close []) Lr (xt a) (fun s=>⟨[(0,sl eI a),(3,.sl 2002 0 s.1.length),(4,I s.2)],[(2002,⟨1,false,rws eI s.1⟩)]⟩) (fun e=>(.exit 0,⟨[(0,sl eI a),(3,.sl 2002 0 e.1.length),(4,I e.2.1),(11,B e.2.2)],[(2002,⟨1,false,rws eI e.1⟩)]⟩)):=by
 refine lrX (fun s o h=> ?_)
 obtain ⟨_,_⟩:=s
 simp only [xt] at h
 simp only [Lr,Lv]
 exact go2
def yX (a:List Int):Option (List Int):=
 br (zf (a.length:Int) (a.length:Int) 8) (
 (Loop (xt a) ((List.replicate ((a.length:Int).toNat) (0:Int)),(0:Int))).bind fun b=>
 some b.1) none
theorem a56 {a r} (h:yX a=some r):Call tab ow 52 [sl eI a] []=some (sl eI r,[]):=by
 rw [aj (af:=DP) rfl]
 unfold yX at h
 simp only [DP,JL]
 have d1:= @XR
 exact go2
end
def sG (a:Ext):Option Ext:=
 some a
theorem Mf {a r} (h:sG a=some r):Call tab ow 152 [.agg [I a.A,I a.B]] []=some (.agg [I r.A,I r.B],[]):=by
 rw [aj (af:=GV) rfl]
 unfold sG at h
 simp only [GV,Vw]
 exact go2
section
@[local go_sem] theorem c1V: ∀k,Bi 2002 k [I (0:Int),I (0:Int)]=rws eExt (List.replicate k (Ext.mk (0:Int) (0:Int))):=fun _=>MD eExt (Ext.mk (0:Int) (0:Int)) _ _
def xH (a:List Ext):(List Ext)×Int->Option (((List Ext)×Int)⊕(((List Ext)×Int×Bool)))
 | (l,i)=>
   br (decide (i<(a.length:Int))) (
   (atL a i).bind fun x=>
   (sG x).bind fun b=>
   br (decide (0<=i)) (
   br (decide (i.toNat<l.length)) (
   (l[i.toNat]?).bind fun c=>
   some (.inl ((l.set i.toNat b),(wrap .i64 (i+1))))) none) none) (
   some (.inr (l,i,decide (i<(a.length:Int)))))
theorem Zk {a}:LX tab ow (.close [6006]) Kt (xH a) (fun s=>⟨[(0,sl eExt a),(3,.sl 2002 0 s.1.length),(4,I s.2)],[(2002,⟨2,false,rws eExt s.1⟩)]⟩) (fun e=>(.exit 0,⟨[(0,sl eExt a),(3,.sl 2002 0 e.1.length),(4,I e.2.1),(11,B e.2.2)],[(2002,⟨2,false,rws eExt e.1⟩)]⟩)):=by
 refine lrX (fun s o h=> ?_)
 obtain ⟨_,_⟩:=s
 simp only [xH] at h
 simp only [Kt,LH]
 have d1:= @Mf
 exact go2
def vj (a:List Ext):Option (List Ext):=
 br (zf (a.length:Int) (a.length:Int) 16) (
 (Loop (xH a) ((List.replicate ((a.length:Int).toNat) (Ext.mk (0:Int) (0:Int))),(0:Int))).bind fun b=>
 some b.1) none
theorem K0 {a r} (h:vj a=some r):Call tab ow 154 [sl eExt a] []=some (sl eExt r,[]):=by
 rw [aj (af:=CM) rfl]
 unfold vj at h
 simp only [CM,Jp]
 have d1:= @Zk
 exact go2
end
section
@[local go_sem] theorem b7a: ∀k,Bi 2002 k [.imm 1 []]=rws (eL eExt) (List.replicate k ([]:List Ext)):=fun _=>MD (eL eExt) ([]:List Ext) _ _
def uQ (a:List (List Ext)):(List (List Ext))×Int->Option (((List (List Ext))×Int)⊕(((List (List Ext))×Int×Bool)))
 | (l,i)=>
   br (decide (i<(a.length:Int))) (
   (atL a i).bind fun x=>
   (vj x).bind fun b=>
   br (decide (0<=i)) (
   br (decide (i.toNat<l.length)) (
   (l[i.toNat]?).bind fun c=>
   some (.inl ((l.set i.toNat b),(wrap .i64 (i+1))))) none) none) (
   some (.inr (l,i,decide (i<(a.length:Int)))))
theorem UC {a}:LX tab ow (.close [6006]) Ie (uQ a) (fun s=>⟨[(0,sl (eL eExt) a),(3,.sl 2002 0 s.1.length),(4,I s.2)],[(2002,⟨1,false,rws (eL eExt) s.1⟩)]⟩) (fun e=>(.exit 0,⟨[(0,sl (eL eExt) a),(3,.sl 2002 0 e.1.length),(4,I e.2.1),(11,B e.2.2)],[(2002,⟨1,false,rws (eL eExt) e.1⟩)]⟩)):=by
 refine lrX (fun s o h=> ?_)
 obtain ⟨_,_⟩:=s
 simp only [uQ] at h
 simp only [Ie,HH]
 have d1:= @K0
 exact go2
def tP (a:(List (List Ext))):Option ((List (List Ext))):=
 br (zf (a.length:Int) (a.length:Int) 24) (
 (Loop (uQ a) ((List.replicate ((a.length:Int).toNat) ([]:List Ext)),(0:Int))).bind fun b=>
 some b.1) none
theorem O2 {a r} (h:tP a=some r):Call tab ow 151 [sl (eL eExt) a] []=some (sl (eL eExt) r,[]):=by
 rw [aj (af:=Au) rfl]
 unfold tP at h
 simp only [Au,GH]
 have d1:= @UC
 exact go2
end
section
@[local go_sem] theorem b3g: ∀k,Bi 2002 k [S (([]:List UInt8))]=rws eS (List.replicate k (([]:List UInt8))):=fun _=>MD eS (([]:List UInt8)) _ _
def qa (a:List (List UInt8)):(List (List UInt8))×Int->Option (((List (List UInt8))×Int)⊕(((List (List UInt8))×Int×Bool)))
 | (l,i)=>
   br (decide (i<(a.length:Int))) (
   (atL a i).bind fun x=>
   br (decide (0<=i)) (
   br (decide (i.toNat<l.length)) (
   (l[i.toNat]?).bind fun b=>
   some (.inl ((l.set i.toNat x),(wrap .i64 (i+1))))) none) none) (
   some (.inr (l,i,decide (i<(a.length:Int)))))
theorem Ok {a}:LX tab ow (.close []) E0 (qa a) (fun s=>⟨[(0,sl eS a),(3,.sl 2002 0 s.1.length),(4,I s.2)],[(2002,⟨1,false,rws eS s.1⟩)]⟩) (fun e=>(.exit 0,⟨[(0,sl eS a),(3,.sl 2002 0 e.1.length),(4,I e.2.1),(11,B e.2.2)],[(2002,⟨1,false,rws eS e.1⟩)]⟩)):=by
 refine lrX (fun s o h=> ?_)
 obtain ⟨_,_⟩:=s
 simp only [qa] at h
 simp only [E0,DW]
 exact go2
def nG (a:(List (List UInt8))):Option ((List (List UInt8))):=
 br (zf (a.length:Int) (a.length:Int) 16) (
 (Loop (qa a) ((List.replicate ((a.length:Int).toNat) (([]:List UInt8))),(0:Int))).bind fun b=>
 some b.1) none
theorem J4 {a r} (h:nG a=some r):Call tab ow 275 [sl eS a] []=some (sl eS r,[]):=by
 rw [aj (af:=u9) rfl]
 unfold nG at h
 simp only [u9,B6]
 have d1:= @Ok
 exact go2
end
section
@[local go_sem] theorem b1j: ∀k,Bi 2002 k [.imm 1 []]=rws (eL eS) (List.replicate k ([]:List (List UInt8))):=fun _=>MD (eL eS) ([]:List (List UInt8)) _ _
def oz (a:List (List (List UInt8))):(List (List (List UInt8)))×Int->Option (((List (List (List UInt8)))×Int)⊕(((List (List (List UInt8)))×Int×Bool)))
 | (l,i)=>
   br (decide (i<(a.length:Int))) (
   (atL a i).bind fun x=>
   (nG x).bind fun b=>
   br (decide (0<=i)) (
   br (decide (i.toNat<l.length)) (
   (l[i.toNat]?).bind fun c=>
   some (.inl ((l.set i.toNat b),(wrap .i64 (i+1))))) none) none) (
   some (.inr (l,i,decide (i<(a.length:Int)))))
theorem MN {a}:LX tab ow (.close [6006]) BQ (oz a) (fun s=>⟨[(0,sl (eL eS) a),(3,.sl 2002 0 s.1.length),(4,I s.2)],[(2002,⟨1,false,rws (eL eS) s.1⟩)]⟩) (fun e=>(.exit 0,⟨[(0,sl (eL eS) a),(3,.sl 2002 0 e.1.length),(4,I e.2.1),(11,B e.2.2)],[(2002,⟨1,false,rws (eL eS) e.1⟩)]⟩)):=by
 refine lrX (fun s o h=> ?_)
 obtain ⟨_,_⟩:=s
 simp only [oz] at h
 simp only [BQ,BT]
 have d1:= @J4
 exact go2
def rY (a:(List (List (List UInt8)))):Option ((List (List (List UInt8)))):=
 br (zf (a.length:Int) (a.length:Int) 24) (
 (Loop (oz a) ((List.replicate ((a.length:Int).toNat) ([]:List (List UInt8))),(0:Int))).bind fun b=>
 some b.1) none
theorem RY {a r} (h:rY a=some r):Call tab ow 374 [sl (eL eS) a] []=some (sl (eL eS) r,[]):=by
 rw [aj (af:=sa) rfl]
 unfold rY at h
 simp only [sa,yp]
 have d1:= @MN
 exact go2
end
def xQ (a:Query):Option Query:=
 (vj a.Pairs).bind fun c=>
 (rY a.Paths).bind fun b=>
 some (Query.mk c b)
theorem a2B {a r} (h:xQ a=some r):Call tab ow 342 [.agg [sl eExt a.Pairs,sl (eL eS) a.Paths]] []=some (.agg [sl eExt r.Pairs,sl (eL eS) r.Paths],[]):=by
 rw [aj (af:=zO) rfl]
 unfold xQ at h
 simp only [zO,O9]
 have d1:= @K0
 have d2:= @RY
 exact go2
section
@[local go_sem] theorem b6Y: ∀k,Bi 2002 k [.imm 1 [],.imm 1 []]=rws eQuery (List.replicate k (Query.mk ([]:List Ext) ([]:List (List (List UInt8))))):=fun _=>MD eQuery (Query.mk ([]:List Ext) ([]:List (List (List UInt8)))) _ _
def sn (a:List Query):(List Query)×Int->Option (((List Query)×Int)⊕(((List Query)×Int×Bool)))
 | (l,i)=>
   br (decide (i<(a.length:Int))) (
   (atL a i).bind fun x=>
   (xQ x).bind fun b=>
   br (decide (0<=i)) (
   br (decide (i.toNat<l.length)) (
   (l[i.toNat]?).bind fun c=>
   some (.inl ((l.set i.toNat b),(wrap .i64 (i+1))))) none) none) (
   some (.inr (l,i,decide (i<(a.length:Int)))))
theorem Rv {a}:LX tab ow (.close [6006]) Fy (sn a) (fun s=>⟨[(0,sl eQuery a),(3,.sl 2002 0 s.1.length),(4,I s.2)],[(2002,⟨2,false,rws eQuery s.1⟩)]⟩) (fun e=>(.exit 0,⟨[(0,sl eQuery a),(3,.sl 2002 0 e.1.length),(4,I e.2.1),(11,B e.2.2)],[(2002,⟨2,false,rws eQuery e.1⟩)]⟩)):=by
 refine lrX (fun s o h=> ?_)
 obtain ⟨_,_⟩:=s
 simp only [sn] at h
 simp only [Fy,Gg]
 have d1:= @a2B
 exact go2
def z8 (a:List Query):Option (List Query):=
 br (zf (a.length:Int) (a.length:Int) 48) (
 (Loop (sn a) ((List.replicate ((a.length:Int).toNat) (Query.mk ([]:List Ext) ([]:List (List (List UInt8))))),(0:Int))).bind fun b=>
 some b.1) none
theorem WY {a r} (h:z8 a=some r):Call tab ow 276 [sl eQuery a] []=some (sl eQuery r,[]):=by
 rw [aj (af:=xF) rfl]
 unfold z8 at h
 simp only [xF,Dg]
 have d1:= @Rv
 exact go2
end
def vy (a:Opening):Option Opening:=
 (tP a.Rounds).bind fun e=>
 (nG a.Roots).bind fun b=>
 (sG a.Last).bind fun c=>
 (z8 a.Queries).bind fun d=>
 some (Opening.mk e b c a.Nonce d)
theorem UW {a r} (h:vy a=some r):Call tab ow 153 [.agg [sl (eL eExt) a.Rounds,sl eS a.Roots,I a.Last.A,I a.Last.B,I a.Nonce,sl eQuery a.Queries]] []=some (.agg [sl (eL eExt) r.Rounds,sl eS r.Roots,I r.Last.A,I r.Last.B,I r.Nonce,sl eQuery r.Queries],[]):=by
 rw [aj (af:=uh) rfl]
 unfold vy at h
 simp only [uh,Iq]
 have d1:= @O2
 have d2:= @J4
 have d3:= @Mf
 have d4:= @WY
 exact go2
def te (a:Proof):Option Proof:=
 (tP a.Gates).bind fun i=>
 (sG a.VA).bind fun h=>
 (sG a.VB).bind fun b=>
 (sG a.VC).bind fun c=>
 (tP a.Wires).bind fun e=>
 (sG a.VW).bind fun f=>
 (vy a.Open).bind fun d=>
 some (Proof.mk a.Root i h b c e f d)
theorem a1w {a r} (h:te a=some r):Call tab ow 53 [.agg [S a.Root,sl (eL eExt) a.Gates,I a.VA.A,I a.VA.B,I a.VB.A,I a.VB.B,I a.VC.A,I a.VC.B,sl (eL eExt) a.Wires,I a.VW.A,I a.VW.B,sl (eL eExt) a.Open.Rounds,sl eS a.Open.Roots,I a.Open.Last.A,I a.Open.Last.B,I a.Open.Nonce,sl eQuery a.Open.Queries]] []=some (.agg [S r.Root,sl (eL eExt) r.Gates,I r.VA.A,I r.VA.B,I r.VB.A,I r.VB.B,I r.VC.A,I r.VC.B,sl (eL eExt) r.Wires,I r.VW.A,I r.VW.B,sl (eL eExt) r.Open.Rounds,sl eS r.Open.Roots,I r.Open.Last.A,I r.Open.Last.B,I r.Open.Nonce,sl eQuery r.Open.Queries],[]):=by
 rw [aj (af:=zI) rfl]
 unfold te at h
 simp only [zI,N0]
 have d1:= @O2
 have d2:= @Mf
 have d3:= @UW
 exact go2
def qV (a:Source):Option Source:=
 (vj a.Script).bind fun b=>
 some (Source.mk b a.At a.State a.Count)
theorem XB {a r} (h:qV a=some r):Call tab ow 54 [.agg [sl eExt a.Script,I a.At,S a.State,I a.Count]] []=some (.agg [sl eExt r.Script,I r.At,S r.State,I r.Count],[]):=by
 rw [aj (af:=wW) rfl]
 unfold qV at h
 simp only [wW,KT]
 have d1:= @K0
 exact go2
def vz (s:bi) (t:Setting) (a:List Int) (p:Proof) (b:Source):Option (Bool×Int):=
 br (decide ((a.length:Int)>4096)) (
 some (false,2)) (
 (FB s t a b).bind fun e=>
 br (e !=0) (
 some (false,e)) (
 (BH p s t).bind fun d=>
 br (!d) (
 some (false,18)) (
 (rv s t a p b).bind fun c=>
 some ((c==0),c))))
theorem a4D {s t b p a r} (h:vz s t b p a=some r):Call tab ow 149 [.agg [I s.Rows,I s.Cols,I s.Publics,sl aA s.A,sl aA s.B,sl aA s.C],.agg [I t.Rate,I t.Queries,I t.Grind],sl eI b,.agg [S p.Root,sl (eL eExt) p.Gates,I p.VA.A,I p.VA.B,I p.VB.A,I p.VB.B,I p.VC.A,I p.VC.B,sl (eL eExt) p.Wires,I p.VW.A,I p.VW.B,sl (eL eExt) p.Open.Rounds,sl eS p.Open.Roots,I p.Open.Last.A,I p.Open.Last.B,I p.Open.Nonce,sl eQuery p.Open.Queries],.agg [sl eExt a.Script,I a.At,S a.State,I a.Count]] []=some (.tup [B r.1,I r.2],[]):=by
 rw [aj (af:=Cp) rfl]
 unfold vz at h
 simp only [Cp,R9]
 have d1:= @a5k
 have d2:= @a0Y
 have d3:= @UV
 exact go2
def gV (c:Circuit) (t:Setting) (a:List Int) (p:Proof) (b:Source):Option (Bool×Int):=
 br (decide ((a.length:Int)>4096)) (
 some (false,2)) (
 (vH c).bind fun f=>
 br (!f) (
 some (false,19)) (
 (vK c).bind fun e=>
 (vz e t a p b).bind fun d=>
 some (d.1,d.2)))
theorem Lb {c t b p a r} (h:gV c t b p a=some r):Call tab ow 49 [.agg [sl eGate c.Gates],.agg [I t.Rate,I t.Queries,I t.Grind],sl eI b,.agg [S p.Root,sl (eL eExt) p.Gates,I p.VA.A,I p.VA.B,I p.VB.A,I p.VB.B,I p.VC.A,I p.VC.B,sl (eL eExt) p.Wires,I p.VW.A,I p.VW.B,sl (eL eExt) p.Open.Rounds,sl eS p.Open.Roots,I p.Open.Last.A,I p.Open.Last.B,I p.Open.Nonce,sl eQuery p.Open.Queries],.agg [sl eExt a.Script,I a.At,S a.State,I a.Count]] []=some (.tup [B r.1,I r.2],[]):=by
 rw [aj (af:=nu) rfl]
 unfold gV at h
 simp only [nu,Ao]
 have d1:= @Uh
 have d2:= @Uy
 have d3:= @a4D
 exact go2
def vM (s:bi) (t:Setting) (a:List Int) (p:Proof) (b:Source):Option (Bool×Int):=
 (vg s t a b).bind fun d=>
 br (d !=0) (
 some (false,d)) (
 (D8 s t a p b).bind fun c=>
 some (c.1,c.2))
theorem a63 {s t b p a r} (h:vM s t b p a=some r):Call tab ow 62 [.agg [I s.Rows,I s.Cols,I s.Publics,sl aA s.A,sl aA s.B,sl aA s.C],.agg [I t.Rate,I t.Queries,I t.Grind],sl eI b,.agg [S p.Root,sl (eL eExt) p.Gates,I p.VA.A,I p.VA.B,I p.VB.A,I p.VB.B,I p.VC.A,I p.VC.B,sl (eL eExt) p.Wires,I p.VW.A,I p.VW.B,sl (eL eExt) p.Open.Rounds,sl eS p.Open.Roots,I p.Open.Last.A,I p.Open.Last.B,I p.Open.Nonce,sl eQuery p.Open.Queries],.agg [sl eExt a.Script,I a.At,S a.State,I a.Count]] []=some (.tup [B r.1,I r.2],[]):=by
 rw [aj (af:=Cx) rfl]
 unfold vM at h
 simp only [Cx,Rx]
 have d1:= @TJ
 have d2:= @YR
 exact go2
def gR (c:Circuit) (t:Setting) (a:List Int) (p:Proof) (b:Source):Option (Bool×Int):=
 br (decide ((a.length:Int)>4096)) (
 some (false,2)) (
 (ve c).bind fun f=>
 br (!f) (
 some (false,19)) (
 (lQ c).bind fun e=>
 (vM e t a p b).bind fun d=>
 some (d.1,d.2)))
theorem Ln {c t b p a r} (h:gR c t b p a=some r):Call tab ow 55 [.agg [sl eGate c.Gates],.agg [I t.Rate,I t.Queries,I t.Grind],sl eI b,.agg [S p.Root,sl (eL eExt) p.Gates,I p.VA.A,I p.VA.B,I p.VB.A,I p.VB.B,I p.VC.A,I p.VC.B,sl (eL eExt) p.Wires,I p.VW.A,I p.VW.B,sl (eL eExt) p.Open.Rounds,sl eS p.Open.Roots,I p.Open.Last.A,I p.Open.Last.B,I p.Open.Nonce,sl eQuery p.Open.Queries],.agg [sl eExt a.Script,I a.At,S a.State,I a.Count]] []=some (.tup [B r.1,I r.2],[]):=by
 rw [aj (af:=ni) rfl]
 unfold gR at h
 simp only [ni,Av]
 have d1:= @TV
 have d2:= @Jo
 have d3:= @a63
 exact go2
def KR (a b:Gate):Option Bool:=
 br (a.Op !=b.Op) (
 some false) (
 br (a.A !=b.A) (
 some false) (
 br (a.B !=b.B) (
 some false) (
 br (a.K !=b.K) (
 some false) (
 some true))))
theorem a6g {a b r} (h:KR a b=some r):Call tab ow 277 [.agg [I a.Op,I a.A,I a.B,I a.K],.agg [I b.Op,I b.A,I b.B,I b.K]] []=some (B r,[]):=by
 rw [aj (af:=DJ) rfl]
 unfold KR at h
 simp only [DJ,PY]
 exact go2
def pD (a b:List Gate):Int->Option ((Int)⊕(Unit⊕(Int×Bool)))
 |i=>
  br (decide (i<(a.length:Int))) (
  (atL a i).bind fun x=>
  (atL b i).bind fun c=>
  (KR x c).bind fun d=>
  br (!d) (
  some (.inr (.inl ()))) (
  some (.inl (wrap .i64 (i+1))))) (
  some (.inr (.inr (i,decide (i<(a.length:Int))))))
theorem TQ {b a}:LX tab ow (.close [7008]) HT (pD b a) (fun s=>⟨[(0,sl eGate b),(1,sl eGate a),(5,I s)],[]⟩) (alt (fun e=>((.ret,⟨[(4,B false)],[]⟩):bR×St)) (fun e=>(.exit 0,⟨[(0,sl eGate b),(1,sl eGate a),(5,I e.1),(14,B e.2)],[]⟩))):=by
 refine lrX (fun s o h=> ?_)
 simp only [pD] at h
 simp only [HT,IQ]
 have d1:= @a6g
 exact go2
def C6 (a b:List Gate):Option Bool:=
 br ((a.length:Int) !=(b.length:Int)) (
 some false) (
 (Loop (pD a b) 0).bind (alt (fun c=>
 some false) (fun d=>
 some true)))
theorem a1b {a b r} (h:C6 a b=some r):Call tab ow 155 [sl eGate a,sl eGate b] []=some (B r,[]):=by
 rw [aj (af:=Ad) rfl]
 unfold C6 at h
 simp only [Ad,FN]
 have d1:= @TQ
 exact go2
def vG (a b:Circuit):Option Bool:=
 (C6 a.Gates b.Gates).bind fun c=>
 br (!c) (
 some false) (
 some true)
theorem V4 {a b r} (h:vG a b=some r):Call tab ow 56 [.agg [sl eGate a.Gates],.agg [sl eGate b.Gates]] []=some (B r,[]):=by
 rw [aj (af:=uP) rfl]
 unfold vG at h
 simp only [uP,HO]
 have d1:= @a1b
 exact go2
def xm (a b:List Int):Int->Option ((Int)⊕(Unit⊕(Int×Bool)))
 |i=>
  br (decide (i<(a.length:Int))) (
  (atL a i).bind fun x=>
  (atL b i).bind fun c=>
  br (x !=c) (
  some (.inr (.inl ()))) (
  some (.inl (wrap .i64 (i+1))))) (
  some (.inr (.inr (i,decide (i<(a.length:Int))))))
theorem Za {b a}:LX tab ow (.close []) LO (xm b a) (fun s=>⟨[(0,sl eI b),(1,sl eI a),(5,I s)],[]⟩) (alt (fun e=>((.ret,⟨[(4,B false)],[]⟩):bR×St)) (fun e=>(.exit 0,⟨[(0,sl eI b),(1,sl eI a),(5,I e.1),(14,B e.2)],[]⟩))):=by
 refine lrX (fun s o h=> ?_)
 simp only [xm] at h
 simp only [LO,Kx]
 exact go2
def GM (a b:List Int):Option Bool:=
 br ((a.length:Int) !=(b.length:Int)) (
 some false) (
 (Loop (xm a b) 0).bind (alt (fun c=>
 some false) (fun d=>
 some true)))
theorem a4j {a b r} (h:GM a b=some r):Call tab ow 57 [sl eI a,sl eI b] []=some (B r,[]):=by
 rw [aj (af:=DN) rfl]
 unfold GM at h
 simp only [DN,Jy]
 have d1:= @Za
 exact go2
def rG (a b:Ext):Option Bool:=
 br (a.A !=b.A) (
 some false) (
 br (a.B !=b.B) (
 some false) (
 some true))
theorem M1 {a b r} (h:rG a b=some r):Call tab ow 157 [.agg [I a.A,I a.B],.agg [I b.A,I b.B]] []=some (B r,[]):=by
 rw [aj (af:=H8) rfl]
 unfold rG at h
 simp only [H8,Vo]
 exact go2
def D2 (a b:List Ext):Int->Option ((Int)⊕(Unit⊕(Int×Bool)))
 |i=>
  br (decide (i<(a.length:Int))) (
  (atL a i).bind fun x=>
  (atL b i).bind fun c=>
  (rG x c).bind fun d=>
  br (!d) (
  some (.inr (.inl ()))) (
  some (.inl (wrap .i64 (i+1))))) (
  some (.inr (.inr (i,decide (i<(a.length:Int))))))
theorem WT {b a}:LX tab ow (.close [7008]) L3 (D2 b a) (fun s=>⟨[(0,sl eExt b),(1,sl eExt a),(5,I s)],[]⟩) (alt (fun e=>((.ret,⟨[(4,B false)],[]⟩):bR×St)) (fun e=>(.exit 0,⟨[(0,sl eExt b),(1,sl eExt a),(5,I e.1),(14,B e.2)],[]⟩))):=by
 refine lrX (fun s o h=> ?_)
 simp only [D2] at h
 simp only [L3,KQ]
 have d1:= @M1
 exact go2
def vh (a b:List Ext):Option Bool:=
 br ((a.length:Int) !=(b.length:Int)) (
 some false) (
 (Loop (D2 a b) 0).bind (alt (fun c=>
 some false) (fun d=>
 some true)))
theorem Jb {a b r} (h:vh a b=some r):Call tab ow 159 [sl eExt a,sl eExt b] []=some (B r,[]):=by
 rw [aj (af:=CK) rfl]
 unfold vh at h
 simp only [CK,JC]
 have d1:= @WT
 exact go2
def AM (a b:List (List Ext)):Int->Option ((Int)⊕(Unit⊕(Int×Bool)))
 |i=>
  br (decide (i<(a.length:Int))) (
  (atL a i).bind fun x=>
  (atL b i).bind fun c=>
  (vh x c).bind fun d=>
  br (!d) (
  some (.inr (.inl ()))) (
  some (.inl (wrap .i64 (i+1))))) (
  some (.inr (.inr (i,decide (i<(a.length:Int))))))
theorem Tt {b a}:LX tab ow (.close [7008]) Ik (AM b a) (fun s=>⟨[(0,sl (eL eExt) b),(1,sl (eL eExt) a),(5,I s)],[]⟩) (alt (fun e=>((.ret,⟨[(4,B false)],[]⟩):bR×St)) (fun e=>(.exit 0,⟨[(0,sl (eL eExt) b),(1,sl (eL eExt) a),(5,I e.1),(14,B e.2)],[]⟩))):=by
 refine lrX (fun s o h=> ?_)
 simp only [AM] at h
 simp only [Ik,HQ]
 have d1:= @Jb
 exact go2
def tu (a b:(List (List Ext))):Option Bool:=
 br ((a.length:Int) !=(b.length:Int)) (
 some false) (
 (Loop (AM a b) 0).bind (alt (fun c=>
 some false) (fun d=>
 some true)))
theorem Nj {a b r} (h:tu a b=some r):Call tab ow 156 [sl (eL eExt) a,sl (eL eExt) b] []=some (B r,[]):=by
 rw [aj (af:=Ap) rfl]
 unfold tu at h
 simp only [Ap,FJ]
 have d1:= @Tt
 exact go2
def qv (a b:List (List UInt8)):Int->Option ((Int)⊕(Unit⊕(Int×Bool)))
 |i=>
  br (decide (i<(a.length:Int))) (
  (atL a i).bind fun x=>
  (atL b i).bind fun c=>
  br (x !=c) (
  some (.inr (.inl ()))) (
  some (.inl (wrap .i64 (i+1))))) (
  some (.inr (.inr (i,decide (i<(a.length:Int))))))
theorem OW {b a}:LX tab ow (.close []) DV (qv b a) (fun s=>⟨[(0,sl eS b),(1,sl eS a),(5,I s)],[]⟩) (alt (fun e=>((.ret,⟨[(4,B false)],[]⟩):bR×St)) (fun e=>(.exit 0,⟨[(0,sl eS b),(1,sl eS a),(5,I e.1),(14,B e.2)],[]⟩))):=by
 refine lrX (fun s o h=> ?_)
 simp only [qv] at h
 simp only [DV,EH]
 exact go2
def o6 (a b:(List (List UInt8))):Option Bool:=
 br ((a.length:Int) !=(b.length:Int)) (
 some false) (
 (Loop (qv a b) 0).bind (alt (fun c=>
 some false) (fun d=>
 some true)))
theorem HR {a b r} (h:o6 a b=some r):Call tab ow 278 [sl eS a,sl eS b] []=some (B r,[]):=by
 rw [aj (af:=uM) rfl]
 unfold o6 at h
 simp only [uM,AX]
 have d1:= @OW
 exact go2
def tF (a b:List (List (List UInt8))):Int->Option ((Int)⊕(Unit⊕(Int×Bool)))
 |i=>
  br (decide (i<(a.length:Int))) (
  (atL a i).bind fun x=>
  (atL b i).bind fun c=>
  (o6 x c).bind fun d=>
  br (!d) (
  some (.inr (.inl ()))) (
  some (.inl (wrap .i64 (i+1))))) (
  some (.inr (.inr (i,decide (i<(a.length:Int))))))
theorem M8 {b a}:LX tab ow (.close [7008]) Co (tF b a) (fun s=>⟨[(0,sl (eL eS) b),(1,sl (eL eS) a),(5,I s)],[]⟩) (alt (fun e=>((.ret,⟨[(4,B false)],[]⟩):bR×St)) (fun e=>(.exit 0,⟨[(0,sl (eL eS) b),(1,sl (eL eS) a),(5,I e.1),(14,B e.2)],[]⟩))):=by
 refine lrX (fun s o h=> ?_)
 simp only [tF] at h
 simp only [Co,BZ]
 have d1:= @HR
 exact go2
def sE (a b:(List (List (List UInt8)))):Option Bool:=
 br ((a.length:Int) !=(b.length:Int)) (
 some false) (
 (Loop (tF a b) 0).bind (alt (fun c=>
 some false) (fun d=>
 some true)))
theorem RP {a b r} (h:sE a b=some r):Call tab ow 375 [sl (eL eS) a,sl (eL eS) b] []=some (B r,[]):=by
 rw [aj (af:=sf) rfl]
 unfold sE at h
 simp only [sf,yF]
 have d1:= @M8
 exact go2
def xJ (a b:Query):Option Bool:=
 (vh a.Pairs b.Pairs).bind fun d=>
 br (!d) (
 some false) (
 (sE a.Paths b.Paths).bind fun c=>
 br (!c) (
 some false) (
 some true))
theorem a2V {a b r} (h:xJ a b=some r):Call tab ow 343 [.agg [sl eExt a.Pairs,sl (eL eS) a.Paths],.agg [sl eExt b.Pairs,sl (eL eS) b.Paths]] []=some (B r,[]):=by
 rw [aj (af:=zS) rfl]
 unfold xJ at h
 simp only [zS,NH]
 have d1:= @Jb
 have d2:= @RP
 exact go2
def yo (a b:List Query):Int->Option ((Int)⊕(Unit⊕(Int×Bool)))
 |i=>
  br (decide (i<(a.length:Int))) (
  (atL a i).bind fun x=>
  (atL b i).bind fun c=>
  (xJ x c).bind fun d=>
  br (!d) (
  some (.inr (.inl ()))) (
  some (.inl (wrap .i64 (i+1))))) (
  some (.inr (.inr (i,decide (i<(a.length:Int))))))
theorem Sb {b a}:LX tab ow (.close [7008]) Ft (yo b a) (fun s=>⟨[(0,sl eQuery b),(1,sl eQuery a),(5,I s)],[]⟩) (alt (fun e=>((.ret,⟨[(4,B false)],[]⟩):bR×St)) (fun e=>(.exit 0,⟨[(0,sl eQuery b),(1,sl eQuery a),(5,I e.1),(14,B e.2)],[]⟩))):=by
 refine lrX (fun s o h=> ?_)
 simp only [yo] at h
 simp only [Ft,Fp]
 have d1:= @a2V
 exact go2
def yP (a b:List Query):Option Bool:=
 br ((a.length:Int) !=(b.length:Int)) (
 some false) (
 (Loop (yo a b) 0).bind (alt (fun c=>
 some false) (fun d=>
 some true)))
theorem Yn {a b r} (h:yP a b=some r):Call tab ow 279 [sl eQuery a,sl eQuery b] []=some (B r,[]):=by
 rw [aj (af:=xA) rfl]
 unfold yP at h
 simp only [xA,DA]
 have d1:= @Sb
 exact go2
def vU (a b:Opening):Option Bool:=
 (tu a.Rounds b.Rounds).bind fun f=>
 br (!f) (
 some false) (
 (o6 a.Roots b.Roots).bind fun c=>
 br (!c) (
 some false) (
 (rG a.Last b.Last).bind fun d=>
 br (!d) (
 some false) (
 br (a.Nonce !=b.Nonce) (
 some false) (
 (yP a.Queries b.Queries).bind fun e=>
 br (!e) (
 some false) (
 some true)))))
theorem UM {a b r} (h:vU a b=some r):Call tab ow 158 [.agg [sl (eL eExt) a.Rounds,sl eS a.Roots,I a.Last.A,I a.Last.B,I a.Nonce,sl eQuery a.Queries],.agg [sl (eL eExt) b.Rounds,sl eS b.Roots,I b.Last.A,I b.Last.B,I b.Nonce,sl eQuery b.Queries]] []=some (B r,[]):=by
 rw [aj (af:=uH) rfl]
 unfold vU at h
 simp only [uH,IP]
 have d1:= @Nj
 have d2:= @HR
 have d3:= @M1
 have d4:= @Yn
 exact go2
def BE (a b:Proof):Option Bool:=
 br (a.Root !=b.Root) (
 some false) (
 (tu a.Gates b.Gates).bind fun j=>
 br (!j) (
 some false) (
 (rG a.VA b.VA).bind fun i=>
 br (!i) (
 some false) (
 (rG a.VB b.VB).bind fun c=>
 br (!c) (
 some false) (
 (rG a.VC b.VC).bind fun d=>
 br (!d) (
 some false) (
 (tu a.Wires b.Wires).bind fun f=>
 br (!f) (
 some false) (
 (rG a.VW b.VW).bind fun h=>
 br (!h) (
 some false) (
 (vU a.Open b.Open).bind fun e=>
 br (!e) (
 some false) (
 some true))))))))
theorem a2E {a b r} (h:BE a b=some r):Call tab ow 58 [.agg [S a.Root,sl (eL eExt) a.Gates,I a.VA.A,I a.VA.B,I a.VB.A,I a.VB.B,I a.VC.A,I a.VC.B,sl (eL eExt) a.Wires,I a.VW.A,I a.VW.B,sl (eL eExt) a.Open.Rounds,sl eS a.Open.Roots,I a.Open.Last.A,I a.Open.Last.B,I a.Open.Nonce,sl eQuery a.Open.Queries],.agg [S b.Root,sl (eL eExt) b.Gates,I b.VA.A,I b.VA.B,I b.VB.A,I b.VB.B,I b.VC.A,I b.VC.B,sl (eL eExt) b.Wires,I b.VW.A,I b.VW.B,sl (eL eExt) b.Open.Rounds,sl eS b.Open.Roots,I b.Open.Last.A,I b.Open.Last.B,I b.Open.Nonce,sl eQuery b.Open.Queries]] []=some (B r,[]):=by
 rw [aj (af:=Aj) rfl]
 unfold BE at h
 simp only [Aj,Oc]
 have d1:= @Nj
 have d2:= @M1
 have d3:= @UM
 exact go2
def yq (a b:Source):Option Bool:=
 (vh a.Script b.Script).bind fun c=>
 br (!c) (
 some false) (
 br (a.At !=b.At) (
 some false) (
 br (a.State !=b.State) (
 some false) (
 br (a.Count !=b.Count) (
 some false) (
 some true))))
theorem YQ {a b r} (h:yq a b=some r):Call tab ow 59 [.agg [sl eExt a.Script,I a.At,S a.State,I a.Count],.agg [sl eExt b.Script,I b.At,S b.State,I b.Count]] []=some (B r,[]):=by
 rw [aj (af:=xv) rfl]
 unfold yq at h
 simp only [xv,KI]
 have d1:= @Jb
 exact go2
def j1 (b:Circuit) (a:Setting) (v:List Int) (t:Proof) (u:Source):Option Bool:=
 br (decide ((v.length:Int)>1048576)) (
 some true) (
 (vp b 1048576).bind fun r_=>
 br (decide (r_<0)) (
 some true) (
 (BY t r_).bind fun n=>
 br (decide (n<0)) (
 some true) (
 (yJ u n).bind fun r_3=>
 br (decide (r_3<0)) (
 some true) (
 (oe b).bind fun w=>
 (vm a).bind fun z=>
 (yX v).bind fun r_6=>
 (te t).bind fun y=>
 (qV u).bind fun x=>
 (gV w z r_6 y x).bind fun o=>
 (oe b).bind fun f=>
 (yX v).bind fun h=>
 (te t).bind fun c=>
 (qV u).bind fun d=>
 (vm a).bind fun j=>
 (gR f j h c d).bind fun e=>
 br (e.1 !=o.1) (
 some false) (
 br (e.2 !=o.2) (
 some false) (
 (oe b).bind fun k=>
 (vG f k).bind fun r=>
 br (!r) (
 some false) (
 (yX v).bind fun s=>
 (GM h s).bind fun q=>
 br (!q) (
 some false) (
 (te t).bind fun i=>
 (BE c i).bind fun m=>
 br (!m) (
 some false) (
 (qV u).bind fun p=>
 (yq d p).bind fun l=>
 br (!l) (
 some false) (
 some true))))))))))
theorem w_FnExactVerifyCircuit_c {b a e c d r} (h:j1 b a e c d=some r):Call tab ow 7 [.agg [sl eGate b.Gates],.agg [I a.Rate,I a.Queries,I a.Grind],sl eI e,.agg [S c.Root,sl (eL eExt) c.Gates,I c.VA.A,I c.VA.B,I c.VB.A,I c.VB.B,I c.VC.A,I c.VC.B,sl (eL eExt) c.Wires,I c.VW.A,I c.VW.B,sl (eL eExt) c.Open.Rounds,sl eS c.Open.Roots,I c.Open.Last.A,I c.Open.Last.B,I c.Open.Nonce,sl eQuery c.Open.Queries],.agg [sl eExt d.Script,I d.At,S d.State,I d.Count]] []=some (B r,[]):=by
 rw [aj (af:=a_w_FnExactVerifyCircuit) rfl]
 unfold j1 at h
 simp only [a_w_FnExactVerifyCircuit,pB]
 have d1:= @UU
 have d2:= @a0x
 have d3:= @Zv
 have d4:= @Tn
 have d5:= @Ug
 have d6:= @a56
 have d7:= @a1w
 have d8:= @XB
 have d9:= @Lb
 have d10:= @Ln
 have d11:= @V4
 have d12:= @a4j
 have d13:= @a2E
 have d14:= @YQ
 exact go2
end
end Go.AI.Fn
