/- Part. -/
import Derived.Test.YtdnkignjanfikaaGreatFx2
set_option linter.unusedVariables false
set_option linter.unusedSimpArgs false
set_option maxRecDepth 100000
set_option maxHeartbeats 1000000
namespace Go.AI.Fn
noncomputable section
open IntKind (wrap)
def ws (p:jy) (s:bD) (t:Setting):Option Bool:=
 (uj s).bind fun k=>
 br k (
 (kH t).bind fun j=>
 br j (
 (xI p.Root).bind fun h=>
 br h (
 (rA p.Gates s.Rows 4).bind fun f=>
 br f (
 (xe p.VA).bind fun b=>
 br b (
 (xe p.VB).bind fun d=>
 br d (
 (xe p.VC).bind fun i=>
 br i (
 (rA p.Wires s.Cols 3).bind fun e=>
 br e (
 (xe p.VW).bind fun c=>
 br c (
 (ye p.Open (wrap .i64 (s.Cols-1)) t).bind fun a=>
 some a) (
 some false)) (
 some false)) (
 some false)) (
 some false)) (
 some false)) (
 some false)) (
 some false)) (
 some false)) (
 some false)
def Gm {p s t r} (h:ws p s t=some r):Call tab ow 63 [.agg [S p.Root,sl (eL aG) p.Gates,I p.VA.A,I p.VA.B,I p.VB.A,I p.VB.B,I p.VC.A,I p.VC.B,sl (eL aG) p.Wires,I p.VW.A,I p.VW.B,sl (eL aG) p.Open.Rounds,sl eS p.Open.Roots,I p.Open.Last.A,I p.Open.Last.B,I p.Open.Nonce,sl db p.Open.Queries],.agg [I s.Rows,I s.Cols,I s.Publics,sl aV s.A,sl aV s.B,sl aV s.C],.agg [I t.Rate,I t.Queries,I t.Grind]] []=some (B r,[]):=by
 rw [ak (af:=Be) rfl]
 unfold ws at h
 simp only [Be,OO]
 have d1:= @EA
 have d2:= @py
 have d3:= @Ew
 have d4:= @Js
 have d5:= @N0
 have d6:= @U5
 exact go2
section
attribute [local go_sem] sh
@[local go_sem] theorem a49:mkR 13003 []=rws aG []:=rfl
def iI (t:List (List Ext)) (b:Int) (c:List (List Ext)) (h:List (List UInt8)) (f j e:Int) (i:List cx):(List UInt8)×Int->Option (((List UInt8)×Int)⊕(((List UInt8)×Int×Bool)))
 | (l,a)=>
   br (decide (a<b)) (
   (atL t a).bind fun x=>
   (iz x).bind fun d=>
   br (bj ((l++d).length) 1) (
   some (.inl ((l++d),(wrap .i64 (a+1))))) none) (
   some (.inr (l,a,decide (a<b))))
def I5 {t d c f b j a i}:LXe tab ow (.close [6002,6003]) yW (iI t d c f b j a i) (fun s=>⟨[(1,.ptr 1000 0 0 1),(3,.sl 2000 0 s.1.length),(16,sl (eL aG) t),(17,I d),(18,I s.2)],[(1000,⟨6,true,[[sl (eL aG) c,sl eS f,I b,I j,I a,sl db i]]⟩),(2000,⟨1,false,rws eU8 s.1⟩)]⟩) 0 (fun e=>(e.1,e.2.1)) (fun e=>[(19,B e.2.2)]):=by
 refine lrX (fun s o h=> ?_)
 obtain ⟨_,_⟩:=s
 simp only [iI] at h
 simp only [yW,yT]
 have d1:= @kw
 exact go2
def iH (i:List (List UInt8)) (c:Int) (j:List (List Ext)) (l:List (List UInt8)) (k f h:Int) (e:List cx):(List UInt8)×Int->Option (((List UInt8)×Int)⊕(((List UInt8)×Int×Bool)))
 | (b,a)=>
   br (decide (a<c)) (
   (atL i a).bind fun d=>
   br (bj ((b++d).length) 1) (
   some (.inl ((b++d),(wrap .i64 (a+1))))) none) (
   some (.inr (b,a,decide (a<c))))
def HS {k f d j i b c a}:LXe tab ow (.close [11002]) yV (iH k f d j i b c a) (fun s=>⟨[(1,.ptr 1000 0 0 1),(3,.sl 2000 0 s.1.length),(28,sl eS k),(29,I f),(30,I s.2)],[(1000,⟨6,true,[[sl (eL aG) d,sl eS j,I i,I b,I c,sl db a]]⟩),(2000,⟨1,false,rws eU8 s.1⟩)]⟩) 2 (fun e=>(e.1,e.2.1)) (fun e=>[(31,B e.2.2)]):=by
 refine lrX (fun s o h=> ?_)
 obtain ⟨_,_⟩:=s
 simp only [iH] at h
 simp only [yV,yS]
 exact go2
def iN (h:List cx) (t k:Int) (j:List (List (List UInt8))) (o n:Int) (c:List (List UInt8)) (b:Int) (m:List (List Ext)) (r:List (List UInt8)) (s l i:Int) (p:List cx) (q:List Ext) (f:List (List (List UInt8))):(List UInt8)×Int->Option (((List UInt8)×Int)⊕(((List UInt8)×Int×Bool)))
 | (d,a)=>
   br (decide (a<b)) (
   (atL c a).bind fun e=>
   br (bj ((d++e).length) 1) (
   some (.inl ((d++e),(wrap .i64 (a+1))))) none) (
   some (.inr (d,a,decide (a<b))))
def HT {i n b u r q p t l k a c m d j f}:LXe tab ow (.close [24002]) xN (iN i n b u r q p t l k a c m d j f) (fun s=>⟨[(3,.sl 2000 0 s.1.length),(48,sl db i),(49,I n),(50,I b),(60,sl (eL eS) u),(61,I r),(62,I q),(66,sl eS p),(67,I t),(68,I s.2)],[(1000,⟨6,true,[[sl (eL aG) l,sl eS k,I a,I c,I m,sl db d]]⟩),(2000,⟨1,false,rws eU8 s.1⟩),(13003,kj),(16002,⟨2,true,[[sl aG j,sl (eL eS) f]]⟩)]⟩) 8 (fun e=>(e.1,e.2.1)) (fun e=>[(69,B e.2.2)]):=by
 refine lrX (fun s o h=> ?_)
 obtain ⟨_,_⟩:=s
 simp only [iN] at h
 simp only [xN,yo]
 exact go2
def iM (h:List cx) (l k:Int) (c:List (List (List UInt8))) (b:Int) (p:List (List Ext)) (n:List (List UInt8)) (f j d:Int) (m:List cx) (i:List Ext) (o:List (List (List UInt8))):(List UInt8)×Int->Option (((List UInt8)×Int)⊕(((List UInt8)×Int×Bool)))
 | (r,a)=>
   br (decide (a<b)) (
   (atL c a).bind fun q=>
   (Loop (iN h l k c b a q (q.length:Int) p n f j d m i o) (r,0)).bind fun e=>
   some (.inl (e.1,(wrap .i64 (a+1))))) (
   some (.inr (r,a,decide (a<b))))
def HW {c l j k f b n q i a m d p}:LXe tab ow (.close [24002]) ym (iM c l j k f b n q i a m d p) (fun s=>⟨[(3,.sl 2000 0 s.1.length),(48,sl db c),(49,I l),(50,I j),(60,sl (eL eS) k),(61,I f),(62,I s.2)],[(1000,⟨6,true,[[sl (eL aG) b,sl eS n,I q,I i,I a,sl db m]]⟩),(2000,⟨1,false,rws eU8 s.1⟩),(13003,kj),(16002,⟨2,true,[[sl aG d,sl (eL eS) p]]⟩)]⟩) 6 (fun e=>(e.1,e.2.1)) (fun e=>[(63,B e.2.2)]):=by
 refine lrX (fun s o h=> ?_)
 obtain ⟨_,_⟩:=s
 simp only [iM] at h
 simp only [ym,xL]
 have d1:= @HT
 exact go2
def iO (n:List cx) (f:Int) (h:List (List Ext)) (i:List (List UInt8)) (l d e:Int) (m:List cx):(List UInt8)×Int->Option (((List UInt8)×Int)⊕(((List UInt8)×Int×Bool)))
 | (j,a)=>
   br (decide (a<f)) (
   (atL n a).bind fun b=>
   (iz b.Pairs).bind fun c=>
   br (bj ((j++c).length) 1) (
   (Loop (iM n f a b.Paths (b.Paths.length:Int) h i l d e m b.Pairs b.Paths) ((j++c),0)).bind fun k=>
   some (.inl (k.1,(wrap .i64 (a+1))))) none) (
   some (.inr (j,a,decide (a<f))))
def HU {k j b c f a d i}:LXe tab ow (.close [16002,17003,17004,24002]) y5 (iO k j b c f a d i) (fun s=>⟨[(3,.sl 2000 0 s.1.length),(48,sl db k),(49,I j),(50,I s.2)],[(1000,⟨6,true,[[sl (eL aG) b,sl eS c,I f,I a,I d,sl db i]]⟩),(2000,⟨1,false,rws eU8 s.1⟩),(13003,kj)]⟩) 4 (fun e=>(e.1,e.2.1)) (fun e=>[(51,B e.2.2)]):=by
 refine lrX (fun s o h=> ?_)
 obtain ⟨_,_⟩:=s
 simp only [iO] at h
 simp only [y5,xZ]
 have d1:= @kw
 have d2:= @HW
 exact go2
def p7 (a:bJ):Option (List UInt8):=
 (Loop (iI a.Rounds (a.Rounds.length:Int) a.Rounds a.Roots a.Last.A a.Last.B a.Nonce a.Queries) (([]:List UInt8),0)).bind fun f=>
 (Loop (iH a.Roots (a.Roots.length:Int) a.Rounds a.Roots a.Last.A a.Last.B a.Nonce a.Queries) (f.1,0)).bind fun b=>
 (iz ([a.Last]:List Ext)).bind fun c=>
 br (bj ((b.1++c).length) 1) (
 (mH a.Nonce (b.1++c)).bind fun e=>
 (Loop (iO a.Queries (a.Queries.length:Int) a.Rounds a.Roots a.Last.A a.Last.B a.Nonce a.Queries) (e,0)).bind fun d=>
 some d.1) none
def LF {a r} (h:p7 a=some r):Call tab ow 176 [.agg [sl (eL aG) a.Rounds,sl eS a.Roots,I a.Last.A,I a.Last.B,I a.Nonce,sl db a.Queries]] []=some (sl eU8 r,[]):=by
 rw [ak (af:=qy) rfl]
 unfold p7 at h
 simp only [qy,iB]
 have d1:= @I5
 have d2:= @HS
 have d3:= @kw
 have d4:= @oM
 have d5:= @HU
 exact go2
end
section
@[local go_sem] theorem a6I:mkR 8007 []=rws aG []:=rfl
@[local go_sem] theorem a99:mkR 14003 []=rws aG []:=rfl
def jB (t:List (List Ext)) (d:Int) (c:List UInt8) (o:List (List Ext)) (r p q s w v:Int) (u:List (List Ext)) (m n:Int) (k:List (List Ext)) (f:List (List UInt8)) (j i e:Int) (h:List cx):(List UInt8)×Int->Option (((List UInt8)×Int)⊕(((List UInt8)×Int×Bool)))
 | (l,a)=>
   br (decide (a<d)) (
   (atL t a).bind fun x=>
   (iz x).bind fun b=>
   br (bj ((l++b).length) 1) (
   some (.inl ((l++b),(wrap .i64 (a+1))))) none) (
   some (.inr (l,a,decide (a<d))))
def Mm {t r c v q x n w m u p i j f d k l a b}:LXe tab ow (.close [6002,6003]) C6 (jB t r c v q x n w m u p i j f d k l a b) (fun s=>⟨[(1,.ptr 1000 0 0 1),(3,.sl 2002 0 s.1.length),(12,sl (eL aG) t),(13,I r),(14,I s.2)],[(1000,⟨17,true,[[S c,sl (eL aG) v,I q,I x,I n,I w,I m,I u,sl (eL aG) p,I i,I j,sl (eL aG) f,sl eS d,I k,I l,I a,sl db b]]⟩),(2002,⟨1,false,rws eU8 s.1⟩)]⟩) 0 (fun e=>(e.1,e.2.1)) (fun e=>[(15,B e.2.2)]):=by
 refine lrX (fun s o h=> ?_)
 obtain ⟨_,_⟩:=s
 simp only [jB] at h
 simp only [C6,C8]
 have d1:= @kw
 exact go2
def jD (i:List (List Ext)) (d:Int) (x:List UInt8) (u:List (List Ext)) (h r n s w v:Int) (j:List (List Ext)) (m q:Int) (t:List (List Ext)) (l:List (List UInt8)) (f o p:Int) (e:List cx):(List UInt8)×Int->Option (((List UInt8)×Int)⊕(((List UInt8)×Int×Bool)))
 | (c,b)=>
   br (decide (b<d)) (
   (atL i b).bind fun k=>
   (iz k).bind fun a=>
   br (bj ((c++a).length) 1) (
   some (.inl ((c++a),(wrap .i64 (b+1))))) none) (
   some (.inr (c,b,decide (b<d))))
def Mo {w x v n c r j p u t d i m q f b k l a}:LXe tab ow (.close [12002,12003]) BF (jD w x v n c r j p u t d i m q f b k l a) (fun s=>⟨[(1,.ptr 1000 0 0 1),(3,.sl 2002 0 s.1.length),(34,sl (eL aG) w),(35,I x),(36,I s.2)],[(1000,⟨17,true,[[S v,sl (eL aG) n,I c,I r,I j,I p,I u,I t,sl (eL aG) d,I i,I m,sl (eL aG) q,sl eS f,I b,I k,I l,sl db a]]⟩),(2002,⟨1,false,rws eU8 s.1⟩),(8007,kj)]⟩) 2 (fun e=>(e.1,e.2.1)) (fun e=>[(37,B e.2.2)]):=by
 refine lrX (fun s o h=> ?_)
 obtain ⟨_,_⟩:=s
 simp only [jD] at h
 simp only [BF,BN]
 have d1:= @kw
 exact go2
def tv (p:jy):Option (List UInt8):=
 br (bj p.Root.length 1) (
 (Loop (jB p.Gates (p.Gates.length:Int) p.Root p.Gates p.VA.A p.VA.B p.VB.A p.VB.B p.VC.A p.VC.B p.Wires p.VW.A p.VW.B p.Open.Rounds p.Open.Roots p.Open.Last.A p.Open.Last.B p.Open.Nonce p.Open.Queries) (p.Root,0)).bind fun e=>
 (iz ([p.VA,p.VB,p.VC]:List Ext)).bind fun d=>
 br (bj ((e.1++d).length) 1) (
 (Loop (jD p.Wires (p.Wires.length:Int) p.Root p.Gates p.VA.A p.VA.B p.VB.A p.VB.B p.VC.A p.VC.B p.Wires p.VW.A p.VW.B p.Open.Rounds p.Open.Roots p.Open.Last.A p.Open.Last.B p.Open.Nonce p.Open.Queries) ((e.1++d),0)).bind fun a=>
 (iz ([p.VW]:List Ext)).bind fun b=>
 br (bj ((a.1++b).length) 1) (
 (p7 p.Open).bind fun c=>
 br (bj (((a.1++b)++c).length) 1) (
 some ((a.1++b)++c)) none) none) none) none
def Pd {p r} (h:tv p=some r):Call tab ow 85 [.agg [S p.Root,sl (eL aG) p.Gates,I p.VA.A,I p.VA.B,I p.VB.A,I p.VB.B,I p.VC.A,I p.VC.B,sl (eL aG) p.Wires,I p.VW.A,I p.VW.B,sl (eL aG) p.Open.Rounds,sl eS p.Open.Roots,I p.Open.Last.A,I p.Open.Last.B,I p.Open.Nonce,sl db p.Open.Queries]] []=some (sl eU8 r,[]):=by
 rw [ak (af:=tE) rfl]
 unfold tv at h
 simp only [tE,tY]
 have d1:= @Mm
 have d2:= @kw
 have d3:= @Mo
 have d4:= @LF
 exact go2
end
def oG (p:jy) (s:bD) (t:Setting):Option ((List UInt8)×Int):=
 (ws p s t).bind fun b=>
 br (!b) (
 some (([]:List UInt8),1)) (
 (tv p).bind fun a=>
 some (a,0))
def Qv {p s t r} (h:oG p s t=some r):Call tab ow 18 [.agg [S p.Root,sl (eL aG) p.Gates,I p.VA.A,I p.VA.B,I p.VB.A,I p.VB.B,I p.VC.A,I p.VC.B,sl (eL aG) p.Wires,I p.VW.A,I p.VW.B,sl (eL aG) p.Open.Rounds,sl eS p.Open.Roots,I p.Open.Last.A,I p.Open.Last.B,I p.Open.Nonce,sl db p.Open.Queries],.agg [I s.Rows,I s.Cols,I s.Publics,sl aV s.A,sl aV s.B,sl aV s.C],.agg [I t.Rate,I t.Queries,I t.Grind]] []=some (.tup [sl eU8 r.1,I r.2],[]):=by
 rw [ak (af:=uZ) rfl]
 unfold oG at h
 simp only [uZ,Hd]
 have d1:= @Gm
 have d2:= @Pd
 exact go2
def is (b e c h f:Int):Int×Int->Option ((Int×Int)⊕((Int×Int×Bool)))
 | (a,d)=>
   br (decide (d<e)) (
   some (.inl ((wrap .i64 (a+(wrap .i64 ((wrap .i64 ((wrap .i64 (b+c))-1))-d)))),(wrap .i64 (d+1))))) (
   some (.inr (a,d,decide (d<e))))
def KH {a d c b f}:LXe tab ow (.close []) C9 (is a d c b f) (fun s=>⟨[(0,I a),(3,.ptr 1000 0 0 1),(5,I s.1),(7,I d),(8,I s.2)],[(1000,⟨3,true,[[I c,I b,I f]]⟩)]⟩) 0 (fun e=>(e.1,e.2.1)) (fun e=>[(9,B e.2.2)]):=by
 refine lrX (fun s o h=> ?_)
 obtain ⟨_,_⟩:=s
 simp only [is] at h
 simp only [C9,Bn]
 exact go2
def tc (a:Int) (t:Setting):Option Int:=
 (Loop (is a a t.Rate t.Queries t.Grind) (0,0)).bind fun b=>
 some (wrap .i64 ((wrap .i64 ((wrap .i64 ((wrap .i64 ((wrap .i64 (24*a))+(wrap .i64 (32*(wrap .i64 (a-1))))))+8))+4))+(wrap .i64 (t.Queries*(wrap .i64 ((wrap .i64 (16*a))+(wrap .i64 (32*b.1))))))))
def P6 {a t r} (h:tc a t=some r):Call tab ow 179 [I a,.agg [I t.Rate,I t.Queries,I t.Grind]] []=some (I r,[]):=by
 rw [ak (af:=u3) rfl]
 unfold tc at h
 simp only [u3,yC]
 have d1:= @KH
 exact go2
def uv (s:bD) (t:Setting):Option Int:=
 (tc (wrap .i64 (s.Cols-1)) t).bind fun a=>
 some (wrap .i64 ((wrap .i64 ((wrap .i64 ((wrap .i64 ((wrap .i64 (32+(wrap .i64 (32*s.Rows))))+24))+(wrap .i64 (24*s.Cols))))+8))+a))
def J0 {s t r} (h:uv s t=some r):Call tab ow 87 [.agg [I s.Rows,I s.Cols,I s.Publics,sl aV s.A,sl aV s.B,sl aV s.C],.agg [I t.Rate,I t.Queries,I t.Grind]] []=some (I r,[]):=by
 rw [ak (af:=xf) rfl]
 unfold uv at h
 simp only [xf,Jp]
 have d1:= @P6
 exact go2
def rD (s:bD) (t:Setting):Option (Int×Int):=
 (uj s).bind fun c=>
 br (!c) (
 some (0,1)) (
 (kH t).bind fun a=>
 br (!a) (
 some (0,1)) (
 (uv s t).bind fun b=>
 some (b,0)))
def TQ {s t r} (h:rD s t=some r):Call tab ow 19 [.agg [I s.Rows,I s.Cols,I s.Publics,sl aV s.A,sl aV s.B,sl aV s.C],.agg [I t.Rate,I t.Queries,I t.Grind]] []=some (.tup [I r.1,I r.2],[]):=by
 rw [ak (af:=xk) rfl]
 unfold rD at h
 simp only [xk,Ja]
 have d1:= @EA
 have d2:= @py
 have d3:= @J0
 exact go2
def yb (s:bD) (t:Setting) (a:List Int) (b:Source):Option Int:=
 br (decide ((a.length:Int)>4096)) (
 some 2) (
 (uj s).bind fun h=>
 br (!h) (
 some 1) (
 (kH t).bind fun f=>
 br (!f) (
 some 1) (
 (im a).bind fun e=>
 br (!e) (
 some 1) (
 (ui b).bind fun d=>
 br (!d) (
 some 1) (
 br ((a.length:Int) !=s.Publics) (
 some 17) (
 (mW b).bind fun c=>
 br (decide (c<200)) (
 some 6) (
 some 0)))))))
def Ug {s t b a r} (h:yb s t b a=some r):Call tab ow 88 [.agg [I s.Rows,I s.Cols,I s.Publics,sl aV s.A,sl aV s.B,sl aV s.C],.agg [I t.Rate,I t.Queries,I t.Grind],sl eI b,.agg [sl aG a.Script,I a.At,S a.State,I a.Count]] []=some (I r,[]):=by
 rw [ak (af:=xx) rfl]
 unfold yb at h
 simp only [xx,J7]
 have d1:= @EA
 have d2:= @py
 have d3:= @yO
 have d4:= @Ms
 have d5:= @F3
 exact go2
def ip (n:Int) (m:dQ):Option ((List UInt8)×dQ):=
 (rF m.b 0 n).bind fun y=>
 (rF m.b n (m.b.length:Int)).bind fun a=>
 some (y,(dQ.mk a))
def sU {n m r} (h:ip n m=some r):Call tab ow 295 [.ptr 0 0 0 1,I n] [⟨1,true,[[sl eU8 m.b]]⟩]=some (sl eU8 r.1,[⟨1,true,[[sl eU8 r.2.b]]⟩]):=by
 rw [ak (af:=na) rfl]
 unfold ip at h
 simp only [na,yY]
 exact go2
def iE (m:dQ):Option ((List UInt8)×dQ):=
 (ip 32 m).bind fun a=>
 some (a.1,a.2)
def sS {m r} (h:iE m=some r):Call tab ow 180 [.ptr 0 0 0 1] [⟨1,true,[[sl eU8 m.b]]⟩]=some (S r.1,[⟨1,true,[[sl eU8 r.2.b]]⟩]):=by
 rw [ak (af:=nl) rfl]
 unfold iE at h
 simp only [nl,yP]
 have d1:= @sU
 exact go2
section
attribute [local go_sem] fc
@[local go_sem] theorem b5D:mkR 6015 []=rws aG []:=rfl
def qO (b:List UInt8):(List Ext)×Int->Option (((List Ext)×Int)⊕(((List Ext)×Int×Bool)))
 | (l,i)=>
   br (decide ((wrap .i64 (i+8))<=(b.length:Int))) (
   (rF b i (wrap .i64 (i+4))).bind fun y=>
   (vy y).bind fun c=>
   (rF b (wrap .i64 (i+4)) (wrap .i64 (i+8))).bind fun d=>
   (vy d).bind fun a=>
   br (bj ((l++([(Ext.mk c a)]:List Ext)).length) 16) (
   some (.inl ((l++([(Ext.mk c a)]:List Ext)),(wrap .i64 (i+8))))) none) (
   some (.inr (l,i,decide ((wrap .i64 (i+8))<=(b.length:Int)))))
def SX {a}:LXe tab ow (.close [6006,6013,6015,6016]) GZ (qO a) (fun s=>⟨[(0,sl eU8 a),(4,.sl 2000 0 s.1.length),(5,I s.2)],[(2000,⟨2,false,rws aG s.1⟩)]⟩) 0 (fun e=>(e.1,e.2.1)) (fun e=>[(11,B e.2.2)]):=by
 refine lrX (fun s o h=> ?_)
 obtain ⟨_,_⟩:=s
 simp only [qO] at h
 simp only [GZ,FW]
 have d1:= @Kj
 exact go2
def AD (b:List UInt8):Option ((List Ext)×Bool):=
 (Loop (qO b) (([]:List Ext),0)).bind fun a=>
 br (((b.length:Int).tmod 8)==0) (
 (fq a.1).bind fun c=>
 some (a.1,c)) (
 some (a.1,false))
def Xy {b r} (h:AD b=some r):Call tab ow 296 [sl eU8 b] []=some (.tup [sl aG r.1,B r.2],[]):=by
 rw [ak (af:=zG) rfl]
 unfold AD at h
 simp only [zG,DV]
 have d1:= @SX
 have d2:= @jZ
 exact go2
end
def fu (n:Int) (m:dQ):Option ((List Ext)×dQ):=
 (ip (wrap .i64 (8*n)) m).bind fun b=>
 (AD b.1).bind fun a=>
 some (a.1,b.2)
def np {n m r} (h:fu n m=some r):Call tab ow 182 [.ptr 0 0 0 1,I n] [⟨1,true,[[sl eU8 m.b]]⟩]=some (sl aG r.1,[⟨1,true,[[sl eU8 r.2.b]]⟩]):=by
 rw [ak (af:=nj) rfl]
 unfold fu at h
 simp only [nj,yQ]
 have d1:= @sU
 have d2:= @Xy
 exact go2
section
attribute [local go_sem] Jz
@[local go_sem] theorem Yc:mkR 5004 []=rws (eL aG) []:=rfl
def fB (a t:Int):(List (List Ext))×Int×(List UInt8)->Option (((List (List Ext))×Int×(List UInt8))⊕(((List (List Ext))×Int×Bool×(List UInt8))))
 | (l,b,c)=>
   br (decide (b<t)) (
   (fu a (dQ.mk c)).bind fun d=>
   br (bj ((l++([d.1]:List (List Ext))).length) 24) (
   some (.inl ((l++([d.1]:List (List Ext))),(wrap .i64 (b+1)),d.2.b))) none) (
   some (.inr (l,b,decide (b<t),c)))
def Dv {a t}:LXe tab ow (.close [5003,5004,5005]) uL (fB a t) (fun s=>⟨[(0,.ptr 0 0 0 1),(2,I a),(7,.sl 2000 0 s.1.length),(9,I t),(10,I s.2.1)],[(0,⟨1,true,[[sl eU8 s.2.2]]⟩),(2000,⟨1,false,rws (eL aG) s.1⟩)]⟩) 0 (fun e=>(e.1,e.2.1,e.2.2.2)) (fun e=>[(11,B e.2.2.1)]):=by
 refine lrX (fun s o h=> ?_)
 obtain ⟨_,_,_⟩:=s
 simp only [fB] at h
 simp only [uL,uJ]
 have d1:= @np
 exact go2
def gk (a b:Int) (m:dQ):Option ((List (List Ext))×dQ):=
 (Loop (fB b a) (([]:List (List Ext)),0,m.b)).bind fun c=>
 some (c.1,(dQ.mk c.2.2.2))
def wj {a b m r} (h:gk a b m=some r):Call tab ow 181 [.ptr 0 0 0 1,I a,I b] [⟨1,true,[[sl eU8 m.b]]⟩]=some (sl (eL aG) r.1,[⟨1,true,[[sl eU8 r.2.b]]⟩]):=by
 rw [ak (af:=lN) rfl]
 unfold gk at h
 simp only [lN,pD]
 have d1:= @Dv
 exact go2
end
section
@[local go_sem] theorem Ve:mkR 5004 []=rws eS []:=rfl
@[local go_sem] theorem VK:mkR 15000 []=rws eS []:=rfl
@[local go_sem] theorem V3:mkR 18003 []=rws eS []:=rfl
theorem Do:mkR 20003 []=rws (eL eS) []:=rfl
attribute [local go_sem] Do NW
def ff (t d n k p i o h:Int) (m:List (List Ext)) (j e f:Int):(List (List UInt8))×Int×(List UInt8)->Option (((List (List UInt8))×Int×(List UInt8))⊕(((List (List UInt8))×Int×Bool×(List UInt8))))
 | (l,b,c)=>
   br (decide (b<d)) (
   (iE (dQ.mk c)).bind fun a=>
   br (bj ((l++([a.1]:List (List UInt8))).length) 16) (
   some (.inl ((l++([a.1]:List (List UInt8))),(wrap .i64 (b+1)),a.2.b))) none) (
   some (.inr (l,b,decide (b<d),c)))
def Ch {t j l i n d m c k f a b}:LXe tab ow (.both (.close [5003,5004,5005]) (.nilCell 2004 1 4900 1)) tA (ff t j l i n d m c k f a b) (fun s=>⟨[(0,.ptr 0 0 0 1),(1,I t),(5,.ptr 1000 0 0 1),(6,.ptr 1001 0 0 1),(7,.ptr 2004 0 0 1),(16,I j),(17,I s.2.1)],[(0,⟨1,true,[[sl eU8 s.2.2]]⟩),(1000,⟨3,true,[[I l,I i,I n]]⟩),(1001,⟨6,true,[[.lit (.slice none 0 0),.lit (.slice none 0 0),I d,I m,I c,.lit (.slice none 0 0)]]⟩),(2004,⟨6,true,[[sl (eL aG) k,.sl 4900 0 s.1.length,I f,I a,I b,.lit (.slice none 0 0)]]⟩),(4900,⟨1,false,rws eS s.1⟩)]⟩) 0 (fun e=>(e.1,e.2.1,e.2.2.2)) (fun e=>[(18,B e.2.2.1)]):=by
 refine lrX (fun s o h=> ?_)
 obtain ⟨_,_,_⟩:=s
 simp only [ff] at h
 simp only [tA,tj]
 have d1:= @sS
 exact go2
def fi (y:List (List UInt8)) (x:List cx) (w:List (List (List UInt8))) (j p i f h e q s n o v u:Int) (k:List (List Ext)) (r l t:Int) (m:List Ext):(List (List UInt8))×Int×(List UInt8)->Option (((List (List UInt8))×Int×(List UInt8))⊕(((List (List UInt8))×Int×Bool×(List UInt8))))
 | (b,a,d)=>
   br (decide (a<e)) (
   (iE (dQ.mk d)).bind fun c=>
   br (bj ((b++([c.1]:List (List UInt8))).length) 16) (
   some (.inl ((b++([c.1]:List (List UInt8))),(wrap .i64 (a+1)),c.2.b))) none) (
   some (.inr (b,a,decide (a<e),d)))
def Cg {y x w d m b a c t n q k l v u f p i r j}:LXe tab ow (.close [18002,18003,18004]) sC (fi y x w d m b a c t n q k l v u f p i r j) (fun s=>⟨[(0,.ptr 0 0 0 1),(1,I d),(5,.ptr 1000 0 0 1),(6,.ptr 1001 0 0 1),(7,.ptr 2004 0 0 1),(8,.ptr 11005 0 0 1),(10,.sl 15000 0 s.1.length),(37,I m),(38,I b),(45,I a),(46,I c),(56,I t),(57,I s.2.1)],[(0,⟨1,true,[[sl eU8 s.2.2]]⟩),(1000,⟨3,true,[[I n,I q,I k]]⟩),(1001,⟨6,true,[[.lit (.slice none 0 0),.lit (.slice none 0 0),I l,I v,I u,.lit (.slice none 0 0)]]⟩),(2004,⟨6,true,[[sl (eL aG) f,.sl 4900 0 y.length,I p,I i,I r,.sl 10900 0 x.length]]⟩),(4900,⟨1,false,rws eS y⟩),(10900,⟨2,false,rws db x⟩),(11005,⟨2,true,[[sl aG j,.sl 13900 0 w.length]]⟩),(13900,⟨1,false,rws (eL eS) w⟩),(15000,⟨1,false,rws eS s.1⟩)]⟩) 6 (fun e=>(e.1,e.2.1,e.2.2.2)) (fun e=>[(58,B e.2.2.1)]):=by
 refine lrX (fun s o h=> ?_)
 obtain ⟨_,_,_⟩:=s
 simp only [fi] at h
 simp only [sC,sA]
 have d1:= @sS
 exact go2
def fb (u:List (List UInt8)) (v:List cx) (r s t b e q j l o p:Int) (k:List (List Ext)) (i m n:Int) (h:List Ext):(List (List (List UInt8)))×Int×(List UInt8)->Option (((List (List (List UInt8)))×Int×(List UInt8))⊕(((List (List (List UInt8)))×Int×Bool×(List UInt8))))
 | (f,a,d)=>
   br (decide (a<b)) (
   (Loop (fi u v f r s t b a (wrap .i64 ((wrap .i64 ((wrap .i64 (r+e))-1))-a)) e q j l o p k i m n h) (([]:List (List UInt8)),0,d)).bind fun c=>
   br (bj ((f++([c.1]:List (List (List UInt8)))).length) 24) (
   some (.inl ((f++([c.1]:List (List (List UInt8)))),(wrap .i64 (a+1)),c.2.2.2))) none) (
   some (.inr (f,a,decide (a<b),d)))
def Cq {q r u t v b n k p l j a c m d i f}:LXe tab ow (.both (.close [15000,18002,18003,18004,20003,20004]) (.nilCell 11005 1 13900 1)) sI (fb q r u t v b n k p l j a c m d i f) (fun s=>⟨[(0,.ptr 0 0 0 1),(1,I u),(5,.ptr 1000 0 0 1),(6,.ptr 1001 0 0 1),(7,.ptr 2004 0 0 1),(8,.ptr 11005 0 0 1),(37,I t),(38,I v),(45,I b),(46,I s.2.1)],[(0,⟨1,true,[[sl eU8 s.2.2]]⟩),(1000,⟨3,true,[[I n,I k,I p]]⟩),(1001,⟨6,true,[[.lit (.slice none 0 0),.lit (.slice none 0 0),I l,I j,I a,.lit (.slice none 0 0)]]⟩),(2004,⟨6,true,[[sl (eL aG) c,.sl 4900 0 q.length,I m,I d,I i,.sl 10900 0 r.length]]⟩),(4900,⟨1,false,rws eS q⟩),(10900,⟨2,false,rws db r⟩),(11005,⟨2,true,[[sl aG f,.sl 13900 0 s.1.length]]⟩),(13900,⟨1,false,rws (eL eS) s.1⟩)]⟩) 4 (fun e=>(e.1,e.2.1,e.2.2.2)) (fun e=>[(47,B e.2.2.1)]):=by
 refine lrX (fun s o h=> ?_)
 obtain ⟨_,_,_⟩:=s
 simp only [fb] at h
 simp only [sI,sD]
 have d1:= @Cg
 exact go2
def fa (s:List (List UInt8)) (o h j l p f m q:Int) (i:List (List Ext)) (n r k:Int):(List cx)×Int×(List UInt8)->Option (((List cx)×Int×(List UInt8))⊕(((List cx)×Int×Bool×(List UInt8))))
 | (e,d,c)=>
   br (decide (d<h)) (
   (fu (wrap .i64 (2*o)) (dQ.mk c)).bind fun a=>
   (Loop (fb s e o h d o j l p f m q i n r k a.1) (([]:List (List (List UInt8))),0,a.2.b)).bind fun b=>
   br (bj ((e++([(cx.mk a.1 b.1)]:List cx)).length) 48) (
   some (.inl ((e++([(cx.mk a.1 b.1)]:List cx)),(wrap .i64 (d+1)),b.2.2.2))) none) (
   some (.inr (e,d,decide (d<h),c)))
def Cb {n q p c f k a i l b j m d}:LXe tab ow (.both (.close [11003,11005,15000,18002,18003,18004,20003,20004,22003,22004,13900]) (.nilCell 2004 5 10900 2)) tz (fa n q p c f k a i l b j m d) (fun s=>⟨[(0,.ptr 0 0 0 1),(1,I q),(5,.ptr 1000 0 0 1),(6,.ptr 1001 0 0 1),(7,.ptr 2004 0 0 1),(37,I p),(38,I s.2.1)],[(0,⟨1,true,[[sl eU8 s.2.2]]⟩),(1000,⟨3,true,[[I c,I f,I k]]⟩),(1001,⟨6,true,[[.lit (.slice none 0 0),.lit (.slice none 0 0),I a,I i,I l,.lit (.slice none 0 0)]]⟩),(2004,⟨6,true,[[sl (eL aG) b,.sl 4900 0 n.length,I j,I m,I d,.sl 10900 0 s.1.length]]⟩),(4900,⟨1,false,rws eS n⟩),(10900,⟨2,false,rws db s.1⟩)]⟩) 2 (fun e=>(e.1,e.2.1,e.2.2.2)) (fun e=>[(39,B e.2.2.1)]):=by
 refine lrX (fun s o h=> ?_)
 obtain ⟨_,_,_⟩:=s
 simp only [fa] at h
 simp only [tz,ta]
 have d1:= @np
 have d2:= @Cq
 exact go2
def js (a:Int) (b:Setting) (m:dQ):Option (bJ×dQ):=
 (gk a 3 m).bind fun h=>
 (Loop (ff a (wrap .i64 (a-1)) b.Rate b.Queries b.Grind 0 0 0 h.1 0 0 0) (([]:List (List UInt8)),0,h.2.b)).bind fun i=>
 (fu 1 (dQ.mk i.2.2.2)).bind fun e=>
 (atL e.1 0).bind fun x=>
 (ip 4 e.2).bind fun d=>
 (vy d.1).bind fun c=>
 (Loop (fa i.1 a b.Queries b.Rate b.Queries b.Grind 0 0 0 h.1 x.A x.B c) (([]:List cx),0,d.2.b)).bind fun f=>
 some ((bJ.mk h.1 i.1 x c f.1),(dQ.mk f.2.2.2))
def E4 {a b m r} (h:js a b m=some r):Call tab ow 183 [.ptr 0 0 0 1,I a,.agg [I b.Rate,I b.Queries,I b.Grind]] [⟨1,true,[[sl eU8 m.b]]⟩]=some (.agg [sl (eL aG) r.1.Rounds,sl eS r.1.Roots,I r.1.Last.A,I r.1.Last.B,I r.1.Nonce,sl db r.1.Queries],[⟨1,true,[[sl eU8 r.2.b]]⟩]):=by
 rw [ak (af:=kn) rfl]
 unfold js at h
 simp only [kn,g9]
 have d1:= @wj
 have d2:= @Ch
 have d3:= @np
 have d4:= @sU
 have d5:= @Kj
 have d6:= @Cb
 exact go2
end
def y9 (b:List UInt8) (s:bD) (t:Setting):Option (jy×Bool):=
 (uv s t).bind fun m=>
 br ((b.length:Int) !=m) (
 some ((jy.mk (([]:List UInt8)) ([]:List (List Ext)) (Ext.mk 0 0) (Ext.mk 0 0) (Ext.mk 0 0) ([]:List (List Ext)) (Ext.mk 0 0) (bJ.mk ([]:List (List Ext)) ([]:List (List UInt8)) (Ext.mk 0 0) 0 ([]:List cx))),false)) (
 (iE (dQ.mk b)).bind fun e=>
 (gk s.Rows 4 e.2).bind fun d=>
 (fu 3 d.2).bind fun a=>
 (atL a.1 0).bind fun x=>
 (atL a.1 1).bind fun k=>
 (atL a.1 2).bind fun l=>
 (gk s.Cols 3 a.2).bind fun c=>
 (fu 1 c.2).bind fun f=>
 (atL f.1 0).bind fun j=>
 (js (wrap .i64 (s.Cols-1)) t f.2).bind fun h=>
 (ws (jy.mk e.1 d.1 x k l c.1 j h.1) s t).bind fun i=>
 some ((jy.mk e.1 d.1 x k l c.1 j h.1),i))
def Uz {b s t r} (h:y9 b s t=some r):Call tab ow 89 [sl eU8 b,.agg [I s.Rows,I s.Cols,I s.Publics,sl aV s.A,sl aV s.B,sl aV s.C],.agg [I t.Rate,I t.Queries,I t.Grind]] []=some (.tup [.agg [S r.1.Root,sl (eL aG) r.1.Gates,I r.1.VA.A,I r.1.VA.B,I r.1.VB.A,I r.1.VB.B,I r.1.VC.A,I r.1.VC.B,sl (eL aG) r.1.Wires,I r.1.VW.A,I r.1.VW.B,sl (eL aG) r.1.Open.Rounds,sl eS r.1.Open.Roots,I r.1.Open.Last.A,I r.1.Open.Last.B,I r.1.Open.Nonce,sl db r.1.Open.Queries],B r.2],[]):=by
 rw [ak (af:=xa) rfl]
 unfold y9 at h
 simp only [xa,IT]
 have d1:= @J0
 have d2:= @sS
 have d3:= @wj
 have d4:= @np
 have d5:= @E4
 have d6:= @Gm
 exact go2
def ol (e:List Ext) (i:Int) (t:List Ext) (u v k p o w r s q m n:Int):Int×Int×Int->Option ((Int×Int×Int)⊕((Int×Bool×Int×Int)))
 | (a,c,b)=>
   br (decide (a<k)) (
   br (a !=i) (
   (hS (Ext.mk p o) (Ext.mk a 0)).bind fun l=>
   (dt (Ext.mk c b) l).bind fun j=>
   (OB i a).bind fun f=>
   (wD f).bind fun h=>
   (iy j h).bind fun d=>
   some (.inl ((wrap .i64 (a+1)),d.A,d.B))) (
   some (.inl ((wrap .i64 (a+1)),c,b)))) (
   some (.inr (a,decide (a<k),c,b)))
def Xd {a i q l r n k p m d f c b j}:LXe tab ow (.close [11004,11005,11008,11009,11010]) KN (ol a i q l r n k p m d f c b j) (fun s=>⟨[(0,sl aG a),(3,.ptr 1000 0 0 1),(4,.ptr 1001 0 0 1),(5,.ptr 2001 0 0 1),(6,I i),(8,.ptr 6001 0 0 1),(11,sl aG q),(12,I l),(13,I r),(20,I n),(21,I s.1)],[(1000,⟨2,true,[[I k,I p]]⟩),(1001,⟨2,true,[[I m,I d]]⟩),(2001,⟨2,true,[[I f,I c]]⟩),(5003,⟨2,true,[[I b,I j]]⟩),(6001,⟨2,true,[[I s.2.1,I s.2.2]]⟩)]⟩) 2 (fun e=>(e.1,e.2.2.1,e.2.2.2)) (fun e=>[(22,B e.2.1)]):=by
 refine lrX (fun s o h=> ?_)
 obtain ⟨_,_,_⟩:=s
 simp only [ol] at h
 simp only [KN,Lz]
 have d1:= @kB
 have d2:= @fP
 have d3:= @VZ
 have d4:= @Ou
 have d5:= @nT
 exact go2
def oD (a t:List Ext) (h c l k m:Int):Int×Int×Int->Option ((Int×Int×Int)⊕((Int×Bool×Int×Int)))
 | (b,f,i)=>
   br (decide (b<h)) (
   (atL t b).bind fun e=>
   (Loop (ol a b t h b (a.length:Int) c l k m f i e.A e.B) (0,e.A,e.B)).bind fun j=>
   (fJ (Ext.mk f i) (Ext.mk j.2.2.1 j.2.2.2)).bind fun d=>
   some (.inl ((wrap .i64 (b+1)),d.A,d.B))) (
   some (.inr (b,decide (b<h),f,i)))
def WM {a t d c f b i}:LXe tab ow (.close [5003,6001,11004,11005,11008,11009,11010,13002]) Mj (oD a t d c f b i) (fun s=>⟨[(0,sl aG a),(3,.ptr 1000 0 0 1),(4,.ptr 1001 0 0 1),(5,.ptr 2001 0 0 1),(11,sl aG t),(12,I d),(13,I s.1)],[(1000,⟨2,true,[[I c,I f]]⟩),(1001,⟨2,true,[[I b,I i]]⟩),(2001,⟨2,true,[[I s.2.1,I s.2.2]]⟩)]⟩) 0 (fun e=>(e.1,e.2.2.1,e.2.2.2)) (fun e=>[(14,B e.2.1)]):=by
 refine lrX (fun s o h=> ?_)
 obtain ⟨_,_,_⟩:=s
 simp only [oD] at h
 simp only [Mj,LI]
 have d1:= @Xd
 have d2:= @gU
 exact go2
def Dd (a:List Ext) (x:Ext):Option Ext:=
 (Loop (oD a a (a.length:Int) x.A x.B 0 0) (0,0,0)).bind fun b=>
 some (Ext.mk b.2.2.1 b.2.2.2)
def Rg {a x r} (h:Dd a x=some r):Call tab ow 326 [sl aG a,.agg [I x.A,I x.B]] []=some (.agg [I r.A,I r.B],[]):=by
 rw [ak (af:=Eg) rfl]
 unfold Dd at h
 simp only [Eg,EF]
 have d1:= @WM
 exact go2
def Ni (a:Int):Option Unit:=
 some ()
def a1C {a r} (h:Ni a=some r):Call tab ow 298 [I a] []=some (.tup [],[]):=by
 rw [ak (af:=Ba) rfl]
 unfold Ni at h
 simp only [Ba,OJ]
 exact go2
section
attribute [local go_sem] fc
@[local go_sem] theorem xK:mkR 12005 []=rws aG []:=rfl
def bO (b:Int) (t:List (List Ext)) (o u v:Int):(List Ext)×Int×(List Ext)×Int×(List UInt8)×Int×Int×Int->Option (((List Ext)×Int×(List Ext)×Int×(List UInt8)×Int×Int×Int)⊕(((List Ext)×Int×(List Ext)×Int×(List UInt8)×Int×Int×Int)⊕((List Ext)×Int×Bool×(List Ext)×Int×(List UInt8)×Int×Int×Int)))
 | (l,d,c,i,h,j,f,m)=>
   br (decide (d<o)) (
   (atL t d).bind fun x=>
   (qE b).bind fun s=>
   br ((x.length:Int) !=(wrap .i64 (s+1))) (
   some (.inr (.inl (l,18,c,i,h,j,f,m)))) (
   (atL x 0).bind fun q=>
   (atL x 1).bind fun r=>
   (fJ q r).bind fun k=>
   br (k.A==f) (
   br (k.B==m) (
   (bM x (Source.mk c i h j)).bind fun n=>
   (il n).bind fun a=>
   (Dd x a.1).bind fun e=>
   br (bj ((l++([a.1]:List Ext)).length) 16) (
   (Ni d).bind fun p=>
   some (.inl ((l++([a.1]:List Ext)),(wrap .i64 (d+1)),a.2.Script,a.2.At,a.2.State,a.2.Count,e.A,e.B))) none) (
   some (.inr (.inl (l,10,c,i,h,j,f,m))))) (
   some (.inr (.inl (l,10,c,i,h,j,f,m)))))) (
   some (.inr (.inr (l,d,decide (d<o),c,i,h,j,f,m))))
abbrev jc (a e:Int) (l c:List Ext) (f:Int) (d:List UInt8) (i b h:Int):List (Nat×Blk):=[(0,⟨4,true,[[sl aG c,I f,S d,I i]]⟩),(1000,⟨2,true,[[I b,I h]]⟩),(1002,⟨2,true,[[I a,I e]]⟩),(2000,⟨2,false,rws aG l⟩)]
def wL {a t c b d}:LX tab ow (.close [6003,8006,10002,11001,11002,12002,12005,12006,13002]) kz (bO a t c b d) (fun s=>⟨[(0,.ptr 0 0 0 1),(1,I a),(4,.fn 298 []),(7,.ptr 1000 0 0 1),(11,.ptr 1002 0 0 1),(13,.sl 2000 0 s.1.length),(18,sl (eL aG) t),(19,I c),(20,I s.2.1)],jc b d s.1 s.2.2.1 s.2.2.2.1 s.2.2.2.2.1 s.2.2.2.2.2.1 s.2.2.2.2.2.2.1 s.2.2.2.2.2.2.2⟩) (alt (fun e=>((.ret,⟨[(10,.lit (.slice none 0 0)),(11,.ptr 1002 0 0 1),(12,I e.2.1)],[(0,⟨4,true,[[sl aG e.2.2.1,I e.2.2.2.1,S e.2.2.2.2.1,I e.2.2.2.2.2.1]]⟩),(1000,⟨2,true,[[I e.2.2.2.2.2.2.1,I e.2.2.2.2.2.2.2]]⟩),(1002,⟨2,true,[[I 0,I 0]]⟩),(2000,⟨2,false,rws aG e.1⟩)]⟩):dd×St)) (fun e=>(.exit 0,⟨[(0,.ptr 0 0 0 1),(1,I a),(4,.fn 298 []),(7,.ptr 1000 0 0 1),(11,.ptr 1002 0 0 1),(13,.sl 2000 0 e.1.length),(18,sl (eL aG) t),(19,I c),(20,I e.2.1),(21,B e.2.2.1)],jc b d e.1 e.2.2.2.1 e.2.2.2.2.1 e.2.2.2.2.2.1 e.2.2.2.2.2.2.1 e.2.2.2.2.2.2.2.1 e.2.2.2.2.2.2.2.2⟩))):=by
 refine lrX (fun s o h=> ?_)
 obtain ⟨_,_,_,_,_,_,_,_⟩:=s
 simp only [bO] at h
 simp only [jc,kz,oE]
 have d1:= @Dx
 have d2:= @gU
 have d3:= @dy
 have d4:= @pa
 have d5:= @Rg
 have d6:= @a1C
 exact go2
def cZ (e:Int) (c:Ext) (b:(List (List Ext))) (m:Source):Option ((List Ext)×Ext×Int×Source):=
 (Loop (bO e b (b.length:Int) 0 0) (([]:List Ext),0,m.Script,m.At,m.State,m.Count,c.A,c.B)).bind (alt (fun d=>
 some (([]:List Ext),(Ext.mk 0 0),d.2.1,(Source.mk d.2.2.1 d.2.2.2.1 d.2.2.2.2.1 d.2.2.2.2.2.1))) (fun a=>
 some (a.1,(Ext.mk a.2.2.2.2.2.2.2.1 a.2.2.2.2.2.2.2.2),0,(Source.mk a.2.2.2.1 a.2.2.2.2.1 a.2.2.2.2.2.1 a.2.2.2.2.2.2.1))))
def yw {c a b m r} (h:cZ c a b m=some r):Call tab ow 219 [.ptr 0 0 0 1,I c,.agg [I a.A,I a.B],sl (eL aG) b,.fn 298 []] [⟨4,true,[[sl aG m.Script,I m.At,S m.State,I m.Count]]⟩]=some (.tup [sl aG r.1,.agg [I r.2.1.A,I r.2.1.B],I r.2.2.1],[⟨4,true,[[sl aG r.2.2.2.Script,I r.2.2.2.At,S r.2.2.2.State,I r.2.2.2.Count]]⟩]):=by
 rw [ak (af:=hO) rfl]
 unfold cZ at h
 simp only [hO,mE]
 have d1:= @wL
 exact go2
end
def ub (m t:List Ext) (n c r:Int):Int×Int×Int->Option ((Int×Int×Int)⊕((Int×Bool×Int×Int)))
 | (a,l,o)=>
   br (decide (a<n)) (
   (atL t a).bind fun x=>
   (atL m a).bind fun p=>
   (dt x p).bind fun k=>
   (Oe).bind fun i=>
   (hS i x).bind fun h=>
   (Oe).bind fun d=>
   (atL m a).bind fun q=>
   (hS d q).bind fun e=>
   (dt h e).bind fun j=>
   (fJ k j).bind fun f=>
   (dt (Ext.mk l o) f).bind fun b=>
   some (.inl ((wrap .i64 (a+1)),b.A,b.B))) (
   some (.inr (a,decide (a<n),l,o)))
def a40 {b t d c a}:LXe tab ow (.close [5003,6006,6007,6009,6010,6015,6016,6017,6018]) SD (ub b t d c a) (fun s=>⟨[(1,sl aG b),(4,.ptr 1000 0 0 1),(5,.ptr 2001 0 0 1),(9,sl aG t),(10,I d),(11,I s.1)],[(1000,⟨2,true,[[I c,I a]]⟩),(2001,⟨2,true,[[I s.2.1,I s.2.2]]⟩)]⟩) 0 (fun e=>(e.1,e.2.2.1,e.2.2.2)) (fun e=>[(12,B e.2.1)]):=by
 refine lrX (fun s o h=> ?_)
 obtain ⟨_,_,_⟩:=s
 simp only [ub] at h
 simp only [SD,QY]
 have d1:= @fP
 have d2:= @PC
 have d3:= @kB
 have d4:= @gU
 exact go2
def Jy (a b:List Ext):Option Ext:=
 (Oe).bind fun d=>
 (Loop (ub b a (a.length:Int) 0 0) (0,d.A,d.B)).bind fun c=>
 some (Ext.mk c.2.2.1 c.2.2.2)
def Zy {a b r} (h:Jy a b=some r):Call tab ow 222 [sl aG a,sl aG b] []=some (.agg [I r.A,I r.B],[]):=by
 rw [ak (af:=L6) rfl]
 unfold Jy at h
 simp only [L6,Sd]
 have d1:= @PC
 have d2:= @a40
 exact go2
def A2 (s:bD) (a:List Int) (b:List Ext):Option Ext:=
 (jP s a ([]:List Int)).bind fun h=>
 (fh s).bind fun f=>
 (rF h 0 f).bind fun y=>
 (AU y).bind fun e=>
 (mg b).bind fun d=>
 (GF e d).bind fun c=>
 some c
def XQ {s a b r} (h:A2 s a b=some r):Call tab ow 301 [.agg [I s.Rows,I s.Cols,I s.Publics,sl aV s.A,sl aV s.B,sl aV s.C],sl eI a,sl aG b] []=some (.agg [I r.A,I r.B],[]):=by
 rw [ak (af:=zy) rfl]
 unfold A2 at h
 simp only [zy,Ls]
 have d1:= @Bi
 have d2:= @mb
 have d3:= @CK
 have d4:= @uI
 have d5:= @VR
 exact go2
def nX (k m:Int) (a:bJ) (b:Source):Option (Int×bJ×Source):=
 br (decide (k<(wrap .i64 (m-1)))) (
 (atL a.Roots k).bind fun x=>
 br (bj x.length 1) (
 (dI x b).bind fun c=>
 some (m,a,c)) none) (
 some (m,a,b))
def JF {k m a b r} (h:nX k m a b=some r):Call tab ow 220 [I k,.ptr 0 0 0 1,.ptr 1 0 0 1,.ptr 2 0 0 1] [⟨1,true,[[I m]]⟩,⟨1,true,[[.ptr 3 0 0 1]]⟩,⟨6,true,[[sl (eL aG) a.Rounds,sl eS a.Roots,I a.Last.A,I a.Last.B,I a.Nonce,sl db a.Queries]]⟩,⟨4,true,[[sl aG b.Script,I b.At,S b.State,I b.Count]]⟩]=some (.tup [],[⟨1,true,[[I r.1]]⟩,⟨1,true,[[.ptr 3 0 0 1]]⟩,⟨6,true,[[sl (eL aG) r.2.1.Rounds,sl eS r.2.1.Roots,I r.2.1.Last.A,I r.2.1.Last.B,I r.2.1.Nonce,sl db r.2.1.Queries]]⟩,⟨4,true,[[sl aG r.2.2.Script,I r.2.2.At,S r.2.2.State,I r.2.2.Count]]⟩]):=by
 rw [ak (af:=oN) rfl]
 unfold nX at h
 simp only [oN,AS]
 have d1:= @gu
 exact go2
section
attribute [local go_sem] fc xK
def bm (i:Int) (t:List (List Ext)) (y c14 c15:Int):(List Ext)×Int×(List Ext)×Int×(List UInt8)×Int×Int×(List (List Ext))×(List (List UInt8))×Int×Int×Int×(List cx)×Int×Int->Option (((List Ext)×Int×(List Ext)×Int×(List UInt8)×Int×Int×(List (List Ext))×(List (List UInt8))×Int×Int×Int×(List cx)×Int×Int)⊕(((List Ext)×Int×(List Ext)×Int×(List UInt8)×Int×Int×(List (List Ext))×(List (List UInt8))×Int×Int×Int×(List cx)×Int×Int)⊕((List Ext)×Int×Bool×(List Ext)×Int×(List UInt8)×Int×Int×(List (List Ext))×(List (List UInt8))×Int×Int×Int×(List cx)×Int×Int)))
 | (l,j,c,k,p,m,o,q,u,s,r,e,f,d,b)=>
   br (decide (j<y)) (
   (atL t j).bind fun x=>
   (qE i).bind fun z=>
   br ((x.length:Int) !=(wrap .i64 (z+1))) (
   some (.inr (.inl (l,18,c,k,p,m,o,q,u,s,r,e,f,d,b)))) (
   (atL x 0).bind fun x2=>
   (atL x 1).bind fun x3=>
   (fJ x2 x3).bind fun v=>
   br (v.A==d) (
   br (v.B==b) (
   (bM x (Source.mk c k p m)).bind fun w=>
   (il w).bind fun h=>
   (Dd x h.1).bind fun n=>
   br (bj ((l++([h.1]:List Ext)).length) 16) (
   (nX j o (bJ.mk q u (Ext.mk s r) e f) h.2).bind fun a=>
   some (.inl ((l++([h.1]:List Ext)),(wrap .i64 (j+1)),a.2.2.Script,a.2.2.At,a.2.2.State,a.2.2.Count,a.1,a.2.1.Rounds,a.2.1.Roots,a.2.1.Last.A,a.2.1.Last.B,a.2.1.Nonce,a.2.1.Queries,n.A,n.B))) none) (
   some (.inr (.inl (l,10,c,k,p,m,o,q,u,s,r,e,f,d,b))))) (
   some (.inr (.inl (l,10,c,k,p,m,o,q,u,s,r,e,f,d,b)))))) (
   some (.inr (.inr (l,j,decide (j<y),c,k,p,m,o,q,u,s,r,e,f,d,b))))
abbrev fS (f h:Int) (l c:List Ext) (o:Int) (m:List UInt8) (q j:Int) (p:List (List Ext)) (i:List (List UInt8)) (n k d:Int) (e:List cx) (b a:Int):List (Nat×Blk):=[(0,⟨4,true,[[sl aG c,I o,S m,I q]]⟩),(1,⟨1,true,[[I j]]⟩),(2,⟨1,true,[[.ptr 0 0 0 1]]⟩),(3,⟨6,true,[[sl (eL aG) p,sl eS i,I n,I k,I d,sl db e]]⟩),(1000,⟨2,true,[[I b,I a]]⟩),(1002,⟨2,true,[[I f,I h]]⟩),(2000,⟨2,false,rws aG l⟩)]
def sa {a t d b c}:LX tab ow (.close [6003,8006,10002,11001,11002,12002,12005,12006,13002]) kz (bm a t d b c) (fun s=>⟨[(0,.ptr 0 0 0 1),(1,I a),(4,.fn 220 [.ptr 1 0 0 1,.ptr 2 0 0 1,.ptr 3 0 0 1]),(7,.ptr 1000 0 0 1),(11,.ptr 1002 0 0 1),(13,.sl 2000 0 s.1.length),(18,sl (eL aG) t),(19,I d),(20,I s.2.1)],fS b c s.1 s.2.2.1 s.2.2.2.1 s.2.2.2.2.1 s.2.2.2.2.2.1 s.2.2.2.2.2.2.1 s.2.2.2.2.2.2.2.1 s.2.2.2.2.2.2.2.2.1 s.2.2.2.2.2.2.2.2.2.1 s.2.2.2.2.2.2.2.2.2.2.1 s.2.2.2.2.2.2.2.2.2.2.2.1 s.2.2.2.2.2.2.2.2.2.2.2.2.1 s.2.2.2.2.2.2.2.2.2.2.2.2.2.1 s.2.2.2.2.2.2.2.2.2.2.2.2.2.2⟩) (alt (fun e=>((.ret,⟨[(10,.lit (.slice none 0 0)),(11,.ptr 1002 0 0 1),(12,I e.2.1)],[(0,⟨4,true,[[sl aG e.2.2.1,I e.2.2.2.1,S e.2.2.2.2.1,I e.2.2.2.2.2.1]]⟩),(1,⟨1,true,[[I e.2.2.2.2.2.2.1]]⟩),(2,⟨1,true,[[.ptr 0 0 0 1]]⟩),(3,⟨6,true,[[sl (eL aG) e.2.2.2.2.2.2.2.1,sl eS e.2.2.2.2.2.2.2.2.1,I e.2.2.2.2.2.2.2.2.2.1,I e.2.2.2.2.2.2.2.2.2.2.1,I e.2.2.2.2.2.2.2.2.2.2.2.1,sl db e.2.2.2.2.2.2.2.2.2.2.2.2.1]]⟩),(1000,⟨2,true,[[I e.2.2.2.2.2.2.2.2.2.2.2.2.2.1,I e.2.2.2.2.2.2.2.2.2.2.2.2.2.2]]⟩),(1002,⟨2,true,[[I 0,I 0]]⟩),(2000,⟨2,false,rws aG e.1⟩)]⟩):dd×St)) (fun e=>(.exit 0,⟨[(0,.ptr 0 0 0 1),(1,I a),(4,.fn 220 [.ptr 1 0 0 1,.ptr 2 0 0 1,.ptr 3 0 0 1]),(7,.ptr 1000 0 0 1),(11,.ptr 1002 0 0 1),(13,.sl 2000 0 e.1.length),(18,sl (eL aG) t),(19,I d),(20,I e.2.1),(21,B e.2.2.1)],fS b c e.1 e.2.2.2.1 e.2.2.2.2.1 e.2.2.2.2.2.1 e.2.2.2.2.2.2.1 e.2.2.2.2.2.2.2.1 e.2.2.2.2.2.2.2.2.1 e.2.2.2.2.2.2.2.2.2.1 e.2.2.2.2.2.2.2.2.2.2.1 e.2.2.2.2.2.2.2.2.2.2.2.1 e.2.2.2.2.2.2.2.2.2.2.2.2.1 e.2.2.2.2.2.2.2.2.2.2.2.2.2.1 e.2.2.2.2.2.2.2.2.2.2.2.2.2.2.1 e.2.2.2.2.2.2.2.2.2.2.2.2.2.2.2⟩))):=by
 refine lrX (fun s o h=> ?_)
 obtain ⟨_,_,_,_,_,_,_,_,_,_,_,_,_,_,_⟩:=s
 simp only [bm] at h
 simp only [fS,kz,oE]
 have d1:= @Dx
 have d2:= @gU
 have d3:= @dy
 have d4:= @pa
 have d5:= @Rg
 have d6:= @JF
 exact go2
def eZ (f:Int) (d:Ext) (c:(List (List Ext))) (m:Source) (h:Int) (e:bJ):Option ((List Ext)×Ext×Int×Source×Int×bJ):=
 (Loop (bm f c (c.length:Int) 0 0) (([]:List Ext),0,m.Script,m.At,m.State,m.Count,h,e.Rounds,e.Roots,e.Last.A,e.Last.B,e.Nonce,e.Queries,d.A,d.B)).bind (alt (fun b=>
 some (([]:List Ext),(Ext.mk 0 0),b.2.1,(Source.mk b.2.2.1 b.2.2.2.1 b.2.2.2.2.1 b.2.2.2.2.2.1),b.2.2.2.2.2.2.1,(bJ.mk b.2.2.2.2.2.2.2.1 b.2.2.2.2.2.2.2.2.1 (Ext.mk b.2.2.2.2.2.2.2.2.2.1 b.2.2.2.2.2.2.2.2.2.2.1) b.2.2.2.2.2.2.2.2.2.2.2.1 b.2.2.2.2.2.2.2.2.2.2.2.2.1))) (fun a=>
 some (a.1,(Ext.mk a.2.2.2.2.2.2.2.2.2.2.2.2.2.2.1 a.2.2.2.2.2.2.2.2.2.2.2.2.2.2.2),0,(Source.mk a.2.2.2.1 a.2.2.2.2.1 a.2.2.2.2.2.1 a.2.2.2.2.2.2.1),a.2.2.2.2.2.2.2.1,(bJ.mk a.2.2.2.2.2.2.2.2.1 a.2.2.2.2.2.2.2.2.2.1 (Ext.mk a.2.2.2.2.2.2.2.2.2.2.1 a.2.2.2.2.2.2.2.2.2.2.2.1) a.2.2.2.2.2.2.2.2.2.2.2.2.1 a.2.2.2.2.2.2.2.2.2.2.2.2.2.1))))
def tm {c a b m e d r} (h:eZ c a b m e d=some r):Call tab ow 219 [.ptr 0 0 0 1,I c,.agg [I a.A,I a.B],sl (eL aG) b,.fn 220 [.ptr 1 0 0 1,.ptr 2 0 0 1,.ptr 3 0 0 1]] [⟨4,true,[[sl aG m.Script,I m.At,S m.State,I m.Count]]⟩,⟨1,true,[[I e]]⟩,⟨1,true,[[.ptr 0 0 0 1]]⟩,⟨6,true,[[sl (eL aG) d.Rounds,sl eS d.Roots,I d.Last.A,I d.Last.B,I d.Nonce,sl db d.Queries]]⟩]=some (.tup [sl aG r.1,.agg [I r.2.1.A,I r.2.1.B],I r.2.2.1],[⟨4,true,[[sl aG r.2.2.2.1.Script,I r.2.2.2.1.At,S r.2.2.2.1.State,I r.2.2.2.1.Count]]⟩,⟨1,true,[[I r.2.2.2.2.1]]⟩,⟨1,true,[[.ptr 0 0 0 1]]⟩,⟨6,true,[[sl (eL aG) r.2.2.2.2.2.Rounds,sl eS r.2.2.2.2.2.Roots,I r.2.2.2.2.2.Last.A,I r.2.2.2.2.2.Last.B,I r.2.2.2.2.2.Nonce,sl db r.2.2.2.2.2.Queries]]⟩]):=by
 rw [ak (af:=hO) rfl]
 unfold eZ at h
 simp only [hO,mE]
 have d1:= @sa
 exact go2
end
def CY (a:List UInt8):Option Bool:=
 (xI a).bind fun b=>
 some (!b)
def Z4 {a r} (h:CY a=some r):Call tab ow 370 [S a] []=some (B r,[]):=by
 rw [ak (af:=BK) rfl]
 unfold CY at h
 simp only [BK,OS]
 have d1:= @Ew
 exact go2
end
end Go.AI.Fn
set_option linter.unusedVariables false
set_option linter.unusedSimpArgs false
set_option maxRecDepth 100000
set_option maxHeartbeats 1000000
namespace Go.AI.Fn
noncomputable section
open IntKind (wrap)
def dl (b:List (List UInt8)) (t:Int):Int->Option ((Int)⊕(Int⊕(Int×Bool)))
 |a=>
  br (decide (a<t)) (
  (atL b a).bind fun x=>
  (CY x).bind fun c=>
  br c (
  some (.inr (.inl a))) (
  some (.inl (wrap .i64 (a+1))))) (
  some (.inr (.inr (a,decide (a<t)))))
def o2 {a t}:LX tab ow (.close [5005]) eG (dl a t) (fun s=>⟨[(0,sl eS a),(1,.fn 370 []),(7,I t),(8,I s)],[]⟩) (alt (fun e=>((.ret,⟨[(4,I e)],[]⟩):dd×St)) (fun e=>(.exit 0,⟨[(0,sl eS a),(1,.fn 370 []),(7,I t),(8,I e.1),(9,B e.2)],[]⟩))):=by
 refine lrX (fun s o h=> ?_)
 simp only [dl] at h
 simp only [eG,gH]
 have d1:= @Z4
 exact go2
def dF (s:(List (List UInt8))):Option Int:=
 (Loop (dl s (s.length:Int)) 0).bind (alt (fun a=>
 some a) (fun b=>
 some (-1:Int)))
def p6 {s r} (h:dF s=some r):Call tab ow 333 [sl eS s,.fn 370 []] []=some (I r,[]):=by
 rw [ak (af:=cY) rfl]
 unfold dF at h
 simp only [cY,eY]
 have d1:= @o2
 exact go2
def cD (s:(List (List UInt8))):Option Bool:=
 (dF s).bind fun a=>
 some (decide (a>=0))
def nM {s r} (h:cD s=some r):Call tab ow 238 [sl eS s,.fn 370 []] []=some (B r,[]):=by
 rw [ak (af:=cI) rfl]
 unfold cD at h
 simp only [cI,gn]
 have d1:= @p6
 exact go2
section
@[local go_sem] theorem c3a:mkR 2002 []=rws eS []:=rfl
@[local go_sem] theorem c2h:mkR 9004 []=rws eS []:=rfl
def rB (h:Int) (t:List (List UInt8)) (e:Int):(List (List UInt8))×Int->Option (((List (List UInt8))×Int)⊕(((List (List UInt8))×Int×Bool)))
 | (l,a)=>
   br (decide (a<e)) (
   (atL t a).bind fun x=>
   br (decide (0<=a)) (
   br (decide (a.toNat<l.length)) (
   (l[a.toNat]?).bind fun f=>
   (uT f).bind fun d=>
   br (decide (0<=a)) (
   br ((dc .i64 (cc .i64 h a) 1)==1) (
   (ua x d).bind fun c=>
   br (bj ((l++([c]:List (List UInt8))).length) 16) (
   some (.inl ((l++([c]:List (List UInt8))),(wrap .i64 (a+1))))) none) (
   (ua d x).bind fun b=>
   br (bj ((l++([b]:List (List UInt8))).length) 16) (
   some (.inl ((l++([b]:List (List UInt8))),(wrap .i64 (a+1))))) none)) none) none) none) (
   some (.inr (l,a,decide (a<e))))
def ZW {a t b}:LXe tab ow (.close [6004,9003,9004,9005]) OU (rB a t b) (fun s=>⟨[(0,I a),(7,.sl 2002 0 s.1.length),(14,sl eS t),(15,I b),(16,I s.2)],[(2002,⟨1,false,rws eS s.1⟩)]⟩) 0 (fun e=>(e.1,e.2.1)) (fun e=>[(17,B e.2.2)]):=by
 refine lrX (fun s o h=> ?_)
 obtain ⟨_,_⟩:=s
 simp only [rB] at h
 simp only [OU,OF]
 have d1:= @A7
 have d2:= @KV
 exact go2
def KR (i:Int) (b:List UInt8) (a:(List (List UInt8))):Option ((List (List UInt8))):=
 (wE b).bind fun d=>
 (Loop (rB i a (a.length:Int)) (([d]:List (List UInt8)),0)).bind fun c=>
 some c.1
def a7W {i b a r} (h:KR i b a=some r):Call tab ow 371 [I i,S b,sl eS a] []=some (sl eS r,[]):=by
 rw [ak (af:=Hn) rfl]
 unfold KR at h
 simp only [Hn,NC]
 have d1:= @M9
 have d2:= @ZW
 exact go2
end
def HF (d:List UInt8) (n i:Int) (b:List UInt8) (a:(List (List UInt8))):Option Bool:=
 br (decide ((b.length:Int)>64)) (
 some false) (
 (Hz n).bind fun h=>
 br ((a.length:Int) !=h) (
 some false) (
 (cD a).bind fun f=>
 br f (
 some false) (
 (KR i b a).bind fun c=>
 (atL c (wrap .i64 ((c.length:Int)-1))).bind fun x=>
 (uT x).bind fun e=>
 some (e==d))))
def a9g {b n i c a r} (h:HF b n i c a=some r):Call tab ow 327 [S b,I n,I i,S c,sl eS a] []=some (B r,[]):=by
 rw [ak (af:=Hp) rfl]
 unfold HF at h
 simp only [Hp,V0]
 have d1:= @MY
 have d2:= @nM
 have d3:= @a7W
 have d4:= @A7
 exact go2
section
attribute [local go_sem] p9
def g7 (t:List Ext) (f:Int) (u:List (List UInt8)) (o:Int) (c:List (List Ext)) (c2:List (List UInt8)) (c3 c4 c5:Int) (c6:List cx) (p:List Ext) (w:List (List (List UInt8))):Int×Int×Int×Int->Option ((Int×Int×Int×Int)⊕((Int×Int×Int×Int×Int×Int)⊕(Int×Int×Int×Int×Int×Int×Int×Int)⊕(Int×Int×Bool×Int×Int)))
 | (h,a,i,e)=>
   br (decide (a<o)) (
   (atL u a).bind fun x=>
   br (decide (0<=a)) (
   br (decide ((wrap .i64 ((cc .i64 f a).tdiv 2))≠0)) (
   (atL p (wrap .i64 (2*a))).bind fun b=>
   (atL p (wrap .i64 ((wrap .i64 (2*a))+1))).bind fun d=>
   (iz ([b,d]:List Ext)).bind fun s=>
   (atL w a).bind fun q=>
   (HF x (wrap .i64 ((cc .i64 f a).tdiv 2)) (h.tmod (wrap .i64 ((cc .i64 f a).tdiv 2))) s q).bind fun n=>
   br (!n) (
   some (.inr (.inl (i,e,b.A,b.B,d.A,d.B)))) (
   br (decide (h>=(wrap .i64 ((cc .i64 f a).tdiv 2)))) (
   br (decide (a>0)) (
   br (d.A==i) (
   br (d.B==e) (
   (atL t a).bind fun v=>
   (oO (cc .i64 f a) (h.tmod (wrap .i64 ((cc .i64 f a).tdiv 2))) b d v).bind fun j=>
   some (.inl ((h.tmod (wrap .i64 ((cc .i64 f a).tdiv 2))),(wrap .i64 (a+1)),j.A,j.B))) (
   some (.inr (.inr (.inl (i,e,b.A,b.B,d.A,d.B,d.A,d.B)))))) (
   some (.inr (.inr (.inl (i,e,b.A,b.B,d.A,d.B,d.A,d.B)))))) (
   (atL t a).bind fun y=>
   (oO (cc .i64 f a) (h.tmod (wrap .i64 ((cc .i64 f a).tdiv 2))) b d y).bind fun m=>
   some (.inl ((h.tmod (wrap .i64 ((cc .i64 f a).tdiv 2))),(wrap .i64 (a+1)),m.A,m.B)))) (
   br (decide (a>0)) (
   br (b.A==i) (
   br (b.B==e) (
   (atL t a).bind fun z=>
   (oO (cc .i64 f a) (h.tmod (wrap .i64 ((cc .i64 f a).tdiv 2))) b d z).bind fun k=>
   some (.inl ((h.tmod (wrap .i64 ((cc .i64 f a).tdiv 2))),(wrap .i64 (a+1)),k.A,k.B))) (
   some (.inr (.inr (.inl (i,e,b.A,b.B,d.A,d.B,b.A,b.B)))))) (
   some (.inr (.inr (.inl (i,e,b.A,b.B,d.A,d.B,b.A,b.B)))))) (
   (atL t a).bind fun r=>
   (oO (cc .i64 f a) (h.tmod (wrap .i64 ((cc .i64 f a).tdiv 2))) b d r).bind fun l=>
   some (.inl ((h.tmod (wrap .i64 ((cc .i64 f a).tdiv 2))),(wrap .i64 (a+1)),l.A,l.B)))))) none) none) (
   some (.inr (.inr (.inr (h,a,decide (a<o),i,e)))))
abbrev wI (c:List (List Ext)) (i:List (List UInt8)) (f k d:Int) (j:List cx) (b:List Ext) (h:List (List (List UInt8))) (e a:Int):List (Nat×Blk):=[(1000,⟨6,true,[[sl (eL aG) c,sl eS i,I f,I k,I d,sl db j]]⟩),(1001,⟨2,true,[[sl aG b,sl (eL eS) h]]⟩),(2001,⟨2,true,[[I e,I a]]⟩)]
def ME {t m n l c i d k b j a f}:LX tab ow (.close [7017,7018,8006,8007,8014,10001,15008]) Dp (g7 t m n l c i d k b j a f) (fun s=>⟨[(1,sl aG t),(2,I m),(3,I s.1),(10,.ptr 1000 0 0 1),(11,.ptr 1001 0 0 1),(13,.ptr 2001 0 0 1),(22,sl eS n),(23,I l),(24,I s.2.1)],wI c i d k b j a f s.2.2.1 s.2.2.2⟩) (alt (fun e=>((.ret,⟨[(12,I 9)],[(1000,⟨6,true,[[sl (eL aG) c,sl eS i,I d,I k,I b,sl db j]]⟩),(1001,⟨2,true,[[sl aG a,sl (eL eS) f]]⟩),(2001,⟨2,true,[[I e.1,I e.2.1]]⟩),(7017,⟨2,true,[[I e.2.2.1,I e.2.2.2.1]]⟩),(7018,⟨2,true,[[I e.2.2.2.2.1,I e.2.2.2.2.2]]⟩),(8006,kj)]⟩):dd×St)) (alt (fun e=>((.ret,⟨[(12,I 12)],[(1000,⟨6,true,[[sl (eL aG) c,sl eS i,I d,I k,I b,sl db j]]⟩),(1001,⟨2,true,[[sl aG a,sl (eL eS) f]]⟩),(2001,⟨2,true,[[I e.1,I e.2.1]]⟩),(7017,⟨2,true,[[I e.2.2.1,I e.2.2.2.1]]⟩),(7018,⟨2,true,[[I e.2.2.2.2.1,I e.2.2.2.2.2.1]]⟩),(8006,kj),(10001,⟨2,true,[[I e.2.2.2.2.2.2.1,I e.2.2.2.2.2.2.2]]⟩)]⟩):dd×St)) (fun e=>(.exit 0,⟨[(1,sl aG t),(2,I m),(3,I e.1),(10,.ptr 1000 0 0 1),(11,.ptr 1001 0 0 1),(13,.ptr 2001 0 0 1),(22,sl eS n),(23,I l),(24,I e.2.1),(25,B e.2.2.1)],wI c i d k b j a f e.2.2.2.1 e.2.2.2.2⟩)))):=by
 refine lrX (fun s o h=> ?_)
 obtain ⟨_,_,_,_⟩:=s
 simp only [g7] at h
 simp only [wI,Dp,CQ]
 have d1:= @kw
 have d2:= @a9g
 have d3:= @Lq
 exact go2
def zu (b:(List (List UInt8))) (a:List Ext) (j h:Int) (c:bJ) (e:cx):Option Int:=
 (Loop (g7 a j b (b.length:Int) c.Rounds c.Roots c.Last.A c.Last.B c.Nonce c.Queries e.Pairs e.Paths) (h,0,0,0)).bind (alt (fun i=>
 some 9) (alt (fun f=>
 some 12) (fun d=>
 br (d.2.2.2.1==c.Last.A) (
 br (d.2.2.2.2==c.Last.B) (
 some 0) (
 some 13)) (
 some 13))))
def Rc {b a f e c d r} (h:zu b a f e c d=some r):Call tab ow 228 [sl eS b,sl aG a,I f,I e,.agg [sl (eL aG) c.Rounds,sl eS c.Roots,I c.Last.A,I c.Last.B,I c.Nonce,sl db c.Queries],.agg [sl aG d.Pairs,sl (eL eS) d.Paths]] []=some (I r,[]):=by
 rw [ak (af:=vm) rfl]
 unfold zu at h
 simp only [vm,AO]
 have d1:= @ME
 exact go2
end
section
@[local go_sem] theorem a5f:mkR 8003 []=rws aG []:=rfl
@[local go_sem] theorem a5Y:mkR 12006 []=rws eS []:=rfl
def fG (l:List (List UInt8)) (t:List Ext) (q:Int) (n:List Int) (k:Int) (c:List Ext) (s:Int) (w:List UInt8) (u v y c7 c8 z:Int) (i:List (List Ext)) (j:List (List UInt8)) (h e f:Int) (d:List cx) (m p r:Int):Int->Option ((Int)⊕(Int⊕(Int×Bool)))
 |b=>
  br (decide (b<k)) (
  (atL n b).bind fun x=>
  (atL d b).bind fun o=>
  (zu l t q x (bJ.mk i j (Ext.mk h e) f d) o).bind fun a=>
  br (a !=0) (
  some (.inr (.inl a))) (
  some (.inl (wrap .i64 (b+1))))) (
  some (.inr (.inr (b,decide (b<k)))))
abbrev oq (l:List (List UInt8)) (c:List Ext) (r:Int) (p:List UInt8) (t n s m q o:Int) (f:List (List Ext)) (h:List (List UInt8)) (e d i:Int) (j:List cx) (a b k:Int):List (Nat×Blk):=[(0,⟨4,true,[[sl aG c,I r,S p,I t]]⟩),(1000,⟨1,true,[[.ptr 0 0 0 1]]⟩),(1001,⟨2,true,[[I n,I s]]⟩),(1002,⟨3,true,[[I m,I q,I o]]⟩),(1003,⟨6,true,[[sl (eL aG) f,sl eS h,I e,I d,I i,sl db j]]⟩),(2002,⟨1,true,[[I a]]⟩),(3010,⟨2,true,[[I b,I k]]⟩),(8003,kj),(12006,⟨1,false,rws eS l⟩)]
def JN {l t t2 t3 z c p u q r v y x w k m j b i f a d n}:LX tab ow (.close [16010]) yU (fG l t t2 t3 z c p u q r v y x w k m j b i f a d n) (fun s=>⟨[(11,.ptr 1003 0 0 1),(14,sl aG t),(17,I t2),(18,.sl 12006 0 l.length),(82,sl eI t3),(83,I z),(84,I s)],oq l c p u q r v y x w k m j b i f a d n⟩) (alt (fun e=>((.ret,⟨[(12,I e)],oq l c p u q r v y x w k m j b i f a d n⟩):dd×St)) (fun e=>(.exit 1,⟨[(11,.ptr 1003 0 0 1),(14,sl aG t),(17,I t2),(18,.sl 12006 0 l.length),(82,sl eI t3),(83,I z),(84,I e.1),(85,B e.2)],oq l c p u q r v y x w k m j b i f a d n⟩))):=by
 refine lrX (fun s o h=> ?_)
 simp only [fG] at h
 simp only [oq,yU,yN]
 have d1:= @Rc
 exact go2
def rH (a:List UInt8) (q:List Ext) (k:Ext) (d:Setting) (p:bJ) (m:Source):Option (Int×Source):=
 (eZ 1 k p.Rounds m (q.length:Int) p).bind fun b=>
 br (b.2.2.1 !=0) (
 some (b.2.2.1,b.2.2.2.1)) (
 (Jy b.1 q).bind fun n=>
 (dt b.2.2.2.2.2.Last n).bind fun h=>
 br (h.A==b.2.1.A) (
 br (h.B==b.2.1.B) (
 (bM ([b.2.2.2.2.2.Last]:List Ext) b.2.2.2.1).bind fun e=>
 (pq e d.Grind b.2.2.2.2.2.Nonce).bind fun i=>
 br (!i) (
 some (14,e)) (
 (DP b.2.2.2.2.2.Nonce).bind fun j=>
 (dI j e).bind fun o=>
 br (decide (0<=(wrap .i64 (b.2.2.2.2.1+d.Rate)))) (
 br (bj ((([a]:List (List UInt8))++b.2.2.2.2.2.Roots).length) 16) (
 (gI d.Queries o).bind fun c=>
 (Dk c.1 (wrap .i64 ((ct .i64 1 (wrap .i64 (b.2.2.2.2.1+d.Rate))).tdiv 2))).bind fun f=>
 (Loop (fG (([a]:List (List UInt8))++b.2.2.2.2.2.Roots) b.1 (ct .i64 1 (wrap .i64 (b.2.2.2.2.1+d.Rate))) f (f.length:Int) c.2.Script c.2.At c.2.State c.2.Count k.A k.B d.Rate d.Queries d.Grind b.2.2.2.2.2.Rounds b.2.2.2.2.2.Roots b.2.2.2.2.2.Last.A b.2.2.2.2.2.Last.B b.2.2.2.2.2.Nonce b.2.2.2.2.2.Queries b.2.2.2.2.1 b.2.1.A b.2.1.B) 0).bind (alt (fun l=>
 some (l,c.2)) (fun r=>
 some (0,c.2)))) none) none)) (
 some (11,b.2.2.2.1))) (
 some (11,b.2.2.2.1)))
def MI {a e d c b m r} (h:rH a e d c b m=some r):Call tab ow 113 [.ptr 0 0 0 1,S a,sl aG e,.agg [I d.A,I d.B],.agg [I c.Rate,I c.Queries,I c.Grind],.agg [sl (eL aG) b.Rounds,sl eS b.Roots,I b.Last.A,I b.Last.B,I b.Nonce,sl db b.Queries]] [⟨4,true,[[sl aG m.Script,I m.At,S m.State,I m.Count]]⟩]=some (I r.1,[⟨4,true,[[sl aG r.2.Script,I r.2.At,S r.2.State,I r.2.Count]]⟩]):=by
 rw [ak (af:=rT) rfl]
 unfold rH at h
 simp only [rT,wK]
 have d1:= @tm
 have d2:= @Zy
 have d3:= @fP
 have d4:= @dy
 have d5:= @Fa
 have d6:= @Gg
 have d7:= @gu
 have d8:= @nF
 have d9:= @Tl
 have d10:= @JN
 exact go2
end
section
@[local go_sem] theorem a35:mkR 8009 []=rws aG []:=rfl
@[local go_sem] theorem a4s:mkR 10007 []=rws aG []:=rfl
theorem Ko:mkR 12008 []=rws aG []:=rfl
attribute [local go_sem] Ko Lb
def md (a:bD) (z:Setting) (a3:List Int) (d:jy) (m:Source):Option (Int×Source):=
 (ul a z a3).bind fun r_=>
 (dI r_ m).bind fun w=>
 br (bj d.Root.length 1) (
 (dI d.Root w).bind fun t=>
 (gI a.Rows t).bind fun r=>
 (cZ 2 (Ext.mk 0 0) d.Gates r.2).bind fun c=>
 br (c.2.2.1 !=0) (
 some (c.2.2.1,c.2.2.2)) (
 (Jy r.1 c.1).bind fun v=>
 (wA 2 ([v,d.VA,d.VB,d.VC]:List Ext)).bind fun l=>
 br (l.A==c.2.1.A) (
 br (l.B==c.2.1.B) (
 (bM ([d.VA,d.VB,d.VC]:List Ext) c.2.2.2).bind fun s=>
 (gI 3 s).bind fun e=>
 (GF e.1 ([d.VA,d.VB,d.VC]:List Ext)).bind fun n=>
 (cZ 1 n d.Wires e.2).bind fun b=>
 br (b.2.2.1 !=0) (
 some (b.2.2.1,b.2.2.2)) (
 (rF b.1 0 (wrap .i64 (a.Cols-1))).bind fun y=>
 (atL b.1 (wrap .i64 (a.Cols-1))).bind fun x=>
 br (decide (3<=e.1.length)) (
 (YD e.1).bind fun u=>
 (sj a c.1 (u.1,u.2.1,u.2.2)).bind fun p=>
 (mg b.1).bind fun q=>
 (GF p q).bind fun o=>
 (A2 a a3 y).bind fun i=>
 (ww i d.VW x).bind fun j=>
 (dt o j).bind fun f=>
 br (f.A==b.2.1.A) (
 br (f.B==b.2.1.B) (
 (bM ([d.VW]:List Ext) b.2.2.2).bind fun k=>
 (rH d.Root y d.VW z d.Open k).bind fun h=>
 some (h.1,h.2)) (
 some (11,b.2.2.2))) (
 some (11,b.2.2.2))) none)) (
 some (11,c.2.2.2))) (
 some (11,c.2.2.2)))) none
def Mh {a c d b m r} (h:md a c d b m=some r):Call tab ow 184 [.ptr 0 0 0 1,.agg [I a.Rows,I a.Cols,I a.Publics,sl aV a.A,sl aV a.B,sl aV a.C],.agg [I c.Rate,I c.Queries,I c.Grind],sl eI d,.agg [S b.Root,sl (eL aG) b.Gates,I b.VA.A,I b.VA.B,I b.VB.A,I b.VB.B,I b.VC.A,I b.VC.B,sl (eL aG) b.Wires,I b.VW.A,I b.VW.B,sl (eL aG) b.Open.Rounds,sl eS b.Open.Roots,I b.Open.Last.A,I b.Open.Last.B,I b.Open.Nonce,sl db b.Open.Queries]] [⟨4,true,[[sl aG m.Script,I m.At,S m.State,I m.Count]]⟩]=some (I r.1,[⟨4,true,[[sl aG r.2.Script,I r.2.At,S r.2.State,I r.2.Count]]⟩]):=by
 rw [ak (af:=qr) rfl]
 unfold md at h
 simp only [qr,BR]
 have d1:= @Jd
 have d2:= @gu
 have d3:= @nF
 have d4:= @yw
 have d5:= @Zy
 have d6:= @OW
 have d7:= @dy
 have d8:= @VR
 have d9:= @GY
 have d10:= @uI
 have d11:= @XQ
 have d12:= @Oh
 have d13:= @fP
 have d14:= @MI
 exact go2
end
def B0 (s:bD) (t:Setting) (a:List Int) (p:jy) (b:Source):Option (Bool×Int):=
 (ws p s t).bind fun e=>
 br (!e) (
 some (false,18)) (
 (mh b).bind fun d=>
 (md s t a p d).bind fun c=>
 some ((c.1==0),c.1))
def Wz {s t b p a r} (h:B0 s t b p a=some r):Call tab ow 90 [.agg [I s.Rows,I s.Cols,I s.Publics,sl aV s.A,sl aV s.B,sl aV s.C],.agg [I t.Rate,I t.Queries,I t.Grind],sl eI b,.agg [S p.Root,sl (eL aG) p.Gates,I p.VA.A,I p.VA.B,I p.VB.A,I p.VB.B,I p.VC.A,I p.VC.B,sl (eL aG) p.Wires,I p.VW.A,I p.VW.B,sl (eL aG) p.Open.Rounds,sl eS p.Open.Roots,I p.Open.Last.A,I p.Open.Last.B,I p.Open.Nonce,sl db p.Open.Queries],.agg [sl aG a.Script,I a.At,S a.State,I a.Count]] []=some (.tup [B r.1,I r.2],[]):=by
 rw [ak (af:=zf) rfl]
 unfold B0 at h
 simp only [zf,LM]
 have d1:= @Gm
 have d2:= @BZ
 have d3:= @Mh
 exact go2
def mR (s:bD) (t:Setting) (a:List Int) (b:List UInt8) (c:Source):Option (Bool×Int):=
 br (decide ((b.length:Int)>65536)) (
 some (false,2)) (
 (yb s t a c).bind fun f=>
 br (f !=0) (
 some (false,f)) (
 (y9 b s t).bind fun e=>
 br (!e.2) (
 some (false,3)) (
 (B0 s t a e.1 c).bind fun d=>
 some (d.1,d.2))))
def Pm {s t c b a r} (h:mR s t c b a=some r):Call tab ow 20 [.agg [I s.Rows,I s.Cols,I s.Publics,sl aV s.A,sl aV s.B,sl aV s.C],.agg [I t.Rate,I t.Queries,I t.Grind],sl eI c,sl eU8 b,.agg [sl aG a.Script,I a.At,S a.State,I a.Count]] []=some (.tup [B r.1,I r.2],[]):=by
 rw [ak (af:=tH) rfl]
 unfold mR at h
 simp only [tH,Fi]
 have d1:= @Ug
 have d2:= @Uz
 have d3:= @Wz
 exact go2
def uE (t:Setting):Option (Int×Int):=
 (kH t).bind fun b=>
 br (!b) (
 some (0,1)) (
 (fY t).bind fun a=>
 some (a,0))
def TD {t r} (h:uE t=some r):Call tab ow 21 [.agg [I t.Rate,I t.Queries,I t.Grind]] []=some (.tup [I r.1,I r.2],[]):=by
 rw [ak (af:=xv) rfl]
 unfold uE at h
 simp only [xv,Iq]
 have d1:= @py
 have d2:= @B1
 exact go2
def um (a:List UInt8):Option Circuit:=
 (re a).bind fun c=>
 (kI c).bind fun b=>
 some b.1
def TM {a r} (h:um a=some r):Call tab ow 22 [sl eU8 a] []=some (.agg [sl er r.Gates],[]):=by
 rw [ak (af:=xr) rfl]
 unfold um at h
 simp only [xr,Ji]
 have d1:= @xq
 have d2:= @AL
 exact go2
def wJ (b:List UInt8) (c:Circuit):Option Handed:=
 (re b).bind fun d=>
 (mf c d).bind fun a=>
 some (Handed.mk a.1 a.2.1)
def WP {a c r} (h:wJ a c=some r):Call tab ow 23 [sl eU8 a,.agg [sl er c.Gates]] []=some (.agg [sl eI r.Publics,sl eI r.Inputs],[]):=by
 rw [ak (af:=zr) rfl]
 unfold wJ at h
 simp only [zr,LO]
 have d1:= @xq
 have d2:= @Bv
 exact go2
def mm (c:Circuit) (a b:List Int):Option ((List Int)×Int):=
 (zY c a b).bind fun e=>
 br (e !=0) (
 some (([]:List Int),e)) (
 (pp c a b).bind fun d=>
 br (!d.2) (
 some (([]:List Int),15)) (
 some (d.1,0)))
def Qb {c a b r} (h:mm c a b=some r):Call tab ow 24 [.agg [sl er c.Gates],sl eI a,sl eI b] []=some (.tup [sl eI r.1,I r.2],[]):=by
 rw [ak (af:=v7) rfl]
 unfold mm at h
 simp only [v7,FO]
 have d1:= @Of
 have d2:= @Fc
 exact go2
def Q2 (b a:List UInt8):Option Bool:=
 br (decide ((b.length:Int)>1048576)) (
 some true) (
 br (decide ((a.length:Int)>1048576)) (
 some true) (
 (AT b).bind fun k=>
 (TJ a 0 5).bind fun r_2=>
 (TJ a 1 2).bind fun r_3=>
 (TJ a 2 3).bind fun r_4=>
 (Di r_2 (wrap .i64 (1+r_3)) r_4).bind fun c=>
 br (c.2 !=0) (
 some (c.2==16)) (
 (TJ a 3 2).bind fun r_6=>
 br (r_6==1) (
 (Gb a 3).bind fun r_7=>
 (yc (([116,111,112]:List UInt8)) r_7).bind fun s=>
 br (s.2 !=0) (
 some false) (
 (eU k.Circuit c.1 k.Publics k.Inputs s.1).bind fun z=>
 br (z.2 !=0) (
 some (z.2==14)) (
 (wF k.Circuit).bind fun i=>
 (oG z.1 i.1 c.1).bind fun l=>
 (rD i.1 c.1).bind fun w=>
 (mR i.1 c.1 k.Publics l.1 s.1).bind fun y=>
 (uE c.1).bind fun v=>
 br (i.2 !=0) (
 some false) (
 br (l.2 !=0) (
 some false) (
 br (w.2 !=0) (
 some false) (
 br ((l.1.length:Int) !=w.1) (
 some false) (
 br (y.2 !=0) (
 some false) (
 br (!y.1) (
 some false) (
 br (v.2 !=0) (
 some false) (
 (TJ a 0 5).bind fun r_15=>
 br (decide (v.1<r_15)) (
 some false) (
 (um a).bind fun m=>
 (wJ b m).bind fun f=>
 (mm m f.Publics f.Inputs).bind fun n=>
 (eU m c.1 f.Publics f.Inputs s.1).bind fun h=>
 br (n.2==0) (
 br (h.2==0) (
 some true) (
 br (h.2==14) (
 some true) (
 br (n.2==15) (
 some (h.2==15)) (
 some false)))) (
 br (n.2==15) (
 some (h.2==15)) (
 some false))))))))))))) (
 (eU k.Circuit c.1 k.Publics k.Inputs k.Source).bind fun o=>
 br (o.2 !=0) (
 some (o.2==14)) (
 (wF k.Circuit).bind fun e=>
 (oG o.1 e.1 c.1).bind fun p=>
 (rD e.1 c.1).bind fun u=>
 (mR e.1 c.1 k.Publics p.1 k.Source).bind fun t=>
 (uE c.1).bind fun x=>
 br (e.2 !=0) (
 some false) (
 br (p.2 !=0) (
 some false) (
 br (u.2 !=0) (
 some false) (
 br ((p.1.length:Int) !=u.1) (
 some false) (
 br (t.2 !=0) (
 some false) (
 br (!t.1) (
 some false) (
 br (x.2 !=0) (
 some false) (
 (TJ a 0 5).bind fun r_26=>
 br (decide (x.1<r_26)) (
 some false) (
 (um a).bind fun q=>
 (wJ b q).bind fun d=>
 (mm q d.Publics d.Inputs).bind fun r=>
 (eU q c.1 d.Publics d.Inputs k.Source).bind fun j=>
 br (r.2==0) (
 br (j.2==0) (
 some true) (
 br (j.2==14) (
 some true) (
 br (r.2==15) (
 some (j.2==15)) (
 some false)))) (
 br (r.2==15) (
 some (j.2==15)) (
 some false)))))))))))))))
def w_FnTop_c {b a r} (h:Q2 b a=some r):Call tab ow 3 [sl eU8 b,sl eU8 a] []=some (B r,[]):=by
 rw [ak (af:=a_w_FnTop) rfl]
 unfold Q2 at h
 simp only [a_w_FnTop,UQ]
 have d1:= @Ww
 have d2:= @c2i
 have d3:= @a2N
 have d4:= @a2G
 have d5:= @Us
 have d6:= @N7
 have d7:= @WO
 have d8:= @Qv
 have d9:= @TQ
 have d10:= @Pm
 have d11:= @TD
 have d12:= @TM
 have d13:= @WP
 have d14:= @Qb
 exact go2
end
end Go.AI.Fn
