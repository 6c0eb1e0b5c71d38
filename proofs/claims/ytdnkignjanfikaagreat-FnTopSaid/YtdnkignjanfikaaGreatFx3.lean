/- Part. -/
import Derived.Test.YtdnkignjanfikaaGreatFx2
set_option linter.unusedVariables false
set_option linter.unusedSimpArgs false
set_option maxRecDepth 100000
set_option maxHeartbeats 1000000
namespace Go.AI.Fn
noncomputable section
open IntKind (wrap)
def wy (p:jF) (s:bD) (t:Setting):Option Bool:=
 (uj s).bind fun k=>
 br k (
 (kB t).bind fun h=>
 br h (
 (yt p.Root).bind fun i=>
 br i (
 (rf p.Gates s.Rows 4).bind fun c=>
 br c (
 (xd p.VA).bind fun j=>
 br j (
 (xd p.VB).bind fun b=>
 br b (
 (xd p.VC).bind fun d=>
 br d (
 (rf p.Wires s.Cols 3).bind fun e=>
 br e (
 (xd p.VW).bind fun f=>
 br f (
 (yq p.Open (wrap .i64 (s.Cols-1)) t).bind fun a=>
 some a) (
 some false)) (
 some false)) (
 some false)) (
 some false)) (
 some false)) (
 some false)) (
 some false)) (
 some false)) (
 some false)
theorem Hj {p s t r} (h:wy p s t=some r):Call tab ow 63 [.agg [S p.Root,sl (eL aG) p.Gates,I p.VA.A,I p.VA.B,I p.VB.A,I p.VB.B,I p.VC.A,I p.VC.B,sl (eL aG) p.Wires,I p.VW.A,I p.VW.B,sl (eL aG) p.Open.Rounds,sl eS p.Open.Roots,I p.Open.Last.A,I p.Open.Last.B,I p.Open.Nonce,sl db p.Open.Queries],.agg [I s.Rows,I s.Cols,I s.Publics,sl aV s.A,sl aV s.B,sl aV s.C],.agg [I t.Rate,I t.Queries,I t.Grind]] []=some (B r,[]):=by
 rw [ak (af:=BL) rfl]
 unfold wy at h
 simp only [BL,O2]
 have d1:= @DE
 have d2:= @pn
 have d3:= @EC
 have d4:= @J7
 have d5:= @NO
 have d6:= @Ut
 exact go2
section
attribute [local go_sem] rM
@[local go_sem] theorem a3b:mkR 13003 []=rws aG []:=rfl
def iR (t:List (List Ext)) (b:Int) (c:List (List Ext)) (h:List (List UInt8)) (f j e:Int) (i:List cw):(List UInt8)×Int->Option (((List UInt8)×Int)⊕(((List UInt8)×Int×Bool)))
 | (l,a)=>
   br (decide (a<b)) (
   (atL t a).bind fun x=>
   (iw x).bind fun d=>
   br (bj ((l++d).length) 1) (
   some (.inl ((l++d),(wrap .i64 (a+1))))) none) (
   some (.inr (l,a,decide (a<b))))
theorem HT {t a c f d j b i}:LXe tab ow (.close [6002,6003]) yP (iR t a c f d j b i) (fun s=>⟨[(1,.ptr 1000 0 0 1),(3,.sl 2000 0 s.1.length),(16,sl (eL aG) t),(17,I a),(18,I s.2)],[(1000,⟨6,true,[[sl (eL aG) c,sl eS f,I d,I j,I b,sl db i]]⟩),(2000,⟨1,false,rws eU8 s.1⟩)]⟩) 0 (fun e=>(e.1,e.2.1)) (fun e=>[(19,B e.2.2)]):=by
 refine lrX (fun s o h=> ?_)
 obtain ⟨_,_⟩:=s
 simp only [iR] at h
 simp only [yP,yT]
 have d1:= @kz
 exact go2
def iQ (i:List (List UInt8)) (d:Int) (k:List (List Ext)) (l:List (List UInt8)) (j h f:Int) (e:List cw):(List UInt8)×Int->Option (((List UInt8)×Int)⊕(((List UInt8)×Int×Bool)))
 | (b,a)=>
   br (decide (a<d)) (
   (atL i a).bind fun c=>
   br (bj ((b++c).length) 1) (
   some (.inl ((b++c),(wrap .i64 (a+1))))) none) (
   some (.inr (b,a,decide (a<d))))
theorem HS {d i j k f c b a}:LXe tab ow (.close [11002]) yY (iQ d i j k f c b a) (fun s=>⟨[(1,.ptr 1000 0 0 1),(3,.sl 2000 0 s.1.length),(28,sl eS d),(29,I i),(30,I s.2)],[(1000,⟨6,true,[[sl (eL aG) j,sl eS k,I f,I c,I b,sl db a]]⟩),(2000,⟨1,false,rws eU8 s.1⟩)]⟩) 2 (fun e=>(e.1,e.2.1)) (fun e=>[(31,B e.2.2)]):=by
 refine lrX (fun s o h=> ?_)
 obtain ⟨_,_⟩:=s
 simp only [iQ] at h
 simp only [yY,yS]
 exact go2
def iP (t:List cw) (p l:Int) (o:List (List (List UInt8))) (f h:Int) (d:List (List UInt8)) (b:Int) (s:List (List Ext)) (j:List (List UInt8)) (m q r:Int) (k:List cw) (n:List Ext) (i:List (List (List UInt8))):(List UInt8)×Int->Option (((List UInt8)×Int)⊕(((List UInt8)×Int×Bool)))
 | (c,a)=>
   br (decide (a<b)) (
   (atL d a).bind fun e=>
   br (bj ((c++e).length) 1) (
   some (.inl ((c++e),(wrap .i64 (a+1))))) none) (
   some (.inr (c,a,decide (a<b))))
theorem HW {u k t f a b l m r q j n p d c i}:LXe tab ow (.close [24002]) xX (iP u k t f a b l m r q j n p d c i) (fun s=>⟨[(3,.sl 2000 0 s.1.length),(48,sl db u),(49,I k),(50,I t),(60,sl (eL eS) f),(61,I a),(62,I b),(66,sl eS l),(67,I m),(68,I s.2)],[(1000,⟨6,true,[[sl (eL aG) r,sl eS q,I j,I n,I p,sl db d]]⟩),(2000,⟨1,false,rws eU8 s.1⟩),(13003,kf),(16002,⟨2,true,[[sl aG c,sl (eL eS) i]]⟩)]⟩) 8 (fun e=>(e.1,e.2.1)) (fun e=>[(69,B e.2.2)]):=by
 refine lrX (fun s o h=> ?_)
 obtain ⟨_,_⟩:=s
 simp only [iP] at h
 simp only [xX,xW]
 exact go2
def iG (j:List cw) (n i:Int) (c:List (List (List UInt8))) (b:Int) (p:List (List Ext)) (o:List (List UInt8)) (h l e:Int) (k:List cw) (f:List Ext) (d:List (List (List UInt8))):(List UInt8)×Int->Option (((List UInt8)×Int)⊕(((List UInt8)×Int×Bool)))
 | (r,a)=>
   br (decide (a<b)) (
   (atL c a).bind fun q=>
   (Loop (iP j n i c b a q (q.length:Int) p o h l e k f d) (r,0)).bind fun m=>
   some (.inl (m.1,(wrap .i64 (a+1))))) (
   some (.inr (r,a,decide (a<b))))
theorem HX {i l n p a q m f k c j d b}:LXe tab ow (.close [24002]) yo (iG i l n p a q m f k c j d b) (fun s=>⟨[(3,.sl 2000 0 s.1.length),(48,sl db i),(49,I l),(50,I n),(60,sl (eL eS) p),(61,I a),(62,I s.2)],[(1000,⟨6,true,[[sl (eL aG) q,sl eS m,I f,I k,I c,sl db j]]⟩),(2000,⟨1,false,rws eU8 s.1⟩),(13003,kf),(16002,⟨2,true,[[sl aG d,sl (eL eS) b]]⟩)]⟩) 6 (fun e=>(e.1,e.2.1)) (fun e=>[(63,B e.2.2)]):=by
 refine lrX (fun s o h=> ?_)
 obtain ⟨_,_⟩:=s
 simp only [iG] at h
 simp only [yo,yn]
 have d1:= @HW
 exact go2
def iK (n:List cw) (e:Int) (f:List (List Ext)) (d:List (List UInt8)) (i h m:Int) (j:List cw):(List UInt8)×Int->Option (((List UInt8)×Int)⊕(((List UInt8)×Int×Bool)))
 | (l,a)=>
   br (decide (a<e)) (
   (atL n a).bind fun c=>
   (iw c.Pairs).bind fun b=>
   br (bj ((l++b).length) 1) (
   (Loop (iG n e a c.Paths (c.Paths.length:Int) f d i h m j c.Pairs c.Paths) ((l++b),0)).bind fun k=>
   some (.inl (k.1,(wrap .i64 (a+1))))) none) (
   some (.inr (l,a,decide (a<e))))
theorem Ig {j k a f c b i d}:LXe tab ow (.close [16002,17003,17004,24002]) xI (iK j k a f c b i d) (fun s=>⟨[(3,.sl 2000 0 s.1.length),(48,sl db j),(49,I k),(50,I s.2)],[(1000,⟨6,true,[[sl (eL aG) a,sl eS f,I c,I b,I i,sl db d]]⟩),(2000,⟨1,false,rws eU8 s.1⟩),(13003,kf)]⟩) 4 (fun e=>(e.1,e.2.1)) (fun e=>[(51,B e.2.2)]):=by
 refine lrX (fun s o h=> ?_)
 obtain ⟨_,_⟩:=s
 simp only [iK] at h
 simp only [xI,xH]
 have d1:= @kz
 have d2:= @HX
 exact go2
def p9 (a:bK):Option (List UInt8):=
 (Loop (iR a.Rounds (a.Rounds.length:Int) a.Rounds a.Roots a.Last.A a.Last.B a.Nonce a.Queries) (([]:List UInt8),0)).bind fun f=>
 (Loop (iQ a.Roots (a.Roots.length:Int) a.Rounds a.Roots a.Last.A a.Last.B a.Nonce a.Queries) (f.1,0)).bind fun b=>
 (iw ([a.Last]:List Ext)).bind fun c=>
 br (bj ((b.1++c).length) 1) (
 (mr a.Nonce (b.1++c)).bind fun e=>
 (Loop (iK a.Queries (a.Queries.length:Int) a.Rounds a.Roots a.Last.A a.Last.B a.Nonce a.Queries) (e,0)).bind fun d=>
 some d.1) none
theorem Kt {a r} (h:p9 a=some r):Call tab ow 176 [.agg [sl (eL aG) a.Rounds,sl eS a.Roots,I a.Last.A,I a.Last.B,I a.Nonce,sl db a.Queries]] []=some (sl eU8 r,[]):=by
 rw [ak (af:=qa) rfl]
 unfold p9 at h
 simp only [qa,ir]
 have d1:= @HT
 have d2:= @HS
 have d3:= @kz
 have d4:= @oH
 have d5:= @Ig
 exact go2
end
section
@[local go_sem] theorem a8p:mkR 8007 []=rws aG []:=rfl
@[local go_sem] theorem a8N:mkR 14003 []=rws aG []:=rfl
def jA (t:List (List Ext)) (d:Int) (c:List UInt8) (u:List (List Ext)) (p o w v q r:Int) (s:List (List Ext)) (m i:Int) (f:List (List Ext)) (h:List (List UInt8)) (j e k:Int) (n:List cw):(List UInt8)×Int->Option (((List UInt8)×Int)⊕(((List UInt8)×Int×Bool)))
 | (l,a)=>
   br (decide (a<d)) (
   (atL t a).bind fun x=>
   (iw x).bind fun b=>
   br (bj ((l++b).length) 1) (
   some (.inl ((l++b),(wrap .i64 (a+1))))) none) (
   some (.inr (l,a,decide (a<d))))
theorem KO {t m c r p x n w u v q i d a b k j f l}:LXe tab ow (.close [6002,6003]) Bs (jA t m c r p x n w u v q i d a b k j f l) (fun s=>⟨[(1,.ptr 1000 0 0 1),(3,.sl 2002 0 s.1.length),(12,sl (eL aG) t),(13,I m),(14,I s.2)],[(1000,⟨17,true,[[S c,sl (eL aG) r,I p,I x,I n,I w,I u,I v,sl (eL aG) q,I i,I d,sl (eL aG) a,sl eS b,I k,I j,I f,sl db l]]⟩),(2002,⟨1,false,rws eU8 s.1⟩)]⟩) 0 (fun e=>(e.1,e.2.1)) (fun e=>[(15,B e.2.2)]):=by
 refine lrX (fun s o h=> ?_)
 obtain ⟨_,_⟩:=s
 simp only [jA] at h
 simp only [Bs,Br]
 have d1:= @kz
 exact go2
def jK (u:List (List Ext)) (d:Int) (e:List UInt8) (m:List (List Ext)) (l t f n p i:Int) (q:List (List Ext)) (x j:Int) (o:List (List Ext)) (v:List (List UInt8)) (w k r:Int) (h:List cw):(List UInt8)×Int->Option (((List UInt8)×Int)⊕(((List UInt8)×Int×Bool)))
 | (c,a)=>
   br (decide (a<d)) (
   (atL u a).bind fun s=>
   (iw s).bind fun b=>
   br (bj ((c++b).length) 1) (
   some (.inl ((c++b),(wrap .i64 (a+1))))) none) (
   some (.inr (c,a,decide (a<d))))
theorem Ml {x w a k j r b l n d p v f m t u i q c}:LXe tab ow (.close [12002,12003]) BX (jK x w a k j r b l n d p v f m t u i q c) (fun s=>⟨[(1,.ptr 1000 0 0 1),(3,.sl 2002 0 s.1.length),(34,sl (eL aG) x),(35,I w),(36,I s.2)],[(1000,⟨17,true,[[S a,sl (eL aG) k,I j,I r,I b,I l,I n,I d,sl (eL aG) p,I v,I f,sl (eL aG) m,sl eS t,I u,I i,I q,sl db c]]⟩),(2002,⟨1,false,rws eU8 s.1⟩),(8007,kf)]⟩) 2 (fun e=>(e.1,e.2.1)) (fun e=>[(37,B e.2.2)]):=by
 refine lrX (fun s o h=> ?_)
 obtain ⟨_,_⟩:=s
 simp only [jK] at h
 simp only [BX,Bx]
 have d1:= @kz
 exact go2
def tm (p:jF):Option (List UInt8):=
 br (bj p.Root.length 1) (
 (Loop (jA p.Gates (p.Gates.length:Int) p.Root p.Gates p.VA.A p.VA.B p.VB.A p.VB.B p.VC.A p.VC.B p.Wires p.VW.A p.VW.B p.Open.Rounds p.Open.Roots p.Open.Last.A p.Open.Last.B p.Open.Nonce p.Open.Queries) (p.Root,0)).bind fun e=>
 (iw ([p.VA,p.VB,p.VC]:List Ext)).bind fun c=>
 br (bj ((e.1++c).length) 1) (
 (Loop (jK p.Wires (p.Wires.length:Int) p.Root p.Gates p.VA.A p.VA.B p.VB.A p.VB.B p.VC.A p.VC.B p.Wires p.VW.A p.VW.B p.Open.Rounds p.Open.Roots p.Open.Last.A p.Open.Last.B p.Open.Nonce p.Open.Queries) ((e.1++c),0)).bind fun b=>
 (iw ([p.VW]:List Ext)).bind fun a=>
 br (bj ((b.1++a).length) 1) (
 (p9 p.Open).bind fun d=>
 br (bj (((b.1++a)++d).length) 1) (
 some ((b.1++a)++d)) none) none) none) none
theorem Pb {p r} (h:tm p=some r):Call tab ow 85 [.agg [S p.Root,sl (eL aG) p.Gates,I p.VA.A,I p.VA.B,I p.VB.A,I p.VB.B,I p.VC.A,I p.VC.B,sl (eL aG) p.Wires,I p.VW.A,I p.VW.B,sl (eL aG) p.Open.Rounds,sl eS p.Open.Roots,I p.Open.Last.A,I p.Open.Last.B,I p.Open.Nonce,sl db p.Open.Queries]] []=some (sl eU8 r,[]):=by
 rw [ak (af:=tC) rfl]
 unfold tm at h
 simp only [tC,tV]
 have d1:= @KO
 have d2:= @kz
 have d3:= @Ml
 have d4:= @Kt
 exact go2
end
def ou (p:jF) (s:bD) (t:Setting):Option ((List UInt8)×Int):=
 (wy p s t).bind fun b=>
 br (!b) (
 some (([]:List UInt8),1)) (
 (tm p).bind fun a=>
 some (a,0))
theorem Tl {p s t r} (h:ou p s t=some r):Call tab ow 18 [.agg [S p.Root,sl (eL aG) p.Gates,I p.VA.A,I p.VA.B,I p.VB.A,I p.VB.B,I p.VC.A,I p.VC.B,sl (eL aG) p.Wires,I p.VW.A,I p.VW.B,sl (eL aG) p.Open.Rounds,sl eS p.Open.Roots,I p.Open.Last.A,I p.Open.Last.B,I p.Open.Nonce,sl db p.Open.Queries],.agg [I s.Rows,I s.Cols,I s.Publics,sl aV s.A,sl aV s.B,sl aV s.C],.agg [I t.Rate,I t.Queries,I t.Grind]] []=some (.tup [sl eU8 r.1,I r.2],[]):=by
 rw [ak (af:=uY) rfl]
 unfold ou at h
 simp only [uY,FN]
 have d1:= @Hj
 have d2:= @Pb
 exact go2
def iE (b e c h f:Int):Int×Int->Option ((Int×Int)⊕((Int×Int×Bool)))
 | (a,d)=>
   br (decide (d<e)) (
   some (.inl ((wrap .i64 (a+(wrap .i64 ((wrap .i64 ((wrap .i64 (b+c))-1))-d)))),(wrap .i64 (d+1))))) (
   some (.inr (a,d,decide (d<e))))
theorem LI {a d c f b}:LXe tab ow (.close []) Bb (iE a d c f b) (fun s=>⟨[(0,I a),(3,.ptr 1000 0 0 1),(5,I s.1),(7,I d),(8,I s.2)],[(1000,⟨3,true,[[I c,I f,I b]]⟩)]⟩) 0 (fun e=>(e.1,e.2.1)) (fun e=>[(9,B e.2.2)]):=by
 refine lrX (fun s o h=> ?_)
 obtain ⟨_,_⟩:=s
 simp only [iE] at h
 simp only [Bb,Bm]
 exact go2
def tf (a:Int) (t:Setting):Option Int:=
 (Loop (iE a a t.Rate t.Queries t.Grind) (0,0)).bind fun b=>
 some (wrap .i64 ((wrap .i64 ((wrap .i64 ((wrap .i64 ((wrap .i64 (24*a))+(wrap .i64 (32*(wrap .i64 (a-1))))))+8))+4))+(wrap .i64 (t.Queries*(wrap .i64 ((wrap .i64 (16*a))+(wrap .i64 (32*b.1))))))))
theorem Pt {a t r} (h:tf a t=some r):Call tab ow 179 [I a,.agg [I t.Rate,I t.Queries,I t.Grind]] []=some (I r,[]):=by
 rw [ak (af:=tO) rfl]
 unfold tf at h
 simp only [tO,yL]
 have d1:= @LI
 exact go2
def uy (s:bD) (t:Setting):Option Int:=
 (tf (wrap .i64 (s.Cols-1)) t).bind fun a=>
 some (wrap .i64 ((wrap .i64 ((wrap .i64 ((wrap .i64 ((wrap .i64 (32+(wrap .i64 (32*s.Rows))))+24))+(wrap .i64 (24*s.Cols))))+8))+a))
theorem IQ {s t r} (h:uy s t=some r):Call tab ow 87 [.agg [I s.Rows,I s.Cols,I s.Publics,sl aV s.A,sl aV s.B,sl aV s.C],.agg [I t.Rate,I t.Queries,I t.Grind]] []=some (I r,[]):=by
 rw [ak (af:=xc) rfl]
 unfold uy at h
 simp only [xc,Iq]
 have d1:= @Pt
 exact go2
def rB (s:bD) (t:Setting):Option (Int×Int):=
 (uj s).bind fun c=>
 br (!c) (
 some (0,1)) (
 (kB t).bind fun a=>
 br (!a) (
 some (0,1)) (
 (uy s t).bind fun b=>
 some (b,0)))
theorem Ud {s t r} (h:rB s t=some r):Call tab ow 19 [.agg [I s.Rows,I s.Cols,I s.Publics,sl aV s.A,sl aV s.B,sl aV s.C],.agg [I t.Rate,I t.Queries,I t.Grind]] []=some (.tup [I r.1,I r.2],[]):=by
 rw [ak (af:=xv) rfl]
 unfold rB at h
 simp only [xv,J4]
 have d1:= @DE
 have d2:= @pn
 have d3:= @IQ
 exact go2
def y4 (s:bD) (t:Setting) (a:List Int) (b:Source):Option Int:=
 br (decide ((a.length:Int)>4096)) (
 some 2) (
 (uj s).bind fun h=>
 br (!h) (
 some 1) (
 (kB t).bind fun d=>
 br (!d) (
 some 1) (
 (iz a).bind fun e=>
 br (!e) (
 some 1) (
 (uc b).bind fun c=>
 br (!c) (
 some 1) (
 br ((a.length:Int) !=s.Publics) (
 some 17) (
 (mW b).bind fun f=>
 br (decide (f<200)) (
 some 6) (
 some 0)))))))
theorem Ux {s t b a r} (h:y4 s t b a=some r):Call tab ow 88 [.agg [I s.Rows,I s.Cols,I s.Publics,sl aV s.A,sl aV s.B,sl aV s.C],.agg [I t.Rate,I t.Queries,I t.Grind],sl eI b,.agg [sl aG a.Script,I a.At,S a.State,I a.Count]] []=some (I r,[]):=by
 rw [ak (af:=xm) rfl]
 unfold y4 at h
 simp only [xm,IS]
 have d1:= @DE
 have d2:= @pn
 have d3:= @yQ
 have d4:= @KG
 have d5:= @EV
 exact go2
def iy (n:Int) (m:dQ):Option ((List UInt8)×dQ):=
 (qA m.b 0 n).bind fun y=>
 (qA m.b n (m.b.length:Int)).bind fun a=>
 some (y,(dQ.mk a))
theorem sW {n m r} (h:iy n m=some r):Call tab ow 295 [.ptr 0 0 0 1,I n] [⟨1,true,[[sl eU8 m.b]]⟩]=some (sl eU8 r.1,[⟨1,true,[[sl eU8 r.2.b]]⟩]):=by
 rw [ak (af:=ni) rfl]
 unfold iy at h
 simp only [ni,yR]
 exact go2
def iq (m:dQ):Option ((List UInt8)×dQ):=
 (iy 32 m).bind fun a=>
 some (a.1,a.2)
theorem sM {m r} (h:iq m=some r):Call tab ow 180 [.ptr 0 0 0 1] [⟨1,true,[[sl eU8 m.b]]⟩]=some (S r.1,[⟨1,true,[[sl eU8 r.2.b]]⟩]):=by
 rw [ak (af:=nr) rfl]
 unfold iq at h
 simp only [nr,yO]
 have d1:= @sW
 exact go2
section
attribute [local go_sem] fh
@[local go_sem] theorem b5D:mkR 6015 []=rws aG []:=rfl
def re (b:List UInt8):(List Ext)×Int->Option (((List Ext)×Int)⊕(((List Ext)×Int×Bool)))
 | (l,i)=>
   br (decide ((wrap .i64 (i+8))<=(b.length:Int))) (
   (qA b i (wrap .i64 (i+4))).bind fun y=>
   (v8 y).bind fun c=>
   (qA b (wrap .i64 (i+4)) (wrap .i64 (i+8))).bind fun d=>
   (v8 d).bind fun a=>
   br (bj ((l++([(Ext.mk c a)]:List Ext)).length) 16) (
   some (.inl ((l++([(Ext.mk c a)]:List Ext)),(wrap .i64 (i+8))))) none) (
   some (.inr (l,i,decide ((wrap .i64 (i+8))<=(b.length:Int)))))
theorem SA {a}:LXe tab ow (.close [6006,6013,6015,6016]) GV (re a) (fun s=>⟨[(0,sl eU8 a),(4,.sl 2000 0 s.1.length),(5,I s.2)],[(2000,⟨2,false,rws aG s.1⟩)]⟩) 0 (fun e=>(e.1,e.2.1)) (fun e=>[(11,B e.2.2)]):=by
 refine lrX (fun s o h=> ?_)
 obtain ⟨_,_⟩:=s
 simp only [re] at h
 simp only [GV,Hb]
 have d1:= @Ko
 exact go2
def B3 (b:List UInt8):Option ((List Ext)×Bool):=
 (Loop (re b) (([]:List Ext),0)).bind fun c=>
 br (((b.length:Int).tmod 8)==0) (
 (ft c.1).bind fun a=>
 some (c.1,a)) (
 some (c.1,false))
theorem Xx {b r} (h:B3 b=some r):Call tab ow 296 [sl eU8 b] []=some (.tup [sl aG r.1,B r.2],[]):=by
 rw [ak (af:=zI) rfl]
 unfold B3 at h
 simp only [zI,Eu]
 have d1:= @SA
 have d2:= @jV
 exact go2
end
def fu (n:Int) (m:dQ):Option ((List Ext)×dQ):=
 (iy (wrap .i64 (8*n)) m).bind fun b=>
 (B3 b.1).bind fun a=>
 some (a.1,b.2)
theorem nk {n m r} (h:fu n m=some r):Call tab ow 182 [.ptr 0 0 0 1,I n] [⟨1,true,[[sl eU8 m.b]]⟩]=some (sl aG r.1,[⟨1,true,[[sl eU8 r.2.b]]⟩]):=by
 rw [ak (af:=ng) rfl]
 unfold fu at h
 simp only [ng,yU]
 have d1:= @sW
 have d2:= @Xx
 exact go2
section
attribute [local go_sem] JG
@[local go_sem] theorem WF:mkR 5004 []=rws (eL aG) []:=rfl
def fB (a t:Int):(List (List Ext))×Int×(List UInt8)->Option (((List (List Ext))×Int×(List UInt8))⊕(((List (List Ext))×Int×Bool×(List UInt8))))
 | (l,b,c)=>
   br (decide (b<t)) (
   (fu a (dQ.mk c)).bind fun d=>
   br (bj ((l++([d.1]:List (List Ext))).length) 24) (
   some (.inl ((l++([d.1]:List (List Ext))),(wrap .i64 (b+1)),d.2.b))) none) (
   some (.inr (l,b,decide (b<t),c)))
theorem CY {a t}:LXe tab ow (.close [5003,5004,5005]) ul (fB a t) (fun s=>⟨[(0,.ptr 0 0 0 1),(2,I a),(7,.sl 2000 0 s.1.length),(9,I t),(10,I s.2.1)],[(0,⟨1,true,[[sl eU8 s.2.2]]⟩),(2000,⟨1,false,rws (eL aG) s.1⟩)]⟩) 0 (fun e=>(e.1,e.2.1,e.2.2.2)) (fun e=>[(11,B e.2.2.1)]):=by
 refine lrX (fun s o h=> ?_)
 obtain ⟨_,_,_⟩:=s
 simp only [fB] at h
 simp only [ul,uC]
 have d1:= @nk
 exact go2
def gn (b a:Int) (m:dQ):Option ((List (List Ext))×dQ):=
 (Loop (fB a b) (([]:List (List Ext)),0,m.b)).bind fun c=>
 some (c.1,(dQ.mk c.2.2.2))
theorem wi {b a m r} (h:gn b a m=some r):Call tab ow 181 [.ptr 0 0 0 1,I b,I a] [⟨1,true,[[sl eU8 m.b]]⟩]=some (sl (eL aG) r.1,[⟨1,true,[[sl eU8 r.2.b]]⟩]):=by
 rw [ak (af:=lK) rfl]
 unfold gn at h
 simp only [lK,pE]
 have d1:= @CY
 exact go2
end
section
@[local go_sem] theorem UO:mkR 5004 []=rws eS []:=rfl
@[local go_sem] theorem V7:mkR 15000 []=rws eS []:=rfl
@[local go_sem] theorem UT:mkR 18003 []=rws eS []:=rfl
theorem Dp:mkR 20003 []=rws (eL eS) []:=rfl
attribute [local go_sem] Dp NJ
def fc (t d k i p h o m:Int) (n:List (List Ext)) (j f e:Int):(List (List UInt8))×Int×(List UInt8)->Option (((List (List UInt8))×Int×(List UInt8))⊕(((List (List UInt8))×Int×Bool×(List UInt8))))
 | (l,b,c)=>
   br (decide (b<d)) (
   (iq (dQ.mk c)).bind fun a=>
   br (bj ((l++([a.1]:List (List UInt8))).length) 16) (
   some (.inl ((l++([a.1]:List (List UInt8))),(wrap .i64 (b+1)),a.2.b))) none) (
   some (.inr (l,b,decide (b<d),c)))
theorem Cs {t c j f n d m k l i b a}:LXe tab ow (.both (.close [5003,5004,5005]) (.nilCell 2004 1 4900 1)) tv (fc t c j f n d m k l i b a) (fun s=>⟨[(0,.ptr 0 0 0 1),(1,I t),(5,.ptr 1000 0 0 1),(6,.ptr 1001 0 0 1),(7,.ptr 2004 0 0 1),(16,I c),(17,I s.2.1)],[(0,⟨1,true,[[sl eU8 s.2.2]]⟩),(1000,⟨3,true,[[I j,I f,I n]]⟩),(1001,⟨6,true,[[.lit (.slice none 0 0),.lit (.slice none 0 0),I d,I m,I k,.lit (.slice none 0 0)]]⟩),(2004,⟨6,true,[[sl (eL aG) l,.sl 4900 0 s.1.length,I i,I b,I a,.lit (.slice none 0 0)]]⟩),(4900,⟨1,false,rws eS s.1⟩)]⟩) 0 (fun e=>(e.1,e.2.1,e.2.2.2)) (fun e=>[(18,B e.2.2.1)]):=by
 refine lrX (fun s o h=> ?_)
 obtain ⟨_,_,_⟩:=s
 simp only [fc] at h
 simp only [tv,tx]
 have d1:= @sM
 exact go2
def fe (w:List (List UInt8)) (x:List cw) (y:List (List (List UInt8))) (f o j p v e q l s u i m:Int) (n:List (List Ext)) (t r k:Int) (h:List Ext):(List (List UInt8))×Int×(List UInt8)->Option (((List (List UInt8))×Int×(List UInt8))⊕(((List (List UInt8))×Int×Bool×(List UInt8))))
 | (b,a,d)=>
   br (decide (a<e)) (
   (iq (dQ.mk d)).bind fun c=>
   br (bj ((b++([c.1]:List (List UInt8))).length) 16) (
   some (.inl ((b++([c.1]:List (List UInt8))),(wrap .i64 (a+1)),c.2.b))) none) (
   some (.inr (b,a,decide (a<e),d)))
theorem Ce {w x y a l d m v r n i q u c j k t p f b}:LXe tab ow (.close [18002,18003,18004]) sx (fe w x y a l d m v r n i q u c j k t p f b) (fun s=>⟨[(0,.ptr 0 0 0 1),(1,I a),(5,.ptr 1000 0 0 1),(6,.ptr 1001 0 0 1),(7,.ptr 2004 0 0 1),(8,.ptr 11005 0 0 1),(10,.sl 15000 0 s.1.length),(37,I l),(38,I d),(45,I m),(46,I v),(56,I r),(57,I s.2.1)],[(0,⟨1,true,[[sl eU8 s.2.2]]⟩),(1000,⟨3,true,[[I n,I i,I q]]⟩),(1001,⟨6,true,[[.lit (.slice none 0 0),.lit (.slice none 0 0),I u,I c,I j,.lit (.slice none 0 0)]]⟩),(2004,⟨6,true,[[sl (eL aG) k,.sl 4900 0 w.length,I t,I p,I f,.sl 10900 0 x.length]]⟩),(4900,⟨1,false,rws eS w⟩),(10900,⟨2,false,rws db x⟩),(11005,⟨2,true,[[sl aG b,.sl 13900 0 y.length]]⟩),(13900,⟨1,false,rws (eL eS) y⟩),(15000,⟨1,false,rws eS s.1⟩)]⟩) 6 (fun e=>(e.1,e.2.1,e.2.2.2)) (fun e=>[(58,B e.2.2.1)]):=by
 refine lrX (fun s o h=> ?_)
 obtain ⟨_,_,_⟩:=s
 simp only [fe] at h
 simp only [sx,sB]
 have d1:= @sM
 exact go2
def fi (u:List (List UInt8)) (t:List cw) (r v s b e i m q j l:Int) (o:List (List Ext)) (p k n:Int) (h:List Ext):(List (List (List UInt8)))×Int×(List UInt8)->Option (((List (List (List UInt8)))×Int×(List UInt8))⊕(((List (List (List UInt8)))×Int×Bool×(List UInt8))))
 | (f,a,d)=>
   br (decide (a<b)) (
   (Loop (fe u t f r v s b a (wrap .i64 ((wrap .i64 ((wrap .i64 (r+e))-1))-a)) e i m q j l o p k n h) (([]:List (List UInt8)),0,d)).bind fun c=>
   br (bj ((f++([c.1]:List (List (List UInt8)))).length) 24) (
   some (.inl ((f++([c.1]:List (List (List UInt8)))),(wrap .i64 (a+1)),c.2.2.2))) none) (
   some (.inr (f,a,decide (a<b),d)))
theorem CF {r q u v t k j f a p n i l m c b d}:LXe tab ow (.both (.close [15000,18002,18003,18004,20003,20004]) (.nilCell 11005 1 13900 1)) sD (fi r q u v t k j f a p n i l m c b d) (fun s=>⟨[(0,.ptr 0 0 0 1),(1,I u),(5,.ptr 1000 0 0 1),(6,.ptr 1001 0 0 1),(7,.ptr 2004 0 0 1),(8,.ptr 11005 0 0 1),(37,I v),(38,I t),(45,I k),(46,I s.2.1)],[(0,⟨1,true,[[sl eU8 s.2.2]]⟩),(1000,⟨3,true,[[I j,I f,I a]]⟩),(1001,⟨6,true,[[.lit (.slice none 0 0),.lit (.slice none 0 0),I p,I n,I i,.lit (.slice none 0 0)]]⟩),(2004,⟨6,true,[[sl (eL aG) l,.sl 4900 0 r.length,I m,I c,I b,.sl 10900 0 q.length]]⟩),(4900,⟨1,false,rws eS r⟩),(10900,⟨2,false,rws db q⟩),(11005,⟨2,true,[[sl aG d,.sl 13900 0 s.1.length]]⟩),(13900,⟨1,false,rws (eL eS) s.1⟩)]⟩) 4 (fun e=>(e.1,e.2.1,e.2.2.2)) (fun e=>[(47,B e.2.2.1)]):=by
 refine lrX (fun s o h=> ?_)
 obtain ⟨_,_,_⟩:=s
 simp only [fi] at h
 simp only [sD,sE]
 have d1:= @Ce
 exact go2
def fa (s:List (List UInt8)) (j k f p l h r m:Int) (q:List (List Ext)) (o i n:Int):(List cw)×Int×(List UInt8)->Option (((List cw)×Int×(List UInt8))⊕(((List cw)×Int×Bool×(List UInt8))))
 | (e,d,c)=>
   br (decide (d<k)) (
   (fu (wrap .i64 (2*j)) (dQ.mk c)).bind fun a=>
   (Loop (fi s e j k d j f p l h r m q o i n a.1) (([]:List (List (List UInt8))),0,a.2.b)).bind fun b=>
   br (bj ((e++([(cw.mk a.1 b.1)]:List cw)).length) 48) (
   some (.inl ((e++([(cw.mk a.1 b.1)]:List cw)),(wrap .i64 (d+1)),b.2.2.2))) none) (
   some (.inr (e,d,decide (d<k),c)))
theorem Cd {n p q a k d c m f l j b i}:LXe tab ow (.both (.close [11003,11005,15000,18002,18003,18004,20003,20004,22003,22004,13900]) (.nilCell 2004 5 10900 2)) tp (fa n p q a k d c m f l j b i) (fun s=>⟨[(0,.ptr 0 0 0 1),(1,I p),(5,.ptr 1000 0 0 1),(6,.ptr 1001 0 0 1),(7,.ptr 2004 0 0 1),(37,I q),(38,I s.2.1)],[(0,⟨1,true,[[sl eU8 s.2.2]]⟩),(1000,⟨3,true,[[I a,I k,I d]]⟩),(1001,⟨6,true,[[.lit (.slice none 0 0),.lit (.slice none 0 0),I c,I m,I f,.lit (.slice none 0 0)]]⟩),(2004,⟨6,true,[[sl (eL aG) l,.sl 4900 0 n.length,I j,I b,I i,.sl 10900 0 s.1.length]]⟩),(4900,⟨1,false,rws eS n⟩),(10900,⟨2,false,rws db s.1⟩)]⟩) 2 (fun e=>(e.1,e.2.1,e.2.2.2)) (fun e=>[(39,B e.2.2.1)]):=by
 refine lrX (fun s o h=> ?_)
 obtain ⟨_,_,_⟩:=s
 simp only [fa] at h
 simp only [tp,tj]
 have d1:= @nk
 have d2:= @CF
 exact go2
def jn (a:Int) (b:Setting) (m:dQ):Option (bK×dQ):=
 (gn a 3 m).bind fun h=>
 (Loop (fc a (wrap .i64 (a-1)) b.Rate b.Queries b.Grind 0 0 0 h.1 0 0 0) (([]:List (List UInt8)),0,h.2.b)).bind fun i=>
 (fu 1 (dQ.mk i.2.2.2)).bind fun e=>
 (atL e.1 0).bind fun x=>
 (iy 4 e.2).bind fun c=>
 (v8 c.1).bind fun f=>
 (Loop (fa i.1 a b.Queries b.Rate b.Queries b.Grind 0 0 0 h.1 x.A x.B f) (([]:List cw),0,c.2.b)).bind fun d=>
 some ((bK.mk h.1 i.1 x f d.1),(dQ.mk d.2.2.2))
theorem EM {a b m r} (h:jn a b m=some r):Call tab ow 183 [.ptr 0 0 0 1,I a,.agg [I b.Rate,I b.Queries,I b.Grind]] [⟨1,true,[[sl eU8 m.b]]⟩]=some (.agg [sl (eL aG) r.1.Rounds,sl eS r.1.Roots,I r.1.Last.A,I r.1.Last.B,I r.1.Nonce,sl db r.1.Queries],[⟨1,true,[[sl eU8 r.2.b]]⟩]):=by
 rw [ak (af:=ku) rfl]
 unfold jn at h
 simp only [ku,fR]
 have d1:= @wi
 have d2:= @Cs
 have d3:= @nk
 have d4:= @sW
 have d5:= @Ko
 have d6:= @Cd
 exact go2
end
def yu (b:List UInt8) (s:bD) (t:Setting):Option (jF×Bool):=
 (uy s t).bind fun m=>
 br ((b.length:Int) !=m) (
 some ((jF.mk (([]:List UInt8)) ([]:List (List Ext)) (Ext.mk 0 0) (Ext.mk 0 0) (Ext.mk 0 0) ([]:List (List Ext)) (Ext.mk 0 0) (bK.mk ([]:List (List Ext)) ([]:List (List UInt8)) (Ext.mk 0 0) 0 ([]:List cw))),false)) (
 (iq (dQ.mk b)).bind fun c=>
 (gn s.Rows 4 c.2).bind fun d=>
 (fu 3 d.2).bind fun a=>
 (atL a.1 0).bind fun x=>
 (atL a.1 1).bind fun j=>
 (atL a.1 2).bind fun l=>
 (gn s.Cols 3 a.2).bind fun e=>
 (fu 1 e.2).bind fun f=>
 (atL f.1 0).bind fun k=>
 (jn (wrap .i64 (s.Cols-1)) t f.2).bind fun h=>
 (wy (jF.mk c.1 d.1 x j l e.1 k h.1) s t).bind fun i=>
 some ((jF.mk c.1 d.1 x j l e.1 k h.1),i))
theorem U9 {b s t r} (h:yu b s t=some r):Call tab ow 89 [sl eU8 b,.agg [I s.Rows,I s.Cols,I s.Publics,sl aV s.A,sl aV s.B,sl aV s.C],.agg [I t.Rate,I t.Queries,I t.Grind]] []=some (.tup [.agg [S r.1.Root,sl (eL aG) r.1.Gates,I r.1.VA.A,I r.1.VA.B,I r.1.VB.A,I r.1.VB.B,I r.1.VC.A,I r.1.VC.B,sl (eL aG) r.1.Wires,I r.1.VW.A,I r.1.VW.B,sl (eL aG) r.1.Open.Rounds,sl eS r.1.Open.Roots,I r.1.Open.Last.A,I r.1.Open.Last.B,I r.1.Open.Nonce,sl db r.1.Open.Queries],B r.2],[]):=by
 rw [ak (af:=xn) rfl]
 unfold yu at h
 simp only [xn,IL]
 have d1:= @IQ
 have d2:= @sM
 have d3:= @wi
 have d4:= @nk
 have d5:= @EM
 have d6:= @Hj
 exact go2
def oL (e:List Ext) (i:Int) (w:List Ext) (u t k p q v s o m n r:Int):Int×Int×Int->Option ((Int×Int×Int)⊕((Int×Bool×Int×Int)))
 | (a,b,c)=>
   br (decide (a<k)) (
   br (a !=i) (
   (i5 (Ext.mk p q) (Ext.mk a 0)).bind fun l=>
   (du (Ext.mk b c) l).bind fun f=>
   (O3 i a).bind fun j=>
   (wC j).bind fun h=>
   (ip f h).bind fun d=>
   some (.inl ((wrap .i64 (a+1)),d.A,d.B))) (
   some (.inl ((wrap .i64 (a+1)),b,c)))) (
   some (.inr (a,decide (a<k),b,c)))
theorem Yj {a i l m k r p q n f d b c j}:LXe tab ow (.close [11004,11005,11008,11009,11010]) Lz (oL a i l m k r p q n f d b c j) (fun s=>⟨[(0,sl aG a),(3,.ptr 1000 0 0 1),(4,.ptr 1001 0 0 1),(5,.ptr 2001 0 0 1),(6,I i),(8,.ptr 6001 0 0 1),(11,sl aG l),(12,I m),(13,I k),(20,I r),(21,I s.1)],[(1000,⟨2,true,[[I p,I q]]⟩),(1001,⟨2,true,[[I n,I f]]⟩),(2001,⟨2,true,[[I d,I b]]⟩),(5003,⟨2,true,[[I c,I j]]⟩),(6001,⟨2,true,[[I s.2.1,I s.2.2]]⟩)]⟩) 2 (fun e=>(e.1,e.2.2.1,e.2.2.2)) (fun e=>[(22,B e.2.1)]):=by
 refine lrX (fun s o h=> ?_)
 obtain ⟨_,_,_⟩:=s
 simp only [oL] at h
 simp only [Lz,Lu]
 have d1:= @kC
 have d2:= @fP
 have d3:= @Y6
 have d4:= @OW
 have d5:= @nS
 exact go2
def oS (a t:List Ext) (f c l k m:Int):Int×Int×Int->Option ((Int×Int×Int)⊕((Int×Bool×Int×Int)))
 | (b,h,i)=>
   br (decide (b<f)) (
   (atL t b).bind fun e=>
   (Loop (oL a b t f b (a.length:Int) c l k m h i e.A e.B) (0,e.A,e.B)).bind fun j=>
   (fK (Ext.mk h i) (Ext.mk j.2.2.1 j.2.2.2)).bind fun d=>
   some (.inl ((wrap .i64 (b+1)),d.A,d.B))) (
   some (.inr (b,decide (b<f),h,i)))
theorem Xm {a t b c f d i}:LXe tab ow (.close [5003,6001,11004,11005,11008,11009,11010,13002]) KD (oS a t b c f d i) (fun s=>⟨[(0,sl aG a),(3,.ptr 1000 0 0 1),(4,.ptr 1001 0 0 1),(5,.ptr 2001 0 0 1),(11,sl aG t),(12,I b),(13,I s.1)],[(1000,⟨2,true,[[I c,I f]]⟩),(1001,⟨2,true,[[I d,I i]]⟩),(2001,⟨2,true,[[I s.2.1,I s.2.2]]⟩)]⟩) 0 (fun e=>(e.1,e.2.2.1,e.2.2.2)) (fun e=>[(14,B e.2.1)]):=by
 refine lrX (fun s o h=> ?_)
 obtain ⟨_,_,_⟩:=s
 simp only [oS] at h
 simp only [KD,KA]
 have d1:= @Yj
 have d2:= @gS
 exact go2
def D6 (a:List Ext) (x:Ext):Option Ext:=
 (Loop (oS a a (a.length:Int) x.A x.B 0 0) (0,0,0)).bind fun b=>
 some (Ext.mk b.2.2.1 b.2.2.2)
theorem Qj {a x r} (h:D6 a x=some r):Call tab ow 326 [sl aG a,.agg [I x.A,I x.B]] []=some (.agg [I r.A,I r.B],[]):=by
 rw [ak (af:=Eg) rfl]
 unfold D6 at h
 simp only [Eg,E9]
 have d1:= @Xm
 exact go2
def Nu (a:Int):Option Unit:=
 some ()
theorem ZW {a r} (h:Nu a=some r):Call tab ow 298 [I a] []=some (.tup [],[]):=by
 rw [ak (af:=BQ) rfl]
 unfold Nu at h
 simp only [BQ,Om]
 exact go2
section
attribute [local go_sem] fh
@[local go_sem] theorem ya:mkR 12005 []=rws aG []:=rfl
def bO (b:Int) (t:List (List Ext)) (o u v:Int):(List Ext)×Int×(List Ext)×Int×(List UInt8)×Int×Int×Int->Option (((List Ext)×Int×(List Ext)×Int×(List UInt8)×Int×Int×Int)⊕(((List Ext)×Int×(List Ext)×Int×(List UInt8)×Int×Int×Int)⊕((List Ext)×Int×Bool×(List Ext)×Int×(List UInt8)×Int×Int×Int)))
 | (l,d,c,h,f,k,e,j)=>
   br (decide (d<o)) (
   (atL t d).bind fun x=>
   (rA b).bind fun r=>
   br ((x.length:Int) !=(wrap .i64 (r+1))) (
   some (.inr (.inl (l,18,c,h,f,k,e,j)))) (
   (atL x 0).bind fun q=>
   (atL x 1).bind fun s=>
   (fK q s).bind fun i=>
   br (i.A==e) (
   br (i.B==j) (
   (bL x (Source.mk c h f k)).bind fun n=>
   (il n).bind fun a=>
   (D6 x a.1).bind fun m=>
   br (bj ((l++([a.1]:List Ext)).length) 16) (
   (Nu d).bind fun p=>
   some (.inl ((l++([a.1]:List Ext)),(wrap .i64 (d+1)),a.2.Script,a.2.At,a.2.State,a.2.Count,m.A,m.B))) none) (
   some (.inr (.inl (l,10,c,h,f,k,e,j))))) (
   some (.inr (.inl (l,10,c,h,f,k,e,j)))))) (
   some (.inr (.inr (l,d,decide (d<o),c,h,f,k,e,j))))
abbrev j8 (e f:Int) (l c:List Ext) (d:Int) (b:List UInt8) (i a h:Int):List (Nat×Blk):=[(0,⟨4,true,[[sl aG c,I d,S b,I i]]⟩),(1000,⟨2,true,[[I a,I h]]⟩),(1002,⟨2,true,[[I e,I f]]⟩),(2000,⟨2,false,rws aG l⟩)]
theorem wO {a t d b c}:LX tab ow (.close [6003,8006,10002,11001,11002,12002,12005,12006,13002]) kn (bO a t d b c) (fun s=>⟨[(0,.ptr 0 0 0 1),(1,I a),(4,.fn 298 []),(7,.ptr 1000 0 0 1),(11,.ptr 1002 0 0 1),(13,.sl 2000 0 s.1.length),(18,sl (eL aG) t),(19,I d),(20,I s.2.1)],j8 b c s.1 s.2.2.1 s.2.2.2.1 s.2.2.2.2.1 s.2.2.2.2.2.1 s.2.2.2.2.2.2.1 s.2.2.2.2.2.2.2⟩) (alt (fun e=>((.ret,⟨[(10,.lit (.slice none 0 0)),(11,.ptr 1002 0 0 1),(12,I e.2.1)],[(0,⟨4,true,[[sl aG e.2.2.1,I e.2.2.2.1,S e.2.2.2.2.1,I e.2.2.2.2.2.1]]⟩),(1000,⟨2,true,[[I e.2.2.2.2.2.2.1,I e.2.2.2.2.2.2.2]]⟩),(1002,⟨2,true,[[I 0,I 0]]⟩),(2000,⟨2,false,rws aG e.1⟩)]⟩):dd×St)) (fun e=>(.exit 0,⟨[(0,.ptr 0 0 0 1),(1,I a),(4,.fn 298 []),(7,.ptr 1000 0 0 1),(11,.ptr 1002 0 0 1),(13,.sl 2000 0 e.1.length),(18,sl (eL aG) t),(19,I d),(20,I e.2.1),(21,B e.2.2.1)],j8 b c e.1 e.2.2.2.1 e.2.2.2.2.1 e.2.2.2.2.2.1 e.2.2.2.2.2.2.1 e.2.2.2.2.2.2.2.1 e.2.2.2.2.2.2.2.2⟩))):=by
 refine lrX (fun s o h=> ?_)
 obtain ⟨_,_,_,_,_,_,_,_⟩:=s
 simp only [bO] at h
 simp only [j8,kn,oA]
 have d1:= @EP
 have d2:= @gS
 have d3:= @dy
 have d4:= @pg
 have d5:= @Qj
 have d6:= @ZW
 exact go2
def da (e:Int) (c:Ext) (b:(List (List Ext))) (m:Source):Option ((List Ext)×Ext×Int×Source):=
 (Loop (bO e b (b.length:Int) 0 0) (([]:List Ext),0,m.Script,m.At,m.State,m.Count,c.A,c.B)).bind (alt (fun d=>
 some (([]:List Ext),(Ext.mk 0 0),d.2.1,(Source.mk d.2.2.1 d.2.2.2.1 d.2.2.2.2.1 d.2.2.2.2.2.1))) (fun a=>
 some (a.1,(Ext.mk a.2.2.2.2.2.2.2.1 a.2.2.2.2.2.2.2.2),0,(Source.mk a.2.2.2.1 a.2.2.2.2.1 a.2.2.2.2.2.1 a.2.2.2.2.2.2.1))))
theorem yy {c a b m r} (h:da c a b m=some r):Call tab ow 219 [.ptr 0 0 0 1,I c,.agg [I a.A,I a.B],sl (eL aG) b,.fn 298 []] [⟨4,true,[[sl aG m.Script,I m.At,S m.State,I m.Count]]⟩]=some (.tup [sl aG r.1,.agg [I r.2.1.A,I r.2.1.B],I r.2.2.1],[⟨4,true,[[sl aG r.2.2.2.Script,I r.2.2.2.At,S r.2.2.2.State,I r.2.2.2.Count]]⟩]):=by
 rw [ak (af:=hS) rfl]
 unfold da at h
 simp only [hS,mI]
 have d1:= @wO
 exact go2
end
def ua (l t:List Ext) (m c r:Int):Int×Int×Int->Option ((Int×Int×Int)⊕((Int×Bool×Int×Int)))
 | (a,n,o)=>
   br (decide (a<m)) (
   (atL t a).bind fun x=>
   (atL l a).bind fun p=>
   (du x p).bind fun j=>
   (OL).bind fun e=>
   (i5 e x).bind fun f=>
   (OL).bind fun k=>
   (atL l a).bind fun q=>
   (i5 k q).bind fun d=>
   (du f d).bind fun h=>
   (fK j h).bind fun i=>
   (du (Ext.mk n o) i).bind fun b=>
   some (.inl ((wrap .i64 (a+1)),b.A,b.B))) (
   some (.inr (a,decide (a<m),n,o)))
theorem a1V {d t a c b}:LXe tab ow (.close [5003,6006,6007,6009,6010,6015,6016,6017,6018]) Ru (ua d t a c b) (fun s=>⟨[(1,sl aG d),(4,.ptr 1000 0 0 1),(5,.ptr 2001 0 0 1),(9,sl aG t),(10,I a),(11,I s.1)],[(1000,⟨2,true,[[I c,I b]]⟩),(2001,⟨2,true,[[I s.2.1,I s.2.2]]⟩)]⟩) 0 (fun e=>(e.1,e.2.2.1,e.2.2.2)) (fun e=>[(12,B e.2.1)]):=by
 refine lrX (fun s o h=> ?_)
 obtain ⟨_,_,_⟩:=s
 simp only [ua] at h
 simp only [Ru,Ql]
 have d1:= @fP
 have d2:= @PZ
 have d3:= @kC
 have d4:= @gS
 exact go2
def JC (a b:List Ext):Option Ext:=
 (OL).bind fun c=>
 (Loop (ua b a (a.length:Int) 0 0) (0,c.A,c.B)).bind fun d=>
 some (Ext.mk d.2.2.1 d.2.2.2)
theorem Zw {a b r} (h:JC a b=some r):Call tab ow 222 [sl aG a,sl aG b] []=some (.agg [I r.A,I r.B],[]):=by
 rw [ak (af:=L9) rfl]
 unfold JC at h
 simp only [L9,SG]
 have d1:= @PZ
 have d2:= @a1V
 exact go2
def Aj (s:bD) (a:List Int) (b:List Ext):Option Ext:=
 (jP s a ([]:List Int)).bind fun h=>
 (fg s).bind fun d=>
 (qA h 0 d).bind fun y=>
 (As y).bind fun e=>
 (mb b).bind fun c=>
 (GG e c).bind fun f=>
 some f
theorem W8 {s a b r} (h:Aj s a b=some r):Call tab ow 301 [.agg [I s.Rows,I s.Cols,I s.Publics,sl aV s.A,sl aV s.B,sl aV s.C],sl eI a,sl aG b] []=some (.agg [I r.A,I r.B],[]):=by
 rw [ak (af:=zF) rfl]
 unfold Aj at h
 simp only [zF,M8]
 have d1:= @Bv
 have d2:= @ma
 have d3:= @Dq
 have d4:= @uA
 have d5:= @VM
 exact go2
def nT (k m:Int) (a:bK) (b:Source):Option (Int×bK×Source):=
 br (decide (k<(wrap .i64 (m-1)))) (
 (atL a.Roots k).bind fun x=>
 br (bj x.length 1) (
 (dJ x b).bind fun c=>
 some (m,a,c)) none) (
 some (m,a,b))
theorem JQ {k m a b r} (h:nT k m a b=some r):Call tab ow 220 [I k,.ptr 0 0 0 1,.ptr 1 0 0 1,.ptr 2 0 0 1] [⟨1,true,[[I m]]⟩,⟨1,true,[[.ptr 3 0 0 1]]⟩,⟨6,true,[[sl (eL aG) a.Rounds,sl eS a.Roots,I a.Last.A,I a.Last.B,I a.Nonce,sl db a.Queries]]⟩,⟨4,true,[[sl aG b.Script,I b.At,S b.State,I b.Count]]⟩]=some (.tup [],[⟨1,true,[[I r.1]]⟩,⟨1,true,[[.ptr 3 0 0 1]]⟩,⟨6,true,[[sl (eL aG) r.2.1.Rounds,sl eS r.2.1.Roots,I r.2.1.Last.A,I r.2.1.Last.B,I r.2.1.Nonce,sl db r.2.1.Queries]]⟩,⟨4,true,[[sl aG r.2.2.Script,I r.2.2.At,S r.2.2.State,I r.2.2.Count]]⟩]):=by
 rw [ak (af:=oJ) rfl]
 unfold nT at h
 simp only [oJ,Ax]
 have d1:= @gu
 exact go2
section
attribute [local go_sem] fh ya
def bn (i:Int) (t:List (List Ext)) (y c14 c15:Int):(List Ext)×Int×(List Ext)×Int×(List UInt8)×Int×Int×(List (List Ext))×(List (List UInt8))×Int×Int×Int×(List cw)×Int×Int->Option (((List Ext)×Int×(List Ext)×Int×(List UInt8)×Int×Int×(List (List Ext))×(List (List UInt8))×Int×Int×Int×(List cw)×Int×Int)⊕(((List Ext)×Int×(List Ext)×Int×(List UInt8)×Int×Int×(List (List Ext))×(List (List UInt8))×Int×Int×Int×(List cw)×Int×Int)⊕((List Ext)×Int×Bool×(List Ext)×Int×(List UInt8)×Int×Int×(List (List Ext))×(List (List UInt8))×Int×Int×Int×(List cw)×Int×Int)))
 | (l,j,c,r,n,k,v,u,o,p,q,f,e,b,d)=>
   br (decide (j<y)) (
   (atL t j).bind fun x=>
   (rA i).bind fun z=>
   br ((x.length:Int) !=(wrap .i64 (z+1))) (
   some (.inr (.inl (l,18,c,r,n,k,v,u,o,p,q,f,e,b,d)))) (
   (atL x 0).bind fun x2=>
   (atL x 1).bind fun x3=>
   (fK x2 x3).bind fun s=>
   br (s.A==b) (
   br (s.B==d) (
   (bL x (Source.mk c r n k)).bind fun w=>
   (il w).bind fun h=>
   (D6 x h.1).bind fun m=>
   br (bj ((l++([h.1]:List Ext)).length) 16) (
   (nT j v (bK.mk u o (Ext.mk p q) f e) h.2).bind fun a=>
   some (.inl ((l++([h.1]:List Ext)),(wrap .i64 (j+1)),a.2.2.Script,a.2.2.At,a.2.2.State,a.2.2.Count,a.1,a.2.1.Rounds,a.2.1.Roots,a.2.1.Last.A,a.2.1.Last.B,a.2.1.Nonce,a.2.1.Queries,m.A,m.B))) none) (
   some (.inr (.inl (l,10,c,r,n,k,v,u,o,p,q,f,e,b,d))))) (
   some (.inr (.inl (l,10,c,r,n,k,v,u,o,p,q,f,e,b,d)))))) (
   some (.inr (.inr (l,j,decide (j<y),c,r,n,k,v,u,o,p,q,f,e,b,d))))
abbrev g7 (h f:Int) (l c:List Ext) (m:Int) (j:List UInt8) (q i:Int) (p:List (List Ext)) (n:List (List UInt8)) (o k e:Int) (d:List cw) (a b:Int):List (Nat×Blk):=[(0,⟨4,true,[[sl aG c,I m,S j,I q]]⟩),(1,⟨1,true,[[I i]]⟩),(2,⟨1,true,[[.ptr 0 0 0 1]]⟩),(3,⟨6,true,[[sl (eL aG) p,sl eS n,I o,I k,I e,sl db d]]⟩),(1000,⟨2,true,[[I a,I b]]⟩),(1002,⟨2,true,[[I h,I f]]⟩),(2000,⟨2,false,rws aG l⟩)]
theorem sa {a t d c b}:LX tab ow (.close [6003,8006,10002,11001,11002,12002,12005,12006,13002]) kn (bn a t d c b) (fun s=>⟨[(0,.ptr 0 0 0 1),(1,I a),(4,.fn 220 [.ptr 1 0 0 1,.ptr 2 0 0 1,.ptr 3 0 0 1]),(7,.ptr 1000 0 0 1),(11,.ptr 1002 0 0 1),(13,.sl 2000 0 s.1.length),(18,sl (eL aG) t),(19,I d),(20,I s.2.1)],g7 c b s.1 s.2.2.1 s.2.2.2.1 s.2.2.2.2.1 s.2.2.2.2.2.1 s.2.2.2.2.2.2.1 s.2.2.2.2.2.2.2.1 s.2.2.2.2.2.2.2.2.1 s.2.2.2.2.2.2.2.2.2.1 s.2.2.2.2.2.2.2.2.2.2.1 s.2.2.2.2.2.2.2.2.2.2.2.1 s.2.2.2.2.2.2.2.2.2.2.2.2.1 s.2.2.2.2.2.2.2.2.2.2.2.2.2.1 s.2.2.2.2.2.2.2.2.2.2.2.2.2.2⟩) (alt (fun e=>((.ret,⟨[(10,.lit (.slice none 0 0)),(11,.ptr 1002 0 0 1),(12,I e.2.1)],[(0,⟨4,true,[[sl aG e.2.2.1,I e.2.2.2.1,S e.2.2.2.2.1,I e.2.2.2.2.2.1]]⟩),(1,⟨1,true,[[I e.2.2.2.2.2.2.1]]⟩),(2,⟨1,true,[[.ptr 0 0 0 1]]⟩),(3,⟨6,true,[[sl (eL aG) e.2.2.2.2.2.2.2.1,sl eS e.2.2.2.2.2.2.2.2.1,I e.2.2.2.2.2.2.2.2.2.1,I e.2.2.2.2.2.2.2.2.2.2.1,I e.2.2.2.2.2.2.2.2.2.2.2.1,sl db e.2.2.2.2.2.2.2.2.2.2.2.2.1]]⟩),(1000,⟨2,true,[[I e.2.2.2.2.2.2.2.2.2.2.2.2.2.1,I e.2.2.2.2.2.2.2.2.2.2.2.2.2.2]]⟩),(1002,⟨2,true,[[I 0,I 0]]⟩),(2000,⟨2,false,rws aG e.1⟩)]⟩):dd×St)) (fun e=>(.exit 0,⟨[(0,.ptr 0 0 0 1),(1,I a),(4,.fn 220 [.ptr 1 0 0 1,.ptr 2 0 0 1,.ptr 3 0 0 1]),(7,.ptr 1000 0 0 1),(11,.ptr 1002 0 0 1),(13,.sl 2000 0 e.1.length),(18,sl (eL aG) t),(19,I d),(20,I e.2.1),(21,B e.2.2.1)],g7 c b e.1 e.2.2.2.1 e.2.2.2.2.1 e.2.2.2.2.2.1 e.2.2.2.2.2.2.1 e.2.2.2.2.2.2.2.1 e.2.2.2.2.2.2.2.2.1 e.2.2.2.2.2.2.2.2.2.1 e.2.2.2.2.2.2.2.2.2.2.1 e.2.2.2.2.2.2.2.2.2.2.2.1 e.2.2.2.2.2.2.2.2.2.2.2.2.1 e.2.2.2.2.2.2.2.2.2.2.2.2.2.1 e.2.2.2.2.2.2.2.2.2.2.2.2.2.2.1 e.2.2.2.2.2.2.2.2.2.2.2.2.2.2.2⟩))):=by
 refine lrX (fun s o h=> ?_)
 obtain ⟨_,_,_,_,_,_,_,_,_,_,_,_,_,_,_⟩:=s
 simp only [bn] at h
 simp only [g7,kn,oA]
 have d1:= @EP
 have d2:= @gS
 have d3:= @dy
 have d4:= @pg
 have d5:= @Qj
 have d6:= @JQ
 exact go2
def eY (f:Int) (d:Ext) (c:(List (List Ext))) (m:Source) (h:Int) (e:bK):Option ((List Ext)×Ext×Int×Source×Int×bK):=
 (Loop (bn f c (c.length:Int) 0 0) (([]:List Ext),0,m.Script,m.At,m.State,m.Count,h,e.Rounds,e.Roots,e.Last.A,e.Last.B,e.Nonce,e.Queries,d.A,d.B)).bind (alt (fun b=>
 some (([]:List Ext),(Ext.mk 0 0),b.2.1,(Source.mk b.2.2.1 b.2.2.2.1 b.2.2.2.2.1 b.2.2.2.2.2.1),b.2.2.2.2.2.2.1,(bK.mk b.2.2.2.2.2.2.2.1 b.2.2.2.2.2.2.2.2.1 (Ext.mk b.2.2.2.2.2.2.2.2.2.1 b.2.2.2.2.2.2.2.2.2.2.1) b.2.2.2.2.2.2.2.2.2.2.2.1 b.2.2.2.2.2.2.2.2.2.2.2.2.1))) (fun a=>
 some (a.1,(Ext.mk a.2.2.2.2.2.2.2.2.2.2.2.2.2.2.1 a.2.2.2.2.2.2.2.2.2.2.2.2.2.2.2),0,(Source.mk a.2.2.2.1 a.2.2.2.2.1 a.2.2.2.2.2.1 a.2.2.2.2.2.2.1),a.2.2.2.2.2.2.2.1,(bK.mk a.2.2.2.2.2.2.2.2.1 a.2.2.2.2.2.2.2.2.2.1 (Ext.mk a.2.2.2.2.2.2.2.2.2.2.1 a.2.2.2.2.2.2.2.2.2.2.2.1) a.2.2.2.2.2.2.2.2.2.2.2.2.1 a.2.2.2.2.2.2.2.2.2.2.2.2.2.1))))
theorem tc {c a b m e d r} (h:eY c a b m e d=some r):Call tab ow 219 [.ptr 0 0 0 1,I c,.agg [I a.A,I a.B],sl (eL aG) b,.fn 220 [.ptr 1 0 0 1,.ptr 2 0 0 1,.ptr 3 0 0 1]] [⟨4,true,[[sl aG m.Script,I m.At,S m.State,I m.Count]]⟩,⟨1,true,[[I e]]⟩,⟨1,true,[[.ptr 0 0 0 1]]⟩,⟨6,true,[[sl (eL aG) d.Rounds,sl eS d.Roots,I d.Last.A,I d.Last.B,I d.Nonce,sl db d.Queries]]⟩]=some (.tup [sl aG r.1,.agg [I r.2.1.A,I r.2.1.B],I r.2.2.1],[⟨4,true,[[sl aG r.2.2.2.1.Script,I r.2.2.2.1.At,S r.2.2.2.1.State,I r.2.2.2.1.Count]]⟩,⟨1,true,[[I r.2.2.2.2.1]]⟩,⟨1,true,[[.ptr 0 0 0 1]]⟩,⟨6,true,[[sl (eL aG) r.2.2.2.2.2.Rounds,sl eS r.2.2.2.2.2.Roots,I r.2.2.2.2.2.Last.A,I r.2.2.2.2.2.Last.B,I r.2.2.2.2.2.Nonce,sl db r.2.2.2.2.2.Queries]]⟩]):=by
 rw [ak (af:=hS) rfl]
 unfold eY at h
 simp only [hS,mI]
 have d1:= @sa
 exact go2
end
def D5 (b:List UInt8):Option Bool:=
 (yt b).bind fun a=>
 some (!a)
theorem a1i {a r} (h:D5 a=some r):Call tab ow 370 [S a] []=some (B r,[]):=by
 rw [ak (af:=BY) rfl]
 unfold D5 at h
 simp only [BY,OQ]
 have d1:= @EC
 exact go2
end
end Go.AI.Fn
set_option linter.unusedVariables false
set_option linter.unusedSimpArgs false
set_option maxRecDepth 100000
set_option maxHeartbeats 1000000
namespace Go.AI.Fn
noncomputable section
open IntKind (wrap)
def dm (b:List (List UInt8)) (t:Int):Int->Option ((Int)⊕(Int⊕(Int×Bool)))
 |a=>
  br (decide (a<t)) (
  (atL b a).bind fun x=>
  (D5 x).bind fun c=>
  br c (
  some (.inr (.inl a))) (
  some (.inl (wrap .i64 (a+1))))) (
  some (.inr (.inr (a,decide (a<t)))))
theorem o2 {a t}:LX tab ow (.close [5005]) ez (dm a t) (fun s=>⟨[(0,sl eS a),(1,.fn 370 []),(7,I t),(8,I s)],[]⟩) (alt (fun e=>((.ret,⟨[(4,I e)],[]⟩):dd×St)) (fun e=>(.exit 0,⟨[(0,sl eS a),(1,.fn 370 []),(7,I t),(8,I e.1),(9,B e.2)],[]⟩))):=by
 refine lrX (fun s o h=> ?_)
 simp only [dm] at h
 simp only [ez,gL]
 have d1:= @a1i
 exact go2
def dF (s:(List (List UInt8))):Option Int:=
 (Loop (dm s (s.length:Int)) 0).bind (alt (fun a=>
 some a) (fun b=>
 some (-1:Int)))
theorem pi {s r} (h:dF s=some r):Call tab ow 333 [sl eS s,.fn 370 []] []=some (I r,[]):=by
 rw [ak (af:=cY) rfl]
 unfold dF at h
 simp only [cY,eX]
 have d1:= @o2
 exact go2
def cF (s:(List (List UInt8))):Option Bool:=
 (dF s).bind fun a=>
 some (decide (a>=0))
theorem nD {s r} (h:cF s=some r):Call tab ow 238 [sl eS s,.fn 370 []] []=some (B r,[]):=by
 rw [ak (af:=cI) rfl]
 unfold cF at h
 simp only [cI,gk]
 have d1:= @pi
 exact go2
section
@[local go_sem] theorem c3K:mkR 2002 []=rws eS []:=rfl
@[local go_sem] theorem c2u:mkR 9004 []=rws eS []:=rfl
def rH (h:Int) (t:List (List UInt8)) (e:Int):(List (List UInt8))×Int->Option (((List (List UInt8))×Int)⊕(((List (List UInt8))×Int×Bool)))
 | (l,a)=>
   br (decide (a<e)) (
   (atL t a).bind fun x=>
   br (decide (0<=a)) (
   br (decide (a.toNat<l.length)) (
   (l[a.toNat]?).bind fun f=>
   (v6 f).bind fun c=>
   br (decide (0<=a)) (
   br ((de .i64 (cc .i64 h a) 1)==1) (
   (u7 x c).bind fun d=>
   br (bj ((l++([d]:List (List UInt8))).length) 16) (
   some (.inl ((l++([d]:List (List UInt8))),(wrap .i64 (a+1))))) none) (
   (u7 c x).bind fun b=>
   br (bj ((l++([b]:List (List UInt8))).length) 16) (
   some (.inl ((l++([b]:List (List UInt8))),(wrap .i64 (a+1))))) none)) none) none) none) (
   some (.inr (l,a,decide (a<e))))
theorem a1v {b t a}:LXe tab ow (.close [6004,9003,9004,9005]) OI (rH b t a) (fun s=>⟨[(0,I b),(7,.sl 2002 0 s.1.length),(14,sl eS t),(15,I a),(16,I s.2)],[(2002,⟨1,false,rws eS s.1⟩)]⟩) 0 (fun e=>(e.1,e.2.1)) (fun e=>[(17,B e.2.2)]):=by
 refine lrX (fun s o h=> ?_)
 obtain ⟨_,_⟩:=s
 simp only [rH] at h
 simp only [OI,Od]
 have d1:= @Ar
 have d2:= @KZ
 exact go2
def MC (i:Int) (b:List UInt8) (a:(List (List UInt8))):Option ((List (List UInt8))):=
 (wM b).bind fun c=>
 (Loop (rH i a (a.length:Int)) (([c]:List (List UInt8)),0)).bind fun d=>
 some d.1
theorem a6F {i b a r} (h:MC i b a=some r):Call tab ow 371 [I i,S b,sl eS a] []=some (sl eS r,[]):=by
 rw [ak (af:=HM) rfl]
 unfold MC at h
 simp only [HM,MX]
 have d1:= @KV
 have d2:= @a1v
 exact go2
end
def HL (c:List UInt8) (n i:Int) (b:List UInt8) (a:(List (List UInt8))):Option Bool:=
 br (decide ((b.length:Int)>64)) (
 some false) (
 (Hx n).bind fun h=>
 br ((a.length:Int) !=h) (
 some false) (
 (cF a).bind fun f=>
 br f (
 some false) (
 (MC i b a).bind fun d=>
 (atL d (wrap .i64 ((d.length:Int)-1))).bind fun x=>
 (v6 x).bind fun e=>
 some (e==c))))
theorem a83 {a n i c b r} (h:HL a n i c b=some r):Call tab ow 327 [S a,I n,I i,S c,sl eS b] []=some (B r,[]):=by
 rw [ak (af:=Hn) rfl]
 unfold HL at h
 simp only [Hn,UG]
 have d1:= @NP
 have d2:= @nD
 have d3:= @a6F
 have d4:= @Ar
 exact go2
section
attribute [local go_sem] oV
def g8 (t:List Ext) (f:Int) (y:List (List UInt8)) (o:Int) (c:List (List Ext)) (c2:List (List UInt8)) (c3 c4 c5:Int) (c6:List cw) (p:List Ext) (s:List (List (List UInt8))):Int×Int×Int×Int->Option ((Int×Int×Int×Int)⊕((Int×Int×Int×Int×Int×Int)⊕(Int×Int×Int×Int×Int×Int×Int×Int)⊕(Int×Int×Bool×Int×Int)))
 | (h,a,i,e)=>
   br (decide (a<o)) (
   (atL y a).bind fun x=>
   br (decide (0<=a)) (
   br (decide ((wrap .i64 ((cc .i64 f a).tdiv 2))≠0)) (
   (atL p (wrap .i64 (2*a))).bind fun d=>
   (atL p (wrap .i64 ((wrap .i64 (2*a))+1))).bind fun b=>
   (iw ([d,b]:List Ext)).bind fun q=>
   (atL s a).bind fun r=>
   (HL x (wrap .i64 ((cc .i64 f a).tdiv 2)) (h.tmod (wrap .i64 ((cc .i64 f a).tdiv 2))) q r).bind fun n=>
   br (!n) (
   some (.inr (.inl (i,e,d.A,d.B,b.A,b.B)))) (
   br (decide (h>=(wrap .i64 ((cc .i64 f a).tdiv 2)))) (
   br (decide (a>0)) (
   br (b.A==i) (
   br (b.B==e) (
   (atL t a).bind fun w=>
   (oN (cc .i64 f a) (h.tmod (wrap .i64 ((cc .i64 f a).tdiv 2))) d b w).bind fun m=>
   some (.inl ((h.tmod (wrap .i64 ((cc .i64 f a).tdiv 2))),(wrap .i64 (a+1)),m.A,m.B))) (
   some (.inr (.inr (.inl (i,e,d.A,d.B,b.A,b.B,b.A,b.B)))))) (
   some (.inr (.inr (.inl (i,e,d.A,d.B,b.A,b.B,b.A,b.B)))))) (
   (atL t a).bind fun u=>
   (oN (cc .i64 f a) (h.tmod (wrap .i64 ((cc .i64 f a).tdiv 2))) d b u).bind fun l=>
   some (.inl ((h.tmod (wrap .i64 ((cc .i64 f a).tdiv 2))),(wrap .i64 (a+1)),l.A,l.B)))) (
   br (decide (a>0)) (
   br (d.A==i) (
   br (d.B==e) (
   (atL t a).bind fun z=>
   (oN (cc .i64 f a) (h.tmod (wrap .i64 ((cc .i64 f a).tdiv 2))) d b z).bind fun j=>
   some (.inl ((h.tmod (wrap .i64 ((cc .i64 f a).tdiv 2))),(wrap .i64 (a+1)),j.A,j.B))) (
   some (.inr (.inr (.inl (i,e,d.A,d.B,b.A,b.B,d.A,d.B)))))) (
   some (.inr (.inr (.inl (i,e,d.A,d.B,b.A,b.B,d.A,d.B)))))) (
   (atL t a).bind fun v=>
   (oN (cc .i64 f a) (h.tmod (wrap .i64 ((cc .i64 f a).tdiv 2))) d b v).bind fun k=>
   some (.inl ((h.tmod (wrap .i64 ((cc .i64 f a).tdiv 2))),(wrap .i64 (a+1)),k.A,k.B)))))) none) none) (
   some (.inr (.inr (.inr (h,a,decide (a<o),i,e)))))
abbrev wo (c:List (List Ext)) (f:List (List UInt8)) (d k b:Int) (j:List cw) (h:List Ext) (i:List (List (List UInt8))) (e a:Int):List (Nat×Blk):=[(1000,⟨6,true,[[sl (eL aG) c,sl eS f,I d,I k,I b,sl db j]]⟩),(1001,⟨2,true,[[sl aG h,sl (eL eS) i]]⟩),(2001,⟨2,true,[[I e,I a]]⟩)]
theorem NB {t l m n c d b k a j f i}:LX tab ow (.close [7017,7018,8006,8007,8014,10001,15008]) CP (g8 t l m n c d b k a j f i) (fun s=>⟨[(1,sl aG t),(2,I l),(3,I s.1),(10,.ptr 1000 0 0 1),(11,.ptr 1001 0 0 1),(13,.ptr 2001 0 0 1),(22,sl eS m),(23,I n),(24,I s.2.1)],wo c d b k a j f i s.2.2.1 s.2.2.2⟩) (alt (fun e=>((.ret,⟨[(12,I 9)],[(1000,⟨6,true,[[sl (eL aG) c,sl eS d,I b,I k,I a,sl db j]]⟩),(1001,⟨2,true,[[sl aG f,sl (eL eS) i]]⟩),(2001,⟨2,true,[[I e.1,I e.2.1]]⟩),(7017,⟨2,true,[[I e.2.2.1,I e.2.2.2.1]]⟩),(7018,⟨2,true,[[I e.2.2.2.2.1,I e.2.2.2.2.2]]⟩),(8006,kf)]⟩):dd×St)) (alt (fun e=>((.ret,⟨[(12,I 12)],[(1000,⟨6,true,[[sl (eL aG) c,sl eS d,I b,I k,I a,sl db j]]⟩),(1001,⟨2,true,[[sl aG f,sl (eL eS) i]]⟩),(2001,⟨2,true,[[I e.1,I e.2.1]]⟩),(7017,⟨2,true,[[I e.2.2.1,I e.2.2.2.1]]⟩),(7018,⟨2,true,[[I e.2.2.2.2.1,I e.2.2.2.2.2.1]]⟩),(8006,kf),(10001,⟨2,true,[[I e.2.2.2.2.2.2.1,I e.2.2.2.2.2.2.2]]⟩)]⟩):dd×St)) (fun e=>(.exit 0,⟨[(1,sl aG t),(2,I l),(3,I e.1),(10,.ptr 1000 0 0 1),(11,.ptr 1001 0 0 1),(13,.ptr 2001 0 0 1),(22,sl eS m),(23,I n),(24,I e.2.1),(25,B e.2.2.1)],wo c d b k a j f i e.2.2.2.1 e.2.2.2.2⟩)))):=by
 refine lrX (fun s o h=> ?_)
 obtain ⟨_,_,_,_⟩:=s
 simp only [g8] at h
 simp only [wo,CP,CI]
 have d1:= @kz
 have d2:= @a83
 have d3:= @M1
 exact go2
def zu (b:(List (List UInt8))) (a:List Ext) (f i:Int) (c:bK) (e:cw):Option Int:=
 (Loop (g8 a f b (b.length:Int) c.Rounds c.Roots c.Last.A c.Last.B c.Nonce c.Queries e.Pairs e.Paths) (i,0,0,0)).bind (alt (fun j=>
 some 9) (alt (fun h=>
 some 12) (fun d=>
 br (d.2.2.2.1==c.Last.A) (
 br (d.2.2.2.2==c.Last.B) (
 some 0) (
 some 13)) (
 some 13))))
theorem Qz {b a e f c d r} (h:zu b a e f c d=some r):Call tab ow 228 [sl eS b,sl aG a,I e,I f,.agg [sl (eL aG) c.Rounds,sl eS c.Roots,I c.Last.A,I c.Last.B,I c.Nonce,sl db c.Queries],.agg [sl aG d.Pairs,sl (eL eS) d.Paths]] []=some (I r,[]):=by
 rw [ak (af:=vj) rfl]
 unfold zu at h
 simp only [vj,Au]
 have d1:= @NB
 exact go2
end
section
@[local go_sem] theorem a4Q:mkR 8003 []=rws aG []:=rfl
@[local go_sem] theorem a5S:mkR 12006 []=rws eS []:=rfl
def fH (l:List (List UInt8)) (t:List Ext) (o:Int) (n:List Int) (k:Int) (c:List Ext) (z:Int) (u:List UInt8) (s c5 c6 v w y:Int) (j:List (List Ext)) (h:List (List UInt8)) (e f i:Int) (d:List cw) (p q m:Int):Int->Option ((Int)⊕(Int⊕(Int×Bool)))
 |b=>
  br (decide (b<k)) (
  (atL n b).bind fun x=>
  (atL d b).bind fun r=>
  (zu l t o x (bK.mk j h (Ext.mk e f) i d) r).bind fun a=>
  br (a !=0) (
  some (.inr (.inl a))) (
  some (.inl (wrap .i64 (b+1))))) (
  some (.inr (.inr (b,decide (b<k)))))
abbrev oQ (l:List (List UInt8)) (c:List Ext) (p:Int) (n:List UInt8) (t m s q r o:Int) (f:List (List Ext)) (d:List (List UInt8)) (a b j:Int) (h:List cw) (e k i:Int):List (Nat×Blk):=[(0,⟨4,true,[[sl aG c,I p,S n,I t]]⟩),(1000,⟨1,true,[[.ptr 0 0 0 1]]⟩),(1001,⟨2,true,[[I m,I s]]⟩),(1002,⟨3,true,[[I q,I r,I o]]⟩),(1003,⟨6,true,[[sl (eL aG) f,sl eS d,I a,I b,I j,sl db h]]⟩),(2002,⟨1,true,[[I e]]⟩),(3010,⟨2,true,[[I k,I i]]⟩),(8003,kf),(12006,⟨1,false,rws eS l⟩)]
theorem K0 {l t t2 z t4 c w q p y x r u v m i d f j a k n b}:LX tab ow (.close [16010]) yW (fH l t t2 z t4 c w q p y x r u v m i d f j a k n b) (fun s=>⟨[(11,.ptr 1003 0 0 1),(14,sl aG t),(17,I t2),(18,.sl 12006 0 l.length),(82,sl eI z),(83,I t4),(84,I s)],oQ l c w q p y x r u v m i d f j a k n b⟩) (alt (fun e=>((.ret,⟨[(12,I e)],oQ l c w q p y x r u v m i d f j a k n b⟩):dd×St)) (fun e=>(.exit 1,⟨[(11,.ptr 1003 0 0 1),(14,sl aG t),(17,I t2),(18,.sl 12006 0 l.length),(82,sl eI z),(83,I t4),(84,I e.1),(85,B e.2)],oQ l c w q p y x r u v m i d f j a k n b⟩))):=by
 refine lrX (fun s o h=> ?_)
 simp only [fH] at h
 simp only [oQ,yW,yV]
 have d1:= @Qz
 exact go2
def qW (a:List UInt8) (p:List Ext) (n:Ext) (d:Setting) (q:bK) (m:Source):Option (Int×Source):=
 (eY 1 n q.Rounds m (p.length:Int) q).bind fun b=>
 br (b.2.2.1 !=0) (
 some (b.2.2.1,b.2.2.2.1)) (
 (JC b.1 p).bind fun l=>
 (du b.2.2.2.2.2.Last l).bind fun f=>
 br (f.A==b.2.1.A) (
 br (f.B==b.2.1.B) (
 (bL ([b.2.2.2.2.2.Last]:List Ext) b.2.2.2.1).bind fun e=>
 (pp e d.Grind b.2.2.2.2.2.Nonce).bind fun o=>
 br (!o) (
 some (14,e)) (
 (Ea b.2.2.2.2.2.Nonce).bind fun i=>
 (dJ i e).bind fun j=>
 br (decide (0<=(wrap .i64 (b.2.2.2.2.1+d.Rate)))) (
 br (bj ((([a]:List (List UInt8))++b.2.2.2.2.2.Roots).length) 16) (
 (gI d.Queries j).bind fun c=>
 (D0 c.1 (wrap .i64 ((ct .i64 1 (wrap .i64 (b.2.2.2.2.1+d.Rate))).tdiv 2))).bind fun h=>
 (Loop (fH (([a]:List (List UInt8))++b.2.2.2.2.2.Roots) b.1 (ct .i64 1 (wrap .i64 (b.2.2.2.2.1+d.Rate))) h (h.length:Int) c.2.Script c.2.At c.2.State c.2.Count n.A n.B d.Rate d.Queries d.Grind b.2.2.2.2.2.Rounds b.2.2.2.2.2.Roots b.2.2.2.2.2.Last.A b.2.2.2.2.2.Last.B b.2.2.2.2.2.Nonce b.2.2.2.2.2.Queries b.2.2.2.2.1 b.2.1.A b.2.1.B) 0).bind (alt (fun k=>
 some (k,c.2)) (fun r=>
 some (0,c.2)))) none) none)) (
 some (11,b.2.2.2.1))) (
 some (11,b.2.2.2.1)))
theorem NM {a e d c b m r} (h:qW a e d c b m=some r):Call tab ow 113 [.ptr 0 0 0 1,S a,sl aG e,.agg [I d.A,I d.B],.agg [I c.Rate,I c.Queries,I c.Grind],.agg [sl (eL aG) b.Rounds,sl eS b.Roots,I b.Last.A,I b.Last.B,I b.Nonce,sl db b.Queries]] [⟨4,true,[[sl aG m.Script,I m.At,S m.State,I m.Count]]⟩]=some (I r.1,[⟨4,true,[[sl aG r.2.Script,I r.2.At,S r.2.State,I r.2.Count]]⟩]):=by
 rw [ak (af:=rT) rfl]
 unfold qW at h
 simp only [rT,wF]
 have d1:= @tc
 have d2:= @Zw
 have d3:= @fP
 have d4:= @dy
 have d5:= @Fu
 have d6:= @H0
 have d7:= @gu
 have d8:= @nN
 have d9:= @R0
 have d10:= @K0
 exact go2
end
section
@[local go_sem] theorem a3f:mkR 8009 []=rws aG []:=rfl
@[local go_sem] theorem a2M:mkR 10007 []=rws aG []:=rfl
theorem Jv:mkR 12008 []=rws aG []:=rfl
attribute [local go_sem] Jv Lq
def mg (a:bD) (z:Setting) (a3:List Int) (d:jF) (m:Source):Option (Int×Source):=
 (uL a z a3).bind fun r_=>
 (dJ r_ m).bind fun t=>
 br (bj d.Root.length 1) (
 (dJ d.Root t).bind fun w=>
 (gI a.Rows w).bind fun o=>
 (da 2 (Ext.mk 0 0) d.Gates o.2).bind fun c=>
 br (c.2.2.1 !=0) (
 some (c.2.2.1,c.2.2.2)) (
 (JC o.1 c.1).bind fun u=>
 (wJ 2 ([u,d.VA,d.VB,d.VC]:List Ext)).bind fun r=>
 br (r.A==c.2.1.A) (
 br (r.B==c.2.1.B) (
 (bL ([d.VA,d.VB,d.VC]:List Ext) c.2.2.2).bind fun s=>
 (gI 3 s).bind fun e=>
 (GG e.1 ([d.VA,d.VB,d.VC]:List Ext)).bind fun p=>
 (da 1 p d.Wires e.2).bind fun b=>
 br (b.2.2.1 !=0) (
 some (b.2.2.1,b.2.2.2)) (
 (qA b.1 0 (wrap .i64 (a.Cols-1))).bind fun y=>
 (atL b.1 (wrap .i64 (a.Cols-1))).bind fun x=>
 br (decide (3<=e.1.length)) (
 (a1c e.1).bind fun v=>
 (so a c.1 (v.1,v.2.1,v.2.2)).bind fun n=>
 (mb b.1).bind fun q=>
 (GG n q).bind fun k=>
 (Aj a a3 y).bind fun i=>
 (wL i d.VW x).bind fun l=>
 (du k l).bind fun f=>
 br (f.A==b.2.1.A) (
 br (f.B==b.2.1.B) (
 (bL ([d.VW]:List Ext) b.2.2.2).bind fun j=>
 (qW d.Root y d.VW z d.Open j).bind fun h=>
 some (h.1,h.2)) (
 some (11,b.2.2.2))) (
 some (11,b.2.2.2))) none)) (
 some (11,c.2.2.2))) (
 some (11,c.2.2.2)))) none
theorem KR {a c d b m r} (h:mg a c d b m=some r):Call tab ow 184 [.ptr 0 0 0 1,.agg [I a.Rows,I a.Cols,I a.Publics,sl aV a.A,sl aV a.B,sl aV a.C],.agg [I c.Rate,I c.Queries,I c.Grind],sl eI d,.agg [S b.Root,sl (eL aG) b.Gates,I b.VA.A,I b.VA.B,I b.VB.A,I b.VB.B,I b.VC.A,I b.VC.B,sl (eL aG) b.Wires,I b.VW.A,I b.VW.B,sl (eL aG) b.Open.Rounds,sl eS b.Open.Roots,I b.Open.Last.A,I b.Open.Last.B,I b.Open.Nonce,sl db b.Open.Queries]] [⟨4,true,[[sl aG m.Script,I m.At,S m.State,I m.Count]]⟩]=some (I r.1,[⟨4,true,[[sl aG r.2.Script,I r.2.At,S r.2.State,I r.2.Count]]⟩]):=by
 rw [ak (af:=pZ) rfl]
 unfold mg at h
 simp only [pZ,C8]
 have d1:= @Jn
 have d2:= @gu
 have d3:= @nN
 have d4:= @yy
 have d5:= @Zw
 have d6:= @P3
 have d7:= @dy
 have d8:= @VM
 have d9:= @FZ
 have d10:= @uA
 have d11:= @W8
 have d12:= @Ot
 have d13:= @fP
 have d14:= @NM
 exact go2
end
def AG (s:bD) (t:Setting) (a:List Int) (p:jF) (b:Source):Option (Bool×Int):=
 (wy p s t).bind fun e=>
 br (!e) (
 some (false,18)) (
 (mh b).bind fun d=>
 (mg s t a p d).bind fun c=>
 some ((c.1==0),c.1))
theorem Yo {s t b p a r} (h:AG s t b p a=some r):Call tab ow 90 [.agg [I s.Rows,I s.Cols,I s.Publics,sl aV s.A,sl aV s.B,sl aV s.C],.agg [I t.Rate,I t.Queries,I t.Grind],sl eI b,.agg [S p.Root,sl (eL aG) p.Gates,I p.VA.A,I p.VA.B,I p.VB.A,I p.VB.B,I p.VC.A,I p.VC.B,sl (eL aG) p.Wires,I p.VW.A,I p.VW.B,sl (eL aG) p.Open.Rounds,sl eS p.Open.Roots,I p.Open.Last.A,I p.Open.Last.B,I p.Open.Nonce,sl db p.Open.Queries],.agg [sl aG a.Script,I a.At,S a.State,I a.Count]] []=some (.tup [B r.1,I r.2],[]):=by
 rw [ak (af:=z8) rfl]
 unfold AG at h
 simp only [z8,Mm]
 have d1:= @Hj
 have d2:= @BV
 have d3:= @KR
 exact go2
def mZ (s:bD) (t:Setting) (a:List Int) (b:List UInt8) (c:Source):Option (Bool×Int):=
 br (decide ((b.length:Int)>65536)) (
 some (false,2)) (
 (y4 s t a c).bind fun f=>
 br (f !=0) (
 some (false,f)) (
 (yu b s t).bind fun d=>
 br (!d.2) (
 some (false,3)) (
 (AG s t a d.1 c).bind fun e=>
 some (e.1,e.2))))
theorem Pn {s t c b a r} (h:mZ s t c b a=some r):Call tab ow 20 [.agg [I s.Rows,I s.Cols,I s.Publics,sl aV s.A,sl aV s.B,sl aV s.C],.agg [I t.Rate,I t.Queries,I t.Grind],sl eI c,sl eU8 b,.agg [sl aG a.Script,I a.At,S a.State,I a.Count]] []=some (.tup [B r.1,I r.2],[]):=by
 rw [ak (af:=tY) rfl]
 unfold mZ at h
 simp only [tY,Fp]
 have d1:= @Ux
 have d2:= @U9
 have d3:= @Yo
 exact go2
def um (t:Setting):Option (Int×Int):=
 (kB t).bind fun b=>
 br (!b) (
 some (0,1)) (
 (fY t).bind fun a=>
 some (a,0))
theorem UB {t r} (h:um t=some r):Call tab ow 21 [.agg [I t.Rate,I t.Queries,I t.Grind]] []=some (.tup [I r.1,I r.2],[]):=by
 rw [ak (af:=xx) rfl]
 unfold um at h
 simp only [xx,Jk]
 have d1:= @pn
 have d2:= @AD
 exact go2
def uq (a:List UInt8):Option Circuit:=
 (rj a).bind fun c=>
 (l0 c).bind fun b=>
 some b.1
theorem Uq {a r} (h:uq a=some r):Call tab ow 22 [sl eU8 a] []=some (.agg [sl en r.Gates],[]):=by
 rw [ak (af:=xC) rfl]
 unfold uq at h
 simp only [xC,Jf]
 have d1:= @xe
 have d2:= @AT
 exact go2
def ws (b:List UInt8) (c:Circuit):Option Handed:=
 (rj b).bind fun d=>
 (mf c d).bind fun a=>
 some (Handed.mk a.1 a.2.1)
theorem Yl {a c r} (h:ws a c=some r):Call tab ow 23 [sl eU8 a,.agg [sl en c.Gates]] []=some (.agg [sl eI r.Publics,sl eI r.Inputs],[]):=by
 rw [ak (af:=zg) rfl]
 unfold ws at h
 simp only [zg,Ky]
 have d1:= @xe
 have d2:= @Bk
 exact go2
def mo (c:Circuit) (a b:List Int):Option ((List Int)×Int):=
 (zS c a b).bind fun e=>
 br (e !=0) (
 some (([]:List Int),e)) (
 (pm c a b).bind fun d=>
 br (!d.2) (
 some (([]:List Int),15)) (
 some (d.1,0)))
theorem Qm {c a b r} (h:mo c a b=some r):Call tab ow 24 [.agg [sl en c.Gates],sl eI a,sl eI b] []=some (.tup [sl eI r.1,I r.2],[]):=by
 rw [ak (af:=vS) rfl]
 unfold mo at h
 simp only [vS,H8]
 have d1:= @OV
 have d2:= @F9
 exact go2
def PB (b a:List UInt8):Option Bool:=
 br (decide ((b.length:Int)>1048576)) (
 some true) (
 br (decide ((a.length:Int)>1048576)) (
 some true) (
 (Ao b).bind fun k=>
 (Ue a 0 5).bind fun r_2=>
 (Ue a 1 2).bind fun r_3=>
 (Ue a 2 3).bind fun r_4=>
 (D7 r_2 (wrap .i64 (1+r_3)) r_4).bind fun c=>
 br (c.2 !=0) (
 some (c.2==16)) (
 (Ue a 3 2).bind fun r_6=>
 br (r_6==1) (
 (FR a 3).bind fun r_7=>
 (xU (([116,111,112]:List UInt8)) r_7).bind fun s=>
 br (s.2 !=0) (
 some false) (
 (eV k.Circuit c.1 k.Publics k.Inputs s.1).bind fun z=>
 br (z.2 !=0) (
 some (z.2==14)) (
 (wN k.Circuit).bind fun j=>
 (ou z.1 j.1 c.1).bind fun r=>
 (rB j.1 c.1).bind fun w=>
 (mZ j.1 c.1 k.Publics r.1 s.1).bind fun y=>
 (um c.1).bind fun u=>
 br (j.2 !=0) (
 some false) (
 br (r.2 !=0) (
 some false) (
 br (w.2 !=0) (
 some false) (
 br ((r.1.length:Int) !=w.1) (
 some false) (
 br (y.2 !=0) (
 some false) (
 br (!y.1) (
 some false) (
 br (u.2 !=0) (
 some false) (
 (Ue a 0 5).bind fun r_15=>
 br (decide (u.1<r_15)) (
 some false) (
 (uq a).bind fun p=>
 (ws b p).bind fun f=>
 (mo p f.Publics f.Inputs).bind fun l=>
 (eV p c.1 f.Publics f.Inputs s.1).bind fun h=>
 br (l.2==0) (
 br (h.2==0) (
 some true) (
 br (h.2==14) (
 some true) (
 br (l.2==15) (
 some (h.2==15)) (
 some false)))) (
 br (l.2==15) (
 some (h.2==15)) (
 some false))))))))))))) (
 (eV k.Circuit c.1 k.Publics k.Inputs k.Source).bind fun q=>
 br (q.2 !=0) (
 some (q.2==14)) (
 (wN k.Circuit).bind fun i=>
 (ou q.1 i.1 c.1).bind fun n=>
 (rB i.1 c.1).bind fun t=>
 (mZ i.1 c.1 k.Publics n.1 k.Source).bind fun v=>
 (um c.1).bind fun x=>
 br (i.2 !=0) (
 some false) (
 br (n.2 !=0) (
 some false) (
 br (t.2 !=0) (
 some false) (
 br ((n.1.length:Int) !=t.1) (
 some false) (
 br (v.2 !=0) (
 some false) (
 br (!v.1) (
 some false) (
 br (x.2 !=0) (
 some false) (
 (Ue a 0 5).bind fun r_26=>
 br (decide (x.1<r_26)) (
 some false) (
 (uq a).bind fun m=>
 (ws b m).bind fun d=>
 (mo m d.Publics d.Inputs).bind fun o=>
 (eV m c.1 d.Publics d.Inputs k.Source).bind fun e=>
 br (o.2==0) (
 br (e.2==0) (
 some true) (
 br (e.2==14) (
 some true) (
 br (o.2==15) (
 some (e.2==15)) (
 some false)))) (
 br (o.2==15) (
 some (e.2==15)) (
 some false)))))))))))))))
theorem w_FnTop_c {b a r} (h:PB b a=some r):Call tab ow 3 [sl eU8 b,sl eU8 a] []=some (B r,[]):=by
 rw [ak (af:=a_w_FnTop) rfl]
 unfold PB at h
 simp only [a_w_FnTop,Vy]
 have d1:= @YA
 have d2:= @c2J
 have d3:= @a2o
 have d4:= @a4r
 have d5:= @U8
 have d6:= @Nd
 have d7:= @WH
 have d8:= @Tl
 have d9:= @Ud
 have d10:= @Pn
 have d11:= @UB
 have d12:= @Uq
 have d13:= @Yl
 have d14:= @Qm
 exact go2
end
end Go.AI.Fn
