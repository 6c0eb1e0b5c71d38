/- Part. -/
import Derived.Test.YtdnkignjanfikaaGreatFx0
set_option linter.unusedVariables false
set_option linter.unusedSimpArgs false
set_option maxRecDepth 100000
set_option maxHeartbeats 1000000
namespace Go.AI.Fn
noncomputable section
open IntKind (wrap)
def pq (m:List Int) (t:List UInt8) (c:Int):(List Int)×Int->Option (((List Int)×Int)⊕(((List Int)×Int×Bool)))
 | (b,a)=>
   br (decide (a<c)) (
   (atL t a).bind fun x=>
   br (decide (0<=(wrap .i64 (a.tdiv 8)))&&decide ((wrap .i64 (a.tdiv 8)).toNat<25)) (
   (b[(wrap .i64 (a.tdiv 8)).toNat]?).bind fun d=>
   br (decide (0<=(wrap .i64 (8*(a.tmod 8))))) (
   br (decide (0<=(wrap .i64 (a.tdiv 8)))&&decide ((wrap .i64 (a.tdiv 8)).toNat<25)) (
   br (decide ((wrap .i64 (a.tdiv 8)).toNat<b.length)) (
   some (.inl ((b.set ((wrap .i64 (a.tdiv 8)).toNat) (Cp .u64 d (ct .u64 (wrap .u64 (x.toNat:Int)) (wrap .i64 (8*(a.tmod 8)))))),(wrap .i64 (a+1))))) none) none) none) none) (
   some (.inr (b,a,decide (a<c))))
theorem UC {m t a}:LXe tab ow (.close []) Ca (pq m t a) (fun s=>⟨[(2,.ptr 1000 0 0 1),(3,.ptr 2001 0 0 1),(7,sl eU8 t),(8,I a),(9,I s.2)],[(1000,⟨25,true,[ar .u64 m]⟩),(2001,⟨25,true,[ar .u64 s.1]⟩)]⟩) 0 (fun e=>(e.1,e.2.1)) (fun e=>[(10,B e.2.2)]):=by
 refine lrX (fun s o h=> ?_)
 obtain ⟨_,_⟩:=s
 simp only [pq] at h
 simp only [Ca]
 exact go2
def D2 (a:List UInt8):Option (List Int):=
 (Loop (pq (nZ 25) a (a.length:Int)) ((nZ 25),0)).bind fun b=>
 br (decide (b.1.length=25)) (
 br (decide (b.1.length=25)) (
 br (decide (b.1.length=25)) (
 some b.1) none) none) none
theorem a0Z {a r} (h:D2 a=some r):Call tab ow 344 [sl eU8 a] []=some (.agg (ar .u64 r),[]):=by
 rw [ak (af:=BG) rfl]
 unfold D2 at h
 simp only [BG,Of]
 have d1:= @UC
 exact go2
def fX (x k:Int):Option Int:=
 br (decide (0<=(de .u64 (wrap .u64 k) 63))) (
 br (decide (0<=(wrap .u64 (64-(de .u64 (wrap .u64 k) 63))))) (
 some (Cp .u64 (ct .u64 x (de .u64 (wrap .u64 k) 63)) (cc .u64 x (wrap .u64 (64-(de .u64 (wrap .u64 k) 63)))))) none) none
theorem Ci {x k r} (h:fX x k=some r):Call tab ow 376 [.lit (.int .u64 x),I k] []=some (.lit (.int .u64 r),[]):=by
 rw [ak (af:=jk) rfl]
 unfold fX at h
 simp only [jk,tz]
 exact go2
def iM (d i h f:List Int) (l:Int) (j:List Int) (k:Int):(List Int)×Int->Option (((List Int)×Int)⊕(((List Int)×Int×Bool)))
 | (b,a)=>
   br (decide (a<25)) (
   br (decide (0<=a)&&decide (a.toNat<25)) (
   (d[a.toNat]?).bind fun c=>
   br (decide (0<=(a.tmod 5))&&decide ((a.tmod 5).toNat<5)) (
   (b[(a.tmod 5).toNat]?).bind fun e=>
   br (decide (0<=(a.tmod 5))&&decide ((a.tmod 5).toNat<5)) (
   br (decide ((a.tmod 5).toNat<b.length)) (
   some (.inl ((b.set ((a.tmod 5).toNat) (sA .u64 e c)),(wrap .i64 (a+1))))) none) none) none) none) (
   some (.inr (b,a,decide (a<25))))
theorem I6 {i c b a j d f}:LXe tab ow (.close []) sP (iM i c b a j d f) (fun s=>⟨[(0,.ptr 0 0 0 1),(2,.ptr 1001 0 0 1),(5,.lit (.int .u64 j)),(6,.ptr 6002 0 0 1),(7,.ptr 6003 0 0 1),(20,.agg (ar .u64 d)),(21,I f),(26,.ptr 0 0 0 1),(27,I s.2)],[(0,⟨25,true,[ar .u64 i]⟩),(1001,⟨25,true,[ar .i64 c]⟩),(2001,⟨24,true,[ar .u64 b]⟩),(6002,⟨5,true,[ar .u64 s.1]⟩),(6003,⟨25,true,[ar .u64 a]⟩)]⟩) 2 (fun e=>(e.1,e.2.1)) (fun e=>[(28,B e.2.2)]):=by
 refine lrX (fun s o h=> ?_)
 obtain ⟨_,_⟩:=s
 simp only [iM] at h
 simp only [sP]
 exact go2
def iN (e d m c:List Int) (o:Int) (p:List Int) (n:Int):(List Int)×Int->Option (((List Int)×Int)⊕(((List Int)×Int×Bool)))
 | (b,a)=>
   br (decide (a<25)) (
   br (decide (0<=a)&&decide (a.toNat<25)) (
   (e[a.toNat]?).bind fun k=>
   br (decide (0<=((wrap .i64 ((a.tmod 5)+4)).tmod 5))&&decide (((wrap .i64 ((a.tmod 5)+4)).tmod 5).toNat<5)) (
   (c[((wrap .i64 ((a.tmod 5)+4)).tmod 5).toNat]?).bind fun j=>
   br (decide (0<=((wrap .i64 ((a.tmod 5)+1)).tmod 5))&&decide (((wrap .i64 ((a.tmod 5)+1)).tmod 5).toNat<5)) (
   (c[((wrap .i64 ((a.tmod 5)+1)).tmod 5).toNat]?).bind fun h=>
   (fX h 1).bind fun i=>
   br (decide (0<=a)&&decide (a.toNat<25)) (
   (d[a.toNat]?).bind fun l=>
   (fX (sA .u64 k (sA .u64 j i)) l).bind fun f=>
   br (decide (0<=(wrap .i64 ((wrap .i64 (a.tdiv 5))+(wrap .i64 (5*((wrap .i64 ((wrap .i64 (2*(a.tmod 5)))+(wrap .i64 (3*(wrap .i64 (a.tdiv 5)))))).tmod 5))))))&&decide ((wrap .i64 ((wrap .i64 (a.tdiv 5))+(wrap .i64 (5*((wrap .i64 ((wrap .i64 (2*(a.tmod 5)))+(wrap .i64 (3*(wrap .i64 (a.tdiv 5)))))).tmod 5))))).toNat<25)) (
   br (decide ((wrap .i64 ((wrap .i64 (a.tdiv 5))+(wrap .i64 (5*((wrap .i64 ((wrap .i64 (2*(a.tmod 5)))+(wrap .i64 (3*(wrap .i64 (a.tdiv 5)))))).tmod 5))))).toNat<b.length)) (
   some (.inl ((b.set ((wrap .i64 ((wrap .i64 (a.tdiv 5))+(wrap .i64 (5*((wrap .i64 ((wrap .i64 (2*(a.tmod 5)))+(wrap .i64 (3*(wrap .i64 (a.tdiv 5)))))).tmod 5))))).toNat) f),(wrap .i64 (a+1))))) none) none) none) none) none) none) (
   some (.inr (b,a,decide (a<25))))
theorem HU {b a d c i j f}:LXe tab ow (.close [16011,17013]) rF (iN b a d c i j f) (fun s=>⟨[(0,.ptr 0 0 0 1),(2,.ptr 1001 0 0 1),(5,.lit (.int .u64 i)),(6,.ptr 6002 0 0 1),(7,.ptr 6003 0 0 1),(20,.agg (ar .u64 j)),(21,I f),(41,.ptr 0 0 0 1),(42,I s.2)],[(0,⟨25,true,[ar .u64 b]⟩),(1001,⟨25,true,[ar .i64 a]⟩),(2001,⟨24,true,[ar .u64 d]⟩),(6002,⟨5,true,[ar .u64 c]⟩),(6003,⟨25,true,[ar .u64 s.1]⟩)]⟩) 4 (fun e=>(e.1,e.2.1)) (fun e=>[(43,B e.2.2)]):=by
 refine lrX (fun s o h=> ?_)
 obtain ⟨_,_⟩:=s
 simp only [iN] at h
 simp only [rF]
 have d1:= @Ci
 exact go2
def iL (f h n c:List Int) (k:Int) (l:List Int) (m:Int) (d:List Int):(List Int)×Int->Option (((List Int)×Int)⊕(((List Int)×Int×Bool)))
 | (b,a)=>
   br (decide (a<25)) (
   br (decide (0<=a)&&decide (a.toNat<25)) (
   (d[a.toNat]?).bind fun j=>
   br (decide (0<=(wrap .i64 ((wrap .i64 (a-(a.tmod 5)))+((wrap .i64 ((a.tmod 5)+2)).tmod 5))))&&decide ((wrap .i64 ((wrap .i64 (a-(a.tmod 5)))+((wrap .i64 ((a.tmod 5)+2)).tmod 5))).toNat<25)) (
   (c[(wrap .i64 ((wrap .i64 (a-(a.tmod 5)))+((wrap .i64 ((a.tmod 5)+2)).tmod 5))).toNat]?).bind fun i=>
   br (decide (0<=(wrap .i64 ((wrap .i64 (a-(a.tmod 5)))+((wrap .i64 ((a.tmod 5)+1)).tmod 5))))&&decide ((wrap .i64 ((wrap .i64 (a-(a.tmod 5)))+((wrap .i64 ((a.tmod 5)+1)).tmod 5))).toNat<25)) (
   (c[(wrap .i64 ((wrap .i64 (a-(a.tmod 5)))+((wrap .i64 ((a.tmod 5)+1)).tmod 5))).toNat]?).bind fun e=>
   br (decide (0<=a)&&decide (a.toNat<25)) (
   br (decide (a.toNat<b.length)) (
   some (.inl ((b.set a.toNat (sA .u64 j (Q6 .u64 i e))),(wrap .i64 (a+1))))) none) none) none) none) none) (
   some (.inr (b,a,decide (a<25))))
theorem Ik {a d k b f i j c}:LXe tab ow (.close []) qZ (iL a d k b f i j c) (fun s=>⟨[(0,.ptr 0 0 0 1),(2,.ptr 1001 0 0 1),(5,.lit (.int .u64 f)),(7,.ptr 6003 0 0 1),(20,.agg (ar .u64 i)),(21,I j),(82,.agg (ar .u64 c)),(83,I s.2)],[(0,⟨25,true,[ar .u64 s.1]⟩),(1001,⟨25,true,[ar .i64 a]⟩),(2001,⟨24,true,[ar .u64 d]⟩),(6002,⟨5,true,[ar .u64 k]⟩),(6003,⟨25,true,[ar .u64 b]⟩)]⟩) 6 (fun e=>(e.1,e.2.1)) (fun e=>[(84,B e.2.2)]):=by
 refine lrX (fun s o h=> ?_)
 obtain ⟨_,_⟩:=s
 simp only [iL] at h
 simp only [qZ]
 exact go2
def iO (e f t:List Int):(List Int)×Int->Option (((List Int)×Int)⊕(((List Int)×Int×Bool)))
 | (d,a)=>
   br (decide (a<24)) (
   br (decide (0<=a)&&decide (a.toNat<24)) (
   (t[a.toNat]?).bind fun x=>
   (Loop (iM d e f (nZ 25) x t a) ((nZ 5),0)).bind fun i=>
   (Loop (iN d e f i.1 x t a) ((nZ 25),0)).bind fun c=>
   br (decide (c.1.length=25)) (
   (Loop (iL e f i.1 c.1 x t a c.1) (d,0)).bind fun b=>
   (b.1[0]?).bind fun h=>
   br (decide (0<b.1.length)) (
   some (.inl ((b.1.set 0 (sA .u64 h x)),(wrap .i64 (a+1))))) none) none) none) (
   some (.inr (d,a,decide (a<24))))
theorem In {b a t}:LXe tab ow (.close [6002,6003,16011,17013]) sL (iO b a t) (fun s=>⟨[(0,.ptr 0 0 0 1),(2,.ptr 1001 0 0 1),(20,.agg (ar .u64 t)),(21,I s.2)],[(0,⟨25,true,[ar .u64 s.1]⟩),(1001,⟨25,true,[ar .i64 b]⟩),(2001,⟨24,true,[ar .u64 a]⟩)]⟩) 0 (fun e=>(e.1,e.2.1)) (fun e=>[(22,B e.2.2)]):=by
 refine lrX (fun s o h=> ?_)
 obtain ⟨_,_⟩:=s
 simp only [iO] at h
 simp only [sL]
 have d1:= @I6
 have d2:= @HU
 have d3:= @Ik
 exact go2
def ph (m:List Int):Option (List Int):=
 (Loop (iO ([0,1,62,28,27,36,44,6,55,20,3,10,43,25,39,41,45,15,21,8,18,2,61,56,14]:List Int) ([1,32898,9223372036854808714,9223372039002292224,32907,2147483649,9223372039002292353,9223372036854808585,138,136,2147516425,2147483658,2147516555,9223372036854775947,9223372036854808713,9223372036854808579,9223372036854808578,9223372036854775936,32778,9223372039002259466,9223372039002292353,9223372036854808704,2147483649,9223372039002292232]:List Int) ([1,32898,9223372036854808714,9223372039002292224,32907,2147483649,9223372039002292353,9223372036854808585,138,136,2147516425,2147483658,2147516555,9223372036854775947,9223372036854808713,9223372036854808579,9223372036854808578,9223372036854775936,32778,9223372039002259466,9223372039002292353,9223372036854808704,2147483649,9223372039002292232]:List Int)) (m,0)).bind fun a=>
 some a.1
theorem Lj {m r} (h:ph m=some r):Call tab ow 345 [.ptr 0 0 0 1] [⟨25,true,[ar .u64 m]⟩]=some (.tup [],[⟨25,true,[ar .u64 r]⟩]):=by
 rw [ak (af:=pV) rfl]
 unfold ph at h
 simp only [pV,Bc]
 have d1:= @In
 exact go2
section
attribute [local go_sem] rM
@[local go_sem] theorem a9B:mkR 6012 []=rws eU8 []:=rfl
def kO (a:List Int):(List UInt8)×Int->Option (((List UInt8)×Int)⊕(((List UInt8)×Int×Bool)))
 | (l,t)=>
   br (decide (t<200)) (
   br (decide (0<=(wrap .i64 (t.tdiv 8)))&&decide ((wrap .i64 (t.tdiv 8)).toNat<25)) (
   (a[(wrap .i64 (t.tdiv 8)).toNat]?).bind fun x=>
   br (decide (0<=(wrap .i64 (8*(t.tmod 8))))) (
   br (bj ((l++([(UInt8.ofInt (cc .u64 x (wrap .i64 (8*(t.tmod 8)))))]:List UInt8)).length) 1) (
   some (.inl ((l++([(UInt8.ofInt (cc .u64 x (wrap .i64 (8*(t.tmod 8)))))]:List UInt8)),(wrap .i64 (t+1))))) none) none) none) (
   some (.inr (l,t,decide (t<200))))
theorem MM {a}:LXe tab ow (.close [6012,6013]) Db (kO a) (fun s=>⟨[(0,.ptr 0 0 0 1),(3,.sl 2000 0 s.1.length),(6,I s.2)],[(0,⟨25,true,[ar .u64 a]⟩),(2000,⟨1,false,rws eU8 s.1⟩)]⟩) 0 (fun e=>(e.1,e.2.1)) (fun e=>[(7,B e.2.2)]):=by
 refine lrX (fun s o h=> ?_)
 obtain ⟨_,_⟩:=s
 simp only [kO] at h
 simp only [Db,Dn]
 exact go2
def vg (m:List Int):Option ((List UInt8)×(List Int)):=
 (Loop (kO m) (([]:List UInt8),0)).bind fun a=>
 some (a.1,m)
theorem QG {m r} (h:vg m=some r):Call tab ow 346 [.ptr 0 0 0 1] [⟨25,true,[ar .u64 m]⟩]=some (sl eU8 r.1,[⟨25,true,[ar .u64 r.2]⟩]):=by
 rw [ak (af:=uU) rfl]
 unfold vg at h
 simp only [uU,AN]
 have d1:= @MM
 exact go2
end
section
attribute [local go_sem] rM
@[local go_sem] theorem c0o:mkR 8001 []=rws eU8 []:=rfl
@[local go_sem] theorem c05:mkR 10001 []=rws eU8 []:=rfl
def su (t:List (List UInt8)) (b:Int):(List UInt8)×Int->Option (((List UInt8)×Int)⊕(((List UInt8)×Int×Bool)))
 | (l,a)=>
   br (decide (a<b)) (
   (atL t a).bind fun x=>
   br (bj ((l++x).length) 1) (
   some (.inl ((l++x),(wrap .i64 (a+1))))) none) (
   some (.inr (l,a,decide (a<b))))
theorem Wn {t a}:LXe tab ow (.close [6002]) DS (su t a) (fun s=>⟨[(3,.sl 2000 0 s.1.length),(10,sl (eL eU8) t),(11,I a),(12,I s.2)],[(2000,⟨1,false,rws eU8 s.1⟩)]⟩) 0 (fun e=>(e.1,e.2.1)) (fun e=>[(13,B e.2.2)]):=by
 refine lrX (fun s o h=> ?_)
 obtain ⟨_,_⟩:=s
 simp only [su] at h
 simp only [DS]
 exact go2
def oR (b:List UInt8):(List UInt8)->Option (((List UInt8))⊕(((List UInt8)×Bool)))
 |a=>
  br (((a.length:Int).tmod 136) !=0) (
  br (bj ((a++([(0:UInt8)]:List UInt8)).length) 1) (
  some (.inl (a++([(0:UInt8)]:List UInt8)))) none) (
  some (.inr (a,(((a.length:Int).tmod 136) !=0))))
theorem VN {a}:LXe tab ow (.close [10001,10002]) EH (oR a) (fun s=>⟨[(3,.sl 2000 0 s.length)],[(2000,⟨1,false,rws eU8 s⟩),(8001,⟨1,false,rws eU8 a⟩)]⟩) 2 (fun e=>e.1) (fun e=>[(26,B e.2)]):=by
 refine lrX (fun s o h=> ?_)
 simp only [oR] at h
 simp only [EH]
 exact go2
def rN (h c:List UInt8) (e:List Int):(List Int)×Int->Option (((List Int)×Int)⊕(((List Int)×Int×Bool)))
 | (b,a)=>
   br (decide (a<25)) (
   br (decide (0<=a)&&decide (a.toNat<25)) (
   (e[a.toNat]?).bind fun f=>
   br (decide (0<=a)&&decide (a.toNat<25)) (
   (b[a.toNat]?).bind fun d=>
   br (decide (0<=a)&&decide (a.toNat<25)) (
   br (decide (a.toNat<b.length)) (
   some (.inl ((b.set a.toNat (sA .u64 d f)),(wrap .i64 (a+1))))) none) none) none) none) (
   some (.inr (b,a,decide (a<25))))
theorem Wx {c a b}:LXe tab ow (.close []) Cr (rN c a b) (fun s=>⟨[(3,sl eU8 a),(6,.ptr 12001 0 0 1),(46,.agg (ar .u64 b)),(47,I s.2)],[(8001,⟨1,false,rws eU8 c⟩),(12001,⟨25,true,[ar .u64 s.1]⟩)]⟩) 6 (fun e=>(e.1,e.2.1)) (fun e=>[(48,B e.2.2)]):=by
 refine lrX (fun s o h=> ?_)
 obtain ⟨_,_⟩:=s
 simp only [rN] at h
 simp only [Cr]
 exact go2
def s9 (f:List UInt8):(List Int)×(List UInt8)->Option (((List Int)×(List UInt8))⊕(((List Int)×(List UInt8)×Bool)))
 | (m,a)=>
   br (decide ((a.length:Int)>0)) (
   (qA a 0 136).bind fun y=>
   (D2 y).bind fun e=>
   (Loop (rN f a e) (m,0)).bind fun b=>
   (ph b.1).bind fun c=>
   (qA a 136 (a.length:Int)).bind fun d=>
   some (.inl (c,d))) (
   some (.inr (m,a,decide ((a.length:Int)>0))))
theorem XC {a}:LXe tab ow (.close [15002,20000,2000]) CB (s9 a) (fun s=>⟨[(3,sl eU8 s.2),(6,.ptr 12001 0 0 1)],[(8001,⟨1,false,rws eU8 a⟩),(12001,⟨25,true,[ar .u64 s.1]⟩)]⟩) 4 (fun e=>(e.1,e.2.1)) (fun e=>[(41,B e.2.2)]):=by
 refine lrX (fun s o h=> ?_)
 obtain ⟨_,_⟩:=s
 simp only [s9] at h
 simp only [CB]
 have d1:= @a0Z
 have d2:= @Wx
 have d3:= @Lj
 exact go2
def uQ (b:(List (List UInt8))):Option (List UInt8):=
 (Loop (su b (b.length:Int)) (([]:List UInt8),0)).bind fun e=>
 br (bj ((e.1++([(1:UInt8)]:List UInt8)).length) 1) (
 (Loop (oR ([(1:UInt8)]:List UInt8)) (e.1++([(1:UInt8)]:List UInt8))).bind fun a=>
 br (decide (0<=(wrap .i64 ((a.1.length:Int)-1)))) (
 br (decide ((wrap .i64 ((a.1.length:Int)-1)).toNat<a.1.length)) (
 (a.1[(wrap .i64 ((a.1.length:Int)-1)).toNat]?).bind fun h=>
 br (decide (0<=(wrap .i64 ((a.1.length:Int)-1)))) (
 br (decide ((wrap .i64 ((a.1.length:Int)-1)).toNat<a.1.length)) (
 (a.1[(wrap .i64 ((a.1.length:Int)-1)).toNat]?).bind fun i=>
 (Loop (s9 ([(1:UInt8)]:List UInt8)) ((nZ 25),(a.1.set ((wrap .i64 ((a.1.length:Int)-1)).toNat) (UInt8.ofInt (Cp .u8 (h.toNat:Int) 128))))).bind fun c=>
 (vg c.1).bind fun d=>
 (qA d.1 0 32).bind fun f=>
 some f) none) none) none) none) none
theorem A3 {a r} (h:uQ a=some r):Call tab ow 284 [sl (eL eU8) a] []=some (S r,[]):=by
 rw [ak (af:=Dw) rfl]
 unfold uQ at h
 simp only [Dw,RS]
 have d1:= @Wn
 have d2:= @VN
 have d3:= @XC
 have d4:= @QG
 exact go2
end
section
@[local go_sem] theorem a1p:mkR 2002 []=rws (eL eU8) []:=rfl
def v6 (t:List UInt8):Option (List UInt8):=
 br (bj t.length 1) (
 (uQ ([t]:List (List UInt8))).bind fun a=>
 some a) none
theorem Ar {t r} (h:v6 t=some r):Call tab ow 168 [S t] []=some (S r,[]):=by
 rw [ak (af:=Ec) rfl]
 unfold v6 at h
 simp only [Ec,SU]
 have d1:= @A3
 exact go2
end
def Ez (a:List UInt8):Option (List UInt8):=
 br (bj ((([115,111,117,114,99,101]:List UInt8)).length+a.length) 1) (
 (v6 ((([115,111,117,114,99,101]:List UInt8))++a)).bind fun b=>
 some b) none
theorem Yp {a r} (h:Ez a=some r):Call tab ow 74 [S a] []=some (S r,[]):=by
 rw [ak (af:=zk) rfl]
 unfold Ez at h
 simp only [zk,M2]
 have d1:= @Ar
 exact go2
def xU (a:List UInt8) (b:List Ext):Option (Source×Int):=
 (Gv a).bind fun h=>
 br h (
 some ((Source.mk ([]:List Ext) 0 (([]:List UInt8)) 0),2)) (
 br (decide ((b.length:Int)>4096)) (
 some ((Source.mk ([]:List Ext) 0 (([]:List UInt8)) 0),2)) (
 (ft b).bind fun d=>
 br (!d) (
 some ((Source.mk ([]:List Ext) 0 (([]:List UInt8)) 0),1)) (
 br (decide ((a.length:Int)>100)) (
 some ((Source.mk ([]:List Ext) 0 (([]:List UInt8)) 0),4)) (
 (jN (b.length:Int) 1 64).bind fun e=>
 br (!e) (
 some ((Source.mk ([]:List Ext) 0 (([]:List UInt8)) 0),4)) (
 (dh b).bind fun c=>
 (Ez a).bind fun f=>
 some ((Source.mk c 0 f 0),0))))))
theorem U8 {a b r} (h:xU a b=some r):Call tab ow 14 [S a,sl aG b] []=some (.tup [.agg [sl aG r.1.Script,I r.1.At,S r.1.State,I r.1.Count],I r.2],[]):=by
 rw [ak (af:=xr) rfl]
 unfold xU at h
 simp only [xr,IF]
 have d1:= @a4d
 have d2:= @jV
 have d3:= @wx
 have d4:= @km
 have d5:= @Yp
 exact go2
def G3 (g:aC) (a:Int):Option Bool:=
 br (g.Op==3) (
 (uJ g.K).bind fun r_=>
 (jN g.Op 1 8).bind fun w=>
 br w (
 br (g.A==0) (
 br (g.B==0) (
 some r_) (
 some false)) (
 some false)) (
 some false)) (
 br (g.Op==4) (
 br (g.Op==4) (
 (jN g.A 0 (wrap .i64 (a-1))).bind fun z=>
 (jN g.B 0 (wrap .i64 (a-1))).bind fun y=>
 (jN g.Op 1 8).bind fun u=>
 br u (
 br z (
 br y (
 some (g.K==0)) (
 some false)) (
 some false)) (
 some false)) (
 br (g.Op==8) (
 (jN g.A 0 (wrap .i64 (a-1))).bind fun x=>
 (jN g.Op 1 8).bind fun r_7=>
 br r_7 (
 br x (
 br (g.B==0) (
 some (g.K==0)) (
 some false)) (
 some false)) (
 some false)) (
 (jN g.Op 1 8).bind fun t=>
 br t (
 br (g.A==0) (
 br (g.B==0) (
 some (g.K==0)) (
 some false)) (
 some false)) (
 some false)))) (
 br (g.Op==5) (
 br (g.Op==5) (
 (jN g.A 0 (wrap .i64 (a-1))).bind fun v=>
 (jN g.B 0 (wrap .i64 (a-1))).bind fun q=>
 (jN g.Op 1 8).bind fun s=>
 br s (
 br v (
 br q (
 some (g.K==0)) (
 some false)) (
 some false)) (
 some false)) (
 br (g.Op==8) (
 (jN g.A 0 (wrap .i64 (a-1))).bind fun m=>
 (jN g.Op 1 8).bind fun r=>
 br r (
 br m (
 br (g.B==0) (
 some (g.K==0)) (
 some false)) (
 some false)) (
 some false)) (
 (jN g.Op 1 8).bind fun e=>
 br e (
 br (g.A==0) (
 br (g.B==0) (
 some (g.K==0)) (
 some false)) (
 some false)) (
 some false)))) (
 br (g.Op==6) (
 br (g.Op==6) (
 (jN g.A 0 (wrap .i64 (a-1))).bind fun b=>
 (jN g.B 0 (wrap .i64 (a-1))).bind fun l=>
 (jN g.Op 1 8).bind fun j=>
 br j (
 br b (
 br l (
 some (g.K==0)) (
 some false)) (
 some false)) (
 some false)) (
 br (g.Op==8) (
 (jN g.A 0 (wrap .i64 (a-1))).bind fun d=>
 (jN g.Op 1 8).bind fun n=>
 br n (
 br d (
 br (g.B==0) (
 some (g.K==0)) (
 some false)) (
 some false)) (
 some false)) (
 (jN g.Op 1 8).bind fun k=>
 br k (
 br (g.A==0) (
 br (g.B==0) (
 some (g.K==0)) (
 some false)) (
 some false)) (
 some false)))) (
 br (g.Op==7) (
 (jN g.A 0 (wrap .i64 (a-1))).bind fun o=>
 (jN g.B 0 (wrap .i64 (a-1))).bind fun i=>
 (jN g.Op 1 8).bind fun c=>
 br c (
 br o (
 br i (
 some (g.K==0)) (
 some false)) (
 some false)) (
 some false)) (
 br (g.Op==8) (
 (jN g.A 0 (wrap .i64 (a-1))).bind fun h=>
 (jN g.Op 1 8).bind fun p=>
 br p (
 br h (
 br (g.B==0) (
 some (g.K==0)) (
 some false)) (
 some false)) (
 some false)) (
 (jN g.Op 1 8).bind fun f=>
 br f (
 br (g.A==0) (
 br (g.B==0) (
 some (g.K==0)) (
 some false)) (
 some false)) (
 some false)))))))
theorem a2Q {g a r} (h:G3 g a=some r):Call tab ow 127 [.agg [I g.Op,I g.A,I g.B,I g.K],I a] []=some (B r,[]):=by
 rw [ak (af:=E0) rfl]
 unfold G3 at h
 simp only [E0,Sx]
 have d1:= @Hi
 have d2:= @wx
 exact go2
def gz (c:Int) (t:List aC) (d:Int) (e:List aC):Int×Int->Option ((Int×Int)⊕((Int×Int×Bool)))
 | (a,b)=>
   br (decide (b<d)) (
   (atL t b).bind fun x=>
   br (x.Op==c) (
   some (.inl ((wrap .i64 (a+1)),(wrap .i64 (b+1))))) (
   some (.inl (a,(wrap .i64 (b+1)))))) (
   some (.inr (a,b,decide (b<d))))
theorem FA {a t b c}:LXe tab ow (.close [5002]) wm (gz a t b c) (fun s=>⟨[(1,I a),(5,I s.1),(9,sl en t),(10,I b),(11,I s.2)],[(1000,⟨1,true,[[sl en c]]⟩)]⟩) 0 (fun e=>(e.1,e.2.1)) (fun e=>[(12,B e.2.2)]):=by
 refine lrX (fun s o h=> ?_)
 obtain ⟨_,_⟩:=s
 simp only [gz] at h
 simp only [wm,wh]
 exact go2
def gr (c:Circuit) (a:Int):Option Int:=
 (Loop (gz a c.Gates (c.Gates.length:Int) c.Gates) (0,0)).bind fun b=>
 some b.1
theorem sZ {c a r} (h:gr c a=some r):Call tab ow 128 [.agg [sl en c.Gates],I a] []=some (I r,[]):=by
 rw [ak (af:=na) rfl]
 unfold gr at h
 simp only [na,sU]
 have d1:= @FA
 exact go2
def gR (t:List aC) (c:Int) (d:List aC):Int->Option ((Int)⊕((Int×Int×Int×Int)⊕(Int×Bool)))
 |a=>
  br (decide (a<c)) (
  (atL t a).bind fun x=>
  (G3 x a).bind fun b=>
  br (!b) (
  some (.inr (.inl (x.Op,x.A,x.B,x.K)))) (
  some (.inl (wrap .i64 (a+1))))) (
  some (.inr (.inr (a,decide (a<c)))))
theorem Pp {t b a}:LX tab ow (.close [6003,7002]) EZ (gR t b a) (fun s=>⟨[(1,.ptr 1000 0 0 1),(11,sl en t),(12,I b),(13,I s)],[(1000,⟨1,true,[[sl en a]]⟩)]⟩) (alt (fun e=>((.ret,⟨[(2,B false)],[(1000,⟨1,true,[[sl en a]]⟩),(6003,⟨4,true,[[I e.1,I e.2.1,I e.2.2.1,I e.2.2.2]]⟩)]⟩):dd×St)) (fun e=>(.exit 0,⟨[(1,.ptr 1000 0 0 1),(11,sl en t),(12,I b),(13,I e.1),(14,B e.2)],[(1000,⟨1,true,[[sl en a]]⟩)]⟩))):=by
 refine lrX (fun s o h=> ?_)
 simp only [gR] at h
 simp only [EZ,EW]
 have d1:= @a2Q
 exact go2
def uF (c:Circuit):Option Bool:=
 (jN (c.Gates.length:Int) 1 15).bind fun b=>
 br (!b) (
 some false) (
 (Loop (gR c.Gates (c.Gates.length:Int) c.Gates) 0).bind (alt (fun d=>
 some false) (fun e=>
 (gr c 2).bind fun a=>
 some (decide (a<=7)))))
theorem Jp {c r} (h:uF c=some r):Call tab ow 36 [.agg [sl en c.Gates]] []=some (B r,[]):=by
 rw [ak (af:=xb) rfl]
 unfold uF at h
 simp only [xb,Cl]
 have d1:= @wx
 have d2:= @Pp
 have d3:= @sZ
 exact go2
def jX (x:Int):Option Bool:=
 (uJ x).bind fun a=>
 some (!a)
theorem FE {x r} (h:jX x=some r):Call tab ow 248 [I x,.ptr 0 0 0 1] [⟨1,true,[[.fn 132 []]]⟩]=some (B r,[⟨1,true,[[.fn 132 []]]⟩]):=by
 rw [ak (af:=wX) rfl]
 unfold jX at h
 simp only [wX,Is]
 have d1:= @Hi
 exact go2
def cN (b:List Int) (t:Int):Int->Option ((Int)⊕(Int⊕(Int×Bool)))
 |a=>
  br (decide (a<t)) (
  (atL b a).bind fun x=>
  (jX x).bind fun c=>
  br c (
  some (.inr (.inl a))) (
  some (.inl (wrap .i64 (a+1))))) (
  some (.inr (.inr (a,decide (a<t)))))
theorem mN {a t}:LX tab ow (.close [5005]) o5 (cN a t) (fun s=>⟨[(0,sl eI a),(1,.fn 248 [.ptr 0 0 0 1]),(7,I t),(8,I s)],[(0,⟨1,true,[[.fn 132 []]]⟩)]⟩) (alt (fun e=>((.ret,⟨[(4,I e)],[(0,⟨1,true,[[.fn 132 []]]⟩)]⟩):dd×St)) (fun e=>(.exit 0,⟨[(0,sl eI a),(1,.fn 248 [.ptr 0 0 0 1]),(7,I t),(8,I e.1),(9,B e.2)],[(0,⟨1,true,[[.fn 132 []]]⟩)]⟩))):=by
 refine lrX (fun s o h=> ?_)
 simp only [cN] at h
 simp only [o5,o4]
 have d1:= @FE
 exact go2
def dn (s:List Int):Option Int:=
 (Loop (cN s (s.length:Int)) 0).bind (alt (fun a=>
 some a) (fun b=>
 some (-1:Int)))
theorem n5 {s r} (h:dn s=some r):Call tab ow 335 [sl eI s,.fn 248 [.ptr 0 0 0 1]] [⟨1,true,[[.fn 132 []]]⟩]=some (I r,[⟨1,true,[[.fn 132 []]]⟩]):=by
 rw [ak (af:=i7) rfl]
 unfold dn at h
 simp only [i7,ke]
 have d1:= @mN
 exact go2
def cX (s:List Int):Option Bool:=
 (dn s).bind fun a=>
 some (decide (a>=0))
theorem lY {s r} (h:cX s=some r):Call tab ow 247 [sl eI s,.fn 248 [.ptr 0 0 0 1]] [⟨1,true,[[.fn 132 []]]⟩]=some (B r,[⟨1,true,[[.fn 132 []]]⟩]):=by
 rw [ak (af:=g9) rfl]
 unfold cX at h
 simp only [g9,nY]
 have d1:= @n5
 exact go2
def iz (a:List Int):Option Bool:=
 (cX a).bind fun b=>
 some (!b)
theorem yQ {a r} (h:iz a=some r):Call tab ow 131 [.fn 132 [],sl eI a] []=some (B r,[]):=by
 rw [ak (af:=Bz) rfl]
 unfold iz at h
 simp only [Bz,P1]
 have d1:= @lY
 exact go2
def zS (c:Circuit) (a b:List Int):Option Int:=
 br (decide ((a.length:Int)>4096)) (
 some 2) (
 br (decide ((b.length:Int)>4096)) (
 some 2) (
 (uF c).bind fun i=>
 br (!i) (
 some 19) (
 (iz a).bind fun e=>
 br (!e) (
 some 1) (
 (iz b).bind fun f=>
 br (!f) (
 some 1) (
 (gr c 2).bind fun d=>
 br ((a.length:Int) !=d) (
 some 8) (
 (gr c 1).bind fun h=>
 br ((b.length:Int) !=h) (
 some 8) (
 some 0)))))))
theorem OV {c a b r} (h:zS c a b=some r):Call tab ow 76 [.agg [sl en c.Gates],sl eI a,sl eI b] []=some (I r,[]):=by
 rw [ak (af:=BJ) rfl]
 unfold zS at h
 simp only [BJ,OA]
 have d1:= @Jp
 have d2:= @yQ
 have d3:= @sZ
 exact go2
def kB (t:Setting):Option Bool:=
 (jN t.Rate 1 3).bind fun c=>
 br c (
 (jN t.Queries 1 8).bind fun a=>
 br a (
 (jN t.Grind 0 12).bind fun b=>
 some b) (
 some false)) (
 some false)
theorem pn {t r} (h:kB t=some r):Call tab ow 77 [.agg [I t.Rate,I t.Queries,I t.Grind]] []=some (B r,[]):=by
 rw [ak (af:=wZ) rfl]
 unfold kB at h
 simp only [wZ,Js]
 have d1:= @wx
 exact go2
def yt (a:List UInt8):Option Bool:=
 some ((a.length:Int)==32)
theorem EC {a r} (h:yt a=some r):Call tab ow 119 [S a] []=some (B r,[]):=by
 rw [ak (af:=DT) rfl]
 unfold yt at h
 simp only [DT,S5]
 exact go2
def uc (s:Source):Option Bool:=
 br (decide ((s.Script.length:Int)<=64)) (
 (ft s.Script).bind fun d=>
 br d (
 (yt s.State).bind fun b=>
 br b (
 (jN s.At 0 1000000).bind fun c=>
 br c (
 (jN s.Count 0 1000000).bind fun a=>
 some a) (
 some false)) (
 some false)) (
 some false)) (
 some false)
theorem KG {s r} (h:uc s=some r):Call tab ow 78 [.agg [sl aG s.Script,I s.At,S s.State,I s.Count]] []=some (B r,[]):=by
 rw [ak (af:=zL) rfl]
 unfold uc at h
 simp only [zL,KK]
 have d1:= @jV
 have d2:= @EC
 have d3:= @wx
 exact go2
def mW (s:Source):Option Int:=
 some (wrap .i64 (1000000-(mx s.At s.Count)))
theorem EV {s r} (h:mW s=some r):Call tab ow 79 [.agg [sl aG s.Script,I s.At,S s.State,I s.Count]] []=some (I r,[]):=by
 rw [ak (af:=u4) rfl]
 unfold mW at h
 simp only [u4,Fv]
 exact go2
def H6 (a b:Int):Option Int:=
 some ((wrap .i64 (a+b)).tmod 2130706433)
theorem Lc {a b r} (h:H6 a b=some r):Call tab ow 164 [I a,I b] []=some (I r,[]):=by
 rw [ak (af:=Q2) rfl]
 unfold H6 at h
 simp only [Q2,a5p]
 exact go2
def O3 (a b:Int):Option Int:=
 some ((wrap .i64 ((wrap .i64 (a-b))+2130706433)).tmod 2130706433)
theorem Y6 {a b r} (h:O3 a b=some r):Call tab ow 170 [I a,I b] []=some (I r,[]):=by
 rw [ak (af:=PN) rfl]
 unfold O3 at h
 simp only [PN,a4A]
 exact go2
def uB (a b:Int):Option Int:=
 some ((wrap .i64 (a*b)).tmod 2130706433)
theorem Bj {a b r} (h:uB a b=some r):Call tab ow 171 [I a,I b] []=some (I r,[]):=by
 rw [ak (af:=Q0) rfl]
 unfold uB at h
 simp only [Q0,a4P]
 exact go2
section
attribute [local go_sem] oh
@[local go_sem] theorem a7z:mkR 23002 []=rws eI []:=rfl
def iC (r:List aC) (o:Int) (c:List aC):(List Int)×(List Int)×(List Int)×Int->Option (((List Int)×(List Int)×(List Int)×Int)⊕(((List Int)×Int×Int×Int×Int)⊕((List Int)×(List Int)×(List Int)×Int×Bool)))
 | (l,t,e,d)=>
   br (decide (d<o)) (
   (atL r d).bind fun x=>
   br (x.Op==1) (
   (atL e 0).bind fun n=>
   (qA e 1 (e.length:Int)).bind fun y=>
   br (bj ((l++([n]:List Int)).length) 8) (
   some (.inl ((l++([n]:List Int)),t,y,(wrap .i64 (d+1))))) none) (
   br (x.Op==2) (
   (atL t 0).bind fun m=>
   (qA t 1 (t.length:Int)).bind fun u=>
   br (bj ((l++([m]:List Int)).length) 8) (
   some (.inl ((l++([m]:List Int)),u,e,(wrap .i64 (d+1))))) none) (
   br (x.Op==4) (
   br (decide (0<=x.A)) (
   br (decide (x.A.toNat<l.length)) (
   (l[x.A.toNat]?).bind fun q=>
   br (decide (0<=x.B)) (
   br (decide (x.B.toNat<l.length)) (
   (l[x.B.toNat]?).bind fun w=>
   (H6 q w).bind fun k=>
   br (bj ((l++([k]:List Int)).length) 8) (
   some (.inl ((l++([k]:List Int)),t,e,(wrap .i64 (d+1))))) none) none) none) none) none) (
   br (x.Op==5) (
   br (decide (0<=x.A)) (
   br (decide (x.A.toNat<l.length)) (
   (l[x.A.toNat]?).bind fun s=>
   br (decide (0<=x.B)) (
   br (decide (x.B.toNat<l.length)) (
   (l[x.B.toNat]?).bind fun z=>
   (O3 s z).bind fun f=>
   br (bj ((l++([f]:List Int)).length) 8) (
   some (.inl ((l++([f]:List Int)),t,e,(wrap .i64 (d+1))))) none) none) none) none) none) (
   br (x.Op==6) (
   br (decide (0<=x.A)) (
   br (decide (x.A.toNat<l.length)) (
   (l[x.A.toNat]?).bind fun v=>
   br (decide (0<=x.B)) (
   br (decide (x.B.toNat<l.length)) (
   (l[x.B.toNat]?).bind fun p=>
   (uB v p).bind fun h=>
   br (bj ((l++([h]:List Int)).length) 8) (
   some (.inl ((l++([h]:List Int)),t,e,(wrap .i64 (d+1))))) none) none) none) none) none) (
   br (x.Op==7) (
   br (x.Op==7) (
   br (decide (0<=x.A)) (
   br (decide (x.A.toNat<l.length)) (
   (l[x.A.toNat]?).bind fun a=>
   br (x.Op==7) (
   br (decide (0<=x.B)) (
   br (decide (x.B.toNat<l.length)) (
   (l[x.B.toNat]?).bind fun j=>
   br (a !=j) (
   some (.inr (.inl (l,x.Op,x.A,x.B,x.K)))) (
   br (x.Op==8) (
   br (decide (a>1)) (
   some (.inr (.inl (l,x.Op,x.A,x.B,x.K)))) (
   br (bj ((l++([a]:List Int)).length) 8) (
   some (.inl ((l++([a]:List Int)),t,e,(wrap .i64 (d+1))))) none)) (
   br (bj ((l++([a]:List Int)).length) 8) (
   some (.inl ((l++([a]:List Int)),t,e,(wrap .i64 (d+1))))) none))) none) none) (
   br (x.Op==8) (
   br (decide (a>1)) (
   some (.inr (.inl (l,x.Op,x.A,x.B,x.K)))) (
   br (bj ((l++([a]:List Int)).length) 8) (
   some (.inl ((l++([a]:List Int)),t,e,(wrap .i64 (d+1))))) none)) (
   br (bj ((l++([a]:List Int)).length) 8) (
   some (.inl ((l++([a]:List Int)),t,e,(wrap .i64 (d+1))))) none))) none) none) (
   br (bj ((l++([x.K]:List Int)).length) 8) (
   some (.inl ((l++([x.K]:List Int)),t,e,(wrap .i64 (d+1))))) none)) (
   br (x.Op==8) (
   br (decide (0<=x.A)) (
   br (decide (x.A.toNat<l.length)) (
   (l[x.A.toNat]?).bind fun b=>
   br (x.Op==7) (
   br (decide (0<=x.B)) (
   br (decide (x.B.toNat<l.length)) (
   (l[x.B.toNat]?).bind fun i=>
   br (b !=i) (
   some (.inr (.inl (l,x.Op,x.A,x.B,x.K)))) (
   br (x.Op==8) (
   br (decide (b>1)) (
   some (.inr (.inl (l,x.Op,x.A,x.B,x.K)))) (
   br (bj ((l++([b]:List Int)).length) 8) (
   some (.inl ((l++([b]:List Int)),t,e,(wrap .i64 (d+1))))) none)) (
   br (bj ((l++([b]:List Int)).length) 8) (
   some (.inl ((l++([b]:List Int)),t,e,(wrap .i64 (d+1))))) none))) none) none) (
   br (x.Op==8) (
   br (decide (b>1)) (
   some (.inr (.inl (l,x.Op,x.A,x.B,x.K)))) (
   br (bj ((l++([b]:List Int)).length) 8) (
   some (.inl ((l++([b]:List Int)),t,e,(wrap .i64 (d+1))))) none)) (
   br (bj ((l++([b]:List Int)).length) 8) (
   some (.inl ((l++([b]:List Int)),t,e,(wrap .i64 (d+1))))) none))) none) none) (
   br (bj ((l++([x.K]:List Int)).length) 8) (
   some (.inl ((l++([x.K]:List Int)),t,e,(wrap .i64 (d+1))))) none)))))))) (
   some (.inr (.inr (l,t,e,d,decide (d<o)))))
abbrev v7 (c:List aC) (l:List Int):List (Nat×Blk):=[(1000,⟨1,true,[[sl en c]]⟩),(2000,⟨1,false,rws eI l⟩)]
theorem LD {b a c}:LX tab ow (.close [5002,13010,15010,17010,23002,23003]) BH (iC b a c) (fun s=>⟨[(1,sl eI s.2.1),(2,sl eI s.2.2.1),(8,.sl 2000 0 s.1.length),(14,sl en b),(15,I a),(16,I s.2.2.2)],v7 c s.1⟩) (alt (fun e=>((.ret,⟨[(6,.lit (.slice none 0 0)),(7,B false)],[(1000,⟨1,true,[[sl en c]]⟩),(2000,⟨1,false,rws eI e.1⟩),(5002,⟨4,true,[[I e.2.1,I e.2.2.1,I e.2.2.2.1,I e.2.2.2.2]]⟩)]⟩):dd×St)) (fun e=>(.exit 0,⟨[(1,sl eI e.2.1),(2,sl eI e.2.2.1),(8,.sl 2000 0 e.1.length),(14,sl en b),(15,I a),(16,I e.2.2.2.1),(17,B e.2.2.2.2)],v7 c e.1⟩))):=by
 refine lrX (fun s o h=> ?_)
 obtain ⟨_,_,_,_⟩:=s
 simp only [iC] at h
 simp only [v7,BH,BE]
 have d1:= @Lc
 have d2:= @Y6
 have d3:= @Bj
 exact go2
def pm (b:Circuit) (a d:List Int):Option ((List Int)×Bool):=
 (Loop (iC b.Gates (b.Gates.length:Int) b.Gates) (([]:List Int),a,d,0)).bind (alt (fun e=>
 some (([]:List Int),false)) (fun c=>
 some (c.1,true)))
theorem F9 {b a c r} (h:pm b a c=some r):Call tab ow 80 [.agg [sl en b.Gates],sl eI a,sl eI c] []=some (.tup [sl eI r.1,B r.2],[]):=by
 rw [ak (af:=tD) rfl]
 unfold pm at h
 simp only [tD,yH]
 have d1:= @LD
 exact go2
end
def fg (s:bD):Option Int:=
 br (decide (0<=(wrap .i64 (s.Cols-1)))) (
 some (ct .i64 1 (wrap .i64 (s.Cols-1)))) none
theorem ma {s r} (h:fg s=some r):Call tab ow 133 [.agg [I s.Rows,I s.Cols,I s.Publics,sl aV s.A,sl aV s.B,sl aV s.C]] []=some (I r,[]):=by
 rw [ak (af:=tK) rfl]
 unfold fg at h
 simp only [tK,Fo]
 exact go2
def dI (j i:List Tri) (t h:Int) (f:List (Int×Int)) (d c:Int):(List Tri)×Int->Option (((List Tri)×Int)⊕(((List Tri)×Int×Bool)))
 | (b,a)=>
   br (decide (a<d)) (
   (atL f a).bind fun x=>
   (H6 (j5 c x.1 b) x.2).bind fun e=>
   some (.inl ((jp c x.1 e b),(wrap .i64 (a+1))))) (
   some (.inr (b,a,decide (a<d))))
theorem P6 {d b t a i f c}:LXe tab ow (.close [3002,4007,5013]) Fw (dI d b t a i f c) (fun s=>⟨[(0,.ptr 0 0 0 1),(2,I t),(3,I a),(11,sl (eA2 eI) i),(12,I f),(13,I s.2)],[(0,⟨4,true,[[I c,.mp 1,.mp 2,.mp 3]]⟩),(1,⟨0,true,[bH s.1]⟩),(2,⟨0,true,[bH d]⟩),(3,⟨0,true,[bH b]⟩)]⟩) 0 (fun e=>(e.1,e.2.1)) (fun e=>[(14,B e.2.2)]):=by
 refine lrX (fun s o h=> ?_)
 obtain ⟨_,_⟩:=s
 simp only [dI] at h
 simp only [Fw,F6]
 have d1:= @Lc
 exact go2
def eK (a:(List (Int×Int))) (c e m:Int) (h b d:List Tri):Option (Int×(List Tri)×(List Tri)×(List Tri)):=
 (Loop (dI b d c e a (a.length:Int) m) (h,0)).bind fun f=>
 some ((wrap .i64 (m+1)),f.1,(jp m c 1 b),(jp m e 1 d))
theorem UA {a c f m d b e r} (h:eK a c f m d b e=some r):Call tab ow 286 [.ptr 0 0 0 1,sl (eA2 eI) a,I c,I f] [⟨4,true,[[I m,.mp 1,.mp 2,.mp 3]]⟩,⟨0,true,[bH d]⟩,⟨0,true,[bH b]⟩,⟨0,true,[bH e]⟩]=some (.tup [],[⟨4,true,[[I r.1,.mp 1,.mp 2,.mp 3]]⟩,⟨0,true,[bH r.2.1]⟩,⟨0,true,[bH r.2.2.1]⟩,⟨0,true,[bH r.2.2.2]⟩]):=by
 rw [ak (af:=xu) rfl]
 unfold eK at h
 simp only [xu,Ch]
 have d1:= @P6
 exact go2
section
@[local go_sem] theorem a4W:mkR 2006 []=rws (eA2 eI) []:=rfl
def ew (a b:Int) (m:List Int):Option ((List (Int×Int))):=
 (atL m a).bind fun x=>
 some ([(x,b)]:List (Int×Int))
theorem ME {a b m r} (h:ew a b m=some r):Call tab ow 285 [I a,I b,.ptr 0 0 0 1] [⟨1,true,[[sl eI m]]⟩]=some (.sl 1 0 r.length,[⟨1,true,[[sl eI m]]⟩,⟨2,false,rws (eA2 eI) r⟩]):=by
 rw [ak (af:=rI) rfl]
 unfold ew at h
 simp only [rI,Dg]
 exact go2
end
section
@[local go_sem] theorem a9D:mkR 5004 []=rws (eA2 eI) []:=rfl
def vh (a:aC) (k:Int) (f:List Int) (m:Int) (n l o:List Tri):Option (Int×(List Tri)×(List Tri)×(List Tri)):=
 br (a.Op==3) (
 (eK ([(0,a.K)]:List (Int×Int)) 0 k m n l o).bind fun y=>
 some (y.1,y.2.1,y.2.2.1,y.2.2.2)) (
 br (a.Op==4) (
 (ew a.A 1 f).bind fun t=>
 (ew a.B 1 f).bind fun w=>
 br (bj ((t++w).length) 16) (
 (eK (t++w) 0 k m n l o).bind fun i=>
 some (i.1,i.2.1,i.2.2.1,i.2.2.2)) none) (
 br (a.Op==5) (
 (ew a.A 1 f).bind fun q=>
 (ew a.B 2130706432 f).bind fun u=>
 br (bj ((q++u).length) 16) (
 (eK (q++u) 0 k m n l o).bind fun j=>
 some (j.1,j.2.1,j.2.2.1,j.2.2.2)) none) (
 br (a.Op==6) (
 (ew a.A 1 f).bind fun z=>
 (atL f a.B).bind fun x=>
 (eK z x k m n l o).bind fun h=>
 some (h.1,h.2.1,h.2.2.1,h.2.2.2)) (
 br (a.Op==7) (
 (ew a.B 1 f).bind fun v=>
 (eK v 0 k m n l o).bind fun e=>
 (ew a.A 1 f).bind fun s=>
 (eK s 0 k e.1 e.2.1 e.2.2.1 e.2.2.2).bind fun d=>
 some (d.1,d.2.1,d.2.2.1,d.2.2.2)) (
 br (a.Op==8) (
 (ew a.A 1 f).bind fun p=>
 (atL f a.A).bind fun x2=>
 (eK p x2 k m n l o).bind fun b=>
 (ew a.A 1 f).bind fun r=>
 (eK r 0 k b.1 b.2.1 b.2.2.1 b.2.2.2).bind fun c=>
 some (c.1,c.2.1,c.2.2.1,c.2.2.2)) (
 some (m,n,l,o)))))))
theorem RE {a c f m d b e r} (h:vh a c f m d b e=some r):Call tab ow 172 [.ptr 0 0 0 1,.agg [I a.Op,I a.A,I a.B,I a.K],I c,sl eI f] [⟨4,true,[[I m,.mp 1,.mp 2,.mp 3]]⟩,⟨0,true,[bH d]⟩,⟨0,true,[bH b]⟩,⟨0,true,[bH e]⟩]=some (.tup [],[⟨4,true,[[I r.1,.mp 1,.mp 2,.mp 3]]⟩,⟨0,true,[bH r.2.1]⟩,⟨0,true,[bH r.2.2.1]⟩,⟨0,true,[bH r.2.2.2]⟩]):=by
 rw [ak (af:=vQ) rfl]
 unfold vh at h
 simp only [vQ,He]
 have d1:= @UA
 have d2:= @ME
 exact go2
end
def BD (t:Tri):aN:=⟨t.1,t.2.1,t.2.2⟩
def wD (m:List Tri):Option (List aN×List Tri):=
 br (pa m&&decide (m.length<1073741824)) (
 some ((i0 (m.filter nzT)).map BD,m)) none
theorem Zx {m r} (h:wD m=some r):Call tab ow 173 [.mp 0] [⟨0,true,[bH m]⟩]=some (sl aV r.1,[⟨0,true,[bH r.2]⟩]):=by
 unfold wD at h
 obtain ⟨hb,h⟩:=brg h
 cases h
 rw [Tb (g:=a3E false) rfl]
 exact b8m aV BD rfl (fun _=>rfl) hb
end
end Go.AI.Fn
set_option linter.unusedVariables false
set_option linter.unusedSimpArgs false
set_option maxRecDepth 100000
set_option maxHeartbeats 1000000
namespace Go.AI.Fn
noncomputable section
open IntKind (wrap)
section
attribute [local go_sem] Km
@[local go_sem] theorem a1L:mkR 11002 []=rws eI []:=rfl
@[local go_sem] theorem a1N:mkR 12002 []=rws eI []:=rfl
def fM (t:Int) (c:List aC) (h f i e b:Int):Int->Option ((Int)⊕((Bool×Int)))
 |d=>
  (fg (bD.mk e d b ([]:List aN) ([]:List aN) ([]:List aN))).bind fun a=>
  br (decide (a<(mx (wrap .i64 (b+1)) t))) (
  some (.inl (wrap .i64 (d+1)))) (
  some (.inr (decide (a<(mx (wrap .i64 (b+1)) t)),d)))
theorem G0 {t c d b i a f}:LXe tab ow (.close [4001]) yf (fM t c d b i a f) (fun s=>⟨[(1,.ptr 1000 0 0 1),(2,.ptr 1001 0 0 1),(3,.ptr 2003 0 0 1),(4,I t)],[(1000,⟨1,true,[[sl en c]]⟩),(1001,⟨6,true,[[I d,I b,I i,.lit (.slice none 0 0),.lit (.slice none 0 0),.lit (.slice none 0 0)]]⟩),(2003,⟨6,true,[[I a,I s,I f,.lit (.slice none 0 0),.lit (.slice none 0 0),.lit (.slice none 0 0)]]⟩)]⟩) 0 (fun e=>e.2) (fun e=>[(29,B e.1)]):=by
 refine lrX (fun s o h=> ?_)
 simp only [fM] at h
 simp only [yf,xT]
 have d1:= @ma
 exact go2
def fJ (j:List aC) (d:Int) (n:List aC) (m i h e f k:Int):(List Int)×Int×Int×Int->Option (((List Int)×Int×Int×Int)⊕(((List Int)×Int×Int×Int×Bool)))
 | (l,b,c,a)=>
   br (decide (a<d)) (
   (atL j a).bind fun x=>
   br (x.Op==2) (
   br (bj ((l++([b]:List Int)).length) 8) (
   some (.inl ((l++([b]:List Int)),(wrap .i64 (b+1)),c,(wrap .i64 (a+1))))) none) (
   br (bj ((l++([c]:List Int)).length) 8) (
   some (.inl ((l++([c]:List Int)),b,(wrap .i64 (c+1)),(wrap .i64 (a+1))))) none)) (
   some (.inr (l,b,c,a,decide (a<d))))
theorem H7 {i k l j d c a b f}:LXe tab ow (.close [9002,11002,11003,12002,12003]) ye (fJ i k l j d c a b f) (fun s=>⟨[(1,.ptr 1000 0 0 1),(2,.ptr 1001 0 0 1),(3,.ptr 2003 0 0 1),(5,.sl 6000 0 s.1.length),(6,I s.2.1),(7,I s.2.2.1),(38,sl en i),(39,I k),(40,I s.2.2.2)],[(1000,⟨1,true,[[sl en l]]⟩),(1001,⟨6,true,[[I j,I d,I c,.lit (.slice none 0 0),.lit (.slice none 0 0),.lit (.slice none 0 0)]]⟩),(2003,⟨6,true,[[I a,I b,I f,.lit (.slice none 0 0),.lit (.slice none 0 0),.lit (.slice none 0 0)]]⟩),(6000,⟨1,false,rws eI s.1⟩)]⟩) 2 (fun e=>(e.1,e.2.1,e.2.2.1,e.2.2.2.1)) (fun e=>[(41,B e.2.2.2.2)]):=by
 refine lrX (fun s o h=> ?_)
 obtain ⟨_,_,_,_⟩:=s
 simp only [fJ] at h
 simp only [ye,yg]
 exact go2
def hZ (d:List Int) (q:List aC) (h:Int) (l:List aC) (j s n o p k:Int):(List Tri)×(List Tri)×(List Tri)×Int×Int->Option (((List Tri)×(List Tri)×(List Tri)×Int×Int)⊕(((List Tri)×(List Tri)×(List Tri)×Int×Bool×Int)))
 | (m,f,e,b,c)=>
   br (decide (b<h)) (
   (atL q b).bind fun i=>
   br (decide (0<=b)) (
   br (decide (b.toNat<d.length)) (
   (d[b.toNat]?).bind fun r=>
   (vh i r d c m f e).bind fun a=>
   some (.inl (a.2.1,a.2.2.1,a.2.2.2,(wrap .i64 (b+1)),a.1))) none) none) (
   some (.inr (m,f,e,b,decide (b<h),c)))
theorem GJ {k l m c b j d i f a}:LXe tab ow (.close [17003,18007]) w7 (hZ k l m c b j d i f a) (fun s=>⟨[(2,.ptr 1001 0 0 1),(3,.ptr 2003 0 0 1),(5,.sl 6000 0 k.length),(10,.ptr 14004 0 0 1),(66,sl en l),(67,I m),(68,I s.2.2.2.1)],[(1000,⟨1,true,[[sl en c]]⟩),(1001,⟨6,true,[[I b,I j,I d,.lit (.slice none 0 0),.lit (.slice none 0 0),.lit (.slice none 0 0)]]⟩),(2003,⟨6,true,[[I i,I f,I a,.lit (.slice none 0 0),.lit (.slice none 0 0),.lit (.slice none 0 0)]]⟩),(6000,⟨1,false,rws eI k⟩),(14000,⟨0,true,[bH s.1]⟩),(14001,⟨0,true,[bH s.2.1]⟩),(14002,⟨0,true,[bH s.2.2.1]⟩),(14004,⟨4,true,[[I s.2.2.2.2,.mp 14000,.mp 14001,.mp 14002]]⟩)]⟩) 4 (fun e=>(e.1,e.2.1,e.2.2.1,e.2.2.2.1,e.2.2.2.2.2)) (fun e=>[(69,B e.2.2.2.2.1)]):=by
 refine lrX (fun s o h=> ?_)
 obtain ⟨_,_,_,_,_⟩:=s
 simp only [hZ] at h
 simp only [w7,w9]
 have d1:= @RE
 exact go2
def mj (q:List Int) (o p n:List Tri) (h:List aC) (k l:Int) (m:Bool) (e:List aC) (i d c j f b:Int):Int->Option ((Int)⊕((Bool×Int)))
 |a=>
  br (decide (0<=a)) (
  br (decide ((ct .i64 1 a)<b)) (
  some (.inl (wrap .i64 (a+1)))) (
  some (.inr (decide ((ct .i64 1 a)<b),a)))) none
theorem Gi {p r t q f l m n c i b a j d k}:LXe tab ow (.close []) wj (mj p r t q f l m n c i b a j d k) (fun s=>⟨[(2,.ptr 1001 0 0 1),(3,.ptr 2003 0 0 1),(5,.sl 6000 0 p.length),(10,.ptr 14004 0 0 1),(66,sl en f),(67,I l),(68,I m),(69,B n)],[(1000,⟨1,true,[[sl en c]]⟩),(1001,⟨6,true,[[I i,I b,I a,.lit (.slice none 0 0),.lit (.slice none 0 0),.lit (.slice none 0 0)]]⟩),(2003,⟨6,true,[[I s,I j,I d,.lit (.slice none 0 0),.lit (.slice none 0 0),.lit (.slice none 0 0)]]⟩),(6000,⟨1,false,rws eI p⟩),(14000,⟨0,true,[bH r]⟩),(14001,⟨0,true,[bH t]⟩),(14002,⟨0,true,[bH q]⟩),(14004,⟨4,true,[[I k,.mp 14000,.mp 14001,.mp 14002]]⟩)]⟩) 6 (fun e=>e.2) (fun e=>[(89,B e.1)]):=by
 refine lrX (fun s o h=> ?_)
 simp only [mj] at h
 simp only [wj,wk]
 exact go2
def kQ (a:Circuit):Option bD:=
 (gr a 2).bind fun c=>
 (Loop (fM (wrap .i64 ((a.Gates.length:Int)-c)) a.Gates 0 0 0 1 c) 2).bind fun d=>
 (fg (bD.mk 1 d.2 c ([]:List aN) ([]:List aN) ([]:List aN))).bind fun i=>
 (Loop (fJ a.Gates (a.Gates.length:Int) a.Gates 0 0 0 1 d.2 c) (([]:List Int),1,i,0)).bind fun e=>
 (Loop (hZ e.1 a.Gates (a.Gates.length:Int) a.Gates 0 0 0 1 d.2 c) (([]:List Tri),([]:List Tri),([]:List Tri),0,0)).bind fun b=>
 (Loop (mj e.1 b.1 b.2.1 b.2.2.1 a.Gates (a.Gates.length:Int) b.2.2.2.1 b.2.2.2.2.1 a.Gates 0 0 0 d.2 c b.2.2.2.2.2) 1).bind fun h=>
 (wD b.1).bind fun k=>
 (wD b.2.1).bind fun f=>
 (wD b.2.2.1).bind fun j=>
 some (bD.mk h.2 d.2 c k.1 f.1 j.1)
theorem Ag {a r} (h:kQ a=some r):Call tab ow 81 [.agg [sl en a.Gates]] []=some (.agg [I r.Rows,I r.Cols,I r.Publics,sl aV r.A,sl aV r.B,sl aV r.C],[]):=by
 rw [ak (af:=oF) rfl]
 unfold kQ at h
 simp only [oF,j9]
 have d1:= @sZ
 have d2:= @G0
 have d3:= @ma
 have d4:= @H7
 have d5:= @GJ
 have d6:= @Gi
 have d7:= @Zx
 exact go2
end
section
attribute [local go_sem] oh
@[local go_sem] theorem a1K:mkR 7005 []=rws eI []:=rfl
def i4 (a:List Int) (t:List aC) (d:Int) (e:List aC):(List Int)×Int->Option (((List Int)×Int)⊕(((List Int)×Int×Bool)))
 | (l,b)=>
   br (decide (b<d)) (
   (atL t b).bind fun x=>
   br (x.Op !=2) (
   (atL a b).bind fun c=>
   br (bj ((l++([c]:List Int)).length) 8) (
   some (.inl ((l++([c]:List Int)),(wrap .i64 (b+1))))) none) (
   some (.inl (l,(wrap .i64 (b+1)))))) (
   some (.inr (l,b,decide (b<d))))
theorem G9 {a t b c}:LXe tab ow (.close [5003,7005,7006]) xJ (i4 a t b c) (fun s=>⟨[(1,sl eI a),(5,.sl 2000 0 s.1.length),(10,sl en t),(11,I b),(12,I s.2)],[(1000,⟨1,true,[[sl en c]]⟩),(2000,⟨1,false,rws eI s.1⟩)]⟩) 0 (fun e=>(e.1,e.2.1)) (fun e=>[(13,B e.2.2)]):=by
 refine lrX (fun s o h=> ?_)
 obtain ⟨_,_⟩:=s
 simp only [i4] at h
 simp only [xJ,xY]
 exact go2
def o0 (c:Circuit) (a:List Int):Option (List Int):=
 (Loop (i4 a c.Gates (c.Gates.length:Int) c.Gates) (([]:List Int),0)).bind fun b=>
 some b.1
theorem JV {c a r} (h:o0 c a=some r):Call tab ow 84 [.agg [sl en c.Gates],sl eI a] []=some (sl eI r,[]):=by
 rw [ak (af:=od) rfl]
 unfold o0 at h
 simp only [od,u5]
 have d1:= @G9
 exact go2
end
section
@[local go_sem] theorem a3p: ∀k,Uh 2003 k [I (0:Int)]=rws eI (List.replicate k (0:Int)):=fun _=>b3d eI (0:Int) _ _
def jP (s:bD) (b a:List Int):Option (List Int):=
 br (decide (0<=s.Cols)) (
 br (TU (ct .i64 1 s.Cols) (ct .i64 1 s.Cols) 8) (
 br (decide (0<(List.replicate ((ct .i64 (1:Int) s.Cols).toNat) (0:Int)).length)) (
 ((List.replicate ((ct .i64 (1:Int) s.Cols).toNat) (0:Int))[0]?).bind fun x=>
 br (decide ((1:Int)<=(((List.replicate ((ct .i64 (1:Int) s.Cols).toNat) (0:Int)).length:Nat):Int))) (
 br (decide (1+((List.replicate ((ct .i64 (1:Int) s.Cols).toNat) (0:Int)).length-1)=(List.replicate ((ct .i64 (1:Int) s.Cols).toNat) (0:Int)).length)) (
 (fg s).bind fun c=>
 br (decide (0<=c)&&decide (c<=(((List.replicate ((ct .i64 (1:Int) s.Cols).toNat) (0:Int)).length:Nat):Int))) (
 br (decide (c.toNat+((List.replicate ((ct .i64 (1:Int) s.Cols).toNat) (0:Int)).length-c.toNat)=(List.replicate ((ct .i64 (1:Int) s.Cols).toNat) (0:Int)).length)) (
 some (yN (yN ((List.replicate ((ct .i64 (1:Int) s.Cols).toNat) (0:Int)).set 0 (1:Int)) 1 (min b.length ((List.replicate ((ct .i64 (1:Int) s.Cols).toNat) (0:Int)).length-1)) b) c.toNat (min a.length ((List.replicate ((ct .i64 (1:Int) s.Cols).toNat) (0:Int)).length-c.toNat)) a)) none) none) none) none) none) none) none
theorem Bv {s b a r} (h:jP s b a=some r):Call tab ow 83 [.agg [I s.Rows,I s.Cols,I s.Publics,sl aV s.A,sl aV s.B,sl aV s.C],sl eI b,sl eI a] []=some (sl eI r,[]):=by
 rw [ak (af:=pT) rfl]
 unfold jP at h
 simp only [pT,BC]
 have d1:= @ma
 exact go2
end
def mh (s:Source):Option Source:=
 (dh s.Script).bind fun a=>
 some (Source.mk a s.At s.State s.Count)
theorem BV {s r} (h:mh s=some r):Call tab ow 112 [.agg [sl aG s.Script,I s.At,S s.State,I s.Count]] []=some (.agg [sl aG r.Script,I r.At,S r.State,I r.Count],[]):=by
 rw [ak (af:=qy) rfl]
 unfold mh at h
 simp only [qy,BZ]
 have d1:= @km
 exact go2
section
attribute [local go_sem] fh D8
def wt (t:List Int) (b:Int):(List Ext)×Int->Option (((List Ext)×Int)⊕(((List Ext)×Int×Bool)))
 | (l,a)=>
   br (decide (a<b)) (
   (atL t a).bind fun x=>
   br (bj ((l++([(Ext.mk x 0)]:List Ext)).length) 16) (
   some (.inl ((l++([(Ext.mk x 0)]:List Ext)),(wrap .i64 (a+1))))) none) (
   some (.inr (l,a,decide (a<b))))
theorem a3z {t a}:LXe tab ow (.close [6003,6004]) Sa (wt t a) (fun s=>⟨[(3,.sl 2000 0 s.1.length),(7,sl eI t),(8,I a),(9,I s.2)],[(2000,⟨2,false,rws aG s.1⟩)]⟩) 0 (fun e=>(e.1,e.2.1)) (fun e=>[(10,B e.2.2)]):=by
 refine lrX (fun s o h=> ?_)
 obtain ⟨_,_⟩:=s
 simp only [wt] at h
 simp only [Sa,Tm]
 exact go2
def As (a:List Int):Option (List Ext):=
 (Loop (wt a (a.length:Int)) (([]:List Ext),0)).bind fun b=>
 some b.1
theorem Dq {a r} (h:As a=some r):Call tab ow 289 [sl eI a] []=some (sl aG r,[]):=by
 rw [ak (af:=Mt) rfl]
 unfold As at h
 simp only [Mt,SP]
 have d1:= @a3z
 exact go2
end
def eG (s:bD):Option (((List aN)×(List aN)×(List aN))):=
 some (s.A,s.B,s.C)
theorem nf {s r} (h:eG s=some r):Call tab ow 177 [.agg [I s.Rows,I s.Cols,I s.Publics,sl aV s.A,sl aV s.B,sl aV s.C]] []=some (.agg [sl aV r.1,sl aV r.2.1,sl aV r.2.2],[]):=by
 rw [ak (af:=nj) rfl]
 unfold eG at h
 simp only [nj,yX]
 exact go2
section
@[local go_sem] theorem a0R:mkR 2012 []=rws eU8 []:=rfl
def mr (n:Int) (l:List UInt8):Option (List UInt8):=
 br (bj ((l++([(UInt8.ofInt (cc .i64 n 24)),(UInt8.ofInt (cc .i64 n 16)),(UInt8.ofInt (cc .i64 n 8)),(UInt8.ofInt n)]:List UInt8)).length) 1) (
 some (l++([(UInt8.ofInt (cc .i64 n 24)),(UInt8.ofInt (cc .i64 n 16)),(UInt8.ofInt (cc .i64 n 8)),(UInt8.ofInt n)]:List UInt8))) none
theorem oH {n l r} (h:mr n l=some r):Call tab ow 225 [.sl 0 0 l.length,I n] [⟨1,false,rws eU8 l⟩]=some (.sl 0 0 r.length,[⟨1,false,rws eU8 r⟩]):=by
 rw [ak (af:=Dj) rfl]
 unfold mr at h
 simp only [Dj,Ri]
 exact go2
end
section
attribute [local go_sem] rM
@[local go_sem] theorem Xk:mkR 2011 []=rws eU8 []:=rfl
@[local go_sem] theorem XL:mkR 10007 []=rws eU8 []:=rfl
def ee (j:List UInt8) (t h o:List aN) (m:Int) (e:List aN) (d c n k:Int) (f i p:List aN):(List UInt8)×Int->Option (((List UInt8)×Int)⊕(((List UInt8)×Int×Bool)))
 | (l,a)=>
   br (decide (a<d)) (
   (atL e a).bind fun x=>
   br (bj ((l++([(UInt8.ofInt x.Row),(UInt8.ofInt x.Col)]:List UInt8)).length) 1) (
   (mr x.Value (l++([(UInt8.ofInt x.Row),(UInt8.ofInt x.Col)]:List UInt8))).bind fun b=>
   some (.inl (b,(wrap .i64 (a+1))))) none) (
   some (.inr (l,a,decide (a<d))))
theorem D1 {f t b m j k a c l i p d n}:LXe tab ow (.close [9002,10007,10008,10011]) fD (ee f t b m j k a c l i p d n) (fun s=>⟨[(3,.sl 2000 0 s.1.length),(22,.agg [sl aV t,sl aV b,sl aV m]),(23,I j),(30,sl aV k),(31,I a),(32,I s.2)],[(1000,⟨6,true,[[I c,I l,I i,sl aV p,sl aV d,sl aV n]]⟩),(2000,⟨1,false,rws eU8 s.1⟩),(2011,⟨1,false,rws eU8 f⟩)]⟩) 2 (fun e=>(e.1,e.2.1)) (fun e=>[(33,B e.2.2)]):=by
 refine lrX (fun s o h=> ?_)
 obtain ⟨_,_⟩:=s
 simp only [ee] at h
 simp only [fD,jD]
 have d1:= @oH
 exact go2
def jM (r:List UInt8) (m n k:List aN) (l:Int) (d:List aN) (c p q o:Int) (j i h:List aN):(List UInt8)×Int->Option (((List UInt8)×Int)⊕(((List UInt8)×Int×Bool)))
 | (e,a)=>
   br (decide (a<c)) (
   (atL d a).bind fun b=>
   br (bj ((e++([(UInt8.ofInt b.Row),(UInt8.ofInt b.Col)]:List UInt8)).length) 1) (
   (mr b.Value (e++([(UInt8.ofInt b.Row),(UInt8.ofInt b.Col)]:List UInt8))).bind fun f=>
   some (.inl (f,(wrap .i64 (a+1))))) none) (
   some (.inr (e,a,decide (a<c))))
theorem CH {p q k d f i j m n l c b a}:LXe tab ow (.close [9002,10007,10008,10011]) fD (jM p q k d f i j m n l c b a) (fun s=>⟨[(3,.sl 2000 0 s.1.length),(22,.agg [sl aV q,sl aV k,sl aV d]),(23,I f),(30,sl aV i),(31,I j),(32,I s.2)],[(1000,⟨6,true,[[I m,I n,I l,sl aV c,sl aV b,sl aV a]]⟩),(2000,⟨1,false,rws eU8 s.1⟩),(2011,⟨1,false,rws eU8 p⟩)]⟩) 2 (fun e=>(e.1,e.2.1)) (fun e=>[(33,B e.2.2)]):=by
 refine lrX (fun s o h=> ?_)
 obtain ⟨_,_⟩:=s
 simp only [jM] at h
 simp only [fD,jD]
 have d1:= @oH
 exact go2
def jy (r:List UInt8) (h k l:List aN) (p:Int) (d:List aN) (b i o m:Int) (j q n:List aN):(List UInt8)×Int->Option (((List UInt8)×Int)⊕(((List UInt8)×Int×Bool)))
 | (e,a)=>
   br (decide (a<b)) (
   (atL d a).bind fun c=>
   br (bj ((e++([(UInt8.ofInt c.Row),(UInt8.ofInt c.Col)]:List UInt8)).length) 1) (
   (mr c.Value (e++([(UInt8.ofInt c.Row),(UInt8.ofInt c.Col)]:List UInt8))).bind fun f=>
   some (.inl (f,(wrap .i64 (a+1))))) none) (
   some (.inr (e,a,decide (a<b))))
theorem Dd {q b n i m d a c l j f p k}:LXe tab ow (.close [9002,10007,10008,10011]) fD (jy q b n i m d a c l j f p k) (fun s=>⟨[(3,.sl 2000 0 s.1.length),(22,.agg [sl aV b,sl aV n,sl aV i]),(23,I m),(30,sl aV d),(31,I a),(32,I s.2)],[(1000,⟨6,true,[[I c,I l,I j,sl aV f,sl aV p,sl aV k]]⟩),(2000,⟨1,false,rws eU8 s.1⟩),(2011,⟨1,false,rws eU8 q⟩)]⟩) 2 (fun e=>(e.1,e.2.1)) (fun e=>[(33,B e.2.2)]):=by
 refine lrX (fun s o h=> ?_)
 obtain ⟨_,_⟩:=s
 simp only [jy] at h
 simp only [fD,jD]
 have d1:= @oH
 exact go2
def jS (s:bD):Option (List UInt8):=
 br (bj ((([(115:UInt8),(121:UInt8),(115:UInt8),(116:UInt8),(101:UInt8),(109:UInt8)]:List UInt8)++([(UInt8.ofInt s.Rows),(UInt8.ofInt s.Cols),(UInt8.ofInt s.Publics)]:List UInt8)).length) 1) (
 (eG s).bind fun a=>
 (mr (a.1.length:Int) (([(115:UInt8),(121:UInt8),(115:UInt8),(116:UInt8),(101:UInt8),(109:UInt8)]:List UInt8)++([(UInt8.ofInt s.Rows),(UInt8.ofInt s.Cols),(UInt8.ofInt s.Publics)]:List UInt8))).bind fun f=>
 (Loop (ee ([(UInt8.ofInt s.Rows),(UInt8.ofInt s.Cols),(UInt8.ofInt s.Publics)]:List UInt8) a.1 a.2.1 a.2.2 0 a.1 (a.1.length:Int) s.Rows s.Cols s.Publics s.A s.B s.C) (f,0)).bind fun h=>
 (mr (a.2.1.length:Int) h.1).bind fun c=>
 (Loop (jM ([(UInt8.ofInt s.Rows),(UInt8.ofInt s.Cols),(UInt8.ofInt s.Publics)]:List UInt8) a.1 a.2.1 a.2.2 1 a.2.1 (a.2.1.length:Int) s.Rows s.Cols s.Publics s.A s.B s.C) (c,0)).bind fun d=>
 (mr (a.2.2.length:Int) d.1).bind fun b=>
 (Loop (jy ([(UInt8.ofInt s.Rows),(UInt8.ofInt s.Cols),(UInt8.ofInt s.Publics)]:List UInt8) a.1 a.2.1 a.2.2 2 a.2.2 (a.2.2.length:Int) s.Rows s.Cols s.Publics s.A s.B s.C) (b,0)).bind fun e=>
 some e.1) none
theorem FC {s r} (h:jS s=some r):Call tab ow 351 [.agg [I s.Rows,I s.Cols,I s.Publics,sl aV s.A,sl aV s.B,sl aV s.C]] []=some (sl eU8 r,[]):=by
 rw [ak (af:=lM) rfl]
 unfold jS at h
 simp+decide only [lM,lT,go_sem,reduceIte,Nat.reduceAdd,Int.reduceAdd,Int.reduceMul,Int.reduceSub]
 obtain ⟨hb,h⟩:=brg h
 refine CV hb ?_
 obtain ⟨r_,h1,h⟩:=bd h
 refine dq (nf h1) ?_
 simp+decide only [go_sem,reduceIte,Nat.reduceAdd,Int.reduceAdd,Int.reduceMul,Int.reduceSub]
 refine fV ?_
 simp+decide only [mkL,go_sem,reduceIte,Nat.reduceAdd,Int.reduceAdd,Int.reduceMul,Int.reduceSub]
 obtain ⟨r_2,h1,h⟩:=bd h
 refine dq (oH h1) ?_
 simp+decide only [go_sem,reduceIte,Nat.reduceAdd,Int.reduceAdd,Int.reduceMul,Int.reduceSub]
 obtain ⟨e_,h1,h⟩:=bd h
 refine Em (lxE D1 h1) ?_
 simp+decide only [go_sem,reduceIte,Nat.reduceAdd,Int.reduceAdd,Int.reduceMul,Int.reduceSub]
 refine fV ?_
 simp+decide only [mkL,go_sem,reduceIte,Nat.reduceAdd,Int.reduceAdd,Int.reduceMul,Int.reduceSub]
 obtain ⟨r_4,h1,h⟩:=bd h
 refine dq (oH h1) ?_
 simp+decide only [go_sem,reduceIte,Nat.reduceAdd,Int.reduceAdd,Int.reduceMul,Int.reduceSub]
 obtain ⟨e_2,h1,h⟩:=bd h
 refine Em (lxE CH h1) ?_
 simp+decide only [go_sem,reduceIte,Nat.reduceAdd,Int.reduceAdd,Int.reduceMul,Int.reduceSub]
 refine fV ?_
 simp+decide only [mkL,go_sem,reduceIte,Nat.reduceAdd,Int.reduceAdd,Int.reduceMul,Int.reduceSub]
 obtain ⟨r_6,h1,h⟩:=bd h
 refine dq (oH h1) ?_
 simp+decide only [go_sem,reduceIte,Nat.reduceAdd,Int.reduceAdd,Int.reduceMul,Int.reduceSub]
 obtain ⟨e_3,h1,h⟩:=bd h
 refine Em (lxE Dd h1) ?_
 simp+decide only [go_sem,reduceIte,Nat.reduceAdd,Int.reduceAdd,Int.reduceMul,Int.reduceSub]
 refine fV ?_
 simp+decide only [mkL,go_sem,reduceIte,Nat.reduceAdd,Int.reduceAdd,Int.reduceMul,Int.reduceSub]
 obtain rfl:=cS h
 first|rfl| (simp only [aO,go_sem];done)
end
section
attribute [local go_sem] a1p
@[local go_sem] theorem b3F:mkR 2014 []=rws eU8 []:=rfl
def jQ (l:List (List UInt8)) (q:List UInt8) (f:List Int) (e c m j:Int) (h i p:List aN) (n o k:Int):(List UInt8)×Int->Option (((List UInt8)×Int)⊕(((List UInt8)×Int×Bool)))
 | (d,a)=>
   br (decide (a<e)) (
   (atL f a).bind fun x=>
   (mr x d).bind fun b=>
   some (.inl (b,(wrap .i64 (a+1))))) (
   some (.inr (d,a,decide (a<e))))
theorem Pi {l a b n c j f q d p k m i}:LXe tab ow (.close [6002]) F8 (jQ l a b n c j f q d p k m i) (fun s=>⟨[(7,.sl 2004 0 s.1.length),(26,sl eI b),(27,I n),(28,I s.2)],[(1000,⟨6,true,[[I c,I j,I f,sl aV q,sl aV d,sl aV p]]⟩),(1001,⟨3,true,[[I k,I m,I i]]⟩),(2002,⟨1,false,rws (eL eU8) l⟩),(2004,⟨1,false,rws eU8 s.1⟩),(2014,⟨1,false,rws eU8 a⟩)]⟩) 0 (fun e=>(e.1,e.2.1)) (fun e=>[(29,B e.2.2)]):=by
 refine lrX (fun s o h=> ?_)
 obtain ⟨_,_⟩:=s
 simp only [jQ] at h
 simp only [F8,Fi]
 have d1:= @oH
 exact go2
def uL (s:bD) (t:Setting) (a:List Int):Option (List UInt8):=
 (jS s).bind fun c=>
 (uQ ([c]:List (List UInt8))).bind fun b=>
 br (bj b.length 1) (
 br (bj ((b++([(UInt8.ofInt t.Rate),(UInt8.ofInt t.Queries),(UInt8.ofInt t.Grind)]:List UInt8)).length) 1) (
 (Loop (jQ ([c]:List (List UInt8)) ([(UInt8.ofInt t.Rate),(UInt8.ofInt t.Queries),(UInt8.ofInt t.Grind)]:List UInt8) a (a.length:Int) s.Rows s.Cols s.Publics s.A s.B s.C t.Rate t.Queries t.Grind) ((b++([(UInt8.ofInt t.Rate),(UInt8.ofInt t.Queries),(UInt8.ofInt t.Grind)]:List UInt8)),0)).bind fun d=>
 some d.1) none) none
theorem Jn {s t a r} (h:uL s t a=some r):Call tab ow 290 [.agg [I s.Rows,I s.Cols,I s.Publics,sl aV s.A,sl aV s.B,sl aV s.C],.agg [I t.Rate,I t.Queries,I t.Grind],sl eI a] []=some (sl eU8 r,[]):=by
 rw [ak (af:=xi) rfl]
 unfold uL at h
 simp only [xi,Cf]
 have d1:= @FC
 have d2:= @A3
 have d3:= @Pi
 exact go2
end
section
attribute [local go_sem] a0R
def Ea (n:Int):Option (List UInt8):=
 br (bj (([(UInt8.ofInt (cc .i64 n 24)),(UInt8.ofInt (cc .i64 n 16)),(UInt8.ofInt (cc .i64 n 8)),(UInt8.ofInt n)]:List UInt8).length) 1) (
 some ([(UInt8.ofInt (cc .i64 n 24)),(UInt8.ofInt (cc .i64 n 16)),(UInt8.ofInt (cc .i64 n 8)),(UInt8.ofInt n)]:List UInt8)) none
theorem H0 {n r} (h:Ea n=some r):Call tab ow 225 [.lit (.slice none 0 0),I n] []=some (sl eU8 r,[]):=by
 rw [ak (af:=Dj) rfl]
 unfold Ea at h
 simp only [Dj,Ri]
 exact go2
end
section
@[local go_sem] theorem a2d:mkR 1007 []=rws eU8 []:=rfl
@[local go_sem] theorem a3J:mkR 1013 []=rws (eL eU8) []:=rfl
def dJ (t:List UInt8) (m:Source):Option Source:=
 br (bj m.State.length 1) (
 (Ea (t.length:Int)).bind fun b=>
 (uQ ([m.State,([(97:UInt8),(98:UInt8),(115:UInt8),(111:UInt8),(114:UInt8),(98:UInt8)]:List UInt8),b,t]:List (List UInt8))).bind fun a=>
 some (Source.mk m.Script m.At a 0)) none
theorem gu {t m r} (h:dJ t m=some r):Call tab ow 221 [.ptr 0 0 0 1,sl eU8 t] [⟨4,true,[[sl aG m.Script,I m.At,S m.State,I m.Count]]⟩]=some (.tup [],[⟨4,true,[[sl aG r.Script,I r.At,S r.State,I r.Count]]⟩]):=by
 rw [ak (af:=pU) rfl]
 unfold dJ at h
 simp only [pU,Bt]
 have d1:= @H0
 have d2:= @A3
 exact go2
end
def i5 (a b:Ext):Option Ext:=
 (O3 a.A b.A).bind fun d=>
 (O3 a.B b.B).bind fun c=>
 some (Ext.mk d c)
theorem kC {a b r} (h:i5 a b=some r):Call tab ow 198 [.agg [I a.A,I a.B],.agg [I b.A,I b.B]] []=some (.agg [I r.A,I r.B],[]):=by
 rw [ak (af:=wY) rfl]
 unfold i5 at h
 simp only [wY,J6]
 have d1:= @Y6
 exact go2
section
attribute [local go_sem] fh
def fO (a t:Int):(List Ext)×Int->Option (((List Ext)×Int)⊕(((List Ext)×Int×Bool)))
 | (c,b)=>
   br (decide (b<t)) (
   br ((de .i64 b a) !=0) (
   br (decide (0<=b)) (
   br (decide (b.toNat<c.length)) (
   (c[b.toNat]?).bind fun x=>
   br (decide (0<=(wrap .i64 (b-a)))) (
   br (decide ((wrap .i64 (b-a)).toNat<c.length)) (
   (c[(wrap .i64 (b-a)).toNat]?).bind fun d=>
   (i5 x d).bind fun e=>
   br (decide (0<=b)) (
   br (decide (b.toNat<c.length)) (
   (c[b.toNat]?).bind fun f=>
   some (.inl ((c.set b.toNat e),(wrap .i64 (b+1))))) none) none) none) none) none) none) (
   some (.inl (c,(wrap .i64 (b+1)))))) (
   some (.inr (c,b,decide (b<t))))
theorem JE {a t}:LXe tab ow (.close [10013]) Mh (fO a t) (fun s=>⟨[(1,.fn 198 []),(5,.sl 2000 0 s.1.length),(6,I a),(18,I t),(19,I s.2)],[(2000,⟨2,false,rws aG s.1⟩)]⟩) 2 (fun e=>(e.1,e.2.1)) (fun e=>[(20,B e.2.2)]):=by
 refine lrX (fun s o h=> ?_)
 obtain ⟨_,_⟩:=s
 simp only [fO] at h
 simp only [Mh,LY]
 have d1:= @kC
 exact go2
def hG:(List Ext)×Int->Option (((List Ext)×Int)⊕(((List Ext)×Int×Bool)))
 | (l,a)=>
   br (decide (a<(l.length:Int))) (
   (Loop (fO a (l.length:Int)) (l,0)).bind fun b=>
   some (.inl (b.1,(wrap .i64 (a*2))))) (
   some (.inr (l,a,decide (a<(l.length:Int)))))
theorem JN:LXe tab ow (.close [10013]) KY (hG) (fun s=>⟨[(1,.fn 198 []),(5,.sl 2000 0 s.1.length),(6,I s.2)],[(2000,⟨2,false,rws aG s.1⟩)]⟩) 0 (fun e=>(e.1,e.2.1)) (fun e=>[(14,B e.2.2)]):=by
 refine lrX (fun s o h=> ?_)
 obtain ⟨_,_⟩:=s
 simp only [hG] at h
 simp only [KY,Mv]
 have d1:= @JE
 exact go2
def uW (a:List Ext):Option (List Ext):=
 br (bj ((([]:List Ext)++a).length) 16) (
 (Loop (hG) ((([]:List Ext)++a),1)).bind fun b=>
 some b.1) none
theorem N0 {a r} (h:uW a=some r):Call tab ow 197 [sl aG a,.fn 198 []] []=some (sl aG r,[]):=by
 rw [ak (af:=ET) rfl]
 unfold uW at h
 simp only [ET,EI]
 have d1:= @JN
 exact go2
end
def zQ (a:List Ext):Option (List Ext):=
 (uW a).bind fun b=>
 some b
theorem Oi {a r} (h:zQ a=some r):Call tab ow 99 [sl aG a] []=some (sl aG r,[]):=by
 rw [ak (af:=C7) rfl]
 unfold zQ at h
 simp only [C7,Ok]
 have d1:= @N0
 exact go2
def yz (x:Int):Option Int:=
 br (decide (x>=4294967296)) (
 br (decide ((cc .u64 x 32)>=65536)) (
 br (decide ((cc .u64 (cc .u64 x 32) 16)>=256)) (
 (atL (([0,1,2,2,3,3,3,3,4,4,4,4,4,4,4,4,5,5,5,5,5,5,5,5,5,5,5,5,5,5,5,5,6,6,6,6,6,6,6,6,6,6,6,6,6,6,6,6,6,6,6,6,6,6,6,6,6,6,6,6,6,6,6,6,7,7,7,7,7,7,7,7,7,7,7,7,7,7,7,7,7,7,7,7,7,7,7,7,7,7,7,7,7,7,7,7,7,7,7,7,7,7,7,7,7,7,7,7,7,7,7,7,7,7,7,7,7,7,7,7,7,7,7,7,7,7,7,7,8,8,8,8,8,8,8,8,8,8,8,8,8,8,8,8,8,8,8,8,8,8,8,8,8,8,8,8,8,8,8,8,8,8,8,8,8,8,8,8,8,8,8,8,8,8,8,8,8,8,8,8,8,8,8,8,8,8,8,8,8,8,8,8,8,8,8,8,8,8,8,8,8,8,8,8,8,8,8,8,8,8,8,8,8,8,8,8,8,8,8,8,8,8,8,8,8,8,8,8,8,8,8,8,8,8,8,8,8,8,8,8,8,8,8,8,8,8,8,8,8,8,8,8,8,8,8,8]:List UInt8)) (wrap .u8 (cc .u64 (cc .u64 (cc .u64 x 32) 16) 8))).bind fun c=>
 some (wrap .i64 (56+(wrap .i64 (c.toNat:Int))))) (
 (atL (([0,1,2,2,3,3,3,3,4,4,4,4,4,4,4,4,5,5,5,5,5,5,5,5,5,5,5,5,5,5,5,5,6,6,6,6,6,6,6,6,6,6,6,6,6,6,6,6,6,6,6,6,6,6,6,6,6,6,6,6,6,6,6,6,7,7,7,7,7,7,7,7,7,7,7,7,7,7,7,7,7,7,7,7,7,7,7,7,7,7,7,7,7,7,7,7,7,7,7,7,7,7,7,7,7,7,7,7,7,7,7,7,7,7,7,7,7,7,7,7,7,7,7,7,7,7,7,7,8,8,8,8,8,8,8,8,8,8,8,8,8,8,8,8,8,8,8,8,8,8,8,8,8,8,8,8,8,8,8,8,8,8,8,8,8,8,8,8,8,8,8,8,8,8,8,8,8,8,8,8,8,8,8,8,8,8,8,8,8,8,8,8,8,8,8,8,8,8,8,8,8,8,8,8,8,8,8,8,8,8,8,8,8,8,8,8,8,8,8,8,8,8,8,8,8,8,8,8,8,8,8,8,8,8,8,8,8,8,8,8,8,8,8,8,8,8,8,8,8,8,8,8,8,8,8,8]:List UInt8)) (wrap .u8 (cc .u64 (cc .u64 x 32) 16))).bind fun d=>
 some (wrap .i64 (48+(wrap .i64 (d.toNat:Int)))))) (
 br (decide ((cc .u64 x 32)>=256)) (
 (atL (([0,1,2,2,3,3,3,3,4,4,4,4,4,4,4,4,5,5,5,5,5,5,5,5,5,5,5,5,5,5,5,5,6,6,6,6,6,6,6,6,6,6,6,6,6,6,6,6,6,6,6,6,6,6,6,6,6,6,6,6,6,6,6,6,7,7,7,7,7,7,7,7,7,7,7,7,7,7,7,7,7,7,7,7,7,7,7,7,7,7,7,7,7,7,7,7,7,7,7,7,7,7,7,7,7,7,7,7,7,7,7,7,7,7,7,7,7,7,7,7,7,7,7,7,7,7,7,7,8,8,8,8,8,8,8,8,8,8,8,8,8,8,8,8,8,8,8,8,8,8,8,8,8,8,8,8,8,8,8,8,8,8,8,8,8,8,8,8,8,8,8,8,8,8,8,8,8,8,8,8,8,8,8,8,8,8,8,8,8,8,8,8,8,8,8,8,8,8,8,8,8,8,8,8,8,8,8,8,8,8,8,8,8,8,8,8,8,8,8,8,8,8,8,8,8,8,8,8,8,8,8,8,8,8,8,8,8,8,8,8,8,8,8,8,8,8,8,8,8,8,8,8,8,8,8,8]:List UInt8)) (wrap .u8 (cc .u64 (cc .u64 x 32) 8))).bind fun b=>
 some (wrap .i64 (40+(wrap .i64 (b.toNat:Int))))) (
 (atL (([0,1,2,2,3,3,3,3,4,4,4,4,4,4,4,4,5,5,5,5,5,5,5,5,5,5,5,5,5,5,5,5,6,6,6,6,6,6,6,6,6,6,6,6,6,6,6,6,6,6,6,6,6,6,6,6,6,6,6,6,6,6,6,6,7,7,7,7,7,7,7,7,7,7,7,7,7,7,7,7,7,7,7,7,7,7,7,7,7,7,7,7,7,7,7,7,7,7,7,7,7,7,7,7,7,7,7,7,7,7,7,7,7,7,7,7,7,7,7,7,7,7,7,7,7,7,7,7,8,8,8,8,8,8,8,8,8,8,8,8,8,8,8,8,8,8,8,8,8,8,8,8,8,8,8,8,8,8,8,8,8,8,8,8,8,8,8,8,8,8,8,8,8,8,8,8,8,8,8,8,8,8,8,8,8,8,8,8,8,8,8,8,8,8,8,8,8,8,8,8,8,8,8,8,8,8,8,8,8,8,8,8,8,8,8,8,8,8,8,8,8,8,8,8,8,8,8,8,8,8,8,8,8,8,8,8,8,8,8,8,8,8,8,8,8,8,8,8,8,8,8,8,8,8,8,8]:List UInt8)) (wrap .u8 (cc .u64 x 32))).bind fun i=>
 some (wrap .i64 (32+(wrap .i64 (i.toNat:Int))))))) (
 br (decide (x>=65536)) (
 br (decide ((cc .u64 x 16)>=256)) (
 (atL (([0,1,2,2,3,3,3,3,4,4,4,4,4,4,4,4,5,5,5,5,5,5,5,5,5,5,5,5,5,5,5,5,6,6,6,6,6,6,6,6,6,6,6,6,6,6,6,6,6,6,6,6,6,6,6,6,6,6,6,6,6,6,6,6,7,7,7,7,7,7,7,7,7,7,7,7,7,7,7,7,7,7,7,7,7,7,7,7,7,7,7,7,7,7,7,7,7,7,7,7,7,7,7,7,7,7,7,7,7,7,7,7,7,7,7,7,7,7,7,7,7,7,7,7,7,7,7,7,8,8,8,8,8,8,8,8,8,8,8,8,8,8,8,8,8,8,8,8,8,8,8,8,8,8,8,8,8,8,8,8,8,8,8,8,8,8,8,8,8,8,8,8,8,8,8,8,8,8,8,8,8,8,8,8,8,8,8,8,8,8,8,8,8,8,8,8,8,8,8,8,8,8,8,8,8,8,8,8,8,8,8,8,8,8,8,8,8,8,8,8,8,8,8,8,8,8,8,8,8,8,8,8,8,8,8,8,8,8,8,8,8,8,8,8,8,8,8,8,8,8,8,8,8,8,8,8]:List UInt8)) (wrap .u8 (cc .u64 (cc .u64 x 16) 8))).bind fun a=>
 some (wrap .i64 (24+(wrap .i64 (a.toNat:Int))))) (
 (atL (([0,1,2,2,3,3,3,3,4,4,4,4,4,4,4,4,5,5,5,5,5,5,5,5,5,5,5,5,5,5,5,5,6,6,6,6,6,6,6,6,6,6,6,6,6,6,6,6,6,6,6,6,6,6,6,6,6,6,6,6,6,6,6,6,7,7,7,7,7,7,7,7,7,7,7,7,7,7,7,7,7,7,7,7,7,7,7,7,7,7,7,7,7,7,7,7,7,7,7,7,7,7,7,7,7,7,7,7,7,7,7,7,7,7,7,7,7,7,7,7,7,7,7,7,7,7,7,7,8,8,8,8,8,8,8,8,8,8,8,8,8,8,8,8,8,8,8,8,8,8,8,8,8,8,8,8,8,8,8,8,8,8,8,8,8,8,8,8,8,8,8,8,8,8,8,8,8,8,8,8,8,8,8,8,8,8,8,8,8,8,8,8,8,8,8,8,8,8,8,8,8,8,8,8,8,8,8,8,8,8,8,8,8,8,8,8,8,8,8,8,8,8,8,8,8,8,8,8,8,8,8,8,8,8,8,8,8,8,8,8,8,8,8,8,8,8,8,8,8,8,8,8,8,8,8,8]:List UInt8)) (wrap .u8 (cc .u64 x 16))).bind fun h=>
 some (wrap .i64 (16+(wrap .i64 (h.toNat:Int)))))) (
 br (decide (x>=256)) (
 (atL (([0,1,2,2,3,3,3,3,4,4,4,4,4,4,4,4,5,5,5,5,5,5,5,5,5,5,5,5,5,5,5,5,6,6,6,6,6,6,6,6,6,6,6,6,6,6,6,6,6,6,6,6,6,6,6,6,6,6,6,6,6,6,6,6,7,7,7,7,7,7,7,7,7,7,7,7,7,7,7,7,7,7,7,7,7,7,7,7,7,7,7,7,7,7,7,7,7,7,7,7,7,7,7,7,7,7,7,7,7,7,7,7,7,7,7,7,7,7,7,7,7,7,7,7,7,7,7,7,8,8,8,8,8,8,8,8,8,8,8,8,8,8,8,8,8,8,8,8,8,8,8,8,8,8,8,8,8,8,8,8,8,8,8,8,8,8,8,8,8,8,8,8,8,8,8,8,8,8,8,8,8,8,8,8,8,8,8,8,8,8,8,8,8,8,8,8,8,8,8,8,8,8,8,8,8,8,8,8,8,8,8,8,8,8,8,8,8,8,8,8,8,8,8,8,8,8,8,8,8,8,8,8,8,8,8,8,8,8,8,8,8,8,8,8,8,8,8,8,8,8,8,8,8,8,8,8]:List UInt8)) (wrap .u8 (cc .u64 x 8))).bind fun e=>
 some (wrap .i64 (8+(wrap .i64 (e.toNat:Int))))) (
 (atL (([0,1,2,2,3,3,3,3,4,4,4,4,4,4,4,4,5,5,5,5,5,5,5,5,5,5,5,5,5,5,5,5,6,6,6,6,6,6,6,6,6,6,6,6,6,6,6,6,6,6,6,6,6,6,6,6,6,6,6,6,6,6,6,6,7,7,7,7,7,7,7,7,7,7,7,7,7,7,7,7,7,7,7,7,7,7,7,7,7,7,7,7,7,7,7,7,7,7,7,7,7,7,7,7,7,7,7,7,7,7,7,7,7,7,7,7,7,7,7,7,7,7,7,7,7,7,7,7,8,8,8,8,8,8,8,8,8,8,8,8,8,8,8,8,8,8,8,8,8,8,8,8,8,8,8,8,8,8,8,8,8,8,8,8,8,8,8,8,8,8,8,8,8,8,8,8,8,8,8,8,8,8,8,8,8,8,8,8,8,8,8,8,8,8,8,8,8,8,8,8,8,8,8,8,8,8,8,8,8,8,8,8,8,8,8,8,8,8,8,8,8,8,8,8,8,8,8,8,8,8,8,8,8,8,8,8,8,8,8,8,8,8,8,8,8,8,8,8,8,8,8,8,8,8,8,8]:List UInt8)) (wrap .u8 x)).bind fun f=>
 some (wrap .i64 (0+(wrap .i64 (f.toNat:Int)))))))
theorem Mi {x r} (h:yz x=some r):Call tab ow 386 [.lit (.int .u64 x)] []=some (I r,[]):=by
 rw [ak (af:=qh) rfl]
 unfold yz at h
 simp only [qh,By]
 exact go2
def Cu (x:Int):Option Int:=
 (yz x).bind fun a=>
 some a
theorem Py {x r} (h:Cu x=some r):Call tab ow 348 [.lit (.int .u64 x)] []=some (I r,[]):=by
 rw [ak (af:=tU) rfl]
 unfold Cu at h
 simp only [tU,Ft]
 have d1:= @Mi
 exact go2
def Hx (n:Int):Option Int:=
 (Cu (wrap .u64 n)).bind fun a=>
 some (wrap .i64 (a-1))
theorem NP {n r} (h:Hx n=some r):Call tab ow 309 [I n] []=some (I r,[]):=by
 rw [ak (af:=Hq) rfl]
 unfold Hx at h
 simp only [Hq,UW]
 have d1:= @Py
 exact go2
def A0:Int×Int×Int->Option ((Int×Int×Int)⊕((Int×Int×Int×Bool)))
 | (c,b,a)=>
   br (decide (b>0)) (
   br ((de .i64 b 1)==1) (
   (uB a c).bind fun f=>
   (uB c c).bind fun d=>
   some (.inl (d,(cc .i64 b 1),f))) (
   (uB c c).bind fun e=>
   some (.inl (e,(cc .i64 b 1),a)))) (
   some (.inr (c,b,a,decide (b>0))))
theorem a8D:LXe tab ow (.close [6002,7002]) UK (A0) (fun s=>⟨[(0,I s.1),(1,I s.2.1),(5,I s.2.2)],[]⟩) 0 (fun e=>(e.1,e.2.1,e.2.2.1)) (fun e=>[(7,B e.2.2.2)]):=by
 refine lrX (fun s o h=> ?_)
 obtain ⟨_,_,_⟩:=s
 simp only [A0] at h
 simp only [UK,Vd]
 have d1:= @Bj
 exact go2
def Rb (a n:Int):Option Int:=
 (Loop (A0) (a,n,1)).bind fun b=>
 some b.2.2.1
theorem Ye {a n r} (h:Rb a n=some r):Call tab ow 359 [I a,I n] []=some (I r,[]):=by
 rw [ak (af:=PH) rfl]
 unfold Rb at h
 simp only [PH,Wq]
 have d1:= @a8D
 exact go2
def N7 (k:Int):Option Int:=
 br (decide (0<=(wrap .i64 (24-k)))) (
 (Rb 3 (ct .i64 127 (wrap .i64 (24-k)))).bind fun a=>
 some a) none
theorem a0A {k r} (h:N7 k=some r):Call tab ow 308 [I k] []=some (I r,[]):=by
 rw [ak (af:=Mo) rfl]
 unfold N7 at h
 simp only [Mo,a1E]
 have d1:= @Ye
 exact go2
def ip (a:Ext) (n:Int):Option Ext:=
 (uB a.A n).bind fun c=>
 (uB a.B n).bind fun b=>
 some (Ext.mk c b)
theorem nS {a n r} (h:ip a n=some r):Call tab ow 354 [.agg [I a.A,I a.B],I n] []=some (.agg [I r.A,I r.B],[]):=by
 rw [ak (af:=vk) rfl]
 unfold ip at h
 simp only [vk,Hk]
 have d1:= @Bj
 exact go2
def fK (a b:Ext):Option Ext:=
 (H6 a.A b.A).bind fun d=>
 (H6 a.B b.B).bind fun c=>
 some (Ext.mk d c)
theorem gS {a b r} (h:fK a b=some r):Call tab ow 199 [.agg [I a.A,I a.B],.agg [I b.A,I b.B]] []=some (.agg [I r.A,I r.B],[]):=by
 rw [ak (af:=zx) rfl]
 unfold fK at h
 simp only [zx,LK]
 have d1:= @Lc
 exact go2
section
@[local go_sem] theorem c0m:mkR 4000 []=rws aG []:=rfl
@[local go_sem] theorem c0s:mkR 4001 []=rws aG []:=rfl
@[local go_sem] theorem c0i:mkR 8005 []=rws aG []:=rfl
@[local go_sem] theorem c0u:mkR 8013 []=rws aG []:=rfl
@[local go_sem] theorem c0z: ∀k,Uh 11002 k [I (0:Int),I (0:Int)]=rws aG (List.replicate k (Ext.mk (0:Int) (0:Int))):=fun _=>b3d aG (Ext.mk (0:Int) (0:Int)) _ _
def og (a:List Ext) (t:Int):(List Ext)×(List Ext)×Int->Option (((List Ext)×(List Ext)×Int)⊕(((List Ext)×(List Ext)×Int×Bool)))
 | (l,c,b)=>
   br (decide (b<(a.length:Int))) (
   (atL a b).bind fun x=>
   br (bj ((l++([x]:List Ext)).length) 16) (
   (atL a (wrap .i64 (b+1))).bind fun d=>
   br (bj ((c++([d]:List Ext)).length) 16) (
   some (.inl ((l++([x]:List Ext)),(c++([d]:List Ext)),(wrap .i64 (b+2))))) none) none) (
   some (.inr (l,c,b,decide (b<(a.length:Int)))))
theorem Wr {a t}:LXe tab ow (.close [8005,8006,8013,8014]) Mx (og a t) (fun s=>⟨[(0,sl aG a),(1,I t),(5,.sl 4000 0 s.1.length),(6,.sl 4001 0 s.2.1.length),(7,I s.2.2)],[(4000,⟨2,false,rws aG s.1⟩),(4001,⟨2,false,rws aG s.2.1⟩)]⟩) 0 (fun e=>(e.1,e.2.1,e.2.2.1)) (fun e=>[(25,B e.2.2.2)]):=by
 refine lrX (fun s o h=> ?_)
 obtain ⟨_,_,_⟩:=s
 simp only [og] at h
 simp only [Mx,LC]
 exact go2
def ol (e l:List Ext) (o f k:Int):(List Ext)×Int×Int->Option (((List Ext)×Int×Int)⊕(((List Ext)×Int×Int×Bool)))
 | (b,j,a)=>
   br (decide (a<k)) (
   br (decide (0<=a)) (
   br (decide (a.toNat<l.length)) (
   (l[a.toNat]?).bind fun p=>
   (ip p j).bind fun c=>
   br (decide (0<=a)) (
   br (decide (a.toNat<e.length)) (
   (e[a.toNat]?).bind fun n=>
   (fK n c).bind fun d=>
   br (decide (0<=a)) (
   br (decide (a.toNat<e.length)) (
   (e[a.toNat]?).bind fun m=>
   (i5 m c).bind fun h=>
   br (decide (0<=a)) (
   br (decide (a.toNat<b.length)) (
   (b[a.toNat]?).bind fun q=>
   br (decide (0<=(wrap .i64 (a+f)))) (
   br (decide ((wrap .i64 (a+f)).toNat<b.length)) (
   ((b.set a.toNat d)[(wrap .i64 (a+f)).toNat]?).bind fun r=>
   (uB j o).bind fun i=>
   some (.inl (((b.set a.toNat d).set ((wrap .i64 (a+f)).toNat) h),i,(wrap .i64 (a+1))))) none) none) none) none) none) none) none) none) none) none) (
   some (.inr (b,j,a,decide (a<k))))
theorem Xo {b a f d c}:LXe tab ow (.close [15005,15006,16011,16017,17002]) J2 (ol b a f d c) (fun s=>⟨[(1,I f),(8,.sl 9004 0 b.length),(9,.sl 9009 0 a.length),(10,I d),(11,I s.2.1),(12,.sl 11002 0 s.1.length),(58,I c),(59,I s.2.2)],[(4000,kf),(4001,kf),(9004,⟨2,false,rws aG b⟩),(9009,⟨2,false,rws aG a⟩),(11002,⟨2,false,rws aG s.1⟩)]⟩) 2 (fun e=>(e.1,e.2.1,e.2.2.1)) (fun e=>[(60,B e.2.2.2)]):=by
 refine lrX (fun s o h=> ?_)
 obtain ⟨_,_,_⟩:=s
 simp only [ol] at h
 simp only [J2,Ja]
 have d1:= @nS
 have d2:= @gS
 have d3:= @kC
 have d4:= @Bj
 exact go2
def rk:Nat->(List Ext)->Int->Option (List Ext)
 |0,_,_=>none
 |n_+1,ListtoArray,a=>
  br ((ListtoArray.length:Int)==1) (
  (dh ListtoArray).bind fun i=>
  some i) (
  (Loop (og ListtoArray a) (([]:List Ext),([]:List Ext),0)).bind fun h=>
  (uB a a).bind fun e=>
  (rk n_ h.1 e).bind fun b=>
  (uB a a).bind fun c=>
  (rk n_ h.2.1 c).bind fun f=>
  br (TU (wrap .i64 (2*(b.length:Int))) (wrap .i64 (2*(b.length:Int))) 16) (
  (Loop (ol b f a (b.length:Int) (b.length:Int)) ((List.replicate ((wrap .i64 ((2:Int)*(b.length:Int))).toNat) (Ext.mk (0:Int) (0:Int))),(1:Int),(0:Int))).bind fun d=>
  some d.1) none)
theorem VX (c:Nat): ∀{b:(List Ext)} {a:Int} {r:(List Ext)},rk c b a=some r->Call tab ow 307 [sl aG b,I a] []=some (.sl 0 0 r.length,[⟨2,false,rws aG r⟩]):=by
 induction c with
 |zero=>intro _ _ r h;cases h
 |succ c ih=>
  intro b a r h
  rw [ak (af:=DB) rfl]
  simp only [rk] at h
  simp only [DB,DD]
  have d1:= @km
  have d2:= @Wr
  have d3:= @Bj
  have d4:= @ih
  have d5:= @Xo
  exact go2
def Sp (b:List Ext) (a:Int):Option (List Ext):=lim (fun c=>rk c b a)
theorem a3q {b:(List Ext)} {a:Int} {r:(List Ext)} (h:Sp b a=some r):Call tab ow 307 [sl aG b,I a] []=some (.sl 0 0 r.length,[⟨2,false,rws aG r⟩]):=by
 obtain ⟨n_,hn⟩:=VL h
 exact VX n_ hn
end
def a60 (a:List Ext):Option (List Ext):=
 (Hx (a.length:Int)).bind fun d=>
 (N7 d).bind fun b=>
 (Sp a b).bind fun c=>
 some c
theorem b6Z {a r} (h:a60 a=some r):Call tab ow 196 [sl aG a] []=some (sl aG r,[]):=by
 rw [ak (af:=PP) rfl]
 unfold a60 at h
 simp only [PP,a5o]
 have d1:= @NP
 have d2:= @a0A
 have d3:= @a3q
 exact go2
section
@[local go_sem] theorem b9a: ∀k,Uh 2004 k [I (0:Int),I (0:Int)]=rws aG (List.replicate k (Ext.mk (0:Int) (0:Int))):=fun _=>b3d aG (Ext.mk (0:Int) (0:Int)) _ _
def zX (a:List Ext) (b:Int):Option (List Ext):=
 br (decide (0<=b)) (
 br (TU (ct .i64 (a.length:Int) b) (ct .i64 (a.length:Int) b) 16) (
 (a60 (yN (List.replicate ((ct .i64 (a.length:Int) b).toNat) (Ext.mk (0:Int) (0:Int))) 0 (min a.length ((List.replicate ((ct .i64 (a.length:Int) b).toNat) (Ext.mk (0:Int) (0:Int))).length)) a)).bind fun c=>
 some c) none) none
theorem OS {a b r} (h:zX a b=some r):Call tab ow 98 [sl aG a,I b] []=some (sl aG r,[]):=by
 rw [ak (af:=BP) rfl]
 unfold zX at h
 simp only [BP,OK]
 have d1:= @b6Z
 exact go2
end
section
attribute [local go_sem] rM
def nH (t:List Ext) (c:Int):(List UInt8)×Int->Option (((List UInt8)×Int)⊕(((List UInt8)×Int×Bool)))
 | (l,a)=>
   br (decide (a<c)) (
   (atL t a).bind fun x=>
   (mr x.A l).bind fun d=>
   (mr x.B d).bind fun b=>
   some (.inl (b,(wrap .i64 (a+1))))) (
   some (.inr (l,a,decide (a<c))))
theorem Te {t a}:LXe tab ow (.close [5002,6003,6006]) Gw (nH t a) (fun s=>⟨[(3,.sl 2000 0 s.1.length),(7,sl aG t),(8,I a),(9,I s.2)],[(2000,⟨1,false,rws eU8 s.1⟩)]⟩) 0 (fun e=>(e.1,e.2.1)) (fun e=>[(10,B e.2.2)]):=by
 refine lrX (fun s o h=> ?_)
 obtain ⟨_,_⟩:=s
 simp only [nH] at h
 simp only [Gw,GN]
 have d1:= @oH
 exact go2
def iw (a:List Ext):Option (List UInt8):=
 (Loop (nH a (a.length:Int)) (([]:List UInt8),0)).bind fun b=>
 some b.1
theorem kz {a r} (h:iw a=some r):Call tab ow 175 [sl aG a] []=some (sl eU8 r,[]):=by
 rw [ak (af:=zm) rfl]
 unfold iw at h
 simp only [zm,E3]
 have d1:= @Te
 exact go2
end
section
@[local go_sem] theorem Jd:mkR 2000 []=rws eS []:=rfl
@[local go_sem] theorem b5E:mkR 6011 []=rws aG []:=rfl
@[local go_sem] theorem b5B:mkR 6014 []=rws eS []:=rfl
def lk (a:List Ext) (c t:Int):(List (List UInt8))×Int->Option (((List (List UInt8))×Int)⊕(((List (List UInt8))×Int×Bool)))
 | (l,b)=>
   br (decide (b<t)) (
   (atL a b).bind fun x=>
   (atL a (wrap .i64 (b+c))).bind fun e=>
   (iw ([x,e]:List Ext)).bind fun d=>
   br (bj ((l++([d]:List (List UInt8))).length) 16) (
   some (.inl ((l++([d]:List (List UInt8))),(wrap .i64 (b+1))))) none) (
   some (.inr (l,b,decide (b<t))))
theorem SQ {a b t}:LXe tab ow (.close [6011,6012,6014,6015]) Gc (lk a b t) (fun s=>⟨[(0,sl aG a),(3,.sl 2000 0 s.1.length),(4,I b),(10,I t),(11,I s.2)],[(2000,⟨1,false,rws eS s.1⟩)]⟩) 0 (fun e=>(e.1,e.2.1)) (fun e=>[(12,B e.2.2)]):=by
 refine lrX (fun s o h=> ?_)
 obtain ⟨_,_⟩:=s
 simp only [lk] at h
 simp only [Gc,FY]
 have d1:= @kz
 exact go2
def Ab (a:List Ext):Option ((List (List UInt8))):=
 (Loop (lk a (wrap .i64 ((a.length:Int).tdiv 2)) (wrap .i64 ((a.length:Int).tdiv 2))) (([]:List (List UInt8)),0)).bind fun b=>
 some b.1
theorem Wv {a r} (h:Ab a=some r):Call tab ow 195 [sl aG a] []=some (sl eS r,[]):=by
 rw [ak (af:=zn) rfl]
 unfold Ab at h
 simp only [zn,DX]
 have d1:= @SQ
 exact go2
end
def wM (a:List UInt8):Option (List UInt8):=
 br (bj ((([0]:List UInt8)).length+a.length) 1) (
 some ((([0]:List UInt8))++a)) none
theorem KV {a r} (h:wM a=some r):Call tab ow 305 [S a] []=some (S r,[]):=by
 rw [ak (af:=zs) rfl]
 unfold wM at h
 simp only [zs,L7]
 exact go2
def u7 (a b:List UInt8):Option (List UInt8):=
 br (bj ((([1]:List UInt8)).length+a.length) 1) (
 br (bj (((([1]:List UInt8))++a).length+b.length) 1) (
 some (((([1]:List UInt8))++a)++b)) none) none
theorem KZ {a b r} (h:u7 a b=some r):Call tab ow 306 [S a,S b] []=some (S r,[]):=by
 rw [ak (af:=zf) rfl]
 unfold u7 at h
 simp only [zf,Md]
 exact go2
end
end Go.AI.Fn
