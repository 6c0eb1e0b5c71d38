/- Part. -/
import Derived.Test.YtdnkignjanfikaaGreatFx0
set_option linter.unusedVariables false
set_option linter.unusedSimpArgs false
set_option maxRecDepth 100000
set_option maxHeartbeats 1000000
namespace Go.AI.Fn
noncomputable section
open IntKind (wrap)
def pk (m:List Int) (t:List UInt8) (c:Int):(List Int)×Int->Option (((List Int)×Int)⊕(((List Int)×Int×Bool)))
 | (b,a)=>
   br (decide (a<c)) (
   (atL t a).bind fun x=>
   br (decide (0<=(wrap .i64 (a.tdiv 8)))&&decide ((wrap .i64 (a.tdiv 8)).toNat<25)) (
   (b[(wrap .i64 (a.tdiv 8)).toNat]?).bind fun d=>
   br (decide (0<=(wrap .i64 (8*(a.tmod 8))))) (
   br (decide (0<=(wrap .i64 (a.tdiv 8)))&&decide ((wrap .i64 (a.tdiv 8)).toNat<25)) (
   br (decide ((wrap .i64 (a.tdiv 8)).toNat<b.length)) (
   some (.inl ((b.set ((wrap .i64 (a.tdiv 8)).toNat) (Cy .u64 d (ct .u64 (wrap .u64 (x.toNat:Int)) (wrap .i64 (8*(a.tmod 8)))))),(wrap .i64 (a+1))))) none) none) none) none) (
   some (.inr (b,a,decide (a<c))))
def Uu {m t a}:LXe tab ow (.close []) CG (pk m t a) (fun s=>⟨[(2,.ptr 1000 0 0 1),(3,.ptr 2001 0 0 1),(7,sl eU8 t),(8,I a),(9,I s.2)],[(1000,⟨25,true,[ar .u64 m]⟩),(2001,⟨25,true,[ar .u64 s.1]⟩)]⟩) 0 (fun e=>(e.1,e.2.1)) (fun e=>[(10,B e.2.2)]):=by
 refine lrX (fun s o h=> ?_)
 obtain ⟨_,_⟩:=s
 simp only [pk] at h
 simp only [CG]
 exact go2
def D5 (a:List UInt8):Option (List Int):=
 (Loop (pk (nZ 25) a (a.length:Int)) ((nZ 25),0)).bind fun b=>
 br (decide (b.1.length=25)) (
 br (decide (b.1.length=25)) (
 br (decide (b.1.length=25)) (
 some b.1) none) none) none
def ZH {a r} (h:D5 a=some r):Call tab ow 344 [sl eU8 a] []=some (.agg (ar .u64 r),[]):=by
 rw [ak (af:=Bo) rfl]
 unfold D5 at h
 simp only [Bo,OD]
 have d1:= @Uu
 exact go2
def fV (x k:Int):Option Int:=
 br (decide (0<=(dc .u64 (wrap .u64 k) 63))) (
 br (decide (0<=(wrap .u64 (64-(dc .u64 (wrap .u64 k) 63))))) (
 some (Cy .u64 (ct .u64 x (dc .u64 (wrap .u64 k) 63)) (cc .u64 x (wrap .u64 (64-(dc .u64 (wrap .u64 k) 63)))))) none) none
def CB {x k r} (h:fV x k=some r):Call tab ow 376 [.lit (.int .u64 x),I k] []=some (.lit (.int .u64 r),[]):=by
 rw [ak (af:=jj) rfl]
 unfold fV at h
 simp only [jj,tn]
 exact go2
def iK (d k i j:List Int) (h:Int) (l:List Int) (f:Int):(List Int)×Int->Option (((List Int)×Int)⊕(((List Int)×Int×Bool)))
 | (b,a)=>
   br (decide (a<25)) (
   br (decide (0<=a)&&decide (a.toNat<25)) (
   (d[a.toNat]?).bind fun c=>
   br (decide (0<=(a.tmod 5))&&decide ((a.tmod 5).toNat<5)) (
   (b[(a.tmod 5).toNat]?).bind fun e=>
   br (decide (0<=(a.tmod 5))&&decide ((a.tmod 5).toNat<5)) (
   br (decide ((a.tmod 5).toNat<b.length)) (
   some (.inl ((b.set ((a.tmod 5).toNat) (sx .u64 e c)),(wrap .i64 (a+1))))) none) none) none) none) (
   some (.inr (b,a,decide (a<25))))
def HZ {c i d f b j a}:LXe tab ow (.close []) sN (iK c i d f b j a) (fun s=>⟨[(0,.ptr 0 0 0 1),(2,.ptr 1001 0 0 1),(5,.lit (.int .u64 b)),(6,.ptr 6002 0 0 1),(7,.ptr 6003 0 0 1),(20,.agg (ar .u64 j)),(21,I a),(26,.ptr 0 0 0 1),(27,I s.2)],[(0,⟨25,true,[ar .u64 c]⟩),(1001,⟨25,true,[ar .i64 i]⟩),(2001,⟨24,true,[ar .u64 d]⟩),(6002,⟨5,true,[ar .u64 s.1]⟩),(6003,⟨25,true,[ar .u64 f]⟩)]⟩) 2 (fun e=>(e.1,e.2.1)) (fun e=>[(28,B e.2.2)]):=by
 refine lrX (fun s o h=> ?_)
 obtain ⟨_,_⟩:=s
 simp only [iK] at h
 simp only [sN]
 exact go2
def iJ (e d m c:List Int) (o:Int) (n:List Int) (p:Int):(List Int)×Int->Option (((List Int)×Int)⊕(((List Int)×Int×Bool)))
 | (b,a)=>
   br (decide (a<25)) (
   br (decide (0<=a)&&decide (a.toNat<25)) (
   (e[a.toNat]?).bind fun i=>
   br (decide (0<=((wrap .i64 ((a.tmod 5)+4)).tmod 5))&&decide (((wrap .i64 ((a.tmod 5)+4)).tmod 5).toNat<5)) (
   (c[((wrap .i64 ((a.tmod 5)+4)).tmod 5).toNat]?).bind fun j=>
   br (decide (0<=((wrap .i64 ((a.tmod 5)+1)).tmod 5))&&decide (((wrap .i64 ((a.tmod 5)+1)).tmod 5).toNat<5)) (
   (c[((wrap .i64 ((a.tmod 5)+1)).tmod 5).toNat]?).bind fun h=>
   (fV h 1).bind fun k=>
   br (decide (0<=a)&&decide (a.toNat<25)) (
   (d[a.toNat]?).bind fun l=>
   (fV (sx .u64 i (sx .u64 j k)) l).bind fun f=>
   br (decide (0<=(wrap .i64 ((wrap .i64 (a.tdiv 5))+(wrap .i64 (5*((wrap .i64 ((wrap .i64 (2*(a.tmod 5)))+(wrap .i64 (3*(wrap .i64 (a.tdiv 5)))))).tmod 5))))))&&decide ((wrap .i64 ((wrap .i64 (a.tdiv 5))+(wrap .i64 (5*((wrap .i64 ((wrap .i64 (2*(a.tmod 5)))+(wrap .i64 (3*(wrap .i64 (a.tdiv 5)))))).tmod 5))))).toNat<25)) (
   br (decide ((wrap .i64 ((wrap .i64 (a.tdiv 5))+(wrap .i64 (5*((wrap .i64 ((wrap .i64 (2*(a.tmod 5)))+(wrap .i64 (3*(wrap .i64 (a.tdiv 5)))))).tmod 5))))).toNat<b.length)) (
   some (.inl ((b.set ((wrap .i64 ((wrap .i64 (a.tdiv 5))+(wrap .i64 (5*((wrap .i64 ((wrap .i64 (2*(a.tmod 5)))+(wrap .i64 (3*(wrap .i64 (a.tdiv 5)))))).tmod 5))))).toNat) f),(wrap .i64 (a+1))))) none) none) none) none) none) none) (
   some (.inr (b,a,decide (a<25))))
def Ia {c a b d i f j}:LXe tab ow (.close [16011,17013]) qK (iJ c a b d i f j) (fun s=>⟨[(0,.ptr 0 0 0 1),(2,.ptr 1001 0 0 1),(5,.lit (.int .u64 i)),(6,.ptr 6002 0 0 1),(7,.ptr 6003 0 0 1),(20,.agg (ar .u64 f)),(21,I j),(41,.ptr 0 0 0 1),(42,I s.2)],[(0,⟨25,true,[ar .u64 c]⟩),(1001,⟨25,true,[ar .i64 a]⟩),(2001,⟨24,true,[ar .u64 b]⟩),(6002,⟨5,true,[ar .u64 d]⟩),(6003,⟨25,true,[ar .u64 s.1]⟩)]⟩) 4 (fun e=>(e.1,e.2.1)) (fun e=>[(43,B e.2.2)]):=by
 refine lrX (fun s o h=> ?_)
 obtain ⟨_,_⟩:=s
 simp only [iJ] at h
 simp only [qK]
 have d1:= @CB
 exact go2
def iL (f i n c:List Int) (m:Int) (j:List Int) (k:Int) (d:List Int):(List Int)×Int->Option (((List Int)×Int)⊕(((List Int)×Int×Bool)))
 | (b,a)=>
   br (decide (a<25)) (
   br (decide (0<=a)&&decide (a.toNat<25)) (
   (d[a.toNat]?).bind fun l=>
   br (decide (0<=(wrap .i64 ((wrap .i64 (a-(a.tmod 5)))+((wrap .i64 ((a.tmod 5)+2)).tmod 5))))&&decide ((wrap .i64 ((wrap .i64 (a-(a.tmod 5)))+((wrap .i64 ((a.tmod 5)+2)).tmod 5))).toNat<25)) (
   (c[(wrap .i64 ((wrap .i64 (a-(a.tmod 5)))+((wrap .i64 ((a.tmod 5)+2)).tmod 5))).toNat]?).bind fun h=>
   br (decide (0<=(wrap .i64 ((wrap .i64 (a-(a.tmod 5)))+((wrap .i64 ((a.tmod 5)+1)).tmod 5))))&&decide ((wrap .i64 ((wrap .i64 (a-(a.tmod 5)))+((wrap .i64 ((a.tmod 5)+1)).tmod 5))).toNat<25)) (
   (c[(wrap .i64 ((wrap .i64 (a-(a.tmod 5)))+((wrap .i64 ((a.tmod 5)+1)).tmod 5))).toNat]?).bind fun e=>
   br (decide (0<=a)&&decide (a.toNat<25)) (
   br (decide (a.toNat<b.length)) (
   some (.inl ((b.set a.toNat (sx .u64 l (RZ .u64 h e))),(wrap .i64 (a+1))))) none) none) none) none) none) (
   some (.inr (b,a,decide (a<25))))
def Ie {a b k i j d f c}:LXe tab ow (.close []) qJ (iL a b k i j d f c) (fun s=>⟨[(0,.ptr 0 0 0 1),(2,.ptr 1001 0 0 1),(5,.lit (.int .u64 j)),(7,.ptr 6003 0 0 1),(20,.agg (ar .u64 d)),(21,I f),(82,.agg (ar .u64 c)),(83,I s.2)],[(0,⟨25,true,[ar .u64 s.1]⟩),(1001,⟨25,true,[ar .i64 a]⟩),(2001,⟨24,true,[ar .u64 b]⟩),(6002,⟨5,true,[ar .u64 k]⟩),(6003,⟨25,true,[ar .u64 i]⟩)]⟩) 6 (fun e=>(e.1,e.2.1)) (fun e=>[(84,B e.2.2)]):=by
 refine lrX (fun s o h=> ?_)
 obtain ⟨_,_⟩:=s
 simp only [iL] at h
 simp only [qJ]
 exact go2
def iR (e f t:List Int):(List Int)×Int->Option (((List Int)×Int)⊕(((List Int)×Int×Bool)))
 | (d,a)=>
   br (decide (a<24)) (
   br (decide (0<=a)&&decide (a.toNat<24)) (
   (t[a.toNat]?).bind fun x=>
   (Loop (iK d e f (nZ 25) x t a) ((nZ 5),0)).bind fun i=>
   (Loop (iJ d e f i.1 x t a) ((nZ 25),0)).bind fun c=>
   br (decide (c.1.length=25)) (
   (Loop (iL e f i.1 c.1 x t a c.1) (d,0)).bind fun b=>
   (b.1[0]?).bind fun h=>
   br (decide (0<b.1.length)) (
   some (.inl ((b.1.set 0 (sx .u64 h x)),(wrap .i64 (a+1))))) none) none) none) (
   some (.inr (d,a,decide (a<24))))
def Ii {a b t}:LXe tab ow (.close [6002,6003,16011,17013]) sV (iR a b t) (fun s=>⟨[(0,.ptr 0 0 0 1),(2,.ptr 1001 0 0 1),(20,.agg (ar .u64 t)),(21,I s.2)],[(0,⟨25,true,[ar .u64 s.1]⟩),(1001,⟨25,true,[ar .i64 a]⟩),(2001,⟨24,true,[ar .u64 b]⟩)]⟩) 0 (fun e=>(e.1,e.2.1)) (fun e=>[(22,B e.2.2)]):=by
 refine lrX (fun s o h=> ?_)
 obtain ⟨_,_⟩:=s
 simp only [iR] at h
 simp only [sV]
 have d1:= @HZ
 have d2:= @Ia
 have d3:= @Ie
 exact go2
def pb (m:List Int):Option (List Int):=
 (Loop (iR ([0,1,62,28,27,36,44,6,55,20,3,10,43,25,39,41,45,15,21,8,18,2,61,56,14]:List Int) ([1,32898,9223372036854808714,9223372039002292224,32907,2147483649,9223372039002292353,9223372036854808585,138,136,2147516425,2147483658,2147516555,9223372036854775947,9223372036854808713,9223372036854808579,9223372036854808578,9223372036854775936,32778,9223372039002259466,9223372039002292353,9223372036854808704,2147483649,9223372039002292232]:List Int) ([1,32898,9223372036854808714,9223372039002292224,32907,2147483649,9223372039002292353,9223372036854808585,138,136,2147516425,2147483658,2147516555,9223372036854775947,9223372036854808713,9223372036854808579,9223372036854808578,9223372036854775936,32778,9223372039002259466,9223372039002292353,9223372036854808704,2147483649,9223372039002292232]:List Int)) (m,0)).bind fun a=>
 some a.1
def Mi {m r} (h:pb m=some r):Call tab ow 345 [.ptr 0 0 0 1] [⟨25,true,[ar .u64 m]⟩]=some (.tup [],[⟨25,true,[ar .u64 r]⟩]):=by
 rw [ak (af:=pT) rfl]
 unfold pb at h
 simp only [pT,Bb]
 have d1:= @Ii
 exact go2
section
attribute [local go_sem] sh
@[local go_sem] theorem a9D:mkR 6012 []=rws eU8 []:=rfl
def kJ (a:List Int):(List UInt8)×Int->Option (((List UInt8)×Int)⊕(((List UInt8)×Int×Bool)))
 | (l,t)=>
   br (decide (t<200)) (
   br (decide (0<=(wrap .i64 (t.tdiv 8)))&&decide ((wrap .i64 (t.tdiv 8)).toNat<25)) (
   (a[(wrap .i64 (t.tdiv 8)).toNat]?).bind fun x=>
   br (decide (0<=(wrap .i64 (8*(t.tmod 8))))) (
   br (bj ((l++([(UInt8.ofInt (cc .u64 x (wrap .i64 (8*(t.tmod 8)))))]:List UInt8)).length) 1) (
   some (.inl ((l++([(UInt8.ofInt (cc .u64 x (wrap .i64 (8*(t.tmod 8)))))]:List UInt8)),(wrap .i64 (t+1))))) none) none) none) (
   some (.inr (l,t,decide (t<200))))
def MW {a}:LXe tab ow (.close [6012,6013]) CV (kJ a) (fun s=>⟨[(0,.ptr 0 0 0 1),(3,.sl 2000 0 s.1.length),(6,I s.2)],[(0,⟨25,true,[ar .u64 a]⟩),(2000,⟨1,false,rws eU8 s.1⟩)]⟩) 0 (fun e=>(e.1,e.2.1)) (fun e=>[(7,B e.2.2)]):=by
 refine lrX (fun s o h=> ?_)
 obtain ⟨_,_⟩:=s
 simp only [kJ] at h
 simp only [CV,CR]
 exact go2
def vj (m:List Int):Option ((List UInt8)×(List Int)):=
 (Loop (kJ m) (([]:List UInt8),0)).bind fun a=>
 some (a.1,m)
def RX {m r} (h:vj m=some r):Call tab ow 346 [.ptr 0 0 0 1] [⟨25,true,[ar .u64 m]⟩]=some (sl eU8 r.1,[⟨25,true,[ar .u64 r.2]⟩]):=by
 rw [ak (af:=vE) rfl]
 unfold vj at h
 simp only [vE,AV]
 have d1:= @MW
 exact go2
end
section
attribute [local go_sem] sh
@[local go_sem] theorem c0p:mkR 8001 []=rws eU8 []:=rfl
@[local go_sem] theorem c06:mkR 10001 []=rws eU8 []:=rfl
def rI (t:List (List UInt8)) (b:Int):(List UInt8)×Int->Option (((List UInt8)×Int)⊕(((List UInt8)×Int×Bool)))
 | (l,a)=>
   br (decide (a<b)) (
   (atL t a).bind fun x=>
   br (bj ((l++x).length) 1) (
   some (.inl ((l++x),(wrap .i64 (a+1))))) none) (
   some (.inr (l,a,decide (a<b))))
def Ya {t a}:LXe tab ow (.close [6002]) DA (rI t a) (fun s=>⟨[(3,.sl 2000 0 s.1.length),(10,sl (eL eU8) t),(11,I a),(12,I s.2)],[(2000,⟨1,false,rws eU8 s.1⟩)]⟩) 0 (fun e=>(e.1,e.2.1)) (fun e=>[(13,B e.2.2)]):=by
 refine lrX (fun s o h=> ?_)
 obtain ⟨_,_⟩:=s
 simp only [rI] at h
 simp only [DA]
 exact go2
def oR (b:List UInt8):(List UInt8)->Option (((List UInt8))⊕(((List UInt8)×Bool)))
 |a=>
  br (((a.length:Int).tmod 136) !=0) (
  br (bj ((a++([(0:UInt8)]:List UInt8)).length) 1) (
  some (.inl (a++([(0:UInt8)]:List UInt8)))) none) (
  some (.inr (a,(((a.length:Int).tmod 136) !=0))))
def XI {a}:LXe tab ow (.close [10001,10002]) DQ (oR a) (fun s=>⟨[(3,.sl 2000 0 s.length)],[(2000,⟨1,false,rws eU8 s⟩),(8001,⟨1,false,rws eU8 a⟩)]⟩) 2 (fun e=>e.1) (fun e=>[(26,B e.2)]):=by
 refine lrX (fun s o h=> ?_)
 simp only [oR] at h
 simp only [DQ]
 exact go2
def s7 (h c:List UInt8) (f:List Int):(List Int)×Int->Option (((List Int)×Int)⊕(((List Int)×Int×Bool)))
 | (b,a)=>
   br (decide (a<25)) (
   br (decide (0<=a)&&decide (a.toNat<25)) (
   (f[a.toNat]?).bind fun d=>
   br (decide (0<=a)&&decide (a.toNat<25)) (
   (b[a.toNat]?).bind fun e=>
   br (decide (0<=a)&&decide (a.toNat<25)) (
   br (decide (a.toNat<b.length)) (
   some (.inl ((b.set a.toNat (sx .u64 e d)),(wrap .i64 (a+1))))) none) none) none) none) (
   some (.inr (b,a,decide (a<25))))
def Wu {b a c}:LXe tab ow (.close []) Ce (s7 b a c) (fun s=>⟨[(3,sl eU8 a),(6,.ptr 12001 0 0 1),(46,.agg (ar .u64 c)),(47,I s.2)],[(8001,⟨1,false,rws eU8 b⟩),(12001,⟨25,true,[ar .u64 s.1]⟩)]⟩) 6 (fun e=>(e.1,e.2.1)) (fun e=>[(48,B e.2.2)]):=by
 refine lrX (fun s o h=> ?_)
 obtain ⟨_,_⟩:=s
 simp only [s7] at h
 simp only [Ce]
 exact go2
def sk (d:List UInt8):(List Int)×(List UInt8)->Option (((List Int)×(List UInt8))⊕(((List Int)×(List UInt8)×Bool)))
 | (m,a)=>
   br (decide ((a.length:Int)>0)) (
   (rF a 0 136).bind fun y=>
   (D5 y).bind fun e=>
   (Loop (s7 d a e) (m,0)).bind fun b=>
   (pb b.1).bind fun c=>
   (rF a 136 (a.length:Int)).bind fun f=>
   some (.inl (c,f))) (
   some (.inr (m,a,decide ((a.length:Int)>0))))
def Xx {a}:LXe tab ow (.close [15002,20000,2000]) Ca (sk a) (fun s=>⟨[(3,sl eU8 s.2),(6,.ptr 12001 0 0 1)],[(8001,⟨1,false,rws eU8 a⟩),(12001,⟨25,true,[ar .u64 s.1]⟩)]⟩) 4 (fun e=>(e.1,e.2.1)) (fun e=>[(41,B e.2.2)]):=by
 refine lrX (fun s o h=> ?_)
 obtain ⟨_,_⟩:=s
 simp only [sk] at h
 simp only [Ca]
 have d1:= @ZH
 have d2:= @Wu
 have d3:= @Mi
 exact go2
def uR (b:(List (List UInt8))):Option (List UInt8):=
 (Loop (rI b (b.length:Int)) (([]:List UInt8),0)).bind fun e=>
 br (bj ((e.1++([(1:UInt8)]:List UInt8)).length) 1) (
 (Loop (oR ([(1:UInt8)]:List UInt8)) (e.1++([(1:UInt8)]:List UInt8))).bind fun a=>
 br (decide (0<=(wrap .i64 ((a.1.length:Int)-1)))) (
 br (decide ((wrap .i64 ((a.1.length:Int)-1)).toNat<a.1.length)) (
 (a.1[(wrap .i64 ((a.1.length:Int)-1)).toNat]?).bind fun f=>
 br (decide (0<=(wrap .i64 ((a.1.length:Int)-1)))) (
 br (decide ((wrap .i64 ((a.1.length:Int)-1)).toNat<a.1.length)) (
 (a.1[(wrap .i64 ((a.1.length:Int)-1)).toNat]?).bind fun i=>
 (Loop (sk ([(1:UInt8)]:List UInt8)) ((nZ 25),(a.1.set ((wrap .i64 ((a.1.length:Int)-1)).toNat) (UInt8.ofInt (Cy .u8 (f.toNat:Int) 128))))).bind fun d=>
 (vj d.1).bind fun c=>
 (rF c.1 0 32).bind fun h=>
 some h) none) none) none) none) none
def AY {a r} (h:uR a=some r):Call tab ow 284 [sl (eL eU8) a] []=some (S r,[]):=by
 rw [ak (af:=DJ) rfl]
 unfold uR at h
 simp only [DJ,Qe]
 have d1:= @Ya
 have d2:= @XI
 have d3:= @Xx
 have d4:= @RX
 exact go2
end
section
@[local go_sem] theorem Zk:mkR 2002 []=rws (eL eU8) []:=rfl
def uT (t:List UInt8):Option (List UInt8):=
 br (bj t.length 1) (
 (uR ([t]:List (List UInt8))).bind fun a=>
 some a) none
def A7 {t r} (h:uT t=some r):Call tab ow 168 [S t] []=some (S r,[]):=by
 rw [ak (af:=EN) rfl]
 unfold uT at h
 simp only [EN,Qf]
 have d1:= @AY
 exact go2
end
def Eu (a:List UInt8):Option (List UInt8):=
 br (bj ((([115,111,117,114,99,101]:List UInt8)).length+a.length) 1) (
 (uT ((([115,111,117,114,99,101]:List UInt8))++a)).bind fun b=>
 some b) none
def WC {a r} (h:Eu a=some r):Call tab ow 74 [S a] []=some (S r,[]):=by
 rw [ak (af:=zh) rfl]
 unfold Eu at h
 simp only [zh,Lx]
 have d1:= @A7
 exact go2
def yc (a:List UInt8) (b:List Ext):Option (Source×Int):=
 (GM a).bind fun h=>
 br h (
 some ((Source.mk ([]:List Ext) 0 (([]:List UInt8)) 0),2)) (
 br (decide ((b.length:Int)>4096)) (
 some ((Source.mk ([]:List Ext) 0 (([]:List UInt8)) 0),2)) (
 (fq b).bind fun f=>
 br (!f) (
 some ((Source.mk ([]:List Ext) 0 (([]:List UInt8)) 0),1)) (
 br (decide ((a.length:Int)>100)) (
 some ((Source.mk ([]:List Ext) 0 (([]:List UInt8)) 0),4)) (
 (jQ (b.length:Int) 1 64).bind fun e=>
 br (!e) (
 some ((Source.mk ([]:List Ext) 0 (([]:List UInt8)) 0),4)) (
 (di b).bind fun d=>
 (Eu a).bind fun c=>
 some ((Source.mk d 0 c 0),0))))))
def Us {a b r} (h:yc a b=some r):Call tab ow 14 [S a,sl aG b] []=some (.tup [.agg [sl aG r.1.Script,I r.1.At,S r.1.State,I r.1.Count],I r.2],[]):=by
 rw [ak (af:=wZ) rfl]
 unfold yc at h
 simp only [wZ,Jk]
 have d1:= @a1Z
 have d2:= @jZ
 have d3:= @wy
 have d4:= @km
 have d5:= @WC
 exact go2
def FN (g:aC) (a:Int):Option Bool:=
 br (g.Op==3) (
 (uz g.K).bind fun r_=>
 (jQ g.Op 1 8).bind fun r_2=>
 br r_2 (
 br (g.A==0) (
 br (g.B==0) (
 some r_) (
 some false)) (
 some false)) (
 some false)) (
 br (g.Op==4) (
 br (g.Op==4) (
 (jQ g.A 0 (wrap .i64 (a-1))).bind fun u=>
 (jQ g.B 0 (wrap .i64 (a-1))).bind fun z=>
 (jQ g.Op 1 8).bind fun v=>
 br v (
 br u (
 br z (
 some (g.K==0)) (
 some false)) (
 some false)) (
 some false)) (
 br (g.Op==8) (
 (jQ g.A 0 (wrap .i64 (a-1))).bind fun x=>
 (jQ g.Op 1 8).bind fun y=>
 br y (
 br x (
 br (g.B==0) (
 some (g.K==0)) (
 some false)) (
 some false)) (
 some false)) (
 (jQ g.Op 1 8).bind fun t=>
 br t (
 br (g.A==0) (
 br (g.B==0) (
 some (g.K==0)) (
 some false)) (
 some false)) (
 some false)))) (
 br (g.Op==5) (
 br (g.Op==5) (
 (jQ g.A 0 (wrap .i64 (a-1))).bind fun w=>
 (jQ g.B 0 (wrap .i64 (a-1))).bind fun m=>
 (jQ g.Op 1 8).bind fun d=>
 br d (
 br w (
 br m (
 some (g.K==0)) (
 some false)) (
 some false)) (
 some false)) (
 br (g.Op==8) (
 (jQ g.A 0 (wrap .i64 (a-1))).bind fun o=>
 (jQ g.Op 1 8).bind fun q=>
 br q (
 br o (
 br (g.B==0) (
 some (g.K==0)) (
 some false)) (
 some false)) (
 some false)) (
 (jQ g.Op 1 8).bind fun n=>
 br n (
 br (g.A==0) (
 br (g.B==0) (
 some (g.K==0)) (
 some false)) (
 some false)) (
 some false)))) (
 br (g.Op==6) (
 br (g.Op==6) (
 (jQ g.A 0 (wrap .i64 (a-1))).bind fun e=>
 (jQ g.B 0 (wrap .i64 (a-1))).bind fun f=>
 (jQ g.Op 1 8).bind fun i=>
 br i (
 br e (
 br f (
 some (g.K==0)) (
 some false)) (
 some false)) (
 some false)) (
 br (g.Op==8) (
 (jQ g.A 0 (wrap .i64 (a-1))).bind fun k=>
 (jQ g.Op 1 8).bind fun j=>
 br j (
 br k (
 br (g.B==0) (
 some (g.K==0)) (
 some false)) (
 some false)) (
 some false)) (
 (jQ g.Op 1 8).bind fun l=>
 br l (
 br (g.A==0) (
 br (g.B==0) (
 some (g.K==0)) (
 some false)) (
 some false)) (
 some false)))) (
 br (g.Op==7) (
 (jQ g.A 0 (wrap .i64 (a-1))).bind fun h=>
 (jQ g.B 0 (wrap .i64 (a-1))).bind fun r=>
 (jQ g.Op 1 8).bind fun c=>
 br c (
 br h (
 br r (
 some (g.K==0)) (
 some false)) (
 some false)) (
 some false)) (
 br (g.Op==8) (
 (jQ g.A 0 (wrap .i64 (a-1))).bind fun b=>
 (jQ g.Op 1 8).bind fun p=>
 br p (
 br b (
 br (g.B==0) (
 some (g.K==0)) (
 some false)) (
 some false)) (
 some false)) (
 (jQ g.Op 1 8).bind fun s=>
 br s (
 br (g.A==0) (
 br (g.B==0) (
 some (g.K==0)) (
 some false)) (
 some false)) (
 some false)))))))
def a4d {g a r} (h:FN g a=some r):Call tab ow 127 [.agg [I g.Op,I g.A,I g.B,I g.K],I a] []=some (B r,[]):=by
 rw [ak (af:=EB) rfl]
 unfold FN at h
 simp only [EB,SI]
 have d1:= @Gn
 have d2:= @wy
 exact go2
def gx (c:Int) (t:List aC) (d:Int) (e:List aC):Int×Int->Option ((Int×Int)⊕((Int×Int×Bool)))
 | (a,b)=>
   br (decide (b<d)) (
   (atL t b).bind fun x=>
   br (x.Op==c) (
   some (.inl ((wrap .i64 (a+1)),(wrap .i64 (b+1))))) (
   some (.inl (a,(wrap .i64 (b+1)))))) (
   some (.inr (a,b,decide (b<d))))
def FB {a t c b}:LXe tab ow (.close [5002]) wa (gx a t c b) (fun s=>⟨[(1,I a),(5,I s.1),(9,sl er t),(10,I c),(11,I s.2)],[(1000,⟨1,true,[[sl er b]]⟩)]⟩) 0 (fun e=>(e.1,e.2.1)) (fun e=>[(12,B e.2.2)]):=by
 refine lrX (fun s o h=> ?_)
 obtain ⟨_,_⟩:=s
 simp only [gx] at h
 simp only [wa,wk]
 exact go2
def gr (c:Circuit) (b:Int):Option Int:=
 (Loop (gx b c.Gates (c.Gates.length:Int) c.Gates) (0,0)).bind fun a=>
 some a.1
def sP {c a r} (h:gr c a=some r):Call tab ow 128 [.agg [sl er c.Gates],I a] []=some (I r,[]):=by
 rw [ak (af:=nk) rfl]
 unfold gr at h
 simp only [nk,sY]
 have d1:= @FB
 exact go2
def gR (t:List aC) (c:Int) (d:List aC):Int->Option ((Int)⊕((Int×Int×Int×Int)⊕(Int×Bool)))
 |a=>
  br (decide (a<c)) (
  (atL t a).bind fun x=>
  (FN x a).bind fun b=>
  br (!b) (
  some (.inr (.inl (x.Op,x.A,x.B,x.K)))) (
  some (.inl (wrap .i64 (a+1))))) (
  some (.inr (.inr (a,decide (a<c)))))
def Pj {t b a}:LX tab ow (.close [6003,7002]) Fu (gR t b a) (fun s=>⟨[(1,.ptr 1000 0 0 1),(11,sl er t),(12,I b),(13,I s)],[(1000,⟨1,true,[[sl er a]]⟩)]⟩) (alt (fun e=>((.ret,⟨[(2,B false)],[(1000,⟨1,true,[[sl er a]]⟩),(6003,⟨4,true,[[I e.1,I e.2.1,I e.2.2.1,I e.2.2.2]]⟩)]⟩):dd×St)) (fun e=>(.exit 0,⟨[(1,.ptr 1000 0 0 1),(11,sl er t),(12,I b),(13,I e.1),(14,B e.2)],[(1000,⟨1,true,[[sl er a]]⟩)]⟩))):=by
 refine lrX (fun s o h=> ?_)
 simp only [gR] at h
 simp only [Fu,Fb]
 have d1:= @a4d
 exact go2
def uw (c:Circuit):Option Bool:=
 (jQ (c.Gates.length:Int) 1 15).bind fun d=>
 br (!d) (
 some false) (
 (Loop (gR c.Gates (c.Gates.length:Int) c.Gates) 0).bind (alt (fun e=>
 some false) (fun b=>
 (gr c 2).bind fun a=>
 some (decide (a<=7)))))
def IM {c r} (h:uw c=some r):Call tab ow 36 [.agg [sl er c.Gates]] []=some (B r,[]):=by
 rw [ak (af:=xE) rfl]
 unfold uw at h
 simp only [xE,Cv]
 have d1:= @wy
 have d2:= @Pj
 have d3:= @sP
 exact go2
def jV (x:Int):Option Bool:=
 (uz x).bind fun a=>
 some (!a)
def FC {x r} (h:jV x=some r):Call tab ow 248 [I x,.ptr 0 0 0 1] [⟨1,true,[[.fn 132 []]]⟩]=some (B r,[⟨1,true,[[.fn 132 []]]⟩]):=by
 rw [ak (af:=xA) rfl]
 unfold jV at h
 simp only [xA,J1]
 have d1:= @Gn
 exact go2
def cP (b:List Int) (t:Int):Int->Option ((Int)⊕(Int⊕(Int×Bool)))
 |a=>
  br (decide (a<t)) (
  (atL b a).bind fun x=>
  (jV x).bind fun c=>
  br c (
  some (.inr (.inl a))) (
  some (.inl (wrap .i64 (a+1))))) (
  some (.inr (.inr (a,decide (a<t)))))
def mr {a t}:LX tab ow (.close [5005]) o5 (cP a t) (fun s=>⟨[(0,sl eI a),(1,.fn 248 [.ptr 0 0 0 1]),(7,I t),(8,I s)],[(0,⟨1,true,[[.fn 132 []]]⟩)]⟩) (alt (fun e=>((.ret,⟨[(4,I e)],[(0,⟨1,true,[[.fn 132 []]]⟩)]⟩):dd×St)) (fun e=>(.exit 0,⟨[(0,sl eI a),(1,.fn 248 [.ptr 0 0 0 1]),(7,I t),(8,I e.1),(9,B e.2)],[(0,⟨1,true,[[.fn 132 []]]⟩)]⟩))):=by
 refine lrX (fun s o h=> ?_)
 simp only [cP] at h
 simp only [o5,o4]
 have d1:= @FC
 exact go2
def dn (s:List Int):Option Int:=
 (Loop (cP s (s.length:Int)) 0).bind (alt (fun a=>
 some a) (fun b=>
 some (-1:Int)))
def n4 {s r} (h:dn s=some r):Call tab ow 335 [sl eI s,.fn 248 [.ptr 0 0 0 1]] [⟨1,true,[[.fn 132 []]]⟩]=some (I r,[⟨1,true,[[.fn 132 []]]⟩]):=by
 rw [ak (af:=i8) rfl]
 unfold dn at h
 simp only [i8,kf]
 have d1:= @mr
 exact go2
def cW (s:List Int):Option Bool:=
 (dn s).bind fun a=>
 some (decide (a>=0))
def m7 {s r} (h:cW s=some r):Call tab ow 247 [sl eI s,.fn 248 [.ptr 0 0 0 1]] [⟨1,true,[[.fn 132 []]]⟩]=some (B r,[⟨1,true,[[.fn 132 []]]⟩]):=by
 rw [ak (af:=fT) rfl]
 unfold cW at h
 simp only [fT,nE]
 have d1:= @n4
 exact go2
def im (a:List Int):Option Bool:=
 (cW a).bind fun b=>
 some (!b)
def yO {a r} (h:im a=some r):Call tab ow 131 [.fn 132 [],sl eI a] []=some (B r,[]):=by
 rw [ak (af:=BY) rfl]
 unfold im at h
 simp only [BY,OM]
 have d1:= @m7
 exact go2
def zY (c:Circuit) (a b:List Int):Option Int:=
 br (decide ((a.length:Int)>4096)) (
 some 2) (
 br (decide ((b.length:Int)>4096)) (
 some 2) (
 (uw c).bind fun i=>
 br (!i) (
 some 19) (
 (im a).bind fun h=>
 br (!h) (
 some 1) (
 (im b).bind fun f=>
 br (!f) (
 some 1) (
 (gr c 2).bind fun e=>
 br ((a.length:Int) !=e) (
 some 8) (
 (gr c 1).bind fun d=>
 br ((b.length:Int) !=d) (
 some 8) (
 some 0)))))))
def Of {c a b r} (h:zY c a b=some r):Call tab ow 76 [.agg [sl er c.Gates],sl eI a,sl eI b] []=some (I r,[]):=by
 rw [ak (af:=BE) rfl]
 unfold zY at h
 simp only [BE,Oq]
 have d1:= @IM
 have d2:= @yO
 have d3:= @sP
 exact go2
def kH (t:Setting):Option Bool:=
 (jQ t.Rate 1 3).bind fun c=>
 br c (
 (jQ t.Queries 1 8).bind fun a=>
 br a (
 (jQ t.Grind 0 12).bind fun b=>
 some b) (
 some false)) (
 some false)
def py {t r} (h:kH t=some r):Call tab ow 77 [.agg [I t.Rate,I t.Queries,I t.Grind]] []=some (B r,[]):=by
 rw [ak (af:=xn) rfl]
 unfold kH at h
 simp only [xn,IS]
 have d1:= @wy
 exact go2
def xI (a:List UInt8):Option Bool:=
 some ((a.length:Int)==32)
def Ew {a r} (h:xI a=some r):Call tab ow 119 [S a] []=some (B r,[]):=by
 rw [ak (af:=DY) rfl]
 unfold xI at h
 simp only [DY,SM]
 exact go2
def ui (s:Source):Option Bool:=
 br (decide ((s.Script.length:Int)<=64)) (
 (fq s.Script).bind fun d=>
 br d (
 (xI s.State).bind fun b=>
 br b (
 (jQ s.At 0 1000000).bind fun c=>
 br c (
 (jQ s.Count 0 1000000).bind fun a=>
 some a) (
 some false)) (
 some false)) (
 some false)) (
 some false)
def Ms {s r} (h:ui s=some r):Call tab ow 78 [.agg [sl aG s.Script,I s.At,S s.State,I s.Count]] []=some (B r,[]):=by
 rw [ak (af:=zd) rfl]
 unfold ui at h
 simp only [zd,Kq]
 have d1:= @jZ
 have d2:= @Ew
 have d3:= @wy
 exact go2
def mW (s:Source):Option Int:=
 some (wrap .i64 (1000000-(mx s.At s.Count)))
def F3 {s r} (h:mW s=some r):Call tab ow 79 [.agg [sl aG s.Script,I s.At,S s.State,I s.Count]] []=some (I r,[]):=by
 rw [ak (af:=tX) rfl]
 unfold mW at h
 simp only [tX,F6]
 exact go2
def G9 (a b:Int):Option Int:=
 some ((wrap .i64 (a+b)).tmod 2130706433)
def M1 {a b r} (h:G9 a b=some r):Call tab ow 164 [I a,I b] []=some (I r,[]):=by
 rw [ak (af:=Q0) rfl]
 unfold G9 at h
 simp only [Q0,a5N]
 exact go2
def OB (a b:Int):Option Int:=
 some ((wrap .i64 ((wrap .i64 (a-b))+2130706433)).tmod 2130706433)
def VZ {a b r} (h:OB a b=some r):Call tab ow 170 [I a,I b] []=some (I r,[]):=by
 rw [ak (af:=PL) rfl]
 unfold OB at h
 simp only [PL,a5v]
 exact go2
def ut (a b:Int):Option Int:=
 some ((wrap .i64 (a*b)).tmod 2130706433)
def Bj {a b r} (h:ut a b=some r):Call tab ow 171 [I a,I b] []=some (I r,[]):=by
 rw [ak (af:=PP) rfl]
 unfold ut at h
 simp only [PP,a5A]
 exact go2
section
attribute [local go_sem] o8
@[local go_sem] theorem a82:mkR 23002 []=rws eI []:=rfl
def iw (r:List aC) (m:Int) (c:List aC):(List Int)×(List Int)×(List Int)×Int->Option (((List Int)×(List Int)×(List Int)×Int)⊕(((List Int)×Int×Int×Int×Int)⊕((List Int)×(List Int)×(List Int)×Int×Bool)))
 | (l,t,e,d)=>
   br (decide (d<m)) (
   (atL r d).bind fun x=>
   br (x.Op==1) (
   (atL e 0).bind fun n=>
   (rF e 1 (e.length:Int)).bind fun y=>
   br (bj ((l++([n]:List Int)).length) 8) (
   some (.inl ((l++([n]:List Int)),t,y,(wrap .i64 (d+1))))) none) (
   br (x.Op==2) (
   (atL t 0).bind fun o=>
   (rF t 1 (t.length:Int)).bind fun u=>
   br (bj ((l++([o]:List Int)).length) 8) (
   some (.inl ((l++([o]:List Int)),u,e,(wrap .i64 (d+1))))) none) (
   br (x.Op==4) (
   br (decide (0<=x.A)) (
   br (decide (x.A.toNat<l.length)) (
   (l[x.A.toNat]?).bind fun p=>
   br (decide (0<=x.B)) (
   br (decide (x.B.toNat<l.length)) (
   (l[x.B.toNat]?).bind fun s=>
   (G9 p s).bind fun k=>
   br (bj ((l++([k]:List Int)).length) 8) (
   some (.inl ((l++([k]:List Int)),t,e,(wrap .i64 (d+1))))) none) none) none) none) none) (
   br (x.Op==5) (
   br (decide (0<=x.A)) (
   br (decide (x.A.toNat<l.length)) (
   (l[x.A.toNat]?).bind fun v=>
   br (decide (0<=x.B)) (
   br (decide (x.B.toNat<l.length)) (
   (l[x.B.toNat]?).bind fun z=>
   (OB v z).bind fun h=>
   br (bj ((l++([h]:List Int)).length) 8) (
   some (.inl ((l++([h]:List Int)),t,e,(wrap .i64 (d+1))))) none) none) none) none) none) (
   br (x.Op==6) (
   br (decide (0<=x.A)) (
   br (decide (x.A.toNat<l.length)) (
   (l[x.A.toNat]?).bind fun q=>
   br (decide (0<=x.B)) (
   br (decide (x.B.toNat<l.length)) (
   (l[x.B.toNat]?).bind fun w=>
   (ut q w).bind fun f=>
   br (bj ((l++([f]:List Int)).length) 8) (
   some (.inl ((l++([f]:List Int)),t,e,(wrap .i64 (d+1))))) none) none) none) none) none) (
   br (x.Op==7) (
   br (x.Op==7) (
   br (decide (0<=x.A)) (
   br (decide (x.A.toNat<l.length)) (
   (l[x.A.toNat]?).bind fun a=>
   br (x.Op==7) (
   br (decide (0<=x.B)) (
   br (decide (x.B.toNat<l.length)) (
   (l[x.B.toNat]?).bind fun j=>
   br (a !=j) (
   some (.inr (.inl (l,x.Op,x.A,x.B,x.K)))) (
   br (x.Op==8) (
   br (decide (a>1)) (
   some (.inr (.inl (l,x.Op,x.A,x.B,x.K)))) (
   br (bj ((l++([a]:List Int)).length) 8) (
   some (.inl ((l++([a]:List Int)),t,e,(wrap .i64 (d+1))))) none)) (
   br (bj ((l++([a]:List Int)).length) 8) (
   some (.inl ((l++([a]:List Int)),t,e,(wrap .i64 (d+1))))) none))) none) none) (
   br (x.Op==8) (
   br (decide (a>1)) (
   some (.inr (.inl (l,x.Op,x.A,x.B,x.K)))) (
   br (bj ((l++([a]:List Int)).length) 8) (
   some (.inl ((l++([a]:List Int)),t,e,(wrap .i64 (d+1))))) none)) (
   br (bj ((l++([a]:List Int)).length) 8) (
   some (.inl ((l++([a]:List Int)),t,e,(wrap .i64 (d+1))))) none))) none) none) (
   br (bj ((l++([x.K]:List Int)).length) 8) (
   some (.inl ((l++([x.K]:List Int)),t,e,(wrap .i64 (d+1))))) none)) (
   br (x.Op==8) (
   br (decide (0<=x.A)) (
   br (decide (x.A.toNat<l.length)) (
   (l[x.A.toNat]?).bind fun b=>
   br (x.Op==7) (
   br (decide (0<=x.B)) (
   br (decide (x.B.toNat<l.length)) (
   (l[x.B.toNat]?).bind fun i=>
   br (b !=i) (
   some (.inr (.inl (l,x.Op,x.A,x.B,x.K)))) (
   br (x.Op==8) (
   br (decide (b>1)) (
   some (.inr (.inl (l,x.Op,x.A,x.B,x.K)))) (
   br (bj ((l++([b]:List Int)).length) 8) (
   some (.inl ((l++([b]:List Int)),t,e,(wrap .i64 (d+1))))) none)) (
   br (bj ((l++([b]:List Int)).length) 8) (
   some (.inl ((l++([b]:List Int)),t,e,(wrap .i64 (d+1))))) none))) none) none) (
   br (x.Op==8) (
   br (decide (b>1)) (
   some (.inr (.inl (l,x.Op,x.A,x.B,x.K)))) (
   br (bj ((l++([b]:List Int)).length) 8) (
   some (.inl ((l++([b]:List Int)),t,e,(wrap .i64 (d+1))))) none)) (
   br (bj ((l++([b]:List Int)).length) 8) (
   some (.inl ((l++([b]:List Int)),t,e,(wrap .i64 (d+1))))) none))) none) none) (
   br (bj ((l++([x.K]:List Int)).length) 8) (
   some (.inl ((l++([x.K]:List Int)),t,e,(wrap .i64 (d+1))))) none)))))))) (
   some (.inr (.inr (l,t,e,d,decide (d<m)))))
abbrev uX (c:List aC) (l:List Int):List (Nat×Blk):=[(1000,⟨1,true,[[sl er c]]⟩),(2000,⟨1,false,rws eI l⟩)]
def KT {b a c}:LX tab ow (.close [5002,13010,15010,17010,23002,23003]) C5 (iw b a c) (fun s=>⟨[(1,sl eI s.2.1),(2,sl eI s.2.2.1),(8,.sl 2000 0 s.1.length),(14,sl er b),(15,I a),(16,I s.2.2.2)],uX c s.1⟩) (alt (fun e=>((.ret,⟨[(6,.lit (.slice none 0 0)),(7,B false)],[(1000,⟨1,true,[[sl er c]]⟩),(2000,⟨1,false,rws eI e.1⟩),(5002,⟨4,true,[[I e.2.1,I e.2.2.1,I e.2.2.2.1,I e.2.2.2.2]]⟩)]⟩):dd×St)) (fun e=>(.exit 0,⟨[(1,sl eI e.2.1),(2,sl eI e.2.2.1),(8,.sl 2000 0 e.1.length),(14,sl er b),(15,I a),(16,I e.2.2.2.1),(17,B e.2.2.2.2)],uX c e.1⟩))):=by
 refine lrX (fun s o h=> ?_)
 obtain ⟨_,_,_,_⟩:=s
 simp only [iw] at h
 simp only [uX,C5,Bk]
 have d1:= @M1
 have d2:= @VZ
 have d3:= @Bj
 exact go2
def pp (b:Circuit) (a d:List Int):Option ((List Int)×Bool):=
 (Loop (iw b.Gates (b.Gates.length:Int) b.Gates) (([]:List Int),a,d,0)).bind (alt (fun e=>
 some (([]:List Int),false)) (fun c=>
 some (c.1,true)))
def Fc {b a c r} (h:pp b a c=some r):Call tab ow 80 [.agg [sl er b.Gates],sl eI a,sl eI c] []=some (.tup [sl eI r.1,B r.2],[]):=by
 rw [ak (af:=tU) rfl]
 unfold pp at h
 simp only [tU,yD]
 have d1:= @KT
 exact go2
end
def fh (s:bD):Option Int:=
 br (decide (0<=(wrap .i64 (s.Cols-1)))) (
 some (ct .i64 1 (wrap .i64 (s.Cols-1)))) none
def mb {s r} (h:fh s=some r):Call tab ow 133 [.agg [I s.Rows,I s.Cols,I s.Publics,sl aV s.A,sl aV s.B,sl aV s.C]] []=some (I r,[]):=by
 rw [ak (af:=tQ) rfl]
 unfold fh at h
 simp only [tQ,Fk]
 exact go2
def dH (j i:List Tri) (t h:Int) (e:List (Int×Int)) (d c:Int):(List Tri)×Int->Option (((List Tri)×Int)⊕(((List Tri)×Int×Bool)))
 | (b,a)=>
   br (decide (a<d)) (
   (atL e a).bind fun x=>
   (G9 (j5 c x.1 b) x.2).bind fun f=>
   some (.inl ((jm c x.1 f b),(wrap .i64 (a+1))))) (
   some (.inr (b,a,decide (a<d))))
def P7 {f d t b a i c}:LXe tab ow (.close [3002,4007,5013]) F4 (dH f d t b a i c) (fun s=>⟨[(0,.ptr 0 0 0 1),(2,I t),(3,I b),(11,sl (eA2 eI) a),(12,I i),(13,I s.2)],[(0,⟨4,true,[[I c,.mp 1,.mp 2,.mp 3]]⟩),(1,⟨0,true,[bH s.1]⟩),(2,⟨0,true,[bH f]⟩),(3,⟨0,true,[bH d]⟩)]⟩) 0 (fun e=>(e.1,e.2.1)) (fun e=>[(14,B e.2.2)]):=by
 refine lrX (fun s o h=> ?_)
 obtain ⟨_,_⟩:=s
 simp only [dH] at h
 simp only [F4,Fq]
 have d1:= @M1
 exact go2
def eK (a:(List (Int×Int))) (e d m:Int) (f b c:List Tri):Option (Int×(List Tri)×(List Tri)×(List Tri)):=
 (Loop (dH b c e d a (a.length:Int) m) (f,0)).bind fun h=>
 some ((wrap .i64 (m+1)),h.1,(jm m e 1 b),(jm m d 1 c))
def Uj {a f e m d b c r} (h:eK a f e m d b c=some r):Call tab ow 286 [.ptr 0 0 0 1,sl (eA2 eI) a,I f,I e] [⟨4,true,[[I m,.mp 1,.mp 2,.mp 3]]⟩,⟨0,true,[bH d]⟩,⟨0,true,[bH b]⟩,⟨0,true,[bH c]⟩]=some (.tup [],[⟨4,true,[[I r.1,.mp 1,.mp 2,.mp 3]]⟩,⟨0,true,[bH r.2.1]⟩,⟨0,true,[bH r.2.2.1]⟩,⟨0,true,[bH r.2.2.2]⟩]):=by
 rw [ak (af:=xt) rfl]
 unfold eK at h
 simp only [xt,Cu]
 have d1:= @P7
 exact go2
section
@[local go_sem] theorem a6r:mkR 2006 []=rws (eA2 eI) []:=rfl
def ey (a b:Int) (m:List Int):Option ((List (Int×Int))):=
 (atL m a).bind fun x=>
 some ([(x,b)]:List (Int×Int))
def Na {a b m r} (h:ey a b m=some r):Call tab ow 285 [I a,I b,.ptr 0 0 0 1] [⟨1,true,[[sl eI m]]⟩]=some (.sl 1 0 r.length,[⟨1,true,[[sl eI m]]⟩,⟨2,false,rws (eA2 eI) r⟩]):=by
 rw [ak (af:=si) rfl]
 unfold ey at h
 simp only [si,Du]
 exact go2
end
section
@[local go_sem] theorem a9C:mkR 5004 []=rws (eA2 eI) []:=rfl
def vU (a:aC) (k:Int) (f:List Int) (m:Int) (l o n:List Tri):Option (Int×(List Tri)×(List Tri)×(List Tri)):=
 br (a.Op==3) (
 (eK ([(0,a.K)]:List (Int×Int)) 0 k m l o n).bind fun y=>
 some (y.1,y.2.1,y.2.2.1,y.2.2.2)) (
 br (a.Op==4) (
 (ey a.A 1 f).bind fun w=>
 (ey a.B 1 f).bind fun p=>
 br (bj ((w++p).length) 16) (
 (eK (w++p) 0 k m l o n).bind fun j=>
 some (j.1,j.2.1,j.2.2.1,j.2.2.2)) none) (
 br (a.Op==5) (
 (ey a.A 1 f).bind fun q=>
 (ey a.B 2130706432 f).bind fun s=>
 br (bj ((q++s).length) 16) (
 (eK (q++s) 0 k m l o n).bind fun i=>
 some (i.1,i.2.1,i.2.2.1,i.2.2.2)) none) (
 br (a.Op==6) (
 (ey a.A 1 f).bind fun z=>
 (atL f a.B).bind fun x=>
 (eK z x k m l o n).bind fun h=>
 some (h.1,h.2.1,h.2.2.1,h.2.2.2)) (
 br (a.Op==7) (
 (ey a.B 1 f).bind fun t=>
 (eK t 0 k m l o n).bind fun b=>
 (ey a.A 1 f).bind fun v=>
 (eK v 0 k b.1 b.2.1 b.2.2.1 b.2.2.2).bind fun e=>
 some (e.1,e.2.1,e.2.2.1,e.2.2.2)) (
 br (a.Op==8) (
 (ey a.A 1 f).bind fun u=>
 (atL f a.A).bind fun x2=>
 (eK u x2 k m l o n).bind fun c=>
 (ey a.A 1 f).bind fun r=>
 (eK r 0 k c.1 c.2.1 c.2.2.1 c.2.2.2).bind fun d=>
 some (d.1,d.2.1,d.2.2.1,d.2.2.2)) (
 some (m,l,o,n)))))))
def SU {a f e m d b c r} (h:vU a f e m d b c=some r):Call tab ow 172 [.ptr 0 0 0 1,.agg [I a.Op,I a.A,I a.B,I a.K],I f,sl eI e] [⟨4,true,[[I m,.mp 1,.mp 2,.mp 3]]⟩,⟨0,true,[bH d]⟩,⟨0,true,[bH b]⟩,⟨0,true,[bH c]⟩]=some (.tup [],[⟨4,true,[[I r.1,.mp 1,.mp 2,.mp 3]]⟩,⟨0,true,[bH r.2.1]⟩,⟨0,true,[bH r.2.2.1]⟩,⟨0,true,[bH r.2.2.2]⟩]):=by
 rw [ak (af:=vd) rfl]
 unfold vU at h
 simp only [vd,G6]
 have d1:= @Uj
 have d2:= @Na
 exact go2
end
def Bq (t:Tri):aN:=⟨t.1,t.2.1,t.2.2⟩
def wt (m:List Tri):Option (List aN×List Tri):=
 br (p8 m&&decide (m.length<1073741824)) (
 some ((hU (m.filter nzT)).map Bq,m)) none
def a1I {m r} (h:wt m=some r):Call tab ow 173 [.mp 0] [⟨0,true,[bH m]⟩]=some (sl aV r.1,[⟨0,true,[bH r.2]⟩]):=by
 unfold wt at h
 obtain ⟨hb,h⟩:=brg h
 cases h
 rw [Q6 (g:=a41 false) rfl]
 exact b64 aV Bq rfl (fun _=>rfl) hb
end
end Go.AI.Fn
set_option linter.unusedVariables false
set_option linter.unusedSimpArgs false
set_option maxRecDepth 100000
set_option maxHeartbeats 1000000
namespace Go.AI.Fn
noncomputable section
open IntKind (wrap)
section
attribute [local go_sem] Kg
@[local go_sem] theorem a1N:mkR 11002 []=rws eI []:=rfl
@[local go_sem] theorem a1L:mkR 12002 []=rws eI []:=rfl
def fN (t:Int) (c:List aC) (h f i e b:Int):Int->Option ((Int)⊕((Bool×Int)))
 |d=>
  (fh (bD.mk e d b ([]:List aN) ([]:List aN) ([]:List aN))).bind fun a=>
  br (decide (a<(mx (wrap .i64 (b+1)) t))) (
  some (.inl (wrap .i64 (d+1)))) (
  some (.inr (decide (a<(mx (wrap .i64 (b+1)) t)),d)))
def H6 {t c f d i b a}:LXe tab ow (.close [4001]) yq (fN t c f d i b a) (fun s=>⟨[(1,.ptr 1000 0 0 1),(2,.ptr 1001 0 0 1),(3,.ptr 2003 0 0 1),(4,I t)],[(1000,⟨1,true,[[sl er c]]⟩),(1001,⟨6,true,[[I f,I d,I i,.lit (.slice none 0 0),.lit (.slice none 0 0),.lit (.slice none 0 0)]]⟩),(2003,⟨6,true,[[I b,I s,I a,.lit (.slice none 0 0),.lit (.slice none 0 0),.lit (.slice none 0 0)]]⟩)]⟩) 0 (fun e=>e.2) (fun e=>[(29,B e.1)]):=by
 refine lrX (fun s o h=> ?_)
 simp only [fN] at h
 simp only [yq,xJ]
 have d1:= @mb
 exact go2
def fK (k:List aC) (d:Int) (n:List aC) (m h i f e j:Int):(List Int)×Int×Int×Int->Option (((List Int)×Int×Int×Int)⊕(((List Int)×Int×Int×Int×Bool)))
 | (l,c,b,a)=>
   br (decide (a<d)) (
   (atL k a).bind fun x=>
   br (x.Op==2) (
   br (bj ((l++([c]:List Int)).length) 8) (
   some (.inl ((l++([c]:List Int)),(wrap .i64 (c+1)),b,(wrap .i64 (a+1))))) none) (
   br (bj ((l++([b]:List Int)).length) 8) (
   some (.inl ((l++([b]:List Int)),c,(wrap .i64 (b+1)),(wrap .i64 (a+1))))) none)) (
   some (.inr (l,c,b,a,decide (a<d))))
def G5 {l i k j c d b a f}:LXe tab ow (.close [9002,11002,11003,12002,12003]) yu (fK l i k j c d b a f) (fun s=>⟨[(1,.ptr 1000 0 0 1),(2,.ptr 1001 0 0 1),(3,.ptr 2003 0 0 1),(5,.sl 6000 0 s.1.length),(6,I s.2.1),(7,I s.2.2.1),(38,sl er l),(39,I i),(40,I s.2.2.2)],[(1000,⟨1,true,[[sl er k]]⟩),(1001,⟨6,true,[[I j,I c,I d,.lit (.slice none 0 0),.lit (.slice none 0 0),.lit (.slice none 0 0)]]⟩),(2003,⟨6,true,[[I b,I a,I f,.lit (.slice none 0 0),.lit (.slice none 0 0),.lit (.slice none 0 0)]]⟩),(6000,⟨1,false,rws eI s.1⟩)]⟩) 2 (fun e=>(e.1,e.2.1,e.2.2.1,e.2.2.2.1)) (fun e=>[(41,B e.2.2.2.2)]):=by
 refine lrX (fun s o h=> ?_)
 obtain ⟨_,_,_,_⟩:=s
 simp only [fK] at h
 simp only [yu,yf]
 exact go2
def i0 (d:List Int) (n:List aC) (e:Int) (q:List aC) (i j r k p s:Int):(List Tri)×(List Tri)×(List Tri)×Int×Int->Option (((List Tri)×(List Tri)×(List Tri)×Int×Int)⊕(((List Tri)×(List Tri)×(List Tri)×Int×Bool×Int)))
 | (m,h,f,b,c)=>
   br (decide (b<e)) (
   (atL n b).bind fun l=>
   br (decide (0<=b)) (
   br (decide (b.toNat<d.length)) (
   (d[b.toNat]?).bind fun o=>
   (vU l o d c m h f).bind fun a=>
   some (.inl (a.2.1,a.2.2.1,a.2.2.2,(wrap .i64 (b+1)),a.1))) none) none) (
   some (.inr (m,h,f,b,decide (b<e),c)))
def Hf {k m l f a c i b d j}:LXe tab ow (.close [17003,18007]) wi (i0 k m l f a c i b d j) (fun s=>⟨[(2,.ptr 1001 0 0 1),(3,.ptr 2003 0 0 1),(5,.sl 6000 0 k.length),(10,.ptr 14004 0 0 1),(66,sl er m),(67,I l),(68,I s.2.2.2.1)],[(1000,⟨1,true,[[sl er f]]⟩),(1001,⟨6,true,[[I a,I c,I i,.lit (.slice none 0 0),.lit (.slice none 0 0),.lit (.slice none 0 0)]]⟩),(2003,⟨6,true,[[I b,I d,I j,.lit (.slice none 0 0),.lit (.slice none 0 0),.lit (.slice none 0 0)]]⟩),(6000,⟨1,false,rws eI k⟩),(14000,⟨0,true,[bH s.1]⟩),(14001,⟨0,true,[bH s.2.1]⟩),(14002,⟨0,true,[bH s.2.2.1]⟩),(14004,⟨4,true,[[I s.2.2.2.2,.mp 14000,.mp 14001,.mp 14002]]⟩)]⟩) 4 (fun e=>(e.1,e.2.1,e.2.2.1,e.2.2.2.1,e.2.2.2.2.2)) (fun e=>[(69,B e.2.2.2.2.1)]):=by
 refine lrX (fun s o h=> ?_)
 obtain ⟨_,_,_,_,_⟩:=s
 simp only [i0] at h
 simp only [wi,wc]
 have d1:= @SU
 exact go2
def mz (p:List Int) (n o q:List Tri) (e:List aC) (k i:Int) (j:Bool) (c:List aC) (l f m h d b:Int):Int->Option ((Int)⊕((Bool×Int)))
 |a=>
  br (decide (0<=a)) (
  br (decide ((ct .i64 1 a)<b)) (
  some (.inl (wrap .i64 (a+1)))) (
  some (.inr (decide ((ct .i64 1 a)<b),a)))) none
def G1 {p q r t c l j k a m f n i b d}:LXe tab ow (.close []) wm (mz p q r t c l j k a m f n i b d) (fun s=>⟨[(2,.ptr 1001 0 0 1),(3,.ptr 2003 0 0 1),(5,.sl 6000 0 p.length),(10,.ptr 14004 0 0 1),(66,sl er c),(67,I l),(68,I j),(69,B k)],[(1000,⟨1,true,[[sl er a]]⟩),(1001,⟨6,true,[[I m,I f,I n,.lit (.slice none 0 0),.lit (.slice none 0 0),.lit (.slice none 0 0)]]⟩),(2003,⟨6,true,[[I s,I i,I b,.lit (.slice none 0 0),.lit (.slice none 0 0),.lit (.slice none 0 0)]]⟩),(6000,⟨1,false,rws eI p⟩),(14000,⟨0,true,[bH q]⟩),(14001,⟨0,true,[bH r]⟩),(14002,⟨0,true,[bH t]⟩),(14004,⟨4,true,[[I d,.mp 14000,.mp 14001,.mp 14002]]⟩)]⟩) 6 (fun e=>e.2) (fun e=>[(89,B e.1)]):=by
 refine lrX (fun s o h=> ?_)
 simp only [mz] at h
 simp only [wm,wd]
 exact go2
def kQ (a:Circuit):Option bD:=
 (gr a 2).bind fun c=>
 (Loop (fN (wrap .i64 ((a.Gates.length:Int)-c)) a.Gates 0 0 0 1 c) 2).bind fun e=>
 (fh (bD.mk 1 e.2 c ([]:List aN) ([]:List aN) ([]:List aN))).bind fun j=>
 (Loop (fK a.Gates (a.Gates.length:Int) a.Gates 0 0 0 1 e.2 c) (([]:List Int),1,j,0)).bind fun d=>
 (Loop (i0 d.1 a.Gates (a.Gates.length:Int) a.Gates 0 0 0 1 e.2 c) (([]:List Tri),([]:List Tri),([]:List Tri),0,0)).bind fun b=>
 (Loop (mz d.1 b.1 b.2.1 b.2.2.1 a.Gates (a.Gates.length:Int) b.2.2.2.1 b.2.2.2.2.1 a.Gates 0 0 0 e.2 c b.2.2.2.2.2) 1).bind fun k=>
 (wt b.1).bind fun f=>
 (wt b.2.1).bind fun h=>
 (wt b.2.2.1).bind fun i=>
 some (bD.mk k.2 e.2 c f.1 h.1 i.1)
def As {a r} (h:kQ a=some r):Call tab ow 81 [.agg [sl er a.Gates]] []=some (.agg [I r.Rows,I r.Cols,I r.Publics,sl aV r.A,sl aV r.B,sl aV r.C],[]):=by
 rw [ak (af:=oS) rfl]
 unfold kQ at h
 simp only [oS,jg]
 have d1:= @sP
 have d2:= @H6
 have d3:= @mb
 have d4:= @G5
 have d5:= @Hf
 have d6:= @G1
 have d7:= @a1I
 exact go2
end
section
attribute [local go_sem] o8
@[local go_sem] theorem a1M:mkR 7005 []=rws eI []:=rfl
def hZ (a:List Int) (t:List aC) (d:Int) (e:List aC):(List Int)×Int->Option (((List Int)×Int)⊕(((List Int)×Int×Bool)))
 | (l,b)=>
   br (decide (b<d)) (
   (atL t b).bind fun x=>
   br (x.Op !=2) (
   (atL a b).bind fun c=>
   br (bj ((l++([c]:List Int)).length) 8) (
   some (.inl ((l++([c]:List Int)),(wrap .i64 (b+1))))) none) (
   some (.inl (l,(wrap .i64 (b+1)))))) (
   some (.inr (l,b,decide (b<d))))
def Ga {a t c b}:LXe tab ow (.close [5003,7005,7006]) yj (hZ a t c b) (fun s=>⟨[(1,sl eI a),(5,.sl 2000 0 s.1.length),(10,sl er t),(11,I c),(12,I s.2)],[(1000,⟨1,true,[[sl er b]]⟩),(2000,⟨1,false,rws eI s.1⟩)]⟩) 0 (fun e=>(e.1,e.2.1)) (fun e=>[(13,B e.2.2)]):=by
 refine lrX (fun s o h=> ?_)
 obtain ⟨_,_⟩:=s
 simp only [hZ] at h
 simp only [yj,yg]
 exact go2
def o0 (c:Circuit) (a:List Int):Option (List Int):=
 (Loop (hZ a c.Gates (c.Gates.length:Int) c.Gates) (([]:List Int),0)).bind fun b=>
 some b.1
def K5 {c a r} (h:o0 c a=some r):Call tab ow 84 [.agg [sl er c.Gates],sl eI a] []=some (sl eI r,[]):=by
 rw [ak (af:=oK) rfl]
 unfold o0 at h
 simp only [oK,u5]
 have d1:= @Ga
 exact go2
end
section
@[local go_sem] theorem a3H: ∀k,Uc 2003 k [I (0:Int)]=rws eI (List.replicate k (0:Int)):=fun _=>b0k eI (0:Int) _ _
def jP (s:bD) (b a:List Int):Option (List Int):=
 br (decide (0<=s.Cols)) (
 br (TL (ct .i64 1 s.Cols) (ct .i64 1 s.Cols) 8) (
 br (decide (0<(List.replicate ((ct .i64 (1:Int) s.Cols).toNat) (0:Int)).length)) (
 ((List.replicate ((ct .i64 (1:Int) s.Cols).toNat) (0:Int))[0]?).bind fun x=>
 br (decide ((1:Int)<=(((List.replicate ((ct .i64 (1:Int) s.Cols).toNat) (0:Int)).length:Nat):Int))) (
 br (decide (1+((List.replicate ((ct .i64 (1:Int) s.Cols).toNat) (0:Int)).length-1)=(List.replicate ((ct .i64 (1:Int) s.Cols).toNat) (0:Int)).length)) (
 (fh s).bind fun c=>
 br (decide (0<=c)&&decide (c<=(((List.replicate ((ct .i64 (1:Int) s.Cols).toNat) (0:Int)).length:Nat):Int))) (
 br (decide (c.toNat+((List.replicate ((ct .i64 (1:Int) s.Cols).toNat) (0:Int)).length-c.toNat)=(List.replicate ((ct .i64 (1:Int) s.Cols).toNat) (0:Int)).length)) (
 some (yX (yX ((List.replicate ((ct .i64 (1:Int) s.Cols).toNat) (0:Int)).set 0 (1:Int)) 1 (min b.length ((List.replicate ((ct .i64 (1:Int) s.Cols).toNat) (0:Int)).length-1)) b) c.toNat (min a.length ((List.replicate ((ct .i64 (1:Int) s.Cols).toNat) (0:Int)).length-c.toNat)) a)) none) none) none) none) none) none) none
def Bi {s b a r} (h:jP s b a=some r):Call tab ow 83 [.agg [I s.Rows,I s.Cols,I s.Publics,sl aV s.A,sl aV s.B,sl aV s.C],sl eI b,sl eI a] []=some (sl eI r,[]):=by
 rw [ak (af:=pK) rfl]
 unfold jP at h
 simp only [pK,BI]
 have d1:= @mb
 exact go2
end
def mh (s:Source):Option Source:=
 (di s.Script).bind fun a=>
 some (Source.mk a s.At s.State s.Count)
def BZ {s r} (h:mh s=some r):Call tab ow 112 [.agg [sl aG s.Script,I s.At,S s.State,I s.Count]] []=some (.agg [sl aG r.Script,I r.At,S r.State,I r.Count],[]):=by
 rw [ak (af:=pP) rfl]
 unfold mh at h
 simp only [pP,BO]
 have d1:= @km
 exact go2
section
attribute [local go_sem] fc Dn
def wP (t:List Int) (b:Int):(List Ext)×Int->Option (((List Ext)×Int)⊕(((List Ext)×Int×Bool)))
 | (l,a)=>
   br (decide (a<b)) (
   (atL t a).bind fun x=>
   br (bj ((l++([(Ext.mk x 0)]:List Ext)).length) 16) (
   some (.inl ((l++([(Ext.mk x 0)]:List Ext)),(wrap .i64 (a+1))))) none) (
   some (.inr (l,a,decide (a<b))))
def a2t {t a}:LXe tab ow (.close [6003,6004]) Qt (wP t a) (fun s=>⟨[(3,.sl 2000 0 s.1.length),(7,sl eI t),(8,I a),(9,I s.2)],[(2000,⟨2,false,rws aG s.1⟩)]⟩) 0 (fun e=>(e.1,e.2.1)) (fun e=>[(10,B e.2.2)]):=by
 refine lrX (fun s o h=> ?_)
 obtain ⟨_,_⟩:=s
 simp only [wP] at h
 simp only [Qt,Ri]
 exact go2
def AU (a:List Int):Option (List Ext):=
 (Loop (wP a (a.length:Int)) (([]:List Ext),0)).bind fun b=>
 some b.1
def CK {a r} (h:AU a=some r):Call tab ow 289 [sl eI a] []=some (sl aG r,[]):=by
 rw [ak (af:=KU) rfl]
 unfold AU at h
 simp only [KU,RH]
 have d1:= @a2t
 exact go2
end
def ez (s:bD):Option (((List aN)×(List aN)×(List aN))):=
 some (s.A,s.B,s.C)
def n8 {s r} (h:ez s=some r):Call tab ow 177 [.agg [I s.Rows,I s.Cols,I s.Publics,sl aV s.A,sl aV s.B,sl aV s.C]] []=some (.agg [sl aV r.1,sl aV r.2.1,sl aV r.2.2],[]):=by
 rw [ak (af:=nh) rfl]
 unfold ez at h
 simp only [nh,z6]
 exact go2
section
@[local go_sem] theorem a0L:mkR 2012 []=rws eU8 []:=rfl
def mH (n:Int) (l:List UInt8):Option (List UInt8):=
 br (bj ((l++([(UInt8.ofInt (cc .i64 n 24)),(UInt8.ofInt (cc .i64 n 16)),(UInt8.ofInt (cc .i64 n 8)),(UInt8.ofInt n)]:List UInt8)).length) 1) (
 some (l++([(UInt8.ofInt (cc .i64 n 24)),(UInt8.ofInt (cc .i64 n 16)),(UInt8.ofInt (cc .i64 n 8)),(UInt8.ofInt n)]:List UInt8))) none
def oM {n l r} (h:mH n l=some r):Call tab ow 225 [.sl 0 0 l.length,I n] [⟨1,false,rws eU8 l⟩]=some (.sl 0 0 r.length,[⟨1,false,rws eU8 r⟩]):=by
 rw [ak (af:=CM) rfl]
 unfold mH at h
 simp only [CM,QP]
 exact go2
end
section
attribute [local go_sem] sh
@[local go_sem] theorem Yg:mkR 2011 []=rws eU8 []:=rfl
@[local go_sem] theorem Yw:mkR 10007 []=rws eU8 []:=rfl
def en (o:List UInt8) (t j h:List aN) (n:Int) (e:List aN) (d c k i:Int) (m f p:List aN):(List UInt8)×Int->Option (((List UInt8)×Int)⊕(((List UInt8)×Int×Bool)))
 | (l,a)=>
   br (decide (a<d)) (
   (atL e a).bind fun x=>
   br (bj ((l++([(UInt8.ofInt x.Row),(UInt8.ofInt x.Col)]:List UInt8)).length) 1) (
   (mH x.Value (l++([(UInt8.ofInt x.Row),(UInt8.ofInt x.Col)]:List UInt8))).bind fun b=>
   some (.inl (b,(wrap .i64 (a+1))))) none) (
   some (.inr (l,a,decide (a<d))))
def D1 {p t i d m a n c j f l b k}:LXe tab ow (.close [9002,10007,10008,10011]) fA (en p t i d m a n c j f l b k) (fun s=>⟨[(3,.sl 2000 0 s.1.length),(22,.agg [sl aV t,sl aV i,sl aV d]),(23,I m),(30,sl aV a),(31,I n),(32,I s.2)],[(1000,⟨6,true,[[I c,I j,I f,sl aV l,sl aV b,sl aV k]]⟩),(2000,⟨1,false,rws eU8 s.1⟩),(2011,⟨1,false,rws eU8 p⟩)]⟩) 2 (fun e=>(e.1,e.2.1)) (fun e=>[(33,B e.2.2)]):=by
 refine lrX (fun s o h=> ?_)
 obtain ⟨_,_⟩:=s
 simp only [en] at h
 simp only [fA,jA]
 have d1:= @oM
 exact go2
def jC (o:List UInt8) (n r h:List aN) (l:Int) (e:List aN) (c m q p:Int) (j k i:List aN):(List UInt8)×Int->Option (((List UInt8)×Int)⊕(((List UInt8)×Int×Bool)))
 | (f,a)=>
   br (decide (a<c)) (
   (atL e a).bind fun b=>
   br (bj ((f++([(UInt8.ofInt b.Row),(UInt8.ofInt b.Col)]:List UInt8)).length) 1) (
   (mH b.Value (f++([(UInt8.ofInt b.Row),(UInt8.ofInt b.Col)]:List UInt8))).bind fun d=>
   some (.inl (d,(wrap .i64 (a+1))))) none) (
   some (.inr (f,a,decide (a<c))))
def D8 {n l q a j c d k p m f i b}:LXe tab ow (.close [9002,10007,10008,10011]) fA (jC n l q a j c d k p m f i b) (fun s=>⟨[(3,.sl 2000 0 s.1.length),(22,.agg [sl aV l,sl aV q,sl aV a]),(23,I j),(30,sl aV c),(31,I d),(32,I s.2)],[(1000,⟨6,true,[[I k,I p,I m,sl aV f,sl aV i,sl aV b]]⟩),(2000,⟨1,false,rws eU8 s.1⟩),(2011,⟨1,false,rws eU8 n⟩)]⟩) 2 (fun e=>(e.1,e.2.1)) (fun e=>[(33,B e.2.2)]):=by
 refine lrX (fun s o h=> ?_)
 obtain ⟨_,_⟩:=s
 simp only [jC] at h
 simp only [fA,jA]
 have d1:= @oM
 exact go2
def jH (r:List UInt8) (k l m:List aN) (j:Int) (f:List aN) (c i n p:Int) (h o q:List aN):(List UInt8)×Int->Option (((List UInt8)×Int)⊕(((List UInt8)×Int×Bool)))
 | (d,a)=>
   br (decide (a<c)) (
   (atL f a).bind fun b=>
   br (bj ((d++([(UInt8.ofInt b.Row),(UInt8.ofInt b.Col)]:List UInt8)).length) 1) (
   (mH b.Value (d++([(UInt8.ofInt b.Row),(UInt8.ofInt b.Col)]:List UInt8))).bind fun e=>
   some (.inl (e,(wrap .i64 (a+1))))) none) (
   some (.inr (d,a,decide (a<c))))
def CT {q d f i c p l b j m a k n}:LXe tab ow (.close [9002,10007,10008,10011]) fA (jH q d f i c p l b j m a k n) (fun s=>⟨[(3,.sl 2000 0 s.1.length),(22,.agg [sl aV d,sl aV f,sl aV i]),(23,I c),(30,sl aV p),(31,I l),(32,I s.2)],[(1000,⟨6,true,[[I b,I j,I m,sl aV a,sl aV k,sl aV n]]⟩),(2000,⟨1,false,rws eU8 s.1⟩),(2011,⟨1,false,rws eU8 q⟩)]⟩) 2 (fun e=>(e.1,e.2.1)) (fun e=>[(33,B e.2.2)]):=by
 refine lrX (fun s o h=> ?_)
 obtain ⟨_,_⟩:=s
 simp only [jH] at h
 simp only [fA,jA]
 have d1:= @oM
 exact go2
def jW (s:bD):Option (List UInt8):=
 br (bj ((([(115:UInt8),(121:UInt8),(115:UInt8),(116:UInt8),(101:UInt8),(109:UInt8)]:List UInt8)++([(UInt8.ofInt s.Rows),(UInt8.ofInt s.Cols),(UInt8.ofInt s.Publics)]:List UInt8)).length) 1) (
 (ez s).bind fun a=>
 (mH (a.1.length:Int) (([(115:UInt8),(121:UInt8),(115:UInt8),(116:UInt8),(101:UInt8),(109:UInt8)]:List UInt8)++([(UInt8.ofInt s.Rows),(UInt8.ofInt s.Cols),(UInt8.ofInt s.Publics)]:List UInt8))).bind fun f=>
 (Loop (en ([(UInt8.ofInt s.Rows),(UInt8.ofInt s.Cols),(UInt8.ofInt s.Publics)]:List UInt8) a.1 a.2.1 a.2.2 0 a.1 (a.1.length:Int) s.Rows s.Cols s.Publics s.A s.B s.C) (f,0)).bind fun h=>
 (mH (a.2.1.length:Int) h.1).bind fun e=>
 (Loop (jC ([(UInt8.ofInt s.Rows),(UInt8.ofInt s.Cols),(UInt8.ofInt s.Publics)]:List UInt8) a.1 a.2.1 a.2.2 1 a.2.1 (a.2.1.length:Int) s.Rows s.Cols s.Publics s.A s.B s.C) (e,0)).bind fun d=>
 (mH (a.2.2.length:Int) d.1).bind fun c=>
 (Loop (jH ([(UInt8.ofInt s.Rows),(UInt8.ofInt s.Cols),(UInt8.ofInt s.Publics)]:List UInt8) a.1 a.2.1 a.2.2 2 a.2.2 (a.2.2.length:Int) s.Rows s.Cols s.Publics s.A s.B s.C) (c,0)).bind fun b=>
 some b.1) none
def FD {s r} (h:jW s=some r):Call tab ow 351 [.agg [I s.Rows,I s.Cols,I s.Publics,sl aV s.A,sl aV s.B,sl aV s.C]] []=some (sl eU8 r,[]):=by
 rw [ak (af:=lO) rfl]
 unfold jW at h
 simp+decide only [lO,lT,go_sem,reduceIte,Nat.reduceAdd,Int.reduceAdd,Int.reduceMul,Int.reduceSub]
 obtain ⟨hb,h⟩:=brg h
 refine Db hb ?_
 obtain ⟨r_,h1,h⟩:=bd h
 refine dq (n8 h1) ?_
 simp+decide only [go_sem,reduceIte,Nat.reduceAdd,Int.reduceAdd,Int.reduceMul,Int.reduceSub]
 refine g8 ?_
 simp+decide only [mkL,go_sem,reduceIte,Nat.reduceAdd,Int.reduceAdd,Int.reduceMul,Int.reduceSub]
 obtain ⟨r_2,h1,h⟩:=bd h
 refine dq (oM h1) ?_
 simp+decide only [go_sem,reduceIte,Nat.reduceAdd,Int.reduceAdd,Int.reduceMul,Int.reduceSub]
 obtain ⟨e_,h1,h⟩:=bd h
 refine E5 (lxE D1 h1) ?_
 simp+decide only [go_sem,reduceIte,Nat.reduceAdd,Int.reduceAdd,Int.reduceMul,Int.reduceSub]
 refine g8 ?_
 simp+decide only [mkL,go_sem,reduceIte,Nat.reduceAdd,Int.reduceAdd,Int.reduceMul,Int.reduceSub]
 obtain ⟨r_4,h1,h⟩:=bd h
 refine dq (oM h1) ?_
 simp+decide only [go_sem,reduceIte,Nat.reduceAdd,Int.reduceAdd,Int.reduceMul,Int.reduceSub]
 obtain ⟨e_2,h1,h⟩:=bd h
 refine E5 (lxE D8 h1) ?_
 simp+decide only [go_sem,reduceIte,Nat.reduceAdd,Int.reduceAdd,Int.reduceMul,Int.reduceSub]
 refine g8 ?_
 simp+decide only [mkL,go_sem,reduceIte,Nat.reduceAdd,Int.reduceAdd,Int.reduceMul,Int.reduceSub]
 obtain ⟨r_6,h1,h⟩:=bd h
 refine dq (oM h1) ?_
 simp+decide only [go_sem,reduceIte,Nat.reduceAdd,Int.reduceAdd,Int.reduceMul,Int.reduceSub]
 obtain ⟨e_3,h1,h⟩:=bd h
 refine E5 (lxE CT h1) ?_
 simp+decide only [go_sem,reduceIte,Nat.reduceAdd,Int.reduceAdd,Int.reduceMul,Int.reduceSub]
 refine g8 ?_
 simp+decide only [mkL,go_sem,reduceIte,Nat.reduceAdd,Int.reduceAdd,Int.reduceMul,Int.reduceSub]
 obtain rfl:=cS h
 first|rfl| (simp only [aO,go_sem];done)
end
section
attribute [local go_sem] Zk
@[local go_sem] theorem b53:mkR 2014 []=rws eU8 []:=rfl
def jN (l:List (List UInt8)) (m:List UInt8) (f:List Int) (d c o k:Int) (p i q:List aN) (h n j:Int):(List UInt8)×Int->Option (((List UInt8)×Int)⊕(((List UInt8)×Int×Bool)))
 | (e,a)=>
   br (decide (a<d)) (
   (atL f a).bind fun x=>
   (mH x e).bind fun b=>
   some (.inl (b,(wrap .i64 (a+1))))) (
   some (.inr (e,a,decide (a<d))))
def Pa {l k j d c n i q b p a m f}:LXe tab ow (.close [6002]) Fl (jN l k j d c n i q b p a m f) (fun s=>⟨[(7,.sl 2004 0 s.1.length),(26,sl eI j),(27,I d),(28,I s.2)],[(1000,⟨6,true,[[I c,I n,I i,sl aV q,sl aV b,sl aV p]]⟩),(1001,⟨3,true,[[I a,I m,I f]]⟩),(2002,⟨1,false,rws (eL eU8) l⟩),(2004,⟨1,false,rws eU8 s.1⟩),(2014,⟨1,false,rws eU8 k⟩)]⟩) 0 (fun e=>(e.1,e.2.1)) (fun e=>[(29,B e.2.2)]):=by
 refine lrX (fun s o h=> ?_)
 obtain ⟨_,_⟩:=s
 simp only [jN] at h
 simp only [Fl,Fj]
 have d1:= @oM
 exact go2
def ul (s:bD) (t:Setting) (a:List Int):Option (List UInt8):=
 (jW s).bind fun c=>
 (uR ([c]:List (List UInt8))).bind fun b=>
 br (bj b.length 1) (
 br (bj ((b++([(UInt8.ofInt t.Rate),(UInt8.ofInt t.Queries),(UInt8.ofInt t.Grind)]:List UInt8)).length) 1) (
 (Loop (jN ([c]:List (List UInt8)) ([(UInt8.ofInt t.Rate),(UInt8.ofInt t.Queries),(UInt8.ofInt t.Grind)]:List UInt8) a (a.length:Int) s.Rows s.Cols s.Publics s.A s.B s.C t.Rate t.Queries t.Grind) ((b++([(UInt8.ofInt t.Rate),(UInt8.ofInt t.Queries),(UInt8.ofInt t.Grind)]:List UInt8)),0)).bind fun d=>
 some d.1) none) none
def Jd {s t a r} (h:ul s t a=some r):Call tab ow 290 [.agg [I s.Rows,I s.Cols,I s.Publics,sl aV s.A,sl aV s.B,sl aV s.C],.agg [I t.Rate,I t.Queries,I t.Grind],sl eI a] []=some (sl eU8 r,[]):=by
 rw [ak (af:=xl) rfl]
 unfold ul at h
 simp only [xl,CE]
 have d1:= @FD
 have d2:= @AY
 have d3:= @Pa
 exact go2
end
section
attribute [local go_sem] a0L
def DP (n:Int):Option (List UInt8):=
 br (bj (([(UInt8.ofInt (cc .i64 n 24)),(UInt8.ofInt (cc .i64 n 16)),(UInt8.ofInt (cc .i64 n 8)),(UInt8.ofInt n)]:List UInt8).length) 1) (
 some ([(UInt8.ofInt (cc .i64 n 24)),(UInt8.ofInt (cc .i64 n 16)),(UInt8.ofInt (cc .i64 n 8)),(UInt8.ofInt n)]:List UInt8)) none
def Gg {n r} (h:DP n=some r):Call tab ow 225 [.lit (.slice none 0 0),I n] []=some (sl eU8 r,[]):=by
 rw [ak (af:=CM) rfl]
 unfold DP at h
 simp only [CM,QP]
 exact go2
end
section
@[local go_sem] theorem a2B:mkR 1007 []=rws eU8 []:=rfl
@[local go_sem] theorem a4p:mkR 1013 []=rws (eL eU8) []:=rfl
def dI (t:List UInt8) (m:Source):Option Source:=
 br (bj m.State.length 1) (
 (DP (t.length:Int)).bind fun b=>
 (uR ([m.State,([(97:UInt8),(98:UInt8),(115:UInt8),(111:UInt8),(114:UInt8),(98:UInt8)]:List UInt8),b,t]:List (List UInt8))).bind fun a=>
 some (Source.mk m.Script m.At a 0)) none
def gu {t m r} (h:dI t m=some r):Call tab ow 221 [.ptr 0 0 0 1,sl eU8 t] [⟨4,true,[[sl aG m.Script,I m.At,S m.State,I m.Count]]⟩]=some (.tup [],[⟨4,true,[[sl aG r.Script,I r.At,S r.State,I r.Count]]⟩]):=by
 rw [ak (af:=qw) rfl]
 unfold dI at h
 simp only [qw,BD]
 have d1:= @Gg
 have d2:= @AY
 exact go2
end
def hS (a b:Ext):Option Ext:=
 (OB a.A b.A).bind fun d=>
 (OB a.B b.B).bind fun c=>
 some (Ext.mk d c)
def kB {a b r} (h:hS a b=some r):Call tab ow 198 [.agg [I a.A,I a.B],.agg [I b.A,I b.B]] []=some (.agg [I r.A,I r.B],[]):=by
 rw [ak (af:=xF) rfl]
 unfold hS at h
 simp only [xF,IX]
 have d1:= @VZ
 exact go2
section
attribute [local go_sem] fc
def fL (a t:Int):(List Ext)×Int->Option (((List Ext)×Int)⊕(((List Ext)×Int×Bool)))
 | (c,b)=>
   br (decide (b<t)) (
   br ((dc .i64 b a) !=0) (
   br (decide (0<=b)) (
   br (decide (b.toNat<c.length)) (
   (c[b.toNat]?).bind fun x=>
   br (decide (0<=(wrap .i64 (b-a)))) (
   br (decide ((wrap .i64 (b-a)).toNat<c.length)) (
   (c[(wrap .i64 (b-a)).toNat]?).bind fun d=>
   (hS x d).bind fun e=>
   br (decide (0<=b)) (
   br (decide (b.toNat<c.length)) (
   (c[b.toNat]?).bind fun f=>
   some (.inl ((c.set b.toNat e),(wrap .i64 (b+1))))) none) none) none) none) none) none) (
   some (.inl (c,(wrap .i64 (b+1)))))) (
   some (.inr (c,b,decide (b<t))))
def JU {a t}:LXe tab ow (.close [10013]) Li (fL a t) (fun s=>⟨[(1,.fn 198 []),(5,.sl 2000 0 s.1.length),(6,I a),(18,I t),(19,I s.2)],[(2000,⟨2,false,rws aG s.1⟩)]⟩) 2 (fun e=>(e.1,e.2.1)) (fun e=>[(20,B e.2.2)]):=by
 refine lrX (fun s o h=> ?_)
 obtain ⟨_,_⟩:=s
 simp only [fL] at h
 simp only [Li,La]
 have d1:= @kB
 exact go2
def hG:(List Ext)×Int->Option (((List Ext)×Int)⊕(((List Ext)×Int×Bool)))
 | (l,a)=>
   br (decide (a<(l.length:Int))) (
   (Loop (fL a (l.length:Int)) (l,0)).bind fun b=>
   some (.inl (b.1,(wrap .i64 (a*2))))) (
   some (.inr (l,a,decide (a<(l.length:Int)))))
def JS:LXe tab ow (.close [10013]) LC (hG) (fun s=>⟨[(1,.fn 198 []),(5,.sl 2000 0 s.1.length),(6,I s.2)],[(2000,⟨2,false,rws aG s.1⟩)]⟩) 0 (fun e=>(e.1,e.2.1)) (fun e=>[(14,B e.2.2)]):=by
 refine lrX (fun s o h=> ?_)
 obtain ⟨_,_⟩:=s
 simp only [hG] at h
 simp only [LC,L3]
 have d1:= @JU
 exact go2
def vl (a:List Ext):Option (List Ext):=
 br (bj ((([]:List Ext)++a).length) 16) (
 (Loop (hG) ((([]:List Ext)++a),1)).bind fun b=>
 some b.1) none
def MJ {a r} (h:vl a=some r):Call tab ow 197 [sl aG a,.fn 198 []] []=some (sl aG r,[]):=by
 rw [ak (af:=EP) rfl]
 unfold vl at h
 simp only [EP,EQ]
 have d1:= @JS
 exact go2
end
def A0 (a:List Ext):Option (List Ext):=
 (vl a).bind fun b=>
 some b
def O3 {a r} (h:A0 a=some r):Call tab ow 99 [sl aG a] []=some (sl aG r,[]):=by
 rw [ak (af:=BM) rfl]
 unfold A0 at h
 simp only [BM,OQ]
 have d1:= @MJ
 exact go2
def yE (x:Int):Option Int:=
 br (decide (x>=4294967296)) (
 br (decide ((cc .u64 x 32)>=65536)) (
 br (decide ((cc .u64 (cc .u64 x 32) 16)>=256)) (
 (atL (([0,1,2,2,3,3,3,3,4,4,4,4,4,4,4,4,5,5,5,5,5,5,5,5,5,5,5,5,5,5,5,5,6,6,6,6,6,6,6,6,6,6,6,6,6,6,6,6,6,6,6,6,6,6,6,6,6,6,6,6,6,6,6,6,7,7,7,7,7,7,7,7,7,7,7,7,7,7,7,7,7,7,7,7,7,7,7,7,7,7,7,7,7,7,7,7,7,7,7,7,7,7,7,7,7,7,7,7,7,7,7,7,7,7,7,7,7,7,7,7,7,7,7,7,7,7,7,7,8,8,8,8,8,8,8,8,8,8,8,8,8,8,8,8,8,8,8,8,8,8,8,8,8,8,8,8,8,8,8,8,8,8,8,8,8,8,8,8,8,8,8,8,8,8,8,8,8,8,8,8,8,8,8,8,8,8,8,8,8,8,8,8,8,8,8,8,8,8,8,8,8,8,8,8,8,8,8,8,8,8,8,8,8,8,8,8,8,8,8,8,8,8,8,8,8,8,8,8,8,8,8,8,8,8,8,8,8,8,8,8,8,8,8,8,8,8,8,8,8,8,8,8,8,8,8,8]:List UInt8)) (wrap .u8 (cc .u64 (cc .u64 (cc .u64 x 32) 16) 8))).bind fun c=>
 some (wrap .i64 (56+(wrap .i64 (c.toNat:Int))))) (
 (atL (([0,1,2,2,3,3,3,3,4,4,4,4,4,4,4,4,5,5,5,5,5,5,5,5,5,5,5,5,5,5,5,5,6,6,6,6,6,6,6,6,6,6,6,6,6,6,6,6,6,6,6,6,6,6,6,6,6,6,6,6,6,6,6,6,7,7,7,7,7,7,7,7,7,7,7,7,7,7,7,7,7,7,7,7,7,7,7,7,7,7,7,7,7,7,7,7,7,7,7,7,7,7,7,7,7,7,7,7,7,7,7,7,7,7,7,7,7,7,7,7,7,7,7,7,7,7,7,7,8,8,8,8,8,8,8,8,8,8,8,8,8,8,8,8,8,8,8,8,8,8,8,8,8,8,8,8,8,8,8,8,8,8,8,8,8,8,8,8,8,8,8,8,8,8,8,8,8,8,8,8,8,8,8,8,8,8,8,8,8,8,8,8,8,8,8,8,8,8,8,8,8,8,8,8,8,8,8,8,8,8,8,8,8,8,8,8,8,8,8,8,8,8,8,8,8,8,8,8,8,8,8,8,8,8,8,8,8,8,8,8,8,8,8,8,8,8,8,8,8,8,8,8,8,8,8,8]:List UInt8)) (wrap .u8 (cc .u64 (cc .u64 x 32) 16))).bind fun f=>
 some (wrap .i64 (48+(wrap .i64 (f.toNat:Int)))))) (
 br (decide ((cc .u64 x 32)>=256)) (
 (atL (([0,1,2,2,3,3,3,3,4,4,4,4,4,4,4,4,5,5,5,5,5,5,5,5,5,5,5,5,5,5,5,5,6,6,6,6,6,6,6,6,6,6,6,6,6,6,6,6,6,6,6,6,6,6,6,6,6,6,6,6,6,6,6,6,7,7,7,7,7,7,7,7,7,7,7,7,7,7,7,7,7,7,7,7,7,7,7,7,7,7,7,7,7,7,7,7,7,7,7,7,7,7,7,7,7,7,7,7,7,7,7,7,7,7,7,7,7,7,7,7,7,7,7,7,7,7,7,7,8,8,8,8,8,8,8,8,8,8,8,8,8,8,8,8,8,8,8,8,8,8,8,8,8,8,8,8,8,8,8,8,8,8,8,8,8,8,8,8,8,8,8,8,8,8,8,8,8,8,8,8,8,8,8,8,8,8,8,8,8,8,8,8,8,8,8,8,8,8,8,8,8,8,8,8,8,8,8,8,8,8,8,8,8,8,8,8,8,8,8,8,8,8,8,8,8,8,8,8,8,8,8,8,8,8,8,8,8,8,8,8,8,8,8,8,8,8,8,8,8,8,8,8,8,8,8,8]:List UInt8)) (wrap .u8 (cc .u64 (cc .u64 x 32) 8))).bind fun d=>
 some (wrap .i64 (40+(wrap .i64 (d.toNat:Int))))) (
 (atL (([0,1,2,2,3,3,3,3,4,4,4,4,4,4,4,4,5,5,5,5,5,5,5,5,5,5,5,5,5,5,5,5,6,6,6,6,6,6,6,6,6,6,6,6,6,6,6,6,6,6,6,6,6,6,6,6,6,6,6,6,6,6,6,6,7,7,7,7,7,7,7,7,7,7,7,7,7,7,7,7,7,7,7,7,7,7,7,7,7,7,7,7,7,7,7,7,7,7,7,7,7,7,7,7,7,7,7,7,7,7,7,7,7,7,7,7,7,7,7,7,7,7,7,7,7,7,7,7,8,8,8,8,8,8,8,8,8,8,8,8,8,8,8,8,8,8,8,8,8,8,8,8,8,8,8,8,8,8,8,8,8,8,8,8,8,8,8,8,8,8,8,8,8,8,8,8,8,8,8,8,8,8,8,8,8,8,8,8,8,8,8,8,8,8,8,8,8,8,8,8,8,8,8,8,8,8,8,8,8,8,8,8,8,8,8,8,8,8,8,8,8,8,8,8,8,8,8,8,8,8,8,8,8,8,8,8,8,8,8,8,8,8,8,8,8,8,8,8,8,8,8,8,8,8,8,8]:List UInt8)) (wrap .u8 (cc .u64 x 32))).bind fun i=>
 some (wrap .i64 (32+(wrap .i64 (i.toNat:Int))))))) (
 br (decide (x>=65536)) (
 br (decide ((cc .u64 x 16)>=256)) (
 (atL (([0,1,2,2,3,3,3,3,4,4,4,4,4,4,4,4,5,5,5,5,5,5,5,5,5,5,5,5,5,5,5,5,6,6,6,6,6,6,6,6,6,6,6,6,6,6,6,6,6,6,6,6,6,6,6,6,6,6,6,6,6,6,6,6,7,7,7,7,7,7,7,7,7,7,7,7,7,7,7,7,7,7,7,7,7,7,7,7,7,7,7,7,7,7,7,7,7,7,7,7,7,7,7,7,7,7,7,7,7,7,7,7,7,7,7,7,7,7,7,7,7,7,7,7,7,7,7,7,8,8,8,8,8,8,8,8,8,8,8,8,8,8,8,8,8,8,8,8,8,8,8,8,8,8,8,8,8,8,8,8,8,8,8,8,8,8,8,8,8,8,8,8,8,8,8,8,8,8,8,8,8,8,8,8,8,8,8,8,8,8,8,8,8,8,8,8,8,8,8,8,8,8,8,8,8,8,8,8,8,8,8,8,8,8,8,8,8,8,8,8,8,8,8,8,8,8,8,8,8,8,8,8,8,8,8,8,8,8,8,8,8,8,8,8,8,8,8,8,8,8,8,8,8,8,8,8]:List UInt8)) (wrap .u8 (cc .u64 (cc .u64 x 16) 8))).bind fun b=>
 some (wrap .i64 (24+(wrap .i64 (b.toNat:Int))))) (
 (atL (([0,1,2,2,3,3,3,3,4,4,4,4,4,4,4,4,5,5,5,5,5,5,5,5,5,5,5,5,5,5,5,5,6,6,6,6,6,6,6,6,6,6,6,6,6,6,6,6,6,6,6,6,6,6,6,6,6,6,6,6,6,6,6,6,7,7,7,7,7,7,7,7,7,7,7,7,7,7,7,7,7,7,7,7,7,7,7,7,7,7,7,7,7,7,7,7,7,7,7,7,7,7,7,7,7,7,7,7,7,7,7,7,7,7,7,7,7,7,7,7,7,7,7,7,7,7,7,7,8,8,8,8,8,8,8,8,8,8,8,8,8,8,8,8,8,8,8,8,8,8,8,8,8,8,8,8,8,8,8,8,8,8,8,8,8,8,8,8,8,8,8,8,8,8,8,8,8,8,8,8,8,8,8,8,8,8,8,8,8,8,8,8,8,8,8,8,8,8,8,8,8,8,8,8,8,8,8,8,8,8,8,8,8,8,8,8,8,8,8,8,8,8,8,8,8,8,8,8,8,8,8,8,8,8,8,8,8,8,8,8,8,8,8,8,8,8,8,8,8,8,8,8,8,8,8,8]:List UInt8)) (wrap .u8 (cc .u64 x 16))).bind fun h=>
 some (wrap .i64 (16+(wrap .i64 (h.toNat:Int)))))) (
 br (decide (x>=256)) (
 (atL (([0,1,2,2,3,3,3,3,4,4,4,4,4,4,4,4,5,5,5,5,5,5,5,5,5,5,5,5,5,5,5,5,6,6,6,6,6,6,6,6,6,6,6,6,6,6,6,6,6,6,6,6,6,6,6,6,6,6,6,6,6,6,6,6,7,7,7,7,7,7,7,7,7,7,7,7,7,7,7,7,7,7,7,7,7,7,7,7,7,7,7,7,7,7,7,7,7,7,7,7,7,7,7,7,7,7,7,7,7,7,7,7,7,7,7,7,7,7,7,7,7,7,7,7,7,7,7,7,8,8,8,8,8,8,8,8,8,8,8,8,8,8,8,8,8,8,8,8,8,8,8,8,8,8,8,8,8,8,8,8,8,8,8,8,8,8,8,8,8,8,8,8,8,8,8,8,8,8,8,8,8,8,8,8,8,8,8,8,8,8,8,8,8,8,8,8,8,8,8,8,8,8,8,8,8,8,8,8,8,8,8,8,8,8,8,8,8,8,8,8,8,8,8,8,8,8,8,8,8,8,8,8,8,8,8,8,8,8,8,8,8,8,8,8,8,8,8,8,8,8,8,8,8,8,8,8]:List UInt8)) (wrap .u8 (cc .u64 x 8))).bind fun a=>
 some (wrap .i64 (8+(wrap .i64 (a.toNat:Int))))) (
 (atL (([0,1,2,2,3,3,3,3,4,4,4,4,4,4,4,4,5,5,5,5,5,5,5,5,5,5,5,5,5,5,5,5,6,6,6,6,6,6,6,6,6,6,6,6,6,6,6,6,6,6,6,6,6,6,6,6,6,6,6,6,6,6,6,6,7,7,7,7,7,7,7,7,7,7,7,7,7,7,7,7,7,7,7,7,7,7,7,7,7,7,7,7,7,7,7,7,7,7,7,7,7,7,7,7,7,7,7,7,7,7,7,7,7,7,7,7,7,7,7,7,7,7,7,7,7,7,7,7,8,8,8,8,8,8,8,8,8,8,8,8,8,8,8,8,8,8,8,8,8,8,8,8,8,8,8,8,8,8,8,8,8,8,8,8,8,8,8,8,8,8,8,8,8,8,8,8,8,8,8,8,8,8,8,8,8,8,8,8,8,8,8,8,8,8,8,8,8,8,8,8,8,8,8,8,8,8,8,8,8,8,8,8,8,8,8,8,8,8,8,8,8,8,8,8,8,8,8,8,8,8,8,8,8,8,8,8,8,8,8,8,8,8,8,8,8,8,8,8,8,8,8,8,8,8,8,8]:List UInt8)) (wrap .u8 x)).bind fun e=>
 some (wrap .i64 (0+(wrap .i64 (e.toNat:Int)))))))
def Mc {x r} (h:yE x=some r):Call tab ow 386 [.lit (.int .u64 x)] []=some (I r,[]):=by
 rw [ak (af:=q9) rfl]
 unfold yE at h
 simp only [q9,BA]
 exact go2
def Cd (x:Int):Option Int:=
 (yE x).bind fun a=>
 some a
def Pf {x r} (h:Cd x=some r):Call tab ow 348 [.lit (.int .u64 x)] []=some (I r,[]):=by
 rw [ak (af:=tI) rfl]
 unfold Cd at h
 simp only [tI,F7]
 have d1:= @Mc
 exact go2
def Hz (n:Int):Option Int:=
 (Cd (wrap .u64 n)).bind fun a=>
 some (wrap .i64 (a-1))
def MY {n r} (h:Hz n=some r):Call tab ow 309 [I n] []=some (I r,[]):=by
 rw [ak (af:=HD) rfl]
 unfold Hz at h
 simp only [HD,VG]
 have d1:= @Pf
 exact go2
def zW:Int×Int×Int->Option ((Int×Int×Int)⊕((Int×Int×Int×Bool)))
 | (c,b,a)=>
   br (decide (b>0)) (
   br ((dc .i64 b 1)==1) (
   (ut a c).bind fun f=>
   (ut c c).bind fun e=>
   some (.inl (e,(cc .i64 b 1),f))) (
   (ut c c).bind fun d=>
   some (.inl (d,(cc .i64 b 1),a)))) (
   some (.inr (c,b,a,decide (b>0))))
def a9r:LXe tab ow (.close [6002,7002]) UG (zW) (fun s=>⟨[(0,I s.1),(1,I s.2.1),(5,I s.2.2)],[]⟩) 0 (fun e=>(e.1,e.2.1,e.2.2.1)) (fun e=>[(7,B e.2.2.2)]):=by
 refine lrX (fun s o h=> ?_)
 obtain ⟨_,_,_⟩:=s
 simp only [zW] at h
 simp only [UG,Vo]
 have d1:= @Bj
 exact go2
def QZ (a n:Int):Option Int:=
 (Loop (zW) (a,n,1)).bind fun b=>
 some b.2.2.1
def Yu {a n r} (h:QZ a n=some r):Call tab ow 359 [I a,I n] []=some (I r,[]):=by
 rw [ak (af:=PR) rfl]
 unfold QZ at h
 simp only [PR,Xe]
 have d1:= @a9r
 exact go2
def NL (k:Int):Option Int:=
 br (decide (0<=(wrap .i64 (24-k)))) (
 (QZ 3 (ct .i64 127 (wrap .i64 (24-k)))).bind fun a=>
 some a) none
def a1d {k r} (h:NL k=some r):Call tab ow 308 [I k] []=some (I r,[]):=by
 rw [ak (af:=Lv) rfl]
 unfold NL at h
 simp only [Lv,a0Z]
 have d1:= @Yu
 exact go2
def iy (a:Ext) (n:Int):Option Ext:=
 (ut a.A n).bind fun c=>
 (ut a.B n).bind fun b=>
 some (Ext.mk c b)
def nT {a n r} (h:iy a n=some r):Call tab ow 354 [.agg [I a.A,I a.B],I n] []=some (.agg [I r.A,I r.B],[]):=by
 rw [ak (af:=uV) rfl]
 unfold iy at h
 simp only [uV,Gr]
 have d1:= @Bj
 exact go2
def fJ (a b:Ext):Option Ext:=
 (G9 a.A b.A).bind fun d=>
 (G9 a.B b.B).bind fun c=>
 some (Ext.mk d c)
def gU {a b r} (h:fJ a b=some r):Call tab ow 199 [.agg [I a.A,I a.B],.agg [I b.A,I b.B]] []=some (.agg [I r.A,I r.B],[]):=by
 rw [ak (af:=zM) rfl]
 unfold fJ at h
 simp only [zM,L0]
 have d1:= @M1
 exact go2
section
@[local go_sem] theorem c0i:mkR 4000 []=rws aG []:=rfl
@[local go_sem] theorem c08:mkR 4001 []=rws aG []:=rfl
@[local go_sem] theorem c0c:mkR 8005 []=rws aG []:=rfl
@[local go_sem] theorem b9Z:mkR 8013 []=rws aG []:=rfl
@[local go_sem] theorem c03: ∀k,Uc 11002 k [I (0:Int),I (0:Int)]=rws aG (List.replicate k (Ext.mk (0:Int) (0:Int))):=fun _=>b0k aG (Ext.mk (0:Int) (0:Int)) _ _
def oQ (a:List Ext) (t:Int):(List Ext)×(List Ext)×Int->Option (((List Ext)×(List Ext)×Int)⊕(((List Ext)×(List Ext)×Int×Bool)))
 | (l,c,b)=>
   br (decide (b<(a.length:Int))) (
   (atL a b).bind fun x=>
   br (bj ((l++([x]:List Ext)).length) 16) (
   (atL a (wrap .i64 (b+1))).bind fun d=>
   br (bj ((c++([d]:List Ext)).length) 16) (
   some (.inl ((l++([x]:List Ext)),(c++([d]:List Ext)),(wrap .i64 (b+2))))) none) none) (
   some (.inr (l,c,b,decide (b<(a.length:Int)))))
def WF {a t}:LXe tab ow (.close [8005,8006,8013,8014]) LP (oQ a t) (fun s=>⟨[(0,sl aG a),(1,I t),(5,.sl 4000 0 s.1.length),(6,.sl 4001 0 s.2.1.length),(7,I s.2.2)],[(4000,⟨2,false,rws aG s.1⟩),(4001,⟨2,false,rws aG s.2.1⟩)]⟩) 0 (fun e=>(e.1,e.2.1,e.2.2.1)) (fun e=>[(25,B e.2.2.2)]):=by
 refine lrX (fun s o h=> ?_)
 obtain ⟨_,_,_⟩:=s
 simp only [oQ] at h
 simp only [LP,LN]
 exact go2
def og (e k:List Ext) (m f l:Int):(List Ext)×Int×Int->Option (((List Ext)×Int×Int)⊕(((List Ext)×Int×Int×Bool)))
 | (b,i,a)=>
   br (decide (a<l)) (
   br (decide (0<=a)) (
   br (decide (a.toNat<k.length)) (
   (k[a.toNat]?).bind fun p=>
   (iy p i).bind fun c=>
   br (decide (0<=a)) (
   br (decide (a.toNat<e.length)) (
   (e[a.toNat]?).bind fun n=>
   (fJ n c).bind fun d=>
   br (decide (0<=a)) (
   br (decide (a.toNat<e.length)) (
   (e[a.toNat]?).bind fun o=>
   (hS o c).bind fun j=>
   br (decide (0<=a)) (
   br (decide (a.toNat<b.length)) (
   (b[a.toNat]?).bind fun q=>
   br (decide (0<=(wrap .i64 (a+f)))) (
   br (decide ((wrap .i64 (a+f)).toNat<b.length)) (
   ((b.set a.toNat d)[(wrap .i64 (a+f)).toNat]?).bind fun r=>
   (ut i m).bind fun h=>
   some (.inl (((b.set a.toNat d).set ((wrap .i64 (a+f)).toNat) j),h,(wrap .i64 (a+1))))) none) none) none) none) none) none) none) none) none) none) (
   some (.inr (b,i,a,decide (a<l))))
def Xg {b a c d f}:LXe tab ow (.close [15005,15006,16011,16017,17002]) IU (og b a c d f) (fun s=>⟨[(1,I c),(8,.sl 9004 0 b.length),(9,.sl 9009 0 a.length),(10,I d),(11,I s.2.1),(12,.sl 11002 0 s.1.length),(58,I f),(59,I s.2.2)],[(4000,kj),(4001,kj),(9004,⟨2,false,rws aG b⟩),(9009,⟨2,false,rws aG a⟩),(11002,⟨2,false,rws aG s.1⟩)]⟩) 2 (fun e=>(e.1,e.2.1,e.2.2.1)) (fun e=>[(60,B e.2.2.2)]):=by
 refine lrX (fun s o h=> ?_)
 obtain ⟨_,_,_⟩:=s
 simp only [og] at h
 simp only [IU,Ir]
 have d1:= @nT
 have d2:= @gU
 have d3:= @kB
 have d4:= @Bj
 exact go2
def rE:Nat->(List Ext)->Int->Option (List Ext)
 |0,_,_=>none
 |n_+1,ListtoArray,a=>
  br ((ListtoArray.length:Int)==1) (
  (di ListtoArray).bind fun i=>
  some i) (
  (Loop (oQ ListtoArray a) (([]:List Ext),([]:List Ext),0)).bind fun h=>
  (ut a a).bind fun f=>
  (rE n_ h.1 f).bind fun b=>
  (ut a a).bind fun e=>
  (rE n_ h.2.1 e).bind fun c=>
  br (TL (wrap .i64 (2*(b.length:Int))) (wrap .i64 (2*(b.length:Int))) 16) (
  (Loop (og b c a (b.length:Int) (b.length:Int)) ((List.replicate ((wrap .i64 ((2:Int)*(b.length:Int))).toNat) (Ext.mk (0:Int) (0:Int))),(1:Int),(0:Int))).bind fun d=>
  some d.1) none)
def Y2 (c:Nat): ∀{b:(List Ext)} {a:Int} {r:(List Ext)},rE c b a=some r->Call tab ow 307 [sl aG b,I a] []=some (.sl 0 0 r.length,[⟨2,false,rws aG r⟩]):=by
 induction c with
 |zero=>intro _ _ r h;cases h
 |succ c ih=>
  intro b a r h
  rw [ak (af:=ET) rfl]
  simp only [rE] at h
  simp only [ET,DH]
  have d1:= @km
  have d2:= @WF
  have d3:= @Bj
  have d4:= @ih
  have d5:= @Xg
  exact go2
def SJ (b:List Ext) (a:Int):Option (List Ext):=lim (fun c=>rE c b a)
def a3e {b:(List Ext)} {a:Int} {r:(List Ext)} (h:SJ b a=some r):Call tab ow 307 [sl aG b,I a] []=some (.sl 0 0 r.length,[⟨2,false,rws aG r⟩]):=by
 obtain ⟨n_,hn⟩:=VP h
 exact Y2 n_ hn
end
def a6e (a:List Ext):Option (List Ext):=
 (Hz (a.length:Int)).bind fun d=>
 (NL d).bind fun b=>
 (SJ a b).bind fun c=>
 some c
def b9X {a r} (h:a6e a=some r):Call tab ow 196 [sl aG a] []=some (sl aG r,[]):=by
 rw [ak (af:=PA) rfl]
 unfold a6e at h
 simp only [PA,a4S]
 have d1:= @MY
 have d2:= @a1d
 have d3:= @a3e
 exact go2
section
@[local go_sem] theorem b6B: ∀k,Uc 2004 k [I (0:Int),I (0:Int)]=rws aG (List.replicate k (Ext.mk (0:Int) (0:Int))):=fun _=>b0k aG (Ext.mk (0:Int) (0:Int)) _ _
def zX (a:List Ext) (b:Int):Option (List Ext):=
 br (decide (0<=b)) (
 br (TL (ct .i64 (a.length:Int) b) (ct .i64 (a.length:Int) b) 16) (
 (a6e (yX (List.replicate ((ct .i64 (a.length:Int) b).toNat) (Ext.mk (0:Int) (0:Int))) 0 (min a.length ((List.replicate ((ct .i64 (a.length:Int) b).toNat) (Ext.mk (0:Int) (0:Int))).length)) a)).bind fun c=>
 some c) none) none
def Om {a b r} (h:zX a b=some r):Call tab ow 98 [sl aG a,I b] []=some (sl aG r,[]):=by
 rw [ak (af:=BH) rfl]
 unfold zX at h
 simp only [BH,OI]
 have d1:= @b9X
 exact go2
end
section
attribute [local go_sem] sh
def nR (t:List Ext) (c:Int):(List UInt8)×Int->Option (((List UInt8)×Int)⊕(((List UInt8)×Int×Bool)))
 | (l,a)=>
   br (decide (a<c)) (
   (atL t a).bind fun x=>
   (mH x.A l).bind fun d=>
   (mH x.B d).bind fun b=>
   some (.inl (b,(wrap .i64 (a+1))))) (
   some (.inr (l,a,decide (a<c))))
def Tq {t a}:LXe tab ow (.close [5002,6003,6006]) FT (nR t a) (fun s=>⟨[(3,.sl 2000 0 s.1.length),(7,sl aG t),(8,I a),(9,I s.2)],[(2000,⟨1,false,rws eU8 s.1⟩)]⟩) 0 (fun e=>(e.1,e.2.1)) (fun e=>[(10,B e.2.2)]):=by
 refine lrX (fun s o h=> ?_)
 obtain ⟨_,_⟩:=s
 simp only [nR] at h
 simp only [FT,Gu]
 have d1:= @oM
 exact go2
def iz (a:List Ext):Option (List UInt8):=
 (Loop (nR a (a.length:Int)) (([]:List UInt8),0)).bind fun b=>
 some b.1
def kw {a r} (h:iz a=some r):Call tab ow 175 [sl aG a] []=some (sl eU8 r,[]):=by
 rw [ak (af:=zA) rfl]
 unfold iz at h
 simp only [zA,DM]
 have d1:= @Tq
 exact go2
end
section
@[local go_sem] theorem IL:mkR 2000 []=rws eS []:=rfl
@[local go_sem] theorem b5B:mkR 6011 []=rws aG []:=rfl
@[local go_sem] theorem b5C:mkR 6014 []=rws eS []:=rfl
def lv (a:List Ext) (c t:Int):(List (List UInt8))×Int->Option (((List (List UInt8))×Int)⊕(((List (List UInt8))×Int×Bool)))
 | (l,b)=>
   br (decide (b<t)) (
   (atL a b).bind fun x=>
   (atL a (wrap .i64 (b+c))).bind fun e=>
   (iz ([x,e]:List Ext)).bind fun d=>
   br (bj ((l++([d]:List (List UInt8))).length) 16) (
   some (.inl ((l++([d]:List (List UInt8))),(wrap .i64 (b+1))))) none) (
   some (.inr (l,b,decide (b<t))))
def T4 {a b t}:LXe tab ow (.close [6011,6012,6014,6015]) FQ (lv a b t) (fun s=>⟨[(0,sl aG a),(3,.sl 2000 0 s.1.length),(4,I b),(10,I t),(11,I s.2)],[(2000,⟨1,false,rws eS s.1⟩)]⟩) 0 (fun e=>(e.1,e.2.1)) (fun e=>[(12,B e.2.2)]):=by
 refine lrX (fun s o h=> ?_)
 obtain ⟨_,_⟩:=s
 simp only [lv] at h
 simp only [FQ,FS]
 have d1:= @kw
 exact go2
def Ag (a:List Ext):Option ((List (List UInt8))):=
 (Loop (lv a (wrap .i64 ((a.length:Int).tdiv 2)) (wrap .i64 ((a.length:Int).tdiv 2))) (([]:List (List UInt8)),0)).bind fun b=>
 some b.1
def WN {a r} (h:Ag a=some r):Call tab ow 195 [sl aG a] []=some (sl eS r,[]):=by
 rw [ak (af:=zk) rfl]
 unfold Ag at h
 simp only [zk,Eb]
 have d1:= @T4
 exact go2
end
def wE (a:List UInt8):Option (List UInt8):=
 br (bj ((([0]:List UInt8)).length+a.length) 1) (
 some ((([0]:List UInt8))++a)) none
def M9 {a r} (h:wE a=some r):Call tab ow 305 [S a] []=some (S r,[]):=by
 rw [ak (af:=z8) rfl]
 unfold wE at h
 simp only [z8,KQ]
 exact go2
def ua (a b:List UInt8):Option (List UInt8):=
 br (bj ((([1]:List UInt8)).length+a.length) 1) (
 br (bj (((([1]:List UInt8))++a).length+b.length) 1) (
 some (((([1]:List UInt8))++a)++b)) none) none
def KV {a b r} (h:ua a b=some r):Call tab ow 306 [S a,S b] []=some (S r,[]):=by
 rw [ak (af:=zx) rfl]
 unfold ua at h
 simp only [zx,Ky]
 exact go2
end
end Go.AI.Fn
