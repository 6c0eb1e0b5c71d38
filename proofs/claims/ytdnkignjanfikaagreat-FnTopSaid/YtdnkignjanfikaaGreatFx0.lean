/- Part. -/
import Derived.Test.YtdnkignjanfikaaGreatStr
set_option linter.unusedVariables false
set_option linter.unusedSimpArgs false
set_option maxRecDepth 100000
set_option maxHeartbeats 1000000
namespace Go.AI.Fn
noncomputable section
open IntKind (wrap)
def rj (a:List UInt8):Option bV:=
 some (bV.mk a 0 ((a.length:Int).tmod 1000))
theorem xe {a r} (h:rj a=some r):Call tab ow 66 [sl eU8 a] []=some (.ptr 0 0 0 1,[⟨3,true,[[sl eU8 r.code,I r.at_,I r.seed]]⟩]):=by
 rw [ak (af:=xl) rfl]
 unfold rj at h
 simp only [xl,IJ]
 exact go2
def kG (m:bV):Option (Int×bV):=
 br (decide ((wrap .i64 (m.at_+1))<=(m.code.length:Int))) (
 (atL m.code (wrap .i64 ((wrap .i64 (m.at_+1))-1))).bind fun x=>
 (atL m.code (wrap .i64 ((wrap .i64 (m.at_+1))-1))).bind fun a=>
 some ((wrap .i64 (a.toNat:Int)),(bV.mk m.code (wrap .i64 (m.at_+1)) ((wrap .i64 ((wrap .i64 ((wrap .i64 (m.seed*31))+(wrap .i64 (x.toNat:Int))))+7)).tmod 2147483648)))) (
 br (decide ((wrap .i64 (m.at_+1))>3000)) (
 some (0,(bV.mk m.code (wrap .i64 (m.at_+1)) m.seed))) (
 some (((wrap .i64 (((wrap .i64 ((wrap .i64 (m.seed*1103515245))+12345)).tmod 2147483648).tdiv 65536)).tmod 256),(bV.mk m.code (wrap .i64 (m.at_+1)) ((wrap .i64 ((wrap .i64 (m.seed*1103515245))+12345)).tmod 2147483648)))))
theorem Pf {m r} (h:kG m=some r):Call tab ow 302 [.ptr 0 0 0 1] [⟨3,true,[[sl eU8 m.code,I m.at_,I m.seed]]⟩]=some (I r.1,[⟨3,true,[[sl eU8 r.2.code,I r.2.at_,I r.2.seed]]⟩]):=by
 rw [ak (af:=tT) rfl]
 unfold kG at h
 simp only [tT,Fa]
 exact go2
def au (n:Int) (m:bV):Option (Int×bV):=
 br (decide (n<=1)) (
 some (0,m)) (
 br (decide (n<=256)) (
 (kG m).bind fun d=>
 br (decide (n≠0)) (
 some ((d.1.tmod n),d.2)) none) (
 (kG m).bind fun b=>
 (kG b.2).bind fun c=>
 (kG c.2).bind fun a=>
 br (decide (n≠0)) (
 some (((wrap .i64 ((wrap .i64 ((wrap .i64 (b.1*65536))+(wrap .i64 (c.1*256))))+a.1)).tmod n),a.2)) none))
theorem fQ {n m r} (h:au n m=some r):Call tab ow 185 [.ptr 0 0 0 1,I n] [⟨3,true,[[sl eU8 m.code,I m.at_,I m.seed]]⟩]=some (I r.1,[⟨3,true,[[sl eU8 r.2.code,I r.2.at_,I r.2.seed]]⟩]):=by
 rw [ak (af:=tJ) rfl]
 unfold au at h
 simp only [tJ,Fb]
 have d1:= @Pf
 exact go2
def LV (b:Bool):Option Int:=
 br b (
 some 1) (
 some 0)
theorem a4k {b r} (h:LV b=some r):Call tab ow 303 [B b] []=some (I r,[]):=by
 rw [ak (af:=EN) rfl]
 unfold LV at h
 simp only [EN,Qa]
 exact go2
def nL (b:Int) (a:List aC):Int×Int->Option ((Int×Int)⊕((Int×Int×Bool)))
 | (n,k)=>
   br (decide (k<(a.length:Int))) (
   (atL a k).bind fun x=>
   (LV (x.Op==b)).bind fun c=>
   some (.inl ((wrap .i64 (n+c)),(wrap .i64 (k+1))))) (
   some (.inr (n,k,decide (k<(a.length:Int)))))
theorem T3 {a b}:LXe tab ow (.close [6009]) GW (nL a b) (fun s=>⟨[(1,I a),(2,.ptr 1000 0 0 1),(5,I s.1),(6,I s.2)],[(1000,⟨1,true,[[sl en b]]⟩)]⟩) 0 (fun e=>(e.1,e.2.1)) (fun e=>[(11,B e.2.2)]):=by
 refine lrX (fun s o h=> ?_)
 obtain ⟨_,_⟩:=s
 simp only [nL] at h
 simp only [GW,GA]
 have d1:= @a4k
 exact go2
def mU (c:Circuit) (a:Int):Option Int:=
 (Loop (nL a c.Gates) (0,0)).bind fun b=>
 some b.1
theorem E7 {c a r} (h:mU c a=some r):Call tab ow 187 [.agg [sl en c.Gates],I a] []=some (I r,[]):=by
 rw [ak (af:=zz) rfl]
 unfold mU at h
 simp only [zz,EQ]
 have d1:= @T3
 exact go2
def Ma (n b a:Int):Option Bool:=
 br (decide (b<=n)) (
 some (decide (n<=a))) (
 some false)
theorem a7Q {n b a r} (h:Ma n b a=some r):Call tab ow 115 [I n,I b,I a] []=some (B r,[]):=by
 rw [ak (af:=Hw) rfl]
 unfold Ma at h
 simp only [Hw,V9]
 exact go2
def jc (a:Int):Option Int:=
 (Ma a 4 7).bind fun b=>
 br b (
 some 2) (
 br (a==8) (
 some 1) (
 some 0))
theorem ZA {a r} (h:jc a=some r):Call tab ow 188 [I a] []=some (I r,[]):=by
 rw [ak (af:=Bo) rfl]
 unfold jc at h
 simp only [Bo,O0]
 have d1:= @a7Q
 exact go2
def cq (n:Int) (m:bV):Option (Bool×bV):=
 (au n m).bind fun a=>
 some ((a.1==(wrap .i64 (n-1))),a.2)
theorem is {n m r} (h:cq n m=some r):Call tab ow 186 [.ptr 0 0 0 1,I n] [⟨3,true,[[sl eU8 m.code,I m.at_,I m.seed]]⟩]=some (B r.1,[⟨3,true,[[sl eU8 r.2.code,I r.2.at_,I r.2.seed]]⟩]):=by
 rw [ak (af:=pX) rfl]
 unfold cq at h
 simp only [pX,Bu]
 have d1:= @fQ
 exact go2
def je:Int×Int×(List UInt8)×Int×Int->Option ((Int×Int×(List UInt8)×Int×Int)⊕((Int×Int×Bool×(List UInt8)×Int×Int)))
 | (n,i,c,d,b)=>
   br (decide (i<5)) (
   (au 256 (bV.mk c d b)).bind fun a=>
   some (.inl (((wrap .i64 ((wrap .i64 (n*256))+a.1)).tmod 2130706433),(wrap .i64 (i+1)),a.2.code,a.2.at_,a.2.seed))) (
   some (.inr (n,i,decide (i<5),c,d,b)))
theorem K7:LXe tab ow (.close [11003]) Aa (je) (fun s=>⟨[(0,.ptr 0 0 0 1),(3,I s.1),(4,I s.2.1)],[(0,⟨3,true,[[sl eU8 s.2.2.1,I s.2.2.2.1,I s.2.2.2.2]]⟩)]⟩) 1 (fun e=>(e.1,e.2.1,e.2.2.2.1,e.2.2.2.2.1,e.2.2.2.2.2)) (fun e=>[(17,B e.2.2.1)]):=by
 refine lrX (fun s o h=> ?_)
 obtain ⟨_,_,_,_,_⟩:=s
 simp only [je] at h
 simp only [Aa,A8]
 have d1:= @fQ
 exact go2
def b5 (m:bV):Option (Int×bV):=
 (au 5 m).bind fun a=>
 br (a.1==0) (
 (au 4 a.2).bind fun b=>
 some (b.1,b.2)) (
 br (a.1==1) (
 (au 3 a.2).bind fun c=>
 some ((wrap .i64 (2130706432-c.1)),c.2)) (
 (Loop (je) (0,0,a.2.code,a.2.at_,a.2.seed)).bind fun d=>
 some (d.1,(bV.mk d.2.2.2.1 d.2.2.2.2.1 d.2.2.2.2.2))))
theorem nU {m r} (h:b5 m=some r):Call tab ow 165 [.ptr 0 0 0 1] [⟨3,true,[[sl eU8 m.code,I m.at_,I m.seed]]⟩]=some (I r.1,[⟨3,true,[[sl eU8 r.2.code,I r.2.at_,I r.2.seed]]⟩]):=by
 rw [ak (af:=sk) rfl]
 unfold b5 at h
 simp only [sk,wz]
 have d1:= @fQ
 have d2:= @K7
 exact go2
section
@[local go_sem] theorem a1O:mkR 2000 []=rws en []:=rfl
@[local go_sem] theorem a1M:mkR 22003 []=rws en []:=rfl
@[local go_sem] theorem a1P:mkR 21002 []=rws eI []:=rfl
def jt (t:Int):(List aC)×Int×(List UInt8)×Int×Int->Option (((List aC)×Int×(List UInt8)×Int×Int)⊕(((List aC)×Int×Bool×(List UInt8)×Int×Int)))
 | (l,e,c,c2,c3)=>
   br (decide (e<t)) (
   (au 8 (bV.mk c c2 c3)).bind fun d=>
   br (e==0) (
   (au 3 d.2).bind fun b=>
   br ((wrap .i64 (1+b.1))==2) (
   (mU (Circuit.mk l) 2).bind fun r_4=>
   br (r_4==3) (
   (jc 1).bind fun r_5=>
   br (r_5==2) (
   (au e b.2).bind fun r_6=>
   (au e r_6.2).bind fun r_7=>
   br (bj ((l++([(aC.mk 1 r_6.1 r_7.1 0)]:List aC)).length) 32) (
   some (.inl ((l++([(aC.mk 1 r_6.1 r_7.1 0)]:List aC)),(wrap .i64 (e+1)),r_7.2.code,r_7.2.at_,r_7.2.seed))) none) (
   br (r_5==1) (
   (au e b.2).bind fun r_8=>
   br (bj ((l++([(aC.mk 1 r_8.1 0 0)]:List aC)).length) 32) (
   some (.inl ((l++([(aC.mk 1 r_8.1 0 0)]:List aC)),(wrap .i64 (e+1)),r_8.2.code,r_8.2.at_,r_8.2.seed))) none) (
   br (bj ((l++([(aC.mk 1 0 0 0)]:List aC)).length) 32) (
   some (.inl ((l++([(aC.mk 1 0 0 0)]:List aC)),(wrap .i64 (e+1)),b.2.code,b.2.at_,b.2.seed))) none))) (
   (jc (wrap .i64 (1+b.1))).bind fun r_9=>
   br (r_9==2) (
   (au e b.2).bind fun i=>
   (au e i.2).bind fun p=>
   br ((wrap .i64 (1+b.1))==7) (
   (cq 5 p.2).bind fun z=>
   br (!z.1) (
   br ((wrap .i64 (1+b.1))==3) (
   (b5 z.2).bind fun r_13=>
   (au 3 r_13.2).bind fun r_14=>
   br (decide (0<=r_14.1)) (
   br (decide (r_14.1.toNat<([0,1,r_13.1]:List Int).length)) (
   (([0,1,r_13.1]:List Int)[r_14.1.toNat]?).bind fun x=>
   br (bj ((l++([(aC.mk (wrap .i64 (1+b.1)) i.1 i.1 x)]:List aC)).length) 32) (
   some (.inl ((l++([(aC.mk (wrap .i64 (1+b.1)) i.1 i.1 x)]:List aC)),(wrap .i64 (e+1)),r_14.2.code,r_14.2.at_,r_14.2.seed))) none) none) none) (
   br (bj ((l++([(aC.mk (wrap .i64 (1+b.1)) i.1 i.1 0)]:List aC)).length) 32) (
   some (.inl ((l++([(aC.mk (wrap .i64 (1+b.1)) i.1 i.1 0)]:List aC)),(wrap .i64 (e+1)),z.2.code,z.2.at_,z.2.seed))) none)) (
   br ((wrap .i64 (1+b.1))==3) (
   (b5 z.2).bind fun r_15=>
   (au 3 r_15.2).bind fun r_16=>
   br (decide (0<=r_16.1)) (
   br (decide (r_16.1.toNat<([0,1,r_15.1]:List Int).length)) (
   (([0,1,r_15.1]:List Int)[r_16.1.toNat]?).bind fun x2=>
   br (bj ((l++([(aC.mk (wrap .i64 (1+b.1)) i.1 p.1 x2)]:List aC)).length) 32) (
   some (.inl ((l++([(aC.mk (wrap .i64 (1+b.1)) i.1 p.1 x2)]:List aC)),(wrap .i64 (e+1)),r_16.2.code,r_16.2.at_,r_16.2.seed))) none) none) none) (
   br (bj ((l++([(aC.mk (wrap .i64 (1+b.1)) i.1 p.1 0)]:List aC)).length) 32) (
   some (.inl ((l++([(aC.mk (wrap .i64 (1+b.1)) i.1 p.1 0)]:List aC)),(wrap .i64 (e+1)),z.2.code,z.2.at_,z.2.seed))) none))) (
   br ((wrap .i64 (1+b.1))==3) (
   (b5 p.2).bind fun r_17=>
   (au 3 r_17.2).bind fun r_18=>
   br (decide (0<=r_18.1)) (
   br (decide (r_18.1.toNat<([0,1,r_17.1]:List Int).length)) (
   (([0,1,r_17.1]:List Int)[r_18.1.toNat]?).bind fun x3=>
   br (bj ((l++([(aC.mk (wrap .i64 (1+b.1)) i.1 p.1 x3)]:List aC)).length) 32) (
   some (.inl ((l++([(aC.mk (wrap .i64 (1+b.1)) i.1 p.1 x3)]:List aC)),(wrap .i64 (e+1)),r_18.2.code,r_18.2.at_,r_18.2.seed))) none) none) none) (
   br (bj ((l++([(aC.mk (wrap .i64 (1+b.1)) i.1 p.1 0)]:List aC)).length) 32) (
   some (.inl ((l++([(aC.mk (wrap .i64 (1+b.1)) i.1 p.1 0)]:List aC)),(wrap .i64 (e+1)),p.2.code,p.2.at_,p.2.seed))) none))) (
   br (r_9==1) (
   (au e b.2).bind fun r_19=>
   br ((wrap .i64 (1+b.1))==3) (
   (b5 r_19.2).bind fun r_20=>
   (au 3 r_20.2).bind fun r_21=>
   br (decide (0<=r_21.1)) (
   br (decide (r_21.1.toNat<([0,1,r_20.1]:List Int).length)) (
   (([0,1,r_20.1]:List Int)[r_21.1.toNat]?).bind fun x4=>
   br (bj ((l++([(aC.mk (wrap .i64 (1+b.1)) r_19.1 0 x4)]:List aC)).length) 32) (
   some (.inl ((l++([(aC.mk (wrap .i64 (1+b.1)) r_19.1 0 x4)]:List aC)),(wrap .i64 (e+1)),r_21.2.code,r_21.2.at_,r_21.2.seed))) none) none) none) (
   br (bj ((l++([(aC.mk (wrap .i64 (1+b.1)) r_19.1 0 0)]:List aC)).length) 32) (
   some (.inl ((l++([(aC.mk (wrap .i64 (1+b.1)) r_19.1 0 0)]:List aC)),(wrap .i64 (e+1)),r_19.2.code,r_19.2.at_,r_19.2.seed))) none)) (
   br ((wrap .i64 (1+b.1))==3) (
   (b5 b.2).bind fun r_22=>
   (au 3 r_22.2).bind fun r_23=>
   br (decide (0<=r_23.1)) (
   br (decide (r_23.1.toNat<([0,1,r_22.1]:List Int).length)) (
   (([0,1,r_22.1]:List Int)[r_23.1.toNat]?).bind fun x5=>
   br (bj ((l++([(aC.mk (wrap .i64 (1+b.1)) 0 0 x5)]:List aC)).length) 32) (
   some (.inl ((l++([(aC.mk (wrap .i64 (1+b.1)) 0 0 x5)]:List aC)),(wrap .i64 (e+1)),r_23.2.code,r_23.2.at_,r_23.2.seed))) none) none) none) (
   br (bj ((l++([(aC.mk (wrap .i64 (1+b.1)) 0 0 0)]:List aC)).length) 32) (
   some (.inl ((l++([(aC.mk (wrap .i64 (1+b.1)) 0 0 0)]:List aC)),(wrap .i64 (e+1)),b.2.code,b.2.at_,b.2.seed))) none))))) (
   (jc (wrap .i64 (1+b.1))).bind fun r_24=>
   br (r_24==2) (
   (au e b.2).bind fun n=>
   (au e n.2).bind fun s=>
   br ((wrap .i64 (1+b.1))==7) (
   (cq 5 s.2).bind fun r_27=>
   br (!r_27.1) (
   br ((wrap .i64 (1+b.1))==3) (
   (b5 r_27.2).bind fun r_28=>
   (au 3 r_28.2).bind fun r_29=>
   br (decide (0<=r_29.1)) (
   br (decide (r_29.1.toNat<([0,1,r_28.1]:List Int).length)) (
   (([0,1,r_28.1]:List Int)[r_29.1.toNat]?).bind fun x6=>
   br (bj ((l++([(aC.mk (wrap .i64 (1+b.1)) n.1 n.1 x6)]:List aC)).length) 32) (
   some (.inl ((l++([(aC.mk (wrap .i64 (1+b.1)) n.1 n.1 x6)]:List aC)),(wrap .i64 (e+1)),r_29.2.code,r_29.2.at_,r_29.2.seed))) none) none) none) (
   br (bj ((l++([(aC.mk (wrap .i64 (1+b.1)) n.1 n.1 0)]:List aC)).length) 32) (
   some (.inl ((l++([(aC.mk (wrap .i64 (1+b.1)) n.1 n.1 0)]:List aC)),(wrap .i64 (e+1)),r_27.2.code,r_27.2.at_,r_27.2.seed))) none)) (
   br ((wrap .i64 (1+b.1))==3) (
   (b5 r_27.2).bind fun r_30=>
   (au 3 r_30.2).bind fun r_31=>
   br (decide (0<=r_31.1)) (
   br (decide (r_31.1.toNat<([0,1,r_30.1]:List Int).length)) (
   (([0,1,r_30.1]:List Int)[r_31.1.toNat]?).bind fun x7=>
   br (bj ((l++([(aC.mk (wrap .i64 (1+b.1)) n.1 s.1 x7)]:List aC)).length) 32) (
   some (.inl ((l++([(aC.mk (wrap .i64 (1+b.1)) n.1 s.1 x7)]:List aC)),(wrap .i64 (e+1)),r_31.2.code,r_31.2.at_,r_31.2.seed))) none) none) none) (
   br (bj ((l++([(aC.mk (wrap .i64 (1+b.1)) n.1 s.1 0)]:List aC)).length) 32) (
   some (.inl ((l++([(aC.mk (wrap .i64 (1+b.1)) n.1 s.1 0)]:List aC)),(wrap .i64 (e+1)),r_27.2.code,r_27.2.at_,r_27.2.seed))) none))) (
   br ((wrap .i64 (1+b.1))==3) (
   (b5 s.2).bind fun r_32=>
   (au 3 r_32.2).bind fun r_33=>
   br (decide (0<=r_33.1)) (
   br (decide (r_33.1.toNat<([0,1,r_32.1]:List Int).length)) (
   (([0,1,r_32.1]:List Int)[r_33.1.toNat]?).bind fun x8=>
   br (bj ((l++([(aC.mk (wrap .i64 (1+b.1)) n.1 s.1 x8)]:List aC)).length) 32) (
   some (.inl ((l++([(aC.mk (wrap .i64 (1+b.1)) n.1 s.1 x8)]:List aC)),(wrap .i64 (e+1)),r_33.2.code,r_33.2.at_,r_33.2.seed))) none) none) none) (
   br (bj ((l++([(aC.mk (wrap .i64 (1+b.1)) n.1 s.1 0)]:List aC)).length) 32) (
   some (.inl ((l++([(aC.mk (wrap .i64 (1+b.1)) n.1 s.1 0)]:List aC)),(wrap .i64 (e+1)),s.2.code,s.2.at_,s.2.seed))) none))) (
   br (r_24==1) (
   (au e b.2).bind fun r_34=>
   br ((wrap .i64 (1+b.1))==3) (
   (b5 r_34.2).bind fun r_35=>
   (au 3 r_35.2).bind fun r_36=>
   br (decide (0<=r_36.1)) (
   br (decide (r_36.1.toNat<([0,1,r_35.1]:List Int).length)) (
   (([0,1,r_35.1]:List Int)[r_36.1.toNat]?).bind fun x9=>
   br (bj ((l++([(aC.mk (wrap .i64 (1+b.1)) r_34.1 0 x9)]:List aC)).length) 32) (
   some (.inl ((l++([(aC.mk (wrap .i64 (1+b.1)) r_34.1 0 x9)]:List aC)),(wrap .i64 (e+1)),r_36.2.code,r_36.2.at_,r_36.2.seed))) none) none) none) (
   br (bj ((l++([(aC.mk (wrap .i64 (1+b.1)) r_34.1 0 0)]:List aC)).length) 32) (
   some (.inl ((l++([(aC.mk (wrap .i64 (1+b.1)) r_34.1 0 0)]:List aC)),(wrap .i64 (e+1)),r_34.2.code,r_34.2.at_,r_34.2.seed))) none)) (
   br ((wrap .i64 (1+b.1))==3) (
   (b5 b.2).bind fun r_37=>
   (au 3 r_37.2).bind fun r_38=>
   br (decide (0<=r_38.1)) (
   br (decide (r_38.1.toNat<([0,1,r_37.1]:List Int).length)) (
   (([0,1,r_37.1]:List Int)[r_38.1.toNat]?).bind fun x10=>
   br (bj ((l++([(aC.mk (wrap .i64 (1+b.1)) 0 0 x10)]:List aC)).length) 32) (
   some (.inl ((l++([(aC.mk (wrap .i64 (1+b.1)) 0 0 x10)]:List aC)),(wrap .i64 (e+1)),r_38.2.code,r_38.2.at_,r_38.2.seed))) none) none) none) (
   br (bj ((l++([(aC.mk (wrap .i64 (1+b.1)) 0 0 0)]:List aC)).length) 32) (
   some (.inl ((l++([(aC.mk (wrap .i64 (1+b.1)) 0 0 0)]:List aC)),(wrap .i64 (e+1)),b.2.code,b.2.at_,b.2.seed))) none))))) (
   (cq 3 d.2).bind fun f=>
   br f.1 (
   (au 3 f.2).bind fun a=>
   br ((wrap .i64 (1+a.1))==2) (
   (mU (Circuit.mk l) 2).bind fun r_41=>
   br (r_41==3) (
   (jc 1).bind fun r_42=>
   br (r_42==2) (
   (au e a.2).bind fun r_43=>
   (au e r_43.2).bind fun r_44=>
   br (bj ((l++([(aC.mk 1 r_43.1 r_44.1 0)]:List aC)).length) 32) (
   some (.inl ((l++([(aC.mk 1 r_43.1 r_44.1 0)]:List aC)),(wrap .i64 (e+1)),r_44.2.code,r_44.2.at_,r_44.2.seed))) none) (
   br (r_42==1) (
   (au e a.2).bind fun r_45=>
   br (bj ((l++([(aC.mk 1 r_45.1 0 0)]:List aC)).length) 32) (
   some (.inl ((l++([(aC.mk 1 r_45.1 0 0)]:List aC)),(wrap .i64 (e+1)),r_45.2.code,r_45.2.at_,r_45.2.seed))) none) (
   br (bj ((l++([(aC.mk 1 0 0 0)]:List aC)).length) 32) (
   some (.inl ((l++([(aC.mk 1 0 0 0)]:List aC)),(wrap .i64 (e+1)),a.2.code,a.2.at_,a.2.seed))) none))) (
   (jc (wrap .i64 (1+a.1))).bind fun r_46=>
   br (r_46==2) (
   (au e a.2).bind fun k=>
   (au e k.2).bind fun o=>
   br ((wrap .i64 (1+a.1))==7) (
   (cq 5 o.2).bind fun r_49=>
   br (!r_49.1) (
   br ((wrap .i64 (1+a.1))==3) (
   (b5 r_49.2).bind fun r_50=>
   (au 3 r_50.2).bind fun r_51=>
   br (decide (0<=r_51.1)) (
   br (decide (r_51.1.toNat<([0,1,r_50.1]:List Int).length)) (
   (([0,1,r_50.1]:List Int)[r_51.1.toNat]?).bind fun x11=>
   br (bj ((l++([(aC.mk (wrap .i64 (1+a.1)) k.1 k.1 x11)]:List aC)).length) 32) (
   some (.inl ((l++([(aC.mk (wrap .i64 (1+a.1)) k.1 k.1 x11)]:List aC)),(wrap .i64 (e+1)),r_51.2.code,r_51.2.at_,r_51.2.seed))) none) none) none) (
   br (bj ((l++([(aC.mk (wrap .i64 (1+a.1)) k.1 k.1 0)]:List aC)).length) 32) (
   some (.inl ((l++([(aC.mk (wrap .i64 (1+a.1)) k.1 k.1 0)]:List aC)),(wrap .i64 (e+1)),r_49.2.code,r_49.2.at_,r_49.2.seed))) none)) (
   br ((wrap .i64 (1+a.1))==3) (
   (b5 r_49.2).bind fun r_52=>
   (au 3 r_52.2).bind fun r_53=>
   br (decide (0<=r_53.1)) (
   br (decide (r_53.1.toNat<([0,1,r_52.1]:List Int).length)) (
   (([0,1,r_52.1]:List Int)[r_53.1.toNat]?).bind fun x12=>
   br (bj ((l++([(aC.mk (wrap .i64 (1+a.1)) k.1 o.1 x12)]:List aC)).length) 32) (
   some (.inl ((l++([(aC.mk (wrap .i64 (1+a.1)) k.1 o.1 x12)]:List aC)),(wrap .i64 (e+1)),r_53.2.code,r_53.2.at_,r_53.2.seed))) none) none) none) (
   br (bj ((l++([(aC.mk (wrap .i64 (1+a.1)) k.1 o.1 0)]:List aC)).length) 32) (
   some (.inl ((l++([(aC.mk (wrap .i64 (1+a.1)) k.1 o.1 0)]:List aC)),(wrap .i64 (e+1)),r_49.2.code,r_49.2.at_,r_49.2.seed))) none))) (
   br ((wrap .i64 (1+a.1))==3) (
   (b5 o.2).bind fun r_54=>
   (au 3 r_54.2).bind fun r_55=>
   br (decide (0<=r_55.1)) (
   br (decide (r_55.1.toNat<([0,1,r_54.1]:List Int).length)) (
   (([0,1,r_54.1]:List Int)[r_55.1.toNat]?).bind fun x13=>
   br (bj ((l++([(aC.mk (wrap .i64 (1+a.1)) k.1 o.1 x13)]:List aC)).length) 32) (
   some (.inl ((l++([(aC.mk (wrap .i64 (1+a.1)) k.1 o.1 x13)]:List aC)),(wrap .i64 (e+1)),r_55.2.code,r_55.2.at_,r_55.2.seed))) none) none) none) (
   br (bj ((l++([(aC.mk (wrap .i64 (1+a.1)) k.1 o.1 0)]:List aC)).length) 32) (
   some (.inl ((l++([(aC.mk (wrap .i64 (1+a.1)) k.1 o.1 0)]:List aC)),(wrap .i64 (e+1)),o.2.code,o.2.at_,o.2.seed))) none))) (
   br (r_46==1) (
   (au e a.2).bind fun r_56=>
   br ((wrap .i64 (1+a.1))==3) (
   (b5 r_56.2).bind fun r_57=>
   (au 3 r_57.2).bind fun r_58=>
   br (decide (0<=r_58.1)) (
   br (decide (r_58.1.toNat<([0,1,r_57.1]:List Int).length)) (
   (([0,1,r_57.1]:List Int)[r_58.1.toNat]?).bind fun x14=>
   br (bj ((l++([(aC.mk (wrap .i64 (1+a.1)) r_56.1 0 x14)]:List aC)).length) 32) (
   some (.inl ((l++([(aC.mk (wrap .i64 (1+a.1)) r_56.1 0 x14)]:List aC)),(wrap .i64 (e+1)),r_58.2.code,r_58.2.at_,r_58.2.seed))) none) none) none) (
   br (bj ((l++([(aC.mk (wrap .i64 (1+a.1)) r_56.1 0 0)]:List aC)).length) 32) (
   some (.inl ((l++([(aC.mk (wrap .i64 (1+a.1)) r_56.1 0 0)]:List aC)),(wrap .i64 (e+1)),r_56.2.code,r_56.2.at_,r_56.2.seed))) none)) (
   br ((wrap .i64 (1+a.1))==3) (
   (b5 a.2).bind fun r_59=>
   (au 3 r_59.2).bind fun r_60=>
   br (decide (0<=r_60.1)) (
   br (decide (r_60.1.toNat<([0,1,r_59.1]:List Int).length)) (
   (([0,1,r_59.1]:List Int)[r_60.1.toNat]?).bind fun x15=>
   br (bj ((l++([(aC.mk (wrap .i64 (1+a.1)) 0 0 x15)]:List aC)).length) 32) (
   some (.inl ((l++([(aC.mk (wrap .i64 (1+a.1)) 0 0 x15)]:List aC)),(wrap .i64 (e+1)),r_60.2.code,r_60.2.at_,r_60.2.seed))) none) none) none) (
   br (bj ((l++([(aC.mk (wrap .i64 (1+a.1)) 0 0 0)]:List aC)).length) 32) (
   some (.inl ((l++([(aC.mk (wrap .i64 (1+a.1)) 0 0 0)]:List aC)),(wrap .i64 (e+1)),a.2.code,a.2.at_,a.2.seed))) none))))) (
   (jc (wrap .i64 (1+a.1))).bind fun r_61=>
   br (r_61==2) (
   (au e a.2).bind fun m=>
   (au e m.2).bind fun q=>
   br ((wrap .i64 (1+a.1))==7) (
   (cq 5 q.2).bind fun r_64=>
   br (!r_64.1) (
   br ((wrap .i64 (1+a.1))==3) (
   (b5 r_64.2).bind fun r_65=>
   (au 3 r_65.2).bind fun r_66=>
   br (decide (0<=r_66.1)) (
   br (decide (r_66.1.toNat<([0,1,r_65.1]:List Int).length)) (
   (([0,1,r_65.1]:List Int)[r_66.1.toNat]?).bind fun x16=>
   br (bj ((l++([(aC.mk (wrap .i64 (1+a.1)) m.1 m.1 x16)]:List aC)).length) 32) (
   some (.inl ((l++([(aC.mk (wrap .i64 (1+a.1)) m.1 m.1 x16)]:List aC)),(wrap .i64 (e+1)),r_66.2.code,r_66.2.at_,r_66.2.seed))) none) none) none) (
   br (bj ((l++([(aC.mk (wrap .i64 (1+a.1)) m.1 m.1 0)]:List aC)).length) 32) (
   some (.inl ((l++([(aC.mk (wrap .i64 (1+a.1)) m.1 m.1 0)]:List aC)),(wrap .i64 (e+1)),r_64.2.code,r_64.2.at_,r_64.2.seed))) none)) (
   br ((wrap .i64 (1+a.1))==3) (
   (b5 r_64.2).bind fun r_67=>
   (au 3 r_67.2).bind fun r_68=>
   br (decide (0<=r_68.1)) (
   br (decide (r_68.1.toNat<([0,1,r_67.1]:List Int).length)) (
   (([0,1,r_67.1]:List Int)[r_68.1.toNat]?).bind fun x17=>
   br (bj ((l++([(aC.mk (wrap .i64 (1+a.1)) m.1 q.1 x17)]:List aC)).length) 32) (
   some (.inl ((l++([(aC.mk (wrap .i64 (1+a.1)) m.1 q.1 x17)]:List aC)),(wrap .i64 (e+1)),r_68.2.code,r_68.2.at_,r_68.2.seed))) none) none) none) (
   br (bj ((l++([(aC.mk (wrap .i64 (1+a.1)) m.1 q.1 0)]:List aC)).length) 32) (
   some (.inl ((l++([(aC.mk (wrap .i64 (1+a.1)) m.1 q.1 0)]:List aC)),(wrap .i64 (e+1)),r_64.2.code,r_64.2.at_,r_64.2.seed))) none))) (
   br ((wrap .i64 (1+a.1))==3) (
   (b5 q.2).bind fun r_69=>
   (au 3 r_69.2).bind fun r_70=>
   br (decide (0<=r_70.1)) (
   br (decide (r_70.1.toNat<([0,1,r_69.1]:List Int).length)) (
   (([0,1,r_69.1]:List Int)[r_70.1.toNat]?).bind fun x18=>
   br (bj ((l++([(aC.mk (wrap .i64 (1+a.1)) m.1 q.1 x18)]:List aC)).length) 32) (
   some (.inl ((l++([(aC.mk (wrap .i64 (1+a.1)) m.1 q.1 x18)]:List aC)),(wrap .i64 (e+1)),r_70.2.code,r_70.2.at_,r_70.2.seed))) none) none) none) (
   br (bj ((l++([(aC.mk (wrap .i64 (1+a.1)) m.1 q.1 0)]:List aC)).length) 32) (
   some (.inl ((l++([(aC.mk (wrap .i64 (1+a.1)) m.1 q.1 0)]:List aC)),(wrap .i64 (e+1)),q.2.code,q.2.at_,q.2.seed))) none))) (
   br (r_61==1) (
   (au e a.2).bind fun r_71=>
   br ((wrap .i64 (1+a.1))==3) (
   (b5 r_71.2).bind fun r_72=>
   (au 3 r_72.2).bind fun r_73=>
   br (decide (0<=r_73.1)) (
   br (decide (r_73.1.toNat<([0,1,r_72.1]:List Int).length)) (
   (([0,1,r_72.1]:List Int)[r_73.1.toNat]?).bind fun x19=>
   br (bj ((l++([(aC.mk (wrap .i64 (1+a.1)) r_71.1 0 x19)]:List aC)).length) 32) (
   some (.inl ((l++([(aC.mk (wrap .i64 (1+a.1)) r_71.1 0 x19)]:List aC)),(wrap .i64 (e+1)),r_73.2.code,r_73.2.at_,r_73.2.seed))) none) none) none) (
   br (bj ((l++([(aC.mk (wrap .i64 (1+a.1)) r_71.1 0 0)]:List aC)).length) 32) (
   some (.inl ((l++([(aC.mk (wrap .i64 (1+a.1)) r_71.1 0 0)]:List aC)),(wrap .i64 (e+1)),r_71.2.code,r_71.2.at_,r_71.2.seed))) none)) (
   br ((wrap .i64 (1+a.1))==3) (
   (b5 a.2).bind fun r_74=>
   (au 3 r_74.2).bind fun r_75=>
   br (decide (0<=r_75.1)) (
   br (decide (r_75.1.toNat<([0,1,r_74.1]:List Int).length)) (
   (([0,1,r_74.1]:List Int)[r_75.1.toNat]?).bind fun x20=>
   br (bj ((l++([(aC.mk (wrap .i64 (1+a.1)) 0 0 x20)]:List aC)).length) 32) (
   some (.inl ((l++([(aC.mk (wrap .i64 (1+a.1)) 0 0 x20)]:List aC)),(wrap .i64 (e+1)),r_75.2.code,r_75.2.at_,r_75.2.seed))) none) none) none) (
   br (bj ((l++([(aC.mk (wrap .i64 (1+a.1)) 0 0 0)]:List aC)).length) 32) (
   some (.inl ((l++([(aC.mk (wrap .i64 (1+a.1)) 0 0 0)]:List aC)),(wrap .i64 (e+1)),a.2.code,a.2.at_,a.2.seed))) none))))) (
   br ((wrap .i64 (1+d.1))==2) (
   (mU (Circuit.mk l) 2).bind fun r_76=>
   br (r_76==3) (
   (jc 1).bind fun r_77=>
   br (r_77==2) (
   (au e f.2).bind fun r_78=>
   (au e r_78.2).bind fun r_79=>
   br (bj ((l++([(aC.mk 1 r_78.1 r_79.1 0)]:List aC)).length) 32) (
   some (.inl ((l++([(aC.mk 1 r_78.1 r_79.1 0)]:List aC)),(wrap .i64 (e+1)),r_79.2.code,r_79.2.at_,r_79.2.seed))) none) (
   br (r_77==1) (
   (au e f.2).bind fun r_80=>
   br (bj ((l++([(aC.mk 1 r_80.1 0 0)]:List aC)).length) 32) (
   some (.inl ((l++([(aC.mk 1 r_80.1 0 0)]:List aC)),(wrap .i64 (e+1)),r_80.2.code,r_80.2.at_,r_80.2.seed))) none) (
   br (bj ((l++([(aC.mk 1 0 0 0)]:List aC)).length) 32) (
   some (.inl ((l++([(aC.mk 1 0 0 0)]:List aC)),(wrap .i64 (e+1)),f.2.code,f.2.at_,f.2.seed))) none))) (
   (jc (wrap .i64 (1+d.1))).bind fun r_81=>
   br (r_81==2) (
   (au e f.2).bind fun h=>
   (au e h.2).bind fun u=>
   br ((wrap .i64 (1+d.1))==7) (
   (cq 5 u.2).bind fun y=>
   br (!y.1) (
   br ((wrap .i64 (1+d.1))==3) (
   (b5 y.2).bind fun r_85=>
   (au 3 r_85.2).bind fun r_86=>
   br (decide (0<=r_86.1)) (
   br (decide (r_86.1.toNat<([0,1,r_85.1]:List Int).length)) (
   (([0,1,r_85.1]:List Int)[r_86.1.toNat]?).bind fun x21=>
   br (bj ((l++([(aC.mk (wrap .i64 (1+d.1)) h.1 h.1 x21)]:List aC)).length) 32) (
   some (.inl ((l++([(aC.mk (wrap .i64 (1+d.1)) h.1 h.1 x21)]:List aC)),(wrap .i64 (e+1)),r_86.2.code,r_86.2.at_,r_86.2.seed))) none) none) none) (
   br (bj ((l++([(aC.mk (wrap .i64 (1+d.1)) h.1 h.1 0)]:List aC)).length) 32) (
   some (.inl ((l++([(aC.mk (wrap .i64 (1+d.1)) h.1 h.1 0)]:List aC)),(wrap .i64 (e+1)),y.2.code,y.2.at_,y.2.seed))) none)) (
   br ((wrap .i64 (1+d.1))==3) (
   (b5 y.2).bind fun r_87=>
   (au 3 r_87.2).bind fun r_88=>
   br (decide (0<=r_88.1)) (
   br (decide (r_88.1.toNat<([0,1,r_87.1]:List Int).length)) (
   (([0,1,r_87.1]:List Int)[r_88.1.toNat]?).bind fun x22=>
   br (bj ((l++([(aC.mk (wrap .i64 (1+d.1)) h.1 u.1 x22)]:List aC)).length) 32) (
   some (.inl ((l++([(aC.mk (wrap .i64 (1+d.1)) h.1 u.1 x22)]:List aC)),(wrap .i64 (e+1)),r_88.2.code,r_88.2.at_,r_88.2.seed))) none) none) none) (
   br (bj ((l++([(aC.mk (wrap .i64 (1+d.1)) h.1 u.1 0)]:List aC)).length) 32) (
   some (.inl ((l++([(aC.mk (wrap .i64 (1+d.1)) h.1 u.1 0)]:List aC)),(wrap .i64 (e+1)),y.2.code,y.2.at_,y.2.seed))) none))) (
   br ((wrap .i64 (1+d.1))==3) (
   (b5 u.2).bind fun r_89=>
   (au 3 r_89.2).bind fun r_90=>
   br (decide (0<=r_90.1)) (
   br (decide (r_90.1.toNat<([0,1,r_89.1]:List Int).length)) (
   (([0,1,r_89.1]:List Int)[r_90.1.toNat]?).bind fun x23=>
   br (bj ((l++([(aC.mk (wrap .i64 (1+d.1)) h.1 u.1 x23)]:List aC)).length) 32) (
   some (.inl ((l++([(aC.mk (wrap .i64 (1+d.1)) h.1 u.1 x23)]:List aC)),(wrap .i64 (e+1)),r_90.2.code,r_90.2.at_,r_90.2.seed))) none) none) none) (
   br (bj ((l++([(aC.mk (wrap .i64 (1+d.1)) h.1 u.1 0)]:List aC)).length) 32) (
   some (.inl ((l++([(aC.mk (wrap .i64 (1+d.1)) h.1 u.1 0)]:List aC)),(wrap .i64 (e+1)),u.2.code,u.2.at_,u.2.seed))) none))) (
   br (r_81==1) (
   (au e f.2).bind fun r_91=>
   br ((wrap .i64 (1+d.1))==3) (
   (b5 r_91.2).bind fun r_92=>
   (au 3 r_92.2).bind fun r_93=>
   br (decide (0<=r_93.1)) (
   br (decide (r_93.1.toNat<([0,1,r_92.1]:List Int).length)) (
   (([0,1,r_92.1]:List Int)[r_93.1.toNat]?).bind fun x24=>
   br (bj ((l++([(aC.mk (wrap .i64 (1+d.1)) r_91.1 0 x24)]:List aC)).length) 32) (
   some (.inl ((l++([(aC.mk (wrap .i64 (1+d.1)) r_91.1 0 x24)]:List aC)),(wrap .i64 (e+1)),r_93.2.code,r_93.2.at_,r_93.2.seed))) none) none) none) (
   br (bj ((l++([(aC.mk (wrap .i64 (1+d.1)) r_91.1 0 0)]:List aC)).length) 32) (
   some (.inl ((l++([(aC.mk (wrap .i64 (1+d.1)) r_91.1 0 0)]:List aC)),(wrap .i64 (e+1)),r_91.2.code,r_91.2.at_,r_91.2.seed))) none)) (
   br ((wrap .i64 (1+d.1))==3) (
   (b5 f.2).bind fun r_94=>
   (au 3 r_94.2).bind fun r_95=>
   br (decide (0<=r_95.1)) (
   br (decide (r_95.1.toNat<([0,1,r_94.1]:List Int).length)) (
   (([0,1,r_94.1]:List Int)[r_95.1.toNat]?).bind fun x25=>
   br (bj ((l++([(aC.mk (wrap .i64 (1+d.1)) 0 0 x25)]:List aC)).length) 32) (
   some (.inl ((l++([(aC.mk (wrap .i64 (1+d.1)) 0 0 x25)]:List aC)),(wrap .i64 (e+1)),r_95.2.code,r_95.2.at_,r_95.2.seed))) none) none) none) (
   br (bj ((l++([(aC.mk (wrap .i64 (1+d.1)) 0 0 0)]:List aC)).length) 32) (
   some (.inl ((l++([(aC.mk (wrap .i64 (1+d.1)) 0 0 0)]:List aC)),(wrap .i64 (e+1)),f.2.code,f.2.at_,f.2.seed))) none))))) (
   (jc (wrap .i64 (1+d.1))).bind fun r_96=>
   br (r_96==2) (
   (au e f.2).bind fun j=>
   (au e j.2).bind fun r=>
   br ((wrap .i64 (1+d.1))==7) (
   (cq 5 r.2).bind fun w=>
   br (!w.1) (
   br ((wrap .i64 (1+d.1))==3) (
   (b5 w.2).bind fun r_100=>
   (au 3 r_100.2).bind fun r_101=>
   br (decide (0<=r_101.1)) (
   br (decide (r_101.1.toNat<([0,1,r_100.1]:List Int).length)) (
   (([0,1,r_100.1]:List Int)[r_101.1.toNat]?).bind fun x26=>
   br (bj ((l++([(aC.mk (wrap .i64 (1+d.1)) j.1 j.1 x26)]:List aC)).length) 32) (
   some (.inl ((l++([(aC.mk (wrap .i64 (1+d.1)) j.1 j.1 x26)]:List aC)),(wrap .i64 (e+1)),r_101.2.code,r_101.2.at_,r_101.2.seed))) none) none) none) (
   br (bj ((l++([(aC.mk (wrap .i64 (1+d.1)) j.1 j.1 0)]:List aC)).length) 32) (
   some (.inl ((l++([(aC.mk (wrap .i64 (1+d.1)) j.1 j.1 0)]:List aC)),(wrap .i64 (e+1)),w.2.code,w.2.at_,w.2.seed))) none)) (
   br ((wrap .i64 (1+d.1))==3) (
   (b5 w.2).bind fun r_102=>
   (au 3 r_102.2).bind fun r_103=>
   br (decide (0<=r_103.1)) (
   br (decide (r_103.1.toNat<([0,1,r_102.1]:List Int).length)) (
   (([0,1,r_102.1]:List Int)[r_103.1.toNat]?).bind fun x27=>
   br (bj ((l++([(aC.mk (wrap .i64 (1+d.1)) j.1 r.1 x27)]:List aC)).length) 32) (
   some (.inl ((l++([(aC.mk (wrap .i64 (1+d.1)) j.1 r.1 x27)]:List aC)),(wrap .i64 (e+1)),r_103.2.code,r_103.2.at_,r_103.2.seed))) none) none) none) (
   br (bj ((l++([(aC.mk (wrap .i64 (1+d.1)) j.1 r.1 0)]:List aC)).length) 32) (
   some (.inl ((l++([(aC.mk (wrap .i64 (1+d.1)) j.1 r.1 0)]:List aC)),(wrap .i64 (e+1)),w.2.code,w.2.at_,w.2.seed))) none))) (
   br ((wrap .i64 (1+d.1))==3) (
   (b5 r.2).bind fun r_104=>
   (au 3 r_104.2).bind fun r_105=>
   br (decide (0<=r_105.1)) (
   br (decide (r_105.1.toNat<([0,1,r_104.1]:List Int).length)) (
   (([0,1,r_104.1]:List Int)[r_105.1.toNat]?).bind fun x28=>
   br (bj ((l++([(aC.mk (wrap .i64 (1+d.1)) j.1 r.1 x28)]:List aC)).length) 32) (
   some (.inl ((l++([(aC.mk (wrap .i64 (1+d.1)) j.1 r.1 x28)]:List aC)),(wrap .i64 (e+1)),r_105.2.code,r_105.2.at_,r_105.2.seed))) none) none) none) (
   br (bj ((l++([(aC.mk (wrap .i64 (1+d.1)) j.1 r.1 0)]:List aC)).length) 32) (
   some (.inl ((l++([(aC.mk (wrap .i64 (1+d.1)) j.1 r.1 0)]:List aC)),(wrap .i64 (e+1)),r.2.code,r.2.at_,r.2.seed))) none))) (
   br (r_96==1) (
   (au e f.2).bind fun v=>
   br ((wrap .i64 (1+d.1))==3) (
   (b5 v.2).bind fun r_107=>
   (au 3 r_107.2).bind fun r_108=>
   br (decide (0<=r_108.1)) (
   br (decide (r_108.1.toNat<([0,1,r_107.1]:List Int).length)) (
   (([0,1,r_107.1]:List Int)[r_108.1.toNat]?).bind fun x29=>
   br (bj ((l++([(aC.mk (wrap .i64 (1+d.1)) v.1 0 x29)]:List aC)).length) 32) (
   some (.inl ((l++([(aC.mk (wrap .i64 (1+d.1)) v.1 0 x29)]:List aC)),(wrap .i64 (e+1)),r_108.2.code,r_108.2.at_,r_108.2.seed))) none) none) none) (
   br (bj ((l++([(aC.mk (wrap .i64 (1+d.1)) v.1 0 0)]:List aC)).length) 32) (
   some (.inl ((l++([(aC.mk (wrap .i64 (1+d.1)) v.1 0 0)]:List aC)),(wrap .i64 (e+1)),v.2.code,v.2.at_,v.2.seed))) none)) (
   br ((wrap .i64 (1+d.1))==3) (
   (b5 f.2).bind fun r_109=>
   (au 3 r_109.2).bind fun r_110=>
   br (decide (0<=r_110.1)) (
   br (decide (r_110.1.toNat<([0,1,r_109.1]:List Int).length)) (
   (([0,1,r_109.1]:List Int)[r_110.1.toNat]?).bind fun x30=>
   br (bj ((l++([(aC.mk (wrap .i64 (1+d.1)) 0 0 x30)]:List aC)).length) 32) (
   some (.inl ((l++([(aC.mk (wrap .i64 (1+d.1)) 0 0 x30)]:List aC)),(wrap .i64 (e+1)),r_110.2.code,r_110.2.at_,r_110.2.seed))) none) none) none) (
   br (bj ((l++([(aC.mk (wrap .i64 (1+d.1)) 0 0 0)]:List aC)).length) 32) (
   some (.inl ((l++([(aC.mk (wrap .i64 (1+d.1)) 0 0 0)]:List aC)),(wrap .i64 (e+1)),f.2.code,f.2.at_,f.2.seed))) none))))))) (
   some (.inr (l,e,decide (e<t),c,c2,c3)))
theorem FQ {t}:LXe tab ow (.close [7001,7004,8004,9001,10005,12002,14002,15002,16005,19002,21001,21002,21004,22003,22004]) ym (jt t) (fun s=>⟨[(0,.ptr 0 0 0 1),(2,.ptr 1000 0 0 1),(3,.ptr 2002 0 0 1),(4,I t),(5,I s.2.1)],[(0,⟨3,true,[[sl eU8 s.2.2.1,I s.2.2.2.1,I s.2.2.2.2]]⟩),(1000,⟨1,true,[[.lit (.slice none 0 0)]]⟩),(2000,⟨4,false,rws en s.1⟩),(2002,⟨1,true,[[.sl 2000 0 s.1.length]]⟩)]⟩) 0 (fun e=>(e.1,e.2.1,e.2.2.2.1,e.2.2.2.2.1,e.2.2.2.2.2)) (fun e=>[(14,B e.2.2.1)]):=by
 refine lrX (fun s o h=> ?_)
 obtain ⟨_,_,_,_,_⟩:=s
 simp only [jt] at h
 simp only [ym,xQ]
 have d1:= @fQ
 have d2:= @E7
 have d3:= @ZA
 have d4:= @is
 have d5:= @nU
 exact go2
def l0 (m:bV):Option (Circuit×bV):=
 (au 9 m).bind fun a=>
 (Loop (jt (wrap .i64 (1+a.1))) (([]:List aC),0,a.2.code,a.2.at_,a.2.seed)).bind fun b=>
 some ((Circuit.mk b.1),(bV.mk b.2.2.2.1 b.2.2.2.2.1 b.2.2.2.2.2))
theorem AT {m r} (h:l0 m=some r):Call tab ow 91 [.ptr 0 0 0 1] [⟨3,true,[[sl eU8 m.code,I m.at_,I m.seed]]⟩]=some (.agg [sl en r.1.Gates],[⟨3,true,[[sl eU8 r.2.code,I r.2.at_,I r.2.seed]]⟩]):=by
 rw [ak (af:=oE) rfl]
 unfold l0 at h
 simp only [oE,u6]
 have d1:= @fQ
 have d2:= @FQ
 exact go2
end
section
@[local go_sem] theorem oh:mkR 2000 []=rws eI []:=rfl
@[local go_sem] theorem a4q:mkR 2001 []=rws eI []:=rfl
@[local go_sem] theorem Km:mkR 6000 []=rws eI []:=rfl
@[local go_sem] theorem a3g:mkR 13007 []=rws eI []:=rfl
def fk (j h:List Int) (i:List aC):(List Int)×Int×(List UInt8)×Int×Int->Option (((List Int)×Int×(List UInt8)×Int×Int)⊕(((List Int)×Int×Bool×(List UInt8)×Int×Int)))
 | (l,k,e,d,f)=>
   br (decide (k>0)) (
   (au 2 (bV.mk e d f)).bind fun c=>
   (cq 5 c.2).bind fun a=>
   br a.1 (
   (b5 a.2).bind fun b=>
   br (bj ((l++([b.1]:List Int)).length) 8) (
   some (.inl ((l++([b.1]:List Int)),(wrap .i64 (k-1)),b.2.code,b.2.at_,b.2.seed))) none) (
   br (bj ((l++([c.1]:List Int)).length) 8) (
   some (.inl ((l++([c.1]:List Int)),(wrap .i64 (k-1)),a.2.code,a.2.at_,a.2.seed))) none)) (
   some (.inr (l,k,decide (k>0),e,d,f)))
theorem Il {a c b}:LXe tab ow (.close [10001,11001,12001,13007,13008]) nh (fk a c b) (fun s=>⟨[(0,.ptr 0 0 0 1),(3,.ptr 1000 0 0 1),(6,.sl 2002 0 2),(7,I 0),(9,I s.2.1)],[(0,⟨3,true,[[sl eU8 s.2.2.1,I s.2.2.2.1,I s.2.2.2.2]]⟩),(1000,⟨1,true,[[sl en b]]⟩),(2000,⟨1,false,rws eI s.1⟩),(2001,⟨1,false,rws eI a⟩),(2002,⟨1,true,[[.sl 2000 0 s.1.length],[.sl 2001 0 a.length]]⟩),(6000,⟨1,false,rws eI c⟩)]⟩) 2 (fun e=>(e.1,e.2.1,e.2.2.2.1,e.2.2.2.2.1,e.2.2.2.2.2)) (fun e=>[(26,B e.2.2.1)]):=by
 refine lrX (fun s o h=> ?_)
 obtain ⟨_,_,_,_,_⟩:=s
 simp only [fk] at h
 simp only [nh,sJ]
 have d1:= @fQ
 have d2:= @is
 have d3:= @nU
 exact go2
def jY (l j:List Int) (k:List aC):(List Int)×Int×(List UInt8)×Int×Int->Option (((List Int)×Int×(List UInt8)×Int×Int)⊕(((List Int)×Int×Bool×(List UInt8)×Int×Int)))
 | (e,d,i,h,f)=>
   br (decide (d>0)) (
   (au 2 (bV.mk i h f)).bind fun c=>
   (cq 5 c.2).bind fun b=>
   br b.1 (
   (b5 b.2).bind fun a=>
   br (bj ((e++([a.1]:List Int)).length) 8) (
   some (.inl ((e++([a.1]:List Int)),(wrap .i64 (d-1)),a.2.code,a.2.at_,a.2.seed))) none) (
   br (bj ((e++([c.1]:List Int)).length) 8) (
   some (.inl ((e++([c.1]:List Int)),(wrap .i64 (d-1)),b.2.code,b.2.at_,b.2.seed))) none)) (
   some (.inr (e,d,decide (d>0),i,h,f)))
theorem Ih {a c b}:LXe tab ow (.close [10001,11001,12001,13007,13008]) nh (jY a c b) (fun s=>⟨[(0,.ptr 0 0 0 1),(3,.ptr 1000 0 0 1),(6,.sl 2002 0 2),(7,I 1),(9,I s.2.1)],[(0,⟨3,true,[[sl eU8 s.2.2.1,I s.2.2.2.1,I s.2.2.2.2]]⟩),(1000,⟨1,true,[[sl en b]]⟩),(2000,⟨1,false,rws eI a⟩),(2001,⟨1,false,rws eI s.1⟩),(2002,⟨1,true,[[.sl 2000 0 a.length],[.sl 2001 0 s.1.length]]⟩),(6000,⟨1,false,rws eI c⟩)]⟩) 2 (fun e=>(e.1,e.2.1,e.2.2.2.1,e.2.2.2.2.1,e.2.2.2.2.2)) (fun e=>[(26,B e.2.2.1)]):=by
 refine lrX (fun s o h=> ?_)
 obtain ⟨_,_,_,_,_⟩:=s
 simp only [jY] at h
 simp only [nh,sJ]
 have d1:= @fQ
 have d2:= @is
 have d3:= @nU
 exact go2
def mf (c:Circuit) (m:bV):Option ((List Int)×(List Int)×bV):=
 (mU c 2).bind fun e=>
 (Loop (fk ([]:List Int) ([2,1]:List Int) c.Gates) (([]:List Int),e,m.code,m.at_,m.seed)).bind fun b=>
 (mU c 1).bind fun d=>
 (Loop (jY b.1 ([2,1]:List Int) c.Gates) (([]:List Int),d,b.2.2.2.1,b.2.2.2.2.1,b.2.2.2.2.2)).bind fun a=>
 some (b.1,a.1,(bV.mk a.2.2.2.1 a.2.2.2.2.1 a.2.2.2.2.2))
theorem Bk {c m r} (h:mf c m=some r):Call tab ow 92 [.ptr 0 0 0 1,.agg [sl en c.Gates]] [⟨3,true,[[sl eU8 m.code,I m.at_,I m.seed]]⟩]=some (.tup [sl eI r.1,sl eI r.2.1],[⟨3,true,[[sl eU8 r.2.2.code,I r.2.2.at_,I r.2.2.seed]]⟩]):=by
 rw [ak (af:=qf) rfl]
 unfold mf at h
 simp+decide only [qf,pP,go_sem,reduceIte,Nat.reduceAdd,Int.reduceAdd,Int.reduceMul,Int.reduceSub]
 refine fV ?_
 simp+decide only [mkL,go_sem,reduceIte,Nat.reduceAdd,Int.reduceAdd,Int.reduceMul,Int.reduceSub]
 obtain ⟨r_,h1,h⟩:=bd h
 refine dq (E7 h1) ?_
 simp+decide only [go_sem,reduceIte,Nat.reduceAdd,Int.reduceAdd,Int.reduceMul,Int.reduceSub]
 obtain ⟨e_,h1,h⟩:=bd h
 refine Em (lxE Il h1) ?_
 simp+decide only [go_sem,reduceIte,Nat.reduceAdd,Int.reduceAdd,Int.reduceMul,Int.reduceSub]
 refine fV ?_
 simp+decide only [mkL,go_sem,reduceIte,Nat.reduceAdd,Int.reduceAdd,Int.reduceMul,Int.reduceSub]
 obtain ⟨r_5,h1,h⟩:=bd h
 refine dq (E7 h1) ?_
 simp+decide only [go_sem,reduceIte,Nat.reduceAdd,Int.reduceAdd,Int.reduceMul,Int.reduceSub]
 obtain ⟨e_2,h1,h⟩:=bd h
 refine Em (lxE Ih h1) ?_
 simp+decide only [go_sem,reduceIte,Nat.reduceAdd,Int.reduceAdd,Int.reduceMul,Int.reduceSub]
 refine fV ?_
 simp+decide only [mkL,go_sem,reduceIte,Nat.reduceAdd,Int.reduceAdd,Int.reduceMul,Int.reduceSub]
 obtain rfl:=cS h
 first|rfl| (simp only [aO,go_sem];done)
end
def GQ (a b:Int):Option Int:=
 some ((wrap .i64 (a+b)).tmod 2130706433)
theorem a37 {a b r} (h:GQ a b=some r):Call tab ow 243 [I a,I b] []=some (I r,[]):=by
 rw [ak (af:=Ei) rfl]
 unfold GQ at h
 simp only [Ei,SO]
 exact go2
def FW (a b:Int):Option Int:=
 some ((wrap .i64 ((wrap .i64 (a+2130706433))-b)).tmod 2130706433)
theorem a1S {a b r} (h:FW a b=some r):Call tab ow 244 [I a,I b] []=some (I r,[]):=by
 rw [ak (af:=Ep) rfl]
 unfold FW at h
 simp only [Ep,Sj]
 exact go2
def Ga (a b:Int):Option Int:=
 some ((wrap .i64 (a*b)).tmod 2130706433)
theorem a42 {a b r} (h:Ga a b=some r):Call tab ow 245 [I a,I b] []=some (I r,[]):=by
 rw [ak (af:=Es) rfl]
 unfold Ga at h
 simp only [Es,RY]
 exact go2
section
attribute [local go_sem] oh
@[local go_sem] theorem c0j:mkR 26002 []=rws eI []:=rfl
def rP (t n:List Int) (c:List aC):(List Int)×Int×Int×Int->Option (((List Int)×Int×Int×Int)⊕(((List Int)×Int×Int×Int×Bool)))
 | (l,d,b,a)=>
   br (decide (a<(c.length:Int))) (
   (atL c a).bind fun x=>
   br (x.Op==1) (
   (atL n b).bind fun i=>
   br (bj ((l++([i]:List Int)).length) 8) (
   some (.inl ((l++([i]:List Int)),d,(wrap .i64 (b+1)),(wrap .i64 (a+1))))) none) (
   br (x.Op==2) (
   (atL t d).bind fun k=>
   br (bj ((l++([k]:List Int)).length) 8) (
   some (.inl ((l++([k]:List Int)),(wrap .i64 (d+1)),b,(wrap .i64 (a+1))))) none) (
   br (x.Op==3) (
   br (bj ((l++([x.K]:List Int)).length) 8) (
   some (.inl ((l++([x.K]:List Int)),d,b,(wrap .i64 (a+1))))) none) (
   br (x.Op==4) (
   br (decide (0<=x.A)) (
   br (decide (x.A.toNat<l.length)) (
   (l[x.A.toNat]?).bind fun r=>
   br (decide (0<=x.B)) (
   br (decide (x.B.toNat<l.length)) (
   (l[x.B.toNat]?).bind fun p=>
   (GQ r p).bind fun j=>
   br (bj ((l++([j]:List Int)).length) 8) (
   some (.inl ((l++([j]:List Int)),d,b,(wrap .i64 (a+1))))) none) none) none) none) none) (
   br (x.Op==5) (
   br (decide (0<=x.A)) (
   br (decide (x.A.toNat<l.length)) (
   (l[x.A.toNat]?).bind fun m=>
   br (decide (0<=x.B)) (
   br (decide (x.B.toNat<l.length)) (
   (l[x.B.toNat]?).bind fun s=>
   (FW m s).bind fun e=>
   br (bj ((l++([e]:List Int)).length) 8) (
   some (.inl ((l++([e]:List Int)),d,b,(wrap .i64 (a+1))))) none) none) none) none) none) (
   br (x.Op==6) (
   br (decide (0<=x.A)) (
   br (decide (x.A.toNat<l.length)) (
   (l[x.A.toNat]?).bind fun q=>
   br (decide (0<=x.B)) (
   br (decide (x.B.toNat<l.length)) (
   (l[x.B.toNat]?).bind fun o=>
   (Ga q o).bind fun h=>
   br (bj ((l++([h]:List Int)).length) 8) (
   some (.inl ((l++([h]:List Int)),d,b,(wrap .i64 (a+1))))) none) none) none) none) none) (
   br (decide (0<=x.A)) (
   br (decide (x.A.toNat<l.length)) (
   (l[x.A.toNat]?).bind fun f=>
   br (bj ((l++([f]:List Int)).length) 8) (
   some (.inl ((l++([f]:List Int)),d,b,(wrap .i64 (a+1))))) none) none) none))))))) (
   some (.inr (l,d,b,a,decide (a<(c.length:Int)))))
theorem Wo {t a c}:LXe tab ow (.close [8005,21010,23010,25010,26002,26003]) Ly (rP t a c) (fun s=>⟨[(1,sl eI t),(2,sl eI a),(3,.ptr 1000 0 0 1),(7,.sl 2000 0 s.1.length),(8,I s.2.1),(9,I s.2.2.1),(10,I s.2.2.2)],[(1000,⟨1,true,[[sl en c]]⟩),(2000,⟨1,false,rws eI s.1⟩)]⟩) 0 (fun e=>(e.1,e.2.1,e.2.2.1,e.2.2.2.1)) (fun e=>[(18,B e.2.2.2.2)]):=by
 refine lrX (fun s o h=> ?_)
 obtain ⟨_,_,_,_⟩:=s
 simp only [rP] at h
 simp only [Ly,Mw]
 have d1:= @a37
 have d2:= @a1S
 have d3:= @a42
 exact go2
def GR (b:Circuit) (a c:List Int):Option (List Int):=
 (Loop (rP a c b.Gates) (([]:List Int),0,0,0)).bind fun d=>
 some d.1
theorem a32 {b a c r} (h:GR b a c=some r):Call tab ow 125 [.agg [sl en b.Gates],sl eI a,sl eI c] []=some (sl eI r,[]):=by
 rw [ak (af:=Dx) rfl]
 unfold GR at h
 simp only [Dx,K2]
 have d1:= @Wo
 exact go2
end
end
end Go.AI.Fn
set_option linter.unusedVariables false
set_option linter.unusedSimpArgs false
set_option maxRecDepth 100000
set_option maxHeartbeats 1000000
namespace Go.AI.Fn
noncomputable section
open IntKind (wrap)
def jj (a:List Int) (b:List aC):Int->Option ((Int)⊕((Int×Int×Int×Int)⊕(Int×Bool)))
 |k=>
  br (decide (k<(b.length:Int))) (
  (atL b k).bind fun x=>
  br (x.Op==7) (
  (atL a x.A).bind fun c=>
  (atL a x.B).bind fun f=>
  br (c !=f) (
  some (.inr (.inl (x.Op,x.A,x.B,x.K)))) (
  br (x.Op==8) (
  (atL a x.A).bind fun e=>
  br (decide (e>1)) (
  some (.inr (.inl (x.Op,x.A,x.B,x.K)))) (
  some (.inl (wrap .i64 (k+1))))) (
  some (.inl (wrap .i64 (k+1)))))) (
  br (x.Op==8) (
  (atL a x.A).bind fun d=>
  br (decide (d>1)) (
  some (.inr (.inl (x.Op,x.A,x.B,x.K)))) (
  some (.inl (wrap .i64 (k+1))))) (
  some (.inl (wrap .i64 (k+1)))))) (
  some (.inr (.inr (k,decide (k<(b.length:Int))))))
theorem Ul {b a}:LX tab ow (.close [5005]) IR (jj b a) (fun s=>⟨[(1,sl eI b),(2,.ptr 1000 0 0 1),(5,I s)],[(1000,⟨1,true,[[sl en a]]⟩)]⟩) (alt (fun e=>((.ret,⟨[(4,B false)],[(1000,⟨1,true,[[sl en a]]⟩),(5005,⟨4,true,[[I e.1,I e.2.1,I e.2.2.1,I e.2.2.2]]⟩)]⟩):dd×St)) (fun e=>(.exit 0,⟨[(1,sl eI b),(2,.ptr 1000 0 0 1),(5,I e.1),(11,B e.2)],[(1000,⟨1,true,[[sl en a]]⟩)]⟩))):=by
 refine lrX (fun s o h=> ?_)
 simp only [jj] at h
 simp only [IR,IW]
 exact go2
def Di (c:Circuit) (v:List Int):Option Bool:=
 (Loop (jj v c.Gates) 0).bind (alt (fun b=>
 some false) (fun a=>
 some true))
theorem ZH {c v r} (h:Di c v=some r):Call tab ow 126 [.agg [sl en c.Gates],sl eI v] []=some (B r,[]):=by
 rw [ak (af:=BN) rfl]
 unfold Di at h
 simp only [BN,GY]
 have d1:= @Ul
 exact go2
def kU (m:bV):Option (Setting×bV):=
 (au 2 m).bind fun c=>
 (au 3 c.2).bind fun a=>
 (au 3 a.2).bind fun b=>
 some ((Setting.mk (wrap .i64 (1+c.1)) (wrap .i64 (1+a.1)) b.1),b.2)
theorem JJ {m r} (h:kU m=some r):Call tab ow 93 [.ptr 0 0 0 1] [⟨3,true,[[sl eU8 m.code,I m.at_,I m.seed]]⟩]=some (.agg [I r.1.Rate,I r.1.Queries,I r.1.Grind],[⟨3,true,[[sl eU8 r.2.code,I r.2.at_,I r.2.seed]]⟩]):=by
 rw [ak (af:=oM) rfl]
 unfold kU at h
 simp only [oM,B0]
 have d1:= @fQ
 exact go2
def mR (a:(List (List UInt8))) (m:bV):Option ((List UInt8)×bV):=
 br ((a.length:Int)==0) (
 some ((([]:List UInt8)),m)) (
 (au (a.length:Int) m).bind fun b=>
 (atL a b.1).bind fun x=>
 some (x,b.2))
theorem yM {a m r} (h:mR a m=some r):Call tab ow 190 [.ptr 0 0 0 1,sl eS a] [⟨3,true,[[sl eU8 m.code,I m.at_,I m.seed]]⟩]=some (S r.1,[⟨3,true,[[sl eU8 r.2.code,I r.2.at_,I r.2.seed]]⟩]):=by
 rw [ak (af:=tX) rfl]
 unfold mR at h
 simp only [tX,Fl]
 have d1:= @fQ
 exact go2
def nI (m:List Int) (b:List UInt8):(List Int)×Int->Option (((List Int)×Int)⊕(((List Int)×Int×Bool)))
 | (a,i)=>
   br (decide (i<(b.length:Int))) (
   br (decide (0<=(wrap .i64 (i.tdiv 8)))&&decide ((wrap .i64 (i.tdiv 8)).toNat<25)) (
   (a[(wrap .i64 (i.tdiv 8)).toNat]?).bind fun x=>
   (atL b i).bind fun c=>
   br (decide (0<=(wrap .u64 (wrap .i64 (8*(i.tmod 8)))))) (
   br (decide (0<=(wrap .i64 (i.tdiv 8)))&&decide ((wrap .i64 (i.tdiv 8)).toNat<25)) (
   br (decide ((wrap .i64 (i.tdiv 8)).toNat<a.length)) (
   some (.inl ((a.set ((wrap .i64 (i.tdiv 8)).toNat) (Cp .u64 x (ct .u64 (wrap .u64 (c.toNat:Int)) (wrap .u64 (wrap .i64 (8*(i.tmod 8))))))),(wrap .i64 (i+1))))) none) none) none) none) (
   some (.inr (a,i,decide (i<(b.length:Int)))))
theorem QE {m a}:LXe tab ow (.close []) B1 (nI m a) (fun s=>⟨[(0,S a),(2,.ptr 1000 0 0 1),(3,.ptr 2001 0 0 1),(4,I s.2)],[(1000,⟨25,true,[ar .u64 m]⟩),(2001,⟨25,true,[ar .u64 s.1]⟩)]⟩) 0 (fun e=>(e.1,e.2.1)) (fun e=>[(9,B e.2.2)]):=by
 refine lrX (fun s o h=> ?_)
 obtain ⟨_,_⟩:=s
 simp only [nI] at h
 simp only [B1]
 exact go2
def AB (t:List UInt8):Option (List Int):=
 (Loop (nI (nZ 25) t) ((nZ 25),0)).bind fun a=>
 br (decide (a.1.length=25)) (
 br (decide (a.1.length=25)) (
 br (decide (a.1.length=25)) (
 some a.1) none) none) none
theorem Wk {t r} (h:AB t=some r):Call tab ow 321 [S t] []=some (.agg (ar .u64 r),[]):=by
 rw [ak (af:=zK) rfl]
 unfold AB at h
 simp only [zK,M4]
 have d1:= @QE
 exact go2
def FK:Option (List Int):=
 some ([1,32898,9223372036854808714,9223372039002292224,32907,2147483649,9223372039002292353,9223372036854808585,138,136,2147516425,2147483658,2147516555,9223372036854775947,9223372036854808713,9223372036854808579,9223372036854808578,9223372036854775936,32778,9223372039002259466,9223372039002292353,9223372036854808704,2147483649,9223372039002292232]:List Int)
theorem TP {r} (h:FK=some r):Call tab ow 365 [] []=some (.agg (ar .u64 r),[]):=by
 rw [ak (af:=xw) rfl]
 unfold FK at h
 simp only [xw,J1]
 exact go2
def FO:Option (List Int):=
 some ([0,1,62,28,27,36,44,6,55,20,3,10,43,25,39,41,45,15,21,8,18,2,61,56,14]:List Int)
theorem Uc {r} (h:FO=some r):Call tab ow 366 [] []=some (.agg (ar .u64 r),[]):=by
 rw [ak (af:=xD) rfl]
 unfold FO at h
 simp only [xD,IN]
 exact go2
def zO (x n:Int):Option Int:=
 br (n==0) (
 some x) (
 br (decide (0<=n)) (
 br (decide (0<=(wrap .u64 (64-n)))) (
 some (Cp .u64 (ct .u64 x n) (cc .u64 x (wrap .u64 (64-n))))) none) none)
theorem Oo {x n r} (h:zO x n=some r):Call tab ow 367 [.lit (.int .u64 x),.lit (.int .u64 n)] []=some (.lit (.int .u64 r),[]):=by
 rw [ak (af:=BI) rfl]
 unfold zO at h
 simp only [BI,OH]
 exact go2
def kY (b k j l:List Int) (i:Int):(List Int)×Int->Option (((List Int)×Int)⊕(((List Int)×Int×Bool)))
 | (c,a)=>
   br (decide (a<5)) (
   br (decide (0<=a)&&decide (a.toNat<25)) (
   (b[a.toNat]?).bind fun x=>
   br (decide (0<=(wrap .i64 (a+5)))&&decide ((wrap .i64 (a+5)).toNat<25)) (
   (b[(wrap .i64 (a+5)).toNat]?).bind fun d=>
   br (decide (0<=(wrap .i64 (a+10)))&&decide ((wrap .i64 (a+10)).toNat<25)) (
   (b[(wrap .i64 (a+10)).toNat]?).bind fun h=>
   br (decide (0<=(wrap .i64 (a+15)))&&decide ((wrap .i64 (a+15)).toNat<25)) (
   (b[(wrap .i64 (a+15)).toNat]?).bind fun f=>
   br (decide (0<=(wrap .i64 (a+20)))&&decide ((wrap .i64 (a+20)).toNat<25)) (
   (b[(wrap .i64 (a+20)).toNat]?).bind fun e=>
   br (decide (0<=a)&&decide (a.toNat<5)) (
   br (decide (a.toNat<c.length)) (
   some (.inl ((c.set a.toNat (sA .u64 (sA .u64 (sA .u64 (sA .u64 x d) h) f) e)),(wrap .i64 (a+1))))) none) none) none) none) none) none) none) (
   some (.inr (c,a,decide (a<5))))
theorem NZ {f c b d a}:LXe tab ow (.close []) wQ (kY f c b d a) (fun s=>⟨[(1,.ptr 1000 0 0 1),(2,.ptr 1001 0 0 1),(3,.ptr 2001 0 0 1),(4,.ptr 3001 0 0 1),(5,I a),(6,.ptr 7001 0 0 1),(7,I s.2)],[(1000,⟨25,true,[ar .u64 f]⟩),(1001,⟨25,true,[ar .u64 c]⟩),(2001,⟨24,true,[ar .u64 b]⟩),(3001,⟨25,true,[ar .u64 d]⟩),(7001,⟨5,true,[ar .u64 s.1]⟩)]⟩) 2 (fun e=>(e.1,e.2.1)) (fun e=>[(22,B e.2.2)]):=by
 refine lrX (fun s o h=> ?_)
 obtain ⟨_,_⟩:=s
 simp only [kY] at h
 simp only [wQ]
 exact go2
def kK (f k h c:List Int) (l:Int):(List Int)×Int->Option (((List Int)×Int)⊕(((List Int)×Int×Bool)))
 | (b,a)=>
   br (decide (a<25)) (
   br (decide (0<=a)&&decide (a.toNat<25)) (
   (b[a.toNat]?).bind fun e=>
   br (decide (0<=((wrap .i64 (a+4)).tmod 5))&&decide (((wrap .i64 (a+4)).tmod 5).toNat<5)) (
   (c[((wrap .i64 (a+4)).tmod 5).toNat]?).bind fun j=>
   br (decide (0<=((wrap .i64 (a+1)).tmod 5))&&decide (((wrap .i64 (a+1)).tmod 5).toNat<5)) (
   (c[((wrap .i64 (a+1)).tmod 5).toNat]?).bind fun i=>
   (zO i 1).bind fun d=>
   br (decide (0<=a)&&decide (a.toNat<25)) (
   br (decide (a.toNat<b.length)) (
   some (.inl ((b.set a.toNat (sA .u64 e (sA .u64 j d))),(wrap .i64 (a+1))))) none) none) none) none) none) (
   some (.inr (b,a,decide (a<25))))
theorem ML {a d b c f}:LXe tab ow (.close [15013]) vM (kK a d b c f) (fun s=>⟨[(1,.ptr 1000 0 0 1),(2,.ptr 1001 0 0 1),(3,.ptr 2001 0 0 1),(4,.ptr 3001 0 0 1),(5,I f),(6,.ptr 7001 0 0 1),(8,I s.2)],[(1000,⟨25,true,[ar .u64 s.1]⟩),(1001,⟨25,true,[ar .u64 a]⟩),(2001,⟨24,true,[ar .u64 d]⟩),(3001,⟨25,true,[ar .u64 b]⟩),(7001,⟨5,true,[ar .u64 c]⟩)]⟩) 4 (fun e=>(e.1,e.2.1)) (fun e=>[(51,B e.2.2)]):=by
 refine lrX (fun s o h=> ?_)
 obtain ⟨_,_⟩:=s
 simp only [kK] at h
 simp only [vM]
 have d1:= @Oo
 exact go2
def kL (d k l f j:List Int) (m b:Int):(List Int)×Int->Option (((List Int)×Int)⊕(((List Int)×Int×Bool)))
 | (c,a)=>
   br (decide (a<5)) (
   br (decide (0<=(wrap .i64 (b+(wrap .i64 (5*a)))))&&decide ((wrap .i64 (b+(wrap .i64 (5*a)))).toNat<25)) (
   (d[(wrap .i64 (b+(wrap .i64 (5*a)))).toNat]?).bind fun i=>
   br (decide (0<=(wrap .i64 (b+(wrap .i64 (5*a)))))&&decide ((wrap .i64 (b+(wrap .i64 (5*a)))).toNat<25)) (
   (f[(wrap .i64 (b+(wrap .i64 (5*a)))).toNat]?).bind fun h=>
   (zO i h).bind fun e=>
   br (decide (0<=(wrap .i64 (a+(wrap .i64 (5*((wrap .i64 ((wrap .i64 (2*b))+(wrap .i64 (3*a)))).tmod 5))))))&&decide ((wrap .i64 (a+(wrap .i64 (5*((wrap .i64 ((wrap .i64 (2*b))+(wrap .i64 (3*a)))).tmod 5))))).toNat<25)) (
   br (decide ((wrap .i64 (a+(wrap .i64 (5*((wrap .i64 ((wrap .i64 (2*b))+(wrap .i64 (3*a)))).tmod 5))))).toNat<c.length)) (
   some (.inl ((c.set ((wrap .i64 (a+(wrap .i64 (5*((wrap .i64 ((wrap .i64 (2*b))+(wrap .i64 (3*a)))).tmod 5))))).toNat) e),(wrap .i64 (a+1))))) none) none) none) none) (
   some (.inr (c,a,decide (a<5))))
theorem MU {a b f c d j i}:LXe tab ow (.close [23021]) vF (kL a b f c d j i) (fun s=>⟨[(1,.ptr 1000 0 0 1),(2,.ptr 1001 0 0 1),(3,.ptr 2001 0 0 1),(4,.ptr 3001 0 0 1),(5,I j),(9,.ptr 16001 0 0 1),(10,I i),(11,I s.2)],[(1000,⟨25,true,[ar .u64 a]⟩),(1001,⟨25,true,[ar .u64 b]⟩),(2001,⟨24,true,[ar .u64 f]⟩),(3001,⟨25,true,[ar .u64 c]⟩),(7001,⟨5,true,[ar .u64 d]⟩),(16001,⟨25,true,[ar .u64 s.1]⟩)]⟩) 8 (fun e=>(e.1,e.2.1)) (fun e=>[(77,B e.2.2)]):=by
 refine lrX (fun s o h=> ?_)
 obtain ⟨_,_⟩:=s
 simp only [kL] at h
 simp only [vF]
 have d1:= @Oo
 exact go2
def kV (f c e i d:List Int) (j:Int):(List Int)×Int->Option (((List Int)×Int)⊕(((List Int)×Int×Bool)))
 | (a,b)=>
   br (decide (b<5)) (
   (Loop (kL f c e i d j b) (a,0)).bind fun h=>
   some (.inl (h.1,(wrap .i64 (b+1))))) (
   some (.inr (a,b,decide (b<5))))
theorem NT {d a c f b i}:LXe tab ow (.close [23021]) vU (kV d a c f b i) (fun s=>⟨[(1,.ptr 1000 0 0 1),(2,.ptr 1001 0 0 1),(3,.ptr 2001 0 0 1),(4,.ptr 3001 0 0 1),(5,I i),(9,.ptr 16001 0 0 1),(10,I s.2)],[(1000,⟨25,true,[ar .u64 d]⟩),(1001,⟨25,true,[ar .u64 a]⟩),(2001,⟨24,true,[ar .u64 c]⟩),(3001,⟨25,true,[ar .u64 f]⟩),(7001,⟨5,true,[ar .u64 b]⟩),(16001,⟨25,true,[ar .u64 s.1]⟩)]⟩) 6 (fun e=>(e.1,e.2.1)) (fun e=>[(73,B e.2.2)]):=by
 refine lrX (fun s o h=> ?_)
 obtain ⟨_,_⟩:=s
 simp only [kV] at h
 simp only [vU]
 have d1:= @MU
 exact go2
def kX (i l k j d:List Int) (m b:Int):(List Int)×Int->Option (((List Int)×Int)⊕(((List Int)×Int×Bool)))
 | (c,a)=>
   br (decide (a<5)) (
   br (decide (0<=(wrap .i64 (b+(wrap .i64 (5*a)))))&&decide ((wrap .i64 (b+(wrap .i64 (5*a)))).toNat<25)) (
   (d[(wrap .i64 (b+(wrap .i64 (5*a)))).toNat]?).bind fun f=>
   br (decide (0<=(wrap .i64 (((wrap .i64 (b+1)).tmod 5)+(wrap .i64 (5*a)))))&&decide ((wrap .i64 (((wrap .i64 (b+1)).tmod 5)+(wrap .i64 (5*a)))).toNat<25)) (
   (d[(wrap .i64 (((wrap .i64 (b+1)).tmod 5)+(wrap .i64 (5*a)))).toNat]?).bind fun e=>
   br (decide (0<=(wrap .i64 (((wrap .i64 (b+2)).tmod 5)+(wrap .i64 (5*a)))))&&decide ((wrap .i64 (((wrap .i64 (b+2)).tmod 5)+(wrap .i64 (5*a)))).toNat<25)) (
   (d[(wrap .i64 (((wrap .i64 (b+2)).tmod 5)+(wrap .i64 (5*a)))).toNat]?).bind fun h=>
   br (decide (0<=(wrap .i64 (b+(wrap .i64 (5*a)))))&&decide ((wrap .i64 (b+(wrap .i64 (5*a)))).toNat<25)) (
   br (decide ((wrap .i64 (b+(wrap .i64 (5*a)))).toNat<c.length)) (
   some (.inl ((c.set ((wrap .i64 (b+(wrap .i64 (5*a)))).toNat) (sA .u64 f (de .u64 (dT .u64 e) h))),(wrap .i64 (a+1))))) none) none) none) none) none) (
   some (.inr (c,a,decide (a<5))))
theorem Nh {b i f d c j a}:LXe tab ow (.close []) vO (kX b i f d c j a) (fun s=>⟨[(1,.ptr 1000 0 0 1),(2,.ptr 1001 0 0 1),(3,.ptr 2001 0 0 1),(4,.ptr 3001 0 0 1),(5,I j),(9,.ptr 16001 0 0 1),(12,I a),(13,I s.2)],[(1000,⟨25,true,[ar .u64 s.1]⟩),(1001,⟨25,true,[ar .u64 b]⟩),(2001,⟨24,true,[ar .u64 i]⟩),(3001,⟨25,true,[ar .u64 f]⟩),(7001,⟨5,true,[ar .u64 d]⟩),(16001,⟨25,true,[ar .u64 c]⟩)]⟩) 12 (fun e=>(e.1,e.2.1)) (fun e=>[(108,B e.2.2)]):=by
 refine lrX (fun s o h=> ?_)
 obtain ⟨_,_⟩:=s
 simp only [kX] at h
 simp only [vO]
 exact go2
def kP (e f c h i:List Int) (j:Int):(List Int)×Int->Option (((List Int)×Int)⊕(((List Int)×Int×Bool)))
 | (b,a)=>
   br (decide (a<5)) (
   (Loop (kX e f c h i j a) (b,0)).bind fun d=>
   some (.inl (d.1,(wrap .i64 (a+1))))) (
   some (.inr (b,a,decide (a<5))))
theorem NN {b c a d f i}:LXe tab ow (.close []) vm (kP b c a d f i) (fun s=>⟨[(1,.ptr 1000 0 0 1),(2,.ptr 1001 0 0 1),(3,.ptr 2001 0 0 1),(4,.ptr 3001 0 0 1),(5,I i),(9,.ptr 16001 0 0 1),(12,I s.2)],[(1000,⟨25,true,[ar .u64 s.1]⟩),(1001,⟨25,true,[ar .u64 b]⟩),(2001,⟨24,true,[ar .u64 c]⟩),(3001,⟨25,true,[ar .u64 a]⟩),(7001,⟨5,true,[ar .u64 d]⟩),(16001,⟨25,true,[ar .u64 f]⟩)]⟩) 10 (fun e=>(e.1,e.2.1)) (fun e=>[(104,B e.2.2)]):=by
 refine lrX (fun s o h=> ?_)
 obtain ⟨_,_⟩:=s
 simp only [kP] at h
 simp only [vm]
 have d1:= @Nh
 exact go2
def kS (d b e:List Int):(List Int)×Int->Option (((List Int)×Int)⊕(((List Int)×Int×Bool)))
 | (m,t)=>
   br (decide (t<24)) (
   (Loop (kY m d b e t) ((nZ 5),0)).bind fun f=>
   (Loop (kK d b e f.1 t) (m,0)).bind fun c=>
   (Loop (kV c.1 d b e f.1 t) ((nZ 25),0)).bind fun i=>
   (Loop (kP d b e f.1 i.1 t) (c.1,0)).bind fun a=>
   (a.1[0]?).bind fun h=>
   br (decide (0<=t)&&decide (t.toNat<24)) (
   (b[t.toNat]?).bind fun j=>
   br (decide (0<a.1.length)) (
   some (.inl ((a.1.set 0 (sA .u64 h j)),(wrap .i64 (t+1))))) none) none) (
   some (.inr (m,t,decide (t<24))))
theorem MI {a c b}:LXe tab ow (.close [7001,15013,16001,23021]) wH (kS a c b) (fun s=>⟨[(1,.ptr 1000 0 0 1),(2,.ptr 1001 0 0 1),(3,.ptr 2001 0 0 1),(4,.ptr 3001 0 0 1),(5,I s.2)],[(1000,⟨25,true,[ar .u64 s.1]⟩),(1001,⟨25,true,[ar .u64 a]⟩),(2001,⟨24,true,[ar .u64 c]⟩),(3001,⟨25,true,[ar .u64 b]⟩)]⟩) 0 (fun e=>(e.1,e.2.1)) (fun e=>[(17,B e.2.2)]):=by
 refine lrX (fun s o h=> ?_)
 obtain ⟨_,_⟩:=s
 simp only [kS] at h
 simp only [wH]
 have d1:= @NZ
 have d2:= @ML
 have d3:= @NT
 have d4:= @NN
 exact go2
def vH (a:List Int):Option (List Int):=
 br (decide (a.length=25)) (
 (FK).bind fun d=>
 br (decide (d.length=24)) (
 (FO).bind fun c=>
 br (decide (c.length=25)) (
 (Loop (kS (nZ 25) d c) (a,0)).bind fun b=>
 br (decide (b.1.length=25)) (
 br (decide (b.1.length=25)) (
 br (decide (b.1.length=25)) (
 some b.1) none) none) none) none) none) none
theorem Rg {a r} (h:vH a=some r):Call tab ow 322 [.agg (ar .u64 a)] []=some (.agg (ar .u64 r),[]):=by
 rw [ak (af:=vv) rfl]
 unfold vH at h
 simp only [vv,Gu]
 have d1:= @TP
 have d2:= @Uc
 have d3:= @MI
 exact go2
section
@[local go_sem] theorem rM:mkR 2000 []=rws eU8 []:=rfl
@[local go_sem] theorem b5U:mkR 6011 []=rws eU8 []:=rfl
def pj (m:List Int) (a:Int):(List UInt8)×Int->Option (((List UInt8)×Int)⊕(((List UInt8)×Int×Bool)))
 | (l,i)=>
   br (decide (i<a)) (
   br (decide (0<=(wrap .i64 (i.tdiv 8)))&&decide ((wrap .i64 (i.tdiv 8)).toNat<25)) (
   (m[(wrap .i64 (i.tdiv 8)).toNat]?).bind fun x=>
   br (decide (0<=(wrap .u64 (wrap .i64 (8*(i.tmod 8)))))) (
   br (bj ((l++([(UInt8.ofInt (cc .u64 x (wrap .u64 (wrap .i64 (8*(i.tmod 8))))))]:List UInt8)).length) 1) (
   some (.inl ((l++([(UInt8.ofInt (cc .u64 x (wrap .u64 (wrap .i64 (8*(i.tmod 8))))))]:List UInt8)),(wrap .i64 (i+1))))) none) none) none) (
   some (.inr (l,i,decide (i<a))))
theorem Uk {m a}:LXe tab ow (.close [6011,6012]) IU (pj m a) (fun s=>⟨[(1,I a),(2,.ptr 1000 0 0 1),(5,.sl 2000 0 s.1.length),(6,I s.2)],[(1000,⟨25,true,[ar .u64 m]⟩),(2000,⟨1,false,rws eU8 s.1⟩)]⟩) 0 (fun e=>(e.1,e.2.1)) (fun e=>[(10,B e.2.2)]):=by
 refine lrX (fun s o h=> ?_)
 obtain ⟨_,_⟩:=s
 simp only [pj] at h
 simp only [IU,Jr]
 exact go2
def Dk (a:List Int) (n:Int):Option (List UInt8):=
 br (decide (a.length=25)) (
 (Loop (pj a n) (([]:List UInt8),0)).bind fun b=>
 some b.1) none
theorem Zp {a n r} (h:Dk a n=some r):Call tab ow 323 [.agg (ar .u64 a),I n] []=some (S r,[]):=by
 rw [ak (af:=Bd) rfl]
 unfold Dk at h
 simp only [Bd,Hc]
 have d1:= @Uk
 exact go2
end
section
@[local go_sem] theorem b9i:mkR 2002 []=rws eU8 []:=rfl
@[local go_sem] theorem b9q:mkR 4001 []=rws eU8 []:=rfl
def mY (a:List UInt8):(List UInt8)->Option (((List UInt8))⊕(((List UInt8)×Bool)))
 |l=>
  br (((l.length:Int).tmod 136) !=0) (
  br (bj ((l++([(0:UInt8)]:List UInt8)).length) 1) (
  some (.inl (l++([(0:UInt8)]:List UInt8)))) none) (
  some (.inr (l,(((l.length:Int).tmod 136) !=0))))
theorem TD {a}:LXe tab ow (.close [4001,4002]) CE (mY a) (fun s=>⟨[(3,.sl 2001 0 s.length)],[(2001,⟨1,false,rws eU8 s⟩),(2002,⟨1,false,rws eU8 a⟩)]⟩) 0 (fun e=>e.1) (fun e=>[(15,B e.2)]):=by
 refine lrX (fun s o h=> ?_)
 simp only [mY] at h
 simp only [CE]
 exact go2
def pv (h:List UInt8) (c:List Int) (f:List UInt8) (b:Int):(List Int)×Int->Option (((List Int)×Int)⊕(((List Int)×Int×Bool)))
 | (a,i)=>
   br (decide (i<25)) (
   br (decide (0<=i)&&decide (i.toNat<25)) (
   (a[i.toNat]?).bind fun e=>
   br (decide (0<=i)&&decide (i.toNat<25)) (
   (c[i.toNat]?).bind fun d=>
   br (decide (0<=i)&&decide (i.toNat<25)) (
   br (decide (i.toNat<a.length)) (
   some (.inl ((a.set i.toNat (sA .u64 e d)),(wrap .i64 (i+1))))) none) none) none) none) (
   some (.inr (a,i,decide (i<25))))
theorem Tz {d b c a}:LXe tab ow (.close []) AA (pv d b c a) (fun s=>⟨[(3,sl eU8 c),(4,.ptr 6001 0 0 1),(5,I a),(6,.ptr 10007 0 0 1),(7,I s.2)],[(2002,⟨1,false,rws eU8 d⟩),(6001,⟨25,true,[ar .u64 s.1]⟩),(10007,⟨25,true,[ar .u64 b]⟩)]⟩) 4 (fun e=>(e.1,e.2.1)) (fun e=>[(42,B e.2.2)]):=by
 refine lrX (fun s o h=> ?_)
 obtain ⟨_,_⟩:=s
 simp only [pv] at h
 simp only [AA]
 exact go2
def pk (f d:List UInt8):(List Int)×Int->Option (((List Int)×Int)⊕(((List Int)×Int×Bool)))
 | (m,a)=>
   br (decide (a<(d.length:Int))) (
   (qA d a (wrap .i64 (a+136))).bind fun y=>
   (AB y).bind fun e=>
   br (decide (e.length=25)) (
   (Loop (pv f e d a) (m,0)).bind fun b=>
   br (decide (b.1.length=25)) (
   (vH b.1).bind fun c=>
   br (decide (c.length=25)&&decide (b.1.length=25)) (
   some (.inl (c,(wrap .i64 (a+136))))) none) none) none) (
   some (.inr (m,a,decide (a<(d.length:Int)))))
theorem Ub {b a}:LXe tab ow (.close [10006,10007,15001,2001]) Cz (pk b a) (fun s=>⟨[(3,sl eU8 a),(4,.ptr 6001 0 0 1),(5,I s.2)],[(2002,⟨1,false,rws eU8 b⟩),(6001,⟨25,true,[ar .u64 s.1]⟩)]⟩) 2 (fun e=>(e.1,e.2.1)) (fun e=>[(31,B e.2.2)]):=by
 refine lrX (fun s o h=> ?_)
 obtain ⟨_,_⟩:=s
 simp only [pk] at h
 simp only [Cz]
 have d1:= @Wk
 have d2:= @Tz
 have d3:= @Rg
 exact go2
def wq (b:List UInt8):Option (List UInt8):=
 br (bj b.length 1) (
 br (bj ((b++([(1:UInt8)]:List UInt8)).length) 1) (
 (Loop (mY ([(1:UInt8)]:List UInt8)) (b++([(1:UInt8)]:List UInt8))).bind fun a=>
 br (decide (0<=(wrap .i64 ((a.1.length:Int)-1)))) (
 br (decide ((wrap .i64 ((a.1.length:Int)-1)).toNat<a.1.length)) (
 (a.1[(wrap .i64 ((a.1.length:Int)-1)).toNat]?).bind fun x=>
 br (decide (0<=(wrap .i64 ((a.1.length:Int)-1)))) (
 br (decide ((wrap .i64 ((a.1.length:Int)-1)).toNat<a.1.length)) (
 (a.1[(wrap .i64 ((a.1.length:Int)-1)).toNat]?).bind fun e=>
 (Loop (pk ([(1:UInt8)]:List UInt8) (a.1.set ((wrap .i64 ((a.1.length:Int)-1)).toNat) (UInt8.ofInt (Cp .u8 (x.toNat:Int) 128)))) ((nZ 25),0)).bind fun c=>
 br (decide (c.1.length=25)) (
 (Dk c.1 32).bind fun d=>
 some d) none) none) none) none) none) none) none
theorem GK {b r} (h:wq b=some r):Call tab ow 218 [S b] []=some (S r,[]):=by
 rw [ak (af:=BO) rfl]
 unfold wq at h
 simp only [BO,OR]
 have d1:= @TD
 have d2:= @Ub
 have d3:= @Zp
 exact go2
end
def GO (a:List UInt8) (b:List Ext):Option Source:=
 br (bj ((([115,111,117,114,99,101]:List UInt8)).length+a.length) 1) (
 (wq ((([115,111,117,114,99,101]:List UInt8))++a)).bind fun c=>
 some (Source.mk b 0 c 0)) none
theorem a29 {a b r} (h:GO a b=some r):Call tab ow 189 [S a,sl aG b] []=some (.agg [sl aG r.Script,I r.At,S r.State,I r.Count],[]):=by
 rw [ak (af:=EO) rfl]
 unfold GO at h
 simp only [EO,S6]
 have d1:= @GK
 exact go2
def vV (m:bV):Option (Ext×bV):=
 (cq 4 m).bind fun d=>
 br d.1 (
 (b5 d.2).bind fun b=>
 some ((Ext.mk b.1 0),b.2)) (
 (b5 d.2).bind fun c=>
 (b5 c.2).bind fun a=>
 some ((Ext.mk c.1 a.1),a.2))
theorem Rf {m r} (h:vV m=some r):Call tab ow 169 [.ptr 0 0 0 1] [⟨3,true,[[sl eU8 m.code,I m.at_,I m.seed]]⟩]=some (.agg [I r.1.A,I r.1.B],[⟨3,true,[[sl eU8 r.2.code,I r.2.at_,I r.2.seed]]⟩]):=by
 rw [ak (af:=vi) rfl]
 unfold vV at h
 simp only [vi,GB]
 have d1:= @is
 have d2:= @nU
 exact go2
section
@[local go_sem] theorem fh:mkR 2000 []=rws aG []:=rfl
@[local go_sem] theorem D8:mkR 6003 []=rws aG []:=rfl
def jB (e:Int):(List Ext)×Int×(List UInt8)×Int×Int->Option (((List Ext)×Int×(List UInt8)×Int×Int)⊕(((List Ext)×Int×Bool×(List UInt8)×Int×Int)))
 | (l,i,c,d,b)=>
   br (decide (i<e)) (
   (vV (bV.mk c d b)).bind fun a=>
   br (bj ((l++([a.1]:List Ext)).length) 16) (
   some (.inl ((l++([a.1]:List Ext)),(wrap .i64 (i+1)),a.2.code,a.2.at_,a.2.seed))) none) (
   some (.inr (l,i,decide (i<e),c,d,b)))
theorem Ls {a}:LXe tab ow (.close [6002,6003,6004]) Bg (jB a) (fun s=>⟨[(0,.ptr 0 0 0 1),(1,I a),(5,.sl 2000 0 s.1.length),(6,I s.2.1)],[(0,⟨3,true,[[sl eU8 s.2.2.1,I s.2.2.2.1,I s.2.2.2.2]]⟩),(2000,⟨2,false,rws aG s.1⟩)]⟩) 0 (fun e=>(e.1,e.2.1,e.2.2.2.1,e.2.2.2.2.1,e.2.2.2.2.2)) (fun e=>[(10,B e.2.2.1)]):=by
 refine lrX (fun s o h=> ?_)
 obtain ⟨_,_,_,_,_⟩:=s
 simp only [jB] at h
 simp only [Bg,Ba]
 have d1:= @Rf
 exact go2
def px (n:Int) (m:bV):Option ((List Ext)×bV):=
 (Loop (jB n) (([]:List Ext),0,m.code,m.at_,m.seed)).bind fun a=>
 some (a.1,(bV.mk a.2.2.2.1 a.2.2.2.2.1 a.2.2.2.2.2))
theorem F7 {n m r} (h:px n m=some r):Call tab ow 75 [.ptr 0 0 0 1,I n] [⟨3,true,[[sl eU8 m.code,I m.at_,I m.seed]]⟩]=some (sl aG r.1,[⟨3,true,[[sl eU8 r.2.code,I r.2.at_,I r.2.seed]]⟩]):=by
 rw [ak (af:=tS) rfl]
 unfold px at h
 simp only [tS,yD]
 have d1:= @Ls
 exact go2
end
section
attribute [local go_sem] rM
@[local go_sem] theorem b4B:mkR 6007 []=rws eU8 []:=rfl
def yx (a:Int):(List UInt8)×Int->Option (((List UInt8)×Int)⊕(((List UInt8)×Int×Bool)))
 | (l,i)=>
   br (decide (i>=0)) (
   br (decide (0<=(wrap .u64 (wrap .i64 (8*i))))) (
   br (bj ((l++([(UInt8.ofInt (cc .i64 a (wrap .u64 (wrap .i64 (8*i)))))]:List UInt8)).length) 1) (
   some (.inl ((l++([(UInt8.ofInt (cc .i64 a (wrap .u64 (wrap .i64 (8*i)))))]:List UInt8)),(wrap .i64 (i-1))))) none) none) (
   some (.inr (l,i,decide (i>=0))))
theorem P9 {a}:LXe tab ow (.close [6007,6008]) EY (yx a) (fun s=>⟨[(0,I a),(5,.sl 2000 0 s.1.length),(6,I s.2)],[(2000,⟨1,false,rws eU8 s.1⟩)]⟩) 0 (fun e=>(e.1,e.2.1)) (fun e=>[(11,B e.2.2)]):=by
 refine lrX (fun s o h=> ?_)
 obtain ⟨_,_⟩:=s
 simp only [yx] at h
 simp only [EY,Fj]
 exact go2
def ux (n a:Int):Option (List UInt8):=
 (Loop (yx n) (([]:List UInt8),(wrap .i64 (a-1)))).bind fun b=>
 some b.1
theorem IA {n a r} (h:ux n a=some r):Call tab ow 213 [I n,I a] []=some (sl eU8 r,[]):=by
 rw [ak (af:=xh) rfl]
 unfold ux at h
 simp only [xh,Cc]
 have d1:= @P9
 exact go2
end
def uM (s:Source) (t:List UInt8):Option Source:=
 br (bj (s.State.length+(([97,98,115,111,114,98]:List UInt8)).length) 1) (
 (ux (t.length:Int) 4).bind fun b=>
 br (bj ((s.State++(([97,98,115,111,114,98]:List UInt8))).length+b.length) 1) (
 br (bj (((s.State++(([97,98,115,111,114,98]:List UInt8)))++b).length+t.length) 1) (
 (wq (((s.State++(([97,98,115,111,114,98]:List UInt8)))++b)++t)).bind fun a=>
 some (Source.mk s.Script s.At a 0)) none) none) none
theorem J0 {s t r} (h:uM s t=some r):Call tab ow 191 [.agg [sl aG s.Script,I s.At,S s.State,I s.Count],S t] []=some (.agg [sl aG r.Script,I r.At,S r.State,I r.Count],[]):=by
 rw [ak (af:=xq) rfl]
 unfold uM at h
 simp only [xq,J5]
 have d1:= @IA
 have d2:= @GK
 exact go2
def o1 (a:List UInt8):Int×Int->Option ((Int×Int)⊕((Int×Int×Bool)))
 | (n,i)=>
   br (decide (i<8)) (
   (atL a i).bind fun c=>
   some (.inl (((wrap .i64 ((wrap .i64 (n*256))+(wrap .i64 (c.toNat:Int)))).tmod 2130706433),(wrap .i64 (i+1))))) (
   some (.inr (n,i,decide (i<8))))
theorem Tw {a}:LXe tab ow (.close []) FX (o1 a) (fun s=>⟨[(0,S a),(3,I s.1),(4,I s.2)],[]⟩) 0 (fun e=>(e.1,e.2.1)) (fun e=>[(6,B e.2.2)]):=by
 refine lrX (fun s o h=> ?_)
 obtain ⟨_,_⟩:=s
 simp only [o1] at h
 simp only [FX,GT]
 exact go2
def wS (t:List UInt8):Option Int:=
 (Loop (o1 t) (0,0)).bind fun a=>
 some a.1
theorem XK {t r} (h:wS t=some r):Call tab ow 304 [S t] []=some (I r,[]):=by
 rw [ak (af:=zA) rfl]
 unfold wS at h
 simp only [zA,Ej]
 have d1:= @Tw
 exact go2
def zW (s:Source):Option (Source×Ext):=
 br (decide ((s.Script.length:Int)>0)) (
 br (decide ((s.Script.length:Int)≠0)) (
 (atL s.Script (s.At.tmod (s.Script.length:Int))).bind fun x=>
 some ((Source.mk s.Script (wrap .i64 (s.At+1)) s.State s.Count),x)) none) (
 br (bj (s.State.length+(([100,114,97,119]:List UInt8)).length) 1) (
 (ux s.Count 4).bind fun d=>
 br (bj ((s.State++(([100,114,97,119]:List UInt8))).length+d.length) 1) (
 (wq ((s.State++(([100,114,97,119]:List UInt8)))++d)).bind fun a=>
 (qA a 0 8).bind fun y=>
 (wS y).bind fun c=>
 (qA a 8 16).bind fun e=>
 (wS e).bind fun b=>
 some ((Source.mk s.Script s.At s.State (wrap .i64 (s.Count+1))),(Ext.mk c b))) none) none)
theorem Oq {s r} (h:zW s=some r):Call tab ow 192 [.agg [sl aG s.Script,I s.At,S s.State,I s.Count]] []=some (.tup [.agg [sl aG r.1.Script,I r.1.At,S r.1.State,I r.1.Count],.agg [I r.2.A,I r.2.B]],[]):=by
 rw [ak (af:=C4) rfl]
 unfold zW at h
 simp only [C4,Ob]
 have d1:= @IA
 have d2:= @GK
 have d3:= @XK
 exact go2
section
attribute [local go_sem] fh
def D3 (s:Source):Option Source:=
 br (bj ((([]:List Ext)++s.Script).length) 16) (
 some (Source.mk (([]:List Ext)++s.Script) s.At s.State s.Count)) none
theorem a3l {s r} (h:D3 s=some r):Call tab ow 110 [.agg [sl aG s.Script,I s.At,S s.State,I s.Count]] []=some (.agg [sl aG r.Script,I r.At,S r.State,I r.Count],[]):=by
 rw [ak (af:=Dy) rfl]
 unfold D3 at h
 simp only [Dy,QI]
 exact go2
end
section
@[local go_sem] theorem a3G:mkR 2001 []=rws eS []:=rfl
@[local go_sem] theorem a2b:mkR 2003 []=rws aG []:=rfl
@[local go_sem] theorem a3j:mkR 9002 []=rws eS []:=rfl
def iH (n:Int) (o:List UInt8) (p:Int):Int×(List UInt8)×Int×Int×(List Ext)×Int×(List UInt8)×Int->Option ((Int×(List UInt8)×Int×Int×(List Ext)×Int×(List UInt8)×Int)⊕((Int×Bool×(List UInt8)×Int×Int×(List Ext)×Int×(List UInt8)×Int)))
 | (i,c,m,l,j,k,h,f)=>
   br (decide (i>0)) (
   (cq 2 (bV.mk c m l)).bind fun b=>
   br b.1 (
   (mR ([(([]:List UInt8)),(([116,101,120,116]:List UInt8))]:List (List UInt8)) b.2).bind fun d=>
   (uM (Source.mk j k h f) d.1).bind fun e=>
   some (.inl ((wrap .i64 (i-1)),d.2.code,d.2.at_,d.2.seed,e.Script,e.At,e.State,e.Count))) (
   (zW (Source.mk j k h f)).bind fun a=>
   some (.inl ((wrap .i64 (i-1)),b.2.code,b.2.at_,b.2.seed,a.1.Script,a.1.At,a.1.State,a.1.Count)))) (
   some (.inr (i,decide (i>0),c,m,l,j,k,h,f)))
theorem Ic {c a b}:LXe tab ow (.close [8001,9002,9003,9004,10001]) n8 (iH c a b) (fun s=>⟨[(0,.ptr 0 0 0 1),(2,.ptr 1000 0 0 1),(3,.ptr 2005 0 0 1),(4,I s.1)],[(0,⟨3,true,[[sl eU8 s.2.1,I s.2.2.1,I s.2.2.2.1]]⟩),(1000,⟨4,true,[[.lit (.slice none 0 0),I c,S a,I b]]⟩),(2001,kf),(2003,kf),(2005,⟨4,true,[[sl aG s.2.2.2.2.1,I s.2.2.2.2.2.1,S s.2.2.2.2.2.2.1,I s.2.2.2.2.2.2.2]]⟩)]⟩) 0 (fun e=>(e.1,e.2.2.1,e.2.2.2.1,e.2.2.2.2.1,e.2.2.2.2.2.1,e.2.2.2.2.2.2.1,e.2.2.2.2.2.2.2.1,e.2.2.2.2.2.2.2.2)) (fun e=>[(21,B e.2.1)]):=by
 refine lrX (fun s o h=> ?_)
 obtain ⟨_,_,_,_,_,_,_,_⟩:=s
 simp only [iH] at h
 simp only [n8,sT]
 have d1:= @is
 have d2:= @yM
 have d3:= @J0
 have d4:= @Oq
 exact go2
def nm (p:Int) (o:List UInt8) (n:Int):Int×(List UInt8)×Int×Int×(List Ext)×Int×(List UInt8)×Int->Option ((Int×(List UInt8)×Int×Int×(List Ext)×Int×(List UInt8)×Int)⊕((Int×Bool×(List UInt8)×Int×Int×(List Ext)×Int×(List UInt8)×Int)))
 | (m,l,j,k,i,e,h,f)=>
   br (decide (m>0)) (
   (cq 2 (bV.mk l j k)).bind fun a=>
   br a.1 (
   (mR ([(([]:List UInt8)),(([116,101,120,116]:List UInt8))]:List (List UInt8)) a.2).bind fun d=>
   (uM (Source.mk i e h f) d.1).bind fun b=>
   some (.inl ((wrap .i64 (m-1)),d.2.code,d.2.at_,d.2.seed,b.Script,b.At,b.State,b.Count))) (
   (zW (Source.mk i e h f)).bind fun c=>
   some (.inl ((wrap .i64 (m-1)),a.2.code,a.2.at_,a.2.seed,c.1.Script,c.1.At,c.1.State,c.1.Count)))) (
   some (.inr (m,decide (m>0),l,j,k,i,e,h,f)))
theorem HY {a b c}:LXe tab ow (.close [8001,9002,9003,9004,10001]) n8 (nm a b c) (fun s=>⟨[(0,.ptr 0 0 0 1),(2,.ptr 1000 0 0 1),(3,.ptr 2005 0 0 1),(4,I s.1)],[(0,⟨3,true,[[sl eU8 s.2.1,I s.2.2.1,I s.2.2.2.1]]⟩),(1000,⟨4,true,[[.lit (.slice none 0 0),I a,S b,I c]]⟩),(2001,kf),(2003,kf),(2005,⟨4,true,[[sl aG s.2.2.2.2.1,I s.2.2.2.2.2.1,S s.2.2.2.2.2.2.1,I s.2.2.2.2.2.2.2]]⟩)]⟩) 0 (fun e=>(e.1,e.2.2.1,e.2.2.2.1,e.2.2.2.2.1,e.2.2.2.2.2.1,e.2.2.2.2.2.2.1,e.2.2.2.2.2.2.2.1,e.2.2.2.2.2.2.2.2)) (fun e=>[(21,B e.2.1)]):=by
 refine lrX (fun s o h=> ?_)
 obtain ⟨_,_,_,_,_,_,_,_⟩:=s
 simp only [nm] at h
 simp only [n8,sT]
 have d1:= @is
 have d2:= @yM
 have d3:= @J0
 have d4:= @Oq
 exact go2
def mc (m:bV):Option (Source×bV):=
 (mR ([(([]:List UInt8)),(([97]:List UInt8)),(([108,97,98,101,108]:List UInt8))]:List (List UInt8)) m).bind fun l=>
 (GO l.1 ([]:List Ext)).bind fun b=>
 (cq 3 l.2).bind fun f=>
 br f.1 (
 (au 5 f.2).bind fun h=>
 (px (wrap .i64 (1+h.1)) h.2).bind fun k=>
 (au 4 k.2).bind fun d=>
 (Loop (iH 0 (([]:List UInt8)) 0) (d.1,d.2.code,d.2.at_,d.2.seed,k.1,b.At,b.State,b.Count)).bind fun e=>
 (D3 (Source.mk e.2.2.2.2.2.1 e.2.2.2.2.2.2.1 e.2.2.2.2.2.2.2.1 e.2.2.2.2.2.2.2.2)).bind fun j=>
 some (j,(bV.mk e.2.2.1 e.2.2.2.1 e.2.2.2.2.1))) (
 (au 4 f.2).bind fun c=>
 (Loop (nm 0 (([]:List UInt8)) 0) (c.1,c.2.code,c.2.at_,c.2.seed,b.Script,b.At,b.State,b.Count)).bind fun a=>
 (D3 (Source.mk a.2.2.2.2.2.1 a.2.2.2.2.2.2.1 a.2.2.2.2.2.2.2.1 a.2.2.2.2.2.2.2.2)).bind fun i=>
 some (i,(bV.mk a.2.2.1 a.2.2.2.1 a.2.2.2.2.1)))
theorem M7 {m r} (h:mc m=some r):Call tab ow 94 [.ptr 0 0 0 1] [⟨3,true,[[sl eU8 m.code,I m.at_,I m.seed]]⟩]=some (.agg [sl aG r.1.Script,I r.1.At,S r.1.State,I r.1.Count],[⟨3,true,[[sl eU8 r.2.code,I r.2.at_,I r.2.seed]]⟩]):=by
 rw [ak (af:=qw) rfl]
 unfold mc at h
 simp only [qw,vL]
 have d1:= @yM
 have d2:= @a29
 have d3:= @is
 have d4:= @fQ
 have d5:= @F7
 have d6:= @Ic
 have d7:= @a3l
 have d8:= @HY
 exact go2
end
section
@[local go_sem] theorem a3e:mkR 5004 []=rws en []:=rfl
@[local go_sem] theorem a3C:mkR 6002 []=rws eI []:=rfl
@[local go_sem] theorem a3c:mkR 7002 []=rws eI []:=rfl
def oX (m:bV):Option (Circuit×(List Int)×(List Int)×Setting×Source×bV):=
 (l0 m).bind fun e=>
 (mf e.1 e.2).bind fun a=>
 (GR e.1 a.1 a.2.1).bind fun k=>
 (Di e.1 k).bind fun j=>
 br (!j) (
 (b5 a.2.2).bind fun i=>
 (b5 i.2).bind fun c=>
 (kU c.2).bind fun d=>
 (mc d.2).bind fun f=>
 some ((Circuit.mk ([(aC.mk 1 0 0 0),(aC.mk 2 0 0 0),(aC.mk 6 0 0 0),(aC.mk 4 2 1 0)]:List aC)),([i.1]:List Int),([c.1]:List Int),d.1,f.1,f.2)) (
 (kU a.2.2).bind fun h=>
 (mc h.2).bind fun b=>
 some (e.1,a.1,a.2.1,h.1,b.1,b.2))
theorem Lk {m r} (h:oX m=some r):Call tab ow 67 [.ptr 0 0 0 1] [⟨3,true,[[sl eU8 m.code,I m.at_,I m.seed]]⟩]=some (.tup [.agg [sl en r.1.Gates],sl eI r.2.1,sl eI r.2.2.1,.agg [I r.2.2.2.1.Rate,I r.2.2.2.1.Queries,I r.2.2.2.1.Grind],.agg [sl aG r.2.2.2.2.1.Script,I r.2.2.2.2.1.At,S r.2.2.2.2.1.State,I r.2.2.2.2.1.Count]],[⟨3,true,[[sl eU8 r.2.2.2.2.2.code,I r.2.2.2.2.2.at_,I r.2.2.2.2.2.seed]]⟩]):=by
 rw [ak (af:=pM) rfl]
 unfold oX at h
 simp only [pM,BF]
 have d1:= @AT
 have d2:= @Bk
 have d3:= @a32
 have d4:= @ZH
 have d5:= @nU
 have d6:= @JJ
 have d7:= @M7
 exact go2
end
def Ao (b:List UInt8):Option Wa:=
 (rj b).bind fun c=>
 (oX c).bind fun a=>
 some (Wa.mk a.1 a.2.1 a.2.2.1 a.2.2.2.1 a.2.2.2.2.1)
theorem YA {a r} (h:Ao a=some r):Call tab ow 11 [sl eU8 a] []=some (.agg [sl en r.Circuit.Gates,sl eI r.Publics,sl eI r.Inputs,I r.Setting.Rate,I r.Setting.Queries,I r.Setting.Grind,sl aG r.Source.Script,I r.Source.At,S r.Source.State,I r.Source.Count],[]):=by
 rw [ak (af:=zl) rfl]
 unfold Ao at h
 simp only [zl,LZ]
 have d1:= @xe
 have d2:= @Lk
 exact go2
def Ue (a:List UInt8) (i n:Int):Option Int:=
 br (decide (n<=1)) (
 some 0) (
 br ((a.length:Int)==0) (
 br (decide (n≠0)) (
 some ((wrap .i64 (i*7)).tmod n)) none) (
 br (decide ((a.length:Int)≠0)) (
 (atL a (i.tmod (a.length:Int))).bind fun x=>
 br (decide ((a.length:Int)≠0)) (
 (atL a ((wrap .i64 (i+1)).tmod (a.length:Int))).bind fun b=>
 br (decide ((a.length:Int)≠0)) (
 br (decide (n≠0)) (
 some ((wrap .i64 ((wrap .i64 ((wrap .i64 ((wrap .i64 (x.toNat:Int))*31))+(wrap .i64 (b.toNat:Int))))+(wrap .i64 (i.tdiv (a.length:Int))))).tmod n)) none) none) none) none))
theorem c2J {a i n r} (h:Ue a i n=some r):Call tab ow 13 [sl eU8 a,I i,I n] []=some (I r,[]):=by
 rw [ak (af:=VZ) rfl]
 unfold Ue at h
 simp only [VZ,b5w]
 exact go2
def jN (n b a:Int):Option Bool:=
 br (decide (b<=n)) (
 some (decide (n<=a))) (
 some false)
theorem wx {n b a r} (h:jN n b a=some r):Call tab ow 68 [I n,I b,I a] []=some (B r,[]):=by
 rw [ak (af:=Xn) rfl]
 unfold jN at h
 simp only [Xn,b2o]
 exact go2
def mH (f e c i h:Int):Int×Int×Int->Option ((Int×Int×Int)⊕((Int×Int×Int×Bool)))
 | (b,a,d)=>
   br (decide (d<e)) (
   br (decide (0<=c)) (
   br (decide (0<=(wrap .i64 (c+1)))) (
   some (.inl ((wrap .i64 (b*(wrap .i64 ((ct .i64 1 c)+1)))),(ct .i64 a (wrap .i64 (c+1))),(wrap .i64 (d+1))))) none) none) (
   some (.inr (b,a,d,decide (d<e))))
theorem Gz {a d c f b}:LXe tab ow (.close []) xP (mH a d c f b) (fun s=>⟨[(1,.ptr 1000 0 0 1),(3,I s.1),(4,I s.2.1),(5,I a),(7,I d),(8,I s.2.2)],[(1000,⟨3,true,[[I c,I f,I b]]⟩)]⟩) 0 (fun e=>(e.1,e.2.1,e.2.2.1)) (fun e=>[(9,B e.2.2.2)]):=by
 refine lrX (fun s o h=> ?_)
 obtain ⟨_,_,_⟩:=s
 simp only [mH] at h
 simp only [xP,y7]
 exact go2
def mw (c b h i:Int) (d:Bool) (e f j:Int):Int->Option ((Int)⊕((Int×Bool)))
 |a=>
  br (decide (0<=(wrap .i64 (a+1)))) (
  br (decide ((ct .i64 c (wrap .i64 (a+1)))<=b)) (
  some (.inl (wrap .i64 (a+1)))) (
  some (.inr (a,decide ((ct .i64 c (wrap .i64 (a+1)))<=b))))) none
theorem GM {b a f i c k d j}:LXe tab ow (.close []) xZ (mw b a f i c k d j) (fun s=>⟨[(1,.ptr 1000 0 0 1),(3,I b),(4,I a),(5,I s),(7,I f),(8,I i),(9,B c)],[(1000,⟨3,true,[[I k,I d,I j]]⟩)]⟩) 2 (fun e=>e.1) (fun e=>[(27,B e.2)]):=by
 refine lrX (fun s o h=> ?_)
 simp only [mw] at h
 simp only [xZ,y8]
 exact go2
def fY (t:Setting):Option Int:=
 (Loop (mH 0 t.Queries t.Rate t.Queries t.Grind) (1,1,0)).bind fun a=>
 (Loop (mw a.1 a.2.1 t.Queries a.2.2.1 a.2.2.2 t.Rate t.Queries t.Grind) 0).bind fun b=>
 some (wrap .i64 (b.1+t.Grind))
theorem AD {t r} (h:fY t=some r):Call tab ow 69 [.agg [I t.Rate,I t.Queries,I t.Grind]] []=some (I r,[]):=by
 rw [ak (af:=ot) rfl]
 unfold fY at h
 simp only [ot,o8]
 have d1:= @Gz
 have d2:= @GM
 exact go2
def vd (d b a c h f:Int):Int->Option ((Int)⊕((Int×Int)⊕(Int×Bool)))
 |q=>
  br (decide (q<=8)) (
  (fY (Setting.mk b q a)).bind fun e=>
  br (decide (e>=d)) (
  some (.inr (.inl (q,q)))) (
  some (.inl (wrap .i64 (q+1))))) (
  some (.inr (.inr (q,decide (q<=8)))))
theorem Yn {d b a c i f}:LX tab ow (.close [7004,8001]) Mb (vd d b a c i f) (fun s=>⟨[(0,I d),(1,I b),(2,I a),(6,.ptr 1000 0 0 1),(8,I s)],[(1000,⟨3,true,[[I c,I i,I f]]⟩)]⟩) (alt (fun e=>((.ret,⟨[(6,.ptr 1000 0 0 1),(7,I 0)],[(1000,⟨3,true,[[I b,I e.1,I a]]⟩),(7004,⟨3,true,[[I b,I e.2,I a]]⟩)]⟩):dd×St)) (fun e=>(.exit 0,⟨[(0,I d),(1,I b),(2,I a),(6,.ptr 1000 0 0 1),(8,I e.1),(25,B e.2)],[(1000,⟨3,true,[[I c,I i,I f]]⟩)]⟩))):=by
 refine lrX (fun s o h=> ?_)
 simp only [vd] at h
 simp only [Mb,Me]
 have d1:= @AD
 exact go2
def D7 (c b a:Int):Option (Setting×Int):=
 (jN c 0 16).bind fun h=>
 br (!h) (
 some ((Setting.mk 0 0 0),4)) (
 (jN b 1 3).bind fun e=>
 br (!e) (
 some ((Setting.mk 0 0 0),4)) (
 (jN a 0 12).bind fun f=>
 br (!f) (
 some ((Setting.mk 0 0 0),4)) (
 (Loop (vd c b a 0 0 0) 1).bind (alt (fun d=>
 some ((Setting.mk b d.1 a),0)) (fun i=>
 some ((Setting.mk 0 0 0),16))))))
theorem a2o {c b a r} (h:D7 c b a=some r):Call tab ow 12 [I c,I b,I a] []=some (.tup [.agg [I r.1.Rate,I r.1.Queries,I r.1.Grind],I r.2],[]):=by
 rw [ak (af:=EL) rfl]
 unfold D7 at h
 simp only [EL,JK]
 have d1:= @wx
 have d2:= @Yn
 exact go2
def FR (a:List UInt8) (n:Int):Option (List Ext):=
 (rj a).bind fun c=>
 (px n c).bind fun b=>
 some b.1
theorem a4r {a n r} (h:FR a n=some r):Call tab ow 15 [sl eU8 a,I n] []=some (sl aG r,[]):=by
 rw [ak (af:=ED) rfl]
 unfold FR at h
 simp only [ED,RH]
 have d1:= @xe
 have d2:= @F7
 exact go2
def Gv (t:List UInt8):Option Bool:=
 some (decide ((t.length:Int)>65536))
theorem a4d {t r} (h:Gv t=some r):Call tab ow 70 [S t] []=some (B r,[]):=by
 rw [ak (af:=DI) rfl]
 unfold Gv at h
 simp only [DI,RL]
 exact go2
def uJ (a:Int):Option Bool:=
 (jN a 0 2130706432).bind fun b=>
 some b
theorem Hi {a r} (h:uJ a=some r):Call tab ow 132 [I a] []=some (B r,[]):=by
 rw [ak (af:=C5) rfl]
 unfold uJ at h
 simp only [C5,O5]
 have d1:= @wx
 exact go2
def xd (a:Ext):Option Bool:=
 (uJ a.A).bind fun c=>
 br c (
 (uJ a.B).bind fun b=>
 some b) (
 some false)
theorem NO {a r} (h:xd a=some r):Call tab ow 72 [.agg [I a.A,I a.B]] []=some (B r,[]):=by
 rw [ak (af:=Ho) rfl]
 unfold xd at h
 simp only [Ho,V8]
 have d1:= @Hi
 exact go2
def jT (x:Ext):Option Bool:=
 (xd x).bind fun a=>
 some (!a)
theorem FD {x r} (h:jT x=some r):Call tab ow 167 [.agg [I x.A,I x.B],.ptr 0 0 0 1] [⟨1,true,[[.fn 72 []]]⟩]=some (B r,[⟨1,true,[[.fn 72 []]]⟩]):=by
 rw [ak (af:=tZ) rfl]
 unfold jT at h
 simp only [tZ,Fs]
 have d1:= @NO
 exact go2
def cy (b:List Ext) (t:Int):Int->Option ((Int)⊕(Int⊕(Int×Bool)))
 |a=>
  br (decide (a<t)) (
  (atL b a).bind fun x=>
  (jT x).bind fun c=>
  br c (
  some (.inr (.inl a))) (
  some (.inl (wrap .i64 (a+1))))) (
  some (.inr (.inr (a,decide (a<t)))))
theorem ld {a t}:LX tab ow (.close [5005]) lW (cy a t) (fun s=>⟨[(0,sl aG a),(1,.fn 167 [.ptr 0 0 0 1]),(7,I t),(8,I s)],[(0,⟨1,true,[[.fn 72 []]]⟩)]⟩) (alt (fun e=>((.ret,⟨[(4,I e)],[(0,⟨1,true,[[.fn 72 []]]⟩)]⟩):dd×St)) (fun e=>(.exit 0,⟨[(0,sl aG a),(1,.fn 167 [.ptr 0 0 0 1]),(7,I t),(8,I e.1),(9,B e.2)],[(0,⟨1,true,[[.fn 72 []]]⟩)]⟩))):=by
 refine lrX (fun s o h=> ?_)
 simp only [cy] at h
 simp only [lW,lV]
 have d1:= @FD
 exact go2
def cO (s:List Ext):Option Int:=
 (Loop (cy s (s.length:Int)) 0).bind (alt (fun a=>
 some a) (fun b=>
 some (-1:Int)))
theorem lU {s r} (h:cO s=some r):Call tab ow 283 [sl aG s,.fn 167 [.ptr 0 0 0 1]] [⟨1,true,[[.fn 72 []]]⟩]=some (I r,[⟨1,true,[[.fn 72 []]]⟩]):=by
 rw [ak (af:=fE) rfl]
 unfold cO at h
 simp only [fE,iV]
 have d1:= @ld
 exact go2
def cG (s:List Ext):Option Bool:=
 (cO s).bind fun a=>
 some (decide (a>=0))
theorem ki {s r} (h:cG s=some r):Call tab ow 166 [sl aG s,.fn 167 [.ptr 0 0 0 1]] [⟨1,true,[[.fn 72 []]]⟩]=some (B r,[⟨1,true,[[.fn 72 []]]⟩]):=by
 rw [ak (af:=eP) rfl]
 unfold cG at h
 simp only [eP,lv]
 have d1:= @lU
 exact go2
def ft (a:List Ext):Option Bool:=
 (cG a).bind fun b=>
 some (!b)
theorem jV {a r} (h:ft a=some r):Call tab ow 71 [.fn 72 [],sl aG a] []=some (B r,[]):=by
 rw [ak (af:=wW) rfl]
 unfold ft at h
 simp only [wW,Jc]
 have d1:= @ki
 exact go2
def dh (l:List Ext):Option (List Ext):=br (bj l.length 16) (some l) none
theorem zr (x:Ext) (l:List Ext) (a:bj (x::l).length 16=true):Call (P5 73 bJ) QU 73 [sl aG (x::l)] []=some (.sl 0 0 (x::l).length,[⟨2,false,rws aG (x::l)⟩]):=by
 rw [ak (af:=bJ) (MF _ _)]
 rw [ab] at a
 simp+decide only [bJ,kA,fun k=>mk0 aG k,Z4,go_sem,reduceIte,Nat.reduceAdd,a]
theorem km {l r:List Ext} (h:dh l=some r):Call tab ow 73 [sl aG l] []=some (.sl 0 0 r.length,[⟨2,false,rws aG r⟩]):=by
 unfold dh at h
 obtain ⟨hb,h⟩:=brg h
 cases h
 rw [Tb (g:=Ym 73 bJ 2) rfl]
 cases l with
 |nil=>rfl
 |cons x l=>exact zr x l hb
end
end Go.AI.Fn
