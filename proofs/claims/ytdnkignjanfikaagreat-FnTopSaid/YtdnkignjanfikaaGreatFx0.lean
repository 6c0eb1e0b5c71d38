/- Part. -/
import Derived.Test.YtdnkignjanfikaaGreatStr
set_option linter.unusedVariables false
set_option linter.unusedSimpArgs false
set_option maxRecDepth 100000
set_option maxHeartbeats 1000000
namespace Go.AI.Fn
noncomputable section
open IntKind (wrap)
def re (a:List UInt8):Option bV:=
 some (bV.mk a 0 ((a.length:Int).tmod 1000))
def xq {a r} (h:re a=some r):Call tab ow 66 [sl eU8 a] []=some (.ptr 0 0 0 1,[⟨3,true,[[sl eU8 r.code,I r.at_,I r.seed]]⟩]):=by
 rw [ak (af:=xw) rfl]
 unfold re at h
 simp only [xw,IN]
 exact go2
def kE (m:bV):Option (Int×bV):=
 br (decide ((wrap .i64 (m.at_+1))<=(m.code.length:Int))) (
 (atL m.code (wrap .i64 ((wrap .i64 (m.at_+1))-1))).bind fun x=>
 (atL m.code (wrap .i64 ((wrap .i64 (m.at_+1))-1))).bind fun a=>
 some ((wrap .i64 (a.toNat:Int)),(bV.mk m.code (wrap .i64 (m.at_+1)) ((wrap .i64 ((wrap .i64 ((wrap .i64 (m.seed*31))+(wrap .i64 (x.toNat:Int))))+7)).tmod 2147483648)))) (
 br (decide ((wrap .i64 (m.at_+1))>3000)) (
 some (0,(bV.mk m.code (wrap .i64 (m.at_+1)) m.seed))) (
 some (((wrap .i64 (((wrap .i64 ((wrap .i64 (m.seed*1103515245))+12345)).tmod 2147483648).tdiv 65536)).tmod 256),(bV.mk m.code (wrap .i64 (m.at_+1)) ((wrap .i64 ((wrap .i64 (m.seed*1103515245))+12345)).tmod 2147483648)))))
def Pz {m r} (h:kE m=some r):Call tab ow 302 [.ptr 0 0 0 1] [⟨3,true,[[sl eU8 m.code,I m.at_,I m.seed]]⟩]=some (I r.1,[⟨3,true,[[sl eU8 r.2.code,I r.2.at_,I r.2.seed]]⟩]):=by
 rw [ak (af:=tT) rfl]
 unfold kE at h
 simp only [tT,F5]
 exact go2
def au (n:Int) (m:bV):Option (Int×bV):=
 br (decide (n<=1)) (
 some (0,m)) (
 br (decide (n<=256)) (
 (kE m).bind fun d=>
 br (decide (n≠0)) (
 some ((d.1.tmod n),d.2)) none) (
 (kE m).bind fun b=>
 (kE b.2).bind fun c=>
 (kE c.2).bind fun a=>
 br (decide (n≠0)) (
 some (((wrap .i64 ((wrap .i64 ((wrap .i64 (b.1*65536))+(wrap .i64 (c.1*256))))+a.1)).tmod n),a.2)) none))
def fQ {n m r} (h:au n m=some r):Call tab ow 185 [.ptr 0 0 0 1,I n] [⟨3,true,[[sl eU8 m.code,I m.at_,I m.seed]]⟩]=some (I r.1,[⟨3,true,[[sl eU8 r.2.code,I r.2.at_,I r.2.seed]]⟩]):=by
 rw [ak (af:=tC) rfl]
 unfold au at h
 simp only [tC,Fg]
 have d1:= @Pz
 exact go2
def Kr (b:Bool):Option Int:=
 br b (
 some 1) (
 some 0)
def a3l {b r} (h:Kr b=some r):Call tab ow 303 [B b] []=some (I r,[]):=by
 rw [ak (af:=DN) rfl]
 unfold Kr at h
 simp only [DN,RE]
 exact go2
def o1 (b:Int) (a:List aC):Int×Int->Option ((Int×Int)⊕((Int×Int×Bool)))
 | (n,k)=>
   br (decide (k<(a.length:Int))) (
   (atL a k).bind fun x=>
   (Kr (x.Op==b)).bind fun c=>
   some (.inl ((wrap .i64 (n+c)),(wrap .i64 (k+1))))) (
   some (.inr (n,k,decide (k<(a.length:Int)))))
def T6 {a b}:LXe tab ow (.close [6009]) GJ (o1 a b) (fun s=>⟨[(1,I a),(2,.ptr 1000 0 0 1),(5,I s.1),(6,I s.2)],[(1000,⟨1,true,[[sl er b]]⟩)]⟩) 0 (fun e=>(e.1,e.2.1)) (fun e=>[(11,B e.2.2)]):=by
 refine lrX (fun s o h=> ?_)
 obtain ⟨_,_⟩:=s
 simp only [o1] at h
 simp only [GJ,FU]
 have d1:= @a3l
 exact go2
def mO (c:Circuit) (b:Int):Option Int:=
 (Loop (o1 b c.Gates) (0,0)).bind fun a=>
 some a.1
def El {c a r} (h:mO c a=some r):Call tab ow 187 [.agg [sl er c.Gates],I a] []=some (I r,[]):=by
 rw [ak (af:=z7) rfl]
 unfold mO at h
 simp only [z7,DX]
 have d1:= @T6
 exact go2
def M4 (n b a:Int):Option Bool:=
 br (decide (b<=n)) (
 some (decide (n<=a))) (
 some false)
def a7D {n b a r} (h:M4 n b a=some r):Call tab ow 115 [I n,I b,I a] []=some (B r,[]):=by
 rw [ak (af:=HQ) rfl]
 unfold M4 at h
 simp only [HQ,UH]
 exact go2
def je (a:Int):Option Int:=
 (M4 a 4 7).bind fun b=>
 br b (
 some 2) (
 br (a==8) (
 some 1) (
 some 0))
def a0P {a r} (h:je a=some r):Call tab ow 188 [I a] []=some (I r,[]):=by
 rw [ak (af:=BG) rfl]
 unfold je at h
 simp only [BG,Ov]
 have d1:= @a7D
 exact go2
def cp (n:Int) (m:bV):Option (Bool×bV):=
 (au n m).bind fun a=>
 some ((a.1==(wrap .i64 (n-1))),a.2)
def iu {n m r} (h:cp n m=some r):Call tab ow 186 [.ptr 0 0 0 1,I n] [⟨3,true,[[sl eU8 m.code,I m.at_,I m.seed]]⟩]=some (B r.1,[⟨3,true,[[sl eU8 r.2.code,I r.2.at_,I r.2.seed]]⟩]):=by
 rw [ak (af:=qa) rfl]
 unfold cp at h
 simp only [qa,Bt]
 have d1:= @fQ
 exact go2
def jb:Int×Int×(List UInt8)×Int×Int->Option ((Int×Int×(List UInt8)×Int×Int)⊕((Int×Int×Bool×(List UInt8)×Int×Int)))
 | (n,i,c,b,d)=>
   br (decide (i<5)) (
   (au 256 (bV.mk c b d)).bind fun a=>
   some (.inl (((wrap .i64 ((wrap .i64 (n*256))+a.1)).tmod 2130706433),(wrap .i64 (i+1)),a.2.code,a.2.at_,a.2.seed))) (
   some (.inr (n,i,decide (i<5),c,b,d)))
def JX:LXe tab ow (.close [11003]) Af (jb) (fun s=>⟨[(0,.ptr 0 0 0 1),(3,I s.1),(4,I s.2.1)],[(0,⟨3,true,[[sl eU8 s.2.2.1,I s.2.2.2.1,I s.2.2.2.2]]⟩)]⟩) 1 (fun e=>(e.1,e.2.1,e.2.2.2.1,e.2.2.2.2.1,e.2.2.2.2.2)) (fun e=>[(17,B e.2.2.1)]):=by
 refine lrX (fun s o h=> ?_)
 obtain ⟨_,_,_,_,_⟩:=s
 simp only [jb] at h
 simp only [Af,Ah]
 have d1:= @fQ
 exact go2
def b5 (m:bV):Option (Int×bV):=
 (au 5 m).bind fun a=>
 br (a.1==0) (
 (au 4 a.2).bind fun b=>
 some (b.1,b.2)) (
 br (a.1==1) (
 (au 3 a.2).bind fun c=>
 some ((wrap .i64 (2130706432-c.1)),c.2)) (
 (Loop (jb) (0,0,a.2.code,a.2.at_,a.2.seed)).bind fun d=>
 some (d.1,(bV.mk d.2.2.2.1 d.2.2.2.2.1 d.2.2.2.2.2))))
def nS {m r} (h:b5 m=some r):Call tab ow 165 [.ptr 0 0 0 1] [⟨3,true,[[sl eU8 m.code,I m.at_,I m.seed]]⟩]=some (I r.1,[⟨3,true,[[sl eU8 r.2.code,I r.2.at_,I r.2.seed]]⟩]):=by
 rw [ak (af:=rQ) rfl]
 unfold b5 at h
 simp only [rQ,wM]
 have d1:= @fQ
 have d2:= @JX
 exact go2
section
@[local go_sem] theorem a1K:mkR 2000 []=rws er []:=rfl
@[local go_sem] theorem a1O:mkR 22003 []=rws er []:=rfl
@[local go_sem] theorem a1J:mkR 21002 []=rws eI []:=rfl
def jn (t:Int):(List aC)×Int×(List UInt8)×Int×Int->Option (((List aC)×Int×(List UInt8)×Int×Int)⊕(((List aC)×Int×Bool×(List UInt8)×Int×Int)))
 | (l,e,c,c2,c3)=>
   br (decide (e<t)) (
   (au 8 (bV.mk c c2 c3)).bind fun d=>
   br (e==0) (
   (au 3 d.2).bind fun b=>
   br ((wrap .i64 (1+b.1))==2) (
   (mO (Circuit.mk l) 2).bind fun r_4=>
   br (r_4==3) (
   (je 1).bind fun r_5=>
   br (r_5==2) (
   (au e b.2).bind fun r_6=>
   (au e r_6.2).bind fun r_7=>
   br (bj ((l++([(aC.mk 1 r_6.1 r_7.1 0)]:List aC)).length) 32) (
   some (.inl ((l++([(aC.mk 1 r_6.1 r_7.1 0)]:List aC)),(wrap .i64 (e+1)),r_7.2.code,r_7.2.at_,r_7.2.seed))) none) (
   br (r_5==1) (
   (au e b.2).bind fun r_8=>
   br (bj ((l++([(aC.mk 1 r_8.1 0 0)]:List aC)).length) 32) (
   some (.inl ((l++([(aC.mk 1 r_8.1 0 0)]:List aC)),(wrap .i64 (e+1)),r_8.2.code,r_8.2.at_,r_8.2.seed))) none) (
   br (bj ((l++([(aC.mk 1 0 0 0)]:List aC)).length) 32) (
   some (.inl ((l++([(aC.mk 1 0 0 0)]:List aC)),(wrap .i64 (e+1)),b.2.code,b.2.at_,b.2.seed))) none))) (
   (je (wrap .i64 (1+b.1))).bind fun r_9=>
   br (r_9==2) (
   (au e b.2).bind fun j=>
   (au e j.2).bind fun r=>
   br ((wrap .i64 (1+b.1))==7) (
   (cp 5 r.2).bind fun r_12=>
   br (!r_12.1) (
   br ((wrap .i64 (1+b.1))==3) (
   (b5 r_12.2).bind fun r_13=>
   (au 3 r_13.2).bind fun r_14=>
   br (decide (0<=r_14.1)) (
   br (decide (r_14.1.toNat<([0,1,r_13.1]:List Int).length)) (
   (([0,1,r_13.1]:List Int)[r_14.1.toNat]?).bind fun x=>
   br (bj ((l++([(aC.mk (wrap .i64 (1+b.1)) j.1 j.1 x)]:List aC)).length) 32) (
   some (.inl ((l++([(aC.mk (wrap .i64 (1+b.1)) j.1 j.1 x)]:List aC)),(wrap .i64 (e+1)),r_14.2.code,r_14.2.at_,r_14.2.seed))) none) none) none) (
   br (bj ((l++([(aC.mk (wrap .i64 (1+b.1)) j.1 j.1 0)]:List aC)).length) 32) (
   some (.inl ((l++([(aC.mk (wrap .i64 (1+b.1)) j.1 j.1 0)]:List aC)),(wrap .i64 (e+1)),r_12.2.code,r_12.2.at_,r_12.2.seed))) none)) (
   br ((wrap .i64 (1+b.1))==3) (
   (b5 r_12.2).bind fun r_15=>
   (au 3 r_15.2).bind fun r_16=>
   br (decide (0<=r_16.1)) (
   br (decide (r_16.1.toNat<([0,1,r_15.1]:List Int).length)) (
   (([0,1,r_15.1]:List Int)[r_16.1.toNat]?).bind fun x2=>
   br (bj ((l++([(aC.mk (wrap .i64 (1+b.1)) j.1 r.1 x2)]:List aC)).length) 32) (
   some (.inl ((l++([(aC.mk (wrap .i64 (1+b.1)) j.1 r.1 x2)]:List aC)),(wrap .i64 (e+1)),r_16.2.code,r_16.2.at_,r_16.2.seed))) none) none) none) (
   br (bj ((l++([(aC.mk (wrap .i64 (1+b.1)) j.1 r.1 0)]:List aC)).length) 32) (
   some (.inl ((l++([(aC.mk (wrap .i64 (1+b.1)) j.1 r.1 0)]:List aC)),(wrap .i64 (e+1)),r_12.2.code,r_12.2.at_,r_12.2.seed))) none))) (
   br ((wrap .i64 (1+b.1))==3) (
   (b5 r.2).bind fun r_17=>
   (au 3 r_17.2).bind fun r_18=>
   br (decide (0<=r_18.1)) (
   br (decide (r_18.1.toNat<([0,1,r_17.1]:List Int).length)) (
   (([0,1,r_17.1]:List Int)[r_18.1.toNat]?).bind fun x3=>
   br (bj ((l++([(aC.mk (wrap .i64 (1+b.1)) j.1 r.1 x3)]:List aC)).length) 32) (
   some (.inl ((l++([(aC.mk (wrap .i64 (1+b.1)) j.1 r.1 x3)]:List aC)),(wrap .i64 (e+1)),r_18.2.code,r_18.2.at_,r_18.2.seed))) none) none) none) (
   br (bj ((l++([(aC.mk (wrap .i64 (1+b.1)) j.1 r.1 0)]:List aC)).length) 32) (
   some (.inl ((l++([(aC.mk (wrap .i64 (1+b.1)) j.1 r.1 0)]:List aC)),(wrap .i64 (e+1)),r.2.code,r.2.at_,r.2.seed))) none))) (
   br (r_9==1) (
   (au e b.2).bind fun r_19=>
   br ((wrap .i64 (1+b.1))==3) (
   (b5 r_19.2).bind fun r_20=>
   (au 3 r_20.2).bind fun r_21=>
   br (decide (0<=r_21.1)) (
   br (decide (r_21.1.toNat<([0,1,r_20.1]:List Int).length)) (
   (([0,1,r_20.1]:List Int)[r_21.1.toNat]?).bind fun x4=>
   br (bj ((l++([(aC.mk (wrap .i64 (1+b.1)) r_19.1 0 x4)]:List aC)).length) 32) (
   some (.inl ((l++([(aC.mk (wrap .i64 (1+b.1)) r_19.1 0 x4)]:List aC)),(wrap .i64 (e+1)),r_21.2.code,r_21.2.at_,r_21.2.seed))) none) none) none) (
   br (bj ((l++([(aC.mk (wrap .i64 (1+b.1)) r_19.1 0 0)]:List aC)).length) 32) (
   some (.inl ((l++([(aC.mk (wrap .i64 (1+b.1)) r_19.1 0 0)]:List aC)),(wrap .i64 (e+1)),r_19.2.code,r_19.2.at_,r_19.2.seed))) none)) (
   br ((wrap .i64 (1+b.1))==3) (
   (b5 b.2).bind fun r_22=>
   (au 3 r_22.2).bind fun r_23=>
   br (decide (0<=r_23.1)) (
   br (decide (r_23.1.toNat<([0,1,r_22.1]:List Int).length)) (
   (([0,1,r_22.1]:List Int)[r_23.1.toNat]?).bind fun x5=>
   br (bj ((l++([(aC.mk (wrap .i64 (1+b.1)) 0 0 x5)]:List aC)).length) 32) (
   some (.inl ((l++([(aC.mk (wrap .i64 (1+b.1)) 0 0 x5)]:List aC)),(wrap .i64 (e+1)),r_23.2.code,r_23.2.at_,r_23.2.seed))) none) none) none) (
   br (bj ((l++([(aC.mk (wrap .i64 (1+b.1)) 0 0 0)]:List aC)).length) 32) (
   some (.inl ((l++([(aC.mk (wrap .i64 (1+b.1)) 0 0 0)]:List aC)),(wrap .i64 (e+1)),b.2.code,b.2.at_,b.2.seed))) none))))) (
   (je (wrap .i64 (1+b.1))).bind fun r_24=>
   br (r_24==2) (
   (au e b.2).bind fun n=>
   (au e n.2).bind fun u=>
   br ((wrap .i64 (1+b.1))==7) (
   (cp 5 u.2).bind fun y=>
   br (!y.1) (
   br ((wrap .i64 (1+b.1))==3) (
   (b5 y.2).bind fun r_28=>
   (au 3 r_28.2).bind fun r_29=>
   br (decide (0<=r_29.1)) (
   br (decide (r_29.1.toNat<([0,1,r_28.1]:List Int).length)) (
   (([0,1,r_28.1]:List Int)[r_29.1.toNat]?).bind fun x6=>
   br (bj ((l++([(aC.mk (wrap .i64 (1+b.1)) n.1 n.1 x6)]:List aC)).length) 32) (
   some (.inl ((l++([(aC.mk (wrap .i64 (1+b.1)) n.1 n.1 x6)]:List aC)),(wrap .i64 (e+1)),r_29.2.code,r_29.2.at_,r_29.2.seed))) none) none) none) (
   br (bj ((l++([(aC.mk (wrap .i64 (1+b.1)) n.1 n.1 0)]:List aC)).length) 32) (
   some (.inl ((l++([(aC.mk (wrap .i64 (1+b.1)) n.1 n.1 0)]:List aC)),(wrap .i64 (e+1)),y.2.code,y.2.at_,y.2.seed))) none)) (
   br ((wrap .i64 (1+b.1))==3) (
   (b5 y.2).bind fun r_30=>
   (au 3 r_30.2).bind fun r_31=>
   br (decide (0<=r_31.1)) (
   br (decide (r_31.1.toNat<([0,1,r_30.1]:List Int).length)) (
   (([0,1,r_30.1]:List Int)[r_31.1.toNat]?).bind fun x7=>
   br (bj ((l++([(aC.mk (wrap .i64 (1+b.1)) n.1 u.1 x7)]:List aC)).length) 32) (
   some (.inl ((l++([(aC.mk (wrap .i64 (1+b.1)) n.1 u.1 x7)]:List aC)),(wrap .i64 (e+1)),r_31.2.code,r_31.2.at_,r_31.2.seed))) none) none) none) (
   br (bj ((l++([(aC.mk (wrap .i64 (1+b.1)) n.1 u.1 0)]:List aC)).length) 32) (
   some (.inl ((l++([(aC.mk (wrap .i64 (1+b.1)) n.1 u.1 0)]:List aC)),(wrap .i64 (e+1)),y.2.code,y.2.at_,y.2.seed))) none))) (
   br ((wrap .i64 (1+b.1))==3) (
   (b5 u.2).bind fun r_32=>
   (au 3 r_32.2).bind fun r_33=>
   br (decide (0<=r_33.1)) (
   br (decide (r_33.1.toNat<([0,1,r_32.1]:List Int).length)) (
   (([0,1,r_32.1]:List Int)[r_33.1.toNat]?).bind fun x8=>
   br (bj ((l++([(aC.mk (wrap .i64 (1+b.1)) n.1 u.1 x8)]:List aC)).length) 32) (
   some (.inl ((l++([(aC.mk (wrap .i64 (1+b.1)) n.1 u.1 x8)]:List aC)),(wrap .i64 (e+1)),r_33.2.code,r_33.2.at_,r_33.2.seed))) none) none) none) (
   br (bj ((l++([(aC.mk (wrap .i64 (1+b.1)) n.1 u.1 0)]:List aC)).length) 32) (
   some (.inl ((l++([(aC.mk (wrap .i64 (1+b.1)) n.1 u.1 0)]:List aC)),(wrap .i64 (e+1)),u.2.code,u.2.at_,u.2.seed))) none))) (
   br (r_24==1) (
   (au e b.2).bind fun r_34=>
   br ((wrap .i64 (1+b.1))==3) (
   (b5 r_34.2).bind fun r_35=>
   (au 3 r_35.2).bind fun r_36=>
   br (decide (0<=r_36.1)) (
   br (decide (r_36.1.toNat<([0,1,r_35.1]:List Int).length)) (
   (([0,1,r_35.1]:List Int)[r_36.1.toNat]?).bind fun x9=>
   br (bj ((l++([(aC.mk (wrap .i64 (1+b.1)) r_34.1 0 x9)]:List aC)).length) 32) (
   some (.inl ((l++([(aC.mk (wrap .i64 (1+b.1)) r_34.1 0 x9)]:List aC)),(wrap .i64 (e+1)),r_36.2.code,r_36.2.at_,r_36.2.seed))) none) none) none) (
   br (bj ((l++([(aC.mk (wrap .i64 (1+b.1)) r_34.1 0 0)]:List aC)).length) 32) (
   some (.inl ((l++([(aC.mk (wrap .i64 (1+b.1)) r_34.1 0 0)]:List aC)),(wrap .i64 (e+1)),r_34.2.code,r_34.2.at_,r_34.2.seed))) none)) (
   br ((wrap .i64 (1+b.1))==3) (
   (b5 b.2).bind fun r_37=>
   (au 3 r_37.2).bind fun r_38=>
   br (decide (0<=r_38.1)) (
   br (decide (r_38.1.toNat<([0,1,r_37.1]:List Int).length)) (
   (([0,1,r_37.1]:List Int)[r_38.1.toNat]?).bind fun x10=>
   br (bj ((l++([(aC.mk (wrap .i64 (1+b.1)) 0 0 x10)]:List aC)).length) 32) (
   some (.inl ((l++([(aC.mk (wrap .i64 (1+b.1)) 0 0 x10)]:List aC)),(wrap .i64 (e+1)),r_38.2.code,r_38.2.at_,r_38.2.seed))) none) none) none) (
   br (bj ((l++([(aC.mk (wrap .i64 (1+b.1)) 0 0 0)]:List aC)).length) 32) (
   some (.inl ((l++([(aC.mk (wrap .i64 (1+b.1)) 0 0 0)]:List aC)),(wrap .i64 (e+1)),b.2.code,b.2.at_,b.2.seed))) none))))) (
   (cp 3 d.2).bind fun f=>
   br f.1 (
   (au 3 f.2).bind fun a=>
   br ((wrap .i64 (1+a.1))==2) (
   (mO (Circuit.mk l) 2).bind fun r_41=>
   br (r_41==3) (
   (je 1).bind fun r_42=>
   br (r_42==2) (
   (au e a.2).bind fun r_43=>
   (au e r_43.2).bind fun r_44=>
   br (bj ((l++([(aC.mk 1 r_43.1 r_44.1 0)]:List aC)).length) 32) (
   some (.inl ((l++([(aC.mk 1 r_43.1 r_44.1 0)]:List aC)),(wrap .i64 (e+1)),r_44.2.code,r_44.2.at_,r_44.2.seed))) none) (
   br (r_42==1) (
   (au e a.2).bind fun r_45=>
   br (bj ((l++([(aC.mk 1 r_45.1 0 0)]:List aC)).length) 32) (
   some (.inl ((l++([(aC.mk 1 r_45.1 0 0)]:List aC)),(wrap .i64 (e+1)),r_45.2.code,r_45.2.at_,r_45.2.seed))) none) (
   br (bj ((l++([(aC.mk 1 0 0 0)]:List aC)).length) 32) (
   some (.inl ((l++([(aC.mk 1 0 0 0)]:List aC)),(wrap .i64 (e+1)),a.2.code,a.2.at_,a.2.seed))) none))) (
   (je (wrap .i64 (1+a.1))).bind fun r_46=>
   br (r_46==2) (
   (au e a.2).bind fun m=>
   (au e m.2).bind fun s=>
   br ((wrap .i64 (1+a.1))==7) (
   (cp 5 s.2).bind fun w=>
   br (!w.1) (
   br ((wrap .i64 (1+a.1))==3) (
   (b5 w.2).bind fun r_50=>
   (au 3 r_50.2).bind fun r_51=>
   br (decide (0<=r_51.1)) (
   br (decide (r_51.1.toNat<([0,1,r_50.1]:List Int).length)) (
   (([0,1,r_50.1]:List Int)[r_51.1.toNat]?).bind fun x11=>
   br (bj ((l++([(aC.mk (wrap .i64 (1+a.1)) m.1 m.1 x11)]:List aC)).length) 32) (
   some (.inl ((l++([(aC.mk (wrap .i64 (1+a.1)) m.1 m.1 x11)]:List aC)),(wrap .i64 (e+1)),r_51.2.code,r_51.2.at_,r_51.2.seed))) none) none) none) (
   br (bj ((l++([(aC.mk (wrap .i64 (1+a.1)) m.1 m.1 0)]:List aC)).length) 32) (
   some (.inl ((l++([(aC.mk (wrap .i64 (1+a.1)) m.1 m.1 0)]:List aC)),(wrap .i64 (e+1)),w.2.code,w.2.at_,w.2.seed))) none)) (
   br ((wrap .i64 (1+a.1))==3) (
   (b5 w.2).bind fun r_52=>
   (au 3 r_52.2).bind fun r_53=>
   br (decide (0<=r_53.1)) (
   br (decide (r_53.1.toNat<([0,1,r_52.1]:List Int).length)) (
   (([0,1,r_52.1]:List Int)[r_53.1.toNat]?).bind fun x12=>
   br (bj ((l++([(aC.mk (wrap .i64 (1+a.1)) m.1 s.1 x12)]:List aC)).length) 32) (
   some (.inl ((l++([(aC.mk (wrap .i64 (1+a.1)) m.1 s.1 x12)]:List aC)),(wrap .i64 (e+1)),r_53.2.code,r_53.2.at_,r_53.2.seed))) none) none) none) (
   br (bj ((l++([(aC.mk (wrap .i64 (1+a.1)) m.1 s.1 0)]:List aC)).length) 32) (
   some (.inl ((l++([(aC.mk (wrap .i64 (1+a.1)) m.1 s.1 0)]:List aC)),(wrap .i64 (e+1)),w.2.code,w.2.at_,w.2.seed))) none))) (
   br ((wrap .i64 (1+a.1))==3) (
   (b5 s.2).bind fun r_54=>
   (au 3 r_54.2).bind fun r_55=>
   br (decide (0<=r_55.1)) (
   br (decide (r_55.1.toNat<([0,1,r_54.1]:List Int).length)) (
   (([0,1,r_54.1]:List Int)[r_55.1.toNat]?).bind fun x13=>
   br (bj ((l++([(aC.mk (wrap .i64 (1+a.1)) m.1 s.1 x13)]:List aC)).length) 32) (
   some (.inl ((l++([(aC.mk (wrap .i64 (1+a.1)) m.1 s.1 x13)]:List aC)),(wrap .i64 (e+1)),r_55.2.code,r_55.2.at_,r_55.2.seed))) none) none) none) (
   br (bj ((l++([(aC.mk (wrap .i64 (1+a.1)) m.1 s.1 0)]:List aC)).length) 32) (
   some (.inl ((l++([(aC.mk (wrap .i64 (1+a.1)) m.1 s.1 0)]:List aC)),(wrap .i64 (e+1)),s.2.code,s.2.at_,s.2.seed))) none))) (
   br (r_46==1) (
   (au e a.2).bind fun r_56=>
   br ((wrap .i64 (1+a.1))==3) (
   (b5 r_56.2).bind fun r_57=>
   (au 3 r_57.2).bind fun r_58=>
   br (decide (0<=r_58.1)) (
   br (decide (r_58.1.toNat<([0,1,r_57.1]:List Int).length)) (
   (([0,1,r_57.1]:List Int)[r_58.1.toNat]?).bind fun x14=>
   br (bj ((l++([(aC.mk (wrap .i64 (1+a.1)) r_56.1 0 x14)]:List aC)).length) 32) (
   some (.inl ((l++([(aC.mk (wrap .i64 (1+a.1)) r_56.1 0 x14)]:List aC)),(wrap .i64 (e+1)),r_58.2.code,r_58.2.at_,r_58.2.seed))) none) none) none) (
   br (bj ((l++([(aC.mk (wrap .i64 (1+a.1)) r_56.1 0 0)]:List aC)).length) 32) (
   some (.inl ((l++([(aC.mk (wrap .i64 (1+a.1)) r_56.1 0 0)]:List aC)),(wrap .i64 (e+1)),r_56.2.code,r_56.2.at_,r_56.2.seed))) none)) (
   br ((wrap .i64 (1+a.1))==3) (
   (b5 a.2).bind fun r_59=>
   (au 3 r_59.2).bind fun r_60=>
   br (decide (0<=r_60.1)) (
   br (decide (r_60.1.toNat<([0,1,r_59.1]:List Int).length)) (
   (([0,1,r_59.1]:List Int)[r_60.1.toNat]?).bind fun x15=>
   br (bj ((l++([(aC.mk (wrap .i64 (1+a.1)) 0 0 x15)]:List aC)).length) 32) (
   some (.inl ((l++([(aC.mk (wrap .i64 (1+a.1)) 0 0 x15)]:List aC)),(wrap .i64 (e+1)),r_60.2.code,r_60.2.at_,r_60.2.seed))) none) none) none) (
   br (bj ((l++([(aC.mk (wrap .i64 (1+a.1)) 0 0 0)]:List aC)).length) 32) (
   some (.inl ((l++([(aC.mk (wrap .i64 (1+a.1)) 0 0 0)]:List aC)),(wrap .i64 (e+1)),a.2.code,a.2.at_,a.2.seed))) none))))) (
   (je (wrap .i64 (1+a.1))).bind fun r_61=>
   br (r_61==2) (
   (au e a.2).bind fun i=>
   (au e i.2).bind fun o=>
   br ((wrap .i64 (1+a.1))==7) (
   (cp 5 o.2).bind fun r_64=>
   br (!r_64.1) (
   br ((wrap .i64 (1+a.1))==3) (
   (b5 r_64.2).bind fun r_65=>
   (au 3 r_65.2).bind fun r_66=>
   br (decide (0<=r_66.1)) (
   br (decide (r_66.1.toNat<([0,1,r_65.1]:List Int).length)) (
   (([0,1,r_65.1]:List Int)[r_66.1.toNat]?).bind fun x16=>
   br (bj ((l++([(aC.mk (wrap .i64 (1+a.1)) i.1 i.1 x16)]:List aC)).length) 32) (
   some (.inl ((l++([(aC.mk (wrap .i64 (1+a.1)) i.1 i.1 x16)]:List aC)),(wrap .i64 (e+1)),r_66.2.code,r_66.2.at_,r_66.2.seed))) none) none) none) (
   br (bj ((l++([(aC.mk (wrap .i64 (1+a.1)) i.1 i.1 0)]:List aC)).length) 32) (
   some (.inl ((l++([(aC.mk (wrap .i64 (1+a.1)) i.1 i.1 0)]:List aC)),(wrap .i64 (e+1)),r_64.2.code,r_64.2.at_,r_64.2.seed))) none)) (
   br ((wrap .i64 (1+a.1))==3) (
   (b5 r_64.2).bind fun r_67=>
   (au 3 r_67.2).bind fun r_68=>
   br (decide (0<=r_68.1)) (
   br (decide (r_68.1.toNat<([0,1,r_67.1]:List Int).length)) (
   (([0,1,r_67.1]:List Int)[r_68.1.toNat]?).bind fun x17=>
   br (bj ((l++([(aC.mk (wrap .i64 (1+a.1)) i.1 o.1 x17)]:List aC)).length) 32) (
   some (.inl ((l++([(aC.mk (wrap .i64 (1+a.1)) i.1 o.1 x17)]:List aC)),(wrap .i64 (e+1)),r_68.2.code,r_68.2.at_,r_68.2.seed))) none) none) none) (
   br (bj ((l++([(aC.mk (wrap .i64 (1+a.1)) i.1 o.1 0)]:List aC)).length) 32) (
   some (.inl ((l++([(aC.mk (wrap .i64 (1+a.1)) i.1 o.1 0)]:List aC)),(wrap .i64 (e+1)),r_64.2.code,r_64.2.at_,r_64.2.seed))) none))) (
   br ((wrap .i64 (1+a.1))==3) (
   (b5 o.2).bind fun r_69=>
   (au 3 r_69.2).bind fun r_70=>
   br (decide (0<=r_70.1)) (
   br (decide (r_70.1.toNat<([0,1,r_69.1]:List Int).length)) (
   (([0,1,r_69.1]:List Int)[r_70.1.toNat]?).bind fun x18=>
   br (bj ((l++([(aC.mk (wrap .i64 (1+a.1)) i.1 o.1 x18)]:List aC)).length) 32) (
   some (.inl ((l++([(aC.mk (wrap .i64 (1+a.1)) i.1 o.1 x18)]:List aC)),(wrap .i64 (e+1)),r_70.2.code,r_70.2.at_,r_70.2.seed))) none) none) none) (
   br (bj ((l++([(aC.mk (wrap .i64 (1+a.1)) i.1 o.1 0)]:List aC)).length) 32) (
   some (.inl ((l++([(aC.mk (wrap .i64 (1+a.1)) i.1 o.1 0)]:List aC)),(wrap .i64 (e+1)),o.2.code,o.2.at_,o.2.seed))) none))) (
   br (r_61==1) (
   (au e a.2).bind fun r_71=>
   br ((wrap .i64 (1+a.1))==3) (
   (b5 r_71.2).bind fun r_72=>
   (au 3 r_72.2).bind fun r_73=>
   br (decide (0<=r_73.1)) (
   br (decide (r_73.1.toNat<([0,1,r_72.1]:List Int).length)) (
   (([0,1,r_72.1]:List Int)[r_73.1.toNat]?).bind fun x19=>
   br (bj ((l++([(aC.mk (wrap .i64 (1+a.1)) r_71.1 0 x19)]:List aC)).length) 32) (
   some (.inl ((l++([(aC.mk (wrap .i64 (1+a.1)) r_71.1 0 x19)]:List aC)),(wrap .i64 (e+1)),r_73.2.code,r_73.2.at_,r_73.2.seed))) none) none) none) (
   br (bj ((l++([(aC.mk (wrap .i64 (1+a.1)) r_71.1 0 0)]:List aC)).length) 32) (
   some (.inl ((l++([(aC.mk (wrap .i64 (1+a.1)) r_71.1 0 0)]:List aC)),(wrap .i64 (e+1)),r_71.2.code,r_71.2.at_,r_71.2.seed))) none)) (
   br ((wrap .i64 (1+a.1))==3) (
   (b5 a.2).bind fun r_74=>
   (au 3 r_74.2).bind fun r_75=>
   br (decide (0<=r_75.1)) (
   br (decide (r_75.1.toNat<([0,1,r_74.1]:List Int).length)) (
   (([0,1,r_74.1]:List Int)[r_75.1.toNat]?).bind fun x20=>
   br (bj ((l++([(aC.mk (wrap .i64 (1+a.1)) 0 0 x20)]:List aC)).length) 32) (
   some (.inl ((l++([(aC.mk (wrap .i64 (1+a.1)) 0 0 x20)]:List aC)),(wrap .i64 (e+1)),r_75.2.code,r_75.2.at_,r_75.2.seed))) none) none) none) (
   br (bj ((l++([(aC.mk (wrap .i64 (1+a.1)) 0 0 0)]:List aC)).length) 32) (
   some (.inl ((l++([(aC.mk (wrap .i64 (1+a.1)) 0 0 0)]:List aC)),(wrap .i64 (e+1)),a.2.code,a.2.at_,a.2.seed))) none))))) (
   br ((wrap .i64 (1+d.1))==2) (
   (mO (Circuit.mk l) 2).bind fun r_76=>
   br (r_76==3) (
   (je 1).bind fun r_77=>
   br (r_77==2) (
   (au e f.2).bind fun r_78=>
   (au e r_78.2).bind fun r_79=>
   br (bj ((l++([(aC.mk 1 r_78.1 r_79.1 0)]:List aC)).length) 32) (
   some (.inl ((l++([(aC.mk 1 r_78.1 r_79.1 0)]:List aC)),(wrap .i64 (e+1)),r_79.2.code,r_79.2.at_,r_79.2.seed))) none) (
   br (r_77==1) (
   (au e f.2).bind fun r_80=>
   br (bj ((l++([(aC.mk 1 r_80.1 0 0)]:List aC)).length) 32) (
   some (.inl ((l++([(aC.mk 1 r_80.1 0 0)]:List aC)),(wrap .i64 (e+1)),r_80.2.code,r_80.2.at_,r_80.2.seed))) none) (
   br (bj ((l++([(aC.mk 1 0 0 0)]:List aC)).length) 32) (
   some (.inl ((l++([(aC.mk 1 0 0 0)]:List aC)),(wrap .i64 (e+1)),f.2.code,f.2.at_,f.2.seed))) none))) (
   (je (wrap .i64 (1+d.1))).bind fun r_81=>
   br (r_81==2) (
   (au e f.2).bind fun h=>
   (au e h.2).bind fun q=>
   br ((wrap .i64 (1+d.1))==7) (
   (cp 5 q.2).bind fun z=>
   br (!z.1) (
   br ((wrap .i64 (1+d.1))==3) (
   (b5 z.2).bind fun r_85=>
   (au 3 r_85.2).bind fun r_86=>
   br (decide (0<=r_86.1)) (
   br (decide (r_86.1.toNat<([0,1,r_85.1]:List Int).length)) (
   (([0,1,r_85.1]:List Int)[r_86.1.toNat]?).bind fun x21=>
   br (bj ((l++([(aC.mk (wrap .i64 (1+d.1)) h.1 h.1 x21)]:List aC)).length) 32) (
   some (.inl ((l++([(aC.mk (wrap .i64 (1+d.1)) h.1 h.1 x21)]:List aC)),(wrap .i64 (e+1)),r_86.2.code,r_86.2.at_,r_86.2.seed))) none) none) none) (
   br (bj ((l++([(aC.mk (wrap .i64 (1+d.1)) h.1 h.1 0)]:List aC)).length) 32) (
   some (.inl ((l++([(aC.mk (wrap .i64 (1+d.1)) h.1 h.1 0)]:List aC)),(wrap .i64 (e+1)),z.2.code,z.2.at_,z.2.seed))) none)) (
   br ((wrap .i64 (1+d.1))==3) (
   (b5 z.2).bind fun r_87=>
   (au 3 r_87.2).bind fun r_88=>
   br (decide (0<=r_88.1)) (
   br (decide (r_88.1.toNat<([0,1,r_87.1]:List Int).length)) (
   (([0,1,r_87.1]:List Int)[r_88.1.toNat]?).bind fun x22=>
   br (bj ((l++([(aC.mk (wrap .i64 (1+d.1)) h.1 q.1 x22)]:List aC)).length) 32) (
   some (.inl ((l++([(aC.mk (wrap .i64 (1+d.1)) h.1 q.1 x22)]:List aC)),(wrap .i64 (e+1)),r_88.2.code,r_88.2.at_,r_88.2.seed))) none) none) none) (
   br (bj ((l++([(aC.mk (wrap .i64 (1+d.1)) h.1 q.1 0)]:List aC)).length) 32) (
   some (.inl ((l++([(aC.mk (wrap .i64 (1+d.1)) h.1 q.1 0)]:List aC)),(wrap .i64 (e+1)),z.2.code,z.2.at_,z.2.seed))) none))) (
   br ((wrap .i64 (1+d.1))==3) (
   (b5 q.2).bind fun r_89=>
   (au 3 r_89.2).bind fun r_90=>
   br (decide (0<=r_90.1)) (
   br (decide (r_90.1.toNat<([0,1,r_89.1]:List Int).length)) (
   (([0,1,r_89.1]:List Int)[r_90.1.toNat]?).bind fun x23=>
   br (bj ((l++([(aC.mk (wrap .i64 (1+d.1)) h.1 q.1 x23)]:List aC)).length) 32) (
   some (.inl ((l++([(aC.mk (wrap .i64 (1+d.1)) h.1 q.1 x23)]:List aC)),(wrap .i64 (e+1)),r_90.2.code,r_90.2.at_,r_90.2.seed))) none) none) none) (
   br (bj ((l++([(aC.mk (wrap .i64 (1+d.1)) h.1 q.1 0)]:List aC)).length) 32) (
   some (.inl ((l++([(aC.mk (wrap .i64 (1+d.1)) h.1 q.1 0)]:List aC)),(wrap .i64 (e+1)),q.2.code,q.2.at_,q.2.seed))) none))) (
   br (r_81==1) (
   (au e f.2).bind fun r_91=>
   br ((wrap .i64 (1+d.1))==3) (
   (b5 r_91.2).bind fun r_92=>
   (au 3 r_92.2).bind fun r_93=>
   br (decide (0<=r_93.1)) (
   br (decide (r_93.1.toNat<([0,1,r_92.1]:List Int).length)) (
   (([0,1,r_92.1]:List Int)[r_93.1.toNat]?).bind fun x24=>
   br (bj ((l++([(aC.mk (wrap .i64 (1+d.1)) r_91.1 0 x24)]:List aC)).length) 32) (
   some (.inl ((l++([(aC.mk (wrap .i64 (1+d.1)) r_91.1 0 x24)]:List aC)),(wrap .i64 (e+1)),r_93.2.code,r_93.2.at_,r_93.2.seed))) none) none) none) (
   br (bj ((l++([(aC.mk (wrap .i64 (1+d.1)) r_91.1 0 0)]:List aC)).length) 32) (
   some (.inl ((l++([(aC.mk (wrap .i64 (1+d.1)) r_91.1 0 0)]:List aC)),(wrap .i64 (e+1)),r_91.2.code,r_91.2.at_,r_91.2.seed))) none)) (
   br ((wrap .i64 (1+d.1))==3) (
   (b5 f.2).bind fun r_94=>
   (au 3 r_94.2).bind fun r_95=>
   br (decide (0<=r_95.1)) (
   br (decide (r_95.1.toNat<([0,1,r_94.1]:List Int).length)) (
   (([0,1,r_94.1]:List Int)[r_95.1.toNat]?).bind fun x25=>
   br (bj ((l++([(aC.mk (wrap .i64 (1+d.1)) 0 0 x25)]:List aC)).length) 32) (
   some (.inl ((l++([(aC.mk (wrap .i64 (1+d.1)) 0 0 x25)]:List aC)),(wrap .i64 (e+1)),r_95.2.code,r_95.2.at_,r_95.2.seed))) none) none) none) (
   br (bj ((l++([(aC.mk (wrap .i64 (1+d.1)) 0 0 0)]:List aC)).length) 32) (
   some (.inl ((l++([(aC.mk (wrap .i64 (1+d.1)) 0 0 0)]:List aC)),(wrap .i64 (e+1)),f.2.code,f.2.at_,f.2.seed))) none))))) (
   (je (wrap .i64 (1+d.1))).bind fun r_96=>
   br (r_96==2) (
   (au e f.2).bind fun k=>
   (au e k.2).bind fun p=>
   br ((wrap .i64 (1+d.1))==7) (
   (cp 5 p.2).bind fun r_99=>
   br (!r_99.1) (
   br ((wrap .i64 (1+d.1))==3) (
   (b5 r_99.2).bind fun r_100=>
   (au 3 r_100.2).bind fun r_101=>
   br (decide (0<=r_101.1)) (
   br (decide (r_101.1.toNat<([0,1,r_100.1]:List Int).length)) (
   (([0,1,r_100.1]:List Int)[r_101.1.toNat]?).bind fun x26=>
   br (bj ((l++([(aC.mk (wrap .i64 (1+d.1)) k.1 k.1 x26)]:List aC)).length) 32) (
   some (.inl ((l++([(aC.mk (wrap .i64 (1+d.1)) k.1 k.1 x26)]:List aC)),(wrap .i64 (e+1)),r_101.2.code,r_101.2.at_,r_101.2.seed))) none) none) none) (
   br (bj ((l++([(aC.mk (wrap .i64 (1+d.1)) k.1 k.1 0)]:List aC)).length) 32) (
   some (.inl ((l++([(aC.mk (wrap .i64 (1+d.1)) k.1 k.1 0)]:List aC)),(wrap .i64 (e+1)),r_99.2.code,r_99.2.at_,r_99.2.seed))) none)) (
   br ((wrap .i64 (1+d.1))==3) (
   (b5 r_99.2).bind fun r_102=>
   (au 3 r_102.2).bind fun r_103=>
   br (decide (0<=r_103.1)) (
   br (decide (r_103.1.toNat<([0,1,r_102.1]:List Int).length)) (
   (([0,1,r_102.1]:List Int)[r_103.1.toNat]?).bind fun x27=>
   br (bj ((l++([(aC.mk (wrap .i64 (1+d.1)) k.1 p.1 x27)]:List aC)).length) 32) (
   some (.inl ((l++([(aC.mk (wrap .i64 (1+d.1)) k.1 p.1 x27)]:List aC)),(wrap .i64 (e+1)),r_103.2.code,r_103.2.at_,r_103.2.seed))) none) none) none) (
   br (bj ((l++([(aC.mk (wrap .i64 (1+d.1)) k.1 p.1 0)]:List aC)).length) 32) (
   some (.inl ((l++([(aC.mk (wrap .i64 (1+d.1)) k.1 p.1 0)]:List aC)),(wrap .i64 (e+1)),r_99.2.code,r_99.2.at_,r_99.2.seed))) none))) (
   br ((wrap .i64 (1+d.1))==3) (
   (b5 p.2).bind fun r_104=>
   (au 3 r_104.2).bind fun r_105=>
   br (decide (0<=r_105.1)) (
   br (decide (r_105.1.toNat<([0,1,r_104.1]:List Int).length)) (
   (([0,1,r_104.1]:List Int)[r_105.1.toNat]?).bind fun x28=>
   br (bj ((l++([(aC.mk (wrap .i64 (1+d.1)) k.1 p.1 x28)]:List aC)).length) 32) (
   some (.inl ((l++([(aC.mk (wrap .i64 (1+d.1)) k.1 p.1 x28)]:List aC)),(wrap .i64 (e+1)),r_105.2.code,r_105.2.at_,r_105.2.seed))) none) none) none) (
   br (bj ((l++([(aC.mk (wrap .i64 (1+d.1)) k.1 p.1 0)]:List aC)).length) 32) (
   some (.inl ((l++([(aC.mk (wrap .i64 (1+d.1)) k.1 p.1 0)]:List aC)),(wrap .i64 (e+1)),p.2.code,p.2.at_,p.2.seed))) none))) (
   br (r_96==1) (
   (au e f.2).bind fun v=>
   br ((wrap .i64 (1+d.1))==3) (
   (b5 v.2).bind fun r_107=>
   (au 3 r_107.2).bind fun r_108=>
   br (decide (0<=r_108.1)) (
   br (decide (r_108.1.toNat<([0,1,r_107.1]:List Int).length)) (
   (([0,1,r_107.1]:List Int)[r_108.1.toNat]?).bind fun x29=>
   br (bj ((l++([(aC.mk (wrap .i64 (1+d.1)) v.1 0 x29)]:List aC)).length) 32) (
   some (.inl ((l++([(aC.mk (wrap .i64 (1+d.1)) v.1 0 x29)]:List aC)),(wrap .i64 (e+1)),r_108.2.code,r_108.2.at_,r_108.2.seed))) none) none) none) (
   br (bj ((l++([(aC.mk (wrap .i64 (1+d.1)) v.1 0 0)]:List aC)).length) 32) (
   some (.inl ((l++([(aC.mk (wrap .i64 (1+d.1)) v.1 0 0)]:List aC)),(wrap .i64 (e+1)),v.2.code,v.2.at_,v.2.seed))) none)) (
   br ((wrap .i64 (1+d.1))==3) (
   (b5 f.2).bind fun r_109=>
   (au 3 r_109.2).bind fun r_110=>
   br (decide (0<=r_110.1)) (
   br (decide (r_110.1.toNat<([0,1,r_109.1]:List Int).length)) (
   (([0,1,r_109.1]:List Int)[r_110.1.toNat]?).bind fun x30=>
   br (bj ((l++([(aC.mk (wrap .i64 (1+d.1)) 0 0 x30)]:List aC)).length) 32) (
   some (.inl ((l++([(aC.mk (wrap .i64 (1+d.1)) 0 0 x30)]:List aC)),(wrap .i64 (e+1)),r_110.2.code,r_110.2.at_,r_110.2.seed))) none) none) none) (
   br (bj ((l++([(aC.mk (wrap .i64 (1+d.1)) 0 0 0)]:List aC)).length) 32) (
   some (.inl ((l++([(aC.mk (wrap .i64 (1+d.1)) 0 0 0)]:List aC)),(wrap .i64 (e+1)),f.2.code,f.2.at_,f.2.seed))) none))))))) (
   some (.inr (l,e,decide (e<t),c,c2,c3)))
def G3 {t}:LXe tab ow (.close [7001,7004,8004,9001,10005,12002,14002,15002,16005,19002,21001,21002,21004,22003,22004]) y7 (jn t) (fun s=>⟨[(0,.ptr 0 0 0 1),(2,.ptr 1000 0 0 1),(3,.ptr 2002 0 0 1),(4,I t),(5,I s.2.1)],[(0,⟨3,true,[[sl eU8 s.2.2.1,I s.2.2.2.1,I s.2.2.2.2]]⟩),(1000,⟨1,true,[[.lit (.slice none 0 0)]]⟩),(2000,⟨4,false,rws er s.1⟩),(2002,⟨1,true,[[.sl 2000 0 s.1.length]]⟩)]⟩) 0 (fun e=>(e.1,e.2.1,e.2.2.2.1,e.2.2.2.2.1,e.2.2.2.2.2)) (fun e=>[(14,B e.2.2.1)]):=by
 refine lrX (fun s o h=> ?_)
 obtain ⟨_,_,_,_,_⟩:=s
 simp only [jn] at h
 simp only [y7,y6]
 have d1:= @fQ
 have d2:= @El
 have d3:= @a0P
 have d4:= @iu
 have d5:= @nS
 exact go2
def kI (m:bV):Option (Circuit×bV):=
 (au 9 m).bind fun b=>
 (Loop (jn (wrap .i64 (1+b.1))) (([]:List aC),0,b.2.code,b.2.at_,b.2.seed)).bind fun a=>
 some ((Circuit.mk a.1),(bV.mk a.2.2.2.1 a.2.2.2.2.1 a.2.2.2.2.2))
def AL {m r} (h:kI m=some r):Call tab ow 91 [.ptr 0 0 0 1] [⟨3,true,[[sl eU8 m.code,I m.at_,I m.seed]]⟩]=some (.agg [sl er r.1.Gates],[⟨3,true,[[sl eU8 r.2.code,I r.2.at_,I r.2.seed]]⟩]):=by
 rw [ak (af:=oC) rfl]
 unfold kI at h
 simp only [oC,ug]
 have d1:= @fQ
 have d2:= @G3
 exact go2
end
section
@[local go_sem] theorem o8:mkR 2000 []=rws eI []:=rfl
@[local go_sem] theorem a3A:mkR 2001 []=rws eI []:=rfl
@[local go_sem] theorem Kg:mkR 6000 []=rws eI []:=rfl
@[local go_sem] theorem a2H:mkR 13007 []=rws eI []:=rfl
def fk (j i:List Int) (h:List aC):(List Int)×Int×(List UInt8)×Int×Int->Option (((List Int)×Int×(List UInt8)×Int×Int)⊕(((List Int)×Int×Bool×(List UInt8)×Int×Int)))
 | (l,k,e,d,f)=>
   br (decide (k>0)) (
   (au 2 (bV.mk e d f)).bind fun c=>
   (cp 5 c.2).bind fun b=>
   br b.1 (
   (b5 b.2).bind fun a=>
   br (bj ((l++([a.1]:List Int)).length) 8) (
   some (.inl ((l++([a.1]:List Int)),(wrap .i64 (k-1)),a.2.code,a.2.at_,a.2.seed))) none) (
   br (bj ((l++([c.1]:List Int)).length) 8) (
   some (.inl ((l++([c.1]:List Int)),(wrap .i64 (k-1)),b.2.code,b.2.at_,b.2.seed))) none)) (
   some (.inr (l,k,decide (k>0),e,d,f)))
def Ij {a c b}:LXe tab ow (.close [10001,11001,12001,13007,13008]) nf (fk a c b) (fun s=>⟨[(0,.ptr 0 0 0 1),(3,.ptr 1000 0 0 1),(6,.sl 2002 0 2),(7,I 0),(9,I s.2.1)],[(0,⟨3,true,[[sl eU8 s.2.2.1,I s.2.2.2.1,I s.2.2.2.2]]⟩),(1000,⟨1,true,[[sl er b]]⟩),(2000,⟨1,false,rws eI s.1⟩),(2001,⟨1,false,rws eI a⟩),(2002,⟨1,true,[[.sl 2000 0 s.1.length],[.sl 2001 0 a.length]]⟩),(6000,⟨1,false,rws eI c⟩)]⟩) 2 (fun e=>(e.1,e.2.1,e.2.2.2.1,e.2.2.2.2.1,e.2.2.2.2.2)) (fun e=>[(26,B e.2.2.1)]):=by
 refine lrX (fun s o h=> ?_)
 obtain ⟨_,_,_,_,_⟩:=s
 simp only [fk] at h
 simp only [nf,sR]
 have d1:= @fQ
 have d2:= @iu
 have d3:= @nS
 exact go2
def k9 (j l:List Int) (k:List aC):(List Int)×Int×(List UInt8)×Int×Int->Option (((List Int)×Int×(List UInt8)×Int×Int)⊕(((List Int)×Int×Bool×(List UInt8)×Int×Int)))
 | (d,e,i,f,h)=>
   br (decide (e>0)) (
   (au 2 (bV.mk i f h)).bind fun c=>
   (cp 5 c.2).bind fun b=>
   br b.1 (
   (b5 b.2).bind fun a=>
   br (bj ((d++([a.1]:List Int)).length) 8) (
   some (.inl ((d++([a.1]:List Int)),(wrap .i64 (e-1)),a.2.code,a.2.at_,a.2.seed))) none) (
   br (bj ((d++([c.1]:List Int)).length) 8) (
   some (.inl ((d++([c.1]:List Int)),(wrap .i64 (e-1)),b.2.code,b.2.at_,b.2.seed))) none)) (
   some (.inr (d,e,decide (e>0),i,f,h)))
def I6 {a b c}:LXe tab ow (.close [10001,11001,12001,13007,13008]) nf (k9 a b c) (fun s=>⟨[(0,.ptr 0 0 0 1),(3,.ptr 1000 0 0 1),(6,.sl 2002 0 2),(7,I 1),(9,I s.2.1)],[(0,⟨3,true,[[sl eU8 s.2.2.1,I s.2.2.2.1,I s.2.2.2.2]]⟩),(1000,⟨1,true,[[sl er c]]⟩),(2000,⟨1,false,rws eI a⟩),(2001,⟨1,false,rws eI s.1⟩),(2002,⟨1,true,[[.sl 2000 0 a.length],[.sl 2001 0 s.1.length]]⟩),(6000,⟨1,false,rws eI b⟩)]⟩) 2 (fun e=>(e.1,e.2.1,e.2.2.2.1,e.2.2.2.2.1,e.2.2.2.2.2)) (fun e=>[(26,B e.2.2.1)]):=by
 refine lrX (fun s o h=> ?_)
 obtain ⟨_,_,_,_,_⟩:=s
 simp only [k9] at h
 simp only [nf,sR]
 have d1:= @fQ
 have d2:= @iu
 have d3:= @nS
 exact go2
def mf (c:Circuit) (m:bV):Option ((List Int)×(List Int)×bV):=
 (mO c 2).bind fun e=>
 (Loop (fk ([]:List Int) ([2,1]:List Int) c.Gates) (([]:List Int),e,m.code,m.at_,m.seed)).bind fun b=>
 (mO c 1).bind fun d=>
 (Loop (k9 b.1 ([2,1]:List Int) c.Gates) (([]:List Int),d,b.2.2.2.1,b.2.2.2.2.1,b.2.2.2.2.2)).bind fun a=>
 some (b.1,a.1,(bV.mk a.2.2.2.1 a.2.2.2.2.1 a.2.2.2.2.2))
def Bv {c m r} (h:mf c m=some r):Call tab ow 92 [.ptr 0 0 0 1,.agg [sl er c.Gates]] [⟨3,true,[[sl eU8 m.code,I m.at_,I m.seed]]⟩]=some (.tup [sl eI r.1,sl eI r.2.1],[⟨3,true,[[sl eU8 r.2.2.code,I r.2.2.at_,I r.2.2.seed]]⟩]):=by
 rw [ak (af:=pX) rfl]
 unfold mf at h
 simp+decide only [pX,pU,go_sem,reduceIte,Nat.reduceAdd,Int.reduceAdd,Int.reduceMul,Int.reduceSub]
 refine g8 ?_
 simp+decide only [mkL,go_sem,reduceIte,Nat.reduceAdd,Int.reduceAdd,Int.reduceMul,Int.reduceSub]
 obtain ⟨r_,h1,h⟩:=bd h
 refine dq (El h1) ?_
 simp+decide only [go_sem,reduceIte,Nat.reduceAdd,Int.reduceAdd,Int.reduceMul,Int.reduceSub]
 obtain ⟨e_,h1,h⟩:=bd h
 refine E5 (lxE Ij h1) ?_
 simp+decide only [go_sem,reduceIte,Nat.reduceAdd,Int.reduceAdd,Int.reduceMul,Int.reduceSub]
 refine g8 ?_
 simp+decide only [mkL,go_sem,reduceIte,Nat.reduceAdd,Int.reduceAdd,Int.reduceMul,Int.reduceSub]
 obtain ⟨r_5,h1,h⟩:=bd h
 refine dq (El h1) ?_
 simp+decide only [go_sem,reduceIte,Nat.reduceAdd,Int.reduceAdd,Int.reduceMul,Int.reduceSub]
 obtain ⟨e_2,h1,h⟩:=bd h
 refine E5 (lxE I6 h1) ?_
 simp+decide only [go_sem,reduceIte,Nat.reduceAdd,Int.reduceAdd,Int.reduceMul,Int.reduceSub]
 refine g8 ?_
 simp+decide only [mkL,go_sem,reduceIte,Nat.reduceAdd,Int.reduceAdd,Int.reduceMul,Int.reduceSub]
 obtain rfl:=cS h
 first|rfl| (simp only [aO,go_sem];done)
end
def Gf (a b:Int):Option Int:=
 some ((wrap .i64 (a+b)).tmod 2130706433)
def a2E {a b r} (h:Gf a b=some r):Call tab ow 243 [I a,I b] []=some (I r,[]):=by
 rw [ak (af:=DC) rfl]
 unfold Gf at h
 simp only [DC,QI]
 exact go2
def GX (a b:Int):Option Int:=
 some ((wrap .i64 ((wrap .i64 (a+2130706433))-b)).tmod 2130706433)
def a3F {a b r} (h:GX a b=some r):Call tab ow 244 [I a,I b] []=some (I r,[]):=by
 rw [ak (af:=Ee) rfl]
 unfold GX at h
 simp only [Ee,Qg]
 exact go2
def GK (a b:Int):Option Int:=
 some ((wrap .i64 (a*b)).tmod 2130706433)
def a4m {a b r} (h:GK a b=some r):Call tab ow 245 [I a,I b] []=some (I r,[]):=by
 rw [ak (af:=EK) rfl]
 unfold GK at h
 simp only [EK,SQ]
 exact go2
section
attribute [local go_sem] o8
@[local go_sem] theorem c0z:mkR 26002 []=rws eI []:=rfl
def rZ (t q:List Int) (c:List aC):(List Int)×Int×Int×Int->Option (((List Int)×Int×Int×Int)⊕(((List Int)×Int×Int×Int×Bool)))
 | (l,b,d,a)=>
   br (decide (a<(c.length:Int))) (
   (atL c a).bind fun x=>
   br (x.Op==1) (
   (atL q d).bind fun i=>
   br (bj ((l++([i]:List Int)).length) 8) (
   some (.inl ((l++([i]:List Int)),b,(wrap .i64 (d+1)),(wrap .i64 (a+1))))) none) (
   br (x.Op==2) (
   (atL t b).bind fun j=>
   br (bj ((l++([j]:List Int)).length) 8) (
   some (.inl ((l++([j]:List Int)),(wrap .i64 (b+1)),d,(wrap .i64 (a+1))))) none) (
   br (x.Op==3) (
   br (bj ((l++([x.K]:List Int)).length) 8) (
   some (.inl ((l++([x.K]:List Int)),b,d,(wrap .i64 (a+1))))) none) (
   br (x.Op==4) (
   br (decide (0<=x.A)) (
   br (decide (x.A.toNat<l.length)) (
   (l[x.A.toNat]?).bind fun o=>
   br (decide (0<=x.B)) (
   br (decide (x.B.toNat<l.length)) (
   (l[x.B.toNat]?).bind fun r=>
   (Gf o r).bind fun k=>
   br (bj ((l++([k]:List Int)).length) 8) (
   some (.inl ((l++([k]:List Int)),b,d,(wrap .i64 (a+1))))) none) none) none) none) none) (
   br (x.Op==5) (
   br (decide (0<=x.A)) (
   br (decide (x.A.toNat<l.length)) (
   (l[x.A.toNat]?).bind fun m=>
   br (decide (0<=x.B)) (
   br (decide (x.B.toNat<l.length)) (
   (l[x.B.toNat]?).bind fun s=>
   (GX m s).bind fun h=>
   br (bj ((l++([h]:List Int)).length) 8) (
   some (.inl ((l++([h]:List Int)),b,d,(wrap .i64 (a+1))))) none) none) none) none) none) (
   br (x.Op==6) (
   br (decide (0<=x.A)) (
   br (decide (x.A.toNat<l.length)) (
   (l[x.A.toNat]?).bind fun p=>
   br (decide (0<=x.B)) (
   br (decide (x.B.toNat<l.length)) (
   (l[x.B.toNat]?).bind fun n=>
   (GK p n).bind fun f=>
   br (bj ((l++([f]:List Int)).length) 8) (
   some (.inl ((l++([f]:List Int)),b,d,(wrap .i64 (a+1))))) none) none) none) none) none) (
   br (decide (0<=x.A)) (
   br (decide (x.A.toNat<l.length)) (
   (l[x.A.toNat]?).bind fun e=>
   br (bj ((l++([e]:List Int)).length) 8) (
   some (.inl ((l++([e]:List Int)),b,d,(wrap .i64 (a+1))))) none) none) none))))))) (
   some (.inr (l,b,d,a,decide (a<(c.length:Int)))))
def WL {t a c}:LXe tab ow (.close [8005,21010,23010,25010,26002,26003]) Mz (rZ t a c) (fun s=>⟨[(1,sl eI t),(2,sl eI a),(3,.ptr 1000 0 0 1),(7,.sl 2000 0 s.1.length),(8,I s.2.1),(9,I s.2.2.1),(10,I s.2.2.2)],[(1000,⟨1,true,[[sl er c]]⟩),(2000,⟨1,false,rws eI s.1⟩)]⟩) 0 (fun e=>(e.1,e.2.1,e.2.2.1,e.2.2.2.1)) (fun e=>[(18,B e.2.2.2.2)]):=by
 refine lrX (fun s o h=> ?_)
 obtain ⟨_,_,_,_⟩:=s
 simp only [rZ] at h
 simp only [Mz,Lf]
 have d1:= @a2E
 have d2:= @a3F
 have d3:= @a4m
 exact go2
def GI (b:Circuit) (a d:List Int):Option (List Int):=
 (Loop (rZ a d b.Gates) (([]:List Int),0,0,0)).bind fun c=>
 some c.1
def a3Q {b a c r} (h:GI b a c=some r):Call tab ow 125 [.agg [sl er b.Gates],sl eI a,sl eI c] []=some (sl eI r,[]):=by
 rw [ak (af:=E0) rfl]
 unfold GI at h
 simp only [E0,Kc]
 have d1:= @WL
 exact go2
end
end
end Go.AI.Fn
set_option linter.unusedVariables false
set_option linter.unusedSimpArgs false
set_option maxRecDepth 100000
set_option maxHeartbeats 1000000
namespace Go.AI.Fn
noncomputable section
open IntKind (wrap)
def ji (a:List Int) (b:List aC):Int->Option ((Int)⊕((Int×Int×Int×Int)⊕(Int×Bool)))
 |k=>
  br (decide (k<(b.length:Int))) (
  (atL b k).bind fun x=>
  br (x.Op==7) (
  (atL a x.A).bind fun d=>
  (atL a x.B).bind fun f=>
  br (d !=f) (
  some (.inr (.inl (x.Op,x.A,x.B,x.K)))) (
  br (x.Op==8) (
  (atL a x.A).bind fun c=>
  br (decide (c>1)) (
  some (.inr (.inl (x.Op,x.A,x.B,x.K)))) (
  some (.inl (wrap .i64 (k+1))))) (
  some (.inl (wrap .i64 (k+1)))))) (
  br (x.Op==8) (
  (atL a x.A).bind fun e=>
  br (decide (e>1)) (
  some (.inr (.inl (x.Op,x.A,x.B,x.K)))) (
  some (.inl (wrap .i64 (k+1))))) (
  some (.inl (wrap .i64 (k+1)))))) (
  some (.inr (.inr (k,decide (k<(b.length:Int))))))
def UB {b a}:LX tab ow (.close [5005]) IY (ji b a) (fun s=>⟨[(1,sl eI b),(2,.ptr 1000 0 0 1),(5,I s)],[(1000,⟨1,true,[[sl er a]]⟩)]⟩) (alt (fun e=>((.ret,⟨[(4,B false)],[(1000,⟨1,true,[[sl er a]]⟩),(5005,⟨4,true,[[I e.1,I e.2.1,I e.2.2.1,I e.2.2.2]]⟩)]⟩):dd×St)) (fun e=>(.exit 0,⟨[(1,sl eI b),(2,.ptr 1000 0 0 1),(5,I e.1),(11,B e.2)],[(1000,⟨1,true,[[sl er a]]⟩)]⟩))):=by
 refine lrX (fun s o h=> ?_)
 simp only [ji] at h
 simp only [IY,Je]
 exact go2
def Dh (c:Circuit) (v:List Int):Option Bool:=
 (Loop (ji v c.Gates) 0).bind (alt (fun b=>
 some false) (fun a=>
 some true))
def YY {c v r} (h:Dh c v=some r):Call tab ow 126 [.agg [sl er c.Gates],sl eI v] []=some (B r,[]):=by
 rw [ak (af:=C7) rfl]
 unfold Dh at h
 simp only [C7,Gy]
 have d1:= @UB
 exact go2
def lf (m:bV):Option (Setting×bV):=
 (au 2 m).bind fun c=>
 (au 3 c.2).bind fun a=>
 (au 3 a.2).bind fun b=>
 some ((Setting.mk (wrap .i64 (1+c.1)) (wrap .i64 (1+a.1)) b.1),b.2)
def JI {m r} (h:lf m=some r):Call tab ow 93 [.ptr 0 0 0 1] [⟨3,true,[[sl eU8 m.code,I m.at_,I m.seed]]⟩]=some (.agg [I r.1.Rate,I r.1.Queries,I r.1.Grind],[⟨3,true,[[sl eU8 r.2.code,I r.2.at_,I r.2.seed]]⟩]):=by
 rw [ak (af:=oJ) rfl]
 unfold lf at h
 simp only [oJ,Ae]
 have d1:= @fQ
 exact go2
def mP (a:(List (List UInt8))) (m:bV):Option ((List UInt8)×bV):=
 br ((a.length:Int)==0) (
 some ((([]:List UInt8)),m)) (
 (au (a.length:Int) m).bind fun b=>
 (atL a b.1).bind fun x=>
 some (x,b.2))
def yH {a m r} (h:mP a m=some r):Call tab ow 190 [.ptr 0 0 0 1,sl eS a] [⟨3,true,[[sl eU8 m.code,I m.at_,I m.seed]]⟩]=some (S r.1,[⟨3,true,[[sl eU8 r.2.code,I r.2.at_,I r.2.seed]]⟩]):=by
 rw [ak (af:=tD) rfl]
 unfold mP at h
 simp only [tD,EX]
 have d1:= @fQ
 exact go2
def nL (m:List Int) (b:List UInt8):(List Int)×Int->Option (((List Int)×Int)⊕(((List Int)×Int×Bool)))
 | (a,i)=>
   br (decide (i<(b.length:Int))) (
   br (decide (0<=(wrap .i64 (i.tdiv 8)))&&decide ((wrap .i64 (i.tdiv 8)).toNat<25)) (
   (a[(wrap .i64 (i.tdiv 8)).toNat]?).bind fun x=>
   (atL b i).bind fun c=>
   br (decide (0<=(wrap .u64 (wrap .i64 (8*(i.tmod 8)))))) (
   br (decide (0<=(wrap .i64 (i.tdiv 8)))&&decide ((wrap .i64 (i.tdiv 8)).toNat<25)) (
   br (decide ((wrap .i64 (i.tdiv 8)).toNat<a.length)) (
   some (.inl ((a.set ((wrap .i64 (i.tdiv 8)).toNat) (Cy .u64 x (ct .u64 (wrap .u64 (c.toNat:Int)) (wrap .u64 (wrap .i64 (8*(i.tmod 8))))))),(wrap .i64 (i+1))))) none) none) none) none) (
   some (.inr (a,i,decide (i<(b.length:Int)))))
def Qw {m a}:LXe tab ow (.close []) AW (nL m a) (fun s=>⟨[(0,S a),(2,.ptr 1000 0 0 1),(3,.ptr 2001 0 0 1),(4,I s.2)],[(1000,⟨25,true,[ar .u64 m]⟩),(2001,⟨25,true,[ar .u64 s.1]⟩)]⟩) 0 (fun e=>(e.1,e.2.1)) (fun e=>[(9,B e.2.2)]):=by
 refine lrX (fun s o h=> ?_)
 obtain ⟨_,_⟩:=s
 simp only [nL] at h
 simp only [AW]
 exact go2
def AC (t:List UInt8):Option (List Int):=
 (Loop (nL (nZ 25) t) ((nZ 25),0)).bind fun a=>
 br (decide (a.1.length=25)) (
 br (decide (a.1.length=25)) (
 br (decide (a.1.length=25)) (
 some a.1) none) none) none
def XK {t r} (h:AC t=some r):Call tab ow 321 [S t] []=some (.agg (ar .u64 r),[]):=by
 rw [ak (af:=zq) rfl]
 unfold AC at h
 simp only [zq,LU]
 have d1:= @Qw
 exact go2
def Hc:Option (List Int):=
 some ([1,32898,9223372036854808714,9223372039002292224,32907,2147483649,9223372039002292353,9223372036854808585,138,136,2147516425,2147483658,2147516555,9223372036854775947,9223372036854808713,9223372036854808579,9223372036854808578,9223372036854775936,32778,9223372039002259466,9223372039002292353,9223372036854808704,2147483649,9223372039002292232]:List Int)
def TF {r} (h:Hc=some r):Call tab ow 365 [] []=some (.agg (ar .u64 r),[]):=by
 rw [ak (af:=wY) rfl]
 unfold Hc at h
 simp only [wY,Iv]
 exact go2
def G8:Option (List Int):=
 some ([0,1,62,28,27,36,44,6,55,20,3,10,43,25,39,41,45,15,21,8,18,2,61,56,14]:List Int)
def TE {r} (h:G8=some r):Call tab ow 366 [] []=some (.agg (ar .u64 r),[]):=by
 rw [ak (af:=xy) rfl]
 unfold G8 at h
 simp only [xy,IR]
 exact go2
def zR (x n:Int):Option Int:=
 br (n==0) (
 some x) (
 br (decide (0<=n)) (
 br (decide (0<=(wrap .u64 (64-n)))) (
 some (Cy .u64 (ct .u64 x n) (cc .u64 x (wrap .u64 (64-n))))) none) none)
def Ol {x n r} (h:zR x n=some r):Call tab ow 367 [.lit (.int .u64 x),.lit (.int .u64 n)] []=some (.lit (.int .u64 r),[]):=by
 rw [ak (af:=Bc) rfl]
 unfold zR at h
 simp only [Bc,P4]
 exact go2
def kO (b l j k:List Int) (i:Int):(List Int)×Int->Option (((List Int)×Int)⊕(((List Int)×Int×Bool)))
 | (c,a)=>
   br (decide (a<5)) (
   br (decide (0<=a)&&decide (a.toNat<25)) (
   (b[a.toNat]?).bind fun x=>
   br (decide (0<=(wrap .i64 (a+5)))&&decide ((wrap .i64 (a+5)).toNat<25)) (
   (b[(wrap .i64 (a+5)).toNat]?).bind fun d=>
   br (decide (0<=(wrap .i64 (a+10)))&&decide ((wrap .i64 (a+10)).toNat<25)) (
   (b[(wrap .i64 (a+10)).toNat]?).bind fun h=>
   br (decide (0<=(wrap .i64 (a+15)))&&decide ((wrap .i64 (a+15)).toNat<25)) (
   (b[(wrap .i64 (a+15)).toNat]?).bind fun e=>
   br (decide (0<=(wrap .i64 (a+20)))&&decide ((wrap .i64 (a+20)).toNat<25)) (
   (b[(wrap .i64 (a+20)).toNat]?).bind fun f=>
   br (decide (0<=a)&&decide (a.toNat<5)) (
   br (decide (a.toNat<c.length)) (
   some (.inl ((c.set a.toNat (sx .u64 (sx .u64 (sx .u64 (sx .u64 x d) h) e) f)),(wrap .i64 (a+1))))) none) none) none) none) none) none) none) (
   some (.inr (c,a,decide (a<5))))
def MN {a f c d b}:LXe tab ow (.close []) wQ (kO a f c d b) (fun s=>⟨[(1,.ptr 1000 0 0 1),(2,.ptr 1001 0 0 1),(3,.ptr 2001 0 0 1),(4,.ptr 3001 0 0 1),(5,I b),(6,.ptr 7001 0 0 1),(7,I s.2)],[(1000,⟨25,true,[ar .u64 a]⟩),(1001,⟨25,true,[ar .u64 f]⟩),(2001,⟨24,true,[ar .u64 c]⟩),(3001,⟨25,true,[ar .u64 d]⟩),(7001,⟨5,true,[ar .u64 s.1]⟩)]⟩) 2 (fun e=>(e.1,e.2.1)) (fun e=>[(22,B e.2.2)]):=by
 refine lrX (fun s o h=> ?_)
 obtain ⟨_,_⟩:=s
 simp only [kO] at h
 simp only [wQ]
 exact go2
def kN (f j k c:List Int) (l:Int):(List Int)×Int->Option (((List Int)×Int)⊕(((List Int)×Int×Bool)))
 | (b,a)=>
   br (decide (a<25)) (
   br (decide (0<=a)&&decide (a.toNat<25)) (
   (b[a.toNat]?).bind fun e=>
   br (decide (0<=((wrap .i64 (a+4)).tmod 5))&&decide (((wrap .i64 (a+4)).tmod 5).toNat<5)) (
   (c[((wrap .i64 (a+4)).tmod 5).toNat]?).bind fun i=>
   br (decide (0<=((wrap .i64 (a+1)).tmod 5))&&decide (((wrap .i64 (a+1)).tmod 5).toNat<5)) (
   (c[((wrap .i64 (a+1)).tmod 5).toNat]?).bind fun h=>
   (zR h 1).bind fun d=>
   br (decide (0<=a)&&decide (a.toNat<25)) (
   br (decide (a.toNat<b.length)) (
   some (.inl ((b.set a.toNat (sx .u64 e (sx .u64 i d))),(wrap .i64 (a+1))))) none) none) none) none) none) (
   some (.inr (b,a,decide (a<25))))
def Np {a c d b f}:LXe tab ow (.close [15013]) vQ (kN a c d b f) (fun s=>⟨[(1,.ptr 1000 0 0 1),(2,.ptr 1001 0 0 1),(3,.ptr 2001 0 0 1),(4,.ptr 3001 0 0 1),(5,I f),(6,.ptr 7001 0 0 1),(8,I s.2)],[(1000,⟨25,true,[ar .u64 s.1]⟩),(1001,⟨25,true,[ar .u64 a]⟩),(2001,⟨24,true,[ar .u64 c]⟩),(3001,⟨25,true,[ar .u64 d]⟩),(7001,⟨5,true,[ar .u64 b]⟩)]⟩) 4 (fun e=>(e.1,e.2.1)) (fun e=>[(51,B e.2.2)]):=by
 refine lrX (fun s o h=> ?_)
 obtain ⟨_,_⟩:=s
 simp only [kN] at h
 simp only [vQ]
 have d1:= @Ol
 exact go2
def kK (e l j h k:List Int) (m b:Int):(List Int)×Int->Option (((List Int)×Int)⊕(((List Int)×Int×Bool)))
 | (c,a)=>
   br (decide (a<5)) (
   br (decide (0<=(wrap .i64 (b+(wrap .i64 (5*a)))))&&decide ((wrap .i64 (b+(wrap .i64 (5*a)))).toNat<25)) (
   (e[(wrap .i64 (b+(wrap .i64 (5*a)))).toNat]?).bind fun i=>
   br (decide (0<=(wrap .i64 (b+(wrap .i64 (5*a)))))&&decide ((wrap .i64 (b+(wrap .i64 (5*a)))).toNat<25)) (
   (h[(wrap .i64 (b+(wrap .i64 (5*a)))).toNat]?).bind fun d=>
   (zR i d).bind fun f=>
   br (decide (0<=(wrap .i64 (a+(wrap .i64 (5*((wrap .i64 ((wrap .i64 (2*b))+(wrap .i64 (3*a)))).tmod 5))))))&&decide ((wrap .i64 (a+(wrap .i64 (5*((wrap .i64 ((wrap .i64 (2*b))+(wrap .i64 (3*a)))).tmod 5))))).toNat<25)) (
   br (decide ((wrap .i64 (a+(wrap .i64 (5*((wrap .i64 ((wrap .i64 (2*b))+(wrap .i64 (3*a)))).tmod 5))))).toNat<c.length)) (
   some (.inl ((c.set ((wrap .i64 (a+(wrap .i64 (5*((wrap .i64 ((wrap .i64 (2*b))+(wrap .i64 (3*a)))).tmod 5))))).toNat) f),(wrap .i64 (a+1))))) none) none) none) none) (
   some (.inr (c,a,decide (a<5))))
def Nw {b d a f c i j}:LXe tab ow (.close [23021]) vk (kK b d a f c i j) (fun s=>⟨[(1,.ptr 1000 0 0 1),(2,.ptr 1001 0 0 1),(3,.ptr 2001 0 0 1),(4,.ptr 3001 0 0 1),(5,I i),(9,.ptr 16001 0 0 1),(10,I j),(11,I s.2)],[(1000,⟨25,true,[ar .u64 b]⟩),(1001,⟨25,true,[ar .u64 d]⟩),(2001,⟨24,true,[ar .u64 a]⟩),(3001,⟨25,true,[ar .u64 f]⟩),(7001,⟨5,true,[ar .u64 c]⟩),(16001,⟨25,true,[ar .u64 s.1]⟩)]⟩) 8 (fun e=>(e.1,e.2.1)) (fun e=>[(77,B e.2.2)]):=by
 refine lrX (fun s o h=> ?_)
 obtain ⟨_,_⟩:=s
 simp only [kK] at h
 simp only [vk]
 have d1:= @Ol
 exact go2
def kZ (h d e i f:List Int) (j:Int):(List Int)×Int->Option (((List Int)×Int)⊕(((List Int)×Int×Bool)))
 | (a,b)=>
   br (decide (b<5)) (
   (Loop (kK h d e i f j b) (a,0)).bind fun c=>
   some (.inl (c.1,(wrap .i64 (b+1))))) (
   some (.inr (a,b,decide (b<5))))
def MT {d a b f c i}:LXe tab ow (.close [23021]) vV (kZ d a b f c i) (fun s=>⟨[(1,.ptr 1000 0 0 1),(2,.ptr 1001 0 0 1),(3,.ptr 2001 0 0 1),(4,.ptr 3001 0 0 1),(5,I i),(9,.ptr 16001 0 0 1),(10,I s.2)],[(1000,⟨25,true,[ar .u64 d]⟩),(1001,⟨25,true,[ar .u64 a]⟩),(2001,⟨24,true,[ar .u64 b]⟩),(3001,⟨25,true,[ar .u64 f]⟩),(7001,⟨5,true,[ar .u64 c]⟩),(16001,⟨25,true,[ar .u64 s.1]⟩)]⟩) 6 (fun e=>(e.1,e.2.1)) (fun e=>[(73,B e.2.2)]):=by
 refine lrX (fun s o h=> ?_)
 obtain ⟨_,_⟩:=s
 simp only [kZ] at h
 simp only [vV]
 have d1:= @Nw
 exact go2
def kL (m i j l c:List Int) (k b:Int):(List Int)×Int->Option (((List Int)×Int)⊕(((List Int)×Int×Bool)))
 | (d,a)=>
   br (decide (a<5)) (
   br (decide (0<=(wrap .i64 (b+(wrap .i64 (5*a)))))&&decide ((wrap .i64 (b+(wrap .i64 (5*a)))).toNat<25)) (
   (c[(wrap .i64 (b+(wrap .i64 (5*a)))).toNat]?).bind fun f=>
   br (decide (0<=(wrap .i64 (((wrap .i64 (b+1)).tmod 5)+(wrap .i64 (5*a)))))&&decide ((wrap .i64 (((wrap .i64 (b+1)).tmod 5)+(wrap .i64 (5*a)))).toNat<25)) (
   (c[(wrap .i64 (((wrap .i64 (b+1)).tmod 5)+(wrap .i64 (5*a)))).toNat]?).bind fun e=>
   br (decide (0<=(wrap .i64 (((wrap .i64 (b+2)).tmod 5)+(wrap .i64 (5*a)))))&&decide ((wrap .i64 (((wrap .i64 (b+2)).tmod 5)+(wrap .i64 (5*a)))).toNat<25)) (
   (c[(wrap .i64 (((wrap .i64 (b+2)).tmod 5)+(wrap .i64 (5*a)))).toNat]?).bind fun h=>
   br (decide (0<=(wrap .i64 (b+(wrap .i64 (5*a)))))&&decide ((wrap .i64 (b+(wrap .i64 (5*a)))).toNat<25)) (
   br (decide ((wrap .i64 (b+(wrap .i64 (5*a)))).toNat<d.length)) (
   some (.inl ((d.set ((wrap .i64 (b+(wrap .i64 (5*a)))).toNat) (sx .u64 f (dc .u64 (dU .u64 e) h))),(wrap .i64 (a+1))))) none) none) none) none) none) (
   some (.inr (d,a,decide (a<5))))
def NK {j a b i d f c}:LXe tab ow (.close []) vI (kL j a b i d f c) (fun s=>⟨[(1,.ptr 1000 0 0 1),(2,.ptr 1001 0 0 1),(3,.ptr 2001 0 0 1),(4,.ptr 3001 0 0 1),(5,I f),(9,.ptr 16001 0 0 1),(12,I c),(13,I s.2)],[(1000,⟨25,true,[ar .u64 s.1]⟩),(1001,⟨25,true,[ar .u64 j]⟩),(2001,⟨24,true,[ar .u64 a]⟩),(3001,⟨25,true,[ar .u64 b]⟩),(7001,⟨5,true,[ar .u64 i]⟩),(16001,⟨25,true,[ar .u64 d]⟩)]⟩) 12 (fun e=>(e.1,e.2.1)) (fun e=>[(108,B e.2.2)]):=by
 refine lrX (fun s o h=> ?_)
 obtain ⟨_,_⟩:=s
 simp only [kL] at h
 simp only [vI]
 exact go2
def kS (f j c i h:List Int) (e:Int):(List Int)×Int->Option (((List Int)×Int)⊕(((List Int)×Int×Bool)))
 | (b,a)=>
   br (decide (a<5)) (
   (Loop (kL f j c i h e a) (b,0)).bind fun d=>
   some (.inl (d.1,(wrap .i64 (a+1))))) (
   some (.inr (b,a,decide (a<5))))
def MH {c i a f d b}:LXe tab ow (.close []) vx (kS c i a f d b) (fun s=>⟨[(1,.ptr 1000 0 0 1),(2,.ptr 1001 0 0 1),(3,.ptr 2001 0 0 1),(4,.ptr 3001 0 0 1),(5,I b),(9,.ptr 16001 0 0 1),(12,I s.2)],[(1000,⟨25,true,[ar .u64 s.1]⟩),(1001,⟨25,true,[ar .u64 c]⟩),(2001,⟨24,true,[ar .u64 i]⟩),(3001,⟨25,true,[ar .u64 a]⟩),(7001,⟨5,true,[ar .u64 f]⟩),(16001,⟨25,true,[ar .u64 d]⟩)]⟩) 10 (fun e=>(e.1,e.2.1)) (fun e=>[(104,B e.2.2)]):=by
 refine lrX (fun s o h=> ?_)
 obtain ⟨_,_⟩:=s
 simp only [kS] at h
 simp only [vx]
 have d1:= @NK
 exact go2
def l0 (e b d:List Int):(List Int)×Int->Option (((List Int)×Int)⊕(((List Int)×Int×Bool)))
 | (m,t)=>
   br (decide (t<24)) (
   (Loop (kO m e b d t) ((nZ 5),0)).bind fun i=>
   (Loop (kN e b d i.1 t) (m,0)).bind fun c=>
   (Loop (kZ c.1 e b d i.1 t) ((nZ 25),0)).bind fun j=>
   (Loop (kS e b d i.1 j.1 t) (c.1,0)).bind fun a=>
   (a.1[0]?).bind fun h=>
   br (decide (0<=t)&&decide (t.toNat<24)) (
   (b[t.toNat]?).bind fun f=>
   br (decide (0<a.1.length)) (
   some (.inl ((a.1.set 0 (sx .u64 h f)),(wrap .i64 (t+1))))) none) none) (
   some (.inr (m,t,decide (t<24))))
def Nr {a b c}:LXe tab ow (.close [7001,15013,16001,23021]) wG (l0 a b c) (fun s=>⟨[(1,.ptr 1000 0 0 1),(2,.ptr 1001 0 0 1),(3,.ptr 2001 0 0 1),(4,.ptr 3001 0 0 1),(5,I s.2)],[(1000,⟨25,true,[ar .u64 s.1]⟩),(1001,⟨25,true,[ar .u64 a]⟩),(2001,⟨24,true,[ar .u64 b]⟩),(3001,⟨25,true,[ar .u64 c]⟩)]⟩) 0 (fun e=>(e.1,e.2.1)) (fun e=>[(17,B e.2.2)]):=by
 refine lrX (fun s o h=> ?_)
 obtain ⟨_,_⟩:=s
 simp only [l0] at h
 simp only [wG]
 have d1:= @MN
 have d2:= @Np
 have d3:= @MT
 have d4:= @MH
 exact go2
def vB (a:List Int):Option (List Int):=
 br (decide (a.length=25)) (
 (Hc).bind fun d=>
 br (decide (d.length=24)) (
 (G8).bind fun c=>
 br (decide (c.length=25)) (
 (Loop (l0 (nZ 25) d c) (a,0)).bind fun b=>
 br (decide (b.1.length=25)) (
 br (decide (b.1.length=25)) (
 br (decide (b.1.length=25)) (
 some b.1) none) none) none) none) none) none
def RK {a r} (h:vB a=some r):Call tab ow 322 [.agg (ar .u64 a)] []=some (.agg (ar .u64 r),[]):=by
 rw [ak (af:=vO) rfl]
 unfold vB at h
 simp only [vO,GU]
 have d1:= @TF
 have d2:= @TE
 have d3:= @Nr
 exact go2
section
@[local go_sem] theorem sh:mkR 2000 []=rws eU8 []:=rfl
@[local go_sem] theorem b7U:mkR 6011 []=rws eU8 []:=rfl
def pn (m:List Int) (a:Int):(List UInt8)×Int->Option (((List UInt8)×Int)⊕(((List UInt8)×Int×Bool)))
 | (l,i)=>
   br (decide (i<a)) (
   br (decide (0<=(wrap .i64 (i.tdiv 8)))&&decide ((wrap .i64 (i.tdiv 8)).toNat<25)) (
   (m[(wrap .i64 (i.tdiv 8)).toNat]?).bind fun x=>
   br (decide (0<=(wrap .u64 (wrap .i64 (8*(i.tmod 8)))))) (
   br (bj ((l++([(UInt8.ofInt (cc .u64 x (wrap .u64 (wrap .i64 (8*(i.tmod 8))))))]:List UInt8)).length) 1) (
   some (.inl ((l++([(UInt8.ofInt (cc .u64 x (wrap .u64 (wrap .i64 (8*(i.tmod 8))))))]:List UInt8)),(wrap .i64 (i+1))))) none) none) none) (
   some (.inr (l,i,decide (i<a))))
def Um {m a}:LXe tab ow (.close [6011,6012]) IK (pn m a) (fun s=>⟨[(1,I a),(2,.ptr 1000 0 0 1),(5,.sl 2000 0 s.1.length),(6,I s.2)],[(1000,⟨25,true,[ar .u64 m]⟩),(2000,⟨1,false,rws eU8 s.1⟩)]⟩) 0 (fun e=>(e.1,e.2.1)) (fun e=>[(10,B e.2.2)]):=by
 refine lrX (fun s o h=> ?_)
 obtain ⟨_,_⟩:=s
 simp only [pn] at h
 simp only [IK,Iy]
 exact go2
def CL (a:List Int) (n:Int):Option (List UInt8):=
 br (decide (a.length=25)) (
 (Loop (pn a n) (([]:List UInt8),0)).bind fun b=>
 some b.1) none
def a1y {a n r} (h:CL a n=some r):Call tab ow 323 [.agg (ar .u64 a),I n] []=some (S r,[]):=by
 rw [ak (af:=Bm) rfl]
 unfold CL at h
 simp only [Bm,FK]
 have d1:= @Um
 exact go2
end
section
@[local go_sem] theorem b7x:mkR 2002 []=rws eU8 []:=rfl
@[local go_sem] theorem b6O:mkR 4001 []=rws eU8 []:=rfl
def mZ (a:List UInt8):(List UInt8)->Option (((List UInt8))⊕(((List UInt8)×Bool)))
 |l=>
  br (((l.length:Int).tmod 136) !=0) (
  br (bj ((l++([(0:UInt8)]:List UInt8)).length) 1) (
  some (.inl (l++([(0:UInt8)]:List UInt8)))) none) (
  some (.inr (l,(((l.length:Int).tmod 136) !=0))))
def Uy {a}:LXe tab ow (.close [4001,4002]) Ci (mZ a) (fun s=>⟨[(3,.sl 2001 0 s.length)],[(2001,⟨1,false,rws eU8 s⟩),(2002,⟨1,false,rws eU8 a⟩)]⟩) 0 (fun e=>e.1) (fun e=>[(15,B e.2)]):=by
 refine lrX (fun s o h=> ?_)
 simp only [mZ] at h
 simp only [Ci]
 exact go2
def pj (f:List UInt8) (c:List Int) (h:List UInt8) (b:Int):(List Int)×Int->Option (((List Int)×Int)⊕(((List Int)×Int×Bool)))
 | (a,i)=>
   br (decide (i<25)) (
   br (decide (0<=i)&&decide (i.toNat<25)) (
   (a[i.toNat]?).bind fun e=>
   br (decide (0<=i)&&decide (i.toNat<25)) (
   (c[i.toNat]?).bind fun d=>
   br (decide (0<=i)&&decide (i.toNat<25)) (
   br (decide (i.toNat<a.length)) (
   some (.inl ((a.set i.toNat (sx .u64 e d)),(wrap .i64 (i+1))))) none) none) none) none) (
   some (.inr (a,i,decide (i<25))))
def UA {d c b a}:LXe tab ow (.close []) AA (pj d c b a) (fun s=>⟨[(3,sl eU8 b),(4,.ptr 6001 0 0 1),(5,I a),(6,.ptr 10007 0 0 1),(7,I s.2)],[(2002,⟨1,false,rws eU8 d⟩),(6001,⟨25,true,[ar .u64 s.1]⟩),(10007,⟨25,true,[ar .u64 c]⟩)]⟩) 4 (fun e=>(e.1,e.2.1)) (fun e=>[(42,B e.2.2)]):=by
 refine lrX (fun s o h=> ?_)
 obtain ⟨_,_⟩:=s
 simp only [pj] at h
 simp only [AA]
 exact go2
def pv (f d:List UInt8):(List Int)×Int->Option (((List Int)×Int)⊕(((List Int)×Int×Bool)))
 | (m,a)=>
   br (decide (a<(d.length:Int))) (
   (rF d a (wrap .i64 (a+136))).bind fun y=>
   (AC y).bind fun e=>
   br (decide (e.length=25)) (
   (Loop (pj f e d a) (m,0)).bind fun b=>
   br (decide (b.1.length=25)) (
   (vB b.1).bind fun c=>
   br (decide (c.length=25)&&decide (b.1.length=25)) (
   some (.inl (c,(wrap .i64 (a+136))))) none) none) none) (
   some (.inr (m,a,decide (a<(d.length:Int)))))
def Ul {b a}:LXe tab ow (.close [10006,10007,15001,2001]) Cf (pv b a) (fun s=>⟨[(3,sl eU8 a),(4,.ptr 6001 0 0 1),(5,I s.2)],[(2002,⟨1,false,rws eU8 b⟩),(6001,⟨25,true,[ar .u64 s.1]⟩)]⟩) 2 (fun e=>(e.1,e.2.1)) (fun e=>[(31,B e.2.2)]):=by
 refine lrX (fun s o h=> ?_)
 obtain ⟨_,_⟩:=s
 simp only [pv] at h
 simp only [Cf]
 have d1:= @XK
 have d2:= @UA
 have d3:= @RK
 exact go2
def wo (b:List UInt8):Option (List UInt8):=
 br (bj b.length 1) (
 br (bj ((b++([(1:UInt8)]:List UInt8)).length) 1) (
 (Loop (mZ ([(1:UInt8)]:List UInt8)) (b++([(1:UInt8)]:List UInt8))).bind fun a=>
 br (decide (0<=(wrap .i64 ((a.1.length:Int)-1)))) (
 br (decide ((wrap .i64 ((a.1.length:Int)-1)).toNat<a.1.length)) (
 (a.1[(wrap .i64 ((a.1.length:Int)-1)).toNat]?).bind fun x=>
 br (decide (0<=(wrap .i64 ((a.1.length:Int)-1)))) (
 br (decide ((wrap .i64 ((a.1.length:Int)-1)).toNat<a.1.length)) (
 (a.1[(wrap .i64 ((a.1.length:Int)-1)).toNat]?).bind fun e=>
 (Loop (pv ([(1:UInt8)]:List UInt8) (a.1.set ((wrap .i64 ((a.1.length:Int)-1)).toNat) (UInt8.ofInt (Cy .u8 (x.toNat:Int) 128)))) ((nZ 25),0)).bind fun c=>
 br (decide (c.1.length=25)) (
 (CL c.1 32).bind fun d=>
 some d) none) none) none) none) none) none) none
def GP {b r} (h:wo b=some r):Call tab ow 218 [S b] []=some (S r,[]):=by
 rw [ak (af:=C0) rfl]
 unfold wo at h
 simp only [C0,OG]
 have d1:= @Uy
 have d2:= @Ul
 have d3:= @a1y
 exact go2
end
def Gk (a:List UInt8) (b:List Ext):Option Source:=
 br (bj ((([115,111,117,114,99,101]:List UInt8)).length+a.length) 1) (
 (wo ((([115,111,117,114,99,101]:List UInt8))++a)).bind fun c=>
 some (Source.mk b 0 c 0)) none
def a3r {a b r} (h:Gk a b=some r):Call tab ow 189 [S a,sl aG b] []=some (.agg [sl aG r.Script,I r.At,S r.State,I r.Count],[]):=by
 rw [ak (af:=DO) rfl]
 unfold Gk at h
 simp only [DO,SO]
 have d1:= @GP
 exact go2
def vo (m:bV):Option (Ext×bV):=
 (cp 4 m).bind fun d=>
 br d.1 (
 (b5 d.2).bind fun b=>
 some ((Ext.mk b.1 0),b.2)) (
 (b5 d.2).bind fun c=>
 (b5 c.2).bind fun a=>
 some ((Ext.mk c.1 a.1),a.2))
def Sz {m r} (h:vo m=some r):Call tab ow 169 [.ptr 0 0 0 1] [⟨3,true,[[sl eU8 m.code,I m.at_,I m.seed]]⟩]=some (.agg [I r.1.A,I r.1.B],[⟨3,true,[[sl eU8 r.2.code,I r.2.at_,I r.2.seed]]⟩]):=by
 rw [ak (af:=v6) rfl]
 unfold vo at h
 simp only [v6,Gz]
 have d1:= @iu
 have d2:= @nS
 exact go2
section
@[local go_sem] theorem fc:mkR 2000 []=rws aG []:=rfl
@[local go_sem] theorem Dn:mkR 6003 []=rws aG []:=rfl
def jL (d:Int):(List Ext)×Int×(List UInt8)×Int×Int->Option (((List Ext)×Int×(List UInt8)×Int×Int)⊕(((List Ext)×Int×Bool×(List UInt8)×Int×Int)))
 | (l,i,c,b,e)=>
   br (decide (i<d)) (
   (vo (bV.mk c b e)).bind fun a=>
   br (bj ((l++([a.1]:List Ext)).length) 16) (
   some (.inl ((l++([a.1]:List Ext)),(wrap .i64 (i+1)),a.2.code,a.2.at_,a.2.seed))) none) (
   some (.inr (l,i,decide (i<d),c,b,e)))
def L7 {a}:LXe tab ow (.close [6002,6003,6004]) Bh (jL a) (fun s=>⟨[(0,.ptr 0 0 0 1),(1,I a),(5,.sl 2000 0 s.1.length),(6,I s.2.1)],[(0,⟨3,true,[[sl eU8 s.2.2.1,I s.2.2.2.1,I s.2.2.2.2]]⟩),(2000,⟨2,false,rws aG s.1⟩)]⟩) 0 (fun e=>(e.1,e.2.1,e.2.2.2.1,e.2.2.2.2.1,e.2.2.2.2.2)) (fun e=>[(10,B e.2.2.1)]):=by
 refine lrX (fun s o h=> ?_)
 obtain ⟨_,_,_,_,_⟩:=s
 simp only [jL] at h
 simp only [Bh,Bu]
 have d1:= @Sz
 exact go2
def px (n:Int) (m:bV):Option ((List Ext)×bV):=
 (Loop (jL n) (([]:List Ext),0,m.code,m.at_,m.seed)).bind fun a=>
 some (a.1,(bV.mk a.2.2.2.1 a.2.2.2.2.1 a.2.2.2.2.2))
def F0 {n m r} (h:px n m=some r):Call tab ow 75 [.ptr 0 0 0 1,I n] [⟨3,true,[[sl eU8 m.code,I m.at_,I m.seed]]⟩]=some (sl aG r.1,[⟨3,true,[[sl eU8 r.2.code,I r.2.at_,I r.2.seed]]⟩]):=by
 rw [ak (af:=u4) rfl]
 unfold px at h
 simp only [u4,yL]
 have d1:= @L7
 exact go2
end
section
attribute [local go_sem] sh
@[local go_sem] theorem a9M:mkR 6007 []=rws eU8 []:=rfl
def yG (a:Int):(List UInt8)×Int->Option (((List UInt8)×Int)⊕(((List UInt8)×Int×Bool)))
 | (l,i)=>
   br (decide (i>=0)) (
   br (decide (0<=(wrap .u64 (wrap .i64 (8*i))))) (
   br (bj ((l++([(UInt8.ofInt (cc .i64 a (wrap .u64 (wrap .i64 (8*i)))))]:List UInt8)).length) 1) (
   some (.inl ((l++([(UInt8.ofInt (cc .i64 a (wrap .u64 (wrap .i64 (8*i)))))]:List UInt8)),(wrap .i64 (i-1))))) none) none) (
   some (.inr (l,i,decide (i>=0))))
def Px {a}:LXe tab ow (.close [6007,6008]) Fx (yG a) (fun s=>⟨[(0,I a),(5,.sl 2000 0 s.1.length),(6,I s.2)],[(2000,⟨1,false,rws eU8 s.1⟩)]⟩) 0 (fun e=>(e.1,e.2.1)) (fun e=>[(11,B e.2.2)]):=by
 refine lrX (fun s o h=> ?_)
 obtain ⟨_,_⟩:=s
 simp only [yG] at h
 simp only [Fx,Fs]
 exact go2
def uA (n a:Int):Option (List UInt8):=
 (Loop (yG n) (([]:List UInt8),(wrap .i64 (a-1)))).bind fun b=>
 some b.1
def Jn {n a r} (h:uA n a=some r):Call tab ow 213 [I n,I a] []=some (sl eU8 r,[]):=by
 rw [ak (af:=xi) rfl]
 unfold uA at h
 simp only [xi,Co]
 have d1:= @Px
 exact go2
end
def ur (s:Source) (t:List UInt8):Option Source:=
 br (bj (s.State.length+(([97,98,115,111,114,98]:List UInt8)).length) 1) (
 (uA (t.length:Int) 4).bind fun b=>
 br (bj ((s.State++(([97,98,115,111,114,98]:List UInt8))).length+b.length) 1) (
 br (bj (((s.State++(([97,98,115,111,114,98]:List UInt8)))++b).length+t.length) 1) (
 (wo (((s.State++(([97,98,115,111,114,98]:List UInt8)))++b)++t)).bind fun a=>
 some (Source.mk s.Script s.At a 0)) none) none) none
def Is {s t r} (h:ur s t=some r):Call tab ow 191 [.agg [sl aG s.Script,I s.At,S s.State,I s.Count],S t] []=some (.agg [sl aG r.Script,I r.At,S r.State,I r.Count],[]):=by
 rw [ak (af:=xh) rfl]
 unfold ur at h
 simp only [xh,IF]
 have d1:= @Jn
 have d2:= @GP
 exact go2
def nH (a:List UInt8):Int×Int->Option ((Int×Int)⊕((Int×Int×Bool)))
 | (n,i)=>
   br (decide (i<8)) (
   (atL a i).bind fun c=>
   some (.inl (((wrap .i64 ((wrap .i64 (n*256))+(wrap .i64 (c.toNat:Int)))).tmod 2130706433),(wrap .i64 (i+1))))) (
   some (.inr (n,i,decide (i<8))))
def Sl {a}:LXe tab ow (.close []) GN (nH a) (fun s=>⟨[(0,S a),(3,I s.1),(4,I s.2)],[]⟩) 0 (fun e=>(e.1,e.2.1)) (fun e=>[(6,B e.2.2)]):=by
 refine lrX (fun s o h=> ?_)
 obtain ⟨_,_⟩:=s
 simp only [nH] at h
 simp only [GN,Gq]
 exact go2
def wT (t:List UInt8):Option Int:=
 (Loop (nH t) (0,0)).bind fun a=>
 some a.1
def Y5 {t r} (h:wT t=some r):Call tab ow 304 [S t] []=some (I r,[]):=by
 rw [ak (af:=zC) rfl]
 unfold wT at h
 simp only [zC,DR]
 have d1:= @Sl
 exact go2
def zO (s:Source):Option (Source×Ext):=
 br (decide ((s.Script.length:Int)>0)) (
 br (decide ((s.Script.length:Int)≠0)) (
 (atL s.Script (s.At.tmod (s.Script.length:Int))).bind fun x=>
 some ((Source.mk s.Script (wrap .i64 (s.At+1)) s.State s.Count),x)) none) (
 br (bj (s.State.length+(([100,114,97,119]:List UInt8)).length) 1) (
 (uA s.Count 4).bind fun d=>
 br (bj ((s.State++(([100,114,97,119]:List UInt8))).length+d.length) 1) (
 (wo ((s.State++(([100,114,97,119]:List UInt8)))++d)).bind fun a=>
 (rF a 0 8).bind fun y=>
 (wT y).bind fun c=>
 (rF a 8 16).bind fun e=>
 (wT e).bind fun b=>
 some ((Source.mk s.Script s.At s.State (wrap .i64 (s.Count+1))),(Ext.mk c b))) none) none)
def P1 {s r} (h:zO s=some r):Call tab ow 192 [.agg [sl aG s.Script,I s.At,S s.State,I s.Count]] []=some (.tup [.agg [sl aG r.1.Script,I r.1.At,S r.1.State,I r.1.Count],.agg [I r.2.A,I r.2.B]],[]):=by
 rw [ak (af:=BU) rfl]
 unfold zO at h
 simp only [BU,O7]
 have d1:= @Jn
 have d2:= @GP
 have d3:= @Y5
 exact go2
section
attribute [local go_sem] fc
def Dj (s:Source):Option Source:=
 br (bj ((([]:List Ext)++s.Script).length) 16) (
 some (Source.mk (([]:List Ext)++s.Script) s.At s.State s.Count)) none
def a2r {s r} (h:Dj s=some r):Call tab ow 110 [.agg [sl aG s.Script,I s.At,S s.State,I s.Count]] []=some (.agg [sl aG r.Script,I r.At,S r.State,I r.Count],[]):=by
 rw [ak (af:=DT) rfl]
 unfold Dj at h
 simp only [DT,S5]
 exact go2
end
section
@[local go_sem] theorem a3z:mkR 2001 []=rws eS []:=rfl
@[local go_sem] theorem a2X:mkR 2003 []=rws aG []:=rfl
@[local go_sem] theorem a3d:mkR 9002 []=rws eS []:=rfl
def iP (o:Int) (n:List UInt8) (p:Int):Int×(List UInt8)×Int×Int×(List Ext)×Int×(List UInt8)×Int->Option ((Int×(List UInt8)×Int×Int×(List Ext)×Int×(List UInt8)×Int)⊕((Int×Bool×(List UInt8)×Int×Int×(List Ext)×Int×(List UInt8)×Int)))
 | (i,c,m,l,h,k,j,f)=>
   br (decide (i>0)) (
   (cp 2 (bV.mk c m l)).bind fun b=>
   br b.1 (
   (mP ([(([]:List UInt8)),(([116,101,120,116]:List UInt8))]:List (List UInt8)) b.2).bind fun e=>
   (ur (Source.mk h k j f) e.1).bind fun d=>
   some (.inl ((wrap .i64 (i-1)),e.2.code,e.2.at_,e.2.seed,d.Script,d.At,d.State,d.Count))) (
   (zO (Source.mk h k j f)).bind fun a=>
   some (.inl ((wrap .i64 (i-1)),b.2.code,b.2.at_,b.2.seed,a.1.Script,a.1.At,a.1.State,a.1.Count)))) (
   some (.inr (i,decide (i>0),c,m,l,h,k,j,f)))
def If {b c a}:LXe tab ow (.close [8001,9002,9003,9004,10001]) ng (iP b c a) (fun s=>⟨[(0,.ptr 0 0 0 1),(2,.ptr 1000 0 0 1),(3,.ptr 2005 0 0 1),(4,I s.1)],[(0,⟨3,true,[[sl eU8 s.2.1,I s.2.2.1,I s.2.2.2.1]]⟩),(1000,⟨4,true,[[.lit (.slice none 0 0),I b,S c,I a]]⟩),(2001,kj),(2003,kj),(2005,⟨4,true,[[sl aG s.2.2.2.2.1,I s.2.2.2.2.2.1,S s.2.2.2.2.2.2.1,I s.2.2.2.2.2.2.2]]⟩)]⟩) 0 (fun e=>(e.1,e.2.2.1,e.2.2.2.1,e.2.2.2.2.1,e.2.2.2.2.2.1,e.2.2.2.2.2.2.1,e.2.2.2.2.2.2.2.1,e.2.2.2.2.2.2.2.2)) (fun e=>[(21,B e.2.1)]):=by
 refine lrX (fun s o h=> ?_)
 obtain ⟨_,_,_,_,_,_,_,_⟩:=s
 simp only [iP] at h
 simp only [ng,sL]
 have d1:= @iu
 have d2:= @yH
 have d3:= @Is
 have d4:= @P1
 exact go2
def ni (o:Int) (p:List UInt8) (n:Int):Int×(List UInt8)×Int×Int×(List Ext)×Int×(List UInt8)×Int->Option ((Int×(List UInt8)×Int×Int×(List Ext)×Int×(List UInt8)×Int)⊕((Int×Bool×(List UInt8)×Int×Int×(List Ext)×Int×(List UInt8)×Int)))
 | (m,l,k,j,e,h,i,f)=>
   br (decide (m>0)) (
   (cp 2 (bV.mk l k j)).bind fun a=>
   br a.1 (
   (mP ([(([]:List UInt8)),(([116,101,120,116]:List UInt8))]:List (List UInt8)) a.2).bind fun d=>
   (ur (Source.mk e h i f) d.1).bind fun c=>
   some (.inl ((wrap .i64 (m-1)),d.2.code,d.2.at_,d.2.seed,c.Script,c.At,c.State,c.Count))) (
   (zO (Source.mk e h i f)).bind fun b=>
   some (.inl ((wrap .i64 (m-1)),a.2.code,a.2.at_,a.2.seed,b.1.Script,b.1.At,b.1.State,b.1.Count)))) (
   some (.inr (m,decide (m>0),l,k,j,e,h,i,f)))
def In {a c b}:LXe tab ow (.close [8001,9002,9003,9004,10001]) ng (ni a c b) (fun s=>⟨[(0,.ptr 0 0 0 1),(2,.ptr 1000 0 0 1),(3,.ptr 2005 0 0 1),(4,I s.1)],[(0,⟨3,true,[[sl eU8 s.2.1,I s.2.2.1,I s.2.2.2.1]]⟩),(1000,⟨4,true,[[.lit (.slice none 0 0),I a,S c,I b]]⟩),(2001,kj),(2003,kj),(2005,⟨4,true,[[sl aG s.2.2.2.2.1,I s.2.2.2.2.2.1,S s.2.2.2.2.2.2.1,I s.2.2.2.2.2.2.2]]⟩)]⟩) 0 (fun e=>(e.1,e.2.2.1,e.2.2.2.1,e.2.2.2.2.1,e.2.2.2.2.2.1,e.2.2.2.2.2.2.1,e.2.2.2.2.2.2.2.1,e.2.2.2.2.2.2.2.2)) (fun e=>[(21,B e.2.1)]):=by
 refine lrX (fun s o h=> ?_)
 obtain ⟨_,_,_,_,_,_,_,_⟩:=s
 simp only [ni] at h
 simp only [ng,sL]
 have d1:= @iu
 have d2:= @yH
 have d3:= @Is
 have d4:= @P1
 exact go2
def ma (m:bV):Option (Source×bV):=
 (mP ([(([]:List UInt8)),(([97]:List UInt8)),(([108,97,98,101,108]:List UInt8))]:List (List UInt8)) m).bind fun l=>
 (Gk l.1 ([]:List Ext)).bind fun b=>
 (cp 3 l.2).bind fun e=>
 br e.1 (
 (au 5 e.2).bind fun k=>
 (px (wrap .i64 (1+k.1)) k.2).bind fun h=>
 (au 4 h.2).bind fun d=>
 (Loop (iP 0 (([]:List UInt8)) 0) (d.1,d.2.code,d.2.at_,d.2.seed,h.1,b.At,b.State,b.Count)).bind fun f=>
 (Dj (Source.mk f.2.2.2.2.2.1 f.2.2.2.2.2.2.1 f.2.2.2.2.2.2.2.1 f.2.2.2.2.2.2.2.2)).bind fun i=>
 some (i,(bV.mk f.2.2.1 f.2.2.2.1 f.2.2.2.2.1))) (
 (au 4 e.2).bind fun c=>
 (Loop (ni 0 (([]:List UInt8)) 0) (c.1,c.2.code,c.2.at_,c.2.seed,b.Script,b.At,b.State,b.Count)).bind fun a=>
 (Dj (Source.mk a.2.2.2.2.2.1 a.2.2.2.2.2.2.1 a.2.2.2.2.2.2.2.1 a.2.2.2.2.2.2.2.2)).bind fun j=>
 some (j,(bV.mk a.2.2.1 a.2.2.2.1 a.2.2.2.2.1)))
def Mf {m r} (h:ma m=some r):Call tab ow 94 [.ptr 0 0 0 1] [⟨3,true,[[sl eU8 m.code,I m.at_,I m.seed]]⟩]=some (.agg [sl aG r.1.Script,I r.1.At,S r.1.State,I r.1.Count],[⟨3,true,[[sl eU8 r.2.code,I r.2.at_,I r.2.seed]]⟩]):=by
 rw [ak (af:=qv) rfl]
 unfold ma at h
 simp only [qv,vL]
 have d1:= @yH
 have d2:= @a3r
 have d3:= @iu
 have d4:= @fQ
 have d5:= @F0
 have d6:= @If
 have d7:= @a2r
 have d8:= @In
 exact go2
end
section
@[local go_sem] theorem a1T:mkR 5004 []=rws er []:=rfl
@[local go_sem] theorem a2i:mkR 6002 []=rws eI []:=rfl
@[local go_sem] theorem a2q:mkR 7002 []=rws eI []:=rfl
def oZ (m:bV):Option (Circuit×(List Int)×(List Int)×Setting×Source×bV):=
 (kI m).bind fun h=>
 (mf h.1 h.2).bind fun a=>
 (GI h.1 a.1 a.2.1).bind fun k=>
 (Dh h.1 k).bind fun j=>
 br (!j) (
 (b5 a.2.2).bind fun c=>
 (b5 c.2).bind fun e=>
 (lf e.2).bind fun i=>
 (ma i.2).bind fun f=>
 some ((Circuit.mk ([(aC.mk 1 0 0 0),(aC.mk 2 0 0 0),(aC.mk 6 0 0 0),(aC.mk 4 2 1 0)]:List aC)),([c.1]:List Int),([e.1]:List Int),i.1,f.1,f.2)) (
 (lf a.2.2).bind fun d=>
 (ma d.2).bind fun b=>
 some (h.1,a.1,a.2.1,d.1,b.1,b.2))
def Kt {m r} (h:oZ m=some r):Call tab ow 67 [.ptr 0 0 0 1] [⟨3,true,[[sl eU8 m.code,I m.at_,I m.seed]]⟩]=some (.tup [.agg [sl er r.1.Gates],sl eI r.2.1,sl eI r.2.2.1,.agg [I r.2.2.2.1.Rate,I r.2.2.2.1.Queries,I r.2.2.2.1.Grind],.agg [sl aG r.2.2.2.2.1.Script,I r.2.2.2.2.1.At,S r.2.2.2.2.1.State,I r.2.2.2.2.1.Count]],[⟨3,true,[[sl eU8 r.2.2.2.2.2.code,I r.2.2.2.2.2.at_,I r.2.2.2.2.2.seed]]⟩]):=by
 rw [ak (af:=pM) rfl]
 unfold oZ at h
 simp only [pM,BP]
 have d1:= @AL
 have d2:= @Bv
 have d3:= @a3Q
 have d4:= @YY
 have d5:= @nS
 have d6:= @JI
 have d7:= @Mf
 exact go2
end
def AT (b:List UInt8):Option Wt:=
 (re b).bind fun c=>
 (oZ c).bind fun a=>
 some (Wt.mk a.1 a.2.1 a.2.2.1 a.2.2.2.1 a.2.2.2.2.1)
def Ww {a r} (h:AT a=some r):Call tab ow 11 [sl eU8 a] []=some (.agg [sl er r.Circuit.Gates,sl eI r.Publics,sl eI r.Inputs,I r.Setting.Rate,I r.Setting.Queries,I r.Setting.Grind,sl aG r.Source.Script,I r.Source.At,S r.Source.State,I r.Source.Count],[]):=by
 rw [ak (af:=zD) rfl]
 unfold AT at h
 simp only [zD,LV]
 have d1:= @xq
 have d2:= @Kt
 exact go2
def TJ (a:List UInt8) (i n:Int):Option Int:=
 br (decide (n<=1)) (
 some 0) (
 br ((a.length:Int)==0) (
 br (decide (n≠0)) (
 some ((wrap .i64 (i*7)).tmod n)) none) (
 br (decide ((a.length:Int)≠0)) (
 (atL a (i.tmod (a.length:Int))).bind fun x=>
 br (decide ((a.length:Int)≠0)) (
 (atL a ((wrap .i64 (i+1)).tmod (a.length:Int))).bind fun b=>
 br (decide ((a.length:Int)≠0)) (
 br (decide (n≠0)) (
 some ((wrap .i64 ((wrap .i64 ((wrap .i64 ((wrap .i64 (x.toNat:Int))*31))+(wrap .i64 (b.toNat:Int))))+(wrap .i64 (i.tdiv (a.length:Int))))).tmod n)) none) none) none) none))
def c2i {a i n r} (h:TJ a i n=some r):Call tab ow 13 [sl eU8 a,I i,I n] []=some (I r,[]):=by
 rw [ak (af:=WE) rfl]
 unfold TJ at h
 simp only [WE,b3H]
 exact go2
def jQ (n b a:Int):Option Bool:=
 br (decide (b<=n)) (
 some (decide (n<=a))) (
 some false)
def wy {n b a r} (h:jQ n b a=some r):Call tab ow 68 [I n,I b,I a] []=some (B r,[]):=by
 rw [ak (af:=Xf) rfl]
 unfold jQ at h
 simp only [Xf,b3l]
 exact go2
def ms (f e c i h:Int):Int×Int×Int->Option ((Int×Int×Int)⊕((Int×Int×Int×Bool)))
 | (b,a,d)=>
   br (decide (d<e)) (
   br (decide (0<=c)) (
   br (decide (0<=(wrap .i64 (c+1)))) (
   some (.inl ((wrap .i64 (b*(wrap .i64 ((ct .i64 1 c)+1)))),(ct .i64 a (wrap .i64 (c+1))),(wrap .i64 (d+1))))) none) none) (
   some (.inr (b,a,d,decide (d<e))))
def GR {a d c b f}:LXe tab ow (.close []) y8 (ms a d c b f) (fun s=>⟨[(1,.ptr 1000 0 0 1),(3,I s.1),(4,I s.2.1),(5,I a),(7,I d),(8,I s.2.2)],[(1000,⟨3,true,[[I c,I b,I f]]⟩)]⟩) 0 (fun e=>(e.1,e.2.1,e.2.2.1)) (fun e=>[(9,B e.2.2.2)]):=by
 refine lrX (fun s o h=> ?_)
 obtain ⟨_,_,_⟩:=s
 simp only [ms] at h
 simp only [y8,xM]
 exact go2
def mL (c b i d:Int) (j:Bool) (h e f:Int):Int->Option ((Int)⊕((Int×Bool)))
 |a=>
  br (decide (0<=(wrap .i64 (a+1)))) (
  br (decide ((ct .i64 c (wrap .i64 (a+1)))<=b)) (
  some (.inl (wrap .i64 (a+1)))) (
  some (.inr (a,decide ((ct .i64 c (wrap .i64 (a+1)))<=b))))) none
def G2 {b a j c k i d f}:LXe tab ow (.close []) xS (mL b a j c k i d f) (fun s=>⟨[(1,.ptr 1000 0 0 1),(3,I b),(4,I a),(5,I s),(7,I j),(8,I c),(9,B k)],[(1000,⟨3,true,[[I i,I d,I f]]⟩)]⟩) 2 (fun e=>e.1) (fun e=>[(27,B e.2)]):=by
 refine lrX (fun s o h=> ?_)
 simp only [mL] at h
 simp only [xS,yn]
 exact go2
def fY (t:Setting):Option Int:=
 (Loop (ms 0 t.Queries t.Rate t.Queries t.Grind) (1,1,0)).bind fun a=>
 (Loop (mL a.1 a.2.1 t.Queries a.2.2.1 a.2.2.2 t.Rate t.Queries t.Grind) 0).bind fun b=>
 some (wrap .i64 (b.1+t.Grind))
def B1 {t r} (h:fY t=some r):Call tab ow 69 [.agg [I t.Rate,I t.Queries,I t.Grind]] []=some (I r,[]):=by
 rw [ak (af:=oo) rfl]
 unfold fY at h
 simp only [oo,od]
 have d1:= @GR
 have d2:= @G2
 exact go2
def vH (b d a c h f:Int):Int->Option ((Int)⊕((Int×Int)⊕(Int×Bool)))
 |q=>
  br (decide (q<=8)) (
  (fY (Setting.mk d q a)).bind fun e=>
  br (decide (e>=b)) (
  some (.inr (.inl (q,q)))) (
  some (.inl (wrap .i64 (q+1))))) (
  some (.inr (.inr (q,decide (q<=8)))))
def Xu {d b a c i f}:LX tab ow (.close [7004,8001]) Kz (vH d b a c i f) (fun s=>⟨[(0,I d),(1,I b),(2,I a),(6,.ptr 1000 0 0 1),(8,I s)],[(1000,⟨3,true,[[I c,I i,I f]]⟩)]⟩) (alt (fun e=>((.ret,⟨[(6,.ptr 1000 0 0 1),(7,I 0)],[(1000,⟨3,true,[[I b,I e.1,I a]]⟩),(7004,⟨3,true,[[I b,I e.2,I a]]⟩)]⟩):dd×St)) (fun e=>(.exit 0,⟨[(0,I d),(1,I b),(2,I a),(6,.ptr 1000 0 0 1),(8,I e.1),(25,B e.2)],[(1000,⟨3,true,[[I c,I i,I f]]⟩)]⟩))):=by
 refine lrX (fun s o h=> ?_)
 simp only [vH] at h
 simp only [Kz,Lk]
 have d1:= @B1
 exact go2
def Di (c b a:Int):Option (Setting×Int):=
 (jQ c 0 16).bind fun i=>
 br (!i) (
 some ((Setting.mk 0 0 0),4)) (
 (jQ b 1 3).bind fun f=>
 br (!f) (
 some ((Setting.mk 0 0 0),4)) (
 (jQ a 0 12).bind fun e=>
 br (!e) (
 some ((Setting.mk 0 0 0),4)) (
 (Loop (vH c b a 0 0 0) 1).bind (alt (fun d=>
 some ((Setting.mk b d.1 a),0)) (fun h=>
 some ((Setting.mk 0 0 0),16))))))
def a2N {b c a r} (h:Di b c a=some r):Call tab ow 12 [I b,I c,I a] []=some (.tup [.agg [I r.1.Rate,I r.1.Queries,I r.1.Grind],I r.2],[]):=by
 rw [ak (af:=Ed) rfl]
 unfold Di at h
 simp only [Ed,K1]
 have d1:= @wy
 have d2:= @Xu
 exact go2
def Gb (a:List UInt8) (n:Int):Option (List Ext):=
 (re a).bind fun c=>
 (px n c).bind fun b=>
 some b.1
def a2G {a n r} (h:Gb a n=some r):Call tab ow 15 [sl eU8 a,I n] []=some (sl aG r,[]):=by
 rw [ak (af:=Ei) rfl]
 unfold Gb at h
 simp only [Ei,QS]
 have d1:= @xq
 have d2:= @F0
 exact go2
def GM (t:List UInt8):Option Bool:=
 some (decide ((t.length:Int)>65536))
def a1Z {t r} (h:GM t=some r):Call tab ow 70 [S t] []=some (B r,[]):=by
 rw [ak (af:=Et) rfl]
 unfold GM at h
 simp only [Et,Rw]
 exact go2
def uz (a:Int):Option Bool:=
 (jQ a 0 2130706432).bind fun b=>
 some b
def Gn {a r} (h:uz a=some r):Call tab ow 132 [I a] []=some (B r,[]):=by
 rw [ak (af:=By) rfl]
 unfold uz at h
 simp only [By,P0]
 have d1:= @wy
 exact go2
def xe (a:Ext):Option Bool:=
 (uz a.A).bind fun c=>
 br c (
 (uz a.B).bind fun b=>
 some b) (
 some false)
def N0 {a r} (h:xe a=some r):Call tab ow 72 [.agg [I a.A,I a.B]] []=some (B r,[]):=by
 rw [ak (af:=HL) rfl]
 unfold xe at h
 simp only [HL,UN]
 have d1:= @Gn
 exact go2
def k8 (x:Ext):Option Bool:=
 (xe x).bind fun a=>
 some (!a)
def Fy {x r} (h:k8 x=some r):Call tab ow 167 [.agg [I x.A,I x.B],.ptr 0 0 0 1] [⟨1,true,[[.fn 72 []]]⟩]=some (B r,[⟨1,true,[[.fn 72 []]]⟩]):=by
 rw [ak (af:=tV) rfl]
 unfold k8 at h
 simp only [tV,EZ]
 have d1:= @N0
 exact go2
def cA (b:List Ext) (t:Int):Int->Option ((Int)⊕(Int⊕(Int×Bool)))
 |a=>
  br (decide (a<t)) (
  (atL b a).bind fun x=>
  (k8 x).bind fun c=>
  br c (
  some (.inr (.inl a))) (
  some (.inl (wrap .i64 (a+1))))) (
  some (.inr (.inr (a,decide (a<t)))))
def kV {a t}:LX tab ow (.close [5005]) lW (cA a t) (fun s=>⟨[(0,sl aG a),(1,.fn 167 [.ptr 0 0 0 1]),(7,I t),(8,I s)],[(0,⟨1,true,[[.fn 72 []]]⟩)]⟩) (alt (fun e=>((.ret,⟨[(4,I e)],[(0,⟨1,true,[[.fn 72 []]]⟩)]⟩):dd×St)) (fun e=>(.exit 0,⟨[(0,sl aG a),(1,.fn 167 [.ptr 0 0 0 1]),(7,I t),(8,I e.1),(9,B e.2)],[(0,⟨1,true,[[.fn 72 []]]⟩)]⟩))):=by
 refine lrX (fun s o h=> ?_)
 simp only [cA] at h
 simp only [lW,lV]
 have d1:= @Fy
 exact go2
def cO (s:List Ext):Option Int:=
 (Loop (cA s (s.length:Int)) 0).bind (alt (fun a=>
 some a) (fun b=>
 some (-1:Int)))
def lU {s r} (h:cO s=some r):Call tab ow 283 [sl aG s,.fn 167 [.ptr 0 0 0 1]] [⟨1,true,[[.fn 72 []]]⟩]=some (I r,[⟨1,true,[[.fn 72 []]]⟩]):=by
 rw [ak (af:=fF) rfl]
 unfold cO at h
 simp only [fF,iV]
 have d1:= @kV
 exact go2
def cE (s:List Ext):Option Bool:=
 (cO s).bind fun a=>
 some (decide (a>=0))
def kA {s r} (h:cE s=some r):Call tab ow 166 [sl aG s,.fn 167 [.ptr 0 0 0 1]] [⟨1,true,[[.fn 72 []]]⟩]=some (B r,[⟨1,true,[[.fn 72 []]]⟩]):=by
 rw [ak (af:=eP) rfl]
 unfold cE at h
 simp only [eP,lx]
 have d1:= @lU
 exact go2
def fq (a:List Ext):Option Bool:=
 (cE a).bind fun b=>
 some (!b)
def jZ {a r} (h:fq a=some r):Call tab ow 71 [.fn 72 [],sl aG a] []=some (B r,[]):=by
 rw [ak (af:=xj) rfl]
 unfold fq at h
 simp only [xj,Jg]
 have d1:= @kA
 exact go2
def di (l:List Ext):Option (List Ext):=br (bj l.length 16) (some l) none
theorem zI (x:Ext) (l:List Ext) (a:bj (x::l).length 16=true):Call (Pw 73 bK) Sa 73 [sl aG (x::l)] []=some (.sl 0 0 (x::l).length,[⟨2,false,rws aG (x::l)⟩]):=by
 rw [ak (af:=bK) (Ny _ _)]
 rw [ab] at a
 simp+decide only [bK,kq,fun k=>mk0 aG k,ZB,go_sem,reduceIte,Nat.reduceAdd,a]
def km {l r:List Ext} (h:di l=some r):Call tab ow 73 [sl aG l] []=some (.sl 0 0 r.length,[⟨2,false,rws aG r⟩]):=by
 unfold di at h
 obtain ⟨hb,h⟩:=brg h
 cases h
 rw [Q6 (g:=WT 73 bK 2) rfl]
 cases l with
 |nil=>rfl
 |cons x l=>exact zI x l hb
end
end Go.AI.Fn
