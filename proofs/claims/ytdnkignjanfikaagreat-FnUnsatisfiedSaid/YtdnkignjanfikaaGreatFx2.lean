/- Walks through the program, with open values. -/
import Derived.Test.YtdnkignjanfikaaGreatFx1
set_option linter.unusedVariables false
set_option linter.unusedSimpArgs false
set_option maxRecDepth 100000
set_option maxHeartbeats 1000000
namespace Go.AI.Fn
noncomputable section
open IntKind (wrap)
def te (x:Int):Option (Int):=
 br (decide (x≥4294967296)) (
 br (decide ((bA .u64 x 32)≥65536)) (
 br (decide ((bA .u64 (bA .u64 x 32) 16)≥256)) (
 (atL (([0,1,2,2,3,3,3,3,4,4,4,4,4,4,4,4,5,5,5,5,5,5,5,5,5,5,5,5,5,5,5,5,6,6,6,6,6,6,6,6,6,6,6,6,6,6,6,6,6,6,6,6,6,6,6,6,6,6,6,6,6,6,6,6,7,7,7,7,7,7,7,7,7,7,7,7,7,7,7,7,7,7,7,7,7,7,7,7,7,7,7,7,7,7,7,7,7,7,7,7,7,7,7,7,7,7,7,7,7,7,7,7,7,7,7,7,7,7,7,7,7,7,7,7,7,7,7,7,8,8,8,8,8,8,8,8,8,8,8,8,8,8,8,8,8,8,8,8,8,8,8,8,8,8,8,8,8,8,8,8,8,8,8,8,8,8,8,8,8,8,8,8,8,8,8,8,8,8,8,8,8,8,8,8,8,8,8,8,8,8,8,8,8,8,8,8,8,8,8,8,8,8,8,8,8,8,8,8,8,8,8,8,8,8,8,8,8,8,8,8,8,8,8,8,8,8,8,8,8,8,8,8,8,8,8,8,8,8,8,8,8,8,8,8,8,8,8,8,8,8,8,8,8,8,8,8]:List UInt8)) (wrap .u8 (bA .u64 (bA .u64 (bA .u64 x 32) 16) 8))).bind fun c=>
 some (wrap .i64 (56+(wrap .i64 (c.toNat:Int))))) (
 (atL (([0,1,2,2,3,3,3,3,4,4,4,4,4,4,4,4,5,5,5,5,5,5,5,5,5,5,5,5,5,5,5,5,6,6,6,6,6,6,6,6,6,6,6,6,6,6,6,6,6,6,6,6,6,6,6,6,6,6,6,6,6,6,6,6,7,7,7,7,7,7,7,7,7,7,7,7,7,7,7,7,7,7,7,7,7,7,7,7,7,7,7,7,7,7,7,7,7,7,7,7,7,7,7,7,7,7,7,7,7,7,7,7,7,7,7,7,7,7,7,7,7,7,7,7,7,7,7,7,8,8,8,8,8,8,8,8,8,8,8,8,8,8,8,8,8,8,8,8,8,8,8,8,8,8,8,8,8,8,8,8,8,8,8,8,8,8,8,8,8,8,8,8,8,8,8,8,8,8,8,8,8,8,8,8,8,8,8,8,8,8,8,8,8,8,8,8,8,8,8,8,8,8,8,8,8,8,8,8,8,8,8,8,8,8,8,8,8,8,8,8,8,8,8,8,8,8,8,8,8,8,8,8,8,8,8,8,8,8,8,8,8,8,8,8,8,8,8,8,8,8,8,8,8,8,8,8]:List UInt8)) (wrap .u8 (bA .u64 (bA .u64 x 32) 16))).bind fun c2=>
 some (wrap .i64 (48+(wrap .i64 (c2.toNat:Int)))))) (
 br (decide ((bA .u64 x 32)≥256)) (
 (atL (([0,1,2,2,3,3,3,3,4,4,4,4,4,4,4,4,5,5,5,5,5,5,5,5,5,5,5,5,5,5,5,5,6,6,6,6,6,6,6,6,6,6,6,6,6,6,6,6,6,6,6,6,6,6,6,6,6,6,6,6,6,6,6,6,7,7,7,7,7,7,7,7,7,7,7,7,7,7,7,7,7,7,7,7,7,7,7,7,7,7,7,7,7,7,7,7,7,7,7,7,7,7,7,7,7,7,7,7,7,7,7,7,7,7,7,7,7,7,7,7,7,7,7,7,7,7,7,7,8,8,8,8,8,8,8,8,8,8,8,8,8,8,8,8,8,8,8,8,8,8,8,8,8,8,8,8,8,8,8,8,8,8,8,8,8,8,8,8,8,8,8,8,8,8,8,8,8,8,8,8,8,8,8,8,8,8,8,8,8,8,8,8,8,8,8,8,8,8,8,8,8,8,8,8,8,8,8,8,8,8,8,8,8,8,8,8,8,8,8,8,8,8,8,8,8,8,8,8,8,8,8,8,8,8,8,8,8,8,8,8,8,8,8,8,8,8,8,8,8,8,8,8,8,8,8,8]:List UInt8)) (wrap .u8 (bA .u64 (bA .u64 x 32) 8))).bind fun c3=>
 some (wrap .i64 (40+(wrap .i64 (c3.toNat:Int))))) (
 (atL (([0,1,2,2,3,3,3,3,4,4,4,4,4,4,4,4,5,5,5,5,5,5,5,5,5,5,5,5,5,5,5,5,6,6,6,6,6,6,6,6,6,6,6,6,6,6,6,6,6,6,6,6,6,6,6,6,6,6,6,6,6,6,6,6,7,7,7,7,7,7,7,7,7,7,7,7,7,7,7,7,7,7,7,7,7,7,7,7,7,7,7,7,7,7,7,7,7,7,7,7,7,7,7,7,7,7,7,7,7,7,7,7,7,7,7,7,7,7,7,7,7,7,7,7,7,7,7,7,8,8,8,8,8,8,8,8,8,8,8,8,8,8,8,8,8,8,8,8,8,8,8,8,8,8,8,8,8,8,8,8,8,8,8,8,8,8,8,8,8,8,8,8,8,8,8,8,8,8,8,8,8,8,8,8,8,8,8,8,8,8,8,8,8,8,8,8,8,8,8,8,8,8,8,8,8,8,8,8,8,8,8,8,8,8,8,8,8,8,8,8,8,8,8,8,8,8,8,8,8,8,8,8,8,8,8,8,8,8,8,8,8,8,8,8,8,8,8,8,8,8,8,8,8,8,8,8]:List UInt8)) (wrap .u8 (bA .u64 x 32))).bind fun c4=>
 some (wrap .i64 (32+(wrap .i64 (c4.toNat:Int))))))) (
 br (decide (x≥65536)) (
 br (decide ((bA .u64 x 16)≥256)) (
 (atL (([0,1,2,2,3,3,3,3,4,4,4,4,4,4,4,4,5,5,5,5,5,5,5,5,5,5,5,5,5,5,5,5,6,6,6,6,6,6,6,6,6,6,6,6,6,6,6,6,6,6,6,6,6,6,6,6,6,6,6,6,6,6,6,6,7,7,7,7,7,7,7,7,7,7,7,7,7,7,7,7,7,7,7,7,7,7,7,7,7,7,7,7,7,7,7,7,7,7,7,7,7,7,7,7,7,7,7,7,7,7,7,7,7,7,7,7,7,7,7,7,7,7,7,7,7,7,7,7,8,8,8,8,8,8,8,8,8,8,8,8,8,8,8,8,8,8,8,8,8,8,8,8,8,8,8,8,8,8,8,8,8,8,8,8,8,8,8,8,8,8,8,8,8,8,8,8,8,8,8,8,8,8,8,8,8,8,8,8,8,8,8,8,8,8,8,8,8,8,8,8,8,8,8,8,8,8,8,8,8,8,8,8,8,8,8,8,8,8,8,8,8,8,8,8,8,8,8,8,8,8,8,8,8,8,8,8,8,8,8,8,8,8,8,8,8,8,8,8,8,8,8,8,8,8,8,8]:List UInt8)) (wrap .u8 (bA .u64 (bA .u64 x 16) 8))).bind fun c5=>
 some (wrap .i64 (24+(wrap .i64 (c5.toNat:Int))))) (
 (atL (([0,1,2,2,3,3,3,3,4,4,4,4,4,4,4,4,5,5,5,5,5,5,5,5,5,5,5,5,5,5,5,5,6,6,6,6,6,6,6,6,6,6,6,6,6,6,6,6,6,6,6,6,6,6,6,6,6,6,6,6,6,6,6,6,7,7,7,7,7,7,7,7,7,7,7,7,7,7,7,7,7,7,7,7,7,7,7,7,7,7,7,7,7,7,7,7,7,7,7,7,7,7,7,7,7,7,7,7,7,7,7,7,7,7,7,7,7,7,7,7,7,7,7,7,7,7,7,7,8,8,8,8,8,8,8,8,8,8,8,8,8,8,8,8,8,8,8,8,8,8,8,8,8,8,8,8,8,8,8,8,8,8,8,8,8,8,8,8,8,8,8,8,8,8,8,8,8,8,8,8,8,8,8,8,8,8,8,8,8,8,8,8,8,8,8,8,8,8,8,8,8,8,8,8,8,8,8,8,8,8,8,8,8,8,8,8,8,8,8,8,8,8,8,8,8,8,8,8,8,8,8,8,8,8,8,8,8,8,8,8,8,8,8,8,8,8,8,8,8,8,8,8,8,8,8,8]:List UInt8)) (wrap .u8 (bA .u64 x 16))).bind fun c6=>
 some (wrap .i64 (16+(wrap .i64 (c6.toNat:Int)))))) (
 br (decide (x≥256)) (
 (atL (([0,1,2,2,3,3,3,3,4,4,4,4,4,4,4,4,5,5,5,5,5,5,5,5,5,5,5,5,5,5,5,5,6,6,6,6,6,6,6,6,6,6,6,6,6,6,6,6,6,6,6,6,6,6,6,6,6,6,6,6,6,6,6,6,7,7,7,7,7,7,7,7,7,7,7,7,7,7,7,7,7,7,7,7,7,7,7,7,7,7,7,7,7,7,7,7,7,7,7,7,7,7,7,7,7,7,7,7,7,7,7,7,7,7,7,7,7,7,7,7,7,7,7,7,7,7,7,7,8,8,8,8,8,8,8,8,8,8,8,8,8,8,8,8,8,8,8,8,8,8,8,8,8,8,8,8,8,8,8,8,8,8,8,8,8,8,8,8,8,8,8,8,8,8,8,8,8,8,8,8,8,8,8,8,8,8,8,8,8,8,8,8,8,8,8,8,8,8,8,8,8,8,8,8,8,8,8,8,8,8,8,8,8,8,8,8,8,8,8,8,8,8,8,8,8,8,8,8,8,8,8,8,8,8,8,8,8,8,8,8,8,8,8,8,8,8,8,8,8,8,8,8,8,8,8,8]:List UInt8)) (wrap .u8 (bA .u64 x 8))).bind fun c7=>
 some (wrap .i64 (8+(wrap .i64 (c7.toNat:Int))))) (
 (atL (([0,1,2,2,3,3,3,3,4,4,4,4,4,4,4,4,5,5,5,5,5,5,5,5,5,5,5,5,5,5,5,5,6,6,6,6,6,6,6,6,6,6,6,6,6,6,6,6,6,6,6,6,6,6,6,6,6,6,6,6,6,6,6,6,7,7,7,7,7,7,7,7,7,7,7,7,7,7,7,7,7,7,7,7,7,7,7,7,7,7,7,7,7,7,7,7,7,7,7,7,7,7,7,7,7,7,7,7,7,7,7,7,7,7,7,7,7,7,7,7,7,7,7,7,7,7,7,7,8,8,8,8,8,8,8,8,8,8,8,8,8,8,8,8,8,8,8,8,8,8,8,8,8,8,8,8,8,8,8,8,8,8,8,8,8,8,8,8,8,8,8,8,8,8,8,8,8,8,8,8,8,8,8,8,8,8,8,8,8,8,8,8,8,8,8,8,8,8,8,8,8,8,8,8,8,8,8,8,8,8,8,8,8,8,8,8,8,8,8,8,8,8,8,8,8,8,8,8,8,8,8,8,8,8,8,8,8,8,8,8,8,8,8,8,8,8,8,8,8,8,8,8,8,8,8,8]:List UInt8)) (wrap .u8 x)).bind fun c8=>
 some (wrap .i64 (0+(wrap .i64 (c8.toNat:Int)))))))
theorem HU {x r} (h:te x=some r):Call tab ow 386 [.lit (.int .u64 x)] []=some (I r,[]):=by
 rw [ag (af:=kn) rfl]
 unfold te at h
 simp only [kn,xn]
 exact go2
def y7 (x:Int):Option (Int):=
 (te x).bind fun r_=>
 some r_
theorem LP {x r} (h:y7 x=some r):Call tab ow 348 [.lit (.int .u64 x)] []=some (I r,[]):=by
 rw [ag (af:=mW) rfl]
 unfold y7 at h
 simp only [mW,B8]
 have d1:= @HU
 exact go2
def Hj (n:Int):Option (Int):=
 (y7 (wrap .u64 n)).bind fun r_=>
 some (wrap .i64 (r_-1))
theorem QG {n r} (h:Hj n=some r):Call tab ow 309 [I n] []=some (I r,[]):=by
 rw [ag (af:=Da) rfl]
 unfold Hj at h
 simp only [Da,QH]
 have d1:= @LP
 exact go2
def uJ:Int×Int×Int→Option ((Int×Int×Int)⊕((Int×Int×Int×Bool)))
 | (a2,n2,out)=>
   br (decide (n2>0)) (
   br ((bo .i64 n2 1)==1) (
   (mK out a2).bind fun r_=>
   (mK a2 a2).bind fun r_2=>
   some (.inl (r_2,(bA .i64 n2 1),r_))) (
   (mK a2 a2).bind fun r_3=>
   some (.inl (r_3,(bA .i64 n2 1),out)))) (
   some (.inr (a2,n2,out,decide (n2>0))))
abbrev Rb (s:Int×Int×Int):St:=⟨[(0,I s.1),(1,I s.2.1),(5,I s.2.2)],[]⟩
abbrev QI:(Int×Int×Int×Bool)→aw×St:=fun e=>(.exit 0,⟨[(0,I e.1),(1,I e.2.1),(5,I e.2.2.1),(7,B e.2.2.2)],[]⟩)
theorem a5M { s e} (h:Loop (uJ) s=some e):aO tab ow (.close [6002,7002]) QD (Rb s)=some (QI e):=by
 refine lrG (fun s o h=> ?_) h
 obtain ⟨_,_,_⟩:=s
 simp only [uJ] at h
 simp only [Rb,QI,QD,Rl]
 have d1:= @uB
 exact go2
def OM (a n:Int):Option (Int):=
 (Loop (uJ) (a,n,1)).bind fun e_=>
 some e_.2.2.1
theorem S7 {a n r} (h:OM a n=some r):Call tab ow 359 [I a,I n] []=some (I r,[]):=by
 rw [ag (af:=M0) rfl]
 unfold OM at h
 simp only [M0,Tp]
 have d1:= @a5M
 exact go2
def JS (k:Int):Option (Int):=
 br (decide (0≤(wrap .i64 (24-k)))) (
 (OM 3 (aP .i64 127 (wrap .i64 (24-k)))).bind fun r_=>
 some r_) none
theorem VX {k r} (h:JS k=some r):Call tab ow 308 [I k] []=some (I r,[]):=by
 rw [ag (af:=Gj) rfl]
 unfold JS at h
 simp only [Gj,Wj]
 have d1:= @S7
 exact go2
def eD (a:Ext) (n:Int):Option (Ext):=
 (mK a.A n).bind fun r_=>
 (mK a.B n).bind fun r_2=>
 some (Ext.mk r_ r_2)
theorem kD {a n r} (h:eD a n=some r):Call tab ow 354 [.agg [I a.A,I a.B],I n] []=some (.agg [I r.A,I r.B],[]):=by
 rw [ag (af:=oy) rfl]
 unfold eD at h
 simp only [oy,CF]
 have d1:= @uB
 exact go2
def er (a b:Ext):Option (Ext):=
 (Cq a.A b.A).bind fun r_=>
 (Cq a.B b.B).bind fun r_2=>
 some (Ext.mk r_ r_2)
theorem hG {a b r} (h:er a b=some r):Call tab ow 199 [.agg [I a.A,I a.B],.agg [I b.A,I b.B]] []=some (.agg [I r.A,I r.B],[]):=by
 rw [ag (af:=uu) rfl]
 unfold er at h
 simp only [uu,HR]
 have d1:= @H3
 exact go2
section
theorem XP:mkR 4000 []=rws ak []:=rfl
attribute [local go_sem] XP
theorem We:mkR 4001 []=rws ak []:=rfl
attribute [local go_sem] We
theorem Wp:mkR 8005 []=rws ak []:=rfl
attribute [local go_sem] Wp
theorem Vi:mkR 8013 []=rws ak []:=rfl
attribute [local go_sem] Vi
theorem VK: ∀k,Lt 11002 k [I (0:Int),I (0:Int)]=rws ak (List.replicate k (Ext.mk (0:Int) (0:Int))):=fun _=>a7D ak (Ext.mk (0:Int) (0:Int)) _ _
attribute [local go_sem] VK
def jb (ListtoArray2:List Ext) (t:Int):(List Ext)×(List Ext)×Int→Option (((List Ext)×(List Ext)×Int)⊕(((List Ext)×(List Ext)×Int×Bool)))
 | (l,l2,t2)=>
   br (decide (t2<((ListtoArray2.length:Nat):Int))) (
   (atL ListtoArray2 t2).bind fun x=>
   br (aB ((l++([x]:List Ext)).length) 16) (
   (atL ListtoArray2 (wrap .i64 (t2+1))).bind fun x2=>
   br (aB ((l2++([x2]:List Ext)).length) 16) (
   some (.inl ((l++([x]:List Ext)),(l2++([x2]:List Ext)),(wrap .i64 (t2+2))))) none) none) (
   some (.inr (l,l2,t2,decide (t2<((ListtoArray2.length:Nat):Int)))))
abbrev zP (l l2:List Ext):List (Nat×Blk):=[(4000,⟨2,false,rws ak l⟩),(4001,⟨2,false,rws ak l2⟩)]
abbrev IC (ListtoArray2:List Ext) (t:Int) (s:(List Ext)×(List Ext)×Int):St:=⟨[(0,sl ak ListtoArray2),(1,I t),(5,.sl 4000 0 s.1.length),(6,.sl 4001 0 s.2.1.length),(7,I s.2.2)],zP s.1 s.2.1⟩
abbrev I5 (ListtoArray2:List Ext) (t:Int):((List Ext)×(List Ext)×Int×Bool)→aw×St:=fun e=>(.exit 0,⟨[(0,sl ak ListtoArray2),(1,I t),(5,.sl 4000 0 e.1.length),(6,.sl 4001 0 e.2.1.length),(7,I e.2.2.1),(25,B e.2.2.2)],zP e.1 e.2.1⟩)
theorem Te {ListtoArray2 t s e} (h:Loop (jb ListtoArray2 t) s=some e):aO tab ow (.close [8005,8006,8013,8014]) Ig (IC ListtoArray2 t s)=some (I5 ListtoArray2 t e):=by
 refine lrG (fun s o h=> ?_) h
 obtain ⟨_,_,_⟩:=s
 simp only [jb] at h
 simp only [IC,I5,zP,Ig,Hr]
 exact go2
def jl (l3 l4:List Ext) (t3 t4 t6:Int):(List Ext)×Int×Int→Option (((List Ext)×Int×Int)⊕(((List Ext)×Int×Int×Bool)))
 | (l5,t5,t7)=>
   br (decide (t7<t6)) (
   br (decide (0≤t7)) (
   br (decide (t7.toNat<l4.length)) (
   (l4[t7.toNat]?).bind fun x3=>
   (eD x3 t5).bind fun r_6=>
   br (decide (0≤t7)) (
   br (decide (t7.toNat<l3.length)) (
   (l3[t7.toNat]?).bind fun x4=>
   (er x4 r_6).bind fun r_7=>
   br (decide (0≤t7)) (
   br (decide (t7.toNat<l3.length)) (
   (l3[t7.toNat]?).bind fun x5=>
   (fF x5 r_6).bind fun r_8=>
   br (decide (0≤t7)) (
   br (decide (t7.toNat<l5.length)) (
   (l5[t7.toNat]?).bind fun x6=>
   br (decide (0≤(wrap .i64 (t7+t4)))) (
   br (decide ((wrap .i64 (t7+t4)).toNat<l5.length)) (
   ((l5.set t7.toNat r_7)[(wrap .i64 (t7+t4)).toNat]?).bind fun x7=>
   (mK t5 t3).bind fun r_9=>
   some (.inl (((l5.set t7.toNat r_7).set ((wrap .i64 (t7+t4)).toNat) r_8),r_9,(wrap .i64 (t7+1))))) none) none) none) none) none) none) none) none) none) none) (
   some (.inr (l5,t5,t7,decide (t7<t6))))
abbrev zU (l3 l4 l5:List Ext):List (Nat×Blk):=[(4000,ip),(4001,ip),(9004,⟨2,false,rws ak l3⟩),(9009,⟨2,false,rws ak l4⟩),(11002,⟨2,false,rws ak l5⟩)]
abbrev Il (l3 l4:List Ext) (t3 t4 t6:Int) (s:(List Ext)×Int×Int):St:=⟨[(1,I t3),(8,.sl 9004 0 l3.length),(9,.sl 9009 0 l4.length),(10,I t4),(11,I s.2.1),(12,.sl 11002 0 s.1.length),(58,I t6),(59,I s.2.2)],zU l3 l4 s.1⟩
abbrev If (l3 l4:List Ext) (t3 t4 t6:Int):((List Ext)×Int×Int×Bool)→aw×St:=fun e=>(.exit 2,⟨[(1,I t3),(8,.sl 9004 0 l3.length),(9,.sl 9009 0 l4.length),(10,I t4),(11,I e.2.1),(12,.sl 11002 0 e.1.length),(58,I t6),(59,I e.2.2.1),(60,B e.2.2.2)],zU l3 l4 e.1⟩)
theorem RD {l3 l4 t3 t4 t6 s e} (h:Loop (jl l3 l4 t3 t4 t6) s=some e):aO tab ow (.close [15005,15006,16011,16017,17002]) EX (Il l3 l4 t3 t4 t6 s)=some (If l3 l4 t3 t4 t6 e):=by
 refine lrG (fun s o h=> ?_) h
 obtain ⟨_,_,_⟩:=s
 simp only [jl] at h
 simp only [Il,If,zU,EX,EN]
 have d1:= @kD
 have d2:= @hG
 have d3:= @jQ
 have d4:= @uB
 exact go2
def kV:Nat→(List Ext)→Int→Option ((List Ext))
 |0,_,_=>none
 |n_+1,ListtoArray,a=>
  br (((ListtoArray.length:Nat):Int)==1) (
  (co ListtoArray).bind fun r_=>
  some r_) (
  (Loop (jb ListtoArray a) (([]:List Ext),([]:List Ext),0)).bind fun e_=>
  (mK a a).bind fun r_2=>
  (kV n_ e_.1 r_2).bind fun r_3=>
  (mK a a).bind fun r_4=>
  (kV n_ e_.2.1 r_4).bind fun r_5=>
  br (LR (wrap .i64 (2*((r_3.length:Nat):Int))) (wrap .i64 (2*((r_3.length:Nat):Int))) 16) (
  (Loop (jl r_3 r_5 a ((r_3.length:Nat):Int) ((r_3.length:Nat):Int)) ((List.replicate ((wrap .i64 ((2:Int)*((r_3.length:Nat):Int))).toNat) (Ext.mk (0:Int) (0:Int))),(1:Int),(0:Int))).bind fun e_2=>
  some e_2.1) none)
theorem SY (n_:Nat): ∀{ListtoArray:(List Ext)} {a:Int} {r:(List Ext)},kV n_ ListtoArray a=some r→Call tab ow 307 [sl ak ListtoArray,I a] []=some (.sl 0 0 r.length,[⟨2,false,rws ak r⟩]):=by
 induction n_ with
 |zero=>intro _ _ r h;cases h
 |succ n_ ih=>
  intro ListtoArray a r h
  rw [ag (af:=zm) rfl]
  simp only [kV] at h
  simp only [zm,zq]
  have d1:= @kq
  have d2:= @Te
  have d3:= @uB
  have d4:= @ih
  have d5:= @RD
  exact go2
def Ng (ListtoArray:(List Ext)) (a:Int):Option ((List Ext)):=lim (fun n_=>kV n_ ListtoArray a)
theorem YB {ListtoArray:(List Ext)} {a:Int} {r:(List Ext)} (h:Ng ListtoArray a=some r):Call tab ow 307 [sl ak ListtoArray,I a] []=some (.sl 0 0 r.length,[⟨2,false,rws ak r⟩]):=by
 obtain ⟨n_,hn⟩:=S6 h
 exact SY n_ hn
end
def a1U (coefs:(List Ext)):Option ((List Ext)):=
 (Hj ((coefs.length:Nat):Int)).bind fun r_=>
 (JS r_).bind fun r_2=>
 (Ng coefs r_2).bind fun r_3=>
 some r_3
theorem b2W {coefs r} (h:a1U coefs=some r):Call tab ow 196 [sl ak coefs] []=some (sl ak r,[]):=by
 rw [ag (af:=Mi) rfl]
 unfold a1U at h
 simp only [Mi,a1k]
 have d1:= @QG
 have d2:= @VX
 have d3:= @YB
 exact go2
section
theorem Sv: ∀k,Lt 2004 k [I (0:Int),I (0:Int)]=rws ak (List.replicate k (Ext.mk (0:Int) (0:Int))):=fun _=>a7D ak (Ext.mk (0:Int) (0:Int)) _ _
attribute [local go_sem] Sv
def uO (coefs:(List Ext)) (rate:Int):Option ((List Ext)):=
 br (decide (0≤rate)) (
 br (LR (aP .i64 ((coefs.length:Nat):Int) rate) (aP .i64 ((coefs.length:Nat):Int) rate) 16) (
 (a1U (tK (List.replicate ((aP .i64 ((coefs.length:Nat):Int) rate).toNat) (Ext.mk (0:Int) (0:Int))) 0 (min coefs.length ((List.replicate ((aP .i64 ((coefs.length:Nat):Int) rate).toNat) (Ext.mk (0:Int) (0:Int))).length)) coefs)).bind fun r_=>
 some r_) none) none
theorem KU {coefs rate r} (h:uO coefs rate=some r):Call tab ow 98 [sl ak coefs,I rate] []=some (sl ak r,[]):=by
 rw [ag (af:=xf) rfl]
 unfold uO at h
 simp only [xf,KQ]
 have d1:= @b2W
 exact go2
end
section
theorem Pz:mkR 2000 []=rws eU8 []:=rfl
attribute [local go_sem] Pz
def iQ (t:List Ext) (t2:Int):(List UInt8)×Int→Option (((List UInt8)×Int)⊕(((List UInt8)×Int×Bool)))
 | (l,t3)=>
   br (decide (t3<t2)) (
   (atL t t3).bind fun x=>
   (iE x.A l).bind fun r_=>
   (iE x.B r_).bind fun r_2=>
   some (.inl (r_2,(wrap .i64 (t3+1))))) (
   some (.inr (l,t3,decide (t3<t2))))
abbrev CQ (t:List Ext) (t2:Int) (s:(List UInt8)×Int):St:=⟨[(3,.sl 2000 0 s.1.length),(7,sl ak t),(8,I t2),(9,I s.2)],[(2000,⟨1,false,rws eU8 s.1⟩)]⟩
abbrev CL (t:List Ext) (t2:Int):((List UInt8)×Int×Bool)→aw×St:=fun e=>(.exit 0,⟨[(3,.sl 2000 0 e.1.length),(7,sl ak t),(8,I t2),(9,I e.2.1),(10,B e.2.2)],[(2000,⟨1,false,rws eU8 e.1⟩)]⟩)
theorem N7 {t t2 s e} (h:Loop (iQ t t2) s=some e):aO tab ow (.close [5002,6003,6006]) CO (CQ t t2 s)=some (CL t t2 e):=by
 refine lrG (fun s o h=> ?_) h
 obtain ⟨_,_⟩:=s
 simp only [iQ] at h
 simp only [CQ,CL,CO,CX]
 have d1:= @kP
 exact go2
def qW (list:(List Ext)):Option ((List UInt8)):=
 (Loop (iQ list ((list.length:Nat):Int)) (([]:List UInt8),0)).bind fun e_=>
 some e_.1
theorem Gz {list r} (h:qW list=some r):Call tab ow 175 [sl ak list] []=some (sl eU8 r,[]):=by
 rw [ag (af:=uw) rfl]
 unfold qW at h
 simp only [uw,Av]
 have d1:= @N7
 exact go2
end
section
theorem Ps:mkR 2000 []=rws eS []:=rfl
attribute [local go_sem] Ps
theorem PM:mkR 6011 []=rws ak []:=rfl
attribute [local go_sem] PM
theorem PL:mkR 6014 []=rws eS []:=rfl
attribute [local go_sem] PL
def gk (word2:List Ext) (half t:Int):(List (List UInt8))×Int→Option (((List (List UInt8))×Int)⊕(((List (List UInt8))×Int×Bool)))
 | (l,t2)=>
   br (decide (t2<t)) (
   (atL word2 t2).bind fun x=>
   (atL word2 (wrap .i64 (t2+half))).bind fun x2=>
   (qW ([x,x2]:List Ext)).bind fun r_=>
   br (aB ((l++([r_]:List (List UInt8))).length) 16) (
   some (.inl ((l++([r_]:List (List UInt8))),(wrap .i64 (t2+1))))) none) (
   some (.inr (l,t2,decide (t2<t))))
abbrev Cc (word2:List Ext) (half t:Int) (s:(List (List UInt8))×Int):St:=⟨[(0,sl ak word2),(3,.sl 2000 0 s.1.length),(4,I half),(10,I t),(11,I s.2)],[(2000,⟨1,false,rws eS s.1⟩)]⟩
abbrev BE (word2:List Ext) (half t:Int):((List (List UInt8))×Int×Bool)→aw×St:=fun e=>(.exit 0,⟨[(0,sl ak word2),(3,.sl 2000 0 e.1.length),(4,I half),(10,I t),(11,I e.2.1),(12,B e.2.2)],[(2000,⟨1,false,rws eS e.1⟩)]⟩)
theorem P7 {word2 half t s e} (h:Loop (gk word2 half t) s=some e):aO tab ow (.close [6011,6012,6014,6015]) CH (Cc word2 half t s)=some (BE word2 half t e):=by
 refine lrG (fun s o h=> ?_) h
 obtain ⟨_,_⟩:=s
 simp only [gk] at h
 simp only [Cc,BE,CH,D2]
 have d1:= @Gz
 exact go2
def vQ (word:(List Ext)):Option ((List (List UInt8))):=
 (Loop (gk word (wrap .i64 (((word.length:Nat):Int).tdiv 2)) (wrap .i64 (((word.length:Nat):Int).tdiv 2))) (([]:List (List UInt8)),0)).bind fun e_=>
 some e_.1
theorem SU {word r} (h:vQ word=some r):Call tab ow 195 [sl ak word] []=some (sl eS r,[]):=by
 rw [ag (af:=uA) rfl]
 unfold vQ at h
 simp only [uA,zz]
 have d1:= @P7
 exact go2
end
def uX (leaf:(List UInt8)):Option ((List UInt8)):=
 br (aB ((([0]:List UInt8)).length+leaf.length) 1) (
 some ((([0]:List UInt8))++leaf)) none
theorem TB {leaf r} (h:uX leaf=some r):Call tab ow 305 [S leaf] []=some (S r,[]):=by
 rw [ag (af:=uE) rfl]
 unfold uX at h
 simp only [uE,Gv]
 exact go2
def ve (a b:(List UInt8)):Option ((List UInt8)):=
 br (aB ((([1]:List UInt8)).length+a.length) 1) (
 br (aB (((([1]:List UInt8))++a).length+b.length) 1) (
 some (((([1]:List UInt8))++a)++b)) none) none
theorem S5 {a b r} (h:ve a b=some r):Call tab ow 306 [S a,S b] []=some (S r,[]):=by
 rw [ag (af:=uh) rfl]
 unfold ve at h
 simp only [uh,GA]
 exact go2
section
theorem Wi:mkR 2000 []=rws eS []:=rfl
attribute [local go_sem] Wi
theorem XO:mkR 6004 []=rws eS []:=rfl
attribute [local go_sem] XO
theorem XL:mkR 8001 []=rws (eL eS) []:=rfl
attribute [local go_sem] XL
theorem Vj:mkR 10000 []=rws eS []:=rfl
attribute [local go_sem] Vj
theorem Xv:mkR 14012 []=rws eS []:=rfl
attribute [local go_sem] Xv
theorem Xt:mkR 15002 []=rws (eL eS) []:=rfl
attribute [local go_sem] Xt
def lr (t:List (List UInt8)) (t2:Int):(List (List UInt8))×Int→Option (((List (List UInt8))×Int)⊕(((List (List UInt8))×Int×Bool)))
 | (l,t3)=>
   br (decide (t3<t2)) (
   (atL t t3).bind fun x=>
   (uX x).bind fun r_=>
   (yY r_).bind fun r_2=>
   br (aB ((l++([r_2]:List (List UInt8))).length) 16) (
   some (.inl ((l++([r_2]:List (List UInt8))),(wrap .i64 (t3+1))))) none) (
   some (.inr (l,t3,decide (t3<t2))))
abbrev HV (t:List (List UInt8)) (t2:Int) (s:(List (List UInt8))×Int):St:=⟨[(3,.sl 2000 0 s.1.length),(10,sl eS t),(11,I t2),(12,I s.2)],[(2000,⟨1,false,rws eS s.1⟩)]⟩
abbrev HO (t:List (List UInt8)) (t2:Int):((List (List UInt8))×Int×Bool)→aw×St:=fun e=>(.exit 0,⟨[(3,.sl 2000 0 e.1.length),(10,sl eS t),(11,I t2),(12,I e.2.1),(13,B e.2.2)],[(2000,⟨1,false,rws eS e.1⟩)]⟩)
theorem U1 {t t2 s e} (h:Loop (lr t t2) s=some e):aO tab ow (.close [6002,6003,6004,6005]) GP (HV t t2 s)=some (HO t t2 e):=by
 refine lrG (fun s o h=> ?_) h
 obtain ⟨_,_⟩:=s
 simp only [lr] at h
 simp only [HV,HO,GP,HY]
 have d1:= @TB
 have d2:= @Pc
 exact go2
def lx (l3:List (List (List UInt8))) (row2:List (List UInt8)):(List (List UInt8))×Int→Option (((List (List UInt8))×Int)⊕(((List (List UInt8))×Int×Bool)))
 | (l4,i)=>
   br (decide (i<((row2.length:Nat):Int))) (
   (atL row2 i).bind fun x2=>
   (atL row2 (wrap .i64 (i+1))).bind fun x3=>
   (ve x2 x3).bind fun r_3=>
   (yY r_3).bind fun r_4=>
   br (aB ((l4++([r_4]:List (List UInt8))).length) 16) (
   some (.inl ((l4++([r_4]:List (List UInt8))),(wrap .i64 (i+2))))) none) (
   some (.inr (l4,i,decide (i<((row2.length:Nat):Int)))))
abbrev zo (l3:List (List (List UInt8))) (l4:List (List UInt8)):List (Nat×Blk):=[(8001,⟨1,false,rws (eL eS) l3⟩),(10000,⟨1,false,rws eS l4⟩)]
abbrev H6 (l3:List (List (List UInt8))) (row2:List (List UInt8)) (s:(List (List UInt8))×Int):St:=⟨[(3,sl eS row2),(6,.sl 8001 0 l3.length),(7,.sl 10000 0 s.1.length),(8,I s.2)],zo l3 s.1⟩
abbrev Hl (l3:List (List (List UInt8))) (row2:List (List UInt8)):((List (List UInt8))×Int×Bool)→aw×St:=fun e=>(.exit 4,⟨[(3,sl eS row2),(6,.sl 8001 0 l3.length),(7,.sl 10000 0 e.1.length),(8,I e.2.1),(32,B e.2.2)],zo l3 e.1⟩)
theorem SR {l3 row2 s e} (h:Loop (lx l3 row2) s=some e):aO tab ow (.close [14010,14011,14012,14013]) EM (H6 l3 row2 s)=some (Hl l3 row2 e):=by
 refine lrG (fun s o h=> ?_) h
 obtain ⟨_,_⟩:=s
 simp only [lx] at h
 simp only [H6,Hl,zo,EM,EE]
 have d1:= @S5
 have d2:= @Pc
 exact go2
def jp:(List (List (List UInt8)))×(List (List UInt8))→Option (((List (List (List UInt8)))×(List (List UInt8)))⊕(((List (List (List UInt8)))×(List (List UInt8))×Bool)))
 | (l2,row)=>
   br (decide (((row.length:Nat):Int)>1)) (
   (Loop (lx l2 row) (([]:List (List UInt8)),0)).bind fun e_2=>
   br (aB ((l2++([e_2.1]:List (List (List UInt8)))).length) 24) (
   some (.inl ((l2++([e_2.1]:List (List (List UInt8)))),e_2.1))) none) (
   some (.inr (l2,row,decide (((row.length:Nat):Int)>1))))
abbrev H9 (s:(List (List (List UInt8)))×(List (List UInt8))):St:=⟨[(3,sl eS s.2),(6,.sl 8001 0 s.1.length)],[(8001,⟨1,false,rws (eL eS) s.1⟩)]⟩
abbrev GU:((List (List (List UInt8)))×(List (List UInt8))×Bool)→aw×St:=fun e=>(.exit 2,⟨[(3,sl eS e.2.1),(6,.sl 8001 0 e.1.length),(27,B e.2.2)],[(8001,⟨1,false,rws (eL eS) e.1⟩)]⟩)
theorem RH { s e} (h:Loop (jp) s=some e):aO tab ow (.close [10000,14010,14011,14012,14013,15002,15003]) Hw (H9 s)=some (GU e):=by
 refine lrG (fun s o h=> ?_) h
 obtain ⟨_,_⟩:=s
 simp only [jp] at h
 simp only [H9,GU,Hw,GQ]
 have d1:= @SR
 exact go2
def CY (leaves:(List (List UInt8))):Option ((List (List (List UInt8)))):=
 (Loop (lr leaves ((leaves.length:Nat):Int)) (([]:List (List UInt8)),0)).bind fun e_=>
 (Loop (jp) (([e_.1]:List (List (List UInt8))),e_.1)).bind fun e_3=>
 some e_3.1
theorem Zk {leaves r} (h:CY leaves=some r):Call tab ow 194 [sl eS leaves] []=some (sl (eL eS) r,[]):=by
 rw [ag (af:=zG) rfl]
 unfold CY at h
 simp only [zG,vX]
 have d1:= @U1
 have d2:= @RH
 exact go2
end
def vS (word:(List Ext)):Option (aG):=
 (vQ word).bind fun r_=>
 (CY r_).bind fun r_2=>
 some (aG.mk word r_2)
theorem FZ {word r} (h:vS word=some r):Call tab ow 97 [sl ak word] []=some (.agg [sl ak r.word,sl (eL eS) r.rows],[]):=by
 rw [ag (af:=zB) rfl]
 unfold vS at h
 simp only [zB,MV]
 have d1:= @SU
 have d2:= @Zk
 exact go2
def vA (rows:(List (List (List UInt8)))):Option ((List UInt8)):=
 (atL rows (wrap .i64 (((rows.length:Nat):Int)-1))).bind fun x=>
 (atL x 0).bind fun x2=>
 some x2
theorem OW {rows r} (h:vA rows=some r):Call tab ow 96 [sl (eL eS) rows] []=some (S r,[]):=by
 rw [ag (af:=zi) rfl]
 unfold vA at h
 simp only [zi,P1]
 exact go2
def jr (t:List UInt8) (t2:Int):Int×Int→Option ((Int×Int)⊕((Int×Int×Bool)))
 | (n,t3)=>
   br (decide (t3<t2)) (
   (atL t t3).bind fun x=>
   some (.inl ((ui .u64 (aP .u64 n 8) (wrap .u64 (x.toNat:Int))),(wrap .i64 (t3+1))))) (
   some (.inr (n,t3,decide (t3<t2))))
abbrev Ha (t:List UInt8) (t2:Int) (s:Int×Int):St:=⟨[(3,.lit (.int .u64 s.1)),(6,sl eU8 t),(7,I t2),(8,I s.2)],[]⟩
abbrev Io (t:List UInt8) (t2:Int):(Int×Int×Bool)→aw×St:=fun e=>(.exit 0,⟨[(3,.lit (.int .u64 e.1)),(6,sl eU8 t),(7,I t2),(8,I e.2.1),(9,B e.2.2)],[]⟩)
theorem Tt {t t2 s e} (h:Loop (jr t t2) s=some e):aO tab ow (.close []) IR (Ha t t2 s)=some (Io t t2 e):=by
 refine lrG (fun s o h=> ?_) h
 obtain ⟨_,_⟩:=s
 simp only [jr] at h
 simp only [Ha,Io,IR,Hg]
 exact go2
def yu (b:(List UInt8)):Option (Int):=
 (Loop (jr b ((b.length:Nat):Int)) (0,0)).bind fun e_=>
 some (wrap .i64 (e_.1.tmod 2130706433))
theorem a0I {b r} (h:yu b=some r):Call tab ow 368 [sl eU8 b] []=some (I r,[]):=by
 rw [ag (af:=Aq) rfl]
 unfold yu at h
 simp only [Aq,Gf]
 have d1:= @Tt
 exact go2
section
theorem JW:mkR 5005 []=rws eU8 []:=rfl
attribute [local go_sem] JW
theorem Jl:mkR 5012 []=rws (eL eU8) []:=rfl
attribute [local go_sem] Jl
def fK (m:Source):Option (Ext×Source):=
 br (decide (((m.Script.length:Nat):Int)>0)) (
 br (decide (((m.Script.length:Nat):Int)≠0)) (
 (atL m.Script ((wrap .i64 ((wrap .i64 (m.At+1))-1)).tmod ((m.Script.length:Nat):Int))).bind fun x=>
 some (x,(Source.mk m.Script (wrap .i64 (m.At+1)) m.State m.Count))) none) (
 br (aB m.State.length 1) (
 (BV m.Count).bind fun r_=>
 (ph ([m.State,([(100:UInt8),(114:UInt8),(97:UInt8),(119:UInt8)]:List UInt8),r_]:List (List UInt8))).bind fun r_2=>
 br (aB r_2.length 1) (
 (nL r_2 0 8).bind fun y=>
 (yu y).bind fun r_3=>
 (nL r_2 8 16).bind fun y2=>
 (yu y2).bind fun r_4=>
 some ((Ext.mk r_3 r_4),(Source.mk m.Script m.At m.State (wrap .i64 (m.Count+1))))) none) none)
theorem ta {m r} (h:fK m=some r):Call tab ow 325 [.ptr 0 0 0 1] [⟨4,true,[[sl ak m.Script,I m.At,S m.State,I m.Count]]⟩]=some (.agg [I r.1.A,I r.1.B],[⟨4,true,[[sl ak r.2.Script,I r.2.At,S r.2.State,I r.2.Count]]⟩]):=by
 rw [ag (af:=np) rfl]
 unfold fK at h
 simp only [np,AM]
 have d1:= @HJ
 have d2:= @wc
 have d3:= @a0I
 exact go2
end
section
theorem II:mkR 2000 []=rws ak []:=rfl
attribute [local go_sem] II
theorem IN:mkR 5003 []=rws ak []:=rfl
attribute [local go_sem] IN
def dv (t:Int):(List Ext)×Int×(List Ext)×Int×(List UInt8)×Int→Option (((List Ext)×Int×(List Ext)×Int×(List UInt8)×Int)⊕(((List Ext)×Int×Bool×(List Ext)×Int×(List UInt8)×Int)))
 | (l,t2,c,c2,c3,c4)=>
   br (decide (t2<t)) (
   (fK (Source.mk c c2 c3 c4)).bind fun r_=>
   br (aB ((l++([r_.1]:List Ext)).length) 16) (
   some (.inl ((l++([r_.1]:List Ext)),(wrap .i64 (t2+1)),r_.2.Script,r_.2.At,r_.2.State,r_.2.Count))) none) (
   some (.inr (l,t2,decide (t2<t),c,c2,c3,c4)))
abbrev nF (l c:List Ext) (c2:Int) (c3:List UInt8) (c4:Int):List (Nat×Blk):=[(0,⟨4,true,[[sl ak c,I c2,S c3,I c4]]⟩),(2000,⟨2,false,rws ak l⟩)]
abbrev vR (t:Int) (s:(List Ext)×Int×(List Ext)×Int×(List UInt8)×Int):St:=⟨[(0,.ptr 0 0 0 1),(5,.sl 2000 0 s.1.length),(7,I t),(8,I s.2.1)],nF s.1 s.2.2.1 s.2.2.2.1 s.2.2.2.2.1 s.2.2.2.2.2⟩
abbrev vL (t:Int):((List Ext)×Int×Bool×(List Ext)×Int×(List UInt8)×Int)→aw×St:=fun e=>(.exit 0,⟨[(0,.ptr 0 0 0 1),(5,.sl 2000 0 e.1.length),(7,I t),(8,I e.2.1),(9,B e.2.2.1)],nF e.1 e.2.2.2.1 e.2.2.2.2.1 e.2.2.2.2.2.1 e.2.2.2.2.2.2⟩)
theorem Ga {t s e} (h:Loop (dv t) s=some e):aO tab ow (.close [5002,5003,5004]) vK (vR t s)=some (vL t e):=by
 refine lrG (fun s o h=> ?_) h
 obtain ⟨_,_,_,_,_,_⟩:=s
 simp only [dv] at h
 simp only [vR,vL,nF,vK,vD]
 have d1:= @ta
 exact go2
def gg (n:Int) (m:Source):Option ((List Ext)×Source):=
 (Loop (dv n) (([]:List Ext),0,m.Script,m.At,m.State,m.Count)).bind fun e_=>
 some (e_.1,(Source.mk e_.2.2.2.1 e_.2.2.2.2.1 e_.2.2.2.2.2.1 e_.2.2.2.2.2.2))
theorem q9 {n m r} (h:gg n m=some r):Call tab ow 227 [.ptr 0 0 0 1,I n] [⟨4,true,[[sl ak m.Script,I m.At,S m.State,I m.Count]]⟩]=some (sl ak r.1,[⟨4,true,[[sl ak r.2.Script,I r.2.At,S r.2.State,I r.2.Count]]⟩]):=by
 rw [ag (af:=lG) rfl]
 unfold gg at h
 simp only [lG,pX]
 have d1:= @Ga
 exact go2
end
def WD:Option (Ext):=
 some (Ext.mk 1 0)
theorem a2d {r} (h:WD=some r):Call tab ow 201 [] []=some (.agg [I r.A,I r.B],[]):=by
 rw [ag (af:=M1) rfl]
 unfold WD at h
 simp only [M1,a2C]
 exact go2
def cM (a b:Ext):Option (Ext):=
 (mK a.A b.A).bind fun r_=>
 (mK a.B b.B).bind fun r_2=>
 (mK 3 r_2).bind fun r_3=>
 (Cq r_ r_3).bind fun r_4=>
 (mK a.A b.B).bind fun r_5=>
 (mK a.B b.A).bind fun r_6=>
 (Cq r_5 r_6).bind fun r_7=>
 some (Ext.mk r_4 r_7)
theorem fE {a b r} (h:cM a b=some r):Call tab ow 200 [.agg [I a.A,I a.B],.agg [I b.A,I b.B]] []=some (.agg [I r.A,I r.B],[]):=by
 rw [ag (af:=rB) rfl]
 unfold cM at h
 simp only [rB,F8]
 have d1:= @uB
 have d2:= @H3
 exact go2
section
theorem Ug:mkR 2001 []=rws ak []:=rfl
attribute [local go_sem] Ug
theorem U9:mkR 6000 []=rws ak []:=rfl
attribute [local go_sem] U9
theorem SK:mkR 6001 []=rws ak []:=rfl
attribute [local go_sem] SK
theorem Ru:mkR 10006 []=rws ak []:=rfl
attribute [local go_sem] Ru
theorem TM:mkR 10012 []=rws ak []:=rfl
attribute [local go_sem] TM
def jM (t4:List Ext) (t5 t6:Int) (t7:List Ext) (t8 c c2:Int):(List Ext)×(List Ext)×Int→Option (((List Ext)×(List Ext)×Int)⊕(((List Ext)×(List Ext)×Int×Bool)))
 | (l,l2,t9)=>
   br (decide (t9<t8)) (
   (atL t7 t9).bind fun x2=>
   (WD).bind fun r_2=>
   (fF r_2 (Ext.mk c c2)).bind fun r_3=>
   (cM x2 r_3).bind fun r_4=>
   br (aB ((l++([r_4]:List Ext)).length) 16) (
   (cM x2 (Ext.mk c c2)).bind fun r_5=>
   br (aB ((l2++([r_5]:List Ext)).length) 16) (
   some (.inl ((l++([r_4]:List Ext)),(l2++([r_5]:List Ext)),(wrap .i64 (t9+1))))) none) none) (
   some (.inr (l,l2,t9,decide (t9<t8))))
abbrev y4 (c c2:Int) (l l2:List Ext):List (Nat×Blk):=[(5002,⟨2,true,[[I c,I c2]]⟩),(6000,⟨2,false,rws ak l⟩),(6001,⟨2,false,rws ak l2⟩)]
abbrev Ec (t4:List Ext) (t5 t6:Int) (t7:List Ext) (t8 c c2:Int) (s:(List Ext)×(List Ext)×Int):St:=⟨[(5,.ptr 5002 0 0 1),(6,.sl 6000 0 s.1.length),(7,.sl 6001 0 s.2.1.length),(12,sl ak t4),(13,I t5),(14,I t6),(20,sl ak t7),(21,I t8),(22,I s.2.2)],y4 c c2 s.1 s.2.1⟩
abbrev F6 (t4:List Ext) (t5 t6:Int) (t7:List Ext) (t8 c c2:Int):((List Ext)×(List Ext)×Int×Bool)→aw×St:=fun e=>(.exit 2,⟨[(5,.ptr 5002 0 0 1),(6,.sl 6000 0 e.1.length),(7,.sl 6001 0 e.2.1.length),(12,sl ak t4),(13,I t5),(14,I t6),(20,sl ak t7),(21,I t8),(22,I e.2.2.1),(23,B e.2.2.2)],y4 c c2 e.1 e.2.1⟩)
theorem Pu {t4 t5 t6 t7 t8 c c2 s e} (h:Loop (jM t4 t5 t6 t7 t8 c c2) s=some e):aO tab ow (.close [9002,10002,10004,10005,10006,10007,10011,10012,10013]) F5 (Ec t4 t5 t6 t7 t8 c c2 s)=some (F6 t4 t5 t6 t7 t8 c c2 e):=by
 refine lrG (fun s o h=> ?_) h
 obtain ⟨_,_,_⟩:=s
 simp only [jM] at h
 simp only [Ec,F6,y4,F5,Ed]
 have d1:= @a2d
 have d2:= @jQ
 have d3:= @fE
 exact go2
def jO (t:List Ext) (t2:Int):(List Ext)×Int→Option (((List Ext)×Int)⊕(((List Ext)×Int×Bool)))
 | (out,t3)=>
   br (decide (t3<t2)) (
   (atL t t3).bind fun x=>
   (Loop (jM t t2 t3 out ((out.length:Nat):Int) x.A x.B) (([]:List Ext),([]:List Ext),0)).bind fun e_=>
   br (aB ((e_.1++e_.2.1).length) 16) (
   some (.inl ((e_.1++e_.2.1),(wrap .i64 (t3+1))))) none) (
   some (.inr (out,t3,decide (t3<t2))))
abbrev Ek (t:List Ext) (t2:Int) (s:(List Ext)×Int):St:=⟨[(3,sl ak s.1),(12,sl ak t),(13,I t2),(14,I s.2)],[]⟩
abbrev F4 (t:List Ext) (t2:Int):((List Ext)×Int×Bool)→aw×St:=fun e=>(.exit 0,⟨[(3,sl ak e.1),(12,sl ak t),(13,I t2),(14,I e.2.1),(15,B e.2.2)],[]⟩)
theorem Qo {t t2 s e} (h:Loop (jO t t2) s=some e):aO tab ow (.close [5002,6000,6001,9002,10002,10004,10005,10006,10007,10011,10012,10013,12002,2001]) ED (Ek t t2 s)=some (F4 t t2 e):=by
 refine lrG (fun s o h=> ?_) h
 obtain ⟨_,_⟩:=s
 simp only [jO] at h
 simp only [Ek,F4,ED,Ex]
 have d1:= @Pu
 exact go2
def jU (point:(List Ext)):Option ((List Ext)):=
 (WD).bind fun r_=>
 (Loop (jO point ((point.length:Nat):Int)) (([r_]:List Ext),0)).bind fun e_2=>
 some e_2.1
theorem wt {point r} (h:jU point=some r):Call tab ow 102 [sl ak point] []=some (sl ak r,[]):=by
 rw [ag (af:=wX) rfl]
 unfold jU at h
 simp only [wX,xj]
 have d1:= @a2d
 have d2:= @Qo
 exact go2
end
section
theorem RG: ∀k,Lt 2002 k [I (0:Int)]=rws eI (List.replicate k (0:Int)):=fun _=>a7D eI (0:Int) _ _
attribute [local go_sem] RG
def jR (z2:List Int) (t:List ae) (t2:Int):(List Int)×Int→Option (((List Int)×Int)⊕(((List Int)×Int×Bool)))
 | (l,t3)=>
   br (decide (t3<t2)) (
   (atL t t3).bind fun x=>
   br (decide (0≤x.Row)) (
   br (decide (x.Row.toNat<l.length)) (
   (l[x.Row.toNat]?).bind fun x2=>
   (atL z2 x.Col).bind fun x3=>
   (mK x.Value x3).bind fun r_=>
   (Cq x2 r_).bind fun r_2=>
   br (decide (0≤x.Row)) (
   br (decide (x.Row.toNat<l.length)) (
   (l[x.Row.toNat]?).bind fun x4=>
   some (.inl ((l.set x.Row.toNat r_2),(wrap .i64 (t3+1))))) none) none) none) none) (
   some (.inr (l,t3,decide (t3<t2))))
abbrev E6 (z2:List Int) (t:List ae) (t2:Int) (s:(List Int)×Int):St:=⟨[(2,sl eI z2),(7,.sl 2002 0 s.1.length),(13,sl ai t),(14,I t2),(15,I s.2)],[(2002,⟨1,false,rws eI s.1⟩)]⟩
abbrev E4 (z2:List Int) (t:List ae) (t2:Int):((List Int)×Int×Bool)→aw×St:=fun e=>(.exit 0,⟨[(2,sl eI z2),(7,.sl 2002 0 e.1.length),(13,sl ai t),(14,I t2),(15,I e.2.1),(16,B e.2.2)],[(2002,⟨1,false,rws eI e.1⟩)]⟩)
theorem Q4 {z2 t t2 s e} (h:Loop (jR z2 t t2) s=some e):aO tab ow (.close [5002,6015,6016]) Em (E6 z2 t t2 s)=some (E4 z2 t t2 e):=by
 refine lrG (fun s o h=> ?_) h
 obtain ⟨_,_⟩:=s
 simp only [jR] at h
 simp only [E6,E4,Em,Ee]
 have d1:= @uB
 have d2:= @H3
 exact go2
def iP (list:(List ae)) (rows:Int) (z:(List Int)):Option ((List Int)):=
 br (decide (0≤rows)) (
 br (LR (aP .i64 1 rows) (aP .i64 1 rows) 8) (
 (Loop (jR z list ((list.length:Nat):Int)) ((List.replicate ((aP .i64 (1:Int) rows).toNat) (0:Int)),(0:Int))).bind fun e_=>
 some e_.1) none) none
theorem xA {list rows z r} (h:iP list rows z=some r):Call tab ow 249 [sl ai list,I rows,sl eI z] []=some (sl eI r,[]):=by
 rw [ag (af:=xa) rfl]
 unfold iP at h
 simp only [xa,D0]
 have d1:= @Q4
 exact go2
end
def v6 (kind:Int):Option (Int):=
 (gK kind 1 2).bind fun r_=>
 br (!r_) (
 some 0) (
 some (wrap .i64 (kind+1)))
theorem SN {kind r} (h:v6 kind=some r):Call tab ow 324 [I kind] []=some (I r,[]):=by
 rw [ag (af:=uF) rfl]
 unfold v6 at h
 simp only [uF,GN]
 have d1:= @xU
 exact go2
def Dr (a b r_:Ext):Option (Ext):=
 (fF b a).bind fun r_2=>
 (cM r_ r_2).bind fun r_3=>
 (er a r_3).bind fun r_4=>
 some r_4
theorem UX {a b r_ r} (h:Dr a b r_=some r):Call tab ow 300 [.agg [I a.A,I a.B],.agg [I b.A,I b.B],.agg [I r_.A,I r_.B]] []=some (.agg [I r.A,I r.B],[]):=by
 rw [ag (af:=xz) rfl]
 unfold Dr at h
 simp only [xz,KO]
 have d1:= @jQ
 have d2:= @fE
 have d3:= @hG
 exact go2
section
theorem MO:mkR 2000 []=rws ak []:=rfl
attribute [local go_sem] MO
theorem Mn:mkR 6012 []=rws ak []:=rfl
attribute [local go_sem] Mn
def fe (table2:List Ext) (c c2:Int):(List Ext)×Int→Option (((List Ext)×Int)⊕(((List Ext)×Int×Bool)))
 | (l,i)=>
   br (decide (i<((table2.length:Nat):Int))) (
   (atL table2 i).bind fun x=>
   (atL table2 (wrap .i64 (i+1))).bind fun x2=>
   (Dr x x2 (Ext.mk c c2)).bind fun r_2=>
   br (aB ((l++([r_2]:List Ext)).length) 16) (
   some (.inl ((l++([r_2]:List Ext)),(wrap .i64 (i+2))))) none) (
   some (.inr (l,i,decide (i<((table2.length:Nat):Int)))))
abbrev tv (c c2:Int) (l:List Ext):List (Nat×Blk):=[(1000,⟨2,true,[[I c,I c2]]⟩),(2000,⟨2,false,rws ak l⟩)]
abbrev Bf (table2:List Ext) (c c2:Int) (s:(List Ext)×Int):St:=⟨[(0,sl ak table2),(3,.ptr 1000 0 0 1),(5,.sl 2000 0 s.1.length),(6,I s.2)],tv c c2 s.1⟩
abbrev Bj (table2:List Ext) (c c2:Int):((List Ext)×Int×Bool)→aw×St:=fun e=>(.exit 0,⟨[(0,sl ak table2),(3,.ptr 1000 0 0 1),(5,.sl 2000 0 e.1.length),(6,I e.2.1),(11,B e.2.2)],tv c c2 e.1⟩)
theorem Lq {table2 c c2 s e} (h:Loop (fe table2 c c2) s=some e):aO tab ow (.close [6011,6012,6013]) AF (Bf table2 c c2 s)=some (Bj table2 c c2 e):=by
 refine lrG (fun s o h=> ?_) h
 obtain ⟨_,_⟩:=s
 simp only [fe] at h
 simp only [Bf,Bj,tv,AF,AX]
 have d1:= @UX
 exact go2
def sL (table:(List Ext)) (r_:Ext):Option ((List Ext)):=
 (Loop (fe table r_.A r_.B) (([]:List Ext),0)).bind fun e_=>
 some e_.1
theorem PI {table r_ r} (h:sL table r_=some r):Call tab ow 389 [sl ak table,.agg [I r_.A,I r_.B]] []=some (sl ak r,[]):=by
 rw [ag (af:=ru) rfl]
 unfold sL at h
 simp only [ru,xF]
 have d1:= @Lq
 exact go2
end
section
theorem a02:mkR 2000 []=rws (eL ak) []:=rfl
attribute [local go_sem] a02
theorem YU:mkR 6004 []=rws (eL ak) []:=rfl
attribute [local go_sem] YU
def kQ (t:List (List Ext)) (t2 c c2:Int):(List (List Ext))×Int→Option (((List (List Ext))×Int)⊕(((List (List Ext))×Int×Bool)))
 | (l,t3)=>
   br (decide (t3<t2)) (
   (atL t t3).bind fun x=>
   (sL x (Ext.mk c c2)).bind fun r_2=>
   br (aB ((l++([r_2]:List (List Ext))).length) 24) (
   some (.inl ((l++([r_2]:List (List Ext))),(wrap .i64 (t3+1))))) none) (
   some (.inr (l,t3,decide (t3<t2))))
abbrev Cs (c c2:Int) (l:List (List Ext)):List (Nat×Blk):=[(1000,⟨2,true,[[I c,I c2]]⟩),(2000,⟨1,false,rws (eL ak) l⟩)]
abbrev KI (t:List (List Ext)) (t2 c c2:Int) (s:(List (List Ext))×Int):St:=⟨[(3,.ptr 1000 0 0 1),(5,.sl 2000 0 s.1.length),(9,sl (eL ak) t),(10,I t2),(11,I s.2)],Cs c c2 s.1⟩
abbrev Kj (t:List (List Ext)) (t2 c c2:Int):((List (List Ext))×Int×Bool)→aw×St:=fun e=>(.exit 0,⟨[(3,.ptr 1000 0 0 1),(5,.sl 2000 0 e.1.length),(9,sl (eL ak) t),(10,I t2),(11,I e.2.1),(12,B e.2.2)],Cs c c2 e.1⟩)
theorem XC {t t2 c c2 s e} (h:Loop (kQ t t2 c c2) s=some e):aO tab ow (.close [6003,6004,6005]) Km (KI t t2 c c2 s)=some (Kj t t2 c c2 e):=by
 refine lrG (fun s o h=> ?_) h
 obtain ⟨_,_⟩:=s
 simp only [kQ] at h
 simp only [KI,Kj,Cs,Km,KD]
 have d1:= @PI
 exact go2
def zx (tables:(List (List Ext))) (r_:Ext):Option ((List (List Ext))):=
 (Loop (kQ tables ((tables.length:Nat):Int) r_.A r_.B) (([]:List (List Ext)),0)).bind fun e_=>
 some e_.1
theorem Jk {tables r_ r} (h:zx tables r_=some r):Call tab ow 353 [sl (eL ak) tables,.agg [I r_.A,I r_.B]] []=some (sl (eL ak) r,[]):=by
 rw [ag (af:=Dq) rfl]
 unfold zx at h
 simp only [Dq,JB]
 have d1:= @XC
 exact go2
end
def yE (kind:Int) (v:(List Ext)):Option (Ext):=
 br (kind==1) (
 (atL v 0).bind fun x=>
 (atL v 1).bind fun x2=>
 (cM x x2).bind fun r_=>
 some r_) (
 (atL v 0).bind fun x3=>
 (atL v 1).bind fun x4=>
 (atL v 2).bind fun x5=>
 (cM x4 x5).bind fun r_2=>
 (atL v 3).bind fun x6=>
 (fF r_2 x6).bind fun r_3=>
 (cM x3 r_3).bind fun r_4=>
 some r_4)
theorem VH {kind v r} (h:yE kind v=some r):Call tab ow 299 [I kind,sl ak v] []=some (.agg [I r.A,I r.B],[]):=by
 rw [ag (af:=wM) rfl]
 unfold yE at h
 simp only [wM,KM]
 have d1:= @fE
 have d2:= @jQ
 exact go2
section
theorem ZC:mkR 6000 []=rws ak []:=rfl
attribute [local go_sem] ZC
theorem a0Q:mkR 10005 []=rws ak []:=rfl
attribute [local go_sem] a0Q
def kE (kind3:Int) (tables3:List (List Ext)) (i t3 t4:Int) (t5:List (List Ext)) (t6 c5 c6 c7 c8:Int):(List Ext)×Int→Option (((List Ext)×Int)⊕(((List Ext)×Int×Bool)))
 | (l,t7)=>
   br (decide (t7<t6)) (
   (atL t5 t7).bind fun x2=>
   (atL x2 i).bind fun x3=>
   br (aB ((l++([x3]:List Ext)).length) 16) (
   some (.inl ((l++([x3]:List Ext)),(wrap .i64 (t7+1))))) none) (
   some (.inr (l,t7,decide (t7<t6))))
abbrev BD (c5 c6 c7 c8:Int) (l:List Ext):List (Nat×Blk):=[(1000,⟨2,true,[[I c5,I c6]]⟩),(2001,⟨2,true,[[I c7,I c8]]⟩),(6000,⟨2,false,rws ak l⟩)]
abbrev Kw (kind3:Int) (tables3:List (List Ext)) (i t3 t4:Int) (t5:List (List Ext)) (t6 c5 c6 c7 c8:Int) (s:(List Ext)×Int):St:=⟨[(0,I kind3),(1,sl (eL ak) tables3),(4,.ptr 1000 0 0 1),(5,.ptr 2001 0 0 1),(6,I i),(7,.sl 6000 0 s.1.length),(14,I t3),(15,I t4),(19,sl (eL ak) t5),(20,I t6),(21,I s.2)],BD c5 c6 c7 c8 s.1⟩
abbrev Ku (kind3:Int) (tables3:List (List Ext)) (i t3 t4:Int) (t5:List (List Ext)) (t6 c5 c6 c7 c8:Int):((List Ext)×Int×Bool)→aw×St:=fun e=>(.exit 2,⟨[(0,I kind3),(1,sl (eL ak) tables3),(4,.ptr 1000 0 0 1),(5,.ptr 2001 0 0 1),(6,I i),(7,.sl 6000 0 e.1.length),(14,I t3),(15,I t4),(19,sl (eL ak) t5),(20,I t6),(21,I e.2.1),(22,B e.2.2)],BD c5 c6 c7 c8 e.1⟩)
theorem WV {kind3 tables3 i t3 t4 t5 t6 c5 c6 c7 c8 s e} (h:Loop (kE kind3 tables3 i t3 t4 t5 t6 c5 c6 c7 c8) s=some e):aO tab ow (.close [10005,10006]) KN (Kw kind3 tables3 i t3 t4 t5 t6 c5 c6 c7 c8 s)=some (Ku kind3 tables3 i t3 t4 t5 t6 c5 c6 c7 c8 e):=by
 refine lrG (fun s o h=> ?_) h
 obtain ⟨_,_⟩:=s
 simp only [kE] at h
 simp only [Kw,Ku,BD,KN,L2]
 exact go2
def ky (kind2:Int) (tables2:List (List Ext)) (t c c2:Int):Int×Int×Int→Option ((Int×Int×Int)⊕((Int×Bool×Int×Int)))
 | (t2,c3,c4)=>
   br (decide (t2<t)) (
   (Loop (kE kind2 tables2 t2 t t2 tables2 ((tables2.length:Nat):Int) c c2 c3 c4) (([]:List Ext),0)).bind fun e_=>
   (yE kind2 e_.1).bind fun r_=>
   (er (Ext.mk c3 c4) r_).bind fun r_2=>
   some (.inl ((wrap .i64 (t2+1)),r_2.A,r_2.B))) (
   some (.inr (t2,decide (t2<t),c3,c4)))
abbrev CP (c c2 c3 c4:Int):List (Nat×Blk):=[(1000,⟨2,true,[[I c,I c2]]⟩),(2001,⟨2,true,[[I c3,I c4]]⟩)]
abbrev Kf (kind2:Int) (tables2:List (List Ext)) (t c c2:Int) (s:Int×Int×Int):St:=⟨[(0,I kind2),(1,sl (eL ak) tables2),(4,.ptr 1000 0 0 1),(5,.ptr 2001 0 0 1),(14,I t),(15,I s.1)],CP c c2 s.2.1 s.2.2⟩
abbrev Kt (kind2:Int) (tables2:List (List Ext)) (t c c2:Int):(Int×Bool×Int×Int)→aw×St:=fun e=>(.exit 0,⟨[(0,I kind2),(1,sl (eL ak) tables2),(4,.ptr 1000 0 0 1),(5,.ptr 2001 0 0 1),(14,I t),(15,I e.1),(16,B e.2.1)],CP c c2 e.2.2.1 e.2.2.2⟩)
theorem X7 {kind2 tables2 t c c2 s e} (h:Loop (ky kind2 tables2 t c c2) s=some e):aO tab ow (.close [6000,10005,10006,12003,12004]) La (Kf kind2 tables2 t c c2 s)=some (Kt kind2 tables2 t c c2 e):=by
 refine lrG (fun s o h=> ?_) h
 obtain ⟨_,_,_⟩:=s
 simp only [ky] at h
 simp only [Kf,Kt,CP,La,L6]
 have d1:= @WV
 have d2:= @VH
 have d3:= @hG
 exact go2
def Hz (kind:Int) (tables:(List (List Ext))):Option (Ext):=
 (atL tables 0).bind fun x=>
 (Loop (ky kind tables ((x.length:Nat):Int) 0 0) (0,0,0)).bind fun e_2=>
 some (Ext.mk e_2.2.2.1 e_2.2.2.2)
theorem a48 {kind tables r} (h:Hz kind tables=some r):Call tab ow 388 [I kind,sl (eL ak) tables] []=some (.agg [I r.A,I r.B],[]):=by
 rw [ag (af:=Du) rfl]
 unfold Hz at h
 simp only [Du,Dj]
 have d1:= @X7
 exact go2
end
end
end Go.AI.Fn
set_option linter.unusedVariables false
set_option linter.unusedSimpArgs false
set_option maxRecDepth 100000
set_option maxHeartbeats 1000000
namespace Go.AI.Fn
noncomputable section
open IntKind (wrap)
section
theorem Ss:mkR 2000 []=rws ak []:=rfl
attribute [local go_sem] Ss
theorem Tl:mkR 6007 []=rws ak []:=rfl
attribute [local go_sem] Tl
def i9 (kind2:Int) (tables2:List (List Ext)) (t:Int):(List Ext)×Int→Option (((List Ext)×Int)⊕(((List Ext)×Int×Bool)))
 | (l,t2)=>
   br (decide (t2<t)) (
   (zx tables2 (Ext.mk t2 0)).bind fun r_2=>
   (Hz kind2 r_2).bind fun r_3=>
   br (aB ((l++([r_3]:List Ext)).length) 16) (
   some (.inl ((l++([r_3]:List Ext)),(wrap .i64 (t2+1))))) none) (
   some (.inr (l,t2,decide (t2<t))))
abbrev EK (kind2:Int) (tables2:List (List Ext)) (t:Int) (s:(List Ext)×Int):St:=⟨[(0,I kind2),(1,sl (eL ak) tables2),(5,.sl 2000 0 s.1.length),(10,I t),(11,I s.2)],[(2000,⟨2,false,rws ak s.1⟩)]⟩
abbrev Es (kind2:Int) (tables2:List (List Ext)) (t:Int):((List Ext)×Int×Bool)→aw×St:=fun e=>(.exit 0,⟨[(0,I kind2),(1,sl (eL ak) tables2),(5,.sl 2000 0 e.1.length),(10,I t),(11,I e.2.1),(12,B e.2.2)],[(2000,⟨2,false,rws ak e.1⟩)]⟩)
theorem Qc {kind2 tables2 t s e} (h:Loop (i9 kind2 tables2 t) s=some e):aO tab ow (.close [6005,6006,6007,6008]) EQ (EK kind2 tables2 t s)=some (Es kind2 tables2 t e):=by
 refine lrG (fun s o h=> ?_) h
 obtain ⟨_,_⟩:=s
 simp only [i9] at h
 simp only [EK,Es,EQ,EZ]
 have d1:= @Jk
 have d2:= @a48
 exact go2
def o4 (kind:Int) (tables:(List (List Ext))):Option ((List Ext)):=
 (v6 kind).bind fun r_=>
 (Loop (i9 kind tables (wrap .i64 (r_+1))) (([]:List Ext),0)).bind fun e_=>
 some e_.1
theorem Kl {kind tables r} (h:o4 kind tables=some r):Call tab ow 352 [I kind,sl (eL ak) tables] []=some (sl ak r,[]):=by
 rw [ag (af:=wO) rfl]
 unfold o4 at h
 simp only [wO,BW]
 have d1:= @SN
 have d2:= @Qc
 exact go2
end
def bD (list:(List Ext)) (m:Source):Option (Source):=
 (qW list).bind fun r_=>
 (dt r_ m).bind fun r_2=>
 some r_2
theorem ed {list m r} (h:bD list m=some r):Call tab ow 223 [.ptr 0 0 0 1,sl ak list] [⟨4,true,[[sl ak m.Script,I m.At,S m.State,I m.Count]]⟩]=some (.tup [],[⟨4,true,[[sl ak r.Script,I r.At,S r.State,I r.Count]]⟩]):=by
 rw [ag (af:=gy) rfl]
 unfold bD at h
 simp only [gy,pB]
 have d1:= @Gz
 have d2:= @i5
 exact go2
def Jt (a:Ext):Option (Unit):=
 some ()
theorem X5 {a r} (h:Jt a=some r):Call tab ow 292 [.agg [I a.A,I a.B]] []=some (.tup [],[]):=by
 rw [ag (af:=wz) rfl]
 unfold Jt at h
 simp only [wz,KS]
 exact go2
section
theorem sV:mkR 2000 []=rws (eL ak) []:=rfl
attribute [local go_sem] sV
theorem tm:mkR 2001 []=rws ak []:=rfl
attribute [local go_sem] tm
theorem tc:mkR 2002 []=rws ak []:=rfl
attribute [local go_sem] tc
theorem sX:mkR 8002 []=rws (eL ak) []:=rfl
attribute [local go_sem] sX
theorem tx:mkR 8006 []=rws ak []:=rfl
attribute [local go_sem] tx
theorem tj:mkR 13004 []=rws ak []:=rfl
attribute [local go_sem] tj
def bJ (l3:List Ext) (kind2:Int):(List (List Ext))×(List Ext)×(List (List Ext))×(List Ext)×Int×(List UInt8)×Int→Option (((List (List Ext))×(List Ext)×(List (List Ext))×(List Ext)×Int×(List UInt8)×Int)⊕(((List (List Ext))×(List Ext)×(List (List Ext))×Bool×(List Ext)×Int×(List UInt8)×Int)))
 | (l,l2,tables2,c,c2,c3,c4)=>
   (atL tables2 0).bind fun x=>
   br (decide (((x.length:Nat):Int)>1)) (
   (o4 kind2 tables2).bind fun r_=>
   (bD r_ (Source.mk c c2 c3 c4)).bind fun r_2=>
   (fK r_2).bind fun r_3=>
   (zx tables2 r_3.1).bind fun r_4=>
   br (aB ((l++([r_]:List (List Ext))).length) 24) (
   br (aB ((l2++([r_3.1]:List Ext)).length) 16) (
   (Jt r_3.1).bind fun r_5=>
   some (.inl ((l++([r_]:List (List Ext))),(l2++([r_3.1]:List Ext)),r_4,r_3.2.Script,r_3.2.At,r_3.2.State,r_3.2.Count))) none) none) (
   some (.inr (l,l2,tables2,decide (((x.length:Nat):Int)>1),c,c2,c3,c4)))
abbrev eK (l3:List Ext) (l:List (List Ext)) (l2 c:List Ext) (c2:Int) (c3:List UInt8) (c4:Int):List (Nat×Blk):=[(0,⟨4,true,[[sl ak c,I c2,S c3,I c4]]⟩),(2000,⟨1,false,rws (eL ak) l⟩),(2001,⟨2,false,rws ak l2⟩),(2002,⟨2,false,rws ak l3⟩)]
abbrev iX (l3:List Ext) (kind2:Int) (s:(List (List Ext))×(List Ext)×(List (List Ext))×(List Ext)×Int×(List UInt8)×Int):St:=⟨[(0,.ptr 0 0 0 1),(1,I kind2),(2,sl (eL ak) s.2.2.1),(3,.fn 292 []),(11,.sl 2000 0 s.1.length),(12,.sl 2001 0 s.2.1.length),(13,.sl 2002 0 l3.length)],eK l3 s.1 s.2.1 s.2.2.2.1 s.2.2.2.2.1 s.2.2.2.2.2.1 s.2.2.2.2.2.2⟩
abbrev j2 (l3:List Ext) (kind2:Int):((List (List Ext))×(List Ext)×(List (List Ext))×Bool×(List Ext)×Int×(List UInt8)×Int)→aw×St:=fun e=>(.exit 0,⟨[(0,.ptr 0 0 0 1),(1,I kind2),(2,sl (eL ak) e.2.2.1),(3,.fn 292 []),(11,.sl 2000 0 e.1.length),(12,.sl 2001 0 e.2.1.length),(13,.sl 2002 0 l3.length),(25,B e.2.2.2.1)],eK l3 e.1 e.2.1 e.2.2.2.2.1 e.2.2.2.2.2.1 e.2.2.2.2.2.2.1 e.2.2.2.2.2.2.2⟩)
theorem rP {l3 kind2 s e} (h:Loop (bJ l3 kind2) s=some e):aO tab ow (.both (.close [4002,5002,6001,6002,7002,8002,8003,8006,8007,9002]) (.nilCell 3 1 3900 1)) gu (iX l3 kind2 s)=some (j2 l3 kind2 e):=by
 refine lrG (fun s o h=> ?_) h
 obtain ⟨_,_,_,_,_,_,_⟩:=s
 simp only [bJ] at h
 simp only [iX,j2,eK,gu,jW]
 have d1:= @Kl
 have d2:= @ed
 have d3:= @ta
 have d4:= @Jk
 have d5:= @X5
 exact go2
def bu (l4:List (List Ext)) (l5:List Ext) (t:List (List Ext)) (t2:Int) (c5:List Ext) (c6:Int) (c7:List UInt8) (c8:Int):(List Ext)×Int→Option (((List Ext)×Int)⊕(((List Ext)×Int×Bool)))
 | (l6,t3)=>
   br (decide (t3<t2)) (
   (atL t t3).bind fun x2=>
   (atL x2 0).bind fun x3=>
   br (aB ((l6++([x3]:List Ext)).length) 16) (
   some (.inl ((l6++([x3]:List Ext)),(wrap .i64 (t3+1))))) none) (
   some (.inr (l6,t3,decide (t3<t2))))
abbrev eO (l4:List (List Ext)) (l5 c5:List Ext) (c6:Int) (c7:List UInt8) (c8:Int) (l6:List Ext):List (Nat×Blk):=[(0,⟨4,true,[[sl ak c5,I c6,S c7,I c8]]⟩),(2000,⟨1,false,rws (eL ak) l4⟩),(2001,⟨2,false,rws ak l5⟩),(2002,⟨2,false,rws ak l6⟩)]
abbrev j4 (l4:List (List Ext)) (l5:List Ext) (t:List (List Ext)) (t2:Int) (c5:List Ext) (c6:Int) (c7:List UInt8) (c8:Int) (s:(List Ext)×Int):St:=⟨[(11,.sl 2000 0 l4.length),(12,.sl 2001 0 l5.length),(13,.sl 2002 0 s.1.length),(48,sl (eL ak) t),(49,I t2),(50,I s.2)],eO l4 l5 c5 c6 c7 c8 s.1⟩
abbrev iY (l4:List (List Ext)) (l5:List Ext) (t:List (List Ext)) (t2:Int) (c5:List Ext) (c6:Int) (c7:List UInt8) (c8:Int):((List Ext)×Int×Bool)→aw×St:=fun e=>(.exit 2,⟨[(11,.sl 2000 0 l4.length),(12,.sl 2001 0 l5.length),(13,.sl 2002 0 e.1.length),(48,sl (eL ak) t),(49,I t2),(50,I e.2.1),(51,B e.2.2)],eO l4 l5 c5 c6 c7 c8 e.1⟩)
theorem sP {l4 l5 t t2 c5 c6 c7 c8 s e} (h:Loop (bu l4 l5 t t2 c5 c6 c7 c8) s=some e):aO tab ow (.close [13004,13005]) fy (j4 l4 l5 t t2 c5 c6 c7 c8 s)=some (iY l4 l5 t t2 c5 c6 c7 c8 e):=by
 refine lrG (fun s o h=> ?_) h
 obtain ⟨_,_⟩:=s
 simp only [bu] at h
 simp only [j4,iY,eO,fy,ji]
 exact go2
def bz (kind:Int) (tables:(List (List Ext))) (m:Source):Option ((List (List Ext))×(List Ext)×(List Ext)×Source):=
 (Loop (bJ ([]:List Ext) kind) (([]:List (List Ext)),([]:List Ext),tables,m.Script,m.At,m.State,m.Count)).bind fun e_=>
 (Loop (bu e_.1 e_.2.1 e_.2.2.1 ((e_.2.2.1.length:Nat):Int) e_.2.2.2.2.1 e_.2.2.2.2.2.1 e_.2.2.2.2.2.2.1 e_.2.2.2.2.2.2.2) (([]:List Ext),0)).bind fun e_2=>
 some (e_.1,e_.2.1,e_2.1,(Source.mk e_.2.2.2.2.1 e_.2.2.2.2.2.1 e_.2.2.2.2.2.2.1 e_.2.2.2.2.2.2.2))
theorem k8 {kind tables m r} (h:bz kind tables m=some r):Call tab ow 291 [.ptr 0 0 0 1,I kind,sl (eL ak) tables,.fn 292 []] [⟨4,true,[[sl ak m.Script,I m.At,S m.State,I m.Count]]⟩]=some (.tup [sl (eL ak) r.1,sl ak r.2.1,sl ak r.2.2.1],[⟨4,true,[[sl ak r.2.2.2.Script,I r.2.2.2.At,S r.2.2.2.State,I r.2.2.2.Count]]⟩]):=by
 rw [ag (af:=dP) rfl]
 unfold bz at h
 simp only [dP,fi]
 have d1:= @rP
 have d2:= @sP
 exact go2
end
section
theorem LZ: ∀k,Lt 2003 k [I (0:Int),I (0:Int)]=rws ak (List.replicate k (Ext.mk (0:Int) (0:Int))):=fun _=>a7D ak (Ext.mk (0:Int) (0:Int)) _ _
attribute [local go_sem] LZ
def eu (rows:List Ext) (t t2 t3:List ae) (t4:Int) (t5:List ae) (t6 c c2 c3:Int) (c4 c5 c6:List ae) (c7 c8 c9 c10 c11 c12:Int):(List Ext)×Int→Option (((List Ext)×Int)⊕(((List Ext)×Int×Bool)))
 | (l,t7)=>
   br (decide (t7<t6)) (
   (atL t5 t7).bind fun x=>
   br (decide (0≤x.Col)) (
   br (decide (x.Col.toNat<l.length)) (
   (l[x.Col.toNat]?).bind fun x2=>
   (atL rows x.Row).bind fun x3=>
   (cM (Ext.mk c7 c8) x3).bind fun r_3=>
   (eD r_3 x.Value).bind fun r_4=>
   (er x2 r_4).bind fun r_5=>
   br (decide (0≤x.Col)) (
   br (decide (x.Col.toNat<l.length)) (
   (l[x.Col.toNat]?).bind fun x4=>
   some (.inl ((l.set x.Col.toNat r_5),(wrap .i64 (t7+1))))) none) none) none) none) (
   some (.inr (l,t7,decide (t7<t6))))
abbrev pS (c c2 c3:Int) (c4 c5 c6:List ae) (c7 c8 c9 c10 c11 c12:Int) (l:List Ext):List (Nat×Blk):=[(1000,⟨6,true,[[I c,I c2,I c3,sl ai c4,sl ai c5,sl ai c6]]⟩),(1001,⟨6,true,[[I c7,I c8,I c9,I c10,I c11,I c12]]⟩),(2003,⟨2,false,rws ak l⟩)]
abbrev yn (rows:List Ext) (t t2 t3:List ae) (t4:Int) (t5:List ae) (t6 c c2 c3:Int) (c4 c5 c6:List ae) (c7 c8 c9 c10 c11 c12:Int) (s:(List Ext)×Int):St:=⟨[(5,.ptr 1001 0 0 1),(7,.sl 2003 0 s.1.length),(8,sl ak rows),(9,I 0),(20,.agg [sl ai t,sl ai t2,sl ai t3]),(21,I t4),(25,sl ai t5),(26,I t6),(27,I s.2)],pS c c2 c3 c4 c5 c6 c7 c8 c9 c10 c11 c12 s.1⟩
abbrev yP (rows:List Ext) (t t2 t3:List ae) (t4:Int) (t5:List ae) (t6 c c2 c3:Int) (c4 c5 c6:List ae) (c7 c8 c9 c10 c11 c12:Int):((List Ext)×Int×Bool)→aw×St:=fun e=>(.exit 2,⟨[(5,.ptr 1001 0 0 1),(7,.sl 2003 0 e.1.length),(8,sl ak rows),(9,I 0),(20,.agg [sl ai t,sl ai t2,sl ai t3]),(21,I t4),(25,sl ai t5),(26,I t6),(27,I e.2.1),(28,B e.2.2)],pS c c2 c3 c4 c5 c6 c7 c8 c9 c10 c11 c12 e.1⟩)
theorem Jn {rows t t2 t3 t4 t5 t6 c c2 c3 c4 c5 c6 c7 c8 c9 c10 c11 c12 s e} (h:Loop (eu rows t t2 t3 t4 t5 t6 c c2 c3 c4 c5 c6 c7 c8 c9 c10 c11 c12) s=some e):aO tab ow (.close [8002,9016,9019,9020]) fS (yn rows t t2 t3 t4 t5 t6 c c2 c3 c4 c5 c6 c7 c8 c9 c10 c11 c12 s)=some (yP rows t t2 t3 t4 t5 t6 c c2 c3 c4 c5 c6 c7 c8 c9 c10 c11 c12 e):=by
 refine lrG (fun s o h=> ?_) h
 obtain ⟨_,_⟩:=s
 simp only [eu] at h
 simp only [yn,yP,pS,fS,lM]
 have d1:= @fE
 have d2:= @kD
 have d3:= @hG
 exact go2
def lL (rows2:List Ext) (t8 t9 t10 t11:List ae) (t12 c13 c14 c15:Int) (c16 c17 c18:List ae) (c19 c20 c21 c22 c23 c24:Int):(List Ext)×Int→Option (((List Ext)×Int)⊕(((List Ext)×Int×Bool)))
 | (l2,t13)=>
   br (decide (t13<t12)) (
   (atL t11 t13).bind fun x5=>
   br (decide (0≤x5.Col)) (
   br (decide (x5.Col.toNat<l2.length)) (
   (l2[x5.Col.toNat]?).bind fun x6=>
   (atL rows2 x5.Row).bind fun x7=>
   (cM (Ext.mk c21 c22) x7).bind fun r_6=>
   (eD r_6 x5.Value).bind fun r_7=>
   (er x6 r_7).bind fun r_8=>
   br (decide (0≤x5.Col)) (
   br (decide (x5.Col.toNat<l2.length)) (
   (l2[x5.Col.toNat]?).bind fun x8=>
   some (.inl ((l2.set x5.Col.toNat r_8),(wrap .i64 (t13+1))))) none) none) none) none) (
   some (.inr (l2,t13,decide (t13<t12))))
abbrev pQ (c13 c14 c15:Int) (c16 c17 c18:List ae) (c19 c20 c21 c22 c23 c24:Int) (l2:List Ext):List (Nat×Blk):=[(1000,⟨6,true,[[I c13,I c14,I c15,sl ai c16,sl ai c17,sl ai c18]]⟩),(1001,⟨6,true,[[I c19,I c20,I c21,I c22,I c23,I c24]]⟩),(2003,⟨2,false,rws ak l2⟩)]
abbrev yj (rows2:List Ext) (t8 t9 t10 t11:List ae) (t12 c13 c14 c15:Int) (c16 c17 c18:List ae) (c19 c20 c21 c22 c23 c24:Int) (s:(List Ext)×Int):St:=⟨[(5,.ptr 1001 0 0 1),(7,.sl 2003 0 s.1.length),(8,sl ak rows2),(9,I 1),(20,.agg [sl ai t8,sl ai t9,sl ai t10]),(21,I 1),(25,sl ai t11),(26,I t12),(27,I s.2)],pQ c13 c14 c15 c16 c17 c18 c19 c20 c21 c22 c23 c24 s.1⟩
abbrev yL (rows2:List Ext) (t8 t9 t10 t11:List ae) (t12 c13 c14 c15:Int) (c16 c17 c18:List ae) (c19 c20 c21 c22 c23 c24:Int):((List Ext)×Int×Bool)→aw×St:=fun e=>(.exit 2,⟨[(5,.ptr 1001 0 0 1),(7,.sl 2003 0 e.1.length),(8,sl ak rows2),(9,I 1),(20,.agg [sl ai t8,sl ai t9,sl ai t10]),(21,I 1),(25,sl ai t11),(26,I t12),(27,I e.2.1),(28,B e.2.2)],pQ c13 c14 c15 c16 c17 c18 c19 c20 c21 c22 c23 c24 e.1⟩)
theorem J4 {rows2 t8 t9 t10 t11 t12 c13 c14 c15 c16 c17 c18 c19 c20 c21 c22 c23 c24 s e} (h:Loop (lL rows2 t8 t9 t10 t11 t12 c13 c14 c15 c16 c17 c18 c19 c20 c21 c22 c23 c24) s=some e):aO tab ow (.close [8002,9016,9019,9020]) fS (yj rows2 t8 t9 t10 t11 t12 c13 c14 c15 c16 c17 c18 c19 c20 c21 c22 c23 c24 s)=some (yL rows2 t8 t9 t10 t11 t12 c13 c14 c15 c16 c17 c18 c19 c20 c21 c22 c23 c24 e):=by
 refine lrG (fun s o h=> ?_) h
 obtain ⟨_,_⟩:=s
 simp only [lL] at h
 simp only [yj,yL,pQ,fS,lM]
 have d1:= @fE
 have d2:= @kD
 have d3:= @hG
 exact go2
def lN (rows3:List Ext) (t14 t15 t16 t17:List ae) (t18 c25 c26 c27:Int) (c28 c29 c30:List ae) (c31 c32 c33 c34 c35 c36:Int):(List Ext)×Int→Option (((List Ext)×Int)⊕(((List Ext)×Int×Bool)))
 | (l3,t19)=>
   br (decide (t19<t18)) (
   (atL t17 t19).bind fun x9=>
   br (decide (0≤x9.Col)) (
   br (decide (x9.Col.toNat<l3.length)) (
   (l3[x9.Col.toNat]?).bind fun x10=>
   (atL rows3 x9.Row).bind fun x11=>
   (cM (Ext.mk c35 c36) x11).bind fun r_9=>
   (eD r_9 x9.Value).bind fun r_10=>
   (er x10 r_10).bind fun r_11=>
   br (decide (0≤x9.Col)) (
   br (decide (x9.Col.toNat<l3.length)) (
   (l3[x9.Col.toNat]?).bind fun x12=>
   some (.inl ((l3.set x9.Col.toNat r_11),(wrap .i64 (t19+1))))) none) none) none) none) (
   some (.inr (l3,t19,decide (t19<t18))))
abbrev qr (c25 c26 c27:Int) (c28 c29 c30:List ae) (c31 c32 c33 c34 c35 c36:Int) (l3:List Ext):List (Nat×Blk):=[(1000,⟨6,true,[[I c25,I c26,I c27,sl ai c28,sl ai c29,sl ai c30]]⟩),(1001,⟨6,true,[[I c31,I c32,I c33,I c34,I c35,I c36]]⟩),(2003,⟨2,false,rws ak l3⟩)]
abbrev yC (rows3:List Ext) (t14 t15 t16 t17:List ae) (t18 c25 c26 c27:Int) (c28 c29 c30:List ae) (c31 c32 c33 c34 c35 c36:Int) (s:(List Ext)×Int):St:=⟨[(5,.ptr 1001 0 0 1),(7,.sl 2003 0 s.1.length),(8,sl ak rows3),(9,I 2),(20,.agg [sl ai t14,sl ai t15,sl ai t16]),(21,I 2),(25,sl ai t17),(26,I t18),(27,I s.2)],qr c25 c26 c27 c28 c29 c30 c31 c32 c33 c34 c35 c36 s.1⟩
abbrev yw (rows3:List Ext) (t14 t15 t16 t17:List ae) (t18 c25 c26 c27:Int) (c28 c29 c30:List ae) (c31 c32 c33 c34 c35 c36:Int):((List Ext)×Int×Bool)→aw×St:=fun e=>(.exit 2,⟨[(5,.ptr 1001 0 0 1),(7,.sl 2003 0 e.1.length),(8,sl ak rows3),(9,I 2),(20,.agg [sl ai t14,sl ai t15,sl ai t16]),(21,I 2),(25,sl ai t17),(26,I t18),(27,I e.2.1),(28,B e.2.2)],qr c25 c26 c27 c28 c29 c30 c31 c32 c33 c34 c35 c36 e.1⟩)
theorem Jr {rows3 t14 t15 t16 t17 t18 c25 c26 c27 c28 c29 c30 c31 c32 c33 c34 c35 c36 s e} (h:Loop (lN rows3 t14 t15 t16 t17 t18 c25 c26 c27 c28 c29 c30 c31 c32 c33 c34 c35 c36) s=some e):aO tab ow (.close [8002,9016,9019,9020]) fS (yC rows3 t14 t15 t16 t17 t18 c25 c26 c27 c28 c29 c30 c31 c32 c33 c34 c35 c36 s)=some (yw rows3 t14 t15 t16 t17 t18 c25 c26 c27 c28 c29 c30 c31 c32 c33 c34 c35 c36 e):=by
 refine lrG (fun s o h=> ?_) h
 obtain ⟨_,_⟩:=s
 simp only [lN] at h
 simp only [yC,yw,qr,fS,lM]
 have d1:= @fE
 have d2:= @kD
 have d3:= @hG
 exact go2
def pi (s:aL) (rx:(List Ext)) (by_:(Ext×Ext×Ext)):Option ((List Ext)):=
 br (decide (0≤s.Cols)) (
 br (LR (aP .i64 1 s.Cols) (aP .i64 1 s.Cols) 16) (
 (jU rx).bind fun r_=>
 (ci s).bind fun r_2=>
 (Loop (eu r_ r_2.1 r_2.2.1 r_2.2.2 (0:Int) r_2.1 ((r_2.1.length:Nat):Int) s.Rows s.Cols s.Publics s.A s.B s.C by_.1.A by_.1.B by_.2.1.A by_.2.1.B by_.2.2.A by_.2.2.B) ((List.replicate ((aP .i64 (1:Int) s.Cols).toNat) (Ext.mk (0:Int) (0:Int))),(0:Int))).bind fun e_=>
 (Loop (lL r_ r_2.1 r_2.2.1 r_2.2.2 r_2.2.1 ((r_2.2.1.length:Nat):Int) s.Rows s.Cols s.Publics s.A s.B s.C by_.1.A by_.1.B by_.2.1.A by_.2.1.B by_.2.2.A by_.2.2.B) (e_.1,0)).bind fun e_2=>
 (Loop (lN r_ r_2.1 r_2.2.1 r_2.2.2 r_2.2.2 ((r_2.2.2.length:Nat):Int) s.Rows s.Cols s.Publics s.A s.B s.C by_.1.A by_.1.B by_.2.1.A by_.2.1.B by_.2.2.A by_.2.2.B) (e_2.1,0)).bind fun e_3=>
 some e_3.1) none) none
theorem NF {s rx by_ r} (h:pi s rx by_=some r):Call tab ow 293 [.agg [I s.Rows,I s.Cols,I s.Publics,sl ai s.A,sl ai s.B,sl ai s.C],sl ak rx,.agg [I by_.1.A,I by_.1.B,I by_.2.1.A,I by_.2.1.B,I by_.2.2.A,I by_.2.2.B]] []=some (sl ak r,[]):=by
 rw [ag (af:=oJ) rfl]
 unfold pi at h
 simp+decide only [oJ,pj,go_sem,reduceIte,Nat.reduceAdd,Int.reduceAdd,Int.reduceMul,Int.reduceSub]
 obtain ⟨hb,h⟩:=brg h
 refine yV hb ?_
 obtain ⟨hb,h⟩:=brg h
 refine yV hb ?_
 obtain ⟨r_,h1,h⟩:=bd h
 refine fU (wt h1) ?_
 simp+decide only [go_sem,reduceIte,Nat.reduceAdd,Int.reduceAdd,Int.reduceMul,Int.reduceSub]
 obtain ⟨r_2,h1,h⟩:=bd h
 refine bC (ix h1) ?_
 simp+decide only [go_sem,reduceIte,Nat.reduceAdd,Int.reduceAdd,Int.reduceMul,Int.reduceSub]
 refine cQ ?_
 simp+decide only [mkL,go_sem,reduceIte,Nat.reduceAdd,Int.reduceAdd,Int.reduceMul,Int.reduceSub]
 obtain ⟨e_,h1,h⟩:=bd h
 refine A1 (Jn h1) ?_
 simp+decide only [go_sem,reduceIte,Nat.reduceAdd,Int.reduceAdd,Int.reduceMul,Int.reduceSub]
 refine cQ ?_
 simp+decide only [mkL,go_sem,reduceIte,Nat.reduceAdd,Int.reduceAdd,Int.reduceMul,Int.reduceSub]
 obtain ⟨e_2,h1,h⟩:=bd h
 refine A1 (J4 h1) ?_
 simp+decide only [go_sem,reduceIte,Nat.reduceAdd,Int.reduceAdd,Int.reduceMul,Int.reduceSub]
 refine cQ ?_
 simp+decide only [mkL,go_sem,reduceIte,Nat.reduceAdd,Int.reduceAdd,Int.reduceMul,Int.reduceSub]
 obtain ⟨e_3,h1,h⟩:=bd h
 refine A1 (Jr h1) ?_
 simp+decide only [go_sem,reduceIte,Nat.reduceAdd,Int.reduceAdd,Int.reduceMul,Int.reduceSub]
 refine cQ ?_
 simp+decide only [mkL,go_sem,reduceIte,Nat.reduceAdd,Int.reduceAdd,Int.reduceMul,Int.reduceSub]
 obtain rfl:=Option.some.inj h
 first|rfl| (simp only [List.length_set,go_sem];done)
end
def uU (b2 t:List Ext) (t2 c c2:Int):Int×Int×Int→Option ((Int×Int×Int)⊕((Int×Bool×Int×Int)))
 | (t3,c3,c4)=>
   br (decide (t3<t2)) (
   (atL t t3).bind fun x=>
   (atL b2 t3).bind fun x2=>
   (cM x x2).bind fun r_=>
   (er (Ext.mk c3 c4) r_).bind fun r_2=>
   some (.inl ((wrap .i64 (t3+1)),r_2.A,r_2.B))) (
   some (.inr (t3,decide (t3<t2),c3,c4)))
abbrev Ka (c c2 c3 c4:Int):List (Nat×Blk):=[(1000,⟨2,true,[[I c,I c2]]⟩),(2001,⟨2,true,[[I c3,I c4]]⟩)]
abbrev QZ (b2 t:List Ext) (t2 c c2:Int) (s:Int×Int×Int):St:=⟨[(1,sl ak b2),(4,.ptr 1000 0 0 1),(5,.ptr 2001 0 0 1),(9,sl ak t),(10,I t2),(11,I s.1)],Ka c c2 s.2.1 s.2.2⟩
abbrev R6 (b2 t:List Ext) (t2 c c2:Int):(Int×Bool×Int×Int)→aw×St:=fun e=>(.exit 0,⟨[(1,sl ak b2),(4,.ptr 1000 0 0 1),(5,.ptr 2001 0 0 1),(9,sl ak t),(10,I t2),(11,I e.1),(12,B e.2.1)],Ka c c2 e.2.2.1 e.2.2.2⟩)
theorem a5O {b2 t t2 c c2 s e} (h:Loop (uU b2 t t2 c c2) s=some e):aO tab ow (.close [5003,6006,6007]) Rp (QZ b2 t t2 c c2 s)=some (R6 b2 t t2 c c2 e):=by
 refine lrG (fun s o h=> ?_) h
 obtain ⟨_,_,_⟩:=s
 simp only [uU] at h
 simp only [QZ,R6,Ka,Rp,Rf]
 have d1:= @fE
 have d2:= @hG
 exact go2
def R5 (a b:(List Ext)):Option (Ext):=
 (Loop (uU b a ((a.length:Nat):Int) 0 0) (0,0,0)).bind fun e_=>
 some (Ext.mk e_.2.2.1 e_.2.2.2)
theorem b4b {a b r} (h:R5 a b=some r):Call tab ow 101 [sl ak a,sl ak b] []=some (.agg [I r.A,I r.B],[]):=by
 rw [ag (af:=M5) rfl]
 unfold R5 at h
 simp only [M5,Us]
 have d1:= @a5O
 exact go2
def uM (a:Int):Option (Int):=
 (OM a 2130706431).bind fun r_=>
 some r_
theorem Vs {a r} (h:uM a=some r):Call tab ow 369 [I a] []=some (I r,[]):=by
 rw [ag (af:=wS) rfl]
 unfold uM at h
 simp only [wS,Lb]
 have d1:= @S7
 exact go2
def vP (n i:Int) (a b r_:Ext):Option (Ext):=
 (uM 2).bind fun r_2=>
 (Hj n).bind fun r_3=>
 (JS r_3).bind fun r_4=>
 (OM r_4 i).bind fun r_5=>
 (er a b).bind fun r_6=>
 (eD r_6 r_2).bind fun r_7=>
 (fF a b).bind fun r_8=>
 (cM r_ r_8).bind fun r_9=>
 (uM r_5).bind fun r_10=>
 (mK r_2 r_10).bind fun r_11=>
 (eD r_9 r_11).bind fun r_12=>
 (er r_7 r_12).bind fun r_13=>
 some r_13
theorem UD {n i a b r_ r} (h:vP n i a b r_=some r):Call tab ow 328 [I n,I i,.agg [I a.A,I a.B],.agg [I b.A,I b.B],.agg [I r_.A,I r_.B]] []=some (.agg [I r.A,I r.B],[]):=by
 rw [ag (af:=uq) rfl]
 unfold vP at h
 simp only [uq,Gy]
 have d1:= @Vs
 have d2:= @QG
 have d3:= @VX
 have d4:= @S7
 have d5:= @hG
 have d6:= @kD
 have d7:= @jQ
 have d8:= @fE
 have d9:= @uB
 exact go2
section
theorem Pj:mkR 2000 []=rws ak []:=rfl
attribute [local go_sem] Pj
theorem PR:mkR 6016 []=rws ak []:=rfl
attribute [local go_sem] PR
def gc (word2:List Ext) (half t c c2:Int):(List Ext)×Int→Option (((List Ext)×Int)⊕(((List Ext)×Int×Bool)))
 | (l,t2)=>
   br (decide (t2<t)) (
   (atL word2 t2).bind fun x=>
   (atL word2 (wrap .i64 (t2+half))).bind fun x2=>
   (vP ((word2.length:Nat):Int) t2 x x2 (Ext.mk c c2)).bind fun r_2=>
   br (aB ((l++([r_2]:List Ext)).length) 16) (
   some (.inl ((l++([r_2]:List Ext)),(wrap .i64 (t2+1))))) none) (
   some (.inr (l,t2,decide (t2<t))))
abbrev vp (c c2:Int) (l:List Ext):List (Nat×Blk):=[(1000,⟨2,true,[[I c,I c2]]⟩),(2000,⟨2,false,rws ak l⟩)]
abbrev CI (word2:List Ext) (half t c c2:Int) (s:(List Ext)×Int):St:=⟨[(0,sl ak word2),(3,.ptr 1000 0 0 1),(5,.sl 2000 0 s.1.length),(6,I half),(12,I t),(13,I s.2)],vp c c2 s.1⟩
abbrev CE (word2:List Ext) (half t c c2:Int):((List Ext)×Int×Bool)→aw×St:=fun e=>(.exit 0,⟨[(0,sl ak word2),(3,.ptr 1000 0 0 1),(5,.sl 2000 0 e.1.length),(6,I half),(12,I t),(13,I e.2.1),(14,B e.2.2)],vp c c2 e.1⟩)
theorem Of {word2 half t c c2 s e} (h:Loop (gc word2 half t c c2) s=some e):aO tab ow (.close [6015,6016,6017]) CT (CI word2 half t c c2 s)=some (CE word2 half t c c2 e):=by
 refine lrG (fun s o h=> ?_) h
 obtain ⟨_,_⟩:=s
 simp only [gc] at h
 simp only [CI,CE,vp,CT,Cj]
 have d1:= @UD
 exact go2
def vl (word:(List Ext)) (r_:Ext):Option ((List Ext)):=
 (Loop (gc word (wrap .i64 (((word.length:Nat):Int).tdiv 2)) (wrap .i64 (((word.length:Nat):Int).tdiv 2)) r_.A r_.B) (([]:List Ext),0)).bind fun e_=>
 some e_.1
theorem Sh {word r_ r} (h:vl word r_=some r):Call tab ow 356 [sl ak word,.agg [I r_.A,I r_.B]] []=some (sl ak r,[]):=by
 rw [ag (af:=u6) rfl]
 unfold vl at h
 simp only [u6,zT]
 have d1:= @Of
 exact go2
end
section
theorem FS:mkR 4003 []=rws bI []:=rfl
attribute [local go_sem] FS
theorem FU:mkR 6003 []=rws eS []:=rfl
attribute [local go_sem] FU
def jJ (r_:Ext) (m m2 m3 m4:Int) (l:List aG) (l2:List (List UInt8)) (m5:Source):Option (Int×Int×Int×Int×(List aG)×(List (List UInt8))×Source):=
 br (decide (0≤(wrap .i64 (((l.length:Nat):Int)-1)))) (
 br (decide ((wrap .i64 (((l.length:Nat):Int)-1)).toNat<l.length)) (
 (l[(wrap .i64 (((l.length:Nat):Int)-1)).toNat]?).bind fun x=>
 (vl x.word r_).bind fun r_2=>
 br (((l.length:Nat):Int)==m) (
 some (m,m2,m3,m4,l,l2,m5)) (
 (vS r_2).bind fun r_3=>
 br (aB ((l++([r_3]:List aG)).length) 48) (
 br (decide (0≤(wrap .i64 ((((l++([r_3]:List aG)).length:Nat):Int)-1)))) (
 br (decide ((wrap .i64 ((((l++([r_3]:List aG)).length:Nat):Int)-1)).toNat<(l++([r_3]:List aG)).length)) (
 ((l++([r_3]:List aG))[(wrap .i64 ((((l++([r_3]:List aG)).length:Nat):Int)-1)).toNat]?).bind fun x2=>
 (vA x2.rows).bind fun r_4=>
 br (aB ((l2++([r_4]:List (List UInt8))).length) 16) (
 br (aB r_4.length 1) (
 (dt r_4 m5).bind fun r_5=>
 some (m,m2,m3,m4,(l++([r_3]:List aG)),(l2++([r_4]:List (List UInt8))),r_5)) none) none) none) none) none)) none) none
theorem Iv {r_ m m2 m3 m4 l l2 m5 r} (h:jJ r_ m m2 m3 m4 l l2 m5=some r):Call tab ow 355 [.agg [I r_.A,I r_.B],.ptr 0 0 0 1,.ptr 1 0 0 1,.ptr 2 0 0 1,.ptr 3 0 0 1] [⟨1,true,[[.sl 4 0 l.length]]⟩,⟨1,true,[[I m]]⟩,⟨6,true,[[.lit (.slice none 0 0),.sl 5 0 l2.length,I m2,I m3,I m4,.lit (.slice none 0 0)]]⟩,⟨1,true,[[.ptr 6 0 0 1]]⟩,⟨2,false,rws bI l⟩,⟨1,false,rws eS l2⟩,⟨4,true,[[sl ak m5.Script,I m5.At,S m5.State,I m5.Count]]⟩]=some (.tup [],[⟨1,true,[[.sl 4 0 r.2.2.2.2.1.length]]⟩,⟨1,true,[[I r.1]]⟩,⟨6,true,[[.lit (.slice none 0 0),.sl 5 0 r.2.2.2.2.2.1.length,I r.2.1,I r.2.2.1,I r.2.2.2.1,.lit (.slice none 0 0)]]⟩,⟨1,true,[[.ptr 6 0 0 1]]⟩,⟨2,false,rws bI r.2.2.2.2.1⟩,⟨1,false,rws eS r.2.2.2.2.2.1⟩,⟨4,true,[[sl ak r.2.2.2.2.2.2.Script,I r.2.2.2.2.2.2.At,S r.2.2.2.2.2.2.State,I r.2.2.2.2.2.2.Count]]⟩]):=by
 rw [ag (af:=kf) rfl]
 unfold jJ at h
 simp only [kf,wC]
 have d1:= @Sh
 have d2:= @FZ
 have d3:= @OW
 have d4:= @i5
 exact go2
end
section
theorem nM:mkR 2000 []=rws (eL ak) []:=rfl
attribute [local go_sem] nM
theorem nv:mkR 2001 []=rws ak []:=rfl
attribute [local go_sem] nv
theorem nE:mkR 2002 []=rws ak []:=rfl
attribute [local go_sem] nE
theorem nw:mkR 8002 []=rws (eL ak) []:=rfl
attribute [local go_sem] nw
theorem ny:mkR 8006 []=rws ak []:=rfl
attribute [local go_sem] ny
theorem nS:mkR 13004 []=rws ak []:=rfl
attribute [local go_sem] nS
def aX (l5:List Ext) (kind2:Int):(List aG)×(List (List Ext))×(List Ext)×(List (List UInt8))×(List (List Ext))×(List Ext)×Int×(List UInt8)×Int×Int×Int×Int×Int→Option (((List aG)×(List (List Ext))×(List Ext)×(List (List UInt8))×(List (List Ext))×(List Ext)×Int×(List UInt8)×Int×Int×Int×Int×Int)⊕(((List aG)×(List (List Ext))×(List Ext)×(List (List UInt8))×(List (List Ext))×Bool×(List Ext)×Int×(List UInt8)×Int×Int×Int×Int×Int)))
 | (l2,l3,l4,l6,tables2,c,c2,c3,c4,c5,c6,c7,c8)=>
   (atL tables2 0).bind fun x=>
   br (decide (((x.length:Nat):Int)>1)) (
   (o4 kind2 tables2).bind fun r_=>
   (bD r_ (Source.mk c c2 c3 c4)).bind fun r_2=>
   (fK r_2).bind fun r_3=>
   (zx tables2 r_3.1).bind fun r_4=>
   br (aB ((l3++([r_]:List (List Ext))).length) 24) (
   br (aB ((l4++([r_3.1]:List Ext)).length) 16) (
   (jJ r_3.1 c5 c6 c7 c8 l2 l6 r_3.2).bind fun r_5=>
   some (.inl (r_5.2.2.2.2.1,(l3++([r_]:List (List Ext))),(l4++([r_3.1]:List Ext)),r_5.2.2.2.2.2.1,r_4,r_5.2.2.2.2.2.2.Script,r_5.2.2.2.2.2.2.At,r_5.2.2.2.2.2.2.State,r_5.2.2.2.2.2.2.Count,r_5.1,r_5.2.1,r_5.2.2.1,r_5.2.2.2.1))) none) none) (
   some (.inr (l2,l3,l4,l6,tables2,decide (((x.length:Nat):Int)>1),c,c2,c3,c4,c5,c6,c7,c8)))
abbrev dg (l5:List Ext) (l2:List aG) (l3:List (List Ext)) (l4:List Ext) (l6:List (List UInt8)) (c:List Ext) (c2:Int) (c3:List UInt8) (c4 c5 c6 c7 c8:Int):List (Nat×Blk):=[(0,⟨4,true,[[sl ak c,I c2,S c3,I c4]]⟩),(1,⟨1,true,[[.sl 5 0 l2.length]]⟩),(2,⟨1,true,[[I c5]]⟩),(3,⟨6,true,[[.lit (.slice none 0 0),.sl 3900 0 l6.length,I c6,I c7,I c8,.lit (.slice none 0 0)]]⟩),(4,⟨1,true,[[.ptr 0 0 0 1]]⟩),(5,⟨2,false,rws bI l2⟩),(2000,⟨1,false,rws (eL ak) l3⟩),(2001,⟨2,false,rws ak l4⟩),(2002,⟨2,false,rws ak l5⟩),(3900,⟨1,false,rws eS l6⟩)]
abbrev fH (l5:List Ext) (kind2:Int) (s:(List aG)×(List (List Ext))×(List Ext)×(List (List UInt8))×(List (List Ext))×(List Ext)×Int×(List UInt8)×Int×Int×Int×Int×Int):St:=⟨[(0,.ptr 0 0 0 1),(1,I kind2),(2,sl (eL ak) s.2.2.2.2.1),(3,.fn 355 [.ptr 1 0 0 1,.ptr 2 0 0 1,.ptr 3 0 0 1,.ptr 4 0 0 1]),(11,.sl 2000 0 s.2.1.length),(12,.sl 2001 0 s.2.2.1.length),(13,.sl 2002 0 l5.length)],dg l5 s.1 s.2.1 s.2.2.1 s.2.2.2.1 s.2.2.2.2.2.1 s.2.2.2.2.2.2.1 s.2.2.2.2.2.2.2.1 s.2.2.2.2.2.2.2.2.1 s.2.2.2.2.2.2.2.2.2.1 s.2.2.2.2.2.2.2.2.2.2.1 s.2.2.2.2.2.2.2.2.2.2.2.1 s.2.2.2.2.2.2.2.2.2.2.2.2⟩
abbrev fD (l5:List Ext) (kind2:Int):((List aG)×(List (List Ext))×(List Ext)×(List (List UInt8))×(List (List Ext))×Bool×(List Ext)×Int×(List UInt8)×Int×Int×Int×Int×Int)→aw×St:=fun e=>(.exit 0,⟨[(0,.ptr 0 0 0 1),(1,I kind2),(2,sl (eL ak) e.2.2.2.2.1),(3,.fn 355 [.ptr 1 0 0 1,.ptr 2 0 0 1,.ptr 3 0 0 1,.ptr 4 0 0 1]),(11,.sl 2000 0 e.2.1.length),(12,.sl 2001 0 e.2.2.1.length),(13,.sl 2002 0 l5.length),(25,B e.2.2.2.2.2.1)],dg l5 e.1 e.2.1 e.2.2.1 e.2.2.2.1 e.2.2.2.2.2.2.1 e.2.2.2.2.2.2.2.1 e.2.2.2.2.2.2.2.2.1 e.2.2.2.2.2.2.2.2.2.1 e.2.2.2.2.2.2.2.2.2.2.1 e.2.2.2.2.2.2.2.2.2.2.2.1 e.2.2.2.2.2.2.2.2.2.2.2.2.1 e.2.2.2.2.2.2.2.2.2.2.2.2.2⟩)
theorem mM {l5 kind2 s e} (h:Loop (aX l5 kind2) s=some e):aO tab ow (.both (.close [4002,5002,6001,6002,7002,8002,8003,8006,8007,9002]) (.nilCell 3 1 3900 1)) gu (fH l5 kind2 s)=some (fD l5 kind2 e):=by
 refine lrG (fun s o h=> ?_) h
 obtain ⟨_,_,_,_,_,_,_,_,_,_,_,_,_⟩:=s
 simp only [aX] at h
 simp only [fH,fD,dg,gu,jW]
 have d1:= @Kl
 have d2:= @ed
 have d3:= @ta
 have d4:= @Jk
 have d5:= @Iv
 exact go2
def bj (l7:List aG) (l8:List (List Ext)) (l9:List Ext) (l11:List (List UInt8)) (t:List (List Ext)) (t2:Int) (c9:List Ext) (c10:Int) (c11:List UInt8) (c12 c13 c14 c15 c16:Int):(List Ext)×Int→Option (((List Ext)×Int)⊕(((List Ext)×Int×Bool)))
 | (l10,t3)=>
   br (decide (t3<t2)) (
   (atL t t3).bind fun x2=>
   (atL x2 0).bind fun x3=>
   br (aB ((l10++([x3]:List Ext)).length) 16) (
   some (.inl ((l10++([x3]:List Ext)),(wrap .i64 (t3+1))))) none) (
   some (.inr (l10,t3,decide (t3<t2))))
abbrev dl (l7:List aG) (l8:List (List Ext)) (l9:List Ext) (l11:List (List UInt8)) (c9:List Ext) (c10:Int) (c11:List UInt8) (c12 c13 c14 c15 c16:Int) (l10:List Ext):List (Nat×Blk):=[(0,⟨4,true,[[sl ak c9,I c10,S c11,I c12]]⟩),(1,⟨1,true,[[.sl 5 0 l7.length]]⟩),(2,⟨1,true,[[I c13]]⟩),(3,⟨6,true,[[.lit (.slice none 0 0),.sl 3900 0 l11.length,I c14,I c15,I c16,.lit (.slice none 0 0)]]⟩),(4,⟨1,true,[[.ptr 0 0 0 1]]⟩),(5,⟨2,false,rws bI l7⟩),(2000,⟨1,false,rws (eL ak) l8⟩),(2001,⟨2,false,rws ak l9⟩),(2002,⟨2,false,rws ak l10⟩),(3900,⟨1,false,rws eS l11⟩)]
abbrev fJ (l7:List aG) (l8:List (List Ext)) (l9:List Ext) (l11:List (List UInt8)) (t:List (List Ext)) (t2:Int) (c9:List Ext) (c10:Int) (c11:List UInt8) (c12 c13 c14 c15 c16:Int) (s:(List Ext)×Int):St:=⟨[(11,.sl 2000 0 l8.length),(12,.sl 2001 0 l9.length),(13,.sl 2002 0 s.1.length),(48,sl (eL ak) t),(49,I t2),(50,I s.2)],dl l7 l8 l9 l11 c9 c10 c11 c12 c13 c14 c15 c16 s.1⟩
abbrev fG (l7:List aG) (l8:List (List Ext)) (l9:List Ext) (l11:List (List UInt8)) (t:List (List Ext)) (t2:Int) (c9:List Ext) (c10:Int) (c11:List UInt8) (c12 c13 c14 c15 c16:Int):((List Ext)×Int×Bool)→aw×St:=fun e=>(.exit 2,⟨[(11,.sl 2000 0 l8.length),(12,.sl 2001 0 l9.length),(13,.sl 2002 0 e.1.length),(48,sl (eL ak) t),(49,I t2),(50,I e.2.1),(51,B e.2.2)],dl l7 l8 l9 l11 c9 c10 c11 c12 c13 c14 c15 c16 e.1⟩)
theorem mQ {l7 l8 l9 l11 t t2 c9 c10 c11 c12 c13 c14 c15 c16 s e} (h:Loop (bj l7 l8 l9 l11 t t2 c9 c10 c11 c12 c13 c14 c15 c16) s=some e):aO tab ow (.close [13004,13005]) fy (fJ l7 l8 l9 l11 t t2 c9 c10 c11 c12 c13 c14 c15 c16 s)=some (fG l7 l8 l9 l11 t t2 c9 c10 c11 c12 c13 c14 c15 c16 e):=by
 refine lrG (fun s o h=> ?_) h
 obtain ⟨_,_⟩:=s
 simp only [bj] at h
 simp only [fJ,fG,dl,fy,ji]
 exact go2
def bV (kind:Int) (tables:(List (List Ext))) (m:Source) (m2 m3 m4 m5:Int) (l:List aG):Option ((List (List Ext))×(List Ext)×(List Ext)×Source×Int×Int×Int×Int×(List aG)×(List (List UInt8))):=
 (Loop (aX ([]:List Ext) kind) (l,([]:List (List Ext)),([]:List Ext),([]:List (List UInt8)),tables,m.Script,m.At,m.State,m.Count,m2,m3,m4,m5)).bind fun e_=>
 (Loop (bj e_.1 e_.2.1 e_.2.2.1 e_.2.2.2.1 e_.2.2.2.2.1 ((e_.2.2.2.2.1.length:Nat):Int) e_.2.2.2.2.2.2.1 e_.2.2.2.2.2.2.2.1 e_.2.2.2.2.2.2.2.2.1 e_.2.2.2.2.2.2.2.2.2.1 e_.2.2.2.2.2.2.2.2.2.2.1 e_.2.2.2.2.2.2.2.2.2.2.2.1 e_.2.2.2.2.2.2.2.2.2.2.2.2.1 e_.2.2.2.2.2.2.2.2.2.2.2.2.2) (([]:List Ext),0)).bind fun e_2=>
 some (e_.2.1,e_.2.2.1,e_2.1,(Source.mk e_.2.2.2.2.2.2.1 e_.2.2.2.2.2.2.2.1 e_.2.2.2.2.2.2.2.2.1 e_.2.2.2.2.2.2.2.2.2.1),e_.2.2.2.2.2.2.2.2.2.2.1,e_.2.2.2.2.2.2.2.2.2.2.2.1,e_.2.2.2.2.2.2.2.2.2.2.2.2.1,e_.2.2.2.2.2.2.2.2.2.2.2.2.2,e_.1,e_.2.2.2.1)
theorem oo {kind tables m m2 m3 m4 m5 l r} (h:bV kind tables m m2 m3 m4 m5 l=some r):Call tab ow 291 [.ptr 0 0 0 1,I kind,sl (eL ak) tables,.fn 355 [.ptr 1 0 0 1,.ptr 2 0 0 1,.ptr 3 0 0 1,.ptr 4 0 0 1]] [⟨4,true,[[sl ak m.Script,I m.At,S m.State,I m.Count]]⟩,⟨1,true,[[.sl 5 0 l.length]]⟩,⟨1,true,[[I m2]]⟩,⟨6,true,[[.lit (.slice none 0 0),.lit (.slice none 0 0),I m3,I m4,I m5,.lit (.slice none 0 0)]]⟩,⟨1,true,[[.ptr 0 0 0 1]]⟩,⟨2,false,rws bI l⟩]=some (.tup [sl (eL ak) r.1,sl ak r.2.1,sl ak r.2.2.1],[⟨4,true,[[sl ak r.2.2.2.1.Script,I r.2.2.2.1.At,S r.2.2.2.1.State,I r.2.2.2.1.Count]]⟩,⟨1,true,[[.sl 5 0 r.2.2.2.2.2.2.2.2.1.length]]⟩,⟨1,true,[[I r.2.2.2.2.1]]⟩,⟨6,true,[[.lit (.slice none 0 0),.sl 6 0 r.2.2.2.2.2.2.2.2.2.length,I r.2.2.2.2.2.1,I r.2.2.2.2.2.2.1,I r.2.2.2.2.2.2.2.1,.lit (.slice none 0 0)]]⟩,⟨1,true,[[.ptr 0 0 0 1]]⟩,⟨2,false,rws bI r.2.2.2.2.2.2.2.2.1⟩,⟨1,false,rws eS r.2.2.2.2.2.2.2.2.2⟩]):=by
 rw [ag (af:=dP) rfl]
 unfold bV at h
 simp only [dP,fi]
 have d1:= @mM
 have d2:= @mQ
 exact go2
end
def lH (t:List UInt8) (t2:Int):Int×Int→Option ((Int×Int)⊕((Int×Int×Bool)))
 | (n,t3)=>
   br (decide (t3<t2)) (
   (atL t t3).bind fun x=>
   some (.inl ((ui .i64 (aP .i64 n 8) (wrap .i64 (x.toNat:Int))),(wrap .i64 (t3+1))))) (
   some (.inr (n,t3,decide (t3<t2))))
abbrev GD (t:List UInt8) (t2:Int) (s:Int×Int):St:=⟨[(3,I s.1),(6,sl eU8 t),(7,I t2),(8,I s.2)],[]⟩
abbrev Hq (t:List UInt8) (t2:Int):(Int×Int×Bool)→aw×St:=fun e=>(.exit 0,⟨[(3,I e.1),(6,sl eU8 t),(7,I t2),(8,I e.2.1),(9,B e.2.2)],[]⟩)
theorem TV {t t2 s e} (h:Loop (lH t t2) s=some e):aO tab ow (.close []) Gp (GD t t2 s)=some (Hq t t2 e):=by
 refine lrG (fun s o h=> ?_) h
 obtain ⟨_,_⟩:=s
 simp only [lH] at h
 simp only [GD,Hq,Gp,IJ]
 exact go2
def C9 (b:(List UInt8)):Option (Int):=
 (Loop (lH b ((b.length:Nat):Int)) (0,0)).bind fun e_=>
 some e_.1
theorem YL {b r} (h:C9 b=some r):Call tab ow 297 [sl eU8 b] []=some (I r,[]):=by
 rw [ag (af:=An) rfl]
 unfold C9 at h
 simp only [An,G0]
 have d1:= @TV
 exact go2
section
theorem Jf:mkR 2003 []=rws eU8 []:=rfl
attribute [local go_sem] Jf
theorem Jc:mkR 2007 []=rws (eL eU8) []:=rfl
attribute [local go_sem] Jc
def mN (s:Source) (bits nonce:Int):Option (Bool):=
 br (aB s.State.length 1) (
 (BV nonce).bind fun r_=>
 (ph ([s.State,([(103:UInt8),(114:UInt8),(105:UInt8),(110:UInt8),(100:UInt8)]:List UInt8),r_]:List (List UInt8))).bind fun r_2=>
 br (aB r_2.length 1) (
 (nL r_2 0 4).bind fun y=>
 (C9 y).bind fun r_3=>
 br (decide (0≤(wrap .i64 (32-bits)))) (
 some ((bA .i64 r_3 (wrap .i64 (32-bits)))==0)) none) none) none
theorem Lu {s bits nonce r} (h:mN s bits nonce=some r):Call tab ow 224 [.agg [sl ak s.Script,I s.At,S s.State,I s.Count],I bits,I nonce] []=some (B r,[]):=by
 rw [ag (af:=nr) rfl]
 unfold mN at h
 simp only [nr,AS]
 have d1:= @HJ
 have d2:= @wc
 have d3:= @YL
 exact go2
end
def cq (bits2:Int) (c:List Ext) (c2:Int) (c3:List UInt8) (c4:Int):Int→Option ((Int)⊕(Int⊕(Int×Bool)))
 |t=>
  br (decide (t<65536)) (
  (mN (Source.mk c c2 c3 c4) bits2 t).bind fun r_=>
  br r_ (
  some (.inr (.inl t))) (
  some (.inl (wrap .i64 (t+1))))) (
  some (.inr (.inr (t,decide (t<65536)))))
abbrev w7 (bits2:Int) (c:List Ext) (c2:Int) (c3:List UInt8) (c4 s:Int):St:=⟨[(1,I bits2),(2,.ptr 1000 0 0 1),(6,I s)],[(1000,⟨4,true,[[sl ak c,I c2,S c3,I c4]]⟩)]⟩
abbrev vT (bits2:Int) (c:List Ext) (c2:Int) (c3:List UInt8) (c4:Int):(Int⊕(Int×Bool))→aw×St:=alt (fun e=>((.ret,⟨[(4,I e)],[(1000,⟨4,true,[[sl ak c,I c2,S c3,I c4]]⟩)]⟩):aw×St)) (fun e=>(.exit 0,⟨[(1,I bits2),(2,.ptr 1000 0 0 1),(6,I e.1),(7,B e.2)],[(1000,⟨4,true,[[sl ak c,I c2,S c3,I c4]]⟩)]⟩))
theorem FT {bits2 c c2 c3 c4 s e} (h:Loop (cq bits2 c c2 c3 c4) s=some e):aO tab ow (.close [5003]) vh (w7 bits2 c c2 c3 c4 s)=some (vT bits2 c c2 c3 c4 e):=by
 refine lrG (fun s o h=> ?_) h
 simp only [cq] at h
 simp only [w7,vT,vh,vM]
 have d1:= @Lu
 exact go2
def kX (s:Source) (bits:Int):Option (Int):=
 (Loop (cq bits s.Script s.At s.State s.Count) 0).bind (alt (fun e_2=>
 some e_2) (fun e_3=>
 some (-1:Int)))
theorem Jm {s bits r} (h:kX s bits=some r):Call tab ow 357 [.agg [sl ak s.Script,I s.At,S s.State,I s.Count],I bits] []=some (I r,[]):=by
 rw [ag (af:=lW) rfl]
 unfold kX at h
 simp only [lW,qO]
 have d1:= @FT
 exact go2
section
theorem W6:mkR 2000 []=rws eI []:=rfl
attribute [local go_sem] W6
theorem Wm:mkR 6005 []=rws eI []:=rfl
attribute [local go_sem] Wm
def jd (most2:Int) (t:List Ext) (t2:Int):(List Int)×Int→Option (((List Int)×Int)⊕(((List Int)×Int×Bool)))
 | (l,t3)=>
   br (decide (t3<t2)) (
   (atL t t3).bind fun x=>
   br (decide (most2≠0)) (
   br (aB ((l++([(x.A.tmod most2)]:List Int)).length) 8) (
   some (.inl ((l++([(x.A.tmod most2)]:List Int)),(wrap .i64 (t3+1))))) none) none) (
   some (.inr (l,t3,decide (t3<t2))))
abbrev Hf (most2:Int) (t:List Ext) (t2:Int) (s:(List Int)×Int):St:=⟨[(1,I most2),(5,.sl 2000 0 s.1.length),(9,sl ak t),(10,I t2),(11,I s.2)],[(2000,⟨1,false,rws eI s.1⟩)]⟩
abbrev IL (most2:Int) (t:List Ext) (t2:Int):((List Int)×Int×Bool)→aw×St:=fun e=>(.exit 0,⟨[(1,I most2),(5,.sl 2000 0 e.1.length),(9,sl ak t),(10,I t2),(11,I e.2.1),(12,B e.2.2)],[(2000,⟨1,false,rws eI e.1⟩)]⟩)
theorem RB {most2 t t2 s e} (h:Loop (jd most2 t t2) s=some e):aO tab ow (.close [5002,6005,6006]) Gi (Hf most2 t t2 s)=some (IL most2 t t2 e):=by
 refine lrG (fun s o h=> ?_) h
 obtain ⟨_,_⟩:=s
 simp only [jd] at h
 simp only [Hf,IL,Gi,GS]
 exact go2
def D4 (list:(List Ext)) (most:Int):Option ((List Int)):=
 (Loop (jd most list ((list.length:Nat):Int)) (([]:List Int),0)).bind fun e_=>
 some e_.1
theorem a04 {list most r} (h:D4 list most=some r):Call tab ow 226 [sl ak list,I most] []=some (sl eI r,[]):=by
 rw [ag (af:=zJ) rfl]
 unfold D4 at h
 simp only [zJ,FB]
 have d1:= @RB
 exact go2
end
section
theorem WH:mkR 2000 []=rws eS []:=rfl
attribute [local go_sem] WH
theorem Xd:mkR 6006 []=rws eS []:=rfl
attribute [local go_sem] Xd
def je (t:List (List (List UInt8))) (t2:Int):(List (List UInt8))×Int×Int→Option (((List (List UInt8))×Int×Int)⊕(((List (List UInt8))×Int×Int×Bool)))
 | (l,i2,t3)=>
   br (decide (t3<t2)) (
   (atL t t3).bind fun x=>
   (atL x (io .i64 i2 1)).bind fun x2=>
   br (aB ((l++([x2]:List (List UInt8))).length) 16) (
   some (.inl ((l++([x2]:List (List UInt8))),(wrap .i64 (i2.tdiv 2)),(wrap .i64 (t3+1))))) none) (
   some (.inr (l,i2,t3,decide (t3<t2))))
abbrev Gt (t:List (List (List UInt8))) (t2:Int) (s:(List (List UInt8))×Int×Int):St:=⟨[(1,I s.2.1),(5,.sl 2000 0 s.1.length),(13,sl (eL eS) t),(14,I t2),(15,I s.2.2)],[(2000,⟨1,false,rws eS s.1⟩)]⟩
abbrev Gx (t:List (List (List UInt8))) (t2:Int):((List (List UInt8))×Int×Int×Bool)→aw×St:=fun e=>(.exit 0,⟨[(1,I e.2.1),(5,.sl 2000 0 e.1.length),(13,sl (eL eS) t),(14,I t2),(15,I e.2.2.1),(16,B e.2.2.2)],[(2000,⟨1,false,rws eS e.1⟩)]⟩)
theorem RI {t t2 s e} (h:Loop (je t t2) s=some e):aO tab ow (.close [6006,6007]) H4 (Gt t t2 s)=some (Gx t t2 e):=by
 refine lrG (fun s o h=> ?_) h
 obtain ⟨_,_,_⟩:=s
 simp only [je] at h
 simp only [Gt,Gx,H4,HI]
 exact go2
def Ce (rows:(List (List (List UInt8)))) (i:Int):Option ((List (List UInt8))):=
 (nL rows 0 (wrap .i64 (((rows.length:Nat):Int)-1))).bind fun y=>
 (Loop (je y ((y.length:Nat):Int)) (([]:List (List UInt8)),i,0)).bind fun e_=>
 some e_.1
theorem Zq {rows i r} (h:Ce rows i=some r):Call tab ow 358 [sl (eL eS) rows,I i] []=some (sl eS r,[]):=by
 rw [ag (af:=A0) rfl]
 unfold Ce at h
 simp only [A0,FY]
 have d1:= @RI
 exact go2
end
end
end Go.AI.Fn
