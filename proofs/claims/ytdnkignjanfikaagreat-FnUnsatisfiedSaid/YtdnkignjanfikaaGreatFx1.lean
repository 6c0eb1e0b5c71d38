/- Walks through the program, with open values. -/
import Derived.Test.YtdnkignjanfikaaGreatFx0
set_option linter.unusedVariables false
set_option linter.unusedSimpArgs false
set_option maxRecDepth 100000
set_option maxHeartbeats 1000000
namespace Go.AI.Fn
noncomputable section
open IntKind (wrap)
section
theorem FN:mkR 2001 []=rws eS []:=rfl
attribute [local go_sem] FN
theorem Fw:mkR 2003 []=rws ak []:=rfl
attribute [local go_sem] Fw
theorem FJ:mkR 9002 []=rws eS []:=rfl
attribute [local go_sem] FJ
def dL (c4:Int) (c5:List UInt8) (c6:Int):Int×(List UInt8)×Int×Int×(List Ext)×Int×(List UInt8)×Int→Option ((Int×(List UInt8)×Int×Int×(List Ext)×Int×(List UInt8)×Int)⊕((Int×Bool×(List UInt8)×Int×Int×(List Ext)×Int×(List UInt8)×Int)))
 | (i,c,c2,c3,c7,c8,c9,c10)=>
   br (decide (i>0)) (
   (aU 2 (aD.mk c c2 c3)).bind fun r_7=>
   br r_7.1 (
   (ig ([(([]:List UInt8)),(([116,101,120,116]:List UInt8))]:List (List UInt8)) r_7.2).bind fun r_8=>
   (og (Source.mk c7 c8 c9 c10) r_8.1).bind fun r_9=>
   some (.inl ((wrap .i64 (i-1)),r_8.2.code,r_8.2.at_,r_8.2.seed,r_9.Script,r_9.At,r_9.State,r_9.Count))) (
   (uV (Source.mk c7 c8 c9 c10)).bind fun r_10=>
   some (.inl ((wrap .i64 (i-1)),r_7.2.code,r_7.2.at_,r_7.2.seed,r_10.1.Script,r_10.1.At,r_10.1.State,r_10.1.Count)))) (
   some (.inr (i,decide (i>0),c,c2,c3,c7,c8,c9,c10)))
abbrev mj (c4:Int) (c5:List UInt8) (c6:Int) (c:List UInt8) (c2 c3:Int) (c7:List Ext) (c8:Int) (c9:List UInt8) (c10:Int):List (Nat×Blk):=[(0,⟨3,true,[[sl eU8 c,I c2,I c3]]⟩),(1000,⟨4,true,[[.lit (.slice none 0 0),I c4,S c5,I c6]]⟩),(2001,ip),(2003,ip),(2005,⟨4,true,[[sl ak c7,I c8,S c9,I c10]]⟩)]
abbrev tR (c4:Int) (c5:List UInt8) (c6:Int) (s:Int×(List UInt8)×Int×Int×(List Ext)×Int×(List UInt8)×Int):St:=⟨[(0,.ptr 0 0 0 1),(2,.ptr 1000 0 0 1),(3,.ptr 2005 0 0 1),(4,I s.1)],mj c4 c5 c6 s.2.1 s.2.2.1 s.2.2.2.1 s.2.2.2.2.1 s.2.2.2.2.2.1 s.2.2.2.2.2.2.1 s.2.2.2.2.2.2.2⟩
abbrev tY (c4:Int) (c5:List UInt8) (c6:Int):(Int×Bool×(List UInt8)×Int×Int×(List Ext)×Int×(List UInt8)×Int)→aw×St:=fun e=>(.exit 0,⟨[(0,.ptr 0 0 0 1),(2,.ptr 1000 0 0 1),(3,.ptr 2005 0 0 1),(4,I e.1),(21,B e.2.1)],mj c4 c5 c6 e.2.2.1 e.2.2.2.1 e.2.2.2.2.1 e.2.2.2.2.2.1 e.2.2.2.2.2.2.1 e.2.2.2.2.2.2.2.1 e.2.2.2.2.2.2.2.2⟩)
theorem DK {c4 c5 c6 s e} (h:Loop (dL c4 c5 c6) s=some e):aO tab ow (.close [8001,9002,9003,9004,10001]) iv (tR c4 c5 c6 s)=some (tY c4 c5 c6 e):=by
 refine lrG (fun s o h=> ?_) h
 obtain ⟨_,_,_,_,_,_,_,_⟩:=s
 simp only [dL] at h
 simp only [tR,tY,mj,iv,mr]
 have d1:= @cX
 have d2:= @tu
 have d3:= @E1
 have d4:= @Ky
 exact go2
def iy (c14:Int) (c15:List UInt8) (c16:Int):Int×(List UInt8)×Int×Int×(List Ext)×Int×(List UInt8)×Int→Option ((Int×(List UInt8)×Int×Int×(List Ext)×Int×(List UInt8)×Int)⊕((Int×Bool×(List UInt8)×Int×Int×(List Ext)×Int×(List UInt8)×Int)))
 | (i2,c11,c12,c13,c17,c18,c19,c20)=>
   br (decide (i2>0)) (
   (aU 2 (aD.mk c11 c12 c13)).bind fun r_13=>
   br r_13.1 (
   (ig ([(([]:List UInt8)),(([116,101,120,116]:List UInt8))]:List (List UInt8)) r_13.2).bind fun r_14=>
   (og (Source.mk c17 c18 c19 c20) r_14.1).bind fun r_15=>
   some (.inl ((wrap .i64 (i2-1)),r_14.2.code,r_14.2.at_,r_14.2.seed,r_15.Script,r_15.At,r_15.State,r_15.Count))) (
   (uV (Source.mk c17 c18 c19 c20)).bind fun r_16=>
   some (.inl ((wrap .i64 (i2-1)),r_13.2.code,r_13.2.at_,r_13.2.seed,r_16.1.Script,r_16.1.At,r_16.1.State,r_16.1.Count)))) (
   some (.inr (i2,decide (i2>0),c11,c12,c13,c17,c18,c19,c20)))
abbrev ms (c14:Int) (c15:List UInt8) (c16:Int) (c11:List UInt8) (c12 c13:Int) (c17:List Ext) (c18:Int) (c19:List UInt8) (c20:Int):List (Nat×Blk):=[(0,⟨3,true,[[sl eU8 c11,I c12,I c13]]⟩),(1000,⟨4,true,[[.lit (.slice none 0 0),I c14,S c15,I c16]]⟩),(2001,ip),(2003,ip),(2005,⟨4,true,[[sl ak c17,I c18,S c19,I c20]]⟩)]
abbrev u4 (c14:Int) (c15:List UInt8) (c16:Int) (s:Int×(List UInt8)×Int×Int×(List Ext)×Int×(List UInt8)×Int):St:=⟨[(0,.ptr 0 0 0 1),(2,.ptr 1000 0 0 1),(3,.ptr 2005 0 0 1),(4,I s.1)],ms c14 c15 c16 s.2.1 s.2.2.1 s.2.2.2.1 s.2.2.2.2.1 s.2.2.2.2.2.1 s.2.2.2.2.2.2.1 s.2.2.2.2.2.2.2⟩
abbrev tB (c14:Int) (c15:List UInt8) (c16:Int):(Int×Bool×(List UInt8)×Int×Int×(List Ext)×Int×(List UInt8)×Int)→aw×St:=fun e=>(.exit 0,⟨[(0,.ptr 0 0 0 1),(2,.ptr 1000 0 0 1),(3,.ptr 2005 0 0 1),(4,I e.1),(21,B e.2.1)],ms c14 c15 c16 e.2.2.1 e.2.2.2.1 e.2.2.2.2.1 e.2.2.2.2.2.1 e.2.2.2.2.2.2.1 e.2.2.2.2.2.2.2.1 e.2.2.2.2.2.2.2.2⟩)
theorem DM {c14 c15 c16 s e} (h:Loop (iy c14 c15 c16) s=some e):aO tab ow (.close [8001,9002,9003,9004,10001]) iv (u4 c14 c15 c16 s)=some (tB c14 c15 c16 e):=by
 refine lrG (fun s o h=> ?_) h
 obtain ⟨_,_,_,_,_,_,_,_⟩:=s
 simp only [iy] at h
 simp only [u4,tB,ms,iv,mr]
 have d1:= @cX
 have d2:= @tu
 have d3:= @E1
 have d4:= @Ky
 exact go2
def mZ (m:aD):Option (Source×aD):=
 (ig ([(([]:List UInt8)),(([97]:List UInt8)),(([108,97,98,101,108]:List UInt8))]:List (List UInt8)) m).bind fun r_=>
 (Bu r_.1 ([]:List Ext)).bind fun r_2=>
 (aU 3 r_.2).bind fun r_3=>
 br r_3.1 (
 (ab 5 r_3.2).bind fun r_4=>
 (mR (wrap .i64 (1+r_4.1)) r_4.2).bind fun r_5=>
 (ab 4 r_5.2).bind fun r_6=>
 (Loop (dL 0 (([]:List UInt8)) 0) (r_6.1,r_6.2.code,r_6.2.at_,r_6.2.seed,r_5.1,r_2.At,r_2.State,r_2.Count)).bind fun e_=>
 (yG (Source.mk e_.2.2.2.2.2.1 e_.2.2.2.2.2.2.1 e_.2.2.2.2.2.2.2.1 e_.2.2.2.2.2.2.2.2)).bind fun r_11=>
 some (r_11,(aD.mk e_.2.2.1 e_.2.2.2.1 e_.2.2.2.2.1))) (
 (ab 4 r_3.2).bind fun r_12=>
 (Loop (iy 0 (([]:List UInt8)) 0) (r_12.1,r_12.2.code,r_12.2.at_,r_12.2.seed,r_2.Script,r_2.At,r_2.State,r_2.Count)).bind fun e_2=>
 (yG (Source.mk e_2.2.2.2.2.2.1 e_2.2.2.2.2.2.2.1 e_2.2.2.2.2.2.2.2.1 e_2.2.2.2.2.2.2.2.2)).bind fun r_17=>
 some (r_17,(aD.mk e_2.2.2.1 e_2.2.2.2.1 e_2.2.2.2.2.1)))
theorem Is {m r} (h:mZ m=some r):Call tab ow 94 [.ptr 0 0 0 1] [⟨3,true,[[sl eU8 m.code,I m.at_,I m.seed]]⟩]=some (.agg [sl ak r.1.Script,I r.1.At,S r.1.State,I r.1.Count],[⟨3,true,[[sl eU8 r.2.code,I r.2.at_,I r.2.seed]]⟩]):=by
 rw [ag (af:=k9) rfl]
 unfold mZ at h
 simp only [k9,p7]
 have d1:= @tu
 have d2:= @YH
 have d3:= @cX
 have d4:= @cu
 have d5:= @LH
 have d6:= @DK
 have d7:= @a0q
 have d8:= @DM
 exact go2
end
def gK (n low high:Int):Option (Bool):=
 br (decide (low≤n)) (
 some (decide (n≤high))) (
 some false)
theorem xU {n low high r} (h:gK n low high=some r):Call tab ow 68 [I n,I low,I high] []=some (B r,[]):=by
 rw [ag (af:=Tj) rfl]
 unfold gK at h
 simp only [Tj,a94]
 exact go2
def nW (a:Int):Option (Bool):=
 (gK a 0 2130706432).bind fun r_=>
 some r_
theorem Cp {a r} (h:nW a=some r):Call tab ow 132 [I a] []=some (B r,[]):=by
 rw [ag (af:=wL) rfl]
 unfold nW at h
 simp only [wL,KK]
 have d1:= @xU
 exact go2
def GR (a:Ext):Option (Bool):=
 (nW a.A).bind fun r_=>
 br r_ (
 (nW a.B).bind fun r_2=>
 some r_2) (
 some false)
theorem a4k {a r} (h:GR a=some r):Call tab ow 72 [.agg [I a.A,I a.B]] []=some (B r,[]):=by
 rw [ag (af:=Dc) rfl]
 unfold GR at h
 simp only [Dc,Qy]
 have d1:= @Cp
 exact go2
def fk (x:Ext):Option (Bool):=
 (GR x).bind fun r_=>
 some (!r_)
theorem Bn {x r} (h:fk x=some r):Call tab ow 167 [.agg [I x.A,I x.B],.ptr 0 0 0 1] [⟨1,true,[[.fn 72 []]]⟩]=some (B r,[⟨1,true,[[.fn 72 []]]⟩]):=by
 rw [ag (af:=nk) rfl]
 unfold fk at h
 simp only [nk,AY]
 have d1:= @a4k
 exact go2
def bg (s2:List Ext) (t:Int):Int→Option ((Int)⊕(Int⊕(Int×Bool)))
 |t2=>
  br (decide (t2<t)) (
  (atL s2 t2).bind fun x=>
  (fk x).bind fun r_=>
  br r_ (
  some (.inr (.inl t2))) (
  some (.inl (wrap .i64 (t2+1))))) (
  some (.inr (.inr (t2,decide (t2<t)))))
abbrev cF (s2:List Ext) (t s:Int):St:=⟨[(0,sl ak s2),(1,.fn 167 [.ptr 0 0 0 1]),(7,I t),(8,I s)],[(0,⟨1,true,[[.fn 72 []]]⟩)]⟩
abbrev cE (s2:List Ext) (t:Int):(Int⊕(Int×Bool))→aw×St:=alt (fun e=>((.ret,⟨[(4,I e)],[(0,⟨1,true,[[.fn 72 []]]⟩)]⟩):aw×St)) (fun e=>(.exit 0,⟨[(0,sl ak s2),(1,.fn 167 [.ptr 0 0 0 1]),(7,I t),(8,I e.1),(9,B e.2)],[(0,⟨1,true,[[.fn 72 []]]⟩)]⟩))
theorem fP {s2 t s e} (h:Loop (bg s2 t) s=some e):aO tab ow (.close [5005]) gI (cF s2 t s)=some (cE s2 t e):=by
 refine lrG (fun s o h=> ?_) h
 simp only [bg] at h
 simp only [cF,cE,gI,gH]
 have d1:= @Bn
 exact go2
def bm (s:(List Ext)):Option (Int):=
 (Loop (bg s ((s.length:Nat):Int)) 0).bind (alt (fun e_2=>
 some e_2) (fun e_3=>
 some (-1:Int)))
theorem gG {s r} (h:bm s=some r):Call tab ow 283 [sl ak s,.fn 167 [.ptr 0 0 0 1]] [⟨1,true,[[.fn 72 []]]⟩]=some (I r,[⟨1,true,[[.fn 72 []]]⟩]):=by
 rw [ag (af:=cH) rfl]
 unfold bm at h
 simp only [cH,dX]
 have d1:= @fP
 exact go2
def bi (s:(List Ext)):Option (Bool):=
 (bm s).bind fun r_=>
 some (decide (r_≥0))
theorem fB {s r} (h:bi s=some r):Call tab ow 166 [sl ak s,.fn 167 [.ptr 0 0 0 1]] [⟨1,true,[[.fn 72 []]]⟩]=some (B r,[⟨1,true,[[.fn 72 []]]⟩]):=by
 rw [ag (af:=cp) rfl]
 unfold bi at h
 simp only [cp,ge]
 have d1:= @gG
 exact go2
def i7 (list:(List Ext)):Option (Bool):=
 (bi list).bind fun r_=>
 some (!r_)
theorem DU {list r} (h:i7 list=some r):Call tab ow 71 [.fn 72 [],sl ak list] []=some (B r,[]):=by
 rw [ag (af:=rq) rfl]
 unfold i7 at h
 simp only [rq,F3]
 have d1:= @fB
 exact go2
def co (l:List Ext):Option (List Ext):=br (aB l.length 16) (some l) none
theorem u5 (x:Ext) (l:List Ext) (hf:aB (x::l).length 16=true):Call (IX 73 aM) K5 73 [sl ak (x::l)] []=some (.sl 0 0 (x::l).length,[⟨2,false,rws ak (x::l)⟩]):=by
 rw [ag (af:=aM) (K9 _ _)]
 rw [List.length_cons] at hf
 simp+decide only [aM,fC,fun k=>mk0 ak k,Vx,go_sem,reduceIte,Nat.reduceAdd,hf]
theorem kq {l r:List Ext} (h:co l=some r):Call tab ow 73 [sl ak l] []=some (.sl 0 0 r.length,[⟨2,false,rws ak r⟩]):=by
 unfold co at h
 obtain ⟨hb,h⟩:=brg h
 cases h
 rw [MU (g:=UC 73 aM 2) rfl]
 cases l with
 |nil=>rfl
 |cons x l=>exact u5 x l hb
def jL (m:List Int) (t:List UInt8) (t2:Int):(List Int)×Int→Option (((List Int)×Int)⊕(((List Int)×Int×Bool)))
 | (m2,t3)=>
   br (decide (t3<t2)) (
   (atL t t3).bind fun x=>
   br (decide (0≤(wrap .i64 (t3.tdiv 8)))&&decide ((wrap .i64 (t3.tdiv 8)).toNat<25)) (
   (m2[(wrap .i64 (t3.tdiv 8)).toNat]?).bind fun x2=>
   br (decide (0≤(wrap .i64 (8*(t3.tmod 8))))) (
   br (decide (0≤(wrap .i64 (t3.tdiv 8)))&&decide ((wrap .i64 (t3.tdiv 8)).toNat<25)) (
   br (decide ((wrap .i64 (t3.tdiv 8)).toNat<m2.length)) (
   some (.inl ((m2.set ((wrap .i64 (t3.tdiv 8)).toNat) (ui .u64 x2 (aP .u64 (wrap .u64 (x.toNat:Int)) (wrap .i64 (8*(t3.tmod 8)))))),(wrap .i64 (t3+1))))) none) none) none) none) (
   some (.inr (m2,t3,decide (t3<t2))))
abbrev xC (m m2:List Int):List (Nat×Blk):=[(1000,⟨25,true,[ar .u64 m]⟩),(2001,⟨25,true,[ar .u64 m2]⟩)]
abbrev E7 (m:List Int) (t:List UInt8) (t2:Int) (s:(List Int)×Int):St:=⟨[(2,.ptr 1000 0 0 1),(3,.ptr 2001 0 0 1),(7,sl eU8 t),(8,I t2),(9,I s.2)],xC m s.1⟩
abbrev EJ (m:List Int) (t:List UInt8) (t2:Int):((List Int)×Int×Bool)→aw×St:=fun e=>(.exit 0,⟨[(2,.ptr 1000 0 0 1),(3,.ptr 2001 0 0 1),(7,sl eU8 t),(8,I t2),(9,I e.2.1),(10,B e.2.2)],xC m e.1⟩)
theorem Qq {m t t2 s e} (h:Loop (jL m t t2) s=some e):aO tab ow (.close []) xI (E7 m t t2 s)=some (EJ m t t2 e):=by
 refine lrG (fun s o h=> ?_) h
 obtain ⟨_,_⟩:=s
 simp only [jL] at h
 simp only [E7,EJ,xC,xI]
 exact go2
def yv (state:(List UInt8)):Option ((List Int)):=
 (Loop (jL (nZ 25) state ((state.length:Nat):Int)) ((nZ 25),0)).bind fun e_=>
 br (decide (e_.1.length=25)) (
 br (decide (e_.1.length=25)) (
 br (decide (e_.1.length=25)) (
 some e_.1) none) none) none
theorem XX {state r} (h:yv state=some r):Call tab ow 344 [sl eU8 state] []=some (.agg (ar .u64 r),[]):=by
 rw [ag (af:=xi) rfl]
 unfold yv at h
 simp only [xi,Kz]
 have d1:= @Qq
 exact go2
def cO (x k:Int):Option (Int):=
 br (decide (0≤(bo .u64 (wrap .u64 k) 63))) (
 br (decide (0≤(wrap .u64 (64-(bo .u64 (wrap .u64 k) 63))))) (
 some (ui .u64 (aP .u64 x (bo .u64 (wrap .u64 k) 63)) (bA .u64 x (wrap .u64 (64-(bo .u64 (wrap .u64 k) 63)))))) none) none
theorem xE {x k r} (h:cO x k=some r):Call tab ow 376 [.lit (.int .u64 x),I k] []=some (.lit (.int .u64 r),[]):=by
 rw [ag (af:=ey) rfl]
 unfold cO at h
 simp only [ey,mE]
 exact go2
def dQ (m5 m6 m7 m9:List Int) (t3:Int) (t4:List Int) (t5:Int):(List Int)×Int→Option (((List Int)×Int)⊕(((List Int)×Int×Bool)))
 | (m8,t6)=>
   br (decide (t6<25)) (
   br (decide (0≤t6)&&decide (t6.toNat<25)) (
   (m5[t6.toNat]?).bind fun x2=>
   br (decide (0≤(t6.tmod 5))&&decide ((t6.tmod 5).toNat<5)) (
   (m8[(t6.tmod 5).toNat]?).bind fun x3=>
   br (decide (0≤(t6.tmod 5))&&decide ((t6.tmod 5).toNat<5)) (
   br (decide ((t6.tmod 5).toNat<m8.length)) (
   some (.inl ((m8.set ((t6.tmod 5).toNat) (io .u64 x3 x2)),(wrap .i64 (t6+1))))) none) none) none) none) (
   some (.inr (m8,t6,decide (t6<25))))
abbrev mg (m5 m6 m7 m9 m8:List Int):List (Nat×Blk):=[(0,⟨25,true,[ar .u64 m5]⟩),(1001,⟨25,true,[ar .i64 m6]⟩),(2001,⟨24,true,[ar .u64 m7]⟩),(6002,⟨5,true,[ar .u64 m8]⟩),(6003,⟨25,true,[ar .u64 m9]⟩)]
abbrev tP (m5 m6 m7 m9:List Int) (t3:Int) (t4:List Int) (t5:Int) (s:(List Int)×Int):St:=⟨[(0,.ptr 0 0 0 1),(2,.ptr 1001 0 0 1),(5,.lit (.int .u64 t3)),(6,.ptr 6002 0 0 1),(7,.ptr 6003 0 0 1),(20,.agg (ar .u64 t4)),(21,I t5),(26,.ptr 0 0 0 1),(27,I s.2)],mg m5 m6 m7 m9 s.1⟩
abbrev tE (m5 m6 m7 m9:List Int) (t3:Int) (t4:List Int) (t5:Int):((List Int)×Int×Bool)→aw×St:=fun e=>(.exit 2,⟨[(0,.ptr 0 0 0 1),(2,.ptr 1001 0 0 1),(5,.lit (.int .u64 t3)),(6,.ptr 6002 0 0 1),(7,.ptr 6003 0 0 1),(20,.agg (ar .u64 t4)),(21,I t5),(26,.ptr 0 0 0 1),(27,I e.2.1),(28,B e.2.2)],mg m5 m6 m7 m9 e.1⟩)
theorem DA {m5 m6 m7 m9 t3 t4 t5 s e} (h:Loop (dQ m5 m6 m7 m9 t3 t4 t5) s=some e):aO tab ow (.close []) mo (tP m5 m6 m7 m9 t3 t4 t5 s)=some (tE m5 m6 m7 m9 t3 t4 t5 e):=by
 refine lrG (fun s o h=> ?_) h
 obtain ⟨_,_⟩:=s
 simp only [dQ] at h
 simp only [tP,tE,mg,mo]
 exact go2
def dR (m10 m11 m12 m13:List Int) (t7:Int) (t8:List Int) (t9:Int):(List Int)×Int→Option (((List Int)×Int)⊕(((List Int)×Int×Bool)))
 | (m14,t10)=>
   br (decide (t10<25)) (
   br (decide (0≤t10)&&decide (t10.toNat<25)) (
   (m10[t10.toNat]?).bind fun x4=>
   br (decide (0≤((wrap .i64 ((t10.tmod 5)+4)).tmod 5))&&decide (((wrap .i64 ((t10.tmod 5)+4)).tmod 5).toNat<5)) (
   (m13[((wrap .i64 ((t10.tmod 5)+4)).tmod 5).toNat]?).bind fun x5=>
   br (decide (0≤((wrap .i64 ((t10.tmod 5)+1)).tmod 5))&&decide (((wrap .i64 ((t10.tmod 5)+1)).tmod 5).toNat<5)) (
   (m13[((wrap .i64 ((t10.tmod 5)+1)).tmod 5).toNat]?).bind fun x6=>
   (cO x6 1).bind fun r_=>
   br (decide (0≤t10)&&decide (t10.toNat<25)) (
   (m11[t10.toNat]?).bind fun x7=>
   (cO (io .u64 x4 (io .u64 x5 r_)) x7).bind fun r_2=>
   br (decide (0≤(wrap .i64 ((wrap .i64 (t10.tdiv 5))+(wrap .i64 (5*((wrap .i64 ((wrap .i64 (2*(t10.tmod 5)))+(wrap .i64 (3*(wrap .i64 (t10.tdiv 5)))))).tmod 5))))))&&decide ((wrap .i64 ((wrap .i64 (t10.tdiv 5))+(wrap .i64 (5*((wrap .i64 ((wrap .i64 (2*(t10.tmod 5)))+(wrap .i64 (3*(wrap .i64 (t10.tdiv 5)))))).tmod 5))))).toNat<25)) (
   br (decide ((wrap .i64 ((wrap .i64 (t10.tdiv 5))+(wrap .i64 (5*((wrap .i64 ((wrap .i64 (2*(t10.tmod 5)))+(wrap .i64 (3*(wrap .i64 (t10.tdiv 5)))))).tmod 5))))).toNat<m14.length)) (
   some (.inl ((m14.set ((wrap .i64 ((wrap .i64 (t10.tdiv 5))+(wrap .i64 (5*((wrap .i64 ((wrap .i64 (2*(t10.tmod 5)))+(wrap .i64 (3*(wrap .i64 (t10.tdiv 5)))))).tmod 5))))).toNat) r_2),(wrap .i64 (t10+1))))) none) none) none) none) none) none) (
   some (.inr (m14,t10,decide (t10<25))))
abbrev lY (m10 m11 m12 m13 m14:List Int):List (Nat×Blk):=[(0,⟨25,true,[ar .u64 m10]⟩),(1001,⟨25,true,[ar .i64 m11]⟩),(2001,⟨24,true,[ar .u64 m12]⟩),(6002,⟨5,true,[ar .u64 m13]⟩),(6003,⟨25,true,[ar .u64 m14]⟩)]
abbrev tN (m10 m11 m12 m13:List Int) (t7:Int) (t8:List Int) (t9:Int) (s:(List Int)×Int):St:=⟨[(0,.ptr 0 0 0 1),(2,.ptr 1001 0 0 1),(5,.lit (.int .u64 t7)),(6,.ptr 6002 0 0 1),(7,.ptr 6003 0 0 1),(20,.agg (ar .u64 t8)),(21,I t9),(41,.ptr 0 0 0 1),(42,I s.2)],lY m10 m11 m12 m13 s.1⟩
abbrev tF (m10 m11 m12 m13:List Int) (t7:Int) (t8:List Int) (t9:Int):((List Int)×Int×Bool)→aw×St:=fun e=>(.exit 4,⟨[(0,.ptr 0 0 0 1),(2,.ptr 1001 0 0 1),(5,.lit (.int .u64 t7)),(6,.ptr 6002 0 0 1),(7,.ptr 6003 0 0 1),(20,.agg (ar .u64 t8)),(21,I t9),(41,.ptr 0 0 0 1),(42,I e.2.1),(43,B e.2.2)],lY m10 m11 m12 m13 e.1⟩)
theorem DR {m10 m11 m12 m13 t7 t8 t9 s e} (h:Loop (dR m10 m11 m12 m13 t7 t8 t9) s=some e):aO tab ow (.close [16011,17013]) kS (tN m10 m11 m12 m13 t7 t8 t9 s)=some (tF m10 m11 m12 m13 t7 t8 t9 e):=by
 refine lrG (fun s o h=> ?_) h
 obtain ⟨_,_⟩:=s
 simp only [dR] at h
 simp only [tN,tF,lY,kS]
 have d1:= @xE
 exact go2
def dN (m16 m17 m18 m19:List Int) (t11:Int) (t12:List Int) (t13:Int) (t14:List Int):(List Int)×Int→Option (((List Int)×Int)⊕(((List Int)×Int×Bool)))
 | (m15,t15)=>
   br (decide (t15<25)) (
   br (decide (0≤t15)&&decide (t15.toNat<25)) (
   (t14[t15.toNat]?).bind fun x8=>
   br (decide (0≤(wrap .i64 ((wrap .i64 (t15-(t15.tmod 5)))+((wrap .i64 ((t15.tmod 5)+2)).tmod 5))))&&decide ((wrap .i64 ((wrap .i64 (t15-(t15.tmod 5)))+((wrap .i64 ((t15.tmod 5)+2)).tmod 5))).toNat<25)) (
   (m19[(wrap .i64 ((wrap .i64 (t15-(t15.tmod 5)))+((wrap .i64 ((t15.tmod 5)+2)).tmod 5))).toNat]?).bind fun x9=>
   br (decide (0≤(wrap .i64 ((wrap .i64 (t15-(t15.tmod 5)))+((wrap .i64 ((t15.tmod 5)+1)).tmod 5))))&&decide ((wrap .i64 ((wrap .i64 (t15-(t15.tmod 5)))+((wrap .i64 ((t15.tmod 5)+1)).tmod 5))).toNat<25)) (
   (m19[(wrap .i64 ((wrap .i64 (t15-(t15.tmod 5)))+((wrap .i64 ((t15.tmod 5)+1)).tmod 5))).toNat]?).bind fun x10=>
   br (decide (0≤t15)&&decide (t15.toNat<25)) (
   br (decide (t15.toNat<m15.length)) (
   some (.inl ((m15.set t15.toNat (io .u64 x8 (Pb .u64 x9 x10))),(wrap .i64 (t15+1))))) none) none) none) none) none) (
   some (.inr (m15,t15,decide (t15<25))))
abbrev mz (m16 m17 m18 m19 m15:List Int):List (Nat×Blk):=[(0,⟨25,true,[ar .u64 m15]⟩),(1001,⟨25,true,[ar .i64 m16]⟩),(2001,⟨24,true,[ar .u64 m17]⟩),(6002,⟨5,true,[ar .u64 m18]⟩),(6003,⟨25,true,[ar .u64 m19]⟩)]
abbrev tA (m16 m17 m18 m19:List Int) (t11:Int) (t12:List Int) (t13:Int) (t14:List Int) (s:(List Int)×Int):St:=⟨[(0,.ptr 0 0 0 1),(2,.ptr 1001 0 0 1),(5,.lit (.int .u64 t11)),(7,.ptr 6003 0 0 1),(20,.agg (ar .u64 t12)),(21,I t13),(82,.agg (ar .u64 t14)),(83,I s.2)],mz m16 m17 m18 m19 s.1⟩
abbrev tX (m16 m17 m18 m19:List Int) (t11:Int) (t12:List Int) (t13:Int) (t14:List Int):((List Int)×Int×Bool)→aw×St:=fun e=>(.exit 6,⟨[(0,.ptr 0 0 0 1),(2,.ptr 1001 0 0 1),(5,.lit (.int .u64 t11)),(7,.ptr 6003 0 0 1),(20,.agg (ar .u64 t12)),(21,I t13),(82,.agg (ar .u64 t14)),(83,I e.2.1),(84,B e.2.2)],mz m16 m17 m18 m19 e.1⟩)
theorem DT {m16 m17 m18 m19 t11 t12 t13 t14 s e} (h:Loop (dN m16 m17 m18 m19 t11 t12 t13 t14) s=some e):aO tab ow (.close []) lm (tA m16 m17 m18 m19 t11 t12 t13 t14 s)=some (tX m16 m17 m18 m19 t11 t12 t13 t14 e):=by
 refine lrG (fun s o h=> ?_) h
 obtain ⟨_,_⟩:=s
 simp only [dN] at h
 simp only [tA,tX,mz,lm]
 exact go2
def dS (m3 m4 t:List Int):(List Int)×Int→Option (((List Int)×Int)⊕(((List Int)×Int×Bool)))
 | (m2,t2)=>
   br (decide (t2<24)) (
   br (decide (0≤t2)&&decide (t2.toNat<24)) (
   (t[t2.toNat]?).bind fun x=>
   (Loop (dQ m2 m3 m4 (nZ 25) x t t2) ((nZ 5),0)).bind fun e_=>
   (Loop (dR m2 m3 m4 e_.1 x t t2) ((nZ 25),0)).bind fun e_2=>
   br (decide (e_2.1.length=25)) (
   (Loop (dN m3 m4 e_.1 e_2.1 x t t2 e_2.1) (m2,0)).bind fun e_3=>
   (e_3.1[0]?).bind fun x11=>
   br (decide (0<e_3.1.length)) (
   some (.inl ((e_3.1.set 0 (io .u64 x11 x)),(wrap .i64 (t2+1))))) none) none) none) (
   some (.inr (m2,t2,decide (t2<24))))
abbrev mm (m3 m4 m2:List Int):List (Nat×Blk):=[(0,⟨25,true,[ar .u64 m2]⟩),(1001,⟨25,true,[ar .i64 m3]⟩),(2001,⟨24,true,[ar .u64 m4]⟩)]
abbrev tZ (m3 m4 t:List Int) (s:(List Int)×Int):St:=⟨[(0,.ptr 0 0 0 1),(2,.ptr 1001 0 0 1),(20,.agg (ar .u64 t)),(21,I s.2)],mm m3 m4 s.1⟩
abbrev tT (m3 m4 t:List Int):((List Int)×Int×Bool)→aw×St:=fun e=>(.exit 0,⟨[(0,.ptr 0 0 0 1),(2,.ptr 1001 0 0 1),(20,.agg (ar .u64 t)),(21,I e.2.1),(22,B e.2.2)],mm m3 m4 e.1⟩)
theorem DW {m3 m4 t s e} (h:Loop (dS m3 m4 t) s=some e):aO tab ow (.close [6002,6003,16011,17013]) mc (tZ m3 m4 t s)=some (tT m3 m4 t e):=by
 refine lrG (fun s o h=> ?_) h
 obtain ⟨_,_⟩:=s
 simp only [dS] at h
 simp only [tZ,tT,mm,mc]
 have d1:= @DA
 have d2:= @DR
 have d3:= @DT
 exact go2
def jF (m:List Int):Option ((List Int)):=
 (Loop (dS ([0,1,62,28,27,36,44,6,55,20,3,10,43,25,39,41,45,15,21,8,18,2,61,56,14]:List Int) ([1,32898,9223372036854808714,9223372039002292224,32907,2147483649,9223372039002292353,9223372036854808585,138,136,2147516425,2147483658,2147516555,9223372036854775947,9223372036854808713,9223372036854808579,9223372036854808578,9223372036854775936,32778,9223372039002259466,9223372039002292353,9223372036854808704,2147483649,9223372039002292232]:List Int) ([1,32898,9223372036854808714,9223372039002292224,32907,2147483649,9223372039002292353,9223372036854808585,138,136,2147516425,2147483658,2147516555,9223372036854775947,9223372036854808713,9223372036854808579,9223372036854808578,9223372036854775936,32778,9223372039002259466,9223372039002292353,9223372036854808704,2147483649,9223372039002292232]:List Int)) (m,0)).bind fun e_4=>
 some e_4.1
theorem Gw {m r} (h:jF m=some r):Call tab ow 345 [.ptr 0 0 0 1] [⟨25,true,[ar .u64 m]⟩]=some (.tup [],[⟨25,true,[ar .u64 r]⟩]):=by
 rw [ag (af:=jX) rfl]
 unfold jF at h
 simp only [jX,xu]
 have d1:= @DW
 exact go2
section
theorem LJ:mkR 2000 []=rws eU8 []:=rfl
attribute [local go_sem] LJ
theorem LI:mkR 6012 []=rws eU8 []:=rfl
attribute [local go_sem] LI
def fY (m2:List Int):(List UInt8)×Int→Option (((List UInt8)×Int)⊕(((List UInt8)×Int×Bool)))
 | (l,t)=>
   br (decide (t<200)) (
   br (decide (0≤(wrap .i64 (t.tdiv 8)))&&decide ((wrap .i64 (t.tdiv 8)).toNat<25)) (
   (m2[(wrap .i64 (t.tdiv 8)).toNat]?).bind fun x=>
   br (decide (0≤(wrap .i64 (8*(t.tmod 8))))) (
   br (aB ((l++([(UInt8.ofInt (bA .u64 x (wrap .i64 (8*(t.tmod 8)))))]:List UInt8)).length) 1) (
   some (.inl ((l++([(UInt8.ofInt (bA .u64 x (wrap .i64 (8*(t.tmod 8)))))]:List UInt8)),(wrap .i64 (t+1))))) none) none) none) (
   some (.inr (l,t,decide (t<200))))
abbrev qQ (m2:List Int) (l:List UInt8):List (Nat×Blk):=[(0,⟨25,true,[ar .u64 m2]⟩),(2000,⟨1,false,rws eU8 l⟩)]
abbrev yO (m2:List Int) (s:(List UInt8)×Int):St:=⟨[(0,.ptr 0 0 0 1),(3,.sl 2000 0 s.1.length),(6,I s.2)],qQ m2 s.1⟩
abbrev yT (m2:List Int):((List UInt8)×Int×Bool)→aw×St:=fun e=>(.exit 0,⟨[(0,.ptr 0 0 0 1),(3,.sl 2000 0 e.1.length),(6,I e.2.1),(7,B e.2.2)],qQ m2 e.1⟩)
theorem Jw {m2 s e} (h:Loop (fY m2) s=some e):aO tab ow (.close [6012,6013]) yX (yO m2 s)=some (yT m2 e):=by
 refine lrG (fun s o h=> ?_) h
 obtain ⟨_,_⟩:=s
 simp only [fY] at h
 simp only [yO,yT,qQ,yX,yZ]
 exact go2
def ot (m:List Int):Option ((List UInt8)×(List Int)):=
 (Loop (fY m) (([]:List UInt8),0)).bind fun e_=>
 some (e_.1,m)
theorem Oh {m r} (h:ot m=some r):Call tab ow 346 [.ptr 0 0 0 1] [⟨25,true,[ar .u64 m]⟩]=some (sl eU8 r.1,[⟨25,true,[ar .u64 r.2]⟩]):=by
 rw [ag (af:=oB) rfl]
 unfold ot at h
 simp only [oB,vx]
 have d1:= @Jw
 exact go2
end
section
theorem VE:mkR 2000 []=rws eU8 []:=rfl
attribute [local go_sem] VE
theorem XG:mkR 8001 []=rws eU8 []:=rfl
attribute [local go_sem] XG
theorem XQ:mkR 10001 []=rws eU8 []:=rfl
attribute [local go_sem] XQ
def lu (t:List (List UInt8)) (t2:Int):(List UInt8)×Int→Option (((List UInt8)×Int)⊕(((List UInt8)×Int×Bool)))
 | (l,t3)=>
   br (decide (t3<t2)) (
   (atL t t3).bind fun x=>
   br (aB ((l++x).length) 1) (
   some (.inl ((l++x),(wrap .i64 (t3+1))))) none) (
   some (.inr (l,t3,decide (t3<t2))))
abbrev HW (t:List (List UInt8)) (t2:Int) (s:(List UInt8)×Int):St:=⟨[(3,.sl 2000 0 s.1.length),(10,sl (eL eU8) t),(11,I t2),(12,I s.2)],[(2000,⟨1,false,rws eU8 s.1⟩)]⟩
abbrev HA (t:List (List UInt8)) (t2:Int):((List UInt8)×Int×Bool)→aw×St:=fun e=>(.exit 0,⟨[(3,.sl 2000 0 e.1.length),(10,sl (eL eU8) t),(11,I t2),(12,I e.2.1),(13,B e.2.2)],[(2000,⟨1,false,rws eU8 e.1⟩)]⟩)
theorem SW {t t2 s e} (h:Loop (lu t t2) s=some e):aO tab ow (.close [6002]) Af (HW t t2 s)=some (HA t t2 e):=by
 refine lrG (fun s o h=> ?_) h
 obtain ⟨_,_⟩:=s
 simp only [lu] at h
 simp only [HW,HA,Af]
 exact go2
def ju (l3:List UInt8):(List UInt8)→Option (((List UInt8))⊕(((List UInt8)×Bool)))
 |l2=>
  br ((((l2.length:Nat):Int).tmod 136) !=0) (
  br (aB ((l2++([(0:UInt8)]:List UInt8)).length) 1) (
  some (.inl (l2++([(0:UInt8)]:List UInt8)))) none) (
  some (.inr (l2,((((l2.length:Nat):Int).tmod 136) !=0))))
abbrev zh (l3 l2:List UInt8):List (Nat×Blk):=[(2000,⟨1,false,rws eU8 l2⟩),(8001,⟨1,false,rws eU8 l3⟩)]
abbrev HQ (l3:List UInt8) (s:(List UInt8)):St:=⟨[(3,.sl 2000 0 s.length)],zh l3 s⟩
abbrev HN (l3:List UInt8):((List UInt8)×Bool)→aw×St:=fun e=>(.exit 2,⟨[(3,.sl 2000 0 e.1.length),(26,B e.2)],zh l3 e.1⟩)
theorem T4 {l3 s e} (h:Loop (ju l3) s=some e):aO tab ow (.close [10001,10002]) zO (HQ l3 s)=some (HN l3 e):=by
 refine lrG (fun s o h=> ?_) h
 simp only [ju] at h
 simp only [HQ,HN,zh,zO]
 exact go2
def lS (l5 all2:List UInt8) (t4:List Int):(List Int)×Int→Option (((List Int)×Int)⊕(((List Int)×Int×Bool)))
 | (m2,t5)=>
   br (decide (t5<25)) (
   br (decide (0≤t5)&&decide (t5.toNat<25)) (
   (t4[t5.toNat]?).bind fun x4=>
   br (decide (0≤t5)&&decide (t5.toNat<25)) (
   (m2[t5.toNat]?).bind fun x5=>
   br (decide (0≤t5)&&decide (t5.toNat<25)) (
   br (decide (t5.toNat<m2.length)) (
   some (.inl ((m2.set t5.toNat (io .u64 x5 x4)),(wrap .i64 (t5+1))))) none) none) none) none) (
   some (.inr (m2,t5,decide (t5<25))))
abbrev zu (l5:List UInt8) (m2:List Int):List (Nat×Blk):=[(8001,⟨1,false,rws eU8 l5⟩),(12001,⟨25,true,[ar .u64 m2]⟩)]
abbrev IT (l5 all2:List UInt8) (t4:List Int) (s:(List Int)×Int):St:=⟨[(3,sl eU8 all2),(6,.ptr 12001 0 0 1),(46,.agg (ar .u64 t4)),(47,I s.2)],zu l5 s.1⟩
abbrev HZ (l5 all2:List UInt8) (t4:List Int):((List Int)×Int×Bool)→aw×St:=fun e=>(.exit 6,⟨[(3,sl eU8 all2),(6,.ptr 12001 0 0 1),(46,.agg (ar .u64 t4)),(47,I e.2.1),(48,B e.2.2)],zu l5 e.1⟩)
theorem SL {l5 all2 t4 s e} (h:Loop (lS l5 all2 t4) s=some e):aO tab ow (.close []) yc (IT l5 all2 t4 s)=some (HZ l5 all2 t4 e):=by
 refine lrG (fun s o h=> ?_) h
 obtain ⟨_,_⟩:=s
 simp only [lS] at h
 simp only [IT,HZ,zu,yc]
 exact go2
def lJ (l4:List UInt8):(List Int)×(List UInt8)→Option (((List Int)×(List UInt8))⊕(((List Int)×(List UInt8)×Bool)))
 | (m,all)=>
   br (decide (((all.length:Nat):Int)>0)) (
   (nL all 0 136).bind fun y=>
   (yv y).bind fun r_=>
   (Loop (lS l4 all r_) (m,0)).bind fun e_3=>
   (jF e_3.1).bind fun r_2=>
   (nL all 136 ((all.length:Nat):Int)).bind fun y2=>
   some (.inl (r_2,y2))) (
   some (.inr (m,all,decide (((all.length:Nat):Int)>0))))
abbrev uf (l4:List UInt8) (m:List Int):List (Nat×Blk):=[(8001,⟨1,false,rws eU8 l4⟩),(12001,⟨25,true,[ar .u64 m]⟩)]
abbrev zV (l4:List UInt8) (s:(List Int)×(List UInt8)):St:=⟨[(3,sl eU8 s.2),(6,.ptr 12001 0 0 1)],uf l4 s.1⟩
abbrev HG (l4:List UInt8):((List Int)×(List UInt8)×Bool)→aw×St:=fun e=>(.exit 4,⟨[(3,sl eU8 e.2.1),(6,.ptr 12001 0 0 1),(41,B e.2.2)],uf l4 e.1⟩)
theorem Uk {l4 s e} (h:Loop (lJ l4) s=some e):aO tab ow (.close [15002,20000,2000]) xP (zV l4 s)=some (HG l4 e):=by
 refine lrG (fun s o h=> ?_) h
 obtain ⟨_,_⟩:=s
 simp only [lJ] at h
 simp only [zV,HG,uf,xP]
 have d1:= @XX
 have d2:= @SL
 have d3:= @Gw
 exact go2
def ph (pieces:(List (List UInt8))):Option ((List UInt8)):=
 (Loop (lu pieces ((pieces.length:Nat):Int)) (([]:List UInt8),0)).bind fun e_=>
 br (aB ((e_.1++([(1:UInt8)]:List UInt8)).length) 1) (
 (Loop (ju ([(1:UInt8)]:List UInt8)) (e_.1++([(1:UInt8)]:List UInt8))).bind fun e_2=>
 br (decide (0≤(wrap .i64 (((e_2.1.length:Nat):Int)-1)))) (
 br (decide ((wrap .i64 (((e_2.1.length:Nat):Int)-1)).toNat<e_2.1.length)) (
 (e_2.1[(wrap .i64 (((e_2.1.length:Nat):Int)-1)).toNat]?).bind fun x2=>
 br (decide (0≤(wrap .i64 (((e_2.1.length:Nat):Int)-1)))) (
 br (decide ((wrap .i64 (((e_2.1.length:Nat):Int)-1)).toNat<e_2.1.length)) (
 (e_2.1[(wrap .i64 (((e_2.1.length:Nat):Int)-1)).toNat]?).bind fun x3=>
 (Loop (lJ ([(1:UInt8)]:List UInt8)) ((nZ 25),(e_2.1.set ((wrap .i64 (((e_2.1.length:Nat):Int)-1)).toNat) (UInt8.ofInt (ui .u8 (x2.toNat:Int) 128))))).bind fun e_4=>
 (ot e_4.1).bind fun r_3=>
 (nL r_3.1 0 32).bind fun y3=>
 some y3) none) none) none) none) none
theorem wc {pieces r} (h:ph pieces=some r):Call tab ow 284 [sl (eL eU8) pieces] []=some (S r,[]):=by
 rw [ag (af:=zI) rfl]
 unfold ph at h
 simp only [zI,NS]
 have d1:= @SW
 have d2:= @T4
 have d3:= @Uk
 simp only [zV,uf] at d3
 have d4:= @Oh
 exact go2
end
section
theorem UO:mkR 2002 []=rws (eL eU8) []:=rfl
attribute [local go_sem] UO
def yY (t:(List UInt8)):Option ((List UInt8)):=
 br (aB t.length 1) (
 (ph ([t]:List (List UInt8))).bind fun r_=>
 some r_) none
theorem Pc {t r} (h:yY t=some r):Call tab ow 168 [S t] []=some (S r,[]):=by
 rw [ag (af:=Ah) rfl]
 unfold yY at h
 simp only [Ah,On]
 have d1:= @wc
 exact go2
end
def Cf (g:ah) (below:Int):Option (Bool):=
 br (g.Op==3) (
 (nW g.K).bind fun r_=>
 (gK g.Op 1 8).bind fun r_2=>
 br r_2 (
 br (g.A==0) (
 br (g.B==0) (
 some r_) (
 some false)) (
 some false)) (
 some false)) (
 br (g.Op==4) (
 br (g.Op==4) (
 (gK g.A 0 (wrap .i64 (below-1))).bind fun r_3=>
 (gK g.B 0 (wrap .i64 (below-1))).bind fun r_4=>
 (gK g.Op 1 8).bind fun r_5=>
 br r_5 (
 br r_3 (
 br r_4 (
 some (g.K==0)) (
 some false)) (
 some false)) (
 some false)) (
 br (g.Op==8) (
 (gK g.A 0 (wrap .i64 (below-1))).bind fun r_6=>
 (gK g.Op 1 8).bind fun r_7=>
 br r_7 (
 br r_6 (
 br (g.B==0) (
 some (g.K==0)) (
 some false)) (
 some false)) (
 some false)) (
 (gK g.Op 1 8).bind fun r_8=>
 br r_8 (
 br (g.A==0) (
 br (g.B==0) (
 some (g.K==0)) (
 some false)) (
 some false)) (
 some false)))) (
 br (g.Op==5) (
 br (g.Op==5) (
 (gK g.A 0 (wrap .i64 (below-1))).bind fun r_9=>
 (gK g.B 0 (wrap .i64 (below-1))).bind fun r_10=>
 (gK g.Op 1 8).bind fun r_11=>
 br r_11 (
 br r_9 (
 br r_10 (
 some (g.K==0)) (
 some false)) (
 some false)) (
 some false)) (
 br (g.Op==8) (
 (gK g.A 0 (wrap .i64 (below-1))).bind fun r_12=>
 (gK g.Op 1 8).bind fun r_13=>
 br r_13 (
 br r_12 (
 br (g.B==0) (
 some (g.K==0)) (
 some false)) (
 some false)) (
 some false)) (
 (gK g.Op 1 8).bind fun r_14=>
 br r_14 (
 br (g.A==0) (
 br (g.B==0) (
 some (g.K==0)) (
 some false)) (
 some false)) (
 some false)))) (
 br (g.Op==6) (
 br (g.Op==6) (
 (gK g.A 0 (wrap .i64 (below-1))).bind fun r_15=>
 (gK g.B 0 (wrap .i64 (below-1))).bind fun r_16=>
 (gK g.Op 1 8).bind fun r_17=>
 br r_17 (
 br r_15 (
 br r_16 (
 some (g.K==0)) (
 some false)) (
 some false)) (
 some false)) (
 br (g.Op==8) (
 (gK g.A 0 (wrap .i64 (below-1))).bind fun r_18=>
 (gK g.Op 1 8).bind fun r_19=>
 br r_19 (
 br r_18 (
 br (g.B==0) (
 some (g.K==0)) (
 some false)) (
 some false)) (
 some false)) (
 (gK g.Op 1 8).bind fun r_20=>
 br r_20 (
 br (g.A==0) (
 br (g.B==0) (
 some (g.K==0)) (
 some false)) (
 some false)) (
 some false)))) (
 br (g.Op==7) (
 (gK g.A 0 (wrap .i64 (below-1))).bind fun r_21=>
 (gK g.B 0 (wrap .i64 (below-1))).bind fun r_22=>
 (gK g.Op 1 8).bind fun r_23=>
 br r_23 (
 br r_21 (
 br r_22 (
 some (g.K==0)) (
 some false)) (
 some false)) (
 some false)) (
 br (g.Op==8) (
 (gK g.A 0 (wrap .i64 (below-1))).bind fun r_24=>
 (gK g.Op 1 8).bind fun r_25=>
 br r_25 (
 br r_24 (
 br (g.B==0) (
 some (g.K==0)) (
 some false)) (
 some false)) (
 some false)) (
 (gK g.Op 1 8).bind fun r_26=>
 br r_26 (
 br (g.A==0) (
 br (g.B==0) (
 some (g.K==0)) (
 some false)) (
 some false)) (
 some false)))))))
theorem ZX {g below r} (h:Cf g below=some r):Call tab ow 127 [.agg [I g.Op,I g.A,I g.B,I g.K],I below] []=some (B r,[]):=by
 rw [ag (af:=Ao) rfl]
 unfold Cf at h
 simp only [Ao,P2]
 have d1:= @Cp
 have d2:= @xU
 exact go2
def de (op2:Int) (t:List ah) (t2:Int) (c2:List ah):Int×Int→Option ((Int×Int)⊕((Int×Int×Bool)))
 | (count,t3)=>
   br (decide (t3<t2)) (
   (atL t t3).bind fun x=>
   br (x.Op==op2) (
   some (.inl ((wrap .i64 (count+1)),(wrap .i64 (t3+1))))) (
   some (.inl (count,(wrap .i64 (t3+1)))))) (
   some (.inr (count,t3,decide (t3<t2))))
abbrev py (op2:Int) (t:List ah) (t2:Int) (c2:List ah) (s:Int×Int):St:=⟨[(1,I op2),(5,I s.1),(9,sl bp t),(10,I t2),(11,I s.2)],[(1000,⟨1,true,[[sl bp c2]]⟩)]⟩
abbrev pD (op2:Int) (t:List ah) (t2:Int) (c2:List ah):(Int×Int×Bool)→aw×St:=fun e=>(.exit 0,⟨[(1,I op2),(5,I e.1),(9,sl bp t),(10,I t2),(11,I e.2.1),(12,B e.2.2)],[(1000,⟨1,true,[[sl bp c2]]⟩)]⟩)
theorem Bq {op2 t t2 c2 s e} (h:Loop (de op2 t t2 c2) s=some e):aO tab ow (.close [5002]) pI (py op2 t t2 c2 s)=some (pD op2 t t2 c2 e):=by
 refine lrG (fun s o h=> ?_) h
 obtain ⟨_,_⟩:=s
 simp only [de] at h
 simp only [py,pD,pI,px]
 exact go2
def da (c:Circuit) (op:Int):Option (Int):=
 (Loop (de op c.Gates ((c.Gates.length:Nat):Int) c.Gates) (0,0)).bind fun e_=>
 some e_.1
theorem my {c op r} (h:da c op=some r):Call tab ow 128 [.agg [sl bp c.Gates],I op] []=some (I r,[]):=by
 rw [ag (af:=iu) rfl]
 unfold da at h
 simp only [iu,md]
 have d1:= @Bq
 exact go2
def dn (t:List ah) (t2:Int) (c2:List ah):Int→Option ((Int)⊕((Int×Int×Int×Int)⊕(Int×Bool)))
 |t3=>
  br (decide (t3<t2)) (
  (atL t t3).bind fun x=>
  (Cf x t3).bind fun r_2=>
  br (!r_2) (
  some (.inr (.inl (x.Op,x.A,x.B,x.K)))) (
  some (.inl (wrap .i64 (t3+1))))) (
  some (.inr (.inr (t3,decide (t3<t2)))))
abbrev AR (t:List ah) (t2:Int) (c2:List ah) (s:Int):St:=⟨[(1,.ptr 1000 0 0 1),(11,sl bp t),(12,I t2),(13,I s)],[(1000,⟨1,true,[[sl bp c2]]⟩)]⟩
abbrev Bd (t:List ah) (t2:Int) (c2:List ah):((Int×Int×Int×Int)⊕(Int×Bool))→aw×St:=alt (fun e=>((.ret,⟨[(2,B false)],[(1000,⟨1,true,[[sl bp c2]]⟩),(6003,⟨4,true,[[I e.1,I e.2.1,I e.2.2.1,I e.2.2.2]]⟩)]⟩):aw×St)) (fun e=>(.exit 0,⟨[(1,.ptr 1000 0 0 1),(11,sl bp t),(12,I t2),(13,I e.1),(14,B e.2)],[(1000,⟨1,true,[[sl bp c2]]⟩)]⟩))
theorem LX {t t2 c2 s e} (h:Loop (dn t t2 c2) s=some e):aO tab ow (.close [6003,7002]) B6 (AR t t2 c2 s)=some (Bd t t2 c2 e):=by
 refine lrG (fun s o h=> ?_) h
 simp only [dn] at h
 simp only [AR,Bd,B6,AW]
 have d1:= @ZX
 exact go2
def o6 (c:Circuit):Option (Bool):=
 (gK ((c.Gates.length:Nat):Int) 1 15).bind fun r_=>
 br (!r_) (
 some false) (
 (Loop (dn c.Gates ((c.Gates.length:Nat):Int) c.Gates) 0).bind (alt (fun e_2=>
 some false) (fun e_3=>
 (da c 2).bind fun r_3=>
 some (decide (r_3≤7)))))
theorem Ef {c r} (h:o6 c=some r):Call tab ow 36 [.agg [sl bp c.Gates]] []=some (B r,[]):=by
 rw [ag (af:=rA) rfl]
 unfold o6 at h
 simp only [rA,ya]
 have d1:= @xU
 have d2:= @LX
 have d3:= @my
 exact go2
def fq (x:Int):Option (Bool):=
 (nW x).bind fun r_=>
 some (!r_)
theorem Bp {x r} (h:fq x=some r):Call tab ow 248 [I x,.ptr 0 0 0 1] [⟨1,true,[[.fn 132 []]]⟩]=some (B r,[⟨1,true,[[.fn 132 []]]⟩]):=by
 rw [ag (af:=rb) rfl]
 unfold fq at h
 simp only [rb,Ep]
 have d1:= @Cp
 exact go2
def bn (s2:List Int) (t:Int):Int→Option ((Int)⊕(Int⊕(Int×Bool)))
 |t2=>
  br (decide (t2<t)) (
  (atL s2 t2).bind fun x=>
  (fq x).bind fun r_=>
  br r_ (
  some (.inr (.inl t2))) (
  some (.inl (wrap .i64 (t2+1))))) (
  some (.inr (.inr (t2,decide (t2<t)))))
abbrev cZ (s2:List Int) (t s:Int):St:=⟨[(0,sl eI s2),(1,.fn 248 [.ptr 0 0 0 1]),(7,I t),(8,I s)],[(0,⟨1,true,[[.fn 132 []]]⟩)]⟩
abbrev dc (s2:List Int) (t:Int):(Int⊕(Int×Bool))→aw×St:=alt (fun e=>((.ret,⟨[(4,I e)],[(0,⟨1,true,[[.fn 132 []]]⟩)]⟩):aw×St)) (fun e=>(.exit 0,⟨[(0,sl eI s2),(1,.fn 248 [.ptr 0 0 0 1]),(7,I t),(8,I e.1),(9,B e.2)],[(0,⟨1,true,[[.fn 132 []]]⟩)]⟩))
theorem gV {s2 t s e} (h:Loop (bn s2 t) s=some e):aO tab ow (.close [5005]) iW (cZ s2 t s)=some (dc s2 t e):=by
 refine lrG (fun s o h=> ?_) h
 simp only [bn] at h
 simp only [cZ,dc,iW,j3]
 have d1:= @Bp
 exact go2
def bB (s:(List Int)):Option (Int):=
 (Loop (bn s ((s.length:Nat):Int)) 0).bind (alt (fun e_2=>
 some e_2) (fun e_3=>
 some (-1:Int)))
theorem iq {s r} (h:bB s=some r):Call tab ow 335 [sl eI s,.fn 248 [.ptr 0 0 0 1]] [⟨1,true,[[.fn 132 []]]⟩]=some (I r,[⟨1,true,[[.fn 132 []]]⟩]):=by
 rw [ag (af:=dC) rfl]
 unfold bB at h
 simp only [dC,fA]
 have d1:= @gV
 exact go2
def bq (s:(List Int)):Option (Bool):=
 (bB s).bind fun r_=>
 some (decide (r_≥0))
theorem gL {s r} (h:bq s=some r):Call tab ow 247 [sl eI s,.fn 248 [.ptr 0 0 0 1]] [⟨1,true,[[.fn 132 []]]⟩]=some (B r,[⟨1,true,[[.fn 132 []]]⟩]):=by
 rw [ag (af:=cP) rfl]
 unfold bq at h
 simp only [cP,iH]
 have d1:= @iq
 exact go2
def bS (list:(List Int)):Option (Bool):=
 (bq list).bind fun r_=>
 some (!r_)
theorem ft {list r} (h:bS list=some r):Call tab ow 131 [.fn 132 [],sl eI list] []=some (B r,[]):=by
 rw [ag (af:=wA) rfl]
 unfold bS at h
 simp only [wA,KZ]
 have d1:= @gL
 exact go2
def uP (c:Circuit) (publics inputs:(List Int)):Option (Int):=
 br (decide (((publics.length:Nat):Int)>4096)) (
 some 2) (
 br (decide (((inputs.length:Nat):Int)>4096)) (
 some 2) (
 (o6 c).bind fun r_=>
 br (!r_) (
 some 19) (
 (bS publics).bind fun r_2=>
 br (!r_2) (
 some 1) (
 (bS inputs).bind fun r_3=>
 br (!r_3) (
 some 1) (
 (da c 2).bind fun r_4=>
 br (((publics.length:Nat):Int) !=r_4) (
 some 8) (
 (da c 1).bind fun r_5=>
 br (((inputs.length:Nat):Int) !=r_5) (
 some 8) (
 some 0)))))))
theorem L4 {c publics inputs r} (h:uP c publics inputs=some r):Call tab ow 76 [.agg [sl bp c.Gates],sl eI publics,sl eI inputs] []=some (I r,[]):=by
 rw [ag (af:=wB) rfl]
 unfold uP at h
 simp only [wB,KJ]
 have d1:= @Ef
 have d2:= @ft
 have d3:= @my
 exact go2
def nY (t:Setting):Option (Bool):=
 (gK t.Rate 1 3).bind fun r_=>
 br r_ (
 (gK t.Queries 1 8).bind fun r_2=>
 br r_2 (
 (gK t.Grind 0 12).bind fun r_3=>
 some r_3) (
 some false)) (
 some false)
theorem Et {t r} (h:nY t=some r):Call tab ow 77 [.agg [I t.Rate,I t.Queries,I t.Grind]] []=some (B r,[]):=by
 rw [ag (af:=rf) rfl]
 unfold nY at h
 simp only [rf,Er]
 have d1:= @xU
 exact go2
def Cz (h_:(List UInt8)):Option (Bool):=
 some (((h_.length:Nat):Int)==32)
theorem YP {h_ r} (h:Cz h_=some r):Call tab ow 119 [S h_] []=some (B r,[]):=by
 rw [ag (af:=A8) rfl]
 unfold Cz at h
 simp only [A8,OV]
 exact go2
def nN (s:Source):Option (Bool):=
 br (decide (((s.Script.length:Nat):Int)≤64)) (
 (i7 s.Script).bind fun r_=>
 br r_ (
 (Cz s.State).bind fun r_2=>
 br r_2 (
 (gK s.At 0 1000000).bind fun r_3=>
 br r_3 (
 (gK s.Count 0 1000000).bind fun r_4=>
 some r_4) (
 some false)) (
 some false)) (
 some false)) (
 some false)
theorem Iy {s r} (h:nN s=some r):Call tab ow 78 [.agg [sl ak s.Script,I s.At,S s.State,I s.Count]] []=some (B r,[]):=by
 rw [ag (af:=ua) rfl]
 unfold nN at h
 simp only [ua,Hk]
 have d1:= @DU
 have d2:= @YP
 have d3:= @xU
 exact go2
def ib (s:Source):Option (Int):=
 some (wrap .i64 (1000000-(mx s.At s.Count)))
theorem Ba {s r} (h:ib s=some r):Call tab ow 79 [.agg [sl ak s.Script,I s.At,S s.State,I s.Count]] []=some (I r,[]):=by
 rw [ag (af:=nh) rfl]
 unfold ib at h
 simp only [nh,AU]
 exact go2
def Cq (a b:Int):Option (Int):=
 some ((wrap .i64 (a+b)).tmod 2130706433)
theorem H3 {a b r} (h:Cq a b=some r):Call tab ow 164 [I a,I b] []=some (I r,[]):=by
 rw [ag (af:=Ml) rfl]
 unfold Cq at h
 simp only [Ml,a1q]
 exact go2
def Mo (a b:Int):Option (Int):=
 some ((wrap .i64 ((wrap .i64 (a-b))+2130706433)).tmod 2130706433)
theorem a1J {a b r} (h:Mo a b=some r):Call tab ow 170 [I a,I b] []=some (I r,[]):=by
 rw [ag (af:=M9) rfl]
 unfold Mo at h
 simp only [M9,a1I]
 exact go2
def mK (a b:Int):Option (Int):=
 some ((wrap .i64 (a*b)).tmod 2130706433)
theorem uB {a b r} (h:mK a b=some r):Call tab ow 171 [I a,I b] []=some (I r,[]):=by
 rw [ag (af:=Ma) rfl]
 unfold mK at h
 simp only [Ma,a1n]
 exact go2
end
end Go.AI.Fn
set_option linter.unusedVariables false
set_option linter.unusedSimpArgs false
set_option maxRecDepth 100000
set_option maxHeartbeats 1000000
namespace Go.AI.Fn
noncomputable section
open IntKind (wrap)
section
theorem Ja:mkR 2000 []=rws eI []:=rfl
attribute [local go_sem] Ja
theorem K6:mkR 23002 []=rws eI []:=rfl
attribute [local go_sem] K6
def dJ (t3:List ah) (t4:Int) (c:List ah):(List Int)×(List Int)×(List Int)×Int→Option (((List Int)×(List Int)×(List Int)×Int)⊕(((List Int)×Int×Int×Int×Int)⊕((List Int)×(List Int)×(List Int)×Int×Bool)))
 | (l,t,t2,t5)=>
   br (decide (t5<t4)) (
   (atL t3 t5).bind fun x=>
   br (x.Op==1) (
   (atL t2 0).bind fun x2=>
   (nL t2 1 ((t2.length:Nat):Int)).bind fun y=>
   br (aB ((l++([x2]:List Int)).length) 8) (
   some (.inl ((l++([x2]:List Int)),t,y,(wrap .i64 (t5+1))))) none) (
   br (x.Op==2) (
   (atL t 0).bind fun x3=>
   (nL t 1 ((t.length:Nat):Int)).bind fun y2=>
   br (aB ((l++([x3]:List Int)).length) 8) (
   some (.inl ((l++([x3]:List Int)),y2,t2,(wrap .i64 (t5+1))))) none) (
   br (x.Op==4) (
   br (decide (0≤x.A)) (
   br (decide (x.A.toNat<l.length)) (
   (l[x.A.toNat]?).bind fun x4=>
   br (decide (0≤x.B)) (
   br (decide (x.B.toNat<l.length)) (
   (l[x.B.toNat]?).bind fun x5=>
   (Cq x4 x5).bind fun r_=>
   br (aB ((l++([r_]:List Int)).length) 8) (
   some (.inl ((l++([r_]:List Int)),t,t2,(wrap .i64 (t5+1))))) none) none) none) none) none) (
   br (x.Op==5) (
   br (decide (0≤x.A)) (
   br (decide (x.A.toNat<l.length)) (
   (l[x.A.toNat]?).bind fun x6=>
   br (decide (0≤x.B)) (
   br (decide (x.B.toNat<l.length)) (
   (l[x.B.toNat]?).bind fun x7=>
   (Mo x6 x7).bind fun r_2=>
   br (aB ((l++([r_2]:List Int)).length) 8) (
   some (.inl ((l++([r_2]:List Int)),t,t2,(wrap .i64 (t5+1))))) none) none) none) none) none) (
   br (x.Op==6) (
   br (decide (0≤x.A)) (
   br (decide (x.A.toNat<l.length)) (
   (l[x.A.toNat]?).bind fun x8=>
   br (decide (0≤x.B)) (
   br (decide (x.B.toNat<l.length)) (
   (l[x.B.toNat]?).bind fun x9=>
   (mK x8 x9).bind fun r_3=>
   br (aB ((l++([r_3]:List Int)).length) 8) (
   some (.inl ((l++([r_3]:List Int)),t,t2,(wrap .i64 (t5+1))))) none) none) none) none) none) (
   br (x.Op==7) (
   br (x.Op==7) (
   br (decide (0≤x.A)) (
   br (decide (x.A.toNat<l.length)) (
   (l[x.A.toNat]?).bind fun x10=>
   br (x.Op==7) (
   br (decide (0≤x.B)) (
   br (decide (x.B.toNat<l.length)) (
   (l[x.B.toNat]?).bind fun x11=>
   br (x10 !=x11) (
   some (.inr (.inl (l,x.Op,x.A,x.B,x.K)))) (
   br (x.Op==8) (
   br (decide (x10>1)) (
   some (.inr (.inl (l,x.Op,x.A,x.B,x.K)))) (
   br (aB ((l++([x10]:List Int)).length) 8) (
   some (.inl ((l++([x10]:List Int)),t,t2,(wrap .i64 (t5+1))))) none)) (
   br (aB ((l++([x10]:List Int)).length) 8) (
   some (.inl ((l++([x10]:List Int)),t,t2,(wrap .i64 (t5+1))))) none))) none) none) (
   br (x.Op==8) (
   br (decide (x10>1)) (
   some (.inr (.inl (l,x.Op,x.A,x.B,x.K)))) (
   br (aB ((l++([x10]:List Int)).length) 8) (
   some (.inl ((l++([x10]:List Int)),t,t2,(wrap .i64 (t5+1))))) none)) (
   br (aB ((l++([x10]:List Int)).length) 8) (
   some (.inl ((l++([x10]:List Int)),t,t2,(wrap .i64 (t5+1))))) none))) none) none) (
   br (aB ((l++([x.K]:List Int)).length) 8) (
   some (.inl ((l++([x.K]:List Int)),t,t2,(wrap .i64 (t5+1))))) none)) (
   br (x.Op==8) (
   br (decide (0≤x.A)) (
   br (decide (x.A.toNat<l.length)) (
   (l[x.A.toNat]?).bind fun x12=>
   br (x.Op==7) (
   br (decide (0≤x.B)) (
   br (decide (x.B.toNat<l.length)) (
   (l[x.B.toNat]?).bind fun x13=>
   br (x12 !=x13) (
   some (.inr (.inl (l,x.Op,x.A,x.B,x.K)))) (
   br (x.Op==8) (
   br (decide (x12>1)) (
   some (.inr (.inl (l,x.Op,x.A,x.B,x.K)))) (
   br (aB ((l++([x12]:List Int)).length) 8) (
   some (.inl ((l++([x12]:List Int)),t,t2,(wrap .i64 (t5+1))))) none)) (
   br (aB ((l++([x12]:List Int)).length) 8) (
   some (.inl ((l++([x12]:List Int)),t,t2,(wrap .i64 (t5+1))))) none))) none) none) (
   br (x.Op==8) (
   br (decide (x12>1)) (
   some (.inr (.inl (l,x.Op,x.A,x.B,x.K)))) (
   br (aB ((l++([x12]:List Int)).length) 8) (
   some (.inl ((l++([x12]:List Int)),t,t2,(wrap .i64 (t5+1))))) none)) (
   br (aB ((l++([x12]:List Int)).length) 8) (
   some (.inl ((l++([x12]:List Int)),t,t2,(wrap .i64 (t5+1))))) none))) none) none) (
   br (aB ((l++([x.K]:List Int)).length) 8) (
   some (.inl ((l++([x.K]:List Int)),t,t2,(wrap .i64 (t5+1))))) none)))))))) (
   some (.inr (.inr (l,t,t2,t5,decide (t5<t4)))))
abbrev oL (c:List ah) (l:List Int):List (Nat×Blk):=[(1000,⟨1,true,[[sl bp c]]⟩),(2000,⟨1,false,rws eI l⟩)]
abbrev xb (t3:List ah) (t4:Int) (c:List ah) (s:(List Int)×(List Int)×(List Int)×Int):St:=⟨[(1,sl eI s.2.1),(2,sl eI s.2.2.1),(8,.sl 2000 0 s.1.length),(14,sl bp t3),(15,I t4),(16,I s.2.2.2)],oL c s.1⟩
abbrev wy (t3:List ah) (t4:Int) (c:List ah):(((List Int)×Int×Int×Int×Int)⊕((List Int)×(List Int)×(List Int)×Int×Bool))→aw×St:=alt (fun e=>((.ret,⟨[(6,.lit (.slice none 0 0)),(7,B false)],[(1000,⟨1,true,[[sl bp c]]⟩),(2000,⟨1,false,rws eI e.1⟩),(5002,⟨4,true,[[I e.2.1,I e.2.2.1,I e.2.2.2.1,I e.2.2.2.2]]⟩)]⟩):aw×St)) (fun e=>(.exit 0,⟨[(1,sl eI e.2.1),(2,sl eI e.2.2.1),(8,.sl 2000 0 e.1.length),(14,sl bp t3),(15,I t4),(16,I e.2.2.2.1),(17,B e.2.2.2.2)],oL c e.1⟩))
theorem Gr {t3 t4 c s e} (h:Loop (dJ t3 t4 c) s=some e):aO tab ow (.close [5002,13010,15010,17010,23002,23003]) wF (xb t3 t4 c s)=some (wy t3 t4 c e):=by
 refine lrG (fun s o h=> ?_) h
 obtain ⟨_,_,_,_⟩:=s
 simp only [dJ] at h
 simp only [xb,wy,oL,wF,wN]
 have d1:= @H3
 have d2:= @a1J
 have d3:= @uB
 exact go2
def jK (ListtoArray:Circuit) (a a2:(List Int)):Option ((List Int)×Bool):=
 (Loop (dJ ListtoArray.Gates ((ListtoArray.Gates.length:Nat):Int) ListtoArray.Gates) (([]:List Int),a,a2,0)).bind (alt (fun e_2=>
 some (([]:List Int),false)) (fun e_3=>
 some (e_3.1,true)))
theorem Be {ListtoArray a a2 r} (h:jK ListtoArray a a2=some r):Call tab ow 80 [.agg [sl bp ListtoArray.Gates],sl eI a,sl eI a2] []=some (.tup [sl eI r.1,B r.2],[]):=by
 rw [ag (af:=nl) rfl]
 unfold jK at h
 simp only [nl,sY]
 have d1:= @Gr
 exact go2
end
def cf (s:aL):Option (Int):=
 br (decide (0≤(wrap .i64 (s.Cols-1)))) (
 some (aP .i64 1 (wrap .i64 (s.Cols-1)))) none
theorem fg {s r} (h:cf s=some r):Call tab ow 133 [.agg [I s.Rows,I s.Cols,I s.Publics,sl ai s.A,sl ai s.B,sl ai s.C]] []=some (I r,[]):=by
 rw [ag (af:=n7) rfl]
 unfold cf at h
 simp only [n7,B3]
 exact go2
def bP (m6 m7:List Tri) (t t2:Int) (t3:List (Int×Int)) (t4 c:Int):(List Tri)×Int→Option (((List Tri)×Int)⊕(((List Tri)×Int×Bool)))
 | (m5,t5)=>
   br (decide (t5<t4)) (
   (atL t3 t5).bind fun x=>
   (Cq (ea c x.1 m5) x.2).bind fun r_=>
   some (.inl ((ew c x.1 r_ m5),(wrap .i64 (t5+1))))) (
   some (.inr (m5,t5,decide (t5<t4))))
abbrev tw (m6 m7:List Tri) (c:Int) (m5:List Tri):List (Nat×Blk):=[(0,⟨4,true,[[I c,.mp 1,.mp 2,.mp 3]]⟩),(1,⟨0,true,[aC m5]⟩),(2,⟨0,true,[aC m6]⟩),(3,⟨0,true,[aC m7]⟩)]
abbrev AC (m6 m7:List Tri) (t t2:Int) (t3:List (Int×Int)) (t4 c:Int) (s:(List Tri)×Int):St:=⟨[(0,.ptr 0 0 0 1),(2,I t),(3,I t2),(11,sl (eA2 eI) t3),(12,I t4),(13,I s.2)],tw m6 m7 c s.1⟩
abbrev Az (m6 m7:List Tri) (t t2:Int) (t3:List (Int×Int)) (t4 c:Int):((List Tri)×Int×Bool)→aw×St:=fun e=>(.exit 0,⟨[(0,.ptr 0 0 0 1),(2,I t),(3,I t2),(11,sl (eA2 eI) t3),(12,I t4),(13,I e.2.1),(14,B e.2.2)],tw m6 m7 c e.1⟩)
theorem Lw {m6 m7 t t2 t3 t4 c s e} (h:Loop (bP m6 m7 t t2 t3 t4 c) s=some e):aO tab ow (.close [3002,4007,5013]) Bl (AC m6 m7 t t2 t3 t4 c s)=some (Az m6 m7 t t2 t3 t4 c e):=by
 refine lrG (fun s o h=> ?_) h
 obtain ⟨_,_⟩:=s
 simp only [bP] at h
 simp only [AC,Az,tw,Bl,Bk]
 have d1:= @H3
 exact go2
def ck (a:(List (Int×Int))) (a2 a3 m:Int) (m2 m3 m4:List Tri):Option (Int×(List Tri)×(List Tri)×(List Tri)):=
 (Loop (bP m3 m4 a2 a3 a ((a.length:Nat):Int) m) (m2,0)).bind fun e_=>
 some ((wrap .i64 (m+1)),e_.1,(ew m a2 1 m3),(ew m a3 1 m4))
theorem Qa {a a2 a3 m m2 m3 m4 r} (h:ck a a2 a3 m m2 m3 m4=some r):Call tab ow 286 [.ptr 0 0 0 1,sl (eA2 eI) a,I a2,I a3] [⟨4,true,[[I m,.mp 1,.mp 2,.mp 3]]⟩,⟨0,true,[aC m2]⟩,⟨0,true,[aC m3]⟩,⟨0,true,[aC m4]⟩]=some (.tup [],[⟨4,true,[[I r.1,.mp 1,.mp 2,.mp 3]]⟩,⟨0,true,[aC r.2.1]⟩,⟨0,true,[aC r.2.2.1]⟩,⟨0,true,[aC r.2.2.2]⟩]):=by
 rw [ag (af:=rz) rfl]
 unfold ck at h
 simp only [rz,y6]
 have d1:= @Lw
 exact go2
section
theorem Ir:mkR 2006 []=rws (eA2 eI) []:=rfl
attribute [local go_sem] Ir
def ce (place value:Int) (m:(List Int)):Option ((List (Int×Int))):=
 (atL m place).bind fun x=>
 some ([(x,value)]:List (Int×Int))
theorem Jh {place value m r} (h:ce place value m=some r):Call tab ow 285 [I place,I value,.ptr 0 0 0 1] [⟨1,true,[[sl eI m]]⟩]=some (.sl 1 0 r.length,[⟨1,true,[[sl eI m]]⟩,⟨2,false,rws (eA2 eI) r⟩]):=by
 rw [ag (af:=lO) rfl]
 unfold ce at h
 simp only [lO,zf]
 exact go2
end
section
theorem Lx:mkR 5004 []=rws (eA2 eI) []:=rfl
attribute [local go_sem] Lx
def pn (a:ah) (a2:Int) (a3:(List Int)) (m:Int) (m2 m3 m4:List Tri):Option (Int×(List Tri)×(List Tri)×(List Tri)):=
 br (a.Op==3) (
 (ck ([(0,a.K)]:List (Int×Int)) 0 a2 m m2 m3 m4).bind fun r_=>
 some (r_.1,r_.2.1,r_.2.2.1,r_.2.2.2)) (
 br (a.Op==4) (
 (ce a.A 1 a3).bind fun r_2=>
 (ce a.B 1 a3).bind fun r_3=>
 br (aB ((r_2++r_3).length) 16) (
 (ck (r_2++r_3) 0 a2 m m2 m3 m4).bind fun r_4=>
 some (r_4.1,r_4.2.1,r_4.2.2.1,r_4.2.2.2)) none) (
 br (a.Op==5) (
 (ce a.A 1 a3).bind fun r_5=>
 (ce a.B 2130706432 a3).bind fun r_6=>
 br (aB ((r_5++r_6).length) 16) (
 (ck (r_5++r_6) 0 a2 m m2 m3 m4).bind fun r_7=>
 some (r_7.1,r_7.2.1,r_7.2.2.1,r_7.2.2.2)) none) (
 br (a.Op==6) (
 (ce a.A 1 a3).bind fun r_8=>
 (atL a3 a.B).bind fun x=>
 (ck r_8 x a2 m m2 m3 m4).bind fun r_9=>
 some (r_9.1,r_9.2.1,r_9.2.2.1,r_9.2.2.2)) (
 br (a.Op==7) (
 (ce a.B 1 a3).bind fun r_10=>
 (ck r_10 0 a2 m m2 m3 m4).bind fun r_11=>
 (ce a.A 1 a3).bind fun r_12=>
 (ck r_12 0 a2 r_11.1 r_11.2.1 r_11.2.2.1 r_11.2.2.2).bind fun r_13=>
 some (r_13.1,r_13.2.1,r_13.2.2.1,r_13.2.2.2)) (
 br (a.Op==8) (
 (ce a.A 1 a3).bind fun r_14=>
 (atL a3 a.A).bind fun x2=>
 (ck r_14 x2 a2 m m2 m3 m4).bind fun r_15=>
 (ce a.A 1 a3).bind fun r_16=>
 (ck r_16 0 a2 r_15.1 r_15.2.1 r_15.2.2.1 r_15.2.2.2).bind fun r_17=>
 some (r_17.1,r_17.2.1,r_17.2.2.1,r_17.2.2.2)) (
 some (m,m2,m3,m4)))))))
theorem MT {a a2 a3 m m2 m3 m4 r} (h:pn a a2 a3 m m2 m3 m4=some r):Call tab ow 172 [.ptr 0 0 0 1,.agg [I a.Op,I a.A,I a.B,I a.K],I a2,sl eI a3] [⟨4,true,[[I m,.mp 1,.mp 2,.mp 3]]⟩,⟨0,true,[aC m2]⟩,⟨0,true,[aC m3]⟩,⟨0,true,[aC m4]⟩]=some (.tup [],[⟨4,true,[[I r.1,.mp 1,.mp 2,.mp 3]]⟩,⟨0,true,[aC r.2.1]⟩,⟨0,true,[aC r.2.2.1]⟩,⟨0,true,[aC r.2.2.2]⟩]):=by
 rw [ag (af:=oU) rfl]
 unfold pn at h
 simp only [oU,Ck]
 have d1:= @Qa
 have d2:= @Jh
 exact go2
end
def wu (t:Tri):ae:=⟨t.1,t.2.1,t.2.2⟩
def qP (m:List Tri):Option (List ae×List Tri):=
 br (j5 m&&decide (m.length<1073741824)) (
 some ((cK (m.filter nzT)).map wu,m)) none
theorem XS {m r} (h:qP m=some r):Call tab ow 173 [.mp 0] [⟨0,true,[aC m]⟩]=some (sl ai r.1,[⟨0,true,[aC r.2]⟩]):=by
 unfold qP at h
 obtain ⟨hb,h⟩:=brg h
 cases h
 rw [MU (g:=TZ false) rfl]
 exact b59 ai wu rfl (fun _=>rfl) hb
section
theorem DH:mkR 6000 []=rws eI []:=rfl
attribute [local go_sem] DH
theorem DO:mkR 11002 []=rws eI []:=rfl
attribute [local go_sem] DO
theorem DS:mkR 12002 []=rws eI []:=rfl
attribute [local go_sem] DS
def cJ (t:Int) (c:List ah) (c2 c3 c4 c5 c7:Int):Int→Option ((Int)⊕((Bool×Int)))
 |c6=>
  (cf (aL.mk c5 c6 c7 ([]:List ae) ([]:List ae) ([]:List ae))).bind fun r_2=>
  br (decide (r_2<(mx (wrap .i64 (c7+1)) t))) (
  some (.inl (wrap .i64 (c6+1)))) (
  some (.inr (decide (r_2<(mx (wrap .i64 (c7+1)) t)),c6)))
abbrev lh (c:List ah) (c2 c3 c4 c5 c7 c6:Int):List (Nat×Blk):=[(1000,⟨1,true,[[sl bp c]]⟩),(1001,⟨6,true,[[I c2,I c3,I c4,.lit (.slice none 0 0),.lit (.slice none 0 0),.lit (.slice none 0 0)]]⟩),(2003,⟨6,true,[[I c5,I c6,I c7,.lit (.slice none 0 0),.lit (.slice none 0 0),.lit (.slice none 0 0)]]⟩)]
abbrev rX (t:Int) (c:List ah) (c2 c3 c4 c5 c7 s:Int):St:=⟨[(1,.ptr 1000 0 0 1),(2,.ptr 1001 0 0 1),(3,.ptr 2003 0 0 1),(4,I t)],lh c c2 c3 c4 c5 c7 s⟩
abbrev sf (t:Int) (c:List ah) (c2 c3 c4 c5 c7:Int):(Bool×Int)→aw×St:=fun e=>(.exit 0,⟨[(1,.ptr 1000 0 0 1),(2,.ptr 1001 0 0 1),(3,.ptr 2003 0 0 1),(4,I t),(29,B e.1)],lh c c2 c3 c4 c5 c7 e.2⟩)
theorem Cw {t c c2 c3 c4 c5 c7 s e} (h:Loop (cJ t c c2 c3 c4 c5 c7) s=some e):aO tab ow (.close [4001]) sr (rX t c c2 c3 c4 c5 c7 s)=some (sf t c c2 c3 c4 c5 c7 e):=by
 refine lrG (fun s o h=> ?_) h
 simp only [cJ] at h
 simp only [rX,sf,lh,sr,sT]
 have d1:= @fg
 exact go2
def cN (t4:List ah) (t5:Int) (c8:List ah) (c9 c10 c11 c12 c13 c14:Int):(List Int)×Int×Int×Int→Option (((List Int)×Int×Int×Int)⊕(((List Int)×Int×Int×Int×Bool)))
 | (l,t2,t3,t6)=>
   br (decide (t6<t5)) (
   (atL t4 t6).bind fun x=>
   br (x.Op==2) (
   br (aB ((l++([t2]:List Int)).length) 8) (
   some (.inl ((l++([t2]:List Int)),(wrap .i64 (t2+1)),t3,(wrap .i64 (t6+1))))) none) (
   br (aB ((l++([t3]:List Int)).length) 8) (
   some (.inl ((l++([t3]:List Int)),t2,(wrap .i64 (t3+1)),(wrap .i64 (t6+1))))) none)) (
   some (.inr (l,t2,t3,t6,decide (t6<t5))))
abbrev lj (c8:List ah) (c9 c10 c11 c12 c13 c14:Int) (l:List Int):List (Nat×Blk):=[(1000,⟨1,true,[[sl bp c8]]⟩),(1001,⟨6,true,[[I c9,I c10,I c11,.lit (.slice none 0 0),.lit (.slice none 0 0),.lit (.slice none 0 0)]]⟩),(2003,⟨6,true,[[I c12,I c13,I c14,.lit (.slice none 0 0),.lit (.slice none 0 0),.lit (.slice none 0 0)]]⟩),(6000,⟨1,false,rws eI l⟩)]
abbrev sx (t4:List ah) (t5:Int) (c8:List ah) (c9 c10 c11 c12 c13 c14:Int) (s:(List Int)×Int×Int×Int):St:=⟨[(1,.ptr 1000 0 0 1),(2,.ptr 1001 0 0 1),(3,.ptr 2003 0 0 1),(5,.sl 6000 0 s.1.length),(6,I s.2.1),(7,I s.2.2.1),(38,sl bp t4),(39,I t5),(40,I s.2.2.2)],lj c8 c9 c10 c11 c12 c13 c14 s.1⟩
abbrev sE (t4:List ah) (t5:Int) (c8:List ah) (c9 c10 c11 c12 c13 c14:Int):((List Int)×Int×Int×Int×Bool)→aw×St:=fun e=>(.exit 2,⟨[(1,.ptr 1000 0 0 1),(2,.ptr 1001 0 0 1),(3,.ptr 2003 0 0 1),(5,.sl 6000 0 e.1.length),(6,I e.2.1),(7,I e.2.2.1),(38,sl bp t4),(39,I t5),(40,I e.2.2.2.1),(41,B e.2.2.2.2)],lj c8 c9 c10 c11 c12 c13 c14 e.1⟩)
theorem Cd {t4 t5 c8 c9 c10 c11 c12 c13 c14 s e} (h:Loop (cN t4 t5 c8 c9 c10 c11 c12 c13 c14) s=some e):aO tab ow (.close [9002,11002,11003,12002,12003]) sq (sx t4 t5 c8 c9 c10 c11 c12 c13 c14 s)=some (sE t4 t5 c8 c9 c10 c11 c12 c13 c14 e):=by
 refine lrG (fun s o h=> ?_) h
 obtain ⟨_,_,_,_⟩:=s
 simp only [cN] at h
 simp only [sx,sE,lj,sq,sR]
 exact go2
def dy (l2:List Int) (t7:List ah) (t8:Int) (c15:List ah) (c16 c17 c18 c19 c20 c21:Int):(List Tri)×(List Tri)×(List Tri)×Int×Int→Option (((List Tri)×(List Tri)×(List Tri)×Int×Int)⊕(((List Tri)×(List Tri)×(List Tri)×Int×Bool×Int)))
 | (m,m2,m3,t9,c22)=>
   br (decide (t9<t8)) (
   (atL t7 t9).bind fun x2=>
   br (decide (0≤t9)) (
   br (decide (t9.toNat<l2.length)) (
   (l2[t9.toNat]?).bind fun x3=>
   (pn x2 x3 l2 c22 m m2 m3).bind fun r_4=>
   some (.inl (r_4.2.1,r_4.2.2.1,r_4.2.2.2,(wrap .i64 (t9+1)),r_4.1))) none) none) (
   some (.inr (m,m2,m3,t9,decide (t9<t8),c22)))
abbrev kG (l2:List Int) (c15:List ah) (c16 c17 c18 c19 c20 c21:Int) (m m2 m3:List Tri) (c22:Int):List (Nat×Blk):=[(1000,⟨1,true,[[sl bp c15]]⟩),(1001,⟨6,true,[[I c16,I c17,I c18,.lit (.slice none 0 0),.lit (.slice none 0 0),.lit (.slice none 0 0)]]⟩),(2003,⟨6,true,[[I c19,I c20,I c21,.lit (.slice none 0 0),.lit (.slice none 0 0),.lit (.slice none 0 0)]]⟩),(6000,⟨1,false,rws eI l2⟩),(14000,⟨0,true,[aC m]⟩),(14001,⟨0,true,[aC m2]⟩),(14002,⟨0,true,[aC m3]⟩),(14004,⟨4,true,[[I c22,.mp 14000,.mp 14001,.mp 14002]]⟩)]
abbrev sB (l2:List Int) (t7:List ah) (t8:Int) (c15:List ah) (c16 c17 c18 c19 c20 c21:Int) (s:(List Tri)×(List Tri)×(List Tri)×Int×Int):St:=⟨[(2,.ptr 1001 0 0 1),(3,.ptr 2003 0 0 1),(5,.sl 6000 0 l2.length),(10,.ptr 14004 0 0 1),(66,sl bp t7),(67,I t8),(68,I s.2.2.2.1)],kG l2 c15 c16 c17 c18 c19 c20 c21 s.1 s.2.1 s.2.2.1 s.2.2.2.2⟩
abbrev rO (l2:List Int) (t7:List ah) (t8:Int) (c15:List ah) (c16 c17 c18 c19 c20 c21:Int):((List Tri)×(List Tri)×(List Tri)×Int×Bool×Int)→aw×St:=fun e=>(.exit 4,⟨[(2,.ptr 1001 0 0 1),(3,.ptr 2003 0 0 1),(5,.sl 6000 0 l2.length),(10,.ptr 14004 0 0 1),(66,sl bp t7),(67,I t8),(68,I e.2.2.2.1),(69,B e.2.2.2.2.1)],kG l2 c15 c16 c17 c18 c19 c20 c21 e.1 e.2.1 e.2.2.1 e.2.2.2.2.2⟩)
theorem BF {l2 t7 t8 c15 c16 c17 c18 c19 c20 c21 s e} (h:Loop (dy l2 t7 t8 c15 c16 c17 c18 c19 c20 c21) s=some e):aO tab ow (.close [17003,18007]) pG (sB l2 t7 t8 c15 c16 c17 c18 c19 c20 c21 s)=some (rO l2 t7 t8 c15 c16 c17 c18 c19 c20 c21 e):=by
 refine lrG (fun s o h=> ?_) h
 obtain ⟨_,_,_,_,_⟩:=s
 simp only [dy] at h
 simp only [sB,rO,kG,pG,pK]
 have d1:= @MT
 exact go2
def gX (l3:List Int) (m4 m5 m6:List Tri) (t10:List ah) (t11 t12:Int) (t13:Bool) (c23:List ah) (c24 c25 c26 c28 c29 c30:Int):Int→Option ((Int)⊕((Bool×Int)))
 |c27=>
  br (decide (0≤c27)) (
  br (decide ((aP .i64 1 c27)<c30)) (
  some (.inl (wrap .i64 (c27+1)))) (
  some (.inr (decide ((aP .i64 1 c27)<c30),c27)))) none
abbrev kL (l3:List Int) (m4 m5 m6:List Tri) (c23:List ah) (c24 c25 c26 c28 c29 c30 c27:Int):List (Nat×Blk):=[(1000,⟨1,true,[[sl bp c23]]⟩),(1001,⟨6,true,[[I c24,I c25,I c26,.lit (.slice none 0 0),.lit (.slice none 0 0),.lit (.slice none 0 0)]]⟩),(2003,⟨6,true,[[I c27,I c28,I c29,.lit (.slice none 0 0),.lit (.slice none 0 0),.lit (.slice none 0 0)]]⟩),(6000,⟨1,false,rws eI l3⟩),(14000,⟨0,true,[aC m4]⟩),(14001,⟨0,true,[aC m5]⟩),(14002,⟨0,true,[aC m6]⟩),(14004,⟨4,true,[[I c30,.mp 14000,.mp 14001,.mp 14002]]⟩)]
abbrev sm (l3:List Int) (m4 m5 m6:List Tri) (t10:List ah) (t11 t12:Int) (t13:Bool) (c23:List ah) (c24 c25 c26 c28 c29 c30 s:Int):St:=⟨[(2,.ptr 1001 0 0 1),(3,.ptr 2003 0 0 1),(5,.sl 6000 0 l3.length),(10,.ptr 14004 0 0 1),(66,sl bp t10),(67,I t11),(68,I t12),(69,B t13)],kL l3 m4 m5 m6 c23 c24 c25 c26 c28 c29 c30 s⟩
abbrev sk (l3:List Int) (m4 m5 m6:List Tri) (t10:List ah) (t11 t12:Int) (t13:Bool) (c23:List ah) (c24 c25 c26 c28 c29 c30:Int):(Bool×Int)→aw×St:=fun e=>(.exit 6,⟨[(2,.ptr 1001 0 0 1),(3,.ptr 2003 0 0 1),(5,.sl 6000 0 l3.length),(10,.ptr 14004 0 0 1),(66,sl bp t10),(67,I t11),(68,I t12),(69,B t13),(89,B e.1)],kL l3 m4 m5 m6 c23 c24 c25 c26 c28 c29 c30 e.2⟩)
theorem BP {l3 m4 m5 m6 t10 t11 t12 t13 c23 c24 c25 c26 c28 c29 c30 s e} (h:Loop (gX l3 m4 m5 m6 t10 t11 t12 t13 c23 c24 c25 c26 c28 c29 c30) s=some e):aO tab ow (.close []) pw (sm l3 m4 m5 m6 t10 t11 t12 t13 c23 c24 c25 c26 c28 c29 c30 s)=some (sk l3 m4 m5 m6 t10 t11 t12 t13 c23 c24 c25 c26 c28 c29 c30 e):=by
 refine lrG (fun s o h=> ?_) h
 simp only [gX] at h
 simp only [sm,sk,kL,pw,pE]
 exact go2
def iJ (ListtoArray:Circuit):Option (aL):=
 (da ListtoArray 2).bind fun r_=>
 (Loop (cJ (wrap .i64 (((ListtoArray.Gates.length:Nat):Int)-r_)) ListtoArray.Gates 0 0 0 1 r_) 2).bind fun e_=>
 (cf (aL.mk 1 e_.2 r_ ([]:List ae) ([]:List ae) ([]:List ae))).bind fun r_3=>
 (Loop (cN ListtoArray.Gates ((ListtoArray.Gates.length:Nat):Int) ListtoArray.Gates 0 0 0 1 e_.2 r_) (([]:List Int),1,r_3,0)).bind fun e_2=>
 (Loop (dy e_2.1 ListtoArray.Gates ((ListtoArray.Gates.length:Nat):Int) ListtoArray.Gates 0 0 0 1 e_.2 r_) (([]:List Tri),([]:List Tri),([]:List Tri),0,0)).bind fun e_3=>
 (Loop (gX e_2.1 e_3.1 e_3.2.1 e_3.2.2.1 ListtoArray.Gates ((ListtoArray.Gates.length:Nat):Int) e_3.2.2.2.1 e_3.2.2.2.2.1 ListtoArray.Gates 0 0 0 e_.2 r_ e_3.2.2.2.2.2) 1).bind fun e_4=>
 (qP e_3.1).bind fun r_5=>
 (qP e_3.2.1).bind fun r_6=>
 (qP e_3.2.2.1).bind fun r_7=>
 some (aL.mk e_4.2 e_.2 r_ r_5.1 r_6.1 r_7.1)
theorem Fq {ListtoArray r} (h:iJ ListtoArray=some r):Call tab ow 81 [.agg [sl bp ListtoArray.Gates]] []=some (.agg [I r.Rows,I r.Cols,I r.Publics,sl ai r.A,sl ai r.B,sl ai r.C],[]):=by
 rw [ag (af:=jm) rfl]
 unfold iJ at h
 simp only [jm,eo]
 have d1:= @my
 have d2:= @Cw
 have d3:= @fg
 have d4:= @Cd
 have d5:= @BF
 have d6:= @BP
 have d7:= @XS
 exact go2
end
section
theorem DF:mkR 2000 []=rws eI []:=rfl
attribute [local go_sem] DF
theorem DC:mkR 7005 []=rws eI []:=rfl
attribute [local go_sem] DC
def dA (values2:List Int) (t:List ah) (t2:Int) (c2:List ah):(List Int)×Int→Option (((List Int)×Int)⊕(((List Int)×Int×Bool)))
 | (l,t3)=>
   br (decide (t3<t2)) (
   (atL t t3).bind fun x=>
   br (x.Op !=2) (
   (atL values2 t3).bind fun x2=>
   br (aB ((l++([x2]:List Int)).length) 8) (
   some (.inl ((l++([x2]:List Int)),(wrap .i64 (t3+1))))) none) (
   some (.inl (l,(wrap .i64 (t3+1)))))) (
   some (.inr (l,t3,decide (t3<t2))))
abbrev lk (c2:List ah) (l:List Int):List (Nat×Blk):=[(1000,⟨1,true,[[sl bp c2]]⟩),(2000,⟨1,false,rws eI l⟩)]
abbrev sc (values2:List Int) (t:List ah) (t2:Int) (c2:List ah) (s:(List Int)×Int):St:=⟨[(1,sl eI values2),(5,.sl 2000 0 s.1.length),(10,sl bp t),(11,I t2),(12,I s.2)],lk c2 s.1⟩
abbrev sh (values2:List Int) (t:List ah) (t2:Int) (c2:List ah):((List Int)×Int×Bool)→aw×St:=fun e=>(.exit 0,⟨[(1,sl eI values2),(5,.sl 2000 0 e.1.length),(10,sl bp t),(11,I t2),(12,I e.2.1),(13,B e.2.2)],lk c2 e.1⟩)
theorem BH {values2 t t2 c2 s e} (h:Loop (dA values2 t t2 c2) s=some e):aO tab ow (.close [5003,7005,7006]) sQ (sc values2 t t2 c2 s)=some (sh values2 t t2 c2 e):=by
 refine lrG (fun s o h=> ?_) h
 obtain ⟨_,_⟩:=s
 simp only [dA] at h
 simp only [sc,sh,lk,sQ,sA]
 exact go2
def iC (c:Circuit) (values:(List Int)):Option ((List Int)):=
 (Loop (dA values c.Gates ((c.Gates.length:Nat):Int) c.Gates) (([]:List Int),0)).bind fun e_=>
 some e_.1
theorem Fe {c values r} (h:iC c values=some r):Call tab ow 84 [.agg [sl bp c.Gates],sl eI values] []=some (sl eI r,[]):=by
 rw [ag (af:=jc) rfl]
 unfold iC at h
 simp only [jc,nH]
 have d1:= @BH
 exact go2
end
section
theorem FD: ∀k,Lt 2003 k [I (0:Int)]=rws eI (List.replicate k (0:Int)):=fun _=>a7D eI (0:Int) _ _
attribute [local go_sem] FD
def dU (s:aL) (publics privates:(List Int)):Option ((List Int)):=
 br (decide (0≤s.Cols)) (
 br (LR (aP .i64 1 s.Cols) (aP .i64 1 s.Cols) 8) (
 br (decide (0<(List.replicate ((aP .i64 (1:Int) s.Cols).toNat) (0:Int)).length)) (
 ((List.replicate ((aP .i64 (1:Int) s.Cols).toNat) (0:Int))[0]?).bind fun x=>
 br (decide ((1:Int)≤(((List.replicate ((aP .i64 (1:Int) s.Cols).toNat) (0:Int)).length:Nat):Int))) (
 br (decide (1+((List.replicate ((aP .i64 (1:Int) s.Cols).toNat) (0:Int)).length-1)=(List.replicate ((aP .i64 (1:Int) s.Cols).toNat) (0:Int)).length)) (
 (cf s).bind fun r_=>
 br (decide (0≤r_)&&decide (r_≤(((List.replicate ((aP .i64 (1:Int) s.Cols).toNat) (0:Int)).length:Nat):Int))) (
 br (decide (r_.toNat+((List.replicate ((aP .i64 (1:Int) s.Cols).toNat) (0:Int)).length-r_.toNat)=(List.replicate ((aP .i64 (1:Int) s.Cols).toNat) (0:Int)).length)) (
 some (tK (tK ((List.replicate ((aP .i64 (1:Int) s.Cols).toNat) (0:Int)).set 0 (1:Int)) 1 (min publics.length ((List.replicate ((aP .i64 (1:Int) s.Cols).toNat) (0:Int)).length-1)) publics) r_.toNat (min privates.length ((List.replicate ((aP .i64 (1:Int) s.Cols).toNat) (0:Int)).length-r_.toNat)) privates)) none) none) none) none) none) none) none
theorem oA {s publics privates r} (h:dU s publics privates=some r):Call tab ow 83 [.agg [I s.Rows,I s.Cols,I s.Publics,sl ai s.A,sl ai s.B,sl ai s.C],sl eI publics,sl eI privates] []=some (sl eI r,[]):=by
 rw [ag (af:=ku) rfl]
 unfold dU at h
 simp only [ku,xq]
 have d1:= @fg
 exact go2
end
def jA (s:Source):Option (Source):=
 (co s.Script).bind fun r_=>
 some (Source.mk r_ s.At s.State s.Count)
theorem Hp {s r} (h:jA s=some r):Call tab ow 112 [.agg [sl ak s.Script,I s.At,S s.State,I s.Count]] []=some (.agg [sl ak r.Script,I r.At,S r.State,I r.Count],[]):=by
 rw [ag (af:=kj) rfl]
 unfold jA at h
 simp only [kj,wW]
 have d1:= @kq
 exact go2
section
theorem a2N:mkR 2000 []=rws ak []:=rfl
attribute [local go_sem] a2N
theorem a2J:mkR 6003 []=rws ak []:=rfl
attribute [local go_sem] a2J
def pR (t:List Int) (t2:Int):(List Ext)×Int→Option (((List Ext)×Int)⊕(((List Ext)×Int×Bool)))
 | (l,t3)=>
   br (decide (t3<t2)) (
   (atL t t3).bind fun x=>
   br (aB ((l++([(Ext.mk x 0)]:List Ext)).length) 16) (
   some (.inl ((l++([(Ext.mk x 0)]:List Ext)),(wrap .i64 (t3+1))))) none) (
   some (.inr (l,t3,decide (t3<t2))))
abbrev NL (t:List Int) (t2:Int) (s:(List Ext)×Int):St:=⟨[(3,.sl 2000 0 s.1.length),(7,sl eI t),(8,I t2),(9,I s.2)],[(2000,⟨2,false,rws ak s.1⟩)]⟩
abbrev OR (t:List Int) (t2:Int):((List Ext)×Int×Bool)→aw×St:=fun e=>(.exit 0,⟨[(3,.sl 2000 0 e.1.length),(7,sl eI t),(8,I t2),(9,I e.2.1),(10,B e.2.2)],[(2000,⟨2,false,rws ak e.1⟩)]⟩)
theorem Zg {t t2 s e} (h:Loop (pR t t2) s=some e):aO tab ow (.close [6003,6004]) O6 (NL t t2 s)=some (OR t t2 e):=by
 refine lrG (fun s o h=> ?_) h
 obtain ⟨_,_⟩:=s
 simp only [pR] at h
 simp only [NL,OR,O6,Ni]
 exact go2
def xQ (list:(List Int)):Option ((List Ext)):=
 (Loop (pR list ((list.length:Nat):Int)) (([]:List Ext),0)).bind fun e_=>
 some e_.1
theorem Cy {list r} (h:xQ list=some r):Call tab ow 289 [sl eI list] []=some (sl ak r,[]):=by
 rw [ag (af:=Hu) rfl]
 unfold xQ at h
 simp only [Hu,MI]
 have d1:= @Zg
 exact go2
end
def ci (s:aL):Option (((List ae)×(List ae)×(List ae))):=
 some (s.A,s.B,s.C)
theorem ix {s r} (h:ci s=some r):Call tab ow 177 [.agg [I s.Rows,I s.Cols,I s.Publics,sl ai s.A,sl ai s.B,sl ai s.C]] []=some (.agg [sl ai r.1,sl ai r.2.1,sl ai r.2.2],[]):=by
 rw [ag (af:=iw) rfl]
 unfold ci at h
 simp only [iw,tG]
 exact go2
section
theorem UY:mkR 2012 []=rws eU8 []:=rfl
attribute [local go_sem] UY
def iE (n:Int) (l:List UInt8):Option ((List UInt8)):=
 br (aB ((l++([(UInt8.ofInt (bA .i64 n 24)),(UInt8.ofInt (bA .i64 n 16)),(UInt8.ofInt (bA .i64 n 8)),(UInt8.ofInt n)]:List UInt8)).length) 1) (
 some (l++([(UInt8.ofInt (bA .i64 n 24)),(UInt8.ofInt (bA .i64 n 16)),(UInt8.ofInt (bA .i64 n 8)),(UInt8.ofInt n)]:List UInt8))) none
theorem kP {n l r} (h:iE n l=some r):Call tab ow 225 [.sl 0 0 l.length,I n] [⟨1,false,rws eU8 l⟩]=some (.sl 0 0 r.length,[⟨1,false,rws eU8 r⟩]):=by
 rw [ag (af:=zd) rfl]
 unfold iE at h
 simp only [zd,P3]
 exact go2
end
section
theorem Aj:mkR 2000 []=rws eU8 []:=rfl
attribute [local go_sem] Aj
theorem zA:mkR 2011 []=rws eU8 []:=rfl
attribute [local go_sem] zA
theorem zt:mkR 10007 []=rws eU8 []:=rfl
attribute [local go_sem] zt
def ca (l2:List UInt8) (t t2 t3:List ae) (t4:Int) (t5:List ae) (t6 c c2 c3:Int) (c4 c5 c6:List ae):(List UInt8)×Int→Option (((List UInt8)×Int)⊕(((List UInt8)×Int×Bool)))
 | (l,t7)=>
   br (decide (t7<t6)) (
   (atL t5 t7).bind fun x=>
   br (aB ((l++([(UInt8.ofInt x.Row),(UInt8.ofInt x.Col)]:List UInt8)).length) 1) (
   (iE x.Value (l++([(UInt8.ofInt x.Row),(UInt8.ofInt x.Col)]:List UInt8))).bind fun r_3=>
   some (.inl (r_3,(wrap .i64 (t7+1))))) none) (
   some (.inr (l,t7,decide (t7<t6))))
abbrev iB (l2:List UInt8) (c c2 c3:Int) (c4 c5 c6:List ae) (l:List UInt8):List (Nat×Blk):=[(1000,⟨6,true,[[I c,I c2,I c3,sl ai c4,sl ai c5,sl ai c6]]⟩),(2000,⟨1,false,rws eU8 l⟩),(2011,⟨1,false,rws eU8 l2⟩)]
abbrev oh (l2:List UInt8) (t t2 t3:List ae) (t4:Int) (t5:List ae) (t6 c c2 c3:Int) (c4 c5 c6:List ae) (s:(List UInt8)×Int):St:=⟨[(3,.sl 2000 0 s.1.length),(22,.agg [sl ai t,sl ai t2,sl ai t3]),(23,I t4),(30,sl ai t5),(31,I t6),(32,I s.2)],iB l2 c c2 c3 c4 c5 c6 s.1⟩
abbrev nV (l2:List UInt8) (t t2 t3:List ae) (t4:Int) (t5:List ae) (t6 c c2 c3:Int) (c4 c5 c6:List ae):((List UInt8)×Int×Bool)→aw×St:=fun e=>(.exit 2,⟨[(3,.sl 2000 0 e.1.length),(22,.agg [sl ai t,sl ai t2,sl ai t3]),(23,I t4),(30,sl ai t5),(31,I t6),(32,I e.2.1),(33,B e.2.2)],iB l2 c c2 c3 c4 c5 c6 e.1⟩)
theorem yD {l2 t t2 t3 t4 t5 t6 c c2 c3 c4 c5 c6 s e} (h:Loop (ca l2 t t2 t3 t4 t5 t6 c c2 c3 c4 c5 c6) s=some e):aO tab ow (.close [9002,10007,10008,10011]) cC (oh l2 t t2 t3 t4 t5 t6 c c2 c3 c4 c5 c6 s)=some (nV l2 t t2 t3 t4 t5 t6 c c2 c3 c4 c5 c6 e):=by
 refine lrG (fun s o h=> ?_) h
 obtain ⟨_,_⟩:=s
 simp only [ca] at h
 simp only [oh,nV,iB,cC,eZ]
 have d1:= @kP
 exact go2
def eY (l4:List UInt8) (t8 t9 t10:List ae) (t11:Int) (t12:List ae) (t13 c7 c8 c9:Int) (c10 c11 c12:List ae):(List UInt8)×Int→Option (((List UInt8)×Int)⊕(((List UInt8)×Int×Bool)))
 | (l3,t14)=>
   br (decide (t14<t13)) (
   (atL t12 t14).bind fun x2=>
   br (aB ((l3++([(UInt8.ofInt x2.Row),(UInt8.ofInt x2.Col)]:List UInt8)).length) 1) (
   (iE x2.Value (l3++([(UInt8.ofInt x2.Row),(UInt8.ofInt x2.Col)]:List UInt8))).bind fun r_5=>
   some (.inl (r_5,(wrap .i64 (t14+1))))) none) (
   some (.inr (l3,t14,decide (t14<t13))))
abbrev iA (l4:List UInt8) (c7 c8 c9:Int) (c10 c11 c12:List ae) (l3:List UInt8):List (Nat×Blk):=[(1000,⟨6,true,[[I c7,I c8,I c9,sl ai c10,sl ai c11,sl ai c12]]⟩),(2000,⟨1,false,rws eU8 l3⟩),(2011,⟨1,false,rws eU8 l4⟩)]
abbrev nU (l4:List UInt8) (t8 t9 t10:List ae) (t11:Int) (t12:List ae) (t13 c7 c8 c9:Int) (c10 c11 c12:List ae) (s:(List UInt8)×Int):St:=⟨[(3,.sl 2000 0 s.1.length),(22,.agg [sl ai t8,sl ai t9,sl ai t10]),(23,I t11),(30,sl ai t12),(31,I t13),(32,I s.2)],iA l4 c7 c8 c9 c10 c11 c12 s.1⟩
abbrev oi (l4:List UInt8) (t8 t9 t10:List ae) (t11:Int) (t12:List ae) (t13 c7 c8 c9:Int) (c10 c11 c12:List ae):((List UInt8)×Int×Bool)→aw×St:=fun e=>(.exit 2,⟨[(3,.sl 2000 0 e.1.length),(22,.agg [sl ai t8,sl ai t9,sl ai t10]),(23,I t11),(30,sl ai t12),(31,I t13),(32,I e.2.1),(33,B e.2.2)],iA l4 c7 c8 c9 c10 c11 c12 e.1⟩)
theorem yS {l4 t8 t9 t10 t11 t12 t13 c7 c8 c9 c10 c11 c12 s e} (h:Loop (eY l4 t8 t9 t10 t11 t12 t13 c7 c8 c9 c10 c11 c12) s=some e):aO tab ow (.close [9002,10007,10008,10011]) cC (nU l4 t8 t9 t10 t11 t12 t13 c7 c8 c9 c10 c11 c12 s)=some (oi l4 t8 t9 t10 t11 t12 t13 c7 c8 c9 c10 c11 c12 e):=by
 refine lrG (fun s o h=> ?_) h
 obtain ⟨_,_⟩:=s
 simp only [eY] at h
 simp only [nU,oi,iA,cC,eZ]
 have d1:= @kP
 exact go2
def eX (l6:List UInt8) (t15 t16 t17:List ae) (t18:Int) (t19:List ae) (t20 c13 c14 c15:Int) (c16 c17 c18:List ae):(List UInt8)×Int→Option (((List UInt8)×Int)⊕(((List UInt8)×Int×Bool)))
 | (l5,t21)=>
   br (decide (t21<t20)) (
   (atL t19 t21).bind fun x3=>
   br (aB ((l5++([(UInt8.ofInt x3.Row),(UInt8.ofInt x3.Col)]:List UInt8)).length) 1) (
   (iE x3.Value (l5++([(UInt8.ofInt x3.Row),(UInt8.ofInt x3.Col)]:List UInt8))).bind fun r_7=>
   some (.inl (r_7,(wrap .i64 (t21+1))))) none) (
   some (.inr (l5,t21,decide (t21<t20))))
abbrev iD (l6:List UInt8) (c13 c14 c15:Int) (c16 c17 c18:List ae) (l5:List UInt8):List (Nat×Blk):=[(1000,⟨6,true,[[I c13,I c14,I c15,sl ai c16,sl ai c17,sl ai c18]]⟩),(2000,⟨1,false,rws eU8 l5⟩),(2011,⟨1,false,rws eU8 l6⟩)]
abbrev o8 (l6:List UInt8) (t15 t16 t17:List ae) (t18:Int) (t19:List ae) (t20 c13 c14 c15:Int) (c16 c17 c18:List ae) (s:(List UInt8)×Int):St:=⟨[(3,.sl 2000 0 s.1.length),(22,.agg [sl ai t15,sl ai t16,sl ai t17]),(23,I t18),(30,sl ai t19),(31,I t20),(32,I s.2)],iD l6 c13 c14 c15 c16 c17 c18 s.1⟩
abbrev oc (l6:List UInt8) (t15 t16 t17:List ae) (t18:Int) (t19:List ae) (t20 c13 c14 c15:Int) (c16 c17 c18:List ae):((List UInt8)×Int×Bool)→aw×St:=fun e=>(.exit 2,⟨[(3,.sl 2000 0 e.1.length),(22,.agg [sl ai t15,sl ai t16,sl ai t17]),(23,I t18),(30,sl ai t19),(31,I t20),(32,I e.2.1),(33,B e.2.2)],iD l6 c13 c14 c15 c16 c17 c18 e.1⟩)
theorem yx {l6 t15 t16 t17 t18 t19 t20 c13 c14 c15 c16 c17 c18 s e} (h:Loop (eX l6 t15 t16 t17 t18 t19 t20 c13 c14 c15 c16 c17 c18) s=some e):aO tab ow (.close [9002,10007,10008,10011]) cC (o8 l6 t15 t16 t17 t18 t19 t20 c13 c14 c15 c16 c17 c18 s)=some (oc l6 t15 t16 t17 t18 t19 t20 c13 c14 c15 c16 c17 c18 e):=by
 refine lrG (fun s o h=> ?_) h
 obtain ⟨_,_⟩:=s
 simp only [eX] at h
 simp only [o8,oc,iD,cC,eZ]
 have d1:= @kP
 exact go2
def fh (s:aL):Option ((List UInt8)):=
 br (aB ((([(115:UInt8),(121:UInt8),(115:UInt8),(116:UInt8),(101:UInt8),(109:UInt8)]:List UInt8)++([(UInt8.ofInt s.Rows),(UInt8.ofInt s.Cols),(UInt8.ofInt s.Publics)]:List UInt8)).length) 1) (
 (ci s).bind fun r_=>
 (iE ((r_.1.length:Nat):Int) (([(115:UInt8),(121:UInt8),(115:UInt8),(116:UInt8),(101:UInt8),(109:UInt8)]:List UInt8)++([(UInt8.ofInt s.Rows),(UInt8.ofInt s.Cols),(UInt8.ofInt s.Publics)]:List UInt8))).bind fun r_2=>
 (Loop (ca ([(UInt8.ofInt s.Rows),(UInt8.ofInt s.Cols),(UInt8.ofInt s.Publics)]:List UInt8) r_.1 r_.2.1 r_.2.2 0 r_.1 ((r_.1.length:Nat):Int) s.Rows s.Cols s.Publics s.A s.B s.C) (r_2,0)).bind fun e_=>
 (iE ((r_.2.1.length:Nat):Int) e_.1).bind fun r_4=>
 (Loop (eY ([(UInt8.ofInt s.Rows),(UInt8.ofInt s.Cols),(UInt8.ofInt s.Publics)]:List UInt8) r_.1 r_.2.1 r_.2.2 1 r_.2.1 ((r_.2.1.length:Nat):Int) s.Rows s.Cols s.Publics s.A s.B s.C) (r_4,0)).bind fun e_2=>
 (iE ((r_.2.2.length:Nat):Int) e_2.1).bind fun r_6=>
 (Loop (eX ([(UInt8.ofInt s.Rows),(UInt8.ofInt s.Cols),(UInt8.ofInt s.Publics)]:List UInt8) r_.1 r_.2.1 r_.2.2 2 r_.2.2 ((r_.2.2.length:Nat):Int) s.Rows s.Cols s.Publics s.A s.B s.C) (r_6,0)).bind fun e_3=>
 some e_3.1) none
theorem Bo {s r} (h:fh s=some r):Call tab ow 351 [.agg [I s.Rows,I s.Cols,I s.Publics,sl ai s.A,sl ai s.B,sl ai s.C]] []=some (sl eU8 r,[]):=by
 rw [ag (af:=gt) rfl]
 unfold fh at h
 simp+decide only [gt,gz,go_sem,reduceIte,Nat.reduceAdd,Int.reduceAdd,Int.reduceMul,Int.reduceSub]
 obtain ⟨hb,h⟩:=brg h
 refine yV hb ?_
 obtain ⟨r_,h1,h⟩:=bd h
 refine bC (ix h1) ?_
 simp+decide only [go_sem,reduceIte,Nat.reduceAdd,Int.reduceAdd,Int.reduceMul,Int.reduceSub]
 refine cQ ?_
 simp+decide only [mkL,go_sem,reduceIte,Nat.reduceAdd,Int.reduceAdd,Int.reduceMul,Int.reduceSub]
 obtain ⟨r_2,h1,h⟩:=bd h
 refine bC (kP h1) ?_
 simp+decide only [go_sem,reduceIte,Nat.reduceAdd,Int.reduceAdd,Int.reduceMul,Int.reduceSub]
 obtain ⟨e_,h1,h⟩:=bd h
 refine A1 (yD h1) ?_
 simp+decide only [go_sem,reduceIte,Nat.reduceAdd,Int.reduceAdd,Int.reduceMul,Int.reduceSub]
 refine cQ ?_
 simp+decide only [mkL,go_sem,reduceIte,Nat.reduceAdd,Int.reduceAdd,Int.reduceMul,Int.reduceSub]
 obtain ⟨r_4,h1,h⟩:=bd h
 refine bC (kP h1) ?_
 simp+decide only [go_sem,reduceIte,Nat.reduceAdd,Int.reduceAdd,Int.reduceMul,Int.reduceSub]
 obtain ⟨e_2,h1,h⟩:=bd h
 refine A1 (yS h1) ?_
 simp+decide only [go_sem,reduceIte,Nat.reduceAdd,Int.reduceAdd,Int.reduceMul,Int.reduceSub]
 refine cQ ?_
 simp+decide only [mkL,go_sem,reduceIte,Nat.reduceAdd,Int.reduceAdd,Int.reduceMul,Int.reduceSub]
 obtain ⟨r_6,h1,h⟩:=bd h
 refine bC (kP h1) ?_
 simp+decide only [go_sem,reduceIte,Nat.reduceAdd,Int.reduceAdd,Int.reduceMul,Int.reduceSub]
 obtain ⟨e_3,h1,h⟩:=bd h
 refine A1 (yx h1) ?_
 simp+decide only [go_sem,reduceIte,Nat.reduceAdd,Int.reduceAdd,Int.reduceMul,Int.reduceSub]
 refine cQ ?_
 simp+decide only [mkL,go_sem,reduceIte,Nat.reduceAdd,Int.reduceAdd,Int.reduceMul,Int.reduceSub]
 obtain rfl:=Option.some.inj h
 first|rfl| (simp only [List.length_set,go_sem];done)
end
section
theorem NM:mkR 2002 []=rws (eL eU8) []:=rfl
attribute [local go_sem] NM
theorem MH:mkR 2014 []=rws eU8 []:=rfl
attribute [local go_sem] MH
def ff (l:List (List UInt8)) (l3:List UInt8) (t2:List Int) (t3 c c2 c3:Int) (c4 c5 c6:List ae) (c7 c8 c9:Int):(List UInt8)×Int→Option (((List UInt8)×Int)⊕(((List UInt8)×Int×Bool)))
 | (l2,t4)=>
   br (decide (t4<t3)) (
   (atL t2 t4).bind fun x=>
   (iE x l2).bind fun r_3=>
   some (.inl (r_3,(wrap .i64 (t4+1))))) (
   some (.inr (l2,t4,decide (t4<t3))))
abbrev tk (l:List (List UInt8)) (l3:List UInt8) (c c2 c3:Int) (c4 c5 c6:List ae) (c7 c8 c9:Int) (l2:List UInt8):List (Nat×Blk):=[(1000,⟨6,true,[[I c,I c2,I c3,sl ai c4,sl ai c5,sl ai c6]]⟩),(1001,⟨3,true,[[I c7,I c8,I c9]]⟩),(2002,⟨1,false,rws (eL eU8) l⟩),(2004,⟨1,false,rws eU8 l2⟩),(2014,⟨1,false,rws eU8 l3⟩)]
abbrev AB (l:List (List UInt8)) (l3:List UInt8) (t2:List Int) (t3 c c2 c3:Int) (c4 c5 c6:List ae) (c7 c8 c9:Int) (s:(List UInt8)×Int):St:=⟨[(7,.sl 2004 0 s.1.length),(26,sl eI t2),(27,I t3),(28,I s.2)],tk l l3 c c2 c3 c4 c5 c6 c7 c8 c9 s.1⟩
abbrev AQ (l:List (List UInt8)) (l3:List UInt8) (t2:List Int) (t3 c c2 c3:Int) (c4 c5 c6:List ae) (c7 c8 c9:Int):((List UInt8)×Int×Bool)→aw×St:=fun e=>(.exit 0,⟨[(7,.sl 2004 0 e.1.length),(26,sl eI t2),(27,I t3),(28,I e.2.1),(29,B e.2.2)],tk l l3 c c2 c3 c4 c5 c6 c7 c8 c9 e.1⟩)
theorem Lm {l l3 t2 t3 c c2 c3 c4 c5 c6 c7 c8 c9 s e} (h:Loop (ff l l3 t2 t3 c c2 c3 c4 c5 c6 c7 c8 c9) s=some e):aO tab ow (.close [6002]) AN (AB l l3 t2 t3 c c2 c3 c4 c5 c6 c7 c8 c9 s)=some (AQ l l3 t2 t3 c c2 c3 c4 c5 c6 c7 c8 c9 e):=by
 refine lrG (fun s o h=> ?_) h
 obtain ⟨_,_⟩:=s
 simp only [ff] at h
 simp only [AB,AQ,tk,AN,AE]
 have d1:= @kP
 exact go2
def sH (s:aL) (t:Setting) (publics:(List Int)):Option ((List UInt8)):=
 (fh s).bind fun r_=>
 (ph ([r_]:List (List UInt8))).bind fun r_2=>
 br (aB r_2.length 1) (
 br (aB ((r_2++([(UInt8.ofInt t.Rate),(UInt8.ofInt t.Queries),(UInt8.ofInt t.Grind)]:List UInt8)).length) 1) (
 (Loop (ff ([r_]:List (List UInt8)) ([(UInt8.ofInt t.Rate),(UInt8.ofInt t.Queries),(UInt8.ofInt t.Grind)]:List UInt8) publics ((publics.length:Nat):Int) s.Rows s.Cols s.Publics s.A s.B s.C t.Rate t.Queries t.Grind) ((r_2++([(UInt8.ofInt t.Rate),(UInt8.ofInt t.Queries),(UInt8.ofInt t.Grind)]:List UInt8)),0)).bind fun e_=>
 some e_.1) none) none
theorem PZ {s t publics r} (h:sH s t publics=some r):Call tab ow 290 [.agg [I s.Rows,I s.Cols,I s.Publics,sl ai s.A,sl ai s.B,sl ai s.C],.agg [I t.Rate,I t.Queries,I t.Grind],sl eI publics] []=some (sl eU8 r,[]):=by
 rw [ag (af:=rK) rfl]
 unfold sH at h
 simp only [rK,xD]
 have d1:= @Bo
 have d2:= @wc
 have d3:= @Lm
 exact go2
end
section
theorem a5C:mkR 2012 []=rws eU8 []:=rfl
attribute [local go_sem] a5C
def BV (n:Int):Option ((List UInt8)):=
 br (aB (([(UInt8.ofInt (bA .i64 n 24)),(UInt8.ofInt (bA .i64 n 16)),(UInt8.ofInt (bA .i64 n 8)),(UInt8.ofInt n)]:List UInt8).length) 1) (
 some ([(UInt8.ofInt (bA .i64 n 24)),(UInt8.ofInt (bA .i64 n 16)),(UInt8.ofInt (bA .i64 n 8)),(UInt8.ofInt n)]:List UInt8)) none
theorem HJ {n r} (h:BV n=some r):Call tab ow 225 [.lit (.slice none 0 0),I n] []=some (sl eU8 r,[]):=by
 rw [ag (af:=zd) rfl]
 unfold BV at h
 simp only [zd,P3]
 exact go2
end
section
theorem FR:mkR 1007 []=rws eU8 []:=rfl
attribute [local go_sem] FR
theorem Ge:mkR 1013 []=rws (eL eU8) []:=rfl
attribute [local go_sem] Ge
def dt (t:(List UInt8)) (m:Source):Option (Source):=
 br (aB m.State.length 1) (
 (BV ((t.length:Nat):Int)).bind fun r_=>
 (ph ([m.State,([(97:UInt8),(98:UInt8),(115:UInt8),(111:UInt8),(114:UInt8),(98:UInt8)]:List UInt8),r_,t]:List (List UInt8))).bind fun r_2=>
 some (Source.mk m.Script m.At r_2 0)) none
theorem i5 {t m r} (h:dt t m=some r):Call tab ow 221 [.ptr 0 0 0 1,sl eU8 t] [⟨4,true,[[sl ak m.Script,I m.At,S m.State,I m.Count]]⟩]=some (.tup [],[⟨4,true,[[sl ak r.Script,I r.At,S r.State,I r.Count]]⟩]):=by
 rw [ag (af:=ke) rfl]
 unfold dt at h
 simp only [ke,xe]
 have d1:= @HJ
 have d2:= @wc
 exact go2
end
def fF (a b:Ext):Option (Ext):=
 (Mo a.A b.A).bind fun r_=>
 (Mo a.B b.B).bind fun r_2=>
 some (Ext.mk r_ r_2)
theorem jQ {a b r} (h:fF a b=some r):Call tab ow 198 [.agg [I a.A,I a.B],.agg [I b.A,I b.B]] []=some (.agg [I r.A,I r.B],[]):=by
 rw [ag (af:=qY) rfl]
 unfold fF at h
 simp only [qY,E3]
 have d1:= @a1J
 exact go2
section
theorem GE:mkR 2000 []=rws ak []:=rfl
attribute [local go_sem] GE
def cI (step2 t:Int):(List Ext)×Int→Option (((List Ext)×Int)⊕(((List Ext)×Int×Bool)))
 | (l2,t2)=>
   br (decide (t2<t)) (
   br ((bo .i64 t2 step2) !=0) (
   br (decide (0≤t2)) (
   br (decide (t2.toNat<l2.length)) (
   (l2[t2.toNat]?).bind fun x=>
   br (decide (0≤(wrap .i64 (t2-step2)))) (
   br (decide ((wrap .i64 (t2-step2)).toNat<l2.length)) (
   (l2[(wrap .i64 (t2-step2)).toNat]?).bind fun x2=>
   (fF x x2).bind fun r_=>
   br (decide (0≤t2)) (
   br (decide (t2.toNat<l2.length)) (
   (l2[t2.toNat]?).bind fun x3=>
   some (.inl ((l2.set t2.toNat r_),(wrap .i64 (t2+1))))) none) none) none) none) none) none) (
   some (.inl (l2,(wrap .i64 (t2+1)))))) (
   some (.inr (l2,t2,decide (t2<t))))
abbrev vi (step2 t:Int) (s:(List Ext)×Int):St:=⟨[(1,.fn 198 []),(5,.sl 2000 0 s.1.length),(6,I step2),(18,I t),(19,I s.2)],[(2000,⟨2,false,rws ak s.1⟩)]⟩
abbrev wd (step2 t:Int):((List Ext)×Int×Bool)→aw×St:=fun e=>(.exit 2,⟨[(1,.fn 198 []),(5,.sl 2000 0 e.1.length),(6,I step2),(18,I t),(19,I e.2.1),(20,B e.2.2)],[(2000,⟨2,false,rws ak e.1⟩)]⟩)
theorem Fv {step2 t s e} (h:Loop (cI step2 t) s=some e):aO tab ow (.close [10013]) It (vi step2 t s)=some (wd step2 t e):=by
 refine lrG (fun s o h=> ?_) h
 obtain ⟨_,_⟩:=s
 simp only [cI] at h
 simp only [vi,wd,It,Hy]
 have d1:= @jQ
 exact go2
def dw:(List Ext)×Int→Option (((List Ext)×Int)⊕(((List Ext)×Int×Bool)))
 | (l,step)=>
   br (decide (step<((l.length:Nat):Int))) (
   (Loop (cI step ((l.length:Nat):Int)) (l,0)).bind fun e_=>
   some (.inl (e_.1,(wrap .i64 (step*2))))) (
   some (.inr (l,step,decide (step<((l.length:Nat):Int)))))
abbrev vv (s:(List Ext)×Int):St:=⟨[(1,.fn 198 []),(5,.sl 2000 0 s.1.length),(6,I s.2)],[(2000,⟨2,false,rws ak s.1⟩)]⟩
abbrev vC:((List Ext)×Int×Bool)→aw×St:=fun e=>(.exit 0,⟨[(1,.fn 198 []),(5,.sl 2000 0 e.1.length),(6,I e.2.1),(14,B e.2.2)],[(2000,⟨2,false,rws ak e.1⟩)]⟩)
theorem Fc { s e} (h:Loop (dw) s=some e):aO tab ow (.close [10013]) IQ (vv s)=some (vC e):=by
 refine lrG (fun s o h=> ?_) h
 obtain ⟨_,_⟩:=s
 simp only [dw] at h
 simp only [vv,vC,IQ,Gu]
 have d1:= @Fv
 exact go2
def pd (table:(List Ext)):Option ((List Ext)):=
 br (aB ((([]:List Ext)++table).length) 16) (
 (Loop (dw) ((([]:List Ext)++table),1)).bind fun e_2=>
 some e_2.1) none
theorem Ju {table r} (h:pd table=some r):Call tab ow 197 [sl ak table,.fn 198 []] []=some (sl ak r,[]):=by
 rw [ag (af:=zl) rfl]
 unfold pd at h
 simp only [zl,zZ]
 have d1:= @Fc
 exact go2
end
def uS (table:(List Ext)):Option ((List Ext)):=
 (pd table).bind fun r_=>
 some r_
theorem KC {table r} (h:uS table=some r):Call tab ow 99 [sl ak table] []=some (sl ak r,[]):=by
 rw [ag (af:=xr) rfl]
 unfold uS at h
 simp only [xr,KY]
 have d1:= @Ju
 exact go2
end
end Go.AI.Fn
