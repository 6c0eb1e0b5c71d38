/- Walks through the program, with open values. -/
import Derived.Test.YtdmhkkcihecndaaGreatStr
set_option linter.unusedVariables false
set_option linter.unusedSimpArgs false
set_option maxRecDepth 100000
set_option maxHeartbeats 1000000
namespace Go.AI.Fn
noncomputable section
open IntKind (wrap)
def gE (m:List Int) (t2:List UInt8):(List Int)×Int→Option (((List Int)×Int)⊕(((List Int)×Int×Bool)))
 | (m2,i)=>
   br (decide (i<((t2.length:Nat):Int))) (
   br (decide (0≤(wrap .i64 (i.tdiv 8)))&&decide ((wrap .i64 (i.tdiv 8)).toNat<25)) (
   (m2[(wrap .i64 (i.tdiv 8)).toNat]?).bind fun x=>
   (atL t2 i).bind fun c=>
   br (decide (0≤(wrap .u64 (wrap .i64 (8*(i.tmod 8)))))) (
   br (decide (0≤(wrap .i64 (i.tdiv 8)))&&decide ((wrap .i64 (i.tdiv 8)).toNat<25)) (
   br (decide ((wrap .i64 (i.tdiv 8)).toNat<m2.length)) (
   some (.inl ((m2.set ((wrap .i64 (i.tdiv 8)).toNat) (vh .u64 x (aB .u64 (wrap .u64 (c.toNat:Int)) (wrap .u64 (wrap .i64 (8*(i.tmod 8))))))),(wrap .i64 (i+1))))) none) none) none) none) (
   some (.inr (m2,i,decide (i<((t2.length:Nat):Int)))))
abbrev sH (m m2:List Int):List (Nat×Blk):=[(1000,⟨25,true,[ar .u64 m]⟩),(2001,⟨25,true,[ar .u64 m2]⟩)]
abbrev A8 (m:List Int) (t2:List UInt8) (s:(List Int)×Int):St:=⟨[(0,S t2),(2,.ptr 1000 0 0 1),(3,.ptr 2001 0 0 1),(4,I s.2)],sH m s.1⟩
abbrev AQ (m:List Int) (t2:List UInt8):((List Int)×Int×Bool)→ah×St:=fun e=>(.exit 0,⟨[(0,S t2),(2,.ptr 1000 0 0 1),(3,.ptr 2001 0 0 1),(4,I e.2.1),(9,B e.2.2)],sH m e.1⟩)
theorem Lt {m t2 s e} (h:Loop (gE m t2) s=some e):aq tab ow (.close []) sD (A8 m t2 s)=some (AQ m t2 e):=by
 refine lrG (fun s o h=> ?_) h
 obtain ⟨_,_⟩:=s
 simp only [gE] at h
 simp+decide only [A8,AQ,sH,sD,go_sem,reduceIte,Nat.reduceAdd]
 all_goals exact go
def sE (t:(List UInt8)):Option ((List Int)):=
 (Loop (gE (nZ 25) t) ((nZ 25),0)).bind fun e_=>
 br (decide (e_.1.length=25)) (
 br (decide (e_.1.length=25)) (
 br (decide (e_.1.length=25)) (
 some e_.1) none) none) none
theorem Sj {t r} (h:sE t=some r):Call tab ow 304 [S t] []=some (.agg (ar .u64 r),[]):=by
 rw [aa (af:=qJ) rfl]
 unfold sE at h
 simp+decide only [qJ,Em,go_sem,reduceIte,Nat.reduceAdd]
 have d1:= @Lt
 all_goals exact go
def zU:Option ((List Int)):=
 some ([1,32898,9223372036854808714,9223372039002292224,32907,2147483649,9223372039002292353,9223372036854808585,138,136,2147516425,2147483658,2147516555,9223372036854775947,9223372036854808713,9223372036854808579,9223372036854808578,9223372036854775936,32778,9223372039002259466,9223372039002292353,9223372036854808704,2147483649,9223372039002292232]:List Int)
theorem Pm {r} (h:zU=some r):Call tab ow 343 [] []=some (.agg (ar .u64 r),[]):=by
 rw [aa (af:=od) rfl]
 unfold zU at h
 simp+decide only [od,CO,go_sem,reduceIte,Nat.reduceAdd]
 all_goals exact go
def AO:Option ((List Int)):=
 some ([0,1,62,28,27,36,44,6,55,20,3,10,43,25,39,41,45,15,21,8,18,2,61,56,14]:List Int)
theorem OA {r} (h:AO=some r):Call tab ow 344 [] []=some (.agg (ar .u64 r),[]):=by
 rw [aa (af:=o7) rfl]
 unfold AO at h
 simp+decide only [o7,BU,go_sem,reduceIte,Nat.reduceAdd]
 all_goals exact go
def s3 (x n:Int):Option (Int):=
 br (n==0) (
 some x) (
 br (decide (0≤n)) (
 br (decide (0≤(wrap .u64 (64-n)))) (
 some (vh .u64 (aB .u64 x n) (aJ .u64 x (wrap .u64 (64-n))))) none) none)
theorem II {x n r} (h:s3 x n=some r):Call tab ow 345 [.lit (.int .u64 x),.lit (.int .u64 n)] []=some (.lit (.int .u64 r),[]):=by
 rw [aa (af:=uJ) rfl]
 unfold s3 at h
 simp+decide only [uJ,HA,go_sem,reduceIte,Nat.reduceAdd]
 all_goals exact go
def fb (m5 m6 m7 m8:List Int) (t2:Int):(List Int)×Int→Option (((List Int)×Int)⊕(((List Int)×Int×Bool)))
 | (m9,t3)=>
   br (decide (t3<5)) (
   br (decide (0≤t3)&&decide (t3.toNat<25)) (
   (m5[t3.toNat]?).bind fun x=>
   br (decide (0≤(wrap .i64 (t3+5)))&&decide ((wrap .i64 (t3+5)).toNat<25)) (
   (m5[(wrap .i64 (t3+5)).toNat]?).bind fun x2=>
   br (decide (0≤(wrap .i64 (t3+10)))&&decide ((wrap .i64 (t3+10)).toNat<25)) (
   (m5[(wrap .i64 (t3+10)).toNat]?).bind fun x3=>
   br (decide (0≤(wrap .i64 (t3+15)))&&decide ((wrap .i64 (t3+15)).toNat<25)) (
   (m5[(wrap .i64 (t3+15)).toNat]?).bind fun x4=>
   br (decide (0≤(wrap .i64 (t3+20)))&&decide ((wrap .i64 (t3+20)).toNat<25)) (
   (m5[(wrap .i64 (t3+20)).toNat]?).bind fun x5=>
   br (decide (0≤t3)&&decide (t3.toNat<5)) (
   br (decide (t3.toNat<m9.length)) (
   some (.inl ((m9.set t3.toNat (mp .u64 (mp .u64 (mp .u64 (mp .u64 x x2) x3) x4) x5)),(wrap .i64 (t3+1))))) none) none) none) none) none) none) none) (
   some (.inr (m9,t3,decide (t3<5))))
abbrev nr (m5 m6 m7 m8 m9:List Int):List (Nat×Blk):=[(1000,⟨25,true,[ar .u64 m5]⟩),(1001,⟨25,true,[ar .u64 m6]⟩),(2001,⟨24,true,[ar .u64 m7]⟩),(3001,⟨25,true,[ar .u64 m8]⟩),(7001,⟨5,true,[ar .u64 m9]⟩)]
abbrev vS (m5 m6 m7 m8:List Int) (t2:Int) (s:(List Int)×Int):St:=⟨[(1,.ptr 1000 0 0 1),(2,.ptr 1001 0 0 1),(3,.ptr 2001 0 0 1),(4,.ptr 3001 0 0 1),(5,I t2),(6,.ptr 7001 0 0 1),(7,I s.2)],nr m5 m6 m7 m8 s.1⟩
abbrev wz (m5 m6 m7 m8:List Int) (t2:Int):((List Int)×Int×Bool)→ah×St:=fun e=>(.exit 2,⟨[(1,.ptr 1000 0 0 1),(2,.ptr 1001 0 0 1),(3,.ptr 2001 0 0 1),(4,.ptr 3001 0 0 1),(5,I t2),(6,.ptr 7001 0 0 1),(7,I e.2.1),(22,B e.2.2)],nr m5 m6 m7 m8 e.1⟩)
theorem GP {m5 m6 m7 m8 t2 s e} (h:Loop (fb m5 m6 m7 m8 t2) s=some e):aq tab ow (.close []) n9 (vS m5 m6 m7 m8 t2 s)=some (wz m5 m6 m7 m8 t2 e):=by
 refine lrG (fun s o h=> ?_) h
 obtain ⟨_,_⟩:=s
 simp only [fb] at h
 simp+decide only [vS,wz,nr,n9,go_sem,reduceIte,Nat.reduceAdd]
 all_goals exact go
def f6 (m11 m12 m13 m14:List Int) (t4:Int):(List Int)×Int→Option (((List Int)×Int)⊕(((List Int)×Int×Bool)))
 | (m10,t5)=>
   br (decide (t5<25)) (
   br (decide (0≤t5)&&decide (t5.toNat<25)) (
   (m10[t5.toNat]?).bind fun x6=>
   br (decide (0≤((wrap .i64 (t5+4)).tmod 5))&&decide (((wrap .i64 (t5+4)).tmod 5).toNat<5)) (
   (m14[((wrap .i64 (t5+4)).tmod 5).toNat]?).bind fun x7=>
   br (decide (0≤((wrap .i64 (t5+1)).tmod 5))&&decide (((wrap .i64 (t5+1)).tmod 5).toNat<5)) (
   (m14[((wrap .i64 (t5+1)).tmod 5).toNat]?).bind fun x8=>
   (s3 x8 1).bind fun r_3=>
   br (decide (0≤t5)&&decide (t5.toNat<25)) (
   br (decide (t5.toNat<m10.length)) (
   some (.inl ((m10.set t5.toNat (mp .u64 x6 (mp .u64 x7 r_3))),(wrap .i64 (t5+1))))) none) none) none) none) none) (
   some (.inr (m10,t5,decide (t5<25))))
abbrev mK (m11 m12 m13 m14 m10:List Int):List (Nat×Blk):=[(1000,⟨25,true,[ar .u64 m10]⟩),(1001,⟨25,true,[ar .u64 m11]⟩),(2001,⟨24,true,[ar .u64 m12]⟩),(3001,⟨25,true,[ar .u64 m13]⟩),(7001,⟨5,true,[ar .u64 m14]⟩)]
abbrev xc (m11 m12 m13 m14:List Int) (t4:Int) (s:(List Int)×Int):St:=⟨[(1,.ptr 1000 0 0 1),(2,.ptr 1001 0 0 1),(3,.ptr 2001 0 0 1),(4,.ptr 3001 0 0 1),(5,I t4),(6,.ptr 7001 0 0 1),(8,I s.2)],mK m11 m12 m13 m14 s.1⟩
abbrev wA (m11 m12 m13 m14:List Int) (t4:Int):((List Int)×Int×Bool)→ah×St:=fun e=>(.exit 4,⟨[(1,.ptr 1000 0 0 1),(2,.ptr 1001 0 0 1),(3,.ptr 2001 0 0 1),(4,.ptr 3001 0 0 1),(5,I t4),(6,.ptr 7001 0 0 1),(8,I e.2.1),(51,B e.2.2)],mK m11 m12 m13 m14 e.1⟩)
theorem GA {m11 m12 m13 m14 t4 s e} (h:Loop (f6 m11 m12 m13 m14 t4) s=some e):aq tab ow (.close [15013]) lY (xc m11 m12 m13 m14 t4 s)=some (wA m11 m12 m13 m14 t4 e):=by
 refine lrG (fun s o h=> ?_) h
 obtain ⟨_,_⟩:=s
 simp only [f6] at h
 simp+decide only [xc,wA,mK,lY,go_sem,reduceIte,Nat.reduceAdd]
 have d1:= @II
 all_goals exact go
def fc (m21 m22 m23 m24 m25:List Int) (t8 t9:Int):(List Int)×Int→Option (((List Int)×Int)⊕(((List Int)×Int×Bool)))
 | (m26,t10)=>
   br (decide (t10<5)) (
   br (decide (0≤(wrap .i64 (t9+(wrap .i64 (5*t10)))))&&decide ((wrap .i64 (t9+(wrap .i64 (5*t10)))).toNat<25)) (
   (m21[(wrap .i64 (t9+(wrap .i64 (5*t10)))).toNat]?).bind fun x9=>
   br (decide (0≤(wrap .i64 (t9+(wrap .i64 (5*t10)))))&&decide ((wrap .i64 (t9+(wrap .i64 (5*t10)))).toNat<25)) (
   (m24[(wrap .i64 (t9+(wrap .i64 (5*t10)))).toNat]?).bind fun x10=>
   (s3 x9 x10).bind fun r_4=>
   br (decide (0≤(wrap .i64 (t10+(wrap .i64 (5*((wrap .i64 ((wrap .i64 (2*t9))+(wrap .i64 (3*t10)))).tmod 5))))))&&decide ((wrap .i64 (t10+(wrap .i64 (5*((wrap .i64 ((wrap .i64 (2*t9))+(wrap .i64 (3*t10)))).tmod 5))))).toNat<25)) (
   br (decide ((wrap .i64 (t10+(wrap .i64 (5*((wrap .i64 ((wrap .i64 (2*t9))+(wrap .i64 (3*t10)))).tmod 5))))).toNat<m26.length)) (
   some (.inl ((m26.set ((wrap .i64 (t10+(wrap .i64 (5*((wrap .i64 ((wrap .i64 (2*t9))+(wrap .i64 (3*t10)))).tmod 5))))).toNat) r_4),(wrap .i64 (t10+1))))) none) none) none) none) (
   some (.inr (m26,t10,decide (t10<5))))
abbrev mO (m21 m22 m23 m24 m25 m26:List Int):List (Nat×Blk):=[(1000,⟨25,true,[ar .u64 m21]⟩),(1001,⟨25,true,[ar .u64 m22]⟩),(2001,⟨24,true,[ar .u64 m23]⟩),(3001,⟨25,true,[ar .u64 m24]⟩),(7001,⟨5,true,[ar .u64 m25]⟩),(16001,⟨25,true,[ar .u64 m26]⟩)]
abbrev xd (m21 m22 m23 m24 m25:List Int) (t8 t9:Int) (s:(List Int)×Int):St:=⟨[(1,.ptr 1000 0 0 1),(2,.ptr 1001 0 0 1),(3,.ptr 2001 0 0 1),(4,.ptr 3001 0 0 1),(5,I t8),(9,.ptr 16001 0 0 1),(10,I t9),(11,I s.2)],mO m21 m22 m23 m24 m25 s.1⟩
abbrev wK (m21 m22 m23 m24 m25:List Int) (t8 t9:Int):((List Int)×Int×Bool)→ah×St:=fun e=>(.exit 8,⟨[(1,.ptr 1000 0 0 1),(2,.ptr 1001 0 0 1),(3,.ptr 2001 0 0 1),(4,.ptr 3001 0 0 1),(5,I t8),(9,.ptr 16001 0 0 1),(10,I t9),(11,I e.2.1),(77,B e.2.2)],mO m21 m22 m23 m24 m25 e.1⟩)
theorem GJ {m21 m22 m23 m24 m25 t8 t9 s e} (h:Loop (fc m21 m22 m23 m24 m25 t8 t9) s=some e):aq tab ow (.close [23021]) lO (xd m21 m22 m23 m24 m25 t8 t9 s)=some (wK m21 m22 m23 m24 m25 t8 t9 e):=by
 refine lrG (fun s o h=> ?_) h
 obtain ⟨_,_⟩:=s
 simp only [fc] at h
 simp+decide only [xd,wK,mO,lO,go_sem,reduceIte,Nat.reduceAdd]
 have d1:= @II
 all_goals exact go
def fi (m15 m16 m17 m18 m19:List Int) (t6:Int):(List Int)×Int→Option (((List Int)×Int)⊕(((List Int)×Int×Bool)))
 | (m20,t7)=>
   br (decide (t7<5)) (
   (Loop (fc m15 m16 m17 m18 m19 t6 t7) (m20,0)).bind fun e_3=>
   some (.inl (e_3.1,(wrap .i64 (t7+1))))) (
   some (.inr (m20,t7,decide (t7<5))))
abbrev mR (m15 m16 m17 m18 m19 m20:List Int):List (Nat×Blk):=[(1000,⟨25,true,[ar .u64 m15]⟩),(1001,⟨25,true,[ar .u64 m16]⟩),(2001,⟨24,true,[ar .u64 m17]⟩),(3001,⟨25,true,[ar .u64 m18]⟩),(7001,⟨5,true,[ar .u64 m19]⟩),(16001,⟨25,true,[ar .u64 m20]⟩)]
abbrev vX (m15 m16 m17 m18 m19:List Int) (t6:Int) (s:(List Int)×Int):St:=⟨[(1,.ptr 1000 0 0 1),(2,.ptr 1001 0 0 1),(3,.ptr 2001 0 0 1),(4,.ptr 3001 0 0 1),(5,I t6),(9,.ptr 16001 0 0 1),(10,I s.2)],mR m15 m16 m17 m18 m19 s.1⟩
abbrev vJ (m15 m16 m17 m18 m19:List Int) (t6:Int):((List Int)×Int×Bool)→ah×St:=fun e=>(.exit 6,⟨[(1,.ptr 1000 0 0 1),(2,.ptr 1001 0 0 1),(3,.ptr 2001 0 0 1),(4,.ptr 3001 0 0 1),(5,I t6),(9,.ptr 16001 0 0 1),(10,I e.2.1),(73,B e.2.2)],mR m15 m16 m17 m18 m19 e.1⟩)
theorem Hd {m15 m16 m17 m18 m19 t6 s e} (h:Loop (fi m15 m16 m17 m18 m19 t6) s=some e):aq tab ow (.close [23021]) lJ (vX m15 m16 m17 m18 m19 t6 s)=some (vJ m15 m16 m17 m18 m19 t6 e):=by
 refine lrG (fun s o h=> ?_) h
 obtain ⟨_,_⟩:=s
 simp only [fi] at h
 simp+decide only [vX,vJ,mR,lJ,go_sem,reduceIte,Nat.reduceAdd]
 have d1:= @GJ
 all_goals exact go
def f8 (m34 m35 m36 m37 m38:List Int) (t13 t14:Int):(List Int)×Int→Option (((List Int)×Int)⊕(((List Int)×Int×Bool)))
 | (m33,t15)=>
   br (decide (t15<5)) (
   br (decide (0≤(wrap .i64 (t14+(wrap .i64 (5*t15)))))&&decide ((wrap .i64 (t14+(wrap .i64 (5*t15)))).toNat<25)) (
   (m38[(wrap .i64 (t14+(wrap .i64 (5*t15)))).toNat]?).bind fun x11=>
   br (decide (0≤(wrap .i64 (((wrap .i64 (t14+1)).tmod 5)+(wrap .i64 (5*t15)))))&&decide ((wrap .i64 (((wrap .i64 (t14+1)).tmod 5)+(wrap .i64 (5*t15)))).toNat<25)) (
   (m38[(wrap .i64 (((wrap .i64 (t14+1)).tmod 5)+(wrap .i64 (5*t15)))).toNat]?).bind fun x12=>
   br (decide (0≤(wrap .i64 (((wrap .i64 (t14+2)).tmod 5)+(wrap .i64 (5*t15)))))&&decide ((wrap .i64 (((wrap .i64 (t14+2)).tmod 5)+(wrap .i64 (5*t15)))).toNat<25)) (
   (m38[(wrap .i64 (((wrap .i64 (t14+2)).tmod 5)+(wrap .i64 (5*t15)))).toNat]?).bind fun x13=>
   br (decide (0≤(wrap .i64 (t14+(wrap .i64 (5*t15)))))&&decide ((wrap .i64 (t14+(wrap .i64 (5*t15)))).toNat<25)) (
   br (decide ((wrap .i64 (t14+(wrap .i64 (5*t15)))).toNat<m33.length)) (
   some (.inl ((m33.set ((wrap .i64 (t14+(wrap .i64 (5*t15)))).toNat) (mp .u64 x11 (bp .u64 (bM .u64 x12) x13))),(wrap .i64 (t15+1))))) none) none) none) none) none) (
   some (.inr (m33,t15,decide (t15<5))))
abbrev ne (m34 m35 m36 m37 m38 m33:List Int):List (Nat×Blk):=[(1000,⟨25,true,[ar .u64 m33]⟩),(1001,⟨25,true,[ar .u64 m34]⟩),(2001,⟨24,true,[ar .u64 m35]⟩),(3001,⟨25,true,[ar .u64 m36]⟩),(7001,⟨5,true,[ar .u64 m37]⟩),(16001,⟨25,true,[ar .u64 m38]⟩)]
abbrev vK (m34 m35 m36 m37 m38:List Int) (t13 t14:Int) (s:(List Int)×Int):St:=⟨[(1,.ptr 1000 0 0 1),(2,.ptr 1001 0 0 1),(3,.ptr 2001 0 0 1),(4,.ptr 3001 0 0 1),(5,I t13),(9,.ptr 16001 0 0 1),(12,I t14),(13,I s.2)],ne m34 m35 m36 m37 m38 s.1⟩
abbrev wF (m34 m35 m36 m37 m38:List Int) (t13 t14:Int):((List Int)×Int×Bool)→ah×St:=fun e=>(.exit 12,⟨[(1,.ptr 1000 0 0 1),(2,.ptr 1001 0 0 1),(3,.ptr 2001 0 0 1),(4,.ptr 3001 0 0 1),(5,I t13),(9,.ptr 16001 0 0 1),(12,I t14),(13,I e.2.1),(108,B e.2.2)],ne m34 m35 m36 m37 m38 e.1⟩)
theorem GX {m34 m35 m36 m37 m38 t13 t14 s e} (h:Loop (f8 m34 m35 m36 m37 m38 t13 t14) s=some e):aq tab ow (.close []) lA (vK m34 m35 m36 m37 m38 t13 t14 s)=some (wF m34 m35 m36 m37 m38 t13 t14 e):=by
 refine lrG (fun s o h=> ?_) h
 obtain ⟨_,_⟩:=s
 simp only [f8] at h
 simp+decide only [vK,wF,ne,lA,go_sem,reduceIte,Nat.reduceAdd]
 all_goals exact go
def fe (m28 m29 m30 m31 m32:List Int) (t11:Int):(List Int)×Int→Option (((List Int)×Int)⊕(((List Int)×Int×Bool)))
 | (m27,t12)=>
   br (decide (t12<5)) (
   (Loop (f8 m28 m29 m30 m31 m32 t11 t12) (m27,0)).bind fun e_5=>
   some (.inl (e_5.1,(wrap .i64 (t12+1))))) (
   some (.inr (m27,t12,decide (t12<5))))
abbrev mN (m28 m29 m30 m31 m32 m27:List Int):List (Nat×Blk):=[(1000,⟨25,true,[ar .u64 m27]⟩),(1001,⟨25,true,[ar .u64 m28]⟩),(2001,⟨24,true,[ar .u64 m29]⟩),(3001,⟨25,true,[ar .u64 m30]⟩),(7001,⟨5,true,[ar .u64 m31]⟩),(16001,⟨25,true,[ar .u64 m32]⟩)]
abbrev wG (m28 m29 m30 m31 m32:List Int) (t11:Int) (s:(List Int)×Int):St:=⟨[(1,.ptr 1000 0 0 1),(2,.ptr 1001 0 0 1),(3,.ptr 2001 0 0 1),(4,.ptr 3001 0 0 1),(5,I t11),(9,.ptr 16001 0 0 1),(12,I s.2)],mN m28 m29 m30 m31 m32 s.1⟩
abbrev vO (m28 m29 m30 m31 m32:List Int) (t11:Int):((List Int)×Int×Bool)→ah×St:=fun e=>(.exit 10,⟨[(1,.ptr 1000 0 0 1),(2,.ptr 1001 0 0 1),(3,.ptr 2001 0 0 1),(4,.ptr 3001 0 0 1),(5,I t11),(9,.ptr 16001 0 0 1),(12,I e.2.1),(104,B e.2.2)],mN m28 m29 m30 m31 m32 e.1⟩)
theorem Gs {m28 m29 m30 m31 m32 t11 s e} (h:Loop (fe m28 m29 m30 m31 m32 t11) s=some e):aq tab ow (.close []) mh (wG m28 m29 m30 m31 m32 t11 s)=some (vO m28 m29 m30 m31 m32 t11 e):=by
 refine lrG (fun s o h=> ?_) h
 obtain ⟨_,_⟩:=s
 simp only [fe] at h
 simp+decide only [wG,vO,mN,mh,go_sem,reduceIte,Nat.reduceAdd]
 have d1:= @GX
 all_goals exact go
def f9 (m2 m3 m4:List Int):(List Int)×Int→Option (((List Int)×Int)⊕(((List Int)×Int×Bool)))
 | (m,t)=>
   br (decide (t<24)) (
   (Loop (fb m m2 m3 m4 t) ((nZ 5),0)).bind fun e_=>
   (Loop (f6 m2 m3 m4 e_.1 t) (m,0)).bind fun e_2=>
   (Loop (fi e_2.1 m2 m3 m4 e_.1 t) ((nZ 25),0)).bind fun e_4=>
   (Loop (fe m2 m3 m4 e_.1 e_4.1 t) (e_2.1,0)).bind fun e_6=>
   (e_6.1[0]?).bind fun x14=>
   br (decide (0≤t)&&decide (t.toNat<24)) (
   (m3[t.toNat]?).bind fun x15=>
   br (decide (0<e_6.1.length)) (
   some (.inl ((e_6.1.set 0 (mp .u64 x14 x15)),(wrap .i64 (t+1))))) none) none) (
   some (.inr (m,t,decide (t<24))))
abbrev nb (m2 m3 m4 m:List Int):List (Nat×Blk):=[(1000,⟨25,true,[ar .u64 m]⟩),(1001,⟨25,true,[ar .u64 m2]⟩),(2001,⟨24,true,[ar .u64 m3]⟩),(3001,⟨25,true,[ar .u64 m4]⟩)]
abbrev wk (m2 m3 m4:List Int) (s:(List Int)×Int):St:=⟨[(1,.ptr 1000 0 0 1),(2,.ptr 1001 0 0 1),(3,.ptr 2001 0 0 1),(4,.ptr 3001 0 0 1),(5,I s.2)],nb m2 m3 m4 s.1⟩
abbrev wd (m2 m3 m4:List Int):((List Int)×Int×Bool)→ah×St:=fun e=>(.exit 0,⟨[(1,.ptr 1000 0 0 1),(2,.ptr 1001 0 0 1),(3,.ptr 2001 0 0 1),(4,.ptr 3001 0 0 1),(5,I e.2.1),(17,B e.2.2)],nb m2 m3 m4 e.1⟩)
theorem H8 {m2 m3 m4 s e} (h:Loop (f9 m2 m3 m4) s=some e):aq tab ow (.close [7001,15013,16001,23021]) mY (wk m2 m3 m4 s)=some (wd m2 m3 m4 e):=by
 refine lrG (fun s o h=> ?_) h
 obtain ⟨_,_⟩:=s
 simp only [f9] at h
 simp+decide only [wk,wd,nb,mY,go_sem,reduceIte,Nat.reduceAdd]
 have d1:= @GP
 have d2:= @GA
 have d3:= @Hd
 have d4:= @Gs
 all_goals exact go
def lD (ListtoArray:(List Int)):Option ((List Int)):=
 br (decide (ListtoArray.length=25)) (
 (zU).bind fun r_=>
 br (decide (r_.length=24)) (
 (AO).bind fun r_2=>
 br (decide (r_2.length=25)) (
 (Loop (f9 (nZ 25) r_ r_2) (ListtoArray,0)).bind fun e_7=>
 br (decide (e_7.1.length=25)) (
 br (decide (e_7.1.length=25)) (
 br (decide (e_7.1.length=25)) (
 some e_7.1) none) none) none) none) none) none
theorem Lo {ListtoArray r} (h:lD ListtoArray=some r):Call tab ow 305 [.agg (ar .u64 ListtoArray)] []=some (.agg (ar .u64 r),[]):=by
 rw [aa (af:=lU) rfl]
 unfold lD at h
 simp+decide only [lU,Ax,go_sem,reduceIte,Nat.reduceAdd]
 have d1:= @Pm
 have d2:= @OA
 have d3:= @H8
 all_goals exact go
section
theorem TJ:mkR 2000 []=rws eU8 []:=rfl
attribute [local go_sem] TJ
theorem Ru:mkR 6011 []=rws eU8 []:=rfl
attribute [local go_sem] Ru
def ig (m:List Int) (n2:Int):(List UInt8)×Int→Option (((List UInt8)×Int)⊕(((List UInt8)×Int×Bool)))
 | (l,i)=>
   br (decide (i<n2)) (
   br (decide (0≤(wrap .i64 (i.tdiv 8)))&&decide ((wrap .i64 (i.tdiv 8)).toNat<25)) (
   (m[(wrap .i64 (i.tdiv 8)).toNat]?).bind fun x=>
   br (decide (0≤(wrap .u64 (wrap .i64 (8*(i.tmod 8)))))) (
   br (bW ((l++([(UInt8.ofInt (aJ .u64 x (wrap .u64 (wrap .i64 (8*(i.tmod 8))))))]:List UInt8)).length) 1) (
   some (.inl ((l++([(UInt8.ofInt (aJ .u64 x (wrap .u64 (wrap .i64 (8*(i.tmod 8))))))]:List UInt8)),(wrap .i64 (i+1))))) none) none) none) (
   some (.inr (l,i,decide (i<n2))))
abbrev vq (m:List Int) (l:List UInt8):List (Nat×Blk):=[(1000,⟨25,true,[ar .u64 m]⟩),(2000,⟨1,false,rws eU8 l⟩)]
abbrev Cx (m:List Int) (n2:Int) (s:(List UInt8)×Int):St:=⟨[(1,I n2),(2,.ptr 1000 0 0 1),(5,.sl 2000 0 s.1.length),(6,I s.2)],vq m s.1⟩
abbrev C7 (m:List Int) (n2:Int):((List UInt8)×Int×Bool)→ah×St:=fun e=>(.exit 0,⟨[(1,I n2),(2,.ptr 1000 0 0 1),(5,.sl 2000 0 e.1.length),(6,I e.2.1),(10,B e.2.2)],vq m e.1⟩)
theorem Pd {m n2 s e} (h:Loop (ig m n2) s=some e):aq tab ow (.close [6011,6012]) uX (Cx m n2 s)=some (C7 m n2 e):=by
 refine lrG (fun s o h=> ?_) h
 obtain ⟨_,_⟩:=s
 simp only [ig] at h
 simp+decide only [Cx,C7,vq,uX,go_sem,reduceIte,Nat.reduceAdd]
 all_goals exact go
def wc (a:(List Int)) (n:Int):Option ((List UInt8)):=
 br (decide (a.length=25)) (
 (Loop (ig a n) (([]:List UInt8),0)).bind fun e_=>
 some e_.1) none
theorem X1 {a n r} (h:wc a n=some r):Call tab ow 306 [.agg (ar .u64 a),I n] []=some (S r,[]):=by
 rw [aa (af:=uz) rfl]
 unfold wc at h
 simp+decide only [uz,Ii,go_sem,reduceIte,Nat.reduceAdd]
 have d1:= @Pd
 all_goals exact go
end
section
theorem U6:mkR 2002 []=rws eU8 []:=rfl
attribute [local go_sem] U6
theorem Rr:mkR 4001 []=rws eU8 []:=rfl
attribute [local go_sem] Rr
def g8 (l2:List UInt8):(List UInt8)→Option (((List UInt8))⊕(((List UInt8)×Bool)))
 |l=>
  br ((((l.length:Nat):Int).tmod 136) !=0) (
  br (bW ((l++([(0:UInt8)]:List UInt8)).length) 1) (
  some (.inl (l++([(0:UInt8)]:List UInt8)))) none) (
  some (.inr (l,((((l.length:Nat):Int).tmod 136) !=0))))
abbrev vt (l2 l:List UInt8):List (Nat×Blk):=[(2001,⟨1,false,rws eU8 l⟩),(2002,⟨1,false,rws eU8 l2⟩)]
abbrev CN (l2:List UInt8) (s:(List UInt8)):St:=⟨[(3,.sl 2001 0 s.length)],vt l2 s⟩
abbrev BP (l2:List UInt8):((List UInt8)×Bool)→ah×St:=fun e=>(.exit 0,⟨[(3,.sl 2001 0 e.1.length),(15,B e.2)],vt l2 e.1⟩)
theorem Ow {l2 s e} (h:Loop (g8 l2) s=some e):aq tab ow (.close [4001,4002]) v8 (CN l2 s)=some (BP l2 e):=by
 refine lrG (fun s o h=> ?_) h
 simp only [g8] at h
 simp+decide only [CN,BP,vt,v8,go_sem,reduceIte,Nat.reduceAdd]
 all_goals exact go
def ik (l4:List UInt8) (m4:List Int) (m5:List UInt8) (at_2:Int):(List Int)×Int→Option (((List Int)×Int)⊕(((List Int)×Int×Bool)))
 | (m3,i)=>
   br (decide (i<25)) (
   br (decide (0≤i)&&decide (i.toNat<25)) (
   (m3[i.toNat]?).bind fun x3=>
   br (decide (0≤i)&&decide (i.toNat<25)) (
   (m4[i.toNat]?).bind fun x4=>
   br (decide (0≤i)&&decide (i.toNat<25)) (
   br (decide (i.toNat<m3.length)) (
   some (.inl ((m3.set i.toNat (mp .u64 x3 x4)),(wrap .i64 (i+1))))) none) none) none) none) (
   some (.inr (m3,i,decide (i<25))))
abbrev vn (l4:List UInt8) (m4 m3:List Int):List (Nat×Blk):=[(2002,⟨1,false,rws eU8 l4⟩),(6001,⟨25,true,[ar .u64 m3]⟩),(10007,⟨25,true,[ar .u64 m4]⟩)]
abbrev CR (l4:List UInt8) (m4:List Int) (m5:List UInt8) (at_2:Int) (s:(List Int)×Int):St:=⟨[(3,sl eU8 m5),(4,.ptr 6001 0 0 1),(5,I at_2),(6,.ptr 10007 0 0 1),(7,I s.2)],vn l4 m4 s.1⟩
abbrev D5 (l4:List UInt8) (m4:List Int) (m5:List UInt8) (at_2:Int):((List Int)×Int×Bool)→ah×St:=fun e=>(.exit 4,⟨[(3,sl eU8 m5),(4,.ptr 6001 0 0 1),(5,I at_2),(6,.ptr 10007 0 0 1),(7,I e.2.1),(42,B e.2.2)],vn l4 m4 e.1⟩)
theorem OV {l4 m4 m5 at_2 s e} (h:Loop (ik l4 m4 m5 at_2) s=some e):aq tab ow (.close []) sQ (CR l4 m4 m5 at_2 s)=some (D5 l4 m4 m5 at_2 e):=by
 refine lrG (fun s o h=> ?_) h
 obtain ⟨_,_⟩:=s
 simp only [ik] at h
 simp+decide only [CR,D5,vn,sQ,go_sem,reduceIte,Nat.reduceAdd]
 all_goals exact go
def ij (l3 m2:List UInt8):(List Int)×Int→Option (((List Int)×Int)⊕(((List Int)×Int×Bool)))
 | (m,at_)=>
   br (decide (at_<((m2.length:Nat):Int))) (
   (ny m2 at_ (wrap .i64 (at_+136))).bind fun y=>
   (sE y).bind fun r_=>
   br (decide (r_.length=25)) (
   (Loop (ik l3 r_ m2 at_) (m,0)).bind fun e_2=>
   br (decide (e_2.1.length=25)) (
   (lD e_2.1).bind fun r_2=>
   br (decide (r_2.length=25)&&decide (e_2.1.length=25)) (
   some (.inl (r_2,(wrap .i64 (at_+136))))) none) none) none) (
   some (.inr (m,at_,decide (at_<((m2.length:Nat):Int)))))
abbrev nX (l3:List UInt8) (m:List Int):List (Nat×Blk):=[(2002,⟨1,false,rws eU8 l3⟩),(6001,⟨25,true,[ar .u64 m]⟩)]
abbrev v9 (l3 m2:List UInt8) (s:(List Int)×Int):St:=⟨[(3,sl eU8 m2),(4,.ptr 6001 0 0 1),(5,I s.2)],nX l3 s.1⟩
abbrev BT (l3 m2:List UInt8):((List Int)×Int×Bool)→ah×St:=fun e=>(.exit 2,⟨[(3,sl eU8 m2),(4,.ptr 6001 0 0 1),(5,I e.2.1),(31,B e.2.2)],nX l3 e.1⟩)
theorem Pj {l3 m2 s e} (h:Loop (ij l3 m2) s=some e):aq tab ow (.close [10006,10007,15001,2001]) vi (v9 l3 m2 s)=some (BT l3 m2 e):=by
 refine lrG (fun s o h=> ?_) h
 obtain ⟨_,_⟩:=s
 simp only [ij] at h
 simp+decide only [v9,BT,nX,vi,go_sem,reduceIte,Nat.reduceAdd]
 have d1:= @Sj
 have d2:= @OV
 have d3:= @Lo
 all_goals exact go
def gK (b:(List UInt8)):Option ((List UInt8)):=
 br (bW b.length 1) (
 br (bW ((b++([(1:UInt8)]:List UInt8)).length) 1) (
 (Loop (g8 ([(1:UInt8)]:List UInt8)) (b++([(1:UInt8)]:List UInt8))).bind fun e_=>
 br (decide (0≤(wrap .i64 (((e_.1.length:Nat):Int)-1)))) (
 br (decide ((wrap .i64 (((e_.1.length:Nat):Int)-1)).toNat<e_.1.length)) (
 (e_.1[(wrap .i64 (((e_.1.length:Nat):Int)-1)).toNat]?).bind fun x=>
 br (decide (0≤(wrap .i64 (((e_.1.length:Nat):Int)-1)))) (
 br (decide ((wrap .i64 (((e_.1.length:Nat):Int)-1)).toNat<e_.1.length)) (
 (e_.1[(wrap .i64 (((e_.1.length:Nat):Int)-1)).toNat]?).bind fun x2=>
 (Loop (ij ([(1:UInt8)]:List UInt8) (e_.1.set ((wrap .i64 (((e_.1.length:Nat):Int)-1)).toNat) (UInt8.ofInt (vh .u8 (x.toNat:Int) 128)))) ((nZ 25),0)).bind fun e_3=>
 br (decide (e_3.1.length=25)) (
 (wc e_3.1 32).bind fun r_3=>
 some r_3) none) none) none) none) none) none) none
theorem lu {b r} (h:gK b=some r):Call tab ow 210 [S b] []=some (S r,[]):=by
 rw [aa (af:=u2) rfl]
 unfold gK at h
 simp+decide only [u2,IG,go_sem,reduceIte,Nat.reduceAdd]
 have d1:= @Ow
 have d2:= @Pj
 simp only [v9,nX] at d2
 have d3:= @X1
 all_goals exact go
end
section
theorem N4:mkR 2000 []=rws eU8 []:=rfl
attribute [local go_sem] N4
theorem ML:mkR 6007 []=rws eU8 []:=rfl
attribute [local go_sem] ML
def pH (n2:Int):(List UInt8)×Int→Option (((List UInt8)×Int)⊕(((List UInt8)×Int×Bool)))
 | (l,i)=>
   br (decide (i≥0)) (
   br (decide (0≤(wrap .u64 (wrap .i64 (8*i))))) (
   br (bW ((l++([(UInt8.ofInt (aJ .i64 n2 (wrap .u64 (wrap .i64 (8*i)))))]:List UInt8)).length) 1) (
   some (.inl ((l++([(UInt8.ofInt (aJ .i64 n2 (wrap .u64 (wrap .i64 (8*i)))))]:List UInt8)),(wrap .i64 (i-1))))) none) none) (
   some (.inr (l,i,decide (i≥0))))
abbrev yX (n2:Int) (s:(List UInt8)×Int):St:=⟨[(0,I n2),(5,.sl 2000 0 s.1.length),(6,I s.2)],[(2000,⟨1,false,rws eU8 s.1⟩)]⟩
abbrev zd (n2:Int):((List UInt8)×Int×Bool)→ah×St:=fun e=>(.exit 0,⟨[(0,I n2),(5,.sl 2000 0 e.1.length),(6,I e.2.1),(11,B e.2.2)],[(2000,⟨1,false,rws eU8 e.1⟩)]⟩)
theorem IP {n2 s e} (h:Loop (pH n2) s=some e):aq tab ow (.close [6007,6008]) pA (yX n2 s)=some (zd n2 e):=by
 refine lrG (fun s o h=> ?_) h
 obtain ⟨_,_⟩:=s
 simp only [pH] at h
 simp+decide only [yX,zd,pA,go_sem,reduceIte,Nat.reduceAdd]
 all_goals exact go
def de (n size:Int):Option ((List UInt8)):=
 (Loop (pH n) (([]:List UInt8),(wrap .i64 (size-1)))).bind fun e_=>
 some e_.1
theorem eZ {n size r} (h:de n size=some r):Call tab ow 179 [I n,I size] []=some (sl eU8 r,[]):=by
 rw [aa (af:=o9) rfl]
 unfold de at h
 simp+decide only [o9,CL,go_sem,reduceIte,Nat.reduceAdd]
 have d1:= @IP
 all_goals exact go
end
def fS (s:Source) (t:(List UInt8)):Option (Source):=
 br (bW (s.State.length+(([97,98,115,111,114,98]:List UInt8)).length) 1) (
 (de ((t.length:Nat):Int) 4).bind fun r_=>
 br (bW ((s.State++(([97,98,115,111,114,98]:List UInt8))).length+r_.length) 1) (
 br (bW (((s.State++(([97,98,115,111,114,98]:List UInt8)))++r_).length+t.length) 1) (
 (gK (((s.State++(([97,98,115,111,114,98]:List UInt8)))++r_)++t)).bind fun r_2=>
 some (Source.mk s.Script s.At r_2 0)) none) none) none
theorem jY {s t r} (h:fS s t=some r):Call tab ow 148 [.agg [sl eExt s.Script,I s.At,S s.State,I s.Count],S t] []=some (.agg [sl eExt r.Script,I r.At,S r.State,I r.Count],[]):=by
 rw [aa (af:=o2) rfl]
 unfold fS at h
 simp+decide only [o2,Cn,go_sem,reduceIte,Nat.reduceAdd]
 have d1:= @eZ
 have d2:= @lu
 all_goals exact go
def gG (t2:List UInt8):Int×Int→Option ((Int×Int)⊕((Int×Int×Bool)))
 | (n,i)=>
   br (decide (i<8)) (
   (atL t2 i).bind fun c=>
   some (.inl (((wrap .i64 ((wrap .i64 (n*256))+(wrap .i64 (c.toNat:Int)))).tmod 2130706433),(wrap .i64 (i+1))))) (
   some (.inr (n,i,decide (i<8))))
abbrev AW (t2:List UInt8) (s:Int×Int):St:=⟨[(0,S t2),(3,I s.1),(4,I s.2)],[]⟩
abbrev Al (t2:List UInt8):(Int×Int×Bool)→ah×St:=fun e=>(.exit 0,⟨[(0,S t2),(3,I e.1),(4,I e.2.1),(6,B e.2.2)],[]⟩)
theorem KY {t2 s e} (h:Loop (gG t2) s=some e):aq tab ow (.close []) tv (AW t2 s)=some (Al t2 e):=by
 refine lrG (fun s o h=> ?_) h
 obtain ⟨_,_⟩:=s
 simp only [gG] at h
 simp+decide only [AW,Al,tv,go_sem,reduceIte,Nat.reduceAdd]
 all_goals exact go
def nl (t:(List UInt8)):Option (Int):=
 (Loop (gG t) (0,0)).bind fun e_=>
 some e_.1
theorem SG {t r} (h:nl t=some r):Call tab ow 266 [S t] []=some (I r,[]):=by
 rw [aa (af:=rK) rfl]
 unfold nl at h
 simp+decide only [rK,Gl,go_sem,reduceIte,Nat.reduceAdd]
 have d1:= @KY
 all_goals exact go
def lf (s:Source):Option (Source×Ext):=
 br (decide (((s.Script.length:Nat):Int)>0)) (
 br (decide (((s.Script.length:Nat):Int)≠0)) (
 (atL s.Script (s.At.tmod ((s.Script.length:Nat):Int))).bind fun x=>
 some ((Source.mk s.Script (wrap .i64 (s.At+1)) s.State s.Count),x)) none) (
 br (bW (s.State.length+(([100,114,97,119]:List UInt8)).length) 1) (
 (de s.Count 4).bind fun r_=>
 br (bW ((s.State++(([100,114,97,119]:List UInt8))).length+r_.length) 1) (
 (gK ((s.State++(([100,114,97,119]:List UInt8)))++r_)).bind fun r_2=>
 (ny r_2 0 8).bind fun y=>
 (nl y).bind fun r_3=>
 (ny r_2 8 16).bind fun y2=>
 (nl y2).bind fun r_4=>
 some ((Source.mk s.Script s.At s.State (wrap .i64 (s.Count+1))),(Ext.mk r_3 r_4))) none) none)
theorem Az {s r} (h:lf s=some r):Call tab ow 149 [.agg [sl eExt s.Script,I s.At,S s.State,I s.Count]] []=some (.tup [.agg [sl eExt r.1.Script,I r.1.At,S r.1.State,I r.1.Count],.agg [I r.2.A,I r.2.B]],[]):=by
 rw [aa (af:=uw) rfl]
 unfold lf at h
 simp+decide only [uw,HU,go_sem,reduceIte,Nat.reduceAdd]
 have d1:= @eZ
 have d2:= @lu
 have d3:= @SG
 all_goals exact go
def vp (n low high:Int):Option (Bool):=
 br (decide (low≤n)) (
 some (decide (n≤high))) (
 some false)
theorem yd {n low high r} (h:vp n low high=some r):Call tab ow 62 [I n,I low,I high] []=some (B r,[]):=by
 rw [aa (af:=SE) rfl]
 unfold vp at h
 simp+decide only [SE,a6E,go_sem,reduceIte,Nat.reduceAdd]
 all_goals exact go
def mZ (a:Int):Option (Bool):=
 (vp a 0 2130706432).bind fun r_=>
 some r_
theorem Ig {a r} (h:mZ a=some r):Call tab ow 186 [I a] []=some (B r,[]):=by
 rw [aa (af:=tJ) rfl]
 unfold mZ at h
 simp+decide only [tJ,HM,go_sem,reduceIte,Nat.reduceAdd]
 have d1:= @yd
 all_goals exact go
def nN (a:Ext):Option (Bool):=
 (mZ a.A).bind fun r_=>
 br r_ (
 (mZ a.B).bind fun r_2=>
 some r_2) (
 some false)
theorem Hc {a r} (h:nN a=some r):Call tab ow 91 [.agg [I a.A,I a.B]] []=some (B r,[]):=by
 rw [aa (af:=Bw) rfl]
 unfold nN at h
 simp+decide only [Bw,Ql,go_sem,reduceIte,Nat.reduceAdd]
 have d1:= @Ig
 all_goals exact go
def eQ (x:Ext):Option (Bool):=
 (nN x).bind fun r_=>
 some (!r_)
theorem zy {x r} (h:eQ x=some r):Call tab ow 185 [.agg [I x.A,I x.B],.ptr 0 0 0 1] [⟨1,true,[[.fn 91 []]]⟩]=some (B r,[⟨1,true,[[.fn 91 []]]⟩]):=by
 rw [aa (af:=kG) rfl]
 unfold eQ at h
 simp+decide only [kG,yK,go_sem,reduceIte,Nat.reduceAdd]
 have d1:= @Hc
 all_goals exact go
def aP (s2:List Ext) (t:Int):Int→Option ((Int)⊕(Int⊕(Int×Bool)))
 |t2=>
  br (decide (t2<t)) (
  (atL s2 t2).bind fun x=>
  (eQ x).bind fun r_=>
  br r_ (
  some (.inr (.inl t2))) (
  some (.inl (wrap .i64 (t2+1))))) (
  some (.inr (.inr (t2,decide (t2<t)))))
abbrev cp (s2:List Ext) (t s:Int):St:=⟨[(0,sl eExt s2),(1,.fn 185 [.ptr 0 0 0 1]),(7,I t),(8,I s)],[(0,⟨1,true,[[.fn 91 []]]⟩)]⟩
abbrev cr (s2:List Ext) (t:Int):(Int⊕(Int×Bool))→ah×St:=alt (fun e=>((.ret,⟨[(4,I e)],[(0,⟨1,true,[[.fn 91 []]]⟩)]⟩):ah×St)) (fun e=>(.exit 0,⟨[(0,sl eExt s2),(1,.fn 185 [.ptr 0 0 0 1]),(7,I t),(8,I e.1),(9,B e.2)],[(0,⟨1,true,[[.fn 91 []]]⟩)]⟩))
theorem fg {s2 t s e} (h:Loop (aP s2 t) s=some e):aq tab ow (.close [5005]) dm (cp s2 t s)=some (cr s2 t e):=by
 refine lrG (fun s o h=> ?_) h
 simp only [aP] at h
 simp+decide only [cp,cr,dm,go_sem,reduceIte,Nat.reduceAdd]
 have d1:= @zy
 all_goals exact go
def aW (s:(List Ext)):Option (Int):=
 (Loop (aP s ((s.length:Nat):Int)) 0).bind (alt (fun e_2=>
 some e_2) (fun e_3=>
 some (-1:Int)))
theorem fD {s r} (h:aW s=some r):Call tab ow 292 [sl eExt s,.fn 185 [.ptr 0 0 0 1]] [⟨1,true,[[.fn 91 []]]⟩]=some (I r,[⟨1,true,[[.fn 91 []]]⟩]):=by
 rw [aa (af:=cv) rfl]
 unfold aW at h
 simp+decide only [cv,gb,go_sem,reduceIte,Nat.reduceAdd]
 have d1:= @fg
 all_goals exact go
def aR (s:(List Ext)):Option (Bool):=
 (aW s).bind fun r_=>
 some (decide (r_≥0))
theorem eT {s r} (h:aR s=some r):Call tab ow 184 [sl eExt s,.fn 185 [.ptr 0 0 0 1]] [⟨1,true,[[.fn 91 []]]⟩]=some (B r,[⟨1,true,[[.fn 91 []]]⟩]):=by
 rw [aa (af:=bZ) rfl]
 unfold aR at h
 simp+decide only [bZ,fq,go_sem,reduceIte,Nat.reduceAdd]
 have d1:= @fD
 all_goals exact go
def dx (list:(List Ext)):Option (Bool):=
 (aR list).bind fun r_=>
 some (!r_)
theorem jI {list r} (h:dx list=some r):Call tab ow 90 [.fn 91 [],sl eExt list] []=some (B r,[]):=by
 rw [aa (af:=nU) rfl]
 unfold dx at h
 simp+decide only [nU,CE,go_sem,reduceIte,Nat.reduceAdd]
 have d1:= @eT
 all_goals exact go
def Mt (a b:Int):Option (Int):=
 some ((wrap .i64 ((wrap .i64 (a-b))+2130706433)).tmod 2130706433)
theorem a0m {a b r} (h:Mt a b=some r):Call tab ow 274 [I a,I b] []=some (I r,[]):=by
 rw [aa (af:=JQ) rfl]
 unfold Mt at h
 simp+decide only [JQ,ZN,go_sem,reduceIte,Nat.reduceAdd]
 all_goals exact go
def dZ (a b:Ext):Option (Ext):=
 (Mt a.A b.A).bind fun r_=>
 (Mt a.B b.B).bind fun r_2=>
 some (Ext.mk r_ r_2)
theorem io {a b r} (h:dZ a b=some r):Call tab ow 155 [.agg [I a.A,I a.B],.agg [I b.A,I b.B]] []=some (.agg [I r.A,I r.B],[]):=by
 rw [aa (af:=og) rfl]
 unfold dZ at h
 simp+decide only [og,CV,go_sem,reduceIte,Nat.reduceAdd]
 have d1:= @a0m
 all_goals exact go
def pD (x:Int):Option (Int):=
 br (decide (x≥4294967296)) (
 br (decide ((aJ .u64 x 32)≥65536)) (
 br (decide ((aJ .u64 (aJ .u64 x 32) 16)≥256)) (
 (atL (([0,1,2,2,3,3,3,3,4,4,4,4,4,4,4,4,5,5,5,5,5,5,5,5,5,5,5,5,5,5,5,5,6,6,6,6,6,6,6,6,6,6,6,6,6,6,6,6,6,6,6,6,6,6,6,6,6,6,6,6,6,6,6,6,7,7,7,7,7,7,7,7,7,7,7,7,7,7,7,7,7,7,7,7,7,7,7,7,7,7,7,7,7,7,7,7,7,7,7,7,7,7,7,7,7,7,7,7,7,7,7,7,7,7,7,7,7,7,7,7,7,7,7,7,7,7,7,7,8,8,8,8,8,8,8,8,8,8,8,8,8,8,8,8,8,8,8,8,8,8,8,8,8,8,8,8,8,8,8,8,8,8,8,8,8,8,8,8,8,8,8,8,8,8,8,8,8,8,8,8,8,8,8,8,8,8,8,8,8,8,8,8,8,8,8,8,8,8,8,8,8,8,8,8,8,8,8,8,8,8,8,8,8,8,8,8,8,8,8,8,8,8,8,8,8,8,8,8,8,8,8,8,8,8,8,8,8,8,8,8,8,8,8,8,8,8,8,8,8,8,8,8,8,8,8,8]:List UInt8)) (wrap .u8 (aJ .u64 (aJ .u64 (aJ .u64 x 32) 16) 8))).bind fun c=>
 some (wrap .i64 (56+(wrap .i64 (c.toNat:Int))))) (
 (atL (([0,1,2,2,3,3,3,3,4,4,4,4,4,4,4,4,5,5,5,5,5,5,5,5,5,5,5,5,5,5,5,5,6,6,6,6,6,6,6,6,6,6,6,6,6,6,6,6,6,6,6,6,6,6,6,6,6,6,6,6,6,6,6,6,7,7,7,7,7,7,7,7,7,7,7,7,7,7,7,7,7,7,7,7,7,7,7,7,7,7,7,7,7,7,7,7,7,7,7,7,7,7,7,7,7,7,7,7,7,7,7,7,7,7,7,7,7,7,7,7,7,7,7,7,7,7,7,7,8,8,8,8,8,8,8,8,8,8,8,8,8,8,8,8,8,8,8,8,8,8,8,8,8,8,8,8,8,8,8,8,8,8,8,8,8,8,8,8,8,8,8,8,8,8,8,8,8,8,8,8,8,8,8,8,8,8,8,8,8,8,8,8,8,8,8,8,8,8,8,8,8,8,8,8,8,8,8,8,8,8,8,8,8,8,8,8,8,8,8,8,8,8,8,8,8,8,8,8,8,8,8,8,8,8,8,8,8,8,8,8,8,8,8,8,8,8,8,8,8,8,8,8,8,8,8,8]:List UInt8)) (wrap .u8 (aJ .u64 (aJ .u64 x 32) 16))).bind fun c2=>
 some (wrap .i64 (48+(wrap .i64 (c2.toNat:Int)))))) (
 br (decide ((aJ .u64 x 32)≥256)) (
 (atL (([0,1,2,2,3,3,3,3,4,4,4,4,4,4,4,4,5,5,5,5,5,5,5,5,5,5,5,5,5,5,5,5,6,6,6,6,6,6,6,6,6,6,6,6,6,6,6,6,6,6,6,6,6,6,6,6,6,6,6,6,6,6,6,6,7,7,7,7,7,7,7,7,7,7,7,7,7,7,7,7,7,7,7,7,7,7,7,7,7,7,7,7,7,7,7,7,7,7,7,7,7,7,7,7,7,7,7,7,7,7,7,7,7,7,7,7,7,7,7,7,7,7,7,7,7,7,7,7,8,8,8,8,8,8,8,8,8,8,8,8,8,8,8,8,8,8,8,8,8,8,8,8,8,8,8,8,8,8,8,8,8,8,8,8,8,8,8,8,8,8,8,8,8,8,8,8,8,8,8,8,8,8,8,8,8,8,8,8,8,8,8,8,8,8,8,8,8,8,8,8,8,8,8,8,8,8,8,8,8,8,8,8,8,8,8,8,8,8,8,8,8,8,8,8,8,8,8,8,8,8,8,8,8,8,8,8,8,8,8,8,8,8,8,8,8,8,8,8,8,8,8,8,8,8,8,8]:List UInt8)) (wrap .u8 (aJ .u64 (aJ .u64 x 32) 8))).bind fun c3=>
 some (wrap .i64 (40+(wrap .i64 (c3.toNat:Int))))) (
 (atL (([0,1,2,2,3,3,3,3,4,4,4,4,4,4,4,4,5,5,5,5,5,5,5,5,5,5,5,5,5,5,5,5,6,6,6,6,6,6,6,6,6,6,6,6,6,6,6,6,6,6,6,6,6,6,6,6,6,6,6,6,6,6,6,6,7,7,7,7,7,7,7,7,7,7,7,7,7,7,7,7,7,7,7,7,7,7,7,7,7,7,7,7,7,7,7,7,7,7,7,7,7,7,7,7,7,7,7,7,7,7,7,7,7,7,7,7,7,7,7,7,7,7,7,7,7,7,7,7,8,8,8,8,8,8,8,8,8,8,8,8,8,8,8,8,8,8,8,8,8,8,8,8,8,8,8,8,8,8,8,8,8,8,8,8,8,8,8,8,8,8,8,8,8,8,8,8,8,8,8,8,8,8,8,8,8,8,8,8,8,8,8,8,8,8,8,8,8,8,8,8,8,8,8,8,8,8,8,8,8,8,8,8,8,8,8,8,8,8,8,8,8,8,8,8,8,8,8,8,8,8,8,8,8,8,8,8,8,8,8,8,8,8,8,8,8,8,8,8,8,8,8,8,8,8,8,8]:List UInt8)) (wrap .u8 (aJ .u64 x 32))).bind fun c4=>
 some (wrap .i64 (32+(wrap .i64 (c4.toNat:Int))))))) (
 br (decide (x≥65536)) (
 br (decide ((aJ .u64 x 16)≥256)) (
 (atL (([0,1,2,2,3,3,3,3,4,4,4,4,4,4,4,4,5,5,5,5,5,5,5,5,5,5,5,5,5,5,5,5,6,6,6,6,6,6,6,6,6,6,6,6,6,6,6,6,6,6,6,6,6,6,6,6,6,6,6,6,6,6,6,6,7,7,7,7,7,7,7,7,7,7,7,7,7,7,7,7,7,7,7,7,7,7,7,7,7,7,7,7,7,7,7,7,7,7,7,7,7,7,7,7,7,7,7,7,7,7,7,7,7,7,7,7,7,7,7,7,7,7,7,7,7,7,7,7,8,8,8,8,8,8,8,8,8,8,8,8,8,8,8,8,8,8,8,8,8,8,8,8,8,8,8,8,8,8,8,8,8,8,8,8,8,8,8,8,8,8,8,8,8,8,8,8,8,8,8,8,8,8,8,8,8,8,8,8,8,8,8,8,8,8,8,8,8,8,8,8,8,8,8,8,8,8,8,8,8,8,8,8,8,8,8,8,8,8,8,8,8,8,8,8,8,8,8,8,8,8,8,8,8,8,8,8,8,8,8,8,8,8,8,8,8,8,8,8,8,8,8,8,8,8,8,8]:List UInt8)) (wrap .u8 (aJ .u64 (aJ .u64 x 16) 8))).bind fun c5=>
 some (wrap .i64 (24+(wrap .i64 (c5.toNat:Int))))) (
 (atL (([0,1,2,2,3,3,3,3,4,4,4,4,4,4,4,4,5,5,5,5,5,5,5,5,5,5,5,5,5,5,5,5,6,6,6,6,6,6,6,6,6,6,6,6,6,6,6,6,6,6,6,6,6,6,6,6,6,6,6,6,6,6,6,6,7,7,7,7,7,7,7,7,7,7,7,7,7,7,7,7,7,7,7,7,7,7,7,7,7,7,7,7,7,7,7,7,7,7,7,7,7,7,7,7,7,7,7,7,7,7,7,7,7,7,7,7,7,7,7,7,7,7,7,7,7,7,7,7,8,8,8,8,8,8,8,8,8,8,8,8,8,8,8,8,8,8,8,8,8,8,8,8,8,8,8,8,8,8,8,8,8,8,8,8,8,8,8,8,8,8,8,8,8,8,8,8,8,8,8,8,8,8,8,8,8,8,8,8,8,8,8,8,8,8,8,8,8,8,8,8,8,8,8,8,8,8,8,8,8,8,8,8,8,8,8,8,8,8,8,8,8,8,8,8,8,8,8,8,8,8,8,8,8,8,8,8,8,8,8,8,8,8,8,8,8,8,8,8,8,8,8,8,8,8,8,8]:List UInt8)) (wrap .u8 (aJ .u64 x 16))).bind fun c6=>
 some (wrap .i64 (16+(wrap .i64 (c6.toNat:Int)))))) (
 br (decide (x≥256)) (
 (atL (([0,1,2,2,3,3,3,3,4,4,4,4,4,4,4,4,5,5,5,5,5,5,5,5,5,5,5,5,5,5,5,5,6,6,6,6,6,6,6,6,6,6,6,6,6,6,6,6,6,6,6,6,6,6,6,6,6,6,6,6,6,6,6,6,7,7,7,7,7,7,7,7,7,7,7,7,7,7,7,7,7,7,7,7,7,7,7,7,7,7,7,7,7,7,7,7,7,7,7,7,7,7,7,7,7,7,7,7,7,7,7,7,7,7,7,7,7,7,7,7,7,7,7,7,7,7,7,7,8,8,8,8,8,8,8,8,8,8,8,8,8,8,8,8,8,8,8,8,8,8,8,8,8,8,8,8,8,8,8,8,8,8,8,8,8,8,8,8,8,8,8,8,8,8,8,8,8,8,8,8,8,8,8,8,8,8,8,8,8,8,8,8,8,8,8,8,8,8,8,8,8,8,8,8,8,8,8,8,8,8,8,8,8,8,8,8,8,8,8,8,8,8,8,8,8,8,8,8,8,8,8,8,8,8,8,8,8,8,8,8,8,8,8,8,8,8,8,8,8,8,8,8,8,8,8,8]:List UInt8)) (wrap .u8 (aJ .u64 x 8))).bind fun c7=>
 some (wrap .i64 (8+(wrap .i64 (c7.toNat:Int))))) (
 (atL (([0,1,2,2,3,3,3,3,4,4,4,4,4,4,4,4,5,5,5,5,5,5,5,5,5,5,5,5,5,5,5,5,6,6,6,6,6,6,6,6,6,6,6,6,6,6,6,6,6,6,6,6,6,6,6,6,6,6,6,6,6,6,6,6,7,7,7,7,7,7,7,7,7,7,7,7,7,7,7,7,7,7,7,7,7,7,7,7,7,7,7,7,7,7,7,7,7,7,7,7,7,7,7,7,7,7,7,7,7,7,7,7,7,7,7,7,7,7,7,7,7,7,7,7,7,7,7,7,8,8,8,8,8,8,8,8,8,8,8,8,8,8,8,8,8,8,8,8,8,8,8,8,8,8,8,8,8,8,8,8,8,8,8,8,8,8,8,8,8,8,8,8,8,8,8,8,8,8,8,8,8,8,8,8,8,8,8,8,8,8,8,8,8,8,8,8,8,8,8,8,8,8,8,8,8,8,8,8,8,8,8,8,8,8,8,8,8,8,8,8,8,8,8,8,8,8,8,8,8,8,8,8,8,8,8,8,8,8,8,8,8,8,8,8,8,8,8,8,8,8,8,8,8,8,8,8]:List UInt8)) (wrap .u8 x)).bind fun c8=>
 some (wrap .i64 (0+(wrap .i64 (c8.toNat:Int)))))))
theorem Fa {x r} (h:pD x=some r):Call tab ow 356 [.lit (.int .u64 x)] []=some (I r,[]):=by
 rw [aa (af:=iy) rfl]
 unfold pD at h
 simp+decide only [iy,u3,go_sem,reduceIte,Nat.reduceAdd]
 all_goals exact go
def vy (x:Int):Option (Int):=
 (pD x).bind fun r_=>
 some r_
theorem JI {x r} (h:vy x=some r):Call tab ow 333 [.lit (.int .u64 x)] []=some (I r,[]):=by
 rw [aa (af:=kI) rfl]
 unfold vy at h
 simp+decide only [kI,yy,go_sem,reduceIte,Nat.reduceAdd]
 have d1:= @Fa
 all_goals exact go
def Ew (n:Int):Option (Int):=
 (vy (wrap .u64 n)).bind fun r_=>
 some (wrap .i64 (r_-1))
theorem PP {n r} (h:Ew n=some r):Call tab ow 273 [I n] []=some (I r,[]):=by
 rw [aa (af:=Bk) rfl]
 unfold Ew at h
 simp+decide only [Bk,Q5,go_sem,reduceIte,Nat.reduceAdd]
 have d1:= @JI
 all_goals exact go
def sM (a b:Int):Option (Int):=
 some ((wrap .i64 (a*b)).tmod 2130706433)
theorem JP {a b r} (h:sM a b=some r):Call tab ow 291 [I a,I b] []=some (I r,[]):=by
 rw [aa (af:=K0) rfl]
 unfold sM at h
 simp+decide only [K0,ZY,go_sem,reduceIte,Nat.reduceAdd]
 all_goals exact go
def rQ:Int×Int×Int→Option ((Int×Int×Int)⊕((Int×Int×Int×Bool)))
 | (a2,n2,out)=>
   br (decide (n2>0)) (
   br ((bp .i64 n2 1)==1) (
   (sM out a2).bind fun r_=>
   (sM a2 a2).bind fun r_2=>
   some (.inl (r_2,(aJ .i64 n2 1),r_))) (
   (sM a2 a2).bind fun r_3=>
   some (.inl (r_3,(aJ .i64 n2 1),out)))) (
   some (.inr (a2,n2,out,decide (n2>0))))
abbrev Qo (s:Int×Int×Int):St:=⟨[(0,I s.1),(1,I s.2.1),(5,I s.2.2)],[]⟩
abbrev Qw:(Int×Int×Int×Bool)→ah×St:=fun e=>(.exit 0,⟨[(0,I e.1),(1,I e.2.1),(5,I e.2.2.1),(7,B e.2.2.2)],[]⟩)
theorem a0B { s e} (h:Loop (rQ) s=some e):aq tab ow (.close [6002,7002]) GK (Qo s)=some (Qw e):=by
 refine lrG (fun s o h=> ?_) h
 obtain ⟨_,_,_⟩:=s
 simp only [rQ] at h
 simp+decide only [Qo,Qw,GK,go_sem,reduceIte,Nat.reduceAdd]
 have d1:= @JP
 all_goals exact go
def M5 (a n:Int):Option (Int):=
 (Loop (rQ) (a,n,1)).bind fun e_=>
 some e_.2.2.1
theorem RP {a n r} (h:M5 a n=some r):Call tab ow 332 [I a,I n] []=some (I r,[]):=by
 rw [aa (af:=JS) rfl]
 unfold M5 at h
 simp+decide only [JS,ZH,go_sem,reduceIte,Nat.reduceAdd]
 have d1:= @a0B
 all_goals exact go
def MV (k:Int):Option (Int):=
 br (decide (0≤(wrap .i64 (24-k)))) (
 (M5 3 (aB .i64 127 (wrap .i64 (24-k)))).bind fun r_=>
 some r_) none
theorem a6a {k r} (h:MV k=some r):Call tab ow 272 [I k] []=some (I r,[]):=by
 rw [aa (af:=Fv) rfl]
 unfold MV at h
 simp+decide only [Fv,Up,go_sem,reduceIte,Nat.reduceAdd]
 have d1:= @RP
 all_goals exact go
def dJ (l:List Ext):Option (List Ext):=br (bW l.length 16) (some l) none
theorem rD (x:Ext) (l:List Ext) (hf:bW (x::l).length 16=true):Call (JG 162 aw) KS 162 [sl eExt (x::l)] []=some (.sl 0 0 (x::l).length,[⟨2,false,rws eExt (x::l)⟩]):=by
 rw [aa (af:=aw) (H6 _ _)]
 rw [List.length_cons] at hf
 simp+decide only [aw,eV,fun k=>mk0 eExt k,Wl,go_sem,reduceIte,Nat.reduceAdd,hf]
theorem qz {l r:List Ext} (h:dJ l=some r):Call tab ow 162 [sl eExt l] []=some (.sl 0 0 r.length,[⟨2,false,rws eExt r⟩]):=by
 unfold dJ at h
 obtain ⟨hb,h⟩:=brg h
 cases h
 rw [a3V (g:=SQ 162 aw 2) rfl]
 cases l with
 |nil=>rfl
 |cons x l=>exact rD x l hb
end
end Go.AI.Fn
set_option linter.unusedVariables false
set_option linter.unusedSimpArgs false
set_option maxRecDepth 100000
set_option maxHeartbeats 1000000
namespace Go.AI.Fn
noncomputable section
open IntKind (wrap)
def dW (a:Ext) (n:Int):Option (Ext):=
 (sM a.A n).bind fun r_=>
 (sM a.B n).bind fun r_2=>
 some (Ext.mk r_ r_2)
theorem iO {a n r} (h:dW a n=some r):Call tab ow 331 [.agg [I a.A,I a.B],I n] []=some (.agg [I r.A,I r.B],[]):=by
 rw [aa (af:=lH) rfl]
 unfold dW at h
 simp+decide only [lH,A7,go_sem,reduceIte,Nat.reduceAdd]
 have d1:= @JP
 all_goals exact go
def In (a b:Int):Option (Int):=
 some ((wrap .i64 (a+b)).tmod 2130706433)
theorem ZP {a b r} (h:In a b=some r):Call tab ow 192 [I a,I b] []=some (I r,[]):=by
 rw [aa (af:=JT) rfl]
 unfold In at h
 simp+decide only [JT,a0w,go_sem,reduceIte,Nat.reduceAdd]
 all_goals exact go
def cZ (a b:Ext):Option (Ext):=
 (In a.A b.A).bind fun r_=>
 (In a.B b.B).bind fun r_2=>
 some (Ext.mk r_ r_2)
theorem dS {a b r} (h:cZ a b=some r):Call tab ow 94 [.agg [I a.A,I a.B],.agg [I b.A,I b.B]] []=some (.agg [I r.A,I r.B],[]):=by
 rw [aa (af:=rk) rfl]
 unfold cZ at h
 simp+decide only [rk,Fp,go_sem,reduceIte,Nat.reduceAdd]
 have d1:= @ZP
 all_goals exact go
section
theorem V8:mkR 2012 []=rws eU8 []:=rfl
attribute [local go_sem] V8
def gz (n:Int) (l:List UInt8):Option ((List UInt8)):=
 br (bW ((l++([(UInt8.ofInt (aJ .i64 n 24)),(UInt8.ofInt (aJ .i64 n 16)),(UInt8.ofInt (aJ .i64 n 8)),(UInt8.ofInt n)]:List UInt8)).length) 1) (
 some (l++([(UInt8.ofInt (aJ .i64 n 24)),(UInt8.ofInt (aJ .i64 n 16)),(UInt8.ofInt (aJ .i64 n 8)),(UInt8.ofInt n)]:List UInt8))) none
theorem j2 {n l r} (h:gz n l=some r):Call tab ow 169 [.sl 0 0 l.length,I n] [⟨1,false,rws eU8 l⟩]=some (.sl 0 0 r.length,[⟨1,false,rws eU8 r⟩]):=by
 rw [aa (af:=vL) rfl]
 unfold gz at h
 simp+decide only [vL,LB,go_sem,reduceIte,Nat.reduceAdd]
 all_goals exact go
end
section
theorem OY:mkR 2000 []=rws eU8 []:=rfl
attribute [local go_sem] OY
def gF (t:List Ext) (t2:Int):(List UInt8)×Int→Option (((List UInt8)×Int)⊕(((List UInt8)×Int×Bool)))
 | (l,t3)=>
   br (decide (t3<t2)) (
   (atL t t3).bind fun x=>
   (gz x.A l).bind fun r_=>
   (gz x.B r_).bind fun r_2=>
   some (.inl (r_2,(wrap .i64 (t3+1))))) (
   some (.inr (l,t3,decide (t3<t2))))
abbrev zK (t:List Ext) (t2:Int) (s:(List UInt8)×Int):St:=⟨[(3,.sl 2000 0 s.1.length),(7,sl eExt t),(8,I t2),(9,I s.2)],[(2000,⟨1,false,rws eU8 s.1⟩)]⟩
abbrev A5 (t:List Ext) (t2:Int):((List UInt8)×Int×Bool)→ah×St:=fun e=>(.exit 0,⟨[(3,.sl 2000 0 e.1.length),(7,sl eExt t),(8,I t2),(9,I e.2.1),(10,B e.2.2)],[(2000,⟨1,false,rws eU8 e.1⟩)]⟩)
theorem MC {t t2 s e} (h:Loop (gF t t2) s=some e):aq tab ow (.close [5002,6003,6006]) tC (zK t t2 s)=some (A5 t t2 e):=by
 refine lrG (fun s o h=> ?_) h
 obtain ⟨_,_⟩:=s
 simp only [gF] at h
 simp+decide only [zK,A5,tC,go_sem,reduceIte,Nat.reduceAdd]
 have d1:= @j2
 all_goals exact go
def mT (list:(List Ext)):Option ((List UInt8)):=
 (Loop (gF list ((list.length:Nat):Int)) (([]:List UInt8),0)).bind fun e_=>
 some e_.1
theorem Ez {list r} (h:mT list=some r):Call tab ow 270 [sl eExt list] []=some (sl eU8 r,[]):=by
 rw [aa (af:=re) rfl]
 unfold mT at h
 simp+decide only [re,Ex,go_sem,reduceIte,Nat.reduceAdd]
 have d1:= @MC
 all_goals exact go
end
def su (leaf:(List UInt8)):Option ((List UInt8)):=
 br (bW ((([0]:List UInt8)).length+leaf.length) 1) (
 some ((([0]:List UInt8))++leaf)) none
theorem RA {leaf r} (h:su leaf=some r):Call tab ow 268 [S leaf] []=some (S r,[]):=by
 rw [aa (af:=qM) rfl]
 unfold su at h
 simp+decide only [qM,FL,go_sem,reduceIte,Nat.reduceAdd]
 all_goals exact go
def ii (m:List Int) (t:List UInt8) (t2:Int):(List Int)×Int→Option (((List Int)×Int)⊕(((List Int)×Int×Bool)))
 | (m2,t3)=>
   br (decide (t3<t2)) (
   (atL t t3).bind fun x=>
   br (decide (0≤(wrap .i64 (t3.tdiv 8)))&&decide ((wrap .i64 (t3.tdiv 8)).toNat<25)) (
   (m2[(wrap .i64 (t3.tdiv 8)).toNat]?).bind fun x2=>
   br (decide (0≤(wrap .i64 (8*(t3.tmod 8))))) (
   br (decide (0≤(wrap .i64 (t3.tdiv 8)))&&decide ((wrap .i64 (t3.tdiv 8)).toNat<25)) (
   br (decide ((wrap .i64 (t3.tdiv 8)).toNat<m2.length)) (
   some (.inl ((m2.set ((wrap .i64 (t3.tdiv 8)).toNat) (vh .u64 x2 (aB .u64 (wrap .u64 (x.toNat:Int)) (wrap .i64 (8*(t3.tmod 8)))))),(wrap .i64 (t3+1))))) none) none) none) none) (
   some (.inr (m2,t3,decide (t3<t2))))
abbrev vg (m m2:List Int):List (Nat×Blk):=[(1000,⟨25,true,[ar .u64 m]⟩),(2001,⟨25,true,[ar .u64 m2]⟩)]
abbrev CG (m:List Int) (t:List UInt8) (t2:Int) (s:(List Int)×Int):St:=⟨[(2,.ptr 1000 0 0 1),(3,.ptr 2001 0 0 1),(7,sl eU8 t),(8,I t2),(9,I s.2)],vg m s.1⟩
abbrev C6 (m:List Int) (t:List UInt8) (t2:Int):((List Int)×Int×Bool)→ah×St:=fun e=>(.exit 0,⟨[(2,.ptr 1000 0 0 1),(3,.ptr 2001 0 0 1),(7,sl eU8 t),(8,I t2),(9,I e.2.1),(10,B e.2.2)],vg m e.1⟩)
theorem OX {m t t2 s e} (h:Loop (ii m t t2) s=some e):aq tab ow (.close []) uU (CG m t t2 s)=some (C6 m t t2 e):=by
 refine lrG (fun s o h=> ?_) h
 obtain ⟨_,_⟩:=s
 simp only [ii] at h
 simp+decide only [CG,C6,vg,uU,go_sem,reduceIte,Nat.reduceAdd]
 all_goals exact go
def wu (state:(List UInt8)):Option ((List Int)):=
 (Loop (ii (nZ 25) state ((state.length:Nat):Int)) ((nZ 25),0)).bind fun e_=>
 br (decide (e_.1.length=25)) (
 br (decide (e_.1.length=25)) (
 br (decide (e_.1.length=25)) (
 some e_.1) none) none) none
theorem Wu {state r} (h:wu state=some r):Call tab ow 193 [sl eU8 state] []=some (.agg (ar .u64 r),[]):=by
 rw [aa (af:=tP) rfl]
 unfold wu at h
 simp+decide only [tP,HD,go_sem,reduceIte,Nat.reduceAdd]
 have d1:= @OX
 all_goals exact go
def cC (x k:Int):Option (Int):=
 br (decide (0≤(bp .u64 (wrap .u64 k) 63))) (
 br (decide (0≤(wrap .u64 (64-(bp .u64 (wrap .u64 k) 63))))) (
 some (vh .u64 (aB .u64 x (bp .u64 (wrap .u64 k) 63)) (aJ .u64 x (wrap .u64 (64-(bp .u64 (wrap .u64 k) 63)))))) none) none
theorem vm {x k r} (h:cC x k=some r):Call tab ow 297 [.lit (.int .u64 x),I k] []=some (.lit (.int .u64 r),[]):=by
 rw [aa (af:=dV) rfl]
 unfold cC at h
 simp+decide only [dV,ki,go_sem,reduceIte,Nat.reduceAdd]
 all_goals exact go
def dB (m5 m6 m7 m9:List Int) (t3:Int) (t4:List Int) (t5:Int):(List Int)×Int→Option (((List Int)×Int)⊕(((List Int)×Int×Bool)))
 | (m8,t6)=>
   br (decide (t6<25)) (
   br (decide (0≤t6)&&decide (t6.toNat<25)) (
   (m5[t6.toNat]?).bind fun x2=>
   br (decide (0≤(t6.tmod 5))&&decide ((t6.tmod 5).toNat<5)) (
   (m8[(t6.tmod 5).toNat]?).bind fun x3=>
   br (decide (0≤(t6.tmod 5))&&decide ((t6.tmod 5).toNat<5)) (
   br (decide ((t6.tmod 5).toNat<m8.length)) (
   some (.inl ((m8.set ((t6.tmod 5).toNat) (mp .u64 x3 x2)),(wrap .i64 (t6+1))))) none) none) none) none) (
   some (.inr (m8,t6,decide (t6<25))))
abbrev jG (m5 m6 m7 m9 m8:List Int):List (Nat×Blk):=[(0,⟨25,true,[ar .u64 m5]⟩),(1001,⟨25,true,[ar .i64 m6]⟩),(2001,⟨24,true,[ar .u64 m7]⟩),(6002,⟨5,true,[ar .u64 m8]⟩),(6003,⟨25,true,[ar .u64 m9]⟩)]
abbrev qd (m5 m6 m7 m9:List Int) (t3:Int) (t4:List Int) (t5:Int) (s:(List Int)×Int):St:=⟨[(0,.ptr 0 0 0 1),(2,.ptr 1001 0 0 1),(5,.lit (.int .u64 t3)),(6,.ptr 6002 0 0 1),(7,.ptr 6003 0 0 1),(20,.agg (ar .u64 t4)),(21,I t5),(26,.ptr 0 0 0 1),(27,I s.2)],jG m5 m6 m7 m9 s.1⟩
abbrev qv (m5 m6 m7 m9:List Int) (t3:Int) (t4:List Int) (t5:Int):((List Int)×Int×Bool)→ah×St:=fun e=>(.exit 2,⟨[(0,.ptr 0 0 0 1),(2,.ptr 1001 0 0 1),(5,.lit (.int .u64 t3)),(6,.ptr 6002 0 0 1),(7,.ptr 6003 0 0 1),(20,.agg (ar .u64 t4)),(21,I t5),(26,.ptr 0 0 0 1),(27,I e.2.1),(28,B e.2.2)],jG m5 m6 m7 m9 e.1⟩)
theorem BI {m5 m6 m7 m9 t3 t4 t5 s e} (h:Loop (dB m5 m6 m7 m9 t3 t4 t5) s=some e):aq tab ow (.close []) jP (qd m5 m6 m7 m9 t3 t4 t5 s)=some (qv m5 m6 m7 m9 t3 t4 t5 e):=by
 refine lrG (fun s o h=> ?_) h
 obtain ⟨_,_⟩:=s
 simp only [dB] at h
 simp+decide only [qd,qv,jG,jP,go_sem,reduceIte,Nat.reduceAdd]
 all_goals exact go
def dy (m10 m11 m12 m13:List Int) (t7:Int) (t8:List Int) (t9:Int):(List Int)×Int→Option (((List Int)×Int)⊕(((List Int)×Int×Bool)))
 | (m14,t10)=>
   br (decide (t10<25)) (
   br (decide (0≤t10)&&decide (t10.toNat<25)) (
   (m10[t10.toNat]?).bind fun x4=>
   br (decide (0≤((wrap .i64 ((t10.tmod 5)+4)).tmod 5))&&decide (((wrap .i64 ((t10.tmod 5)+4)).tmod 5).toNat<5)) (
   (m13[((wrap .i64 ((t10.tmod 5)+4)).tmod 5).toNat]?).bind fun x5=>
   br (decide (0≤((wrap .i64 ((t10.tmod 5)+1)).tmod 5))&&decide (((wrap .i64 ((t10.tmod 5)+1)).tmod 5).toNat<5)) (
   (m13[((wrap .i64 ((t10.tmod 5)+1)).tmod 5).toNat]?).bind fun x6=>
   (cC x6 1).bind fun r_=>
   br (decide (0≤t10)&&decide (t10.toNat<25)) (
   (m11[t10.toNat]?).bind fun x7=>
   (cC (mp .u64 x4 (mp .u64 x5 r_)) x7).bind fun r_2=>
   br (decide (0≤(wrap .i64 ((wrap .i64 (t10.tdiv 5))+(wrap .i64 (5*((wrap .i64 ((wrap .i64 (2*(t10.tmod 5)))+(wrap .i64 (3*(wrap .i64 (t10.tdiv 5)))))).tmod 5))))))&&decide ((wrap .i64 ((wrap .i64 (t10.tdiv 5))+(wrap .i64 (5*((wrap .i64 ((wrap .i64 (2*(t10.tmod 5)))+(wrap .i64 (3*(wrap .i64 (t10.tdiv 5)))))).tmod 5))))).toNat<25)) (
   br (decide ((wrap .i64 ((wrap .i64 (t10.tdiv 5))+(wrap .i64 (5*((wrap .i64 ((wrap .i64 (2*(t10.tmod 5)))+(wrap .i64 (3*(wrap .i64 (t10.tdiv 5)))))).tmod 5))))).toNat<m14.length)) (
   some (.inl ((m14.set ((wrap .i64 ((wrap .i64 (t10.tdiv 5))+(wrap .i64 (5*((wrap .i64 ((wrap .i64 (2*(t10.tmod 5)))+(wrap .i64 (3*(wrap .i64 (t10.tdiv 5)))))).tmod 5))))).toNat) r_2),(wrap .i64 (t10+1))))) none) none) none) none) none) none) (
   some (.inr (m14,t10,decide (t10<25))))
abbrev jK (m10 m11 m12 m13 m14:List Int):List (Nat×Blk):=[(0,⟨25,true,[ar .u64 m10]⟩),(1001,⟨25,true,[ar .i64 m11]⟩),(2001,⟨24,true,[ar .u64 m12]⟩),(6002,⟨5,true,[ar .u64 m13]⟩),(6003,⟨25,true,[ar .u64 m14]⟩)]
abbrev qr (m10 m11 m12 m13:List Int) (t7:Int) (t8:List Int) (t9:Int) (s:(List Int)×Int):St:=⟨[(0,.ptr 0 0 0 1),(2,.ptr 1001 0 0 1),(5,.lit (.int .u64 t7)),(6,.ptr 6002 0 0 1),(7,.ptr 6003 0 0 1),(20,.agg (ar .u64 t8)),(21,I t9),(41,.ptr 0 0 0 1),(42,I s.2)],jK m10 m11 m12 m13 s.1⟩
abbrev pY (m10 m11 m12 m13:List Int) (t7:Int) (t8:List Int) (t9:Int):((List Int)×Int×Bool)→ah×St:=fun e=>(.exit 4,⟨[(0,.ptr 0 0 0 1),(2,.ptr 1001 0 0 1),(5,.lit (.int .u64 t7)),(6,.ptr 6002 0 0 1),(7,.ptr 6003 0 0 1),(20,.agg (ar .u64 t8)),(21,I t9),(41,.ptr 0 0 0 1),(42,I e.2.1),(43,B e.2.2)],jK m10 m11 m12 m13 e.1⟩)
theorem BN {m10 m11 m12 m13 t7 t8 t9 s e} (h:Loop (dy m10 m11 m12 m13 t7 t8 t9) s=some e):aq tab ow (.close [16011,17013]) j7 (qr m10 m11 m12 m13 t7 t8 t9 s)=some (pY m10 m11 m12 m13 t7 t8 t9 e):=by
 refine lrG (fun s o h=> ?_) h
 obtain ⟨_,_⟩:=s
 simp only [dy] at h
 simp+decide only [qr,pY,jK,j7,go_sem,reduceIte,Nat.reduceAdd]
 have d1:= @vm
 all_goals exact go
def dz (m16 m17 m18 m19:List Int) (t11:Int) (t12:List Int) (t13:Int) (t14:List Int):(List Int)×Int→Option (((List Int)×Int)⊕(((List Int)×Int×Bool)))
 | (m15,t15)=>
   br (decide (t15<25)) (
   br (decide (0≤t15)&&decide (t15.toNat<25)) (
   (t14[t15.toNat]?).bind fun x8=>
   br (decide (0≤(wrap .i64 ((wrap .i64 (t15-(t15.tmod 5)))+((wrap .i64 ((t15.tmod 5)+2)).tmod 5))))&&decide ((wrap .i64 ((wrap .i64 (t15-(t15.tmod 5)))+((wrap .i64 ((t15.tmod 5)+2)).tmod 5))).toNat<25)) (
   (m19[(wrap .i64 ((wrap .i64 (t15-(t15.tmod 5)))+((wrap .i64 ((t15.tmod 5)+2)).tmod 5))).toNat]?).bind fun x9=>
   br (decide (0≤(wrap .i64 ((wrap .i64 (t15-(t15.tmod 5)))+((wrap .i64 ((t15.tmod 5)+1)).tmod 5))))&&decide ((wrap .i64 ((wrap .i64 (t15-(t15.tmod 5)))+((wrap .i64 ((t15.tmod 5)+1)).tmod 5))).toNat<25)) (
   (m19[(wrap .i64 ((wrap .i64 (t15-(t15.tmod 5)))+((wrap .i64 ((t15.tmod 5)+1)).tmod 5))).toNat]?).bind fun x10=>
   br (decide (0≤t15)&&decide (t15.toNat<25)) (
   br (decide (t15.toNat<m15.length)) (
   some (.inl ((m15.set t15.toNat (mp .u64 x8 (La .u64 x9 x10))),(wrap .i64 (t15+1))))) none) none) none) none) none) (
   some (.inr (m15,t15,decide (t15<25))))
abbrev jE (m16 m17 m18 m19 m15:List Int):List (Nat×Blk):=[(0,⟨25,true,[ar .u64 m15]⟩),(1001,⟨25,true,[ar .i64 m16]⟩),(2001,⟨24,true,[ar .u64 m17]⟩),(6002,⟨5,true,[ar .u64 m18]⟩),(6003,⟨25,true,[ar .u64 m19]⟩)]
abbrev qw (m16 m17 m18 m19:List Int) (t11:Int) (t12:List Int) (t13:Int) (t14:List Int) (s:(List Int)×Int):St:=⟨[(0,.ptr 0 0 0 1),(2,.ptr 1001 0 0 1),(5,.lit (.int .u64 t11)),(7,.ptr 6003 0 0 1),(20,.agg (ar .u64 t12)),(21,I t13),(82,.agg (ar .u64 t14)),(83,I s.2)],jE m16 m17 m18 m19 s.1⟩
abbrev q9 (m16 m17 m18 m19:List Int) (t11:Int) (t12:List Int) (t13:Int) (t14:List Int):((List Int)×Int×Bool)→ah×St:=fun e=>(.exit 6,⟨[(0,.ptr 0 0 0 1),(2,.ptr 1001 0 0 1),(5,.lit (.int .u64 t11)),(7,.ptr 6003 0 0 1),(20,.agg (ar .u64 t12)),(21,I t13),(82,.agg (ar .u64 t14)),(83,I e.2.1),(84,B e.2.2)],jE m16 m17 m18 m19 e.1⟩)
theorem BL {m16 m17 m18 m19 t11 t12 t13 t14 s e} (h:Loop (dz m16 m17 m18 m19 t11 t12 t13 t14) s=some e):aq tab ow (.close []) iM (qw m16 m17 m18 m19 t11 t12 t13 t14 s)=some (q9 m16 m17 m18 m19 t11 t12 t13 t14 e):=by
 refine lrG (fun s o h=> ?_) h
 obtain ⟨_,_⟩:=s
 simp only [dz] at h
 simp+decide only [qw,q9,jE,iM,go_sem,reduceIte,Nat.reduceAdd]
 all_goals exact go
def dC (m3 m4 t:List Int):(List Int)×Int→Option (((List Int)×Int)⊕(((List Int)×Int×Bool)))
 | (m2,t2)=>
   br (decide (t2<24)) (
   br (decide (0≤t2)&&decide (t2.toNat<24)) (
   (t[t2.toNat]?).bind fun x=>
   (Loop (dB m2 m3 m4 (nZ 25) x t t2) ((nZ 5),0)).bind fun e_=>
   (Loop (dy m2 m3 m4 e_.1 x t t2) ((nZ 25),0)).bind fun e_2=>
   br (decide (e_2.1.length=25)) (
   (Loop (dz m3 m4 e_.1 e_2.1 x t t2 e_2.1) (m2,0)).bind fun e_3=>
   (e_3.1[0]?).bind fun x11=>
   br (decide (0<e_3.1.length)) (
   some (.inl ((e_3.1.set 0 (mp .u64 x11 x)),(wrap .i64 (t2+1))))) none) none) none) (
   some (.inr (m2,t2,decide (t2<24))))
abbrev jL (m3 m4 m2:List Int):List (Nat×Blk):=[(0,⟨25,true,[ar .u64 m2]⟩),(1001,⟨25,true,[ar .i64 m3]⟩),(2001,⟨24,true,[ar .u64 m4]⟩)]
abbrev qj (m3 m4 t:List Int) (s:(List Int)×Int):St:=⟨[(0,.ptr 0 0 0 1),(2,.ptr 1001 0 0 1),(20,.agg (ar .u64 t)),(21,I s.2)],jL m3 m4 s.1⟩
abbrev qh (m3 m4 t:List Int):((List Int)×Int×Bool)→ah×St:=fun e=>(.exit 0,⟨[(0,.ptr 0 0 0 1),(2,.ptr 1001 0 0 1),(20,.agg (ar .u64 t)),(21,I e.2.1),(22,B e.2.2)],jL m3 m4 e.1⟩)
theorem BG {m3 m4 t s e} (h:Loop (dC m3 m4 t) s=some e):aq tab ow (.close [6002,6003,16011,17013]) jD (qj m3 m4 t s)=some (qh m3 m4 t e):=by
 refine lrG (fun s o h=> ?_) h
 obtain ⟨_,_⟩:=s
 simp only [dC] at h
 simp+decide only [qj,qh,jL,jD,go_sem,reduceIte,Nat.reduceAdd]
 have d1:= @BI
 have d2:= @BN
 have d3:= @BL
 all_goals exact go
def ic (m:List Int):Option ((List Int)):=
 (Loop (dC ([0,1,62,28,27,36,44,6,55,20,3,10,43,25,39,41,45,15,21,8,18,2,61,56,14]:List Int) ([1,32898,9223372036854808714,9223372039002292224,32907,2147483649,9223372039002292353,9223372036854808585,138,136,2147516425,2147483658,2147516555,9223372036854775947,9223372036854808713,9223372036854808579,9223372036854808578,9223372036854775936,32778,9223372039002259466,9223372039002292353,9223372036854808704,2147483649,9223372039002292232]:List Int) ([1,32898,9223372036854808714,9223372039002292224,32907,2147483649,9223372039002292353,9223372036854808585,138,136,2147516425,2147483658,2147516555,9223372036854775947,9223372036854808713,9223372036854808579,9223372036854808578,9223372036854775936,32778,9223372039002259466,9223372039002292353,9223372036854808704,2147483649,9223372039002292232]:List Int)) (m,0)).bind fun e_4=>
 some e_4.1
theorem F3 {m r} (h:ic m=some r):Call tab ow 194 [.ptr 0 0 0 1] [⟨25,true,[ar .u64 m]⟩]=some (.tup [],[⟨25,true,[ar .u64 r]⟩]):=by
 rw [aa (af:=iA) rfl]
 unfold ic at h
 simp+decide only [iA,ub,go_sem,reduceIte,Nat.reduceAdd]
 have d1:= @BG
 all_goals exact go
section
theorem IQ:mkR 2000 []=rws eU8 []:=rfl
attribute [local go_sem] IQ
theorem JL:mkR 6012 []=rws eU8 []:=rfl
attribute [local go_sem] JL
def f7 (m2:List Int):(List UInt8)×Int→Option (((List UInt8)×Int)⊕(((List UInt8)×Int×Bool)))
 | (l,t)=>
   br (decide (t<200)) (
   br (decide (0≤(wrap .i64 (t.tdiv 8)))&&decide ((wrap .i64 (t.tdiv 8)).toNat<25)) (
   (m2[(wrap .i64 (t.tdiv 8)).toNat]?).bind fun x=>
   br (decide (0≤(wrap .i64 (8*(t.tmod 8))))) (
   br (bW ((l++([(UInt8.ofInt (aJ .u64 x (wrap .i64 (8*(t.tmod 8)))))]:List UInt8)).length) 1) (
   some (.inl ((l++([(UInt8.ofInt (aJ .u64 x (wrap .i64 (8*(t.tmod 8)))))]:List UInt8)),(wrap .i64 (t+1))))) none) none) none) (
   some (.inr (l,t,decide (t<200))))
abbrev nm (m2:List Int) (l:List UInt8):List (Nat×Blk):=[(0,⟨25,true,[ar .u64 m2]⟩),(2000,⟨1,false,rws eU8 l⟩)]
abbrev wC (m2:List Int) (s:(List UInt8)×Int):St:=⟨[(0,.ptr 0 0 0 1),(3,.sl 2000 0 s.1.length),(6,I s.2)],nm m2 s.1⟩
abbrev w8 (m2:List Int):((List UInt8)×Int×Bool)→ah×St:=fun e=>(.exit 0,⟨[(0,.ptr 0 0 0 1),(3,.sl 2000 0 e.1.length),(6,I e.2.1),(7,B e.2.2)],nm m2 e.1⟩)
theorem He {m2 s e} (h:Loop (f7 m2) s=some e):aq tab ow (.close [6012,6013]) nD (wC m2 s)=some (w8 m2 e):=by
 refine lrG (fun s o h=> ?_) h
 obtain ⟨_,_⟩:=s
 simp only [f7] at h
 simp+decide only [wC,w8,nm,nD,go_sem,reduceIte,Nat.reduceAdd]
 all_goals exact go
def lE (m:List Int):Option ((List UInt8)×(List Int)):=
 (Loop (f7 m) (([]:List UInt8),0)).bind fun e_=>
 some (e_.1,m)
theorem Mh {m r} (h:lE m=some r):Call tab ow 195 [.ptr 0 0 0 1] [⟨25,true,[ar .u64 m]⟩]=some (sl eU8 r.1,[⟨25,true,[ar .u64 r.2]⟩]):=by
 rw [aa (af:=lS) rfl]
 unfold lE at h
 simp+decide only [lS,A9,go_sem,reduceIte,Nat.reduceAdd]
 have d1:= @He
 all_goals exact go
end
section
theorem X5:mkR 2000 []=rws eU8 []:=rfl
attribute [local go_sem] X5
theorem UC:mkR 8001 []=rws eU8 []:=rfl
attribute [local go_sem] UC
theorem WX:mkR 10001 []=rws eU8 []:=rfl
attribute [local go_sem] WX
def jz (t:List (List UInt8)) (t2:Int):(List UInt8)×Int→Option (((List UInt8)×Int)⊕(((List UInt8)×Int×Bool)))
 | (l,t3)=>
   br (decide (t3<t2)) (
   (atL t t3).bind fun x=>
   br (bW ((l++x).length) 1) (
   some (.inl ((l++x),(wrap .i64 (t3+1))))) none) (
   some (.inr (l,t3,decide (t3<t2))))
abbrev Ga (t:List (List UInt8)) (t2:Int) (s:(List UInt8)×Int):St:=⟨[(3,.sl 2000 0 s.1.length),(10,sl (eL eU8) t),(11,I t2),(12,I s.2)],[(2000,⟨1,false,rws eU8 s.1⟩)]⟩
abbrev G2 (t:List (List UInt8)) (t2:Int):((List UInt8)×Int×Bool)→ah×St:=fun e=>(.exit 0,⟨[(3,.sl 2000 0 e.1.length),(10,sl (eL eU8) t),(11,I t2),(12,I e.2.1),(13,B e.2.2)],[(2000,⟨1,false,rws eU8 e.1⟩)]⟩)
theorem Rt {t t2 s e} (h:Loop (jz t t2) s=some e):aq tab ow (.close [6002]) xt (Ga t t2 s)=some (G2 t t2 e):=by
 refine lrG (fun s o h=> ?_) h
 obtain ⟨_,_⟩:=s
 simp only [jz] at h
 simp+decide only [Ga,G2,xt,go_sem,reduceIte,Nat.reduceAdd]
 all_goals exact go
def i4 (l3:List UInt8):(List UInt8)→Option (((List UInt8))⊕(((List UInt8)×Bool)))
 |l2=>
  br ((((l2.length:Nat):Int).tmod 136) !=0) (
  br (bW ((l2++([(0:UInt8)]:List UInt8)).length) 1) (
  some (.inl (l2++([(0:UInt8)]:List UInt8)))) none) (
  some (.inr (l2,((((l2.length:Nat):Int).tmod 136) !=0))))
abbrev y6 (l3 l2:List UInt8):List (Nat×Blk):=[(2000,⟨1,false,rws eU8 l2⟩),(8001,⟨1,false,rws eU8 l3⟩)]
abbrev FT (l3:List UInt8) (s:(List UInt8)):St:=⟨[(3,.sl 2000 0 s.length)],y6 l3 s⟩
abbrev F5 (l3:List UInt8):((List UInt8)×Bool)→ah×St:=fun e=>(.exit 2,⟨[(3,.sl 2000 0 e.1.length),(26,B e.2)],y6 l3 e.1⟩)
theorem Rk {l3 s e} (h:Loop (i4 l3) s=some e):aq tab ow (.close [10001,10002]) xj (FT l3 s)=some (F5 l3 e):=by
 refine lrG (fun s o h=> ?_) h
 simp only [i4] at h
 simp+decide only [FT,F5,y6,xj,go_sem,reduceIte,Nat.reduceAdd]
 all_goals exact go
def jr (l5 all2:List UInt8) (t4:List Int):(List Int)×Int→Option (((List Int)×Int)⊕(((List Int)×Int×Bool)))
 | (m2,t5)=>
   br (decide (t5<25)) (
   br (decide (0≤t5)&&decide (t5.toNat<25)) (
   (t4[t5.toNat]?).bind fun x4=>
   br (decide (0≤t5)&&decide (t5.toNat<25)) (
   (m2[t5.toNat]?).bind fun x5=>
   br (decide (0≤t5)&&decide (t5.toNat<25)) (
   br (decide (t5.toNat<m2.length)) (
   some (.inl ((m2.set t5.toNat (mp .u64 x5 x4)),(wrap .i64 (t5+1))))) none) none) none) none) (
   some (.inr (m2,t5,decide (t5<25))))
abbrev yg (l5:List UInt8) (m2:List Int):List (Nat×Blk):=[(8001,⟨1,false,rws eU8 l5⟩),(12001,⟨25,true,[ar .u64 m2]⟩)]
abbrev FV (l5 all2:List UInt8) (t4:List Int) (s:(List Int)×Int):St:=⟨[(3,sl eU8 all2),(6,.ptr 12001 0 0 1),(46,.agg (ar .u64 t4)),(47,I s.2)],yg l5 s.1⟩
abbrev Gc (l5 all2:List UInt8) (t4:List Int):((List Int)×Int×Bool)→ah×St:=fun e=>(.exit 6,⟨[(3,sl eU8 all2),(6,.ptr 12001 0 0 1),(46,.agg (ar .u64 t4)),(47,I e.2.1),(48,B e.2.2)],yg l5 e.1⟩)
theorem QH {l5 all2 t4 s e} (h:Loop (jr l5 all2 t4) s=some e):aq tab ow (.close []) uL (FV l5 all2 t4 s)=some (Gc l5 all2 t4 e):=by
 refine lrG (fun s o h=> ?_) h
 obtain ⟨_,_⟩:=s
 simp only [jr] at h
 simp+decide only [FV,Gc,yg,uL,go_sem,reduceIte,Nat.reduceAdd]
 all_goals exact go
def js (l4:List UInt8):(List Int)×(List UInt8)→Option (((List Int)×(List UInt8))⊕(((List Int)×(List UInt8)×Bool)))
 | (m,all)=>
   br (decide (((all.length:Nat):Int)>0)) (
   (ny all 0 136).bind fun y=>
   (wu y).bind fun r_=>
   (Loop (jr l4 all r_) (m,0)).bind fun e_3=>
   (ic e_3.1).bind fun r_2=>
   (ny all 136 ((all.length:Nat):Int)).bind fun y2=>
   some (.inl (r_2,y2))) (
   some (.inr (m,all,decide (((all.length:Nat):Int)>0))))
abbrev qC (l4:List UInt8) (m:List Int):List (Nat×Blk):=[(8001,⟨1,false,rws eU8 l4⟩),(12001,⟨25,true,[ar .u64 m]⟩)]
abbrev xu (l4:List UInt8) (s:(List Int)×(List UInt8)):St:=⟨[(3,sl eU8 s.2),(6,.ptr 12001 0 0 1)],qC l4 s.1⟩
abbrev Ej (l4:List UInt8):((List Int)×(List UInt8)×Bool)→ah×St:=fun e=>(.exit 4,⟨[(3,sl eU8 e.2.1),(6,.ptr 12001 0 0 1),(41,B e.2.2)],qC l4 e.1⟩)
theorem QX {l4 s e} (h:Loop (js l4) s=some e):aq tab ow (.close [15002,20000,2000]) uY (xu l4 s)=some (Ej l4 e):=by
 refine lrG (fun s o h=> ?_) h
 obtain ⟨_,_⟩:=s
 simp only [js] at h
 simp+decide only [xu,Ej,qC,uY,go_sem,reduceIte,Nat.reduceAdd]
 have d1:= @Wu
 have d2:= @QH
 have d3:= @F3
 all_goals exact go
def lZ (pieces:(List (List UInt8))):Option ((List UInt8)):=
 (Loop (jz pieces ((pieces.length:Nat):Int)) (([]:List UInt8),0)).bind fun e_=>
 br (bW ((e_.1++([(1:UInt8)]:List UInt8)).length) 1) (
 (Loop (i4 ([(1:UInt8)]:List UInt8)) (e_.1++([(1:UInt8)]:List UInt8))).bind fun e_2=>
 br (decide (0≤(wrap .i64 (((e_2.1.length:Nat):Int)-1)))) (
 br (decide ((wrap .i64 (((e_2.1.length:Nat):Int)-1)).toNat<e_2.1.length)) (
 (e_2.1[(wrap .i64 (((e_2.1.length:Nat):Int)-1)).toNat]?).bind fun x2=>
 br (decide (0≤(wrap .i64 (((e_2.1.length:Nat):Int)-1)))) (
 br (decide ((wrap .i64 (((e_2.1.length:Nat):Int)-1)).toNat<e_2.1.length)) (
 (e_2.1[(wrap .i64 (((e_2.1.length:Nat):Int)-1)).toNat]?).bind fun x3=>
 (Loop (js ([(1:UInt8)]:List UInt8)) ((nZ 25),(e_2.1.set ((wrap .i64 (((e_2.1.length:Nat):Int)-1)).toNat) (UInt8.ofInt (vh .u8 (x2.toNat:Int) 128))))).bind fun e_4=>
 (lE e_4.1).bind fun r_3=>
 (ny r_3.1 0 32).bind fun y3=>
 some y3) none) none) none) none) none
theorem tA {pieces r} (h:lZ pieces=some r):Call tab ow 95 [sl (eL eU8) pieces] []=some (S r,[]):=by
 rw [aa (af:=yk) rfl]
 unfold lZ at h
 simp+decide only [yk,LI,go_sem,reduceIte,Nat.reduceAdd]
 have d1:= @Rt
 have d2:= @Rk
 have d3:= @QX
 simp only [xu,qC] at d3
 have d4:= @Mh
 all_goals exact go
end
section
theorem V3:mkR 2002 []=rws (eL eU8) []:=rfl
attribute [local go_sem] V3
def wo (t:(List UInt8)):Option ((List UInt8)):=
 br (bW t.length 1) (
 (lZ ([t]:List (List UInt8))).bind fun r_=>
 some r_) none
theorem MN {t r} (h:wo t=some r):Call tab ow 267 [S t] []=some (S r,[]):=by
 rw [aa (af:=xQ) rfl]
 unfold wo at h
 simp+decide only [xQ,Nu,go_sem,reduceIte,Nat.reduceAdd]
 have d1:= @tA
 all_goals exact go
end
def mG (a b:(List UInt8)):Option ((List UInt8)):=
 br (bW ((([1]:List UInt8)).length+a.length) 1) (
 br (bW (((([1]:List UInt8))++a).length+b.length) 1) (
 some (((([1]:List UInt8))++a)++b)) none) none
theorem QJ {a b r} (h:mG a b=some r):Call tab ow 269 [S a,S b] []=some (S r,[]):=by
 rw [aa (af:=rG) rfl]
 unfold mG at h
 simp+decide only [rG,EX,go_sem,reduceIte,Nat.reduceAdd]
 all_goals exact go
def en (n low high:Int):Option (Bool):=
 br (decide (low≤n)) (
 some (decide (n≤high))) (
 some false)
theorem s5 {n low high r} (h:en n low high=some r):Call tab ow 69 [I n,I low,I high] []=some (B r,[]):=by
 rw [aa (af:=Bd) rfl]
 unfold en at h
 simp+decide only [Bd,Qt,go_sem,reduceIte,Nat.reduceAdd]
 all_goals exact go
def lb (a:Int):Option (Bool):=
 (en a 0 2130706432).bind fun r_=>
 some r_
theorem Il {a r} (h:lb a=some r):Call tab ow 196 [I a] []=some (B r,[]):=by
 rw [aa (af:=u4) rfl]
 unfold lb at h
 simp+decide only [u4,HE,go_sem,reduceIte,Nat.reduceAdd]
 have d1:= @s5
 all_goals exact go
def y4 (a:Ext):Option (Bool):=
 (lb a.A).bind fun r_=>
 br r_ (
 (lb a.B).bind fun r_2=>
 some r_2) (
 some false)
theorem Q8 {a r} (h:y4 a=some r):Call tab ow 96 [.agg [I a.A,I a.B]] []=some (B r,[]):=by
 rw [aa (af:=Be) rfl]
 unfold y4 at h
 simp+decide only [Be,QE,go_sem,reduceIte,Nat.reduceAdd]
 have d1:= @Il
 all_goals exact go
def uT (list2:List Ext):Int→Option ((Int)⊕(Unit⊕(Int×Bool)))
 |i=>
  br (decide (i<((list2.length:Nat):Int))) (
  (atL list2 i).bind fun x=>
  (y4 x).bind fun r_=>
  br (!r_) (
  some (.inr (.inl ()))) (
  some (.inl (wrap .i64 (i+1))))) (
  some (.inr (.inr (i,decide (i<((list2.length:Nat):Int))))))
abbrev BS (list2:List Ext) (s:Int):St:=⟨[(0,sl eExt list2),(3,I s)],[]⟩
abbrev Df (list2:List Ext):(Unit⊕(Int×Bool))→ah×St:=alt (fun e=>((.ret,⟨[(2,B false)],[]⟩):ah×St)) (fun e=>(.exit 0,⟨[(0,sl eExt list2),(3,I e.1),(7,B e.2)],[]⟩))
theorem Pp {list2 s e} (h:Loop (uT list2) s=some e):aq tab ow (.close [5004]) vf (BS list2 s)=some (Df list2 e):=by
 refine lrG (fun s o h=> ?_) h
 simp only [uT] at h
 simp+decide only [BS,Df,vf,go_sem,reduceIte,Nat.reduceAdd]
 have d1:= @Q8
 all_goals exact go
def gO (list:(List Ext)):Option (Bool):=
 (Loop (uT list) 0).bind (alt (fun e_2=>
 some false) (fun e_3=>
 some true))
theorem lc {list r} (h:gO list=some r):Call tab ow 105 [sl eExt list] []=some (B r,[]):=by
 rw [aa (af:=uA) rfl]
 unfold gO at h
 simp+decide only [uA,HN,go_sem,reduceIte,Nat.reduceAdd]
 have d1:= @Pp
 all_goals exact go
def p8 (a b:Int):Option (Int):=
 some ((wrap .i64 (a+b)).tmod 2130706433)
theorem Ml {a b r} (h:p8 a b=some r):Call tab ow 244 [I a,I b] []=some (I r,[]):=by
 rw [aa (af:=xY) rfl]
 unfold p8 at h
 simp+decide only [xY,L0,go_sem,reduceIte,Nat.reduceAdd]
 all_goals exact go
def eF (a b:Ext):Option (Ext):=
 (p8 a.A b.A).bind fun r_=>
 (p8 a.B b.B).bind fun r_2=>
 some (Ext.mk r_ r_2)
theorem iT {a b r} (h:eF a b=some r):Call tab ow 197 [.agg [I a.A,I a.B],.agg [I b.A,I b.B]] []=some (.agg [I r.A,I r.B],[]):=by
 rw [aa (af:=xw) rfl]
 unfold eF at h
 simp+decide only [xw,KB,go_sem,reduceIte,Nat.reduceAdd]
 have d1:= @Ml
 all_goals exact go
def t0 (a b:Int):Option (Int):=
 some ((wrap .i64 ((wrap .i64 (a+2130706433))-b)).tmod 2130706433)
theorem N2 {a b r} (h:t0 a b=some r):Call tab ow 245 [I a,I b] []=some (I r,[]):=by
 rw [aa (af:=xl) rfl]
 unfold t0 at h
 simp+decide only [xl,Me,go_sem,reduceIte,Nat.reduceAdd]
 all_goals exact go
def pa (a b:Ext):Option (Ext):=
 (t0 a.A b.A).bind fun r_=>
 (t0 a.B b.B).bind fun r_2=>
 some (Ext.mk r_ r_2)
theorem xn {a b r} (h:pa a b=some r):Call tab ow 280 [.agg [I a.A,I a.B],.agg [I b.A,I b.B]] []=some (.agg [I r.A,I r.B],[]):=by
 rw [aa (af:=xq) rfl]
 unfold pa at h
 simp+decide only [xq,M8,go_sem,reduceIte,Nat.reduceAdd]
 have d1:= @N2
 all_goals exact go
def fW (n2:Int):Int→Option ((Int)⊕((Int×Bool)))
 |k=>
  br (decide (0≤(wrap .u64 k))) (
  br (decide ((aB .i64 1 (wrap .u64 k))<n2)) (
  some (.inl (wrap .i64 (k+1)))) (
  some (.inr (k,decide ((aB .i64 1 (wrap .u64 k))<n2))))) none
abbrev BW (n2 s:Int):St:=⟨[(0,I n2),(3,I s)],[]⟩
abbrev CZ (n2:Int):(Int×Bool)→ah×St:=fun e=>(.exit 0,⟨[(0,I n2),(3,I e.1),(8,B e.2)],[]⟩)
theorem Od {n2 s e} (h:Loop (fW n2) s=some e):aq tab ow (.close []) v7 (BW n2 s)=some (CZ n2 e):=by
 refine lrG (fun s o h=> ?_) h
 simp only [fW] at h
 simp+decide only [BW,CZ,v7,go_sem,reduceIte,Nat.reduceAdd]
 all_goals exact go
def wg (n:Int):Option (Int):=
 (Loop (fW n) 0).bind fun e_=>
 some e_.1
theorem U8 {n r} (h:wg n=some r):Call tab ow 279 [I n] []=some (I r,[]):=by
 rw [aa (af:=u9) rfl]
 unfold wg at h
 simp+decide only [u9,HO,go_sem,reduceIte,Nat.reduceAdd]
 have d1:= @Od
 all_goals exact go
def gB (a b:Int):Option (Int):=
 some ((wrap .i64 (a*b)).tmod 2130706433)
theorem xH {a b r} (h:gB a b=some r):Call tab ow 246 [I a,I b] []=some (I r,[]):=by
 rw [aa (af:=xN) rfl]
 unfold gB at h
 simp+decide only [xN,MD,go_sem,reduceIte,Nat.reduceAdd]
 all_goals exact go
def jf:Int×Int×Int→Option ((Int×Int×Int)⊕((Int×Int×Int×Bool)))
 | (a2,n2,r_)=>
   br (decide (n2>0)) (
   br ((n2.tmod 2)==1) (
   (gB r_ a2).bind fun r_2=>
   (gB a2 a2).bind fun r_3=>
   some (.inl (r_3,(wrap .i64 (n2.tdiv 2)),r_2))) (
   (gB a2 a2).bind fun r_4=>
   some (.inl (r_4,(wrap .i64 (n2.tdiv 2)),r_)))) (
   some (.inr (a2,n2,r_,decide (n2>0))))
abbrev Eu (s:Int×Int×Int):St:=⟨[(0,I s.1),(1,I s.2.1),(5,I s.2.2)],[]⟩
abbrev EE:(Int×Int×Int×Bool)→ah×St:=fun e=>(.exit 0,⟨[(0,I e.1),(1,I e.2.1),(5,I e.2.2.1),(7,B e.2.2.2)],[]⟩)
theorem QU { s e} (h:Loop (jf) s=some e):aq tab ow (.close [5002,6002]) xv (Eu s)=some (EE e):=by
 refine lrG (fun s o h=> ?_) h
 obtain ⟨_,_,_⟩:=s
 simp only [jf] at h
 simp+decide only [Eu,EE,xv,go_sem,reduceIte,Nat.reduceAdd]
 have d1:= @xH
 all_goals exact go
def ox (a n:Int):Option (Int):=
 (Loop (jf) (a,n,1)).bind fun e_=>
 some e_.2.2.1
theorem DJ {a n r} (h:ox a n=some r):Call tab ow 334 [I a,I n] []=some (I r,[]):=by
 rw [aa (af:=yn) rfl]
 unfold ox at h
 simp+decide only [yn,Ku,go_sem,reduceIte,Nat.reduceAdd]
 have d1:= @QU
 all_goals exact go
def wD (k:Int):Option (Int):=
 br (decide (0≤(wrap .u64 (wrap .i64 (24-k))))) (
 (ox 3 (aB .i64 127 (wrap .u64 (wrap .i64 (24-k))))).bind fun r_=>
 some r_) none
theorem Wr {k r} (h:wD k=some r):Call tab ow 278 [I k] []=some (I r,[]):=by
 rw [aa (af:=u7) rfl]
 unfold wD at h
 simp+decide only [u7,Ho,go_sem,reduceIte,Nat.reduceAdd]
 have d1:= @DJ
 all_goals exact go
def lN (n:Int):Option (Ext):=
 some (Ext.mk n 0)
theorem rU {n r} (h:lN n=some r):Call tab ow 288 [I n] []=some (.agg [I r.A,I r.B],[]):=by
 rw [aa (af:=Bi) rfl]
 unfold lN at h
 simp+decide only [Bi,PF,go_sem,reduceIte,Nat.reduceAdd]
 all_goals exact go
def bN (a b:Ext):Option (Ext):=
 (gB a.A b.A).bind fun r_=>
 (gB a.B b.B).bind fun r_2=>
 (p8 r_ ((wrap .i64 (3*r_2)).tmod 2130706433)).bind fun r_3=>
 (gB a.A b.B).bind fun r_4=>
 (gB a.B b.A).bind fun r_5=>
 (p8 r_4 r_5).bind fun r_6=>
 some (Ext.mk r_3 r_6)
theorem fX {a b r} (h:bN a b=some r):Call tab ow 199 [.agg [I a.A,I a.B],.agg [I b.A,I b.B]] []=some (.agg [I r.A,I r.B],[]):=by
 rw [aa (af:=yj) rfl]
 unfold bN at h
 simp+decide only [yj,KJ,go_sem,reduceIte,Nat.reduceAdd]
 have d1:= @xH
 have d2:= @Ml
 all_goals exact go
section
theorem Pv:mkR 2000 []=rws eU8 []:=rfl
attribute [local go_sem] Pv
def gx (list2:List Ext):(List UInt8)×Int→Option (((List UInt8)×Int)⊕(((List UInt8)×Int×Bool)))
 | (l,i)=>
   br (decide (i<((list2.length:Nat):Int))) (
   (atL list2 i).bind fun x=>
   (de x.A 4).bind fun r_=>
   br (bW ((l++r_).length) 1) (
   (atL list2 i).bind fun x2=>
   (de x2.B 4).bind fun r_2=>
   br (bW (((l++r_)++r_2).length) 1) (
   some (.inl (((l++r_)++r_2),(wrap .i64 (i+1))))) none) none) (
   some (.inr (l,i,decide (i<((list2.length:Nat):Int)))))
abbrev zP (list2:List Ext) (s:(List UInt8)×Int):St:=⟨[(0,sl eExt list2),(3,.sl 2000 0 s.1.length),(4,I s.2)],[(2000,⟨1,false,rws eU8 s.1⟩)]⟩
abbrev zN (list2:List Ext):((List UInt8)×Int×Bool)→ah×St:=fun e=>(.exit 0,⟨[(0,sl eExt list2),(3,.sl 2000 0 e.1.length),(4,I e.2.1),(9,B e.2.2)],[(2000,⟨1,false,rws eU8 e.1⟩)]⟩)
theorem Lz {list2 s e} (h:Loop (gx list2) s=some e):aq tab ow (.close [6006,6007,6013,6014]) th (zP list2 s)=some (zN list2 e):=by
 refine lrG (fun s o h=> ?_) h
 obtain ⟨_,_⟩:=s
 simp only [gx] at h
 simp+decide only [zP,zN,th,go_sem,reduceIte,Nat.reduceAdd]
 have d1:= @eZ
 all_goals exact go
def np (list:(List Ext)):Option ((List UInt8)):=
 (Loop (gx list) (([]:List UInt8),0)).bind fun e_=>
 some e_.1
theorem FE {list r} (h:np list=some r):Call tab ow 159 [sl eExt list] []=some (sl eU8 r,[]):=by
 rw [aa (af:=qy) rfl]
 unfold np at h
 simp+decide only [qy,EZ,go_sem,reduceIte,Nat.reduceAdd]
 have d1:= @Lz
 all_goals exact go
end
def vN (t:(List UInt8)):Option ((List UInt8)):=
 br (bW ((([0]:List UInt8)).length+t.length) 1) (
 (gK ((([0]:List UInt8))++t)).bind fun r_=>
 some r_) none
theorem VY {t r} (h:vN t=some r):Call tab ow 275 [S t] []=some (S r,[]):=by
 rw [aa (af:=tO) rfl]
 unfold vN at h
 simp+decide only [tO,I2,go_sem,reduceIte,Nat.reduceAdd]
 have d1:= @lu
 all_goals exact go
def iY (t:Setting):Option (Bool):=
 (vp t.Rate 1 3).bind fun r_=>
 br r_ (
 (vp t.Queries 1 8).bind fun r_2=>
 br r_2 (
 (vp t.Grind 0 12).bind fun r_3=>
 some r_3) (
 some false)) (
 some false)
theorem vH {t r} (h:iY t=some r):Call tab ow 26 [.agg [I t.Rate,I t.Queries,I t.Grind]] []=some (B r,[]):=by
 rw [aa (af:=nT) rfl]
 unfold iY at h
 simp+decide only [nT,Cd,go_sem,reduceIte,Nat.reduceAdd]
 have d1:= @yd
 all_goals exact go
def oY (h_:(List UInt8)):Option (Bool):=
 some (((h_.length:Nat):Int)==32)
theorem xK {h_ r} (h:oY h_=some r):Call tab ow 100 [S h_] []=some (B r,[]):=by
 rw [aa (af:=xm) rfl]
 unfold oY at h
 simp+decide only [xm,Ks,go_sem,reduceIte,Nat.reduceAdd]
 all_goals exact go
def tB (s:Source):Option (Bool):=
 br (decide (((s.Script.length:Nat):Int)≤64)) (
 (dx s.Script).bind fun r_=>
 br r_ (
 (oY s.State).bind fun r_2=>
 br r_2 (
 (vp s.At 0 1000000).bind fun r_3=>
 br r_3 (
 (vp s.Count 0 1000000).bind fun r_4=>
 some r_4) (
 some false)) (
 some false)) (
 some false)) (
 some false)
theorem S8 {s r} (h:tB s=some r):Call tab ow 74 [.agg [sl eExt s.Script,I s.At,S s.State,I s.Count]] []=some (B r,[]):=by
 rw [aa (af:=qF) rfl]
 unfold tB at h
 simp+decide only [qF,G9,go_sem,reduceIte,Nat.reduceAdd]
 have d1:= @jI
 have d2:= @xK
 have d3:= @yd
 all_goals exact go
def oa (s:Source):Option (Int):=
 some (wrap .i64 (1000000-(mx s.At s.Count)))
theorem Jo {s r} (h:oa s=some r):Call tab ow 75 [.agg [sl eExt s.Script,I s.At,S s.State,I s.Count]] []=some (I r,[]):=by
 rw [aa (af:=kJ) rfl]
 unfold oa at h
 simp+decide only [kJ,zs,go_sem,reduceIte,Nat.reduceAdd]
 all_goals exact go
def i9 (s:Source):Option (Source):=
 (dJ s.Script).bind fun r_=>
 some (Source.mk r_ s.At s.State s.Count)
theorem F9 {s r} (h:i9 s=some r):Call tab ow 76 [.agg [sl eExt s.Script,I s.At,S s.State,I s.Count]] []=some (.agg [sl eExt r.Script,I r.At,S r.State,I r.Count],[]):=by
 rw [aa (af:=it) rfl]
 unfold i9 at h
 simp+decide only [it,ud,go_sem,reduceIte,Nat.reduceAdd]
 have d1:= @qz
 all_goals exact go
def I4:Option (Ext):=
 some (Ext.mk 1 0)
theorem JZ {r} (h:I4=some r):Call tab ow 183 [] []=some (.agg [I r.A,I r.B],[]):=by
 rw [aa (af:=JU) rfl]
 unfold I4 at h
 simp+decide only [JU,a0h,go_sem,reduceIte,Nat.reduceAdd]
 all_goals exact go
def bt (a b:Ext):Option (Ext):=
 (sM a.A b.A).bind fun r_=>
 (sM a.B b.B).bind fun r_2=>
 (sM 3 r_2).bind fun r_3=>
 (In r_ r_3).bind fun r_4=>
 (sM a.A b.B).bind fun r_5=>
 (sM a.B b.A).bind fun r_6=>
 (In r_5 r_6).bind fun r_7=>
 some (Ext.mk r_4 r_7)
theorem cB {a b r} (h:bt a b=some r):Call tab ow 182 [.agg [I a.A,I a.B],.agg [I b.A,I b.B]] []=some (.agg [I r.A,I r.B],[]):=by
 rw [aa (af:=nI) rfl]
 unfold bt at h
 simp+decide only [nI,Ct,go_sem,reduceIte,Nat.reduceAdd]
 have d1:= @JP
 have d2:= @ZP
 all_goals exact go
section
theorem RN:mkR 2001 []=rws eExt []:=rfl
attribute [local go_sem] RN
theorem QK:mkR 6000 []=rws eExt []:=rfl
attribute [local go_sem] QK
theorem RF:mkR 6001 []=rws eExt []:=rfl
attribute [local go_sem] RF
theorem RX:mkR 10006 []=rws eExt []:=rfl
attribute [local go_sem] RX
theorem R9:mkR 10012 []=rws eExt []:=rfl
attribute [local go_sem] R9
def ie (t4:List Ext) (t5 t6:Int) (t7:List Ext) (t8 c c2:Int):(List Ext)×(List Ext)×Int→Option (((List Ext)×(List Ext)×Int)⊕(((List Ext)×(List Ext)×Int×Bool)))
 | (l,l2,t9)=>
   br (decide (t9<t8)) (
   (atL t7 t9).bind fun x2=>
   (I4).bind fun r_2=>
   (dZ r_2 (Ext.mk c c2)).bind fun r_3=>
   (bt x2 r_3).bind fun r_4=>
   br (bW ((l++([r_4]:List Ext)).length) 16) (
   (bt x2 (Ext.mk c c2)).bind fun r_5=>
   br (bW ((l2++([r_5]:List Ext)).length) 16) (
   some (.inl ((l++([r_4]:List Ext)),(l2++([r_5]:List Ext)),(wrap .i64 (t9+1))))) none) none) (
   some (.inr (l,l2,t9,decide (t9<t8))))
abbrev vD (c c2:Int) (l l2:List Ext):List (Nat×Blk):=[(5002,⟨2,true,[[I c,I c2]]⟩),(6000,⟨2,false,rws eExt l⟩),(6001,⟨2,false,rws eExt l2⟩)]
abbrev D2 (t4:List Ext) (t5 t6:Int) (t7:List Ext) (t8 c c2:Int) (s:(List Ext)×(List Ext)×Int):St:=⟨[(5,.ptr 5002 0 0 1),(6,.sl 6000 0 s.1.length),(7,.sl 6001 0 s.2.1.length),(12,sl eExt t4),(13,I t5),(14,I t6),(20,sl eExt t7),(21,I t8),(22,I s.2.2)],vD c c2 s.1 s.2.1⟩
abbrev D8 (t4:List Ext) (t5 t6:Int) (t7:List Ext) (t8 c c2:Int):((List Ext)×(List Ext)×Int×Bool)→ah×St:=fun e=>(.exit 2,⟨[(5,.ptr 5002 0 0 1),(6,.sl 6000 0 e.1.length),(7,.sl 6001 0 e.2.1.length),(12,sl eExt t4),(13,I t5),(14,I t6),(20,sl eExt t7),(21,I t8),(22,I e.2.2.1),(23,B e.2.2.2)],vD c c2 e.1 e.2.1⟩)
theorem NJ {t4 t5 t6 t7 t8 c c2 s e} (h:Loop (ie t4 t5 t6 t7 t8 c c2) s=some e):aq tab ow (.close [9002,10002,10004,10005,10006,10007,10011,10012,10013]) vd (D2 t4 t5 t6 t7 t8 c c2 s)=some (D8 t4 t5 t6 t7 t8 c c2 e):=by
 refine lrG (fun s o h=> ?_) h
 obtain ⟨_,_,_⟩:=s
 simp only [ie] at h
 simp+decide only [D2,D8,vD,vd,go_sem,reduceIte,Nat.reduceAdd]
 have d1:= @JZ
 have d2:= @io
 have d3:= @cB
 all_goals exact go
def im (t:List Ext) (t2:Int):(List Ext)×Int→Option (((List Ext)×Int)⊕(((List Ext)×Int×Bool)))
 | (out,t3)=>
   br (decide (t3<t2)) (
   (atL t t3).bind fun x=>
   (Loop (ie t t2 t3 out ((out.length:Nat):Int) x.A x.B) (([]:List Ext),([]:List Ext),0)).bind fun e_=>
   br (bW ((e_.1++e_.2.1).length) 16) (
   some (.inl ((e_.1++e_.2.1),(wrap .i64 (t3+1))))) none) (
   some (.inr (out,t3,decide (t3<t2))))
abbrev Cr (t:List Ext) (t2:Int) (s:(List Ext)×Int):St:=⟨[(3,sl eExt s.1),(12,sl eExt t),(13,I t2),(14,I s.2)],[]⟩
abbrev Cb (t:List Ext) (t2:Int):((List Ext)×Int×Bool)→ah×St:=fun e=>(.exit 0,⟨[(3,sl eExt e.1),(12,sl eExt t),(13,I t2),(14,I e.2.1),(15,B e.2.2)],[]⟩)
theorem Oq {t t2 s e} (h:Loop (im t t2) s=some e):aq tab ow (.close [5002,6000,6001,9002,10002,10004,10005,10006,10007,10011,10012,10013,12002,2001]) uP (Cr t t2 s)=some (Cb t t2 e):=by
 refine lrG (fun s o h=> ?_) h
 obtain ⟨_,_⟩:=s
 simp only [im] at h
 simp+decide only [Cr,Cb,uP,go_sem,reduceIte,Nat.reduceAdd]
 have d1:= @NJ
 all_goals exact go
def n6 (point:(List Ext)):Option ((List Ext)):=
 (I4).bind fun r_=>
 (Loop (im point ((point.length:Nat):Int)) (([r_]:List Ext),0)).bind fun e_2=>
 some e_2.1
theorem AF {point r} (h:n6 point=some r):Call tab ow 88 [sl eExt point] []=some (sl eExt r,[]):=by
 rw [aa (af:=tV) rfl]
 unfold n6 at h
 simp+decide only [tV,I0,go_sem,reduceIte,Nat.reduceAdd]
 have d1:= @JZ
 have d2:= @Oq
 all_goals exact go
end
def kN (kind:Int):Option (Int):=
 (vp kind 1 2).bind fun r_=>
 br (!r_) (
 some 0) (
 some (wrap .i64 (kind+1)))
theorem Eh {kind r} (h:kN kind=some r):Call tab ow 293 [I kind] []=some (I r,[]):=by
 rw [aa (af:=rq) rfl]
 unfold kN at h
 simp+decide only [rq,EO,go_sem,reduceIte,Nat.reduceAdd]
 have d1:= @yd
 all_goals exact go
def wB (a b r_:Ext):Option (Ext):=
 (dZ b a).bind fun r_2=>
 (bt r_ r_2).bind fun r_3=>
 (cZ a r_3).bind fun r_4=>
 some r_4
theorem VE {a b r_ r} (h:wB a b r_=some r):Call tab ow 316 [.agg [I a.A,I a.B],.agg [I b.A,I b.B],.agg [I r_.A,I r_.B]] []=some (.agg [I r.A,I r.B],[]):=by
 rw [aa (af:=ul) rfl]
 unfold wB at h
 simp+decide only [ul,HH,go_sem,reduceIte,Nat.reduceAdd]
 have d1:= @io
 have d2:= @cB
 have d3:= @dS
 all_goals exact go
def rY (kind:Int) (v:(List Ext)):Option (Ext):=
 br (kind==1) (
 (atL v 0).bind fun x=>
 (atL v 1).bind fun x2=>
 (bt x x2).bind fun r_=>
 some r_) (
 (atL v 0).bind fun x3=>
 (atL v 1).bind fun x4=>
 (atL v 2).bind fun x5=>
 (bt x4 x5).bind fun r_2=>
 (atL v 3).bind fun x6=>
 (dZ r_2 x6).bind fun r_3=>
 (bt x3 r_3).bind fun r_4=>
 some r_4)
theorem Vm {kind v r} (h:rY kind v=some r):Call tab ow 314 [I kind,sl eExt v] []=some (.agg [I r.A,I r.B],[]):=by
 rw [aa (af:=tM) rfl]
 unfold rY at h
 simp+decide only [tM,Ib,go_sem,reduceIte,Nat.reduceAdd]
 have d1:= @cB
 have d2:= @io
 all_goals exact go
section
theorem a1D:mkR 2012 []=rws eU8 []:=rfl
attribute [local go_sem] a1D
def Ay (n:Int):Option ((List UInt8)):=
 br (bW (([(UInt8.ofInt (aJ .i64 n 24)),(UInt8.ofInt (aJ .i64 n 16)),(UInt8.ofInt (aJ .i64 n 8)),(UInt8.ofInt n)]:List UInt8).length) 1) (
 some ([(UInt8.ofInt (aJ .i64 n 24)),(UInt8.ofInt (aJ .i64 n 16)),(UInt8.ofInt (aJ .i64 n 8)),(UInt8.ofInt n)]:List UInt8)) none
theorem F8 {n r} (h:Ay n=some r):Call tab ow 169 [.lit (.slice none 0 0),I n] []=some (sl eU8 r,[]):=by
 rw [aa (af:=vL) rfl]
 unfold Ay at h
 simp+decide only [vL,LB,go_sem,reduceIte,Nat.reduceAdd]
 all_goals exact go
end
section
theorem DI:mkR 1007 []=rws eU8 []:=rfl
attribute [local go_sem] DI
theorem E4:mkR 1013 []=rws (eL eU8) []:=rfl
attribute [local go_sem] E4
def cX (t:(List UInt8)) (m:Source):Option (Source):=
 br (bW m.State.length 1) (
 (Ay ((t.length:Nat):Int)).bind fun r_=>
 (lZ ([m.State,([(97:UInt8),(98:UInt8),(115:UInt8),(111:UInt8),(114:UInt8),(98:UInt8)]:List UInt8),r_,t]:List (List UInt8))).bind fun r_2=>
 some (Source.mk m.Script m.At r_2 0)) none
theorem iG {t m r} (h:cX t m=some r):Call tab ow 166 [.ptr 0 0 0 1,sl eU8 t] [⟨4,true,[[sl eExt m.Script,I m.At,S m.State,I m.Count]]⟩]=some (.tup [],[⟨4,true,[[sl eExt r.Script,I r.At,S r.State,I r.Count]]⟩]):=by
 rw [aa (af:=iz) rfl]
 unfold cX at h
 simp+decide only [iz,ur,go_sem,reduceIte,Nat.reduceAdd]
 have d1:= @F8
 have d2:= @tA
 all_goals exact go
end
def bo (list:(List Ext)) (m:Source):Option (Source):=
 (mT list).bind fun r_=>
 (cX r_ m).bind fun r_2=>
 some r_2
theorem fx {list m r} (h:bo list m=some r):Call tab ow 167 [.ptr 0 0 0 1,sl eExt list] [⟨4,true,[[sl eExt m.Script,I m.At,S m.State,I m.Count]]⟩]=some (.tup [],[⟨4,true,[[sl eExt r.Script,I r.At,S r.State,I r.Count]]⟩]):=by
 rw [aa (af:=fB) rfl]
 unfold bo at h
 simp+decide only [fB,ms,go_sem,reduceIte,Nat.reduceAdd]
 have d1:= @Ez
 have d2:= @iG
 all_goals exact go
end
end Go.AI.Fn
