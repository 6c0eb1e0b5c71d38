/- Walks through the program, with open values. -/
import Derived.Test.YtdmhkkcihecndaaGreatStr
set_option linter.unusedVariables false
set_option linter.unusedSimpArgs false
set_option maxRecDepth 100000
set_option maxHeartbeats 1000000
namespace Go.AI.Fn
noncomputable section
open IntKind (wrap)
def iZ (m:List Int) (t2:List UInt8):(List Int)×Int→Option (((List Int)×Int)⊕(((List Int)×Int×Bool)))
 | (m2,i)=>
   br (decide (i<((t2.length:Nat):Int))) (
   br (decide (0≤(wrap .i64 (i.tdiv 8)))&&decide ((wrap .i64 (i.tdiv 8)).toNat<25)) (
   (m2[(wrap .i64 (i.tdiv 8)).toNat]?).bind fun x=>
   (atL t2 i).bind fun c=>
   br (decide (0≤(wrap .u64 (wrap .i64 (8*(i.tmod 8)))))) (
   br (decide (0≤(wrap .i64 (i.tdiv 8)))&&decide ((wrap .i64 (i.tdiv 8)).toNat<25)) (
   br (decide ((wrap .i64 (i.tdiv 8)).toNat<m2.length)) (
   some (.inl ((m2.set ((wrap .i64 (i.tdiv 8)).toNat) (wR .u64 x (aD .u64 (wrap .u64 (c.toNat:Int)) (wrap .u64 (wrap .i64 (8*(i.tmod 8))))))),(wrap .i64 (i+1))))) none) none) none) none) (
   some (.inr (m2,i,decide (i<((t2.length:Nat):Int)))))
abbrev ur (m m2:List Int):List (Nat×Blk):=[(1000,⟨25,true,[ar .u64 m]⟩),(2001,⟨25,true,[ar .u64 m2]⟩)]
abbrev BV (m:List Int) (t2:List UInt8) (s:(List Int)×Int):St:=⟨[(0,S t2),(2,.ptr 1000 0 0 1),(3,.ptr 2001 0 0 1),(4,I s.2)],ur m s.1⟩
abbrev Cj (m:List Int) (t2:List UInt8):((List Int)×Int×Bool)→ag×St:=fun e=>(.exit 0,⟨[(0,S t2),(2,.ptr 1000 0 0 1),(3,.ptr 2001 0 0 1),(4,I e.2.1),(9,B e.2.2)],ur m e.1⟩)
theorem O0 {m t2 s e} (h:Loop (iZ m t2) s=some e):aq tab ow (.close []) uq (BV m t2 s)=some (Cj m t2 e):=by
 refine lrG (fun s o h=> ?_) h
 obtain ⟨_,_⟩:=s
 simp only [iZ] at h
 simp only [BV,Cj,ur,uq]
 exact go2
def uJ (t:(List UInt8)):Option ((List Int)):=
 (Loop (iZ (nZ 25) t) ((nZ 25),0)).bind fun e_=>
 br (decide (e_.1.length=25)) (
 br (decide (e_.1.length=25)) (
 br (decide (e_.1.length=25)) (
 some e_.1) none) none) none
theorem Wb {t r} (h:uJ t=some r):Call tab ow 304 [S t] []=some (.agg (ar .u64 r),[]):=by
 rw [ab (af:=sX) rfl]
 unfold uJ at h
 simp only [sX,Ia]
 have d1:= @O0
 exact go2
def Ch:Option ((List Int)):=
 some ([1,32898,9223372036854808714,9223372039002292224,32907,2147483649,9223372039002292353,9223372036854808585,138,136,2147516425,2147483658,2147516555,9223372036854775947,9223372036854808713,9223372036854808579,9223372036854808578,9223372036854775936,32778,9223372039002259466,9223372039002292353,9223372036854808704,2147483649,9223372039002292232]:List Int)
theorem R8 {r} (h:Ch=some r):Call tab ow 343 [] []=some (.agg (ar .u64 r),[]):=by
 rw [ab (af:=pM) rfl]
 unfold Ch at h
 simp only [pM,Fi]
 exact go2
def BM:Option ((List Int)):=
 some ([0,1,62,28,27,36,44,6,55,20,3,10,43,25,39,41,45,15,21,8,18,2,61,56,14]:List Int)
theorem R1 {r} (h:BM=some r):Call tab ow 344 [] []=some (.agg (ar .u64 r),[]):=by
 rw [ab (af:=pK) rfl]
 unfold BM at h
 simp only [pK,EB]
 exact go2
def tM (x n:Int):Option (Int):=
 br (n==0) (
 some x) (
 br (decide (0≤n)) (
 br (decide (0≤(wrap .u64 (64-n)))) (
 some (wR .u64 (aD .u64 x n) (aM .u64 x (wrap .u64 (64-n))))) none) none)
theorem KU {x n r} (h:tM x n=some r):Call tab ow 345 [.lit (.int .u64 x),.lit (.int .u64 n)] []=some (.lit (.int .u64 r),[]):=by
 rw [ab (af:=uY) rfl]
 unfold tM at h
 simp only [uY,Lc]
 exact go2
def fW (m5 m6 m7 m8:List Int) (t2:Int):(List Int)×Int→Option (((List Int)×Int)⊕(((List Int)×Int×Bool)))
 | (m9,t3)=>
   br (decide (t3<5)) (
   br (decide (0≤t3)&&decide (t3.toNat<25)) (
   (m5[t3.toNat]?).bind fun x=>
   br (decide (0≤(wrap .i64 (t3+5)))&&decide ((wrap .i64 (t3+5)).toNat<25)) (
   (m5[(wrap .i64 (t3+5)).toNat]?).bind fun x2=>
   br (decide (0≤(wrap .i64 (t3+10)))&&decide ((wrap .i64 (t3+10)).toNat<25)) (
   (m5[(wrap .i64 (t3+10)).toNat]?).bind fun x3=>
   br (decide (0≤(wrap .i64 (t3+15)))&&decide ((wrap .i64 (t3+15)).toNat<25)) (
   (m5[(wrap .i64 (t3+15)).toNat]?).bind fun x4=>
   br (decide (0≤(wrap .i64 (t3+20)))&&decide ((wrap .i64 (t3+20)).toNat<25)) (
   (m5[(wrap .i64 (t3+20)).toNat]?).bind fun x5=>
   br (decide (0≤t3)&&decide (t3.toNat<5)) (
   br (decide (t3.toNat<m9.length)) (
   some (.inl ((m9.set t3.toNat (oI .u64 (oI .u64 (oI .u64 (oI .u64 x x2) x3) x4) x5)),(wrap .i64 (t3+1))))) none) none) none) none) none) none) none) (
   some (.inr (m9,t3,decide (t3<5))))
abbrev p7 (m5 m6 m7 m8 m9:List Int):List (Nat×Blk):=[(1000,⟨25,true,[ar .u64 m5]⟩),(1001,⟨25,true,[ar .u64 m6]⟩),(2001,⟨24,true,[ar .u64 m7]⟩),(3001,⟨25,true,[ar .u64 m8]⟩),(7001,⟨5,true,[ar .u64 m9]⟩)]
abbrev y4 (m5 m6 m7 m8:List Int) (t2:Int) (s:(List Int)×Int):St:=⟨[(1,.ptr 1000 0 0 1),(2,.ptr 1001 0 0 1),(3,.ptr 2001 0 0 1),(4,.ptr 3001 0 0 1),(5,I t2),(6,.ptr 7001 0 0 1),(7,I s.2)],p7 m5 m6 m7 m8 s.1⟩
abbrev yD (m5 m6 m7 m8:List Int) (t2:Int):((List Int)×Int×Bool)→ag×St:=fun e=>(.exit 2,⟨[(1,.ptr 1000 0 0 1),(2,.ptr 1001 0 0 1),(3,.ptr 2001 0 0 1),(4,.ptr 3001 0 0 1),(5,I t2),(6,.ptr 7001 0 0 1),(7,I e.2.1),(22,B e.2.2)],p7 m5 m6 m7 m8 e.1⟩)
theorem JM {m5 m6 m7 m8 t2 s e} (h:Loop (fW m5 m6 m7 m8 t2) s=some e):aq tab ow (.close []) oK (y4 m5 m6 m7 m8 t2 s)=some (yD m5 m6 m7 m8 t2 e):=by
 refine lrG (fun s o h=> ?_) h
 obtain ⟨_,_⟩:=s
 simp only [fW] at h
 simp only [y4,yD,p7,oK]
 exact go2
def g8 (m11 m12 m13 m14:List Int) (t4:Int):(List Int)×Int→Option (((List Int)×Int)⊕(((List Int)×Int×Bool)))
 | (m10,t5)=>
   br (decide (t5<25)) (
   br (decide (0≤t5)&&decide (t5.toNat<25)) (
   (m10[t5.toNat]?).bind fun x6=>
   br (decide (0≤((wrap .i64 (t5+4)).tmod 5))&&decide (((wrap .i64 (t5+4)).tmod 5).toNat<5)) (
   (m14[((wrap .i64 (t5+4)).tmod 5).toNat]?).bind fun x7=>
   br (decide (0≤((wrap .i64 (t5+1)).tmod 5))&&decide (((wrap .i64 (t5+1)).tmod 5).toNat<5)) (
   (m14[((wrap .i64 (t5+1)).tmod 5).toNat]?).bind fun x8=>
   (tM x8 1).bind fun r_3=>
   br (decide (0≤t5)&&decide (t5.toNat<25)) (
   br (decide (t5.toNat<m10.length)) (
   some (.inl ((m10.set t5.toNat (oI .u64 x6 (oI .u64 x7 r_3))),(wrap .i64 (t5+1))))) none) none) none) none) none) (
   some (.inr (m10,t5,decide (t5<25))))
abbrev oO (m11 m12 m13 m14 m10:List Int):List (Nat×Blk):=[(1000,⟨25,true,[ar .u64 m10]⟩),(1001,⟨25,true,[ar .u64 m11]⟩),(2001,⟨24,true,[ar .u64 m12]⟩),(3001,⟨25,true,[ar .u64 m13]⟩),(7001,⟨5,true,[ar .u64 m14]⟩)]
abbrev yj (m11 m12 m13 m14:List Int) (t4:Int) (s:(List Int)×Int):St:=⟨[(1,.ptr 1000 0 0 1),(2,.ptr 1001 0 0 1),(3,.ptr 2001 0 0 1),(4,.ptr 3001 0 0 1),(5,I t4),(6,.ptr 7001 0 0 1),(8,I s.2)],oO m11 m12 m13 m14 s.1⟩
abbrev yg (m11 m12 m13 m14:List Int) (t4:Int):((List Int)×Int×Bool)→ag×St:=fun e=>(.exit 4,⟨[(1,.ptr 1000 0 0 1),(2,.ptr 1001 0 0 1),(3,.ptr 2001 0 0 1),(4,.ptr 3001 0 0 1),(5,I t4),(6,.ptr 7001 0 0 1),(8,I e.2.1),(51,B e.2.2)],oO m11 m12 m13 m14 e.1⟩)
theorem K0 {m11 m12 m13 m14 t4 s e} (h:Loop (g8 m11 m12 m13 m14 t4) s=some e):aq tab ow (.close [15013]) oB (yj m11 m12 m13 m14 t4 s)=some (yg m11 m12 m13 m14 t4 e):=by
 refine lrG (fun s o h=> ?_) h
 obtain ⟨_,_⟩:=s
 simp only [g8] at h
 simp only [yj,yg,oO,oB]
 have d1:= @KU
 exact go2
def gb (m21 m22 m23 m24 m25:List Int) (t8 t9:Int):(List Int)×Int→Option (((List Int)×Int)⊕(((List Int)×Int×Bool)))
 | (m26,t10)=>
   br (decide (t10<5)) (
   br (decide (0≤(wrap .i64 (t9+(wrap .i64 (5*t10)))))&&decide ((wrap .i64 (t9+(wrap .i64 (5*t10)))).toNat<25)) (
   (m21[(wrap .i64 (t9+(wrap .i64 (5*t10)))).toNat]?).bind fun x9=>
   br (decide (0≤(wrap .i64 (t9+(wrap .i64 (5*t10)))))&&decide ((wrap .i64 (t9+(wrap .i64 (5*t10)))).toNat<25)) (
   (m24[(wrap .i64 (t9+(wrap .i64 (5*t10)))).toNat]?).bind fun x10=>
   (tM x9 x10).bind fun r_4=>
   br (decide (0≤(wrap .i64 (t10+(wrap .i64 (5*((wrap .i64 ((wrap .i64 (2*t9))+(wrap .i64 (3*t10)))).tmod 5))))))&&decide ((wrap .i64 (t10+(wrap .i64 (5*((wrap .i64 ((wrap .i64 (2*t9))+(wrap .i64 (3*t10)))).tmod 5))))).toNat<25)) (
   br (decide ((wrap .i64 (t10+(wrap .i64 (5*((wrap .i64 ((wrap .i64 (2*t9))+(wrap .i64 (3*t10)))).tmod 5))))).toNat<m26.length)) (
   some (.inl ((m26.set ((wrap .i64 (t10+(wrap .i64 (5*((wrap .i64 ((wrap .i64 (2*t9))+(wrap .i64 (3*t10)))).tmod 5))))).toNat) r_4),(wrap .i64 (t10+1))))) none) none) none) none) (
   some (.inr (m26,t10,decide (t10<5))))
abbrev pz (m21 m22 m23 m24 m25 m26:List Int):List (Nat×Blk):=[(1000,⟨25,true,[ar .u64 m21]⟩),(1001,⟨25,true,[ar .u64 m22]⟩),(2001,⟨24,true,[ar .u64 m23]⟩),(3001,⟨25,true,[ar .u64 m24]⟩),(7001,⟨5,true,[ar .u64 m25]⟩),(16001,⟨25,true,[ar .u64 m26]⟩)]
abbrev xA (m21 m22 m23 m24 m25:List Int) (t8 t9:Int) (s:(List Int)×Int):St:=⟨[(1,.ptr 1000 0 0 1),(2,.ptr 1001 0 0 1),(3,.ptr 2001 0 0 1),(4,.ptr 3001 0 0 1),(5,I t8),(9,.ptr 16001 0 0 1),(10,I t9),(11,I s.2)],pz m21 m22 m23 m24 m25 s.1⟩
abbrev xY (m21 m22 m23 m24 m25:List Int) (t8 t9:Int):((List Int)×Int×Bool)→ag×St:=fun e=>(.exit 8,⟨[(1,.ptr 1000 0 0 1),(2,.ptr 1001 0 0 1),(3,.ptr 2001 0 0 1),(4,.ptr 3001 0 0 1),(5,I t8),(9,.ptr 16001 0 0 1),(10,I t9),(11,I e.2.1),(77,B e.2.2)],pz m21 m22 m23 m24 m25 e.1⟩)
theorem K6 {m21 m22 m23 m24 m25 t8 t9 s e} (h:Loop (gb m21 m22 m23 m24 m25 t8 t9) s=some e):aq tab ow (.close [23021]) oj (xA m21 m22 m23 m24 m25 t8 t9 s)=some (xY m21 m22 m23 m24 m25 t8 t9 e):=by
 refine lrG (fun s o h=> ?_) h
 obtain ⟨_,_⟩:=s
 simp only [gb] at h
 simp only [xA,xY,pz,oj]
 have d1:= @KU
 exact go2
def fY (m15 m16 m17 m18 m19:List Int) (t6:Int):(List Int)×Int→Option (((List Int)×Int)⊕(((List Int)×Int×Bool)))
 | (m20,t7)=>
   br (decide (t7<5)) (
   (Loop (gb m15 m16 m17 m18 m19 t6 t7) (m20,0)).bind fun e_3=>
   some (.inl (e_3.1,(wrap .i64 (t7+1))))) (
   some (.inr (m20,t7,decide (t7<5))))
abbrev pr (m15 m16 m17 m18 m19 m20:List Int):List (Nat×Blk):=[(1000,⟨25,true,[ar .u64 m15]⟩),(1001,⟨25,true,[ar .u64 m16]⟩),(2001,⟨24,true,[ar .u64 m17]⟩),(3001,⟨25,true,[ar .u64 m18]⟩),(7001,⟨5,true,[ar .u64 m19]⟩),(16001,⟨25,true,[ar .u64 m20]⟩)]
abbrev xR (m15 m16 m17 m18 m19:List Int) (t6:Int) (s:(List Int)×Int):St:=⟨[(1,.ptr 1000 0 0 1),(2,.ptr 1001 0 0 1),(3,.ptr 2001 0 0 1),(4,.ptr 3001 0 0 1),(5,I t6),(9,.ptr 16001 0 0 1),(10,I s.2)],pr m15 m16 m17 m18 m19 s.1⟩
abbrev xi (m15 m16 m17 m18 m19:List Int) (t6:Int):((List Int)×Int×Bool)→ag×St:=fun e=>(.exit 6,⟨[(1,.ptr 1000 0 0 1),(2,.ptr 1001 0 0 1),(3,.ptr 2001 0 0 1),(4,.ptr 3001 0 0 1),(5,I t6),(9,.ptr 16001 0 0 1),(10,I e.2.1),(73,B e.2.2)],pr m15 m16 m17 m18 m19 e.1⟩)
theorem JR {m15 m16 m17 m18 m19 t6 s e} (h:Loop (fY m15 m16 m17 m18 m19 t6) s=some e):aq tab ow (.close [23021]) ox (xR m15 m16 m17 m18 m19 t6 s)=some (xi m15 m16 m17 m18 m19 t6 e):=by
 refine lrG (fun s o h=> ?_) h
 obtain ⟨_,_⟩:=s
 simp only [fY] at h
 simp only [xR,xi,pr,ox]
 have d1:= @K6
 exact go2
def ga (m34 m35 m36 m37 m38:List Int) (t13 t14:Int):(List Int)×Int→Option (((List Int)×Int)⊕(((List Int)×Int×Bool)))
 | (m33,t15)=>
   br (decide (t15<5)) (
   br (decide (0≤(wrap .i64 (t14+(wrap .i64 (5*t15)))))&&decide ((wrap .i64 (t14+(wrap .i64 (5*t15)))).toNat<25)) (
   (m38[(wrap .i64 (t14+(wrap .i64 (5*t15)))).toNat]?).bind fun x11=>
   br (decide (0≤(wrap .i64 (((wrap .i64 (t14+1)).tmod 5)+(wrap .i64 (5*t15)))))&&decide ((wrap .i64 (((wrap .i64 (t14+1)).tmod 5)+(wrap .i64 (5*t15)))).toNat<25)) (
   (m38[(wrap .i64 (((wrap .i64 (t14+1)).tmod 5)+(wrap .i64 (5*t15)))).toNat]?).bind fun x12=>
   br (decide (0≤(wrap .i64 (((wrap .i64 (t14+2)).tmod 5)+(wrap .i64 (5*t15)))))&&decide ((wrap .i64 (((wrap .i64 (t14+2)).tmod 5)+(wrap .i64 (5*t15)))).toNat<25)) (
   (m38[(wrap .i64 (((wrap .i64 (t14+2)).tmod 5)+(wrap .i64 (5*t15)))).toNat]?).bind fun x13=>
   br (decide (0≤(wrap .i64 (t14+(wrap .i64 (5*t15)))))&&decide ((wrap .i64 (t14+(wrap .i64 (5*t15)))).toNat<25)) (
   br (decide ((wrap .i64 (t14+(wrap .i64 (5*t15)))).toNat<m33.length)) (
   some (.inl ((m33.set ((wrap .i64 (t14+(wrap .i64 (5*t15)))).toNat) (oI .u64 x11 (bw .u64 (bV .u64 x12) x13))),(wrap .i64 (t15+1))))) none) none) none) none) none) (
   some (.inr (m33,t15,decide (t15<5))))
abbrev pd (m34 m35 m36 m37 m38 m33:List Int):List (Nat×Blk):=[(1000,⟨25,true,[ar .u64 m33]⟩),(1001,⟨25,true,[ar .u64 m34]⟩),(2001,⟨24,true,[ar .u64 m35]⟩),(3001,⟨25,true,[ar .u64 m36]⟩),(7001,⟨5,true,[ar .u64 m37]⟩),(16001,⟨25,true,[ar .u64 m38]⟩)]
abbrev ym (m34 m35 m36 m37 m38:List Int) (t13 t14:Int) (s:(List Int)×Int):St:=⟨[(1,.ptr 1000 0 0 1),(2,.ptr 1001 0 0 1),(3,.ptr 2001 0 0 1),(4,.ptr 3001 0 0 1),(5,I t13),(9,.ptr 16001 0 0 1),(12,I t14),(13,I s.2)],pd m34 m35 m36 m37 m38 s.1⟩
abbrev xM (m34 m35 m36 m37 m38:List Int) (t13 t14:Int):((List Int)×Int×Bool)→ag×St:=fun e=>(.exit 12,⟨[(1,.ptr 1000 0 0 1),(2,.ptr 1001 0 0 1),(3,.ptr 2001 0 0 1),(4,.ptr 3001 0 0 1),(5,I t13),(9,.ptr 16001 0 0 1),(12,I t14),(13,I e.2.1),(108,B e.2.2)],pd m34 m35 m36 m37 m38 e.1⟩)
theorem K7 {m34 m35 m36 m37 m38 t13 t14 s e} (h:Loop (ga m34 m35 m36 m37 m38 t13 t14) s=some e):aq tab ow (.close []) ol (ym m34 m35 m36 m37 m38 t13 t14 s)=some (xM m34 m35 m36 m37 m38 t13 t14 e):=by
 refine lrG (fun s o h=> ?_) h
 obtain ⟨_,_⟩:=s
 simp only [ga] at h
 simp only [ym,xM,pd,ol]
 exact go2
def gi (m28 m29 m30 m31 m32:List Int) (t11:Int):(List Int)×Int→Option (((List Int)×Int)⊕(((List Int)×Int×Bool)))
 | (m27,t12)=>
   br (decide (t12<5)) (
   (Loop (ga m28 m29 m30 m31 m32 t11 t12) (m27,0)).bind fun e_5=>
   some (.inl (e_5.1,(wrap .i64 (t12+1))))) (
   some (.inr (m27,t12,decide (t12<5))))
abbrev oX (m28 m29 m30 m31 m32 m27:List Int):List (Nat×Blk):=[(1000,⟨25,true,[ar .u64 m27]⟩),(1001,⟨25,true,[ar .u64 m28]⟩),(2001,⟨24,true,[ar .u64 m29]⟩),(3001,⟨25,true,[ar .u64 m30]⟩),(7001,⟨5,true,[ar .u64 m31]⟩),(16001,⟨25,true,[ar .u64 m32]⟩)]
abbrev ya (m28 m29 m30 m31 m32:List Int) (t11:Int) (s:(List Int)×Int):St:=⟨[(1,.ptr 1000 0 0 1),(2,.ptr 1001 0 0 1),(3,.ptr 2001 0 0 1),(4,.ptr 3001 0 0 1),(5,I t11),(9,.ptr 16001 0 0 1),(12,I s.2)],oX m28 m29 m30 m31 m32 s.1⟩
abbrev y8 (m28 m29 m30 m31 m32:List Int) (t11:Int):((List Int)×Int×Bool)→ag×St:=fun e=>(.exit 10,⟨[(1,.ptr 1000 0 0 1),(2,.ptr 1001 0 0 1),(3,.ptr 2001 0 0 1),(4,.ptr 3001 0 0 1),(5,I t11),(9,.ptr 16001 0 0 1),(12,I e.2.1),(104,B e.2.2)],oX m28 m29 m30 m31 m32 e.1⟩)
theorem KE {m28 m29 m30 m31 m32 t11 s e} (h:Loop (gi m28 m29 m30 m31 m32 t11) s=some e):aq tab ow (.close []) nY (ya m28 m29 m30 m31 m32 t11 s)=some (y8 m28 m29 m30 m31 m32 t11 e):=by
 refine lrG (fun s o h=> ?_) h
 obtain ⟨_,_⟩:=s
 simp only [gi] at h
 simp only [ya,y8,oX,nY]
 have d1:= @K7
 exact go2
def gc (m2 m3 m4:List Int):(List Int)×Int→Option (((List Int)×Int)⊕(((List Int)×Int×Bool)))
 | (m,t)=>
   br (decide (t<24)) (
   (Loop (fW m m2 m3 m4 t) ((nZ 5),0)).bind fun e_=>
   (Loop (g8 m2 m3 m4 e_.1 t) (m,0)).bind fun e_2=>
   (Loop (fY e_2.1 m2 m3 m4 e_.1 t) ((nZ 25),0)).bind fun e_4=>
   (Loop (gi m2 m3 m4 e_.1 e_4.1 t) (e_2.1,0)).bind fun e_6=>
   (e_6.1[0]?).bind fun x14=>
   br (decide (0≤t)&&decide (t.toNat<24)) (
   (m3[t.toNat]?).bind fun x15=>
   br (decide (0<e_6.1.length)) (
   some (.inl ((e_6.1.set 0 (oI .u64 x14 x15)),(wrap .i64 (t+1))))) none) none) (
   some (.inr (m,t,decide (t<24))))
abbrev oY (m2 m3 m4 m:List Int):List (Nat×Blk):=[(1000,⟨25,true,[ar .u64 m]⟩),(1001,⟨25,true,[ar .u64 m2]⟩),(2001,⟨24,true,[ar .u64 m3]⟩),(3001,⟨25,true,[ar .u64 m4]⟩)]
abbrev yw (m2 m3 m4:List Int) (s:(List Int)×Int):St:=⟨[(1,.ptr 1000 0 0 1),(2,.ptr 1001 0 0 1),(3,.ptr 2001 0 0 1),(4,.ptr 3001 0 0 1),(5,I s.2)],oY m2 m3 m4 s.1⟩
abbrev xw (m2 m3 m4:List Int):((List Int)×Int×Bool)→ag×St:=fun e=>(.exit 0,⟨[(1,.ptr 1000 0 0 1),(2,.ptr 1001 0 0 1),(3,.ptr 2001 0 0 1),(4,.ptr 3001 0 0 1),(5,I e.2.1),(17,B e.2.2)],oY m2 m3 m4 e.1⟩)
theorem Ki {m2 m3 m4 s e} (h:Loop (gc m2 m3 m4) s=some e):aq tab ow (.close [7001,15013,16001,23021]) pj (yw m2 m3 m4 s)=some (xw m2 m3 m4 e):=by
 refine lrG (fun s o h=> ?_) h
 obtain ⟨_,_⟩:=s
 simp only [gc] at h
 simp only [yw,xw,oY,pj]
 have d1:= @JM
 have d2:= @K0
 have d3:= @JR
 have d4:= @KE
 exact go2
def o1 (ListtoArray:(List Int)):Option ((List Int)):=
 br (decide (ListtoArray.length=25)) (
 (Ch).bind fun r_=>
 br (decide (r_.length=24)) (
 (BM).bind fun r_2=>
 br (decide (r_2.length=25)) (
 (Loop (gc (nZ 25) r_ r_2) (ListtoArray,0)).bind fun e_7=>
 br (decide (e_7.1.length=25)) (
 br (decide (e_7.1.length=25)) (
 br (decide (e_7.1.length=25)) (
 some e_7.1) none) none) none) none) none) none
theorem Of {ListtoArray r} (h:o1 ListtoArray=some r):Call tab ow 305 [.agg (ar .u64 ListtoArray)] []=some (.agg (ar .u64 r),[]):=by
 rw [ab (af:=oe) rfl]
 unfold o1 at h
 simp only [oe,CO]
 have d1:= @R8
 have d2:= @R1
 have d3:= @Ki
 exact go2
section
theorem Wu:mkR 2000 []=rws eU8 []:=rfl
attribute [local go_sem] Wu
theorem VE:mkR 6011 []=rws eU8 []:=rfl
attribute [local go_sem] VE
def jK (m:List Int) (n2:Int):(List UInt8)×Int→Option (((List UInt8)×Int)⊕(((List UInt8)×Int×Bool)))
 | (l,i)=>
   br (decide (i<n2)) (
   br (decide (0≤(wrap .i64 (i.tdiv 8)))&&decide ((wrap .i64 (i.tdiv 8)).toNat<25)) (
   (m[(wrap .i64 (i.tdiv 8)).toNat]?).bind fun x=>
   br (decide (0≤(wrap .u64 (wrap .i64 (8*(i.tmod 8)))))) (
   br (bE ((l++([(UInt8.ofInt (aM .u64 x (wrap .u64 (wrap .i64 (8*(i.tmod 8))))))]:List UInt8)).length) 1) (
   some (.inl ((l++([(UInt8.ofInt (aM .u64 x (wrap .u64 (wrap .i64 (8*(i.tmod 8))))))]:List UInt8)),(wrap .i64 (i+1))))) none) none) none) (
   some (.inr (l,i,decide (i<n2))))
abbrev wC (m:List Int) (l:List UInt8):List (Nat×Blk):=[(1000,⟨25,true,[ar .u64 m]⟩),(2000,⟨1,false,rws eU8 l⟩)]
abbrev FY (m:List Int) (n2:Int) (s:(List UInt8)×Int):St:=⟨[(1,I n2),(2,.ptr 1000 0 0 1),(5,.sl 2000 0 s.1.length),(6,I s.2)],wC m s.1⟩
abbrev ET (m:List Int) (n2:Int):((List UInt8)×Int×Bool)→ag×St:=fun e=>(.exit 0,⟨[(1,I n2),(2,.ptr 1000 0 0 1),(5,.sl 2000 0 e.1.length),(6,I e.2.1),(10,B e.2.2)],wC m e.1⟩)
theorem Rm {m n2 s e} (h:Loop (jK m n2) s=some e):aq tab ow (.close [6011,6012]) Gl (FY m n2 s)=some (ET m n2 e):=by
 refine lrG (fun s o h=> ?_) h
 obtain ⟨_,_⟩:=s
 simp only [jK] at h
 simp only [FY,ET,wC,Gl,FU]
 exact go2
def xQ (a:(List Int)) (n:Int):Option ((List UInt8)):=
 br (decide (a.length=25)) (
 (Loop (jK a n) (([]:List UInt8),0)).bind fun e_=>
 some e_.1) none
theorem ZT {a n r} (h:xQ a n=some r):Call tab ow 306 [.agg (ar .u64 a),I n] []=some (S r,[]):=by
 rw [ab (af:=vM) rfl]
 unfold xQ at h
 simp only [vM,Cy]
 have d1:= @Rm
 exact go2
end
section
theorem Ue:mkR 2002 []=rws eU8 []:=rfl
attribute [local go_sem] Ue
theorem UA:mkR 4001 []=rws eU8 []:=rfl
attribute [local go_sem] UA
def ik (l2:List UInt8):(List UInt8)→Option (((List UInt8))⊕(((List UInt8)×Bool)))
 |l=>
  br ((((l.length:Nat):Int).tmod 136) !=0) (
  br (bE ((l++([(0:UInt8)]:List UInt8)).length) 1) (
  some (.inl (l++([(0:UInt8)]:List UInt8)))) none) (
  some (.inr (l,((((l.length:Nat):Int).tmod 136) !=0))))
abbrev wE (l2 l:List UInt8):List (Nat×Blk):=[(2001,⟨1,false,rws eU8 l⟩),(2002,⟨1,false,rws eU8 l2⟩)]
abbrev EH (l2:List UInt8) (s:(List UInt8)):St:=⟨[(3,.sl 2001 0 s.length)],wE l2 s⟩
abbrev Ex (l2:List UInt8):((List UInt8)×Bool)→ag×St:=fun e=>(.exit 0,⟨[(3,.sl 2001 0 e.1.length),(15,B e.2)],wE l2 e.1⟩)
theorem RP {l2 s e} (h:Loop (ik l2) s=some e):aq tab ow (.close [4001,4002]) wB (EH l2 s)=some (Ex l2 e):=by
 refine lrG (fun s o h=> ?_) h
 simp only [ik] at h
 simp only [EH,Ex,wE,wB]
 exact go2
def jF (l4:List UInt8) (m4:List Int) (m5:List UInt8) (at_2:Int):(List Int)×Int→Option (((List Int)×Int)⊕(((List Int)×Int×Bool)))
 | (m3,i)=>
   br (decide (i<25)) (
   br (decide (0≤i)&&decide (i.toNat<25)) (
   (m3[i.toNat]?).bind fun x3=>
   br (decide (0≤i)&&decide (i.toNat<25)) (
   (m4[i.toNat]?).bind fun x4=>
   br (decide (0≤i)&&decide (i.toNat<25)) (
   br (decide (i.toNat<m3.length)) (
   some (.inl ((m3.set i.toNat (oI .u64 x3 x4)),(wrap .i64 (i+1))))) none) none) none) none) (
   some (.inr (m3,i,decide (i<25))))
abbrev wA (l4:List UInt8) (m4 m3:List Int):List (Nat×Blk):=[(2002,⟨1,false,rws eU8 l4⟩),(6001,⟨25,true,[ar .u64 m3]⟩),(10007,⟨25,true,[ar .u64 m4]⟩)]
abbrev FK (l4:List UInt8) (m4:List Int) (m5:List UInt8) (at_2:Int) (s:(List Int)×Int):St:=⟨[(3,sl eU8 m5),(4,.ptr 6001 0 0 1),(5,I at_2),(6,.ptr 10007 0 0 1),(7,I s.2)],wA l4 m4 s.1⟩
abbrev ED (l4:List UInt8) (m4:List Int) (m5:List UInt8) (at_2:Int):((List Int)×Int×Bool)→ag×St:=fun e=>(.exit 4,⟨[(3,sl eU8 m5),(4,.ptr 6001 0 0 1),(5,I at_2),(6,.ptr 10007 0 0 1),(7,I e.2.1),(42,B e.2.2)],wA l4 m4 e.1⟩)
theorem Sm {l4 m4 m5 at_2 s e} (h:Loop (jF l4 m4 m5 at_2) s=some e):aq tab ow (.close []) ue (FK l4 m4 m5 at_2 s)=some (ED l4 m4 m5 at_2 e):=by
 refine lrG (fun s o h=> ?_) h
 obtain ⟨_,_⟩:=s
 simp only [jF] at h
 simp only [FK,ED,wA,ue]
 exact go2
def jN (l3 m2:List UInt8):(List Int)×Int→Option (((List Int)×Int)⊕(((List Int)×Int×Bool)))
 | (m,at_)=>
   br (decide (at_<((m2.length:Nat):Int))) (
   (jO m2 at_ (wrap .i64 (at_+136))).bind fun y=>
   (uJ y).bind fun r_=>
   br (decide (r_.length=25)) (
   (Loop (jF l3 r_ m2 at_) (m,0)).bind fun e_2=>
   br (decide (e_2.1.length=25)) (
   (o1 e_2.1).bind fun r_2=>
   br (decide (r_2.length=25)&&decide (e_2.1.length=25)) (
   some (.inl (r_2,(wrap .i64 (at_+136))))) none) none) none) (
   some (.inr (m,at_,decide (at_<((m2.length:Nat):Int)))))
abbrev qj (l3:List UInt8) (m:List Int):List (Nat×Blk):=[(2002,⟨1,false,rws eU8 l3⟩),(6001,⟨25,true,[ar .u64 m]⟩)]
abbrev wZ (l3 m2:List UInt8) (s:(List Int)×Int):St:=⟨[(3,sl eU8 m2),(4,.ptr 6001 0 0 1),(5,I s.2)],qj l3 s.1⟩
abbrev Gi (l3 m2:List UInt8):((List Int)×Int×Bool)→ag×St:=fun e=>(.exit 2,⟨[(3,sl eU8 m2),(4,.ptr 6001 0 0 1),(5,I e.2.1),(31,B e.2.2)],qj l3 e.1⟩)
theorem Sp {l3 m2 s e} (h:Loop (jN l3 m2) s=some e):aq tab ow (.close [10006,10007,15001,2001]) xa (wZ l3 m2 s)=some (Gi l3 m2 e):=by
 refine lrG (fun s o h=> ?_) h
 obtain ⟨_,_⟩:=s
 simp only [jN] at h
 simp only [wZ,Gi,qj,xa]
 have d1:= @Wb
 have d2:= @Sm
 have d3:= @Of
 exact go2
def j0 (b:(List UInt8)):Option ((List UInt8)):=
 br (bE b.length 1) (
 br (bE ((b++([(1:UInt8)]:List UInt8)).length) 1) (
 (Loop (ik ([(1:UInt8)]:List UInt8)) (b++([(1:UInt8)]:List UInt8))).bind fun e_=>
 br (decide (0≤(wrap .i64 (((e_.1.length:Nat):Int)-1)))) (
 br (decide ((wrap .i64 (((e_.1.length:Nat):Int)-1)).toNat<e_.1.length)) (
 (e_.1[(wrap .i64 (((e_.1.length:Nat):Int)-1)).toNat]?).bind fun x=>
 br (decide (0≤(wrap .i64 (((e_.1.length:Nat):Int)-1)))) (
 br (decide ((wrap .i64 (((e_.1.length:Nat):Int)-1)).toNat<e_.1.length)) (
 (e_.1[(wrap .i64 (((e_.1.length:Nat):Int)-1)).toNat]?).bind fun x2=>
 (Loop (jN ([(1:UInt8)]:List UInt8) (e_.1.set ((wrap .i64 (((e_.1.length:Nat):Int)-1)).toNat) (UInt8.ofInt (wR .u8 (x.toNat:Int) 128)))) ((nZ 25),0)).bind fun e_3=>
 br (decide (e_3.1.length=25)) (
 (xQ e_3.1 32).bind fun r_3=>
 some r_3) none) none) none) none) none) none) none
theorem nF {b r} (h:j0 b=some r):Call tab ow 210 [S b] []=some (S r,[]):=by
 rw [ab (af:=vA) rfl]
 unfold j0 at h
 simp only [vA,LM]
 have d1:= @RP
 have d2:= @Sp
 simp only [wZ,qj] at d2
 have d3:= @ZT
 exact go2
end
section
theorem PZ:mkR 2000 []=rws eU8 []:=rfl
attribute [local go_sem] PZ
theorem Qa:mkR 6007 []=rws eU8 []:=rfl
attribute [local go_sem] Qa
def s6 (n2:Int):(List UInt8)×Int→Option (((List UInt8)×Int)⊕(((List UInt8)×Int×Bool)))
 | (l,i)=>
   br (decide (i≥0)) (
   br (decide (0≤(wrap .u64 (wrap .i64 (8*i))))) (
   br (bE ((l++([(UInt8.ofInt (aM .i64 n2 (wrap .u64 (wrap .i64 (8*i)))))]:List UInt8)).length) 1) (
   some (.inl ((l++([(UInt8.ofInt (aM .i64 n2 (wrap .u64 (wrap .i64 (8*i)))))]:List UInt8)),(wrap .i64 (i-1))))) none) none) (
   some (.inr (l,i,decide (i≥0))))
abbrev AS (n2:Int) (s:(List UInt8)×Int):St:=⟨[(0,I n2),(5,.sl 2000 0 s.1.length),(6,I s.2)],[(2000,⟨1,false,rws eU8 s.1⟩)]⟩
abbrev Aj (n2:Int):((List UInt8)×Int×Bool)→ag×St:=fun e=>(.exit 0,⟨[(0,I n2),(5,.sl 2000 0 e.1.length),(6,I e.2.1),(11,B e.2.2)],[(2000,⟨1,false,rws eU8 e.1⟩)]⟩)
theorem Mw {n2 s e} (h:Loop (s6 n2) s=some e):aq tab ow (.close [6007,6008]) B9 (AS n2 s)=some (Aj n2 e):=by
 refine lrG (fun s o h=> ?_) h
 obtain ⟨_,_⟩:=s
 simp only [s6] at h
 simp only [AS,Aj,B9,B8]
 exact go2
def dy (n size:Int):Option ((List UInt8)):=
 (Loop (s6 n) (([]:List UInt8),(wrap .i64 (size-1)))).bind fun e_=>
 some e_.1
theorem fR {n size r} (h:dy n size=some r):Call tab ow 179 [I n,I size] []=some (sl eU8 r,[]):=by
 rw [ab (af:=qr) rfl]
 unfold dy at h
 simp only [qr,ww]
 have d1:= @Mw
 exact go2
end
def hU (s:Source) (t:(List UInt8)):Option (Source):=
 br (bE (s.State.length+(([97,98,115,111,114,98]:List UInt8)).length) 1) (
 (dy ((t.length:Nat):Int) 4).bind fun r_=>
 br (bE ((s.State++(([97,98,115,111,114,98]:List UInt8))).length+r_.length) 1) (
 br (bE (((s.State++(([97,98,115,111,114,98]:List UInt8)))++r_).length+t.length) 1) (
 (j0 (((s.State++(([97,98,115,111,114,98]:List UInt8)))++r_)++t)).bind fun r_2=>
 some (Source.mk s.Script s.At r_2 0)) none) none) none
theorem mp {s t r} (h:hU s t=some r):Call tab ow 148 [.agg [sl eExt s.Script,I s.At,S s.State,I s.Count],S t] []=some (.agg [sl eExt r.Script,I r.At,S r.State,I r.Count],[]):=by
 rw [ab (af:=pB) rfl]
 unfold hU at h
 simp only [pB,Fu]
 have d1:= @fR
 have d2:= @nF
 exact go2
def iL (t2:List UInt8):Int×Int→Option ((Int×Int)⊕((Int×Int×Bool)))
 | (n,i)=>
   br (decide (i<8)) (
   (atL t2 i).bind fun c=>
   some (.inl (((wrap .i64 ((wrap .i64 (n*256))+(wrap .i64 (c.toNat:Int)))).tmod 2130706433),(wrap .i64 (i+1))))) (
   some (.inr (n,i,decide (i<8))))
abbrev BD (t2:List UInt8) (s:Int×Int):St:=⟨[(0,S t2),(3,I s.1),(4,I s.2)],[]⟩
abbrev D1 (t2:List UInt8):(Int×Int×Bool)→ag×St:=fun e=>(.exit 0,⟨[(0,S t2),(3,I e.1),(4,I e.2.1),(6,B e.2.2)],[]⟩)
theorem PA {t2 s e} (h:Loop (iL t2) s=some e):aq tab ow (.close []) CA (BD t2 s)=some (D1 t2 e):=by
 refine lrG (fun s o h=> ?_) h
 obtain ⟨_,_⟩:=s
 simp only [iL] at h
 simp only [BD,D1,CA,Dq]
 exact go2
def oW (t:(List UInt8)):Option (Int):=
 (Loop (iL t) (0,0)).bind fun e_=>
 some e_.1
theorem Ve {t r} (h:oW t=some r):Call tab ow 266 [S t] []=some (I r,[]):=by
 rw [ab (af:=sD) rfl]
 unfold oW at h
 simp only [sD,zi]
 have d1:= @PA
 exact go2
def nA (s:Source):Option (Source×Ext):=
 br (decide (((s.Script.length:Nat):Int)>0)) (
 br (decide (((s.Script.length:Nat):Int)≠0)) (
 (atL s.Script (s.At.tmod ((s.Script.length:Nat):Int))).bind fun x=>
 some ((Source.mk s.Script (wrap .i64 (s.At+1)) s.State s.Count),x)) none) (
 br (bE (s.State.length+(([100,114,97,119]:List UInt8)).length) 1) (
 (dy s.Count 4).bind fun r_=>
 br (bE ((s.State++(([100,114,97,119]:List UInt8))).length+r_.length) 1) (
 (j0 ((s.State++(([100,114,97,119]:List UInt8)))++r_)).bind fun r_2=>
 (jO r_2 0 8).bind fun y=>
 (oW y).bind fun r_3=>
 (jO r_2 8 16).bind fun y2=>
 (oW y2).bind fun r_4=>
 some ((Source.mk s.Script s.At s.State (wrap .i64 (s.Count+1))),(Ext.mk r_3 r_4))) none) none)
theorem Dl {s r} (h:nA s=some r):Call tab ow 149 [.agg [sl eExt s.Script,I s.At,S s.State,I s.Count]] []=some (.tup [.agg [sl eExt r.1.Script,I r.1.At,S r.1.State,I r.1.Count],.agg [I r.2.A,I r.2.B]],[]):=by
 rw [ab (af:=vt) rfl]
 unfold nA at h
 simp only [vt,L1]
 have d1:= @fR
 have d2:= @nF
 have d3:= @Ve
 exact go2
def ws (n low high:Int):Option (Bool):=
 br (decide (low≤n)) (
 some (decide (n≤high))) (
 some false)
theorem zH {n low high r} (h:ws n low high=some r):Call tab ow 62 [I n,I low,I high] []=some (B r,[]):=by
 rw [ab (af:=WR) rfl]
 unfold ws at h
 simp only [WR,a85]
 exact go2
def oT (a:Int):Option (Bool):=
 (ws a 0 2130706432).bind fun r_=>
 some r_
theorem LL {a r} (h:oT a=some r):Call tab ow 186 [I a] []=some (B r,[]):=by
 rw [ab (af:=v8) rfl]
 unfold oT at h
 simp only [v8,LJ]
 have d1:= @zH
 exact go2
def qz (a:Ext):Option (Bool):=
 (oT a.A).bind fun r_=>
 br r_ (
 (oT a.B).bind fun r_2=>
 some r_2) (
 some false)
theorem JP {a r} (h:qz a=some r):Call tab ow 91 [.agg [I a.A,I a.B]] []=some (B r,[]):=by
 rw [ab (af:=E0) rfl]
 unfold qz at h
 simp only [E0,TF]
 have d1:= @LL
 exact go2
def fC (x:Ext):Option (Bool):=
 (qz x).bind fun r_=>
 some (!r_)
theorem Bi {x r} (h:fC x=some r):Call tab ow 185 [.agg [I x.A,I x.B],.ptr 0 0 0 1] [⟨1,true,[[.fn 91 []]]⟩]=some (B r,[⟨1,true,[[.fn 91 []]]⟩]):=by
 rw [ab (af:=mK) rfl]
 unfold fC at h
 simp only [mK,B0]
 have d1:= @JP
 exact go2
def aS (s2:List Ext) (t:Int):Int→Option ((Int)⊕(Int⊕(Int×Bool)))
 |t2=>
  br (decide (t2<t)) (
  (atL s2 t2).bind fun x=>
  (fC x).bind fun r_=>
  br r_ (
  some (.inr (.inl t2))) (
  some (.inl (wrap .i64 (t2+1))))) (
  some (.inr (.inr (t2,decide (t2<t)))))
abbrev cH (s2:List Ext) (t s:Int):St:=⟨[(0,sl eExt s2),(1,.fn 185 [.ptr 0 0 0 1]),(7,I t),(8,I s)],[(0,⟨1,true,[[.fn 91 []]]⟩)]⟩
abbrev cG (s2:List Ext) (t:Int):(Int⊕(Int×Bool))→ag×St:=alt (fun e=>((.ret,⟨[(4,I e)],[(0,⟨1,true,[[.fn 91 []]]⟩)]⟩):ag×St)) (fun e=>(.exit 0,⟨[(0,sl eExt s2),(1,.fn 185 [.ptr 0 0 0 1]),(7,I t),(8,I e.1),(9,B e.2)],[(0,⟨1,true,[[.fn 91 []]]⟩)]⟩))
theorem fZ {s2 t s e} (h:Loop (aS s2 t) s=some e):aq tab ow (.close [5005]) gL (cH s2 t s)=some (cG s2 t e):=by
 refine lrG (fun s o h=> ?_) h
 simp only [aS] at h
 simp only [cH,cG,gL,gN]
 have d1:= @Bi
 exact go2
def bc (s:(List Ext)):Option (Int):=
 (Loop (aS s ((s.length:Nat):Int)) 0).bind (alt (fun e_2=>
 some e_2) (fun e_3=>
 some (-1:Int)))
theorem gK {s r} (h:bc s=some r):Call tab ow 292 [sl eExt s,.fn 185 [.ptr 0 0 0 1]] [⟨1,true,[[.fn 91 []]]⟩]=some (I r,[⟨1,true,[[.fn 91 []]]⟩]):=by
 rw [ab (af:=cK) rfl]
 unfold bc at h
 simp only [cK,eg]
 have d1:= @fZ
 exact go2
def aW (s:(List Ext)):Option (Bool):=
 (bc s).bind fun r_=>
 some (decide (r_≥0))
theorem fI {s r} (h:aW s=some r):Call tab ow 184 [sl eExt s,.fn 185 [.ptr 0 0 0 1]] [⟨1,true,[[.fn 91 []]]⟩]=some (B r,[⟨1,true,[[.fn 91 []]]⟩]):=by
 rw [ab (af:=co) rfl]
 unfold aW at h
 simp only [co,gk]
 have d1:= @gK
 exact go2
def dh (list:(List Ext)):Option (Bool):=
 (aW list).bind fun r_=>
 some (!r_)
theorem iB {list r} (h:dh list=some r):Call tab ow 90 [.fn 91 [],sl eExt list] []=some (B r,[]):=by
 rw [ab (af:=qf) rfl]
 unfold dh at h
 simp only [qf,FE]
 have d1:= @fI
 exact go2
def Pp (a b:Int):Option (Int):=
 some ((wrap .i64 ((wrap .i64 (a-b))+2130706433)).tmod 2130706433)
theorem a39 {a b r} (h:Pp a b=some r):Call tab ow 274 [I a,I b] []=some (I r,[]):=by
 rw [ab (af:=MY) rfl]
 unfold Pp at h
 simp only [MY,a3d]
 exact go2
def eQ (a b:Ext):Option (Ext):=
 (Pp a.A b.A).bind fun r_=>
 (Pp a.B b.B).bind fun r_2=>
 some (Ext.mk r_ r_2)
theorem jJ {a b r} (h:eQ a b=some r):Call tab ow 155 [.agg [I a.A,I a.B],.agg [I b.A,I b.B]] []=some (.agg [I r.A,I r.B],[]):=by
 rw [ab (af:=qN) rfl]
 unfold eQ at h
 simp only [qN,F9]
 have d1:= @a39
 exact go2
def rY (x:Int):Option (Int):=
 br (decide (x≥4294967296)) (
 br (decide ((aM .u64 x 32)≥65536)) (
 br (decide ((aM .u64 (aM .u64 x 32) 16)≥256)) (
 (atL (([0,1,2,2,3,3,3,3,4,4,4,4,4,4,4,4,5,5,5,5,5,5,5,5,5,5,5,5,5,5,5,5,6,6,6,6,6,6,6,6,6,6,6,6,6,6,6,6,6,6,6,6,6,6,6,6,6,6,6,6,6,6,6,6,7,7,7,7,7,7,7,7,7,7,7,7,7,7,7,7,7,7,7,7,7,7,7,7,7,7,7,7,7,7,7,7,7,7,7,7,7,7,7,7,7,7,7,7,7,7,7,7,7,7,7,7,7,7,7,7,7,7,7,7,7,7,7,7,8,8,8,8,8,8,8,8,8,8,8,8,8,8,8,8,8,8,8,8,8,8,8,8,8,8,8,8,8,8,8,8,8,8,8,8,8,8,8,8,8,8,8,8,8,8,8,8,8,8,8,8,8,8,8,8,8,8,8,8,8,8,8,8,8,8,8,8,8,8,8,8,8,8,8,8,8,8,8,8,8,8,8,8,8,8,8,8,8,8,8,8,8,8,8,8,8,8,8,8,8,8,8,8,8,8,8,8,8,8,8,8,8,8,8,8,8,8,8,8,8,8,8,8,8,8,8,8]:List UInt8)) (wrap .u8 (aM .u64 (aM .u64 (aM .u64 x 32) 16) 8))).bind fun c=>
 some (wrap .i64 (56+(wrap .i64 (c.toNat:Int))))) (
 (atL (([0,1,2,2,3,3,3,3,4,4,4,4,4,4,4,4,5,5,5,5,5,5,5,5,5,5,5,5,5,5,5,5,6,6,6,6,6,6,6,6,6,6,6,6,6,6,6,6,6,6,6,6,6,6,6,6,6,6,6,6,6,6,6,6,7,7,7,7,7,7,7,7,7,7,7,7,7,7,7,7,7,7,7,7,7,7,7,7,7,7,7,7,7,7,7,7,7,7,7,7,7,7,7,7,7,7,7,7,7,7,7,7,7,7,7,7,7,7,7,7,7,7,7,7,7,7,7,7,8,8,8,8,8,8,8,8,8,8,8,8,8,8,8,8,8,8,8,8,8,8,8,8,8,8,8,8,8,8,8,8,8,8,8,8,8,8,8,8,8,8,8,8,8,8,8,8,8,8,8,8,8,8,8,8,8,8,8,8,8,8,8,8,8,8,8,8,8,8,8,8,8,8,8,8,8,8,8,8,8,8,8,8,8,8,8,8,8,8,8,8,8,8,8,8,8,8,8,8,8,8,8,8,8,8,8,8,8,8,8,8,8,8,8,8,8,8,8,8,8,8,8,8,8,8,8,8]:List UInt8)) (wrap .u8 (aM .u64 (aM .u64 x 32) 16))).bind fun c2=>
 some (wrap .i64 (48+(wrap .i64 (c2.toNat:Int)))))) (
 br (decide ((aM .u64 x 32)≥256)) (
 (atL (([0,1,2,2,3,3,3,3,4,4,4,4,4,4,4,4,5,5,5,5,5,5,5,5,5,5,5,5,5,5,5,5,6,6,6,6,6,6,6,6,6,6,6,6,6,6,6,6,6,6,6,6,6,6,6,6,6,6,6,6,6,6,6,6,7,7,7,7,7,7,7,7,7,7,7,7,7,7,7,7,7,7,7,7,7,7,7,7,7,7,7,7,7,7,7,7,7,7,7,7,7,7,7,7,7,7,7,7,7,7,7,7,7,7,7,7,7,7,7,7,7,7,7,7,7,7,7,7,8,8,8,8,8,8,8,8,8,8,8,8,8,8,8,8,8,8,8,8,8,8,8,8,8,8,8,8,8,8,8,8,8,8,8,8,8,8,8,8,8,8,8,8,8,8,8,8,8,8,8,8,8,8,8,8,8,8,8,8,8,8,8,8,8,8,8,8,8,8,8,8,8,8,8,8,8,8,8,8,8,8,8,8,8,8,8,8,8,8,8,8,8,8,8,8,8,8,8,8,8,8,8,8,8,8,8,8,8,8,8,8,8,8,8,8,8,8,8,8,8,8,8,8,8,8,8,8]:List UInt8)) (wrap .u8 (aM .u64 (aM .u64 x 32) 8))).bind fun c3=>
 some (wrap .i64 (40+(wrap .i64 (c3.toNat:Int))))) (
 (atL (([0,1,2,2,3,3,3,3,4,4,4,4,4,4,4,4,5,5,5,5,5,5,5,5,5,5,5,5,5,5,5,5,6,6,6,6,6,6,6,6,6,6,6,6,6,6,6,6,6,6,6,6,6,6,6,6,6,6,6,6,6,6,6,6,7,7,7,7,7,7,7,7,7,7,7,7,7,7,7,7,7,7,7,7,7,7,7,7,7,7,7,7,7,7,7,7,7,7,7,7,7,7,7,7,7,7,7,7,7,7,7,7,7,7,7,7,7,7,7,7,7,7,7,7,7,7,7,7,8,8,8,8,8,8,8,8,8,8,8,8,8,8,8,8,8,8,8,8,8,8,8,8,8,8,8,8,8,8,8,8,8,8,8,8,8,8,8,8,8,8,8,8,8,8,8,8,8,8,8,8,8,8,8,8,8,8,8,8,8,8,8,8,8,8,8,8,8,8,8,8,8,8,8,8,8,8,8,8,8,8,8,8,8,8,8,8,8,8,8,8,8,8,8,8,8,8,8,8,8,8,8,8,8,8,8,8,8,8,8,8,8,8,8,8,8,8,8,8,8,8,8,8,8,8,8,8]:List UInt8)) (wrap .u8 (aM .u64 x 32))).bind fun c4=>
 some (wrap .i64 (32+(wrap .i64 (c4.toNat:Int))))))) (
 br (decide (x≥65536)) (
 br (decide ((aM .u64 x 16)≥256)) (
 (atL (([0,1,2,2,3,3,3,3,4,4,4,4,4,4,4,4,5,5,5,5,5,5,5,5,5,5,5,5,5,5,5,5,6,6,6,6,6,6,6,6,6,6,6,6,6,6,6,6,6,6,6,6,6,6,6,6,6,6,6,6,6,6,6,6,7,7,7,7,7,7,7,7,7,7,7,7,7,7,7,7,7,7,7,7,7,7,7,7,7,7,7,7,7,7,7,7,7,7,7,7,7,7,7,7,7,7,7,7,7,7,7,7,7,7,7,7,7,7,7,7,7,7,7,7,7,7,7,7,8,8,8,8,8,8,8,8,8,8,8,8,8,8,8,8,8,8,8,8,8,8,8,8,8,8,8,8,8,8,8,8,8,8,8,8,8,8,8,8,8,8,8,8,8,8,8,8,8,8,8,8,8,8,8,8,8,8,8,8,8,8,8,8,8,8,8,8,8,8,8,8,8,8,8,8,8,8,8,8,8,8,8,8,8,8,8,8,8,8,8,8,8,8,8,8,8,8,8,8,8,8,8,8,8,8,8,8,8,8,8,8,8,8,8,8,8,8,8,8,8,8,8,8,8,8,8,8]:List UInt8)) (wrap .u8 (aM .u64 (aM .u64 x 16) 8))).bind fun c5=>
 some (wrap .i64 (24+(wrap .i64 (c5.toNat:Int))))) (
 (atL (([0,1,2,2,3,3,3,3,4,4,4,4,4,4,4,4,5,5,5,5,5,5,5,5,5,5,5,5,5,5,5,5,6,6,6,6,6,6,6,6,6,6,6,6,6,6,6,6,6,6,6,6,6,6,6,6,6,6,6,6,6,6,6,6,7,7,7,7,7,7,7,7,7,7,7,7,7,7,7,7,7,7,7,7,7,7,7,7,7,7,7,7,7,7,7,7,7,7,7,7,7,7,7,7,7,7,7,7,7,7,7,7,7,7,7,7,7,7,7,7,7,7,7,7,7,7,7,7,8,8,8,8,8,8,8,8,8,8,8,8,8,8,8,8,8,8,8,8,8,8,8,8,8,8,8,8,8,8,8,8,8,8,8,8,8,8,8,8,8,8,8,8,8,8,8,8,8,8,8,8,8,8,8,8,8,8,8,8,8,8,8,8,8,8,8,8,8,8,8,8,8,8,8,8,8,8,8,8,8,8,8,8,8,8,8,8,8,8,8,8,8,8,8,8,8,8,8,8,8,8,8,8,8,8,8,8,8,8,8,8,8,8,8,8,8,8,8,8,8,8,8,8,8,8,8,8]:List UInt8)) (wrap .u8 (aM .u64 x 16))).bind fun c6=>
 some (wrap .i64 (16+(wrap .i64 (c6.toNat:Int)))))) (
 br (decide (x≥256)) (
 (atL (([0,1,2,2,3,3,3,3,4,4,4,4,4,4,4,4,5,5,5,5,5,5,5,5,5,5,5,5,5,5,5,5,6,6,6,6,6,6,6,6,6,6,6,6,6,6,6,6,6,6,6,6,6,6,6,6,6,6,6,6,6,6,6,6,7,7,7,7,7,7,7,7,7,7,7,7,7,7,7,7,7,7,7,7,7,7,7,7,7,7,7,7,7,7,7,7,7,7,7,7,7,7,7,7,7,7,7,7,7,7,7,7,7,7,7,7,7,7,7,7,7,7,7,7,7,7,7,7,8,8,8,8,8,8,8,8,8,8,8,8,8,8,8,8,8,8,8,8,8,8,8,8,8,8,8,8,8,8,8,8,8,8,8,8,8,8,8,8,8,8,8,8,8,8,8,8,8,8,8,8,8,8,8,8,8,8,8,8,8,8,8,8,8,8,8,8,8,8,8,8,8,8,8,8,8,8,8,8,8,8,8,8,8,8,8,8,8,8,8,8,8,8,8,8,8,8,8,8,8,8,8,8,8,8,8,8,8,8,8,8,8,8,8,8,8,8,8,8,8,8,8,8,8,8,8,8]:List UInt8)) (wrap .u8 (aM .u64 x 8))).bind fun c7=>
 some (wrap .i64 (8+(wrap .i64 (c7.toNat:Int))))) (
 (atL (([0,1,2,2,3,3,3,3,4,4,4,4,4,4,4,4,5,5,5,5,5,5,5,5,5,5,5,5,5,5,5,5,6,6,6,6,6,6,6,6,6,6,6,6,6,6,6,6,6,6,6,6,6,6,6,6,6,6,6,6,6,6,6,6,7,7,7,7,7,7,7,7,7,7,7,7,7,7,7,7,7,7,7,7,7,7,7,7,7,7,7,7,7,7,7,7,7,7,7,7,7,7,7,7,7,7,7,7,7,7,7,7,7,7,7,7,7,7,7,7,7,7,7,7,7,7,7,7,8,8,8,8,8,8,8,8,8,8,8,8,8,8,8,8,8,8,8,8,8,8,8,8,8,8,8,8,8,8,8,8,8,8,8,8,8,8,8,8,8,8,8,8,8,8,8,8,8,8,8,8,8,8,8,8,8,8,8,8,8,8,8,8,8,8,8,8,8,8,8,8,8,8,8,8,8,8,8,8,8,8,8,8,8,8,8,8,8,8,8,8,8,8,8,8,8,8,8,8,8,8,8,8,8,8,8,8,8,8,8,8,8,8,8,8,8,8,8,8,8,8,8,8,8,8,8,8]:List UInt8)) (wrap .u8 x)).bind fun c8=>
 some (wrap .i64 (0+(wrap .i64 (c8.toNat:Int)))))))
theorem Ji {x r} (h:rY x=some r):Call tab ow 356 [.lit (.int .u64 x)] []=some (I r,[]):=by
 rw [ab (af:=k8) rfl]
 unfold rY at h
 simp only [k8,vz]
 exact go2
def wD (x:Int):Option (Int):=
 (rY x).bind fun r_=>
 some r_
theorem Ml {x r} (h:wD x=some r):Call tab ow 333 [.lit (.int .u64 x)] []=some (I r,[]):=by
 rw [ab (af:=n9) rfl]
 unfold wD at h
 simp only [n9,AC]
 have d1:= @Ji
 exact go2
def J1 (n:Int):Option (Int):=
 (wD (wrap .u64 n)).bind fun r_=>
 some (wrap .i64 (r_-1))
theorem T6 {n r} (h:J1 n=some r):Call tab ow 273 [I n] []=some (I r,[]):=by
 rw [ab (af:=DN) rfl]
 unfold J1 at h
 simp only [DN,T4]
 have d1:= @Ml
 exact go2
def tY (a b:Int):Option (Int):=
 some ((wrap .i64 (a*b)).tmod 2130706433)
theorem MZ {a b r} (h:tY a b=some r):Call tab ow 291 [I a,I b] []=some (I r,[]):=by
 rw [ab (af:=N0) rfl]
 unfold tY at h
 simp only [N0,a35]
 exact go2
def tQ:Int×Int×Int→Option ((Int×Int×Int)⊕((Int×Int×Int×Bool)))
 | (a2,n2,out)=>
   br (decide (n2>0)) (
   br ((bw .i64 n2 1)==1) (
   (tY out a2).bind fun r_=>
   (tY a2 a2).bind fun r_2=>
   some (.inl (r_2,(aM .i64 n2 1),r_))) (
   (tY a2 a2).bind fun r_3=>
   some (.inl (r_3,(aM .i64 n2 1),out)))) (
   some (.inr (a2,n2,out,decide (n2>0))))
abbrev TJ (s:Int×Int×Int):St:=⟨[(0,I s.1),(1,I s.2.1),(5,I s.2.2)],[]⟩
abbrev SP:(Int×Int×Int×Bool)→ag×St:=fun e=>(.exit 0,⟨[(0,I e.1),(1,I e.2.1),(5,I e.2.2.1),(7,B e.2.2.2)],[]⟩)
theorem a6z { s e} (h:Loop (tQ) s=some e):aq tab ow (.close [6002,7002]) Tf (TJ s)=some (SP e):=by
 refine lrG (fun s o h=> ?_) h
 obtain ⟨_,_,_⟩:=s
 simp only [tQ] at h
 simp only [TJ,SP,Tf,Tu]
 have d1:= @MZ
 exact go2
def Nd (a n:Int):Option (Int):=
 (Loop (tQ) (a,n,1)).bind fun e_=>
 some e_.2.2.1
theorem Wk {a n r} (h:Nd a n=some r):Call tab ow 332 [I a,I n] []=some (I r,[]):=by
 rw [ab (af:=N6) rfl]
 unfold Nd at h
 simp only [N6,V7]
 have d1:= @a6z
 exact go2
def NO (k:Int):Option (Int):=
 br (decide (0≤(wrap .i64 (24-k)))) (
 (Nd 3 (aD .i64 127 (wrap .i64 (24-k)))).bind fun r_=>
 some r_) none
theorem b09 {k r} (h:NO k=some r):Call tab ow 272 [I k] []=some (I r,[]):=by
 rw [ab (af:=IT) rfl]
 unfold NO at h
 simp only [IT,XN]
 have d1:= @Wk
 exact go2
def en (l:List Ext):Option (List Ext):=br (bE l.length 16) (some l) none
theorem tq (x:Ext) (l:List Ext) (hf:bE (x::l).length 16=true):Call (MQ 162 aB) Oa 162 [sl eExt (x::l)] []=some (.sl 0 0 (x::l).length,[⟨2,false,rws eExt (x::l)⟩]):=by
 rw [ab (af:=aB) (Kl _ _)]
 rw [List.length_cons] at hf
 simp+decide only [aB,fM,fun k=>mk0 eExt k,XL,go_sem,reduceIte,Nat.reduceAdd,hf]
theorem tz {l r:List Ext} (h:en l=some r):Call tab ow 162 [sl eExt l] []=some (.sl 0 0 r.length,[⟨2,false,rws eExt r⟩]):=by
 unfold en at h
 obtain ⟨hb,h⟩:=brg h
 cases h
 rw [b02 (g:=WJ 162 aB 2) rfl]
 cases l with
 |nil=>rfl
 |cons x l=>exact tq x l hb
def eF (a:Ext) (n:Int):Option (Ext):=
 (tY a.A n).bind fun r_=>
 (tY a.B n).bind fun r_2=>
 some (Ext.mk r_ r_2)
theorem kw {a n r} (h:eF a n=some r):Call tab ow 331 [.agg [I a.A,I a.B],I n] []=some (.agg [I r.A,I r.B],[]):=by
 rw [ab (af:=oo) rfl]
 unfold eF at h
 simp only [oo,BI]
 have d1:= @MZ
 exact go2
def La (a b:Int):Option (Int):=
 some ((wrap .i64 (a+b)).tmod 2130706433)
theorem a3J {a b r} (h:La a b=some r):Call tab ow 192 [I a,I b] []=some (I r,[]):=by
 rw [ab (af:=MW) rfl]
 unfold La at h
 simp only [MW,a3H]
 exact go2
def dx (a b:Ext):Option (Ext):=
 (La a.A b.A).bind fun r_=>
 (La a.B b.B).bind fun r_2=>
 some (Ext.mk r_ r_2)
theorem eH {a b r} (h:dx a b=some r):Call tab ow 94 [.agg [I a.A,I a.B],.agg [I b.A,I b.B]] []=some (.agg [I r.A,I r.B],[]):=by
 rw [ab (af:=tl) rfl]
 unfold dx at h
 simp only [tl,I8]
 have d1:= @a3J
 exact go2
section
theorem ZD:mkR 2012 []=rws eU8 []:=rfl
attribute [local go_sem] ZD
def iQ (n:Int) (l:List UInt8):Option ((List UInt8)):=
 br (bE ((l++([(UInt8.ofInt (aM .i64 n 24)),(UInt8.ofInt (aM .i64 n 16)),(UInt8.ofInt (aM .i64 n 8)),(UInt8.ofInt n)]:List UInt8)).length) 1) (
 some (l++([(UInt8.ofInt (aM .i64 n 24)),(UInt8.ofInt (aM .i64 n 16)),(UInt8.ofInt (aM .i64 n 8)),(UInt8.ofInt n)]:List UInt8))) none
theorem kn {n l r} (h:iQ n l=some r):Call tab ow 169 [.sl 0 0 l.length,I n] [⟨1,false,rws eU8 l⟩]=some (.sl 0 0 r.length,[⟨1,false,rws eU8 r⟩]):=by
 rw [ab (af:=yc) rfl]
 unfold iQ at h
 simp only [yc,Om]
 exact go2
end
end
end Go.AI.Fn
set_option linter.unusedVariables false
set_option linter.unusedSimpArgs false
set_option maxRecDepth 100000
set_option maxHeartbeats 1000000
namespace Go.AI.Fn
noncomputable section
open IntKind (wrap)
section
theorem QN:mkR 2000 []=rws eU8 []:=rfl
attribute [local go_sem] QN
def iR (t:List Ext) (t2:Int):(List UInt8)×Int→Option (((List UInt8)×Int)⊕(((List UInt8)×Int×Bool)))
 | (l,t3)=>
   br (decide (t3<t2)) (
   (atL t t3).bind fun x=>
   (iQ x.A l).bind fun r_=>
   (iQ x.B r_).bind fun r_2=>
   some (.inl (r_2,(wrap .i64 (t3+1))))) (
   some (.inr (l,t3,decide (t3<t2))))
abbrev CL (t:List Ext) (t2:Int) (s:(List UInt8)×Int):St:=⟨[(3,.sl 2000 0 s.1.length),(7,sl eExt t),(8,I t2),(9,I s.2)],[(2000,⟨1,false,rws eU8 s.1⟩)]⟩
abbrev Bp (t:List Ext) (t2:Int):((List UInt8)×Int×Bool)→ag×St:=fun e=>(.exit 0,⟨[(3,.sl 2000 0 e.1.length),(7,sl eExt t),(8,I t2),(9,I e.2.1),(10,B e.2.2)],[(2000,⟨1,false,rws eU8 e.1⟩)]⟩)
theorem NF {t t2 s e} (h:Loop (iR t t2) s=some e):aq tab ow (.close [5002,6003,6006]) Dr (CL t t2 s)=some (Bp t t2 e):=by
 refine lrG (fun s o h=> ?_) h
 obtain ⟨_,_⟩:=s
 simp only [iR] at h
 simp only [CL,Bp,Dr,Dn]
 have d1:= @kn
 exact go2
def oZ (list:(List Ext)):Option ((List UInt8)):=
 (Loop (iR list ((list.length:Nat):Int)) (([]:List UInt8),0)).bind fun e_=>
 some e_.1
theorem HL {list r} (h:oZ list=some r):Call tab ow 270 [sl eExt list] []=some (sl eU8 r,[]):=by
 rw [ab (af:=ta) rfl]
 unfold oZ at h
 simp only [ta,yS]
 have d1:= @NF
 exact go2
end
def uA (leaf:(List UInt8)):Option ((List UInt8)):=
 br (bE ((([0]:List UInt8)).length+leaf.length) 1) (
 some ((([0]:List UInt8))++leaf)) none
theorem X8 {leaf r} (h:uA leaf=some r):Call tab ow 268 [S leaf] []=some (S r,[]):=by
 rw [ab (af:=tB) rfl]
 unfold uA at h
 simp only [tB,Jw]
 exact go2
def jI (m:List Int) (t:List UInt8) (t2:Int):(List Int)×Int→Option (((List Int)×Int)⊕(((List Int)×Int×Bool)))
 | (m2,t3)=>
   br (decide (t3<t2)) (
   (atL t t3).bind fun x=>
   br (decide (0≤(wrap .i64 (t3.tdiv 8)))&&decide ((wrap .i64 (t3.tdiv 8)).toNat<25)) (
   (m2[(wrap .i64 (t3.tdiv 8)).toNat]?).bind fun x2=>
   br (decide (0≤(wrap .i64 (8*(t3.tmod 8))))) (
   br (decide (0≤(wrap .i64 (t3.tdiv 8)))&&decide ((wrap .i64 (t3.tdiv 8)).toNat<25)) (
   br (decide ((wrap .i64 (t3.tdiv 8)).toNat<m2.length)) (
   some (.inl ((m2.set ((wrap .i64 (t3.tdiv 8)).toNat) (wR .u64 x2 (aD .u64 (wrap .u64 (x.toNat:Int)) (wrap .i64 (8*(t3.tmod 8)))))),(wrap .i64 (t3+1))))) none) none) none) none) (
   some (.inr (m2,t3,decide (t3<t2))))
abbrev xe (m m2:List Int):List (Nat×Blk):=[(1000,⟨25,true,[ar .u64 m]⟩),(2001,⟨25,true,[ar .u64 m2]⟩)]
abbrev El (m:List Int) (t:List UInt8) (t2:Int) (s:(List Int)×Int):St:=⟨[(2,.ptr 1000 0 0 1),(3,.ptr 2001 0 0 1),(7,sl eU8 t),(8,I t2),(9,I s.2)],xe m s.1⟩
abbrev Fc (m:List Int) (t:List UInt8) (t2:Int):((List Int)×Int×Bool)→ag×St:=fun e=>(.exit 0,⟨[(2,.ptr 1000 0 0 1),(3,.ptr 2001 0 0 1),(7,sl eU8 t),(8,I t2),(9,I e.2.1),(10,B e.2.2)],xe m e.1⟩)
theorem Ry {m t t2 s e} (h:Loop (jI m t t2) s=some e):aq tab ow (.close []) wQ (El m t t2 s)=some (Fc m t t2 e):=by
 refine lrG (fun s o h=> ?_) h
 obtain ⟨_,_⟩:=s
 simp only [jI] at h
 simp only [El,Fc,xe,wQ]
 exact go2
def yv (state:(List UInt8)):Option ((List Int)):=
 (Loop (jI (nZ 25) state ((state.length:Nat):Int)) ((nZ 25),0)).bind fun e_=>
 br (decide (e_.1.length=25)) (
 br (decide (e_.1.length=25)) (
 br (decide (e_.1.length=25)) (
 some e_.1) none) none) none
theorem a06 {state r} (h:yv state=some r):Call tab ow 193 [sl eU8 state] []=some (.agg (ar .u64 r),[]):=by
 rw [ab (af:=vH) rfl]
 unfold yv at h
 simp only [vH,L6]
 have d1:= @Ry
 exact go2
def cU (x k:Int):Option (Int):=
 br (decide (0≤(bw .u64 (wrap .u64 k) 63))) (
 br (decide (0≤(wrap .u64 (64-(bw .u64 (wrap .u64 k) 63))))) (
 some (wR .u64 (aD .u64 x (bw .u64 (wrap .u64 k) 63)) (aM .u64 x (wrap .u64 (64-(bw .u64 (wrap .u64 k) 63)))))) none) none
theorem wq {x k r} (h:cU x k=some r):Call tab ow 297 [.lit (.int .u64 x),I k] []=some (.lit (.int .u64 r),[]):=by
 rw [ab (af:=eP) rfl]
 unfold cU at h
 simp only [eP,lS]
 exact go2
def dZ (m5 m6 m7 m9:List Int) (t3:Int) (t4:List Int) (t5:Int):(List Int)×Int→Option (((List Int)×Int)⊕(((List Int)×Int×Bool)))
 | (m8,t6)=>
   br (decide (t6<25)) (
   br (decide (0≤t6)&&decide (t6.toNat<25)) (
   (m5[t6.toNat]?).bind fun x2=>
   br (decide (0≤(t6.tmod 5))&&decide ((t6.tmod 5).toNat<5)) (
   (m8[(t6.tmod 5).toNat]?).bind fun x3=>
   br (decide (0≤(t6.tmod 5))&&decide ((t6.tmod 5).toNat<5)) (
   br (decide ((t6.tmod 5).toNat<m8.length)) (
   some (.inl ((m8.set ((t6.tmod 5).toNat) (oI .u64 x3 x2)),(wrap .i64 (t6+1))))) none) none) none) none) (
   some (.inr (m8,t6,decide (t6<25))))
abbrev lK (m5 m6 m7 m9 m8:List Int):List (Nat×Blk):=[(0,⟨25,true,[ar .u64 m5]⟩),(1001,⟨25,true,[ar .i64 m6]⟩),(2001,⟨24,true,[ar .u64 m7]⟩),(6002,⟨5,true,[ar .u64 m8]⟩),(6003,⟨25,true,[ar .u64 m9]⟩)]
abbrev so (m5 m6 m7 m9:List Int) (t3:Int) (t4:List Int) (t5:Int) (s:(List Int)×Int):St:=⟨[(0,.ptr 0 0 0 1),(2,.ptr 1001 0 0 1),(5,.lit (.int .u64 t3)),(6,.ptr 6002 0 0 1),(7,.ptr 6003 0 0 1),(20,.agg (ar .u64 t4)),(21,I t5),(26,.ptr 0 0 0 1),(27,I s.2)],lK m5 m6 m7 m9 s.1⟩
abbrev sj (m5 m6 m7 m9:List Int) (t3:Int) (t4:List Int) (t5:Int):((List Int)×Int×Bool)→ag×St:=fun e=>(.exit 2,⟨[(0,.ptr 0 0 0 1),(2,.ptr 1001 0 0 1),(5,.lit (.int .u64 t3)),(6,.ptr 6002 0 0 1),(7,.ptr 6003 0 0 1),(20,.agg (ar .u64 t4)),(21,I t5),(26,.ptr 0 0 0 1),(27,I e.2.1),(28,B e.2.2)],lK m5 m6 m7 m9 e.1⟩)
theorem Eh {m5 m6 m7 m9 t3 t4 t5 s e} (h:Loop (dZ m5 m6 m7 m9 t3 t4 t5) s=some e):aq tab ow (.close []) lE (so m5 m6 m7 m9 t3 t4 t5 s)=some (sj m5 m6 m7 m9 t3 t4 t5 e):=by
 refine lrG (fun s o h=> ?_) h
 obtain ⟨_,_⟩:=s
 simp only [dZ] at h
 simp only [so,sj,lK,lE]
 exact go2
def dW (m10 m11 m12 m13:List Int) (t7:Int) (t8:List Int) (t9:Int):(List Int)×Int→Option (((List Int)×Int)⊕(((List Int)×Int×Bool)))
 | (m14,t10)=>
   br (decide (t10<25)) (
   br (decide (0≤t10)&&decide (t10.toNat<25)) (
   (m10[t10.toNat]?).bind fun x4=>
   br (decide (0≤((wrap .i64 ((t10.tmod 5)+4)).tmod 5))&&decide (((wrap .i64 ((t10.tmod 5)+4)).tmod 5).toNat<5)) (
   (m13[((wrap .i64 ((t10.tmod 5)+4)).tmod 5).toNat]?).bind fun x5=>
   br (decide (0≤((wrap .i64 ((t10.tmod 5)+1)).tmod 5))&&decide (((wrap .i64 ((t10.tmod 5)+1)).tmod 5).toNat<5)) (
   (m13[((wrap .i64 ((t10.tmod 5)+1)).tmod 5).toNat]?).bind fun x6=>
   (cU x6 1).bind fun r_=>
   br (decide (0≤t10)&&decide (t10.toNat<25)) (
   (m11[t10.toNat]?).bind fun x7=>
   (cU (oI .u64 x4 (oI .u64 x5 r_)) x7).bind fun r_2=>
   br (decide (0≤(wrap .i64 ((wrap .i64 (t10.tdiv 5))+(wrap .i64 (5*((wrap .i64 ((wrap .i64 (2*(t10.tmod 5)))+(wrap .i64 (3*(wrap .i64 (t10.tdiv 5)))))).tmod 5))))))&&decide ((wrap .i64 ((wrap .i64 (t10.tdiv 5))+(wrap .i64 (5*((wrap .i64 ((wrap .i64 (2*(t10.tmod 5)))+(wrap .i64 (3*(wrap .i64 (t10.tdiv 5)))))).tmod 5))))).toNat<25)) (
   br (decide ((wrap .i64 ((wrap .i64 (t10.tdiv 5))+(wrap .i64 (5*((wrap .i64 ((wrap .i64 (2*(t10.tmod 5)))+(wrap .i64 (3*(wrap .i64 (t10.tdiv 5)))))).tmod 5))))).toNat<m14.length)) (
   some (.inl ((m14.set ((wrap .i64 ((wrap .i64 (t10.tdiv 5))+(wrap .i64 (5*((wrap .i64 ((wrap .i64 (2*(t10.tmod 5)))+(wrap .i64 (3*(wrap .i64 (t10.tdiv 5)))))).tmod 5))))).toNat) r_2),(wrap .i64 (t10+1))))) none) none) none) none) none) none) (
   some (.inr (m14,t10,decide (t10<25))))
abbrev lI (m10 m11 m12 m13 m14:List Int):List (Nat×Blk):=[(0,⟨25,true,[ar .u64 m10]⟩),(1001,⟨25,true,[ar .i64 m11]⟩),(2001,⟨24,true,[ar .u64 m12]⟩),(6002,⟨5,true,[ar .u64 m13]⟩),(6003,⟨25,true,[ar .u64 m14]⟩)]
abbrev sx (m10 m11 m12 m13:List Int) (t7:Int) (t8:List Int) (t9:Int) (s:(List Int)×Int):St:=⟨[(0,.ptr 0 0 0 1),(2,.ptr 1001 0 0 1),(5,.lit (.int .u64 t7)),(6,.ptr 6002 0 0 1),(7,.ptr 6003 0 0 1),(20,.agg (ar .u64 t8)),(21,I t9),(41,.ptr 0 0 0 1),(42,I s.2)],lI m10 m11 m12 m13 s.1⟩
abbrev sn (m10 m11 m12 m13:List Int) (t7:Int) (t8:List Int) (t9:Int):((List Int)×Int×Bool)→ag×St:=fun e=>(.exit 4,⟨[(0,.ptr 0 0 0 1),(2,.ptr 1001 0 0 1),(5,.lit (.int .u64 t7)),(6,.ptr 6002 0 0 1),(7,.ptr 6003 0 0 1),(20,.agg (ar .u64 t8)),(21,I t9),(41,.ptr 0 0 0 1),(42,I e.2.1),(43,B e.2.2)],lI m10 m11 m12 m13 e.1⟩)
theorem Ea {m10 m11 m12 m13 t7 t8 t9 s e} (h:Loop (dW m10 m11 m12 m13 t7 t8 t9) s=some e):aq tab ow (.close [16011,17013]) kx (sx m10 m11 m12 m13 t7 t8 t9 s)=some (sn m10 m11 m12 m13 t7 t8 t9 e):=by
 refine lrG (fun s o h=> ?_) h
 obtain ⟨_,_⟩:=s
 simp only [dW] at h
 simp only [sx,sn,lI,kx]
 have d1:= @wq
 exact go2
def dX (m16 m17 m18 m19:List Int) (t11:Int) (t12:List Int) (t13:Int) (t14:List Int):(List Int)×Int→Option (((List Int)×Int)⊕(((List Int)×Int×Bool)))
 | (m15,t15)=>
   br (decide (t15<25)) (
   br (decide (0≤t15)&&decide (t15.toNat<25)) (
   (t14[t15.toNat]?).bind fun x8=>
   br (decide (0≤(wrap .i64 ((wrap .i64 (t15-(t15.tmod 5)))+((wrap .i64 ((t15.tmod 5)+2)).tmod 5))))&&decide ((wrap .i64 ((wrap .i64 (t15-(t15.tmod 5)))+((wrap .i64 ((t15.tmod 5)+2)).tmod 5))).toNat<25)) (
   (m19[(wrap .i64 ((wrap .i64 (t15-(t15.tmod 5)))+((wrap .i64 ((t15.tmod 5)+2)).tmod 5))).toNat]?).bind fun x9=>
   br (decide (0≤(wrap .i64 ((wrap .i64 (t15-(t15.tmod 5)))+((wrap .i64 ((t15.tmod 5)+1)).tmod 5))))&&decide ((wrap .i64 ((wrap .i64 (t15-(t15.tmod 5)))+((wrap .i64 ((t15.tmod 5)+1)).tmod 5))).toNat<25)) (
   (m19[(wrap .i64 ((wrap .i64 (t15-(t15.tmod 5)))+((wrap .i64 ((t15.tmod 5)+1)).tmod 5))).toNat]?).bind fun x10=>
   br (decide (0≤t15)&&decide (t15.toNat<25)) (
   br (decide (t15.toNat<m15.length)) (
   some (.inl ((m15.set t15.toNat (oI .u64 x8 (Ok .u64 x9 x10))),(wrap .i64 (t15+1))))) none) none) none) none) none) (
   some (.inr (m15,t15,decide (t15<25))))
abbrev lF (m16 m17 m18 m19 m15:List Int):List (Nat×Blk):=[(0,⟨25,true,[ar .u64 m15]⟩),(1001,⟨25,true,[ar .i64 m16]⟩),(2001,⟨24,true,[ar .u64 m17]⟩),(6002,⟨5,true,[ar .u64 m18]⟩),(6003,⟨25,true,[ar .u64 m19]⟩)]
abbrev sf (m16 m17 m18 m19:List Int) (t11:Int) (t12:List Int) (t13:Int) (t14:List Int) (s:(List Int)×Int):St:=⟨[(0,.ptr 0 0 0 1),(2,.ptr 1001 0 0 1),(5,.lit (.int .u64 t11)),(7,.ptr 6003 0 0 1),(20,.agg (ar .u64 t12)),(21,I t13),(82,.agg (ar .u64 t14)),(83,I s.2)],lF m16 m17 m18 m19 s.1⟩
abbrev sd (m16 m17 m18 m19:List Int) (t11:Int) (t12:List Int) (t13:Int) (t14:List Int):((List Int)×Int×Bool)→ag×St:=fun e=>(.exit 6,⟨[(0,.ptr 0 0 0 1),(2,.ptr 1001 0 0 1),(5,.lit (.int .u64 t11)),(7,.ptr 6003 0 0 1),(20,.agg (ar .u64 t12)),(21,I t13),(82,.agg (ar .u64 t14)),(83,I e.2.1),(84,B e.2.2)],lF m16 m17 m18 m19 e.1⟩)
theorem Eg {m16 m17 m18 m19 t11 t12 t13 t14 s e} (h:Loop (dX m16 m17 m18 m19 t11 t12 t13 t14) s=some e):aq tab ow (.close []) kJ (sf m16 m17 m18 m19 t11 t12 t13 t14 s)=some (sd m16 m17 m18 m19 t11 t12 t13 t14 e):=by
 refine lrG (fun s o h=> ?_) h
 obtain ⟨_,_⟩:=s
 simp only [dX] at h
 simp only [sf,sd,lF,kJ]
 exact go2
def dY (m3 m4 t:List Int):(List Int)×Int→Option (((List Int)×Int)⊕(((List Int)×Int×Bool)))
 | (m2,t2)=>
   br (decide (t2<24)) (
   br (decide (0≤t2)&&decide (t2.toNat<24)) (
   (t[t2.toNat]?).bind fun x=>
   (Loop (dZ m2 m3 m4 (nZ 25) x t t2) ((nZ 5),0)).bind fun e_=>
   (Loop (dW m2 m3 m4 e_.1 x t t2) ((nZ 25),0)).bind fun e_2=>
   br (decide (e_2.1.length=25)) (
   (Loop (dX m3 m4 e_.1 e_2.1 x t t2 e_2.1) (m2,0)).bind fun e_3=>
   (e_3.1[0]?).bind fun x11=>
   br (decide (0<e_3.1.length)) (
   some (.inl ((e_3.1.set 0 (oI .u64 x11 x)),(wrap .i64 (t2+1))))) none) none) none) (
   some (.inr (m2,t2,decide (t2<24))))
abbrev ly (m3 m4 m2:List Int):List (Nat×Blk):=[(0,⟨25,true,[ar .u64 m2]⟩),(1001,⟨25,true,[ar .i64 m3]⟩),(2001,⟨24,true,[ar .u64 m4]⟩)]
abbrev su (m3 m4 t:List Int) (s:(List Int)×Int):St:=⟨[(0,.ptr 0 0 0 1),(2,.ptr 1001 0 0 1),(20,.agg (ar .u64 t)),(21,I s.2)],ly m3 m4 s.1⟩
abbrev sA (m3 m4 t:List Int):((List Int)×Int×Bool)→ag×St:=fun e=>(.exit 0,⟨[(0,.ptr 0 0 0 1),(2,.ptr 1001 0 0 1),(20,.agg (ar .u64 t)),(21,I e.2.1),(22,B e.2.2)],ly m3 m4 e.1⟩)
theorem Ed {m3 m4 t s e} (h:Loop (dY m3 m4 t) s=some e):aq tab ow (.close [6002,6003,16011,17013]) lA (su m3 m4 t s)=some (sA m3 m4 t e):=by
 refine lrG (fun s o h=> ?_) h
 obtain ⟨_,_⟩:=s
 simp only [dY] at h
 simp only [su,sA,ly,lA]
 have d1:= @Eh
 have d2:= @Ea
 have d3:= @Eg
 exact go2
def jw (m:List Int):Option ((List Int)):=
 (Loop (dY ([0,1,62,28,27,36,44,6,55,20,3,10,43,25,39,41,45,15,21,8,18,2,61,56,14]:List Int) ([1,32898,9223372036854808714,9223372039002292224,32907,2147483649,9223372039002292353,9223372036854808585,138,136,2147516425,2147483658,2147516555,9223372036854775947,9223372036854808713,9223372036854808579,9223372036854808578,9223372036854775936,32778,9223372039002259466,9223372039002292353,9223372036854808704,2147483649,9223372039002292232]:List Int) ([1,32898,9223372036854808714,9223372039002292224,32907,2147483649,9223372039002292353,9223372036854808585,138,136,2147516425,2147483658,2147516555,9223372036854775947,9223372036854808713,9223372036854808579,9223372036854808578,9223372036854775936,32778,9223372039002259466,9223372039002292353,9223372036854808704,2147483649,9223372039002292232]:List Int)) (m,0)).bind fun e_4=>
 some e_4.1
theorem JG {m r} (h:jw m=some r):Call tab ow 194 [.ptr 0 0 0 1] [⟨25,true,[ar .u64 m]⟩]=some (.tup [],[⟨25,true,[ar .u64 r]⟩]):=by
 rw [ab (af:=jU) rfl]
 unfold jw at h
 simp only [jU,vm]
 have d1:= @Ed
 exact go2
section
theorem MF:mkR 2000 []=rws eU8 []:=rfl
attribute [local go_sem] MF
theorem Mc:mkR 6012 []=rws eU8 []:=rfl
attribute [local go_sem] Mc
def ge (m2:List Int):(List UInt8)×Int→Option (((List UInt8)×Int)⊕(((List UInt8)×Int×Bool)))
 | (l,t)=>
   br (decide (t<200)) (
   br (decide (0≤(wrap .i64 (t.tdiv 8)))&&decide ((wrap .i64 (t.tdiv 8)).toNat<25)) (
   (m2[(wrap .i64 (t.tdiv 8)).toNat]?).bind fun x=>
   br (decide (0≤(wrap .i64 (8*(t.tmod 8))))) (
   br (bE ((l++([(UInt8.ofInt (aM .u64 x (wrap .i64 (8*(t.tmod 8)))))]:List UInt8)).length) 1) (
   some (.inl ((l++([(UInt8.ofInt (aM .u64 x (wrap .i64 (8*(t.tmod 8)))))]:List UInt8)),(wrap .i64 (t+1))))) none) none) none) (
   some (.inr (l,t,decide (t<200))))
abbrev ph (m2:List Int) (l:List UInt8):List (Nat×Blk):=[(0,⟨25,true,[ar .u64 m2]⟩),(2000,⟨1,false,rws eU8 l⟩)]
abbrev xX (m2:List Int) (s:(List UInt8)×Int):St:=⟨[(0,.ptr 0 0 0 1),(3,.sl 2000 0 s.1.length),(6,I s.2)],ph m2 s.1⟩
abbrev yH (m2:List Int):((List UInt8)×Int×Bool)→ag×St:=fun e=>(.exit 0,⟨[(0,.ptr 0 0 0 1),(3,.sl 2000 0 e.1.length),(6,I e.2.1),(7,B e.2.2)],ph m2 e.1⟩)
theorem K4 {m2 s e} (h:Loop (ge m2) s=some e):aq tab ow (.close [6012,6013]) xz (xX m2 s)=some (yH m2 e):=by
 refine lrG (fun s o h=> ?_) h
 obtain ⟨_,_⟩:=s
 simp only [ge] at h
 simp only [xX,yH,ph,xz,xp]
 exact go2
def oa (m:List Int):Option ((List UInt8)×(List Int)):=
 (Loop (ge m) (([]:List UInt8),0)).bind fun e_=>
 some (e_.1,m)
theorem Qo {m r} (h:oa m=some r):Call tab ow 195 [.ptr 0 0 0 1] [⟨25,true,[ar .u64 m]⟩]=some (sl eU8 r.1,[⟨25,true,[ar .u64 r.2]⟩]):=by
 rw [ab (af:=o7) rfl]
 unfold oa at h
 simp only [o7,ud]
 have d1:= @K4
 exact go2
end
section
theorem a0l:mkR 2000 []=rws eU8 []:=rfl
attribute [local go_sem] a0l
theorem Zb:mkR 8001 []=rws eU8 []:=rfl
attribute [local go_sem] Zb
theorem XG:mkR 10001 []=rws eU8 []:=rfl
attribute [local go_sem] XG
def lf (t:List (List UInt8)) (t2:Int):(List UInt8)×Int→Option (((List UInt8)×Int)⊕(((List UInt8)×Int×Bool)))
 | (l,t3)=>
   br (decide (t3<t2)) (
   (atL t t3).bind fun x=>
   br (bE ((l++x).length) 1) (
   some (.inl ((l++x),(wrap .i64 (t3+1))))) none) (
   some (.inr (l,t3,decide (t3<t2))))
abbrev IR (t:List (List UInt8)) (t2:Int) (s:(List UInt8)×Int):St:=⟨[(3,.sl 2000 0 s.1.length),(10,sl (eL eU8) t),(11,I t2),(12,I s.2)],[(2000,⟨1,false,rws eU8 s.1⟩)]⟩
abbrev JI (t:List (List UInt8)) (t2:Int):((List UInt8)×Int×Bool)→ag×St:=fun e=>(.exit 0,⟨[(3,.sl 2000 0 e.1.length),(10,sl (eL eU8) t),(11,I t2),(12,I e.2.1),(13,B e.2.2)],[(2000,⟨1,false,rws eU8 e.1⟩)]⟩)
theorem Wr {t t2 s e} (h:Loop (lf t t2) s=some e):aq tab ow (.close [6002]) ze (IR t t2 s)=some (JI t t2 e):=by
 refine lrG (fun s o h=> ?_) h
 obtain ⟨_,_⟩:=s
 simp only [lf] at h
 simp only [IR,JI,ze]
 exact go2
def jj (l3:List UInt8):(List UInt8)→Option (((List UInt8))⊕(((List UInt8)×Bool)))
 |l2=>
  br ((((l2.length:Nat):Int).tmod 136) !=0) (
  br (bE ((l2++([(0:UInt8)]:List UInt8)).length) 1) (
  some (.inl (l2++([(0:UInt8)]:List UInt8)))) none) (
  some (.inr (l2,((((l2.length:Nat):Int).tmod 136) !=0))))
abbrev zP (l3 l2:List UInt8):List (Nat×Blk):=[(2000,⟨1,false,rws eU8 l2⟩),(8001,⟨1,false,rws eU8 l3⟩)]
abbrev Im (l3:List UInt8) (s:(List UInt8)):St:=⟨[(3,.sl 2000 0 s.length)],zP l3 s⟩
abbrev Hy (l3:List UInt8):((List UInt8)×Bool)→ag×St:=fun e=>(.exit 2,⟨[(3,.sl 2000 0 e.1.length),(26,B e.2)],zP l3 e.1⟩)
theorem VR {l3 s e} (h:Loop (jj l3) s=some e):aq tab ow (.close [10001,10002]) zL (Im l3 s)=some (Hy l3 e):=by
 refine lrG (fun s o h=> ?_) h
 simp only [jj] at h
 simp only [Im,Hy,zP,zL]
 exact go2
def kP (l5 all2:List UInt8) (t4:List Int):(List Int)×Int→Option (((List Int)×Int)⊕(((List Int)×Int×Bool)))
 | (m2,t5)=>
   br (decide (t5<25)) (
   br (decide (0≤t5)&&decide (t5.toNat<25)) (
   (t4[t5.toNat]?).bind fun x4=>
   br (decide (0≤t5)&&decide (t5.toNat<25)) (
   (m2[t5.toNat]?).bind fun x5=>
   br (decide (0≤t5)&&decide (t5.toNat<25)) (
   br (decide (t5.toNat<m2.length)) (
   some (.inl ((m2.set t5.toNat (oI .u64 x5 x4)),(wrap .i64 (t5+1))))) none) none) none) none) (
   some (.inr (m2,t5,decide (t5<25))))
abbrev A0 (l5:List UInt8) (m2:List Int):List (Nat×Blk):=[(8001,⟨1,false,rws eU8 l5⟩),(12001,⟨25,true,[ar .u64 m2]⟩)]
abbrev Is (l5 all2:List UInt8) (t4:List Int) (s:(List Int)×Int):St:=⟨[(3,sl eU8 all2),(6,.ptr 12001 0 0 1),(46,.agg (ar .u64 t4)),(47,I s.2)],A0 l5 s.1⟩
abbrev Jo (l5 all2:List UInt8) (t4:List Int):((List Int)×Int×Bool)→ag×St:=fun e=>(.exit 6,⟨[(3,sl eU8 all2),(6,.ptr 12001 0 0 1),(46,.agg (ar .u64 t4)),(47,I e.2.1),(48,B e.2.2)],A0 l5 e.1⟩)
theorem Uh {l5 all2 t4 s e} (h:Loop (kP l5 all2 t4) s=some e):aq tab ow (.close []) wt (Is l5 all2 t4 s)=some (Jo l5 all2 t4 e):=by
 refine lrG (fun s o h=> ?_) h
 obtain ⟨_,_⟩:=s
 simp only [kP] at h
 simp only [Is,Jo,A0,wt]
 exact go2
def lk (l4:List UInt8):(List Int)×(List UInt8)→Option (((List Int)×(List UInt8))⊕(((List Int)×(List UInt8)×Bool)))
 | (m,all)=>
   br (decide (((all.length:Nat):Int)>0)) (
   (jO all 0 136).bind fun y=>
   (yv y).bind fun r_=>
   (Loop (kP l4 all r_) (m,0)).bind fun e_3=>
   (jw e_3.1).bind fun r_2=>
   (jO all 136 ((all.length:Nat):Int)).bind fun y2=>
   some (.inl (r_2,y2))) (
   some (.inr (m,all,decide (((all.length:Nat):Int)>0))))
abbrev tD (l4:List UInt8) (m:List Int):List (Nat×Blk):=[(8001,⟨1,false,rws eU8 l4⟩),(12001,⟨25,true,[ar .u64 m]⟩)]
abbrev zx (l4:List UInt8) (s:(List Int)×(List UInt8)):St:=⟨[(3,sl eU8 s.2),(6,.ptr 12001 0 0 1)],tD l4 s.1⟩
abbrev Hv (l4:List UInt8):((List Int)×(List UInt8)×Bool)→ag×St:=fun e=>(.exit 4,⟨[(3,sl eU8 e.2.1),(6,.ptr 12001 0 0 1),(41,B e.2.2)],tD l4 e.1⟩)
theorem Wa {l4 s e} (h:Loop (lk l4) s=some e):aq tab ow (.close [15002,20000,2000]) wL (zx l4 s)=some (Hv l4 e):=by
 refine lrG (fun s o h=> ?_) h
 obtain ⟨_,_⟩:=s
 simp only [lk] at h
 simp only [zx,Hv,tD,wL]
 have d1:= @a06
 have d2:= @Uh
 have d3:= @JG
 exact go2
def ou (pieces:(List (List UInt8))):Option ((List UInt8)):=
 (Loop (lf pieces ((pieces.length:Nat):Int)) (([]:List UInt8),0)).bind fun e_=>
 br (bE ((e_.1++([(1:UInt8)]:List UInt8)).length) 1) (
 (Loop (jj ([(1:UInt8)]:List UInt8)) (e_.1++([(1:UInt8)]:List UInt8))).bind fun e_2=>
 br (decide (0≤(wrap .i64 (((e_2.1.length:Nat):Int)-1)))) (
 br (decide ((wrap .i64 (((e_2.1.length:Nat):Int)-1)).toNat<e_2.1.length)) (
 (e_2.1[(wrap .i64 (((e_2.1.length:Nat):Int)-1)).toNat]?).bind fun x2=>
 br (decide (0≤(wrap .i64 (((e_2.1.length:Nat):Int)-1)))) (
 br (decide ((wrap .i64 (((e_2.1.length:Nat):Int)-1)).toNat<e_2.1.length)) (
 (e_2.1[(wrap .i64 (((e_2.1.length:Nat):Int)-1)).toNat]?).bind fun x3=>
 (Loop (lk ([(1:UInt8)]:List UInt8)) ((nZ 25),(e_2.1.set ((wrap .i64 (((e_2.1.length:Nat):Int)-1)).toNat) (UInt8.ofInt (wR .u8 (x2.toNat:Int) 128))))).bind fun e_4=>
 (oa e_4.1).bind fun r_3=>
 (jO r_3.1 0 32).bind fun y3=>
 some y3) none) none) none) none) none
theorem uF {pieces r} (h:ou pieces=some r):Call tab ow 95 [sl (eL eU8) pieces] []=some (S r,[]):=by
 rw [ab (af:=zQ) rfl]
 unfold ou at h
 simp only [zQ,PK]
 have d1:= @Wr
 have d2:= @VR
 have d3:= @Wa
 simp only [zx,tD] at d3
 have d4:= @Qo
 exact go2
end
section
theorem Yr:mkR 2002 []=rws (eL eU8) []:=rfl
attribute [local go_sem] Yr
def yr (t:(List UInt8)):Option ((List UInt8)):=
 br (bE t.length 1) (
 (ou ([t]:List (List UInt8))).bind fun r_=>
 some r_) none
theorem Oj {t r} (h:yr t=some r):Call tab ow 267 [S t] []=some (S r,[]):=by
 rw [ab (af:=zs) rfl]
 unfold yr at h
 simp only [zs,Qg]
 have d1:= @uF
 exact go2
end
def pk (a b:(List UInt8)):Option ((List UInt8)):=
 br (bE ((([1]:List UInt8)).length+a.length) 1) (
 br (bE (((([1]:List UInt8))++a).length+b.length) 1) (
 some (((([1]:List UInt8))++a)++b)) none) none
theorem Wj {a b r} (h:pk a b=some r):Call tab ow 269 [S a,S b] []=some (S r,[]):=by
 rw [ab (af:=sQ) rfl]
 unfold pk at h
 simp only [sQ,Jz]
 exact go2
def ff (n low high:Int):Option (Bool):=
 br (decide (low≤n)) (
 some (decide (n≤high))) (
 some false)
theorem tF {n low high r} (h:ff n low high=some r):Call tab ow 69 [I n,I low,I high] []=some (B r,[]):=by
 rw [ab (af:=DA) rfl]
 unfold ff at h
 simp only [DA,Tc]
 exact go2
def nT (a:Int):Option (Bool):=
 (ff a 0 2130706432).bind fun r_=>
 some r_
theorem KQ {a r} (h:nT a=some r):Call tab ow 196 [I a] []=some (B r,[]):=by
 rw [ab (af:=w7) rfl]
 unfold nT at h
 simp only [w7,Lm]
 have d1:= @tF
 exact go2
def zF (a:Ext):Option (Bool):=
 (nT a.A).bind fun r_=>
 br r_ (
 (nT a.B).bind fun r_2=>
 some r_2) (
 some false)
theorem Tb {a r} (h:zF a=some r):Call tab ow 96 [.agg [I a.A,I a.B]] []=some (B r,[]):=by
 rw [ab (af:=DI) rfl]
 unfold zF at h
 simp only [DI,Ts]
 have d1:= @KQ
 exact go2
def wJ (list2:List Ext):Int→Option ((Int)⊕(Unit⊕(Int×Bool)))
 |i=>
  br (decide (i<((list2.length:Nat):Int))) (
  (atL list2 i).bind fun x=>
  (zF x).bind fun r_=>
  br (!r_) (
  some (.inr (.inl ()))) (
  some (.inl (wrap .i64 (i+1))))) (
  some (.inr (.inr (i,decide (i<((list2.length:Nat):Int))))))
abbrev Gg (list2:List Ext) (s:Int):St:=⟨[(0,sl eExt list2),(3,I s)],[]⟩
abbrev FZ (list2:List Ext):(Unit⊕(Int×Bool))→ag×St:=alt (fun e=>((.ret,⟨[(2,B false)],[]⟩):ag×St)) (fun e=>(.exit 0,⟨[(0,sl eExt list2),(3,I e.1),(7,B e.2)],[]⟩))
theorem QO {list2 s e} (h:Loop (wJ list2) s=some e):aq tab ow (.close [5004]) Fb (Gg list2 s)=some (FZ list2 e):=by
 refine lrG (fun s o h=> ?_) h
 simp only [wJ] at h
 simp only [Gg,FZ,Fb,EW]
 have d1:= @Tb
 exact go2
def gU (list:(List Ext)):Option (Bool):=
 (Loop (wJ list) 0).bind (alt (fun e_2=>
 some false) (fun e_3=>
 some true))
theorem kC {list r} (h:gU list=some r):Call tab ow 105 [sl eExt list] []=some (B r,[]):=by
 rw [ab (af:=vK) rfl]
 unfold gU at h
 simp only [vK,BK]
 have d1:= @QO
 exact go2
def rK (a b:Int):Option (Int):=
 some ((wrap .i64 (a+b)).tmod 2130706433)
theorem Qc {a b r} (h:rK a b=some r):Call tab ow 244 [I a,I b] []=some (I r,[]):=by
 rw [ab (af:=zT) rfl]
 unfold rK at h
 simp only [zT,NL]
 exact go2
def fG (a b:Ext):Option (Ext):=
 (rK a.A b.A).bind fun r_=>
 (rK a.B b.B).bind fun r_2=>
 some (Ext.mk r_ r_2)
theorem kB {a b r} (h:fG a b=some r):Call tab ow 197 [.agg [I a.A,I a.B],.agg [I b.A,I b.B]] []=some (.agg [I r.A,I r.B],[]):=by
 rw [ab (af:=zp) rfl]
 unfold fG at h
 simp only [zp,O2]
 have d1:= @Qc
 exact go2
def u5 (a b:Int):Option (Int):=
 some ((wrap .i64 ((wrap .i64 (a+2130706433))-b)).tmod 2130706433)
theorem PQ {a b r} (h:u5 a b=some r):Call tab ow 245 [I a,I b] []=some (I r,[]):=by
 rw [ab (af:=zS) rfl]
 unfold u5 at h
 simp only [zS,Pm]
 exact go2
def rz (a b:Ext):Option (Ext):=
 (u5 a.A b.A).bind fun r_=>
 (u5 a.B b.B).bind fun r_2=>
 some (Ext.mk r_ r_2)
theorem yY {a b r} (h:rz a b=some r):Call tab ow 280 [.agg [I a.A,I a.B],.agg [I b.A,I b.B]] []=some (.agg [I r.A,I r.B],[]):=by
 rw [ab (af:=zA) rfl]
 unfold rz at h
 simp only [zA,ND]
 have d1:= @PQ
 exact go2
def io (n2:Int):Int→Option ((Int)⊕((Int×Bool)))
 |k=>
  br (decide (0≤(wrap .u64 k))) (
  br (decide ((aD .i64 1 (wrap .u64 k))<n2)) (
  some (.inl (wrap .i64 (k+1)))) (
  some (.inr (k,decide ((aD .i64 1 (wrap .u64 k))<n2))))) none
abbrev Gq (n2 s:Int):St:=⟨[(0,I n2),(3,I s)],[]⟩
abbrev Em (n2:Int):(Int×Bool)→ag×St:=fun e=>(.exit 0,⟨[(0,I n2),(3,I e.1),(8,B e.2)],[]⟩)
theorem R7 {n2 s e} (h:Loop (io n2) s=some e):aq tab ow (.close []) ES (Gq n2 s)=some (Em n2 e):=by
 refine lrG (fun s o h=> ?_) h
 simp only [io] at h
 simp only [Gq,Em,ES,G3]
 exact go2
def yy (n:Int):Option (Int):=
 (Loop (io n) 0).bind fun e_=>
 some e_.1
theorem Z6 {n r} (h:yy n=some r):Call tab ow 279 [I n] []=some (I r,[]):=by
 rw [ab (af:=vY) rfl]
 unfold yy at h
 simp only [vY,CI]
 have d1:= @R7
 exact go2
def j2 (a b:Int):Option (Int):=
 some ((wrap .i64 (a*b)).tmod 2130706433)
theorem z6 {a b r} (h:j2 a b=some r):Call tab ow 246 [I a,I b] []=some (I r,[]):=by
 rw [ab (af:=zD) rfl]
 unfold j2 at h
 simp only [zD,OR]
 exact go2
def kN:Int×Int×Int→Option ((Int×Int×Int)⊕((Int×Int×Int×Bool)))
 | (a2,n2,r_)=>
   br (decide (n2>0)) (
   br ((n2.tmod 2)==1) (
   (j2 r_ a2).bind fun r_2=>
   (j2 a2 a2).bind fun r_3=>
   some (.inl (r_3,(wrap .i64 (n2.tdiv 2)),r_2))) (
   (j2 a2 a2).bind fun r_4=>
   some (.inl (r_4,(wrap .i64 (n2.tdiv 2)),r_)))) (
   some (.inr (a2,n2,r_,decide (n2>0))))
abbrev Ir (s:Int×Int×Int):St:=⟨[(0,I s.1),(1,I s.2.1),(5,I s.2.2)],[]⟩
abbrev Ik:(Int×Int×Int×Bool)→ag×St:=fun e=>(.exit 0,⟨[(0,I e.1),(1,I e.2.1),(5,I e.2.2.1),(7,B e.2.2.2)],[]⟩)
theorem TY { s e} (h:Loop (kN) s=some e):aq tab ow (.close [5002,6002]) JA (Ir s)=some (Ik e):=by
 refine lrG (fun s o h=> ?_) h
 obtain ⟨_,_,_⟩:=s
 simp only [kN] at h
 simp only [Ir,Ik,JA,HD]
 have d1:= @z6
 exact go2
def rG (a n:Int):Option (Int):=
 (Loop (kN) (a,n,1)).bind fun e_=>
 some e_.2.2.1
theorem GY {a n r} (h:rG a n=some r):Call tab ow 334 [I a,I n] []=some (I r,[]):=by
 rw [ab (af:=zt) rfl]
 unfold rG at h
 simp only [zt,GS]
 have d1:= @TY
 exact go2
def xF (k:Int):Option (Int):=
 br (decide (0≤(wrap .u64 (wrap .i64 (24-k))))) (
 (rG 3 (aD .i64 127 (wrap .u64 (wrap .i64 (24-k))))).bind fun r_=>
 some r_) none
theorem Zm {k r} (h:xF k=some r):Call tab ow 278 [I k] []=some (I r,[]):=by
 rw [ab (af:=vy) rfl]
 unfold xF at h
 simp only [vy,Lz]
 have d1:= @GY
 exact go2
def oz (n:Int):Option (Ext):=
 some (Ext.mk n 0)
theorem tG {n r} (h:oz n=some r):Call tab ow 288 [I n] []=some (.agg [I r.A,I r.B],[]):=by
 rw [ab (af:=DB) rfl]
 unfold oz at h
 simp only [DB,T5]
 exact go2
def bW (a b:Ext):Option (Ext):=
 (j2 a.A b.A).bind fun r_=>
 (j2 a.B b.B).bind fun r_2=>
 (rK r_ ((wrap .i64 (3*r_2)).tmod 2130706433)).bind fun r_3=>
 (j2 a.A b.B).bind fun r_4=>
 (j2 a.B b.A).bind fun r_5=>
 (rK r_4 r_5).bind fun r_6=>
 some (Ext.mk r_3 r_6)
theorem ii {a b r} (h:bW a b=some r):Call tab ow 199 [.agg [I a.A,I a.B],.agg [I b.A,I b.B]] []=some (.agg [I r.A,I r.B],[]):=by
 rw [ab (af:=zk) rfl]
 unfold bW at h
 simp only [zk,Qz]
 have d1:= @z6
 have d2:= @Qc
 exact go2
section
theorem QS:mkR 2000 []=rws eU8 []:=rfl
attribute [local go_sem] QS
def j4 (list2:List Ext):(List UInt8)×Int→Option (((List UInt8)×Int)⊕(((List UInt8)×Int×Bool)))
 | (l,i)=>
   br (decide (i<((list2.length:Nat):Int))) (
   (atL list2 i).bind fun x=>
   (dy x.A 4).bind fun r_=>
   br (bE ((l++r_).length) 1) (
   (atL list2 i).bind fun x2=>
   (dy x2.B 4).bind fun r_2=>
   br (bE (((l++r_)++r_2).length) 1) (
   some (.inl (((l++r_)++r_2),(wrap .i64 (i+1))))) none) none) (
   some (.inr (l,i,decide (i<((list2.length:Nat):Int)))))
abbrev CW (list2:List Ext) (s:(List UInt8)×Int):St:=⟨[(0,sl eExt list2),(3,.sl 2000 0 s.1.length),(4,I s.2)],[(2000,⟨1,false,rws eU8 s.1⟩)]⟩
abbrev Cq (list2:List Ext):((List UInt8)×Int×Bool)→ag×St:=fun e=>(.exit 0,⟨[(0,sl eExt list2),(3,.sl 2000 0 e.1.length),(4,I e.2.1),(9,B e.2.2)],[(2000,⟨1,false,rws eU8 e.1⟩)]⟩)
theorem P7 {list2 s e} (h:Loop (j4 list2) s=some e):aq tab ow (.close [6006,6007,6013,6014]) CU (CW list2 s)=some (Cq list2 e):=by
 refine lrG (fun s o h=> ?_) h
 obtain ⟨_,_⟩:=s
 simp only [j4] at h
 simp only [CW,Cq,CU,CH]
 have d1:= @fR
 exact go2
def pu (list:(List Ext)):Option ((List UInt8)):=
 (Loop (j4 list) (([]:List UInt8),0)).bind fun e_=>
 some e_.1
theorem IE {list r} (h:pu list=some r):Call tab ow 159 [sl eExt list] []=some (sl eU8 r,[]):=by
 rw [ab (af:=tC) rfl]
 unfold pu at h
 simp only [tC,zb]
 have d1:= @P7
 exact go2
end
def xr (t:(List UInt8)):Option ((List UInt8)):=
 br (bE ((([0]:List UInt8)).length+t.length) 1) (
 (j0 ((([0]:List UInt8))++t)).bind fun r_=>
 some r_) none
theorem XQ {t r} (h:xr t=some r):Call tab ow 275 [S t] []=some (S r,[]):=by
 rw [ab (af:=vv) rfl]
 unfold xr at h
 simp only [vv,Lt]
 have d1:= @nF
 exact go2
def kA (t:Setting):Option (Bool):=
 (ws t.Rate 1 3).bind fun r_=>
 br r_ (
 (ws t.Queries 1 8).bind fun r_2=>
 br r_2 (
 (ws t.Grind 0 12).bind fun r_3=>
 some r_3) (
 some false)) (
 some false)
theorem wx {t r} (h:kA t=some r):Call tab ow 26 [.agg [I t.Rate,I t.Queries,I t.Grind]] []=some (B r,[]):=by
 rw [ab (af:=pJ) rfl]
 unfold kA at h
 simp only [pJ,EN]
 have d1:= @zH
 exact go2
def rv (h_:(List UInt8)):Option (Bool):=
 some (((h_.length:Nat):Int)==32)
theorem zN {h_ r} (h:rv h_=some r):Call tab ow 100 [S h_] []=some (B r,[]):=by
 rw [ab (af:=zn) rfl]
 unfold rv at h
 simp only [zn,P2]
 exact go2
def u2 (s:Source):Option (Bool):=
 br (decide (((s.Script.length:Nat):Int)≤64)) (
 (dh s.Script).bind fun r_=>
 br r_ (
 (rv s.State).bind fun r_2=>
 br r_2 (
 (ws s.At 0 1000000).bind fun r_3=>
 br r_3 (
 (ws s.Count 0 1000000).bind fun r_4=>
 some r_4) (
 some false)) (
 some false)) (
 some false)) (
 some false)
theorem Xb {s r} (h:u2 s=some r):Call tab ow 74 [.agg [sl eExt s.Script,I s.At,S s.State,I s.Count]] []=some (B r,[]):=by
 rw [ab (af:=to) rfl]
 unfold u2 at h
 simp only [to,ID]
 have d1:= @iB
 have d2:= @zN
 have d3:= @zH
 exact go2
def pL (s:Source):Option (Int):=
 some (wrap .i64 (1000000-(mx s.At s.Count)))
theorem M6 {s r} (h:pL s=some r):Call tab ow 75 [.agg [sl eExt s.Script,I s.At,S s.State,I s.Count]] []=some (I r,[]):=by
 rw [ab (af:=mJ) rfl]
 unfold pL at h
 simp only [mJ,A5]
 exact go2
def jy (s:Source):Option (Source):=
 (en s.Script).bind fun r_=>
 some (Source.mk r_ s.At s.State s.Count)
theorem JD {s r} (h:jy s=some r):Call tab ow 76 [.agg [sl eExt s.Script,I s.At,S s.State,I s.Count]] []=some (.agg [sl eExt r.Script,I r.At,S r.State,I r.Count],[]):=by
 rw [ab (af:=jW) rfl]
 unfold jy at h
 simp only [jW,vN]
 have d1:= @tz
 exact go2
def LF:Option (Ext):=
 some (Ext.mk 1 0)
theorem MS {r} (h:LF=some r):Call tab ow 183 [] []=some (.agg [I r.A,I r.B],[]):=by
 rw [ab (af:=N7) rfl]
 unfold LF at h
 simp only [N7,a3m]
 exact go2
def bC (a b:Ext):Option (Ext):=
 (tY a.A b.A).bind fun r_=>
 (tY a.B b.B).bind fun r_2=>
 (tY 3 r_2).bind fun r_3=>
 (La r_ r_3).bind fun r_4=>
 (tY a.A b.B).bind fun r_5=>
 (tY a.B b.A).bind fun r_6=>
 (La r_5 r_6).bind fun r_7=>
 some (Ext.mk r_4 r_7)
theorem cP {a b r} (h:bC a b=some r):Call tab ow 182 [.agg [I a.A,I a.B],.agg [I b.A,I b.B]] []=some (.agg [I r.A,I r.B],[]):=by
 rw [ab (af:=qd) rfl]
 unfold bC at h
 simp only [qd,F3]
 have d1:= @MZ
 have d2:= @a3J
 exact go2
section
theorem V2:mkR 2001 []=rws eExt []:=rfl
attribute [local go_sem] V2
theorem U4:mkR 6000 []=rws eExt []:=rfl
attribute [local go_sem] U4
theorem Wd:mkR 6001 []=rws eExt []:=rfl
attribute [local go_sem] Wd
theorem Wn:mkR 10006 []=rws eExt []:=rfl
attribute [local go_sem] Wn
theorem WV:mkR 10012 []=rws eExt []:=rfl
attribute [local go_sem] WV
def jE (t4:List Ext) (t5 t6:Int) (t7:List Ext) (t8 c c2:Int):(List Ext)×(List Ext)×Int→Option (((List Ext)×(List Ext)×Int)⊕(((List Ext)×(List Ext)×Int×Bool)))
 | (l,l2,t9)=>
   br (decide (t9<t8)) (
   (atL t7 t9).bind fun x2=>
   (LF).bind fun r_2=>
   (eQ r_2 (Ext.mk c c2)).bind fun r_3=>
   (bC x2 r_3).bind fun r_4=>
   br (bE ((l++([r_4]:List Ext)).length) 16) (
   (bC x2 (Ext.mk c c2)).bind fun r_5=>
   br (bE ((l2++([r_5]:List Ext)).length) 16) (
   some (.inl ((l++([r_4]:List Ext)),(l2++([r_5]:List Ext)),(wrap .i64 (t9+1))))) none) none) (
   some (.inr (l,l2,t9,decide (t9<t8))))
abbrev wG (c c2:Int) (l l2:List Ext):List (Nat×Blk):=[(5002,⟨2,true,[[I c,I c2]]⟩),(6000,⟨2,false,rws eExt l⟩),(6001,⟨2,false,rws eExt l2⟩)]
abbrev EA (t4:List Ext) (t5 t6:Int) (t7:List Ext) (t8 c c2:Int) (s:(List Ext)×(List Ext)×Int):St:=⟨[(5,.ptr 5002 0 0 1),(6,.sl 6000 0 s.1.length),(7,.sl 6001 0 s.2.1.length),(12,sl eExt t4),(13,I t5),(14,I t6),(20,sl eExt t7),(21,I t8),(22,I s.2.2)],wG c c2 s.1 s.2.1⟩
abbrev FB (t4:List Ext) (t5 t6:Int) (t7:List Ext) (t8 c c2:Int):((List Ext)×(List Ext)×Int×Bool)→ag×St:=fun e=>(.exit 2,⟨[(5,.ptr 5002 0 0 1),(6,.sl 6000 0 e.1.length),(7,.sl 6001 0 e.2.1.length),(12,sl eExt t4),(13,I t5),(14,I t6),(20,sl eExt t7),(21,I t8),(22,I e.2.2.1),(23,B e.2.2.2)],wG c c2 e.1 e.2.1⟩)
theorem S6 {t4 t5 t6 t7 t8 c c2 s e} (h:Loop (jE t4 t5 t6 t7 t8 c c2) s=some e):aq tab ow (.close [9002,10002,10004,10005,10006,10007,10011,10012,10013]) G6 (EA t4 t5 t6 t7 t8 c c2 s)=some (FB t4 t5 t6 t7 t8 c c2 e):=by
 refine lrG (fun s o h=> ?_) h
 obtain ⟨_,_,_⟩:=s
 simp only [jE] at h
 simp only [EA,FB,wG,G6,F8]
 have d1:= @MS
 have d2:= @jJ
 have d3:= @cP
 exact go2
def jD (t:List Ext) (t2:Int):(List Ext)×Int→Option (((List Ext)×Int)⊕(((List Ext)×Int×Bool)))
 | (out,t3)=>
   br (decide (t3<t2)) (
   (atL t t3).bind fun x=>
   (Loop (jE t t2 t3 out ((out.length:Nat):Int) x.A x.B) (([]:List Ext),([]:List Ext),0)).bind fun e_=>
   br (bE ((e_.1++e_.2.1).length) 16) (
   some (.inl ((e_.1++e_.2.1),(wrap .i64 (t3+1))))) none) (
   some (.inr (out,t3,decide (t3<t2))))
abbrev Gb (t:List Ext) (t2:Int) (s:(List Ext)×Int):St:=⟨[(3,sl eExt s.1),(12,sl eExt t),(13,I t2),(14,I s.2)],[]⟩
abbrev Gh (t:List Ext) (t2:Int):((List Ext)×Int×Bool)→ag×St:=fun e=>(.exit 0,⟨[(3,sl eExt e.1),(12,sl eExt t),(13,I t2),(14,I e.2.1),(15,B e.2.2)],[]⟩)
theorem Rw {t t2 s e} (h:Loop (jD t t2) s=some e):aq tab ow (.close [5002,6000,6001,9002,10002,10004,10005,10006,10007,10011,10012,10013,12002,2001]) FR (Gb t t2 s)=some (Gh t t2 e):=by
 refine lrG (fun s o h=> ?_) h
 obtain ⟨_,_⟩:=s
 simp only [jD] at h
 simp only [Gb,Gh,FR,EJ]
 have d1:= @S6
 exact go2
def oR (point:(List Ext)):Option ((List Ext)):=
 (LF).bind fun r_=>
 (Loop (jD point ((point.length:Nat):Int)) (([r_]:List Ext),0)).bind fun e_2=>
 some e_2.1
theorem BF {point r} (h:oR point=some r):Call tab ow 88 [sl eExt point] []=some (sl eExt r,[]):=by
 rw [ab (af:=ve) rfl]
 unfold oR at h
 simp only [ve,w6]
 have d1:= @MS
 have d2:= @Rw
 exact go2
end
def nl (kind:Int):Option (Int):=
 (ws kind 1 2).bind fun r_=>
 br (!r_) (
 some 0) (
 some (wrap .i64 (kind+1)))
theorem IL {kind r} (h:nl kind=some r):Call tab ow 293 [I kind] []=some (I r,[]):=by
 rw [ab (af:=sJ) rfl]
 unfold nl at h
 simp only [sJ,HV]
 have d1:= @zH
 exact go2
def yp (a b r_:Ext):Option (Ext):=
 (eQ b a).bind fun r_2=>
 (bC r_ r_2).bind fun r_3=>
 (dx a r_3).bind fun r_4=>
 some r_4
theorem ZJ {a b r_ r} (h:yp a b r_=some r):Call tab ow 316 [.agg [I a.A,I a.B],.agg [I b.A,I b.B],.agg [I r_.A,I r_.B]] []=some (.agg [I r.A,I r.B],[]):=by
 rw [ab (af:=uX) rfl]
 unfold yp at h
 simp only [uX,KP]
 have d1:= @jJ
 have d2:= @cP
 have d3:= @eH
 exact go2
def tN (kind:Int) (v:(List Ext)):Option (Ext):=
 br (kind==1) (
 (atL v 0).bind fun x=>
 (atL v 1).bind fun x2=>
 (bC x x2).bind fun r_=>
 some r_) (
 (atL v 0).bind fun x3=>
 (atL v 1).bind fun x4=>
 (atL v 2).bind fun x5=>
 (bC x4 x5).bind fun r_2=>
 (atL v 3).bind fun x6=>
 (eQ r_2 x6).bind fun r_3=>
 (bC x3 r_3).bind fun r_4=>
 some r_4)
theorem Zl {kind v r} (h:tN kind v=some r):Call tab ow 314 [I kind,sl eExt v] []=some (.agg [I r.A,I r.B],[]):=by
 rw [ab (af:=uV) rfl]
 unfold tN at h
 simp only [uV,KN]
 have d1:= @cP
 have d2:= @jJ
 exact go2
section
theorem a4V:mkR 2012 []=rws eU8 []:=rfl
attribute [local go_sem] a4V
def De (n:Int):Option ((List UInt8)):=
 br (bE (([(UInt8.ofInt (aM .i64 n 24)),(UInt8.ofInt (aM .i64 n 16)),(UInt8.ofInt (aM .i64 n 8)),(UInt8.ofInt n)]:List UInt8).length) 1) (
 some ([(UInt8.ofInt (aM .i64 n 24)),(UInt8.ofInt (aM .i64 n 16)),(UInt8.ofInt (aM .i64 n 8)),(UInt8.ofInt n)]:List UInt8)) none
theorem IB {n r} (h:De n=some r):Call tab ow 169 [.lit (.slice none 0 0),I n] []=some (sl eU8 r,[]):=by
 rw [ab (af:=yc) rfl]
 unfold De at h
 simp only [yc,Om]
 exact go2
end
section
theorem GK:mkR 1007 []=rws eU8 []:=rfl
attribute [local go_sem] GK
theorem GZ:mkR 1013 []=rws (eL eU8) []:=rfl
attribute [local go_sem] GZ
def du (t:(List UInt8)) (m:Source):Option (Source):=
 br (bE m.State.length 1) (
 (De ((t.length:Nat):Int)).bind fun r_=>
 (ou ([m.State,([(97:UInt8),(98:UInt8),(115:UInt8),(111:UInt8),(114:UInt8),(98:UInt8)]:List UInt8),r_,t]:List (List UInt8))).bind fun r_2=>
 some (Source.mk m.Script m.At r_2 0)) none
theorem jY {t m r} (h:du t m=some r):Call tab ow 166 [.ptr 0 0 0 1,sl eU8 t] [⟨4,true,[[sl eExt m.Script,I m.At,S m.State,I m.Count]]⟩]=some (.tup [],[⟨4,true,[[sl eExt r.Script,I r.At,S r.State,I r.Count]]⟩]):=by
 rw [ab (af:=jV) rfl]
 unfold du at h
 simp only [jV,vE]
 have d1:= @IB
 have d2:= @uF
 exact go2
end
def bu (list:(List Ext)) (m:Source):Option (Source):=
 (oZ list).bind fun r_=>
 (du r_ m).bind fun r_2=>
 some r_2
theorem gI {list m r} (h:bu list m=some r):Call tab ow 167 [.ptr 0 0 0 1,sl eExt list] [⟨4,true,[[sl eExt m.Script,I m.At,S m.State,I m.Count]]⟩]=some (.tup [],[⟨4,true,[[sl eExt r.Script,I r.At,S r.State,I r.Count]]⟩]):=by
 rw [ab (af:=gB) rfl]
 unfold bu at h
 simp only [gB,oG]
 have d1:= @HL
 have d2:= @jY
 exact go2
def jp (t:List UInt8) (t2:Int):Int×Int→Option ((Int×Int)⊕((Int×Int×Bool)))
 | (n,t3)=>
   br (decide (t3<t2)) (
   (atL t t3).bind fun x=>
   some (.inl ((wR .u64 (aD .u64 n 8) (wrap .u64 (x.toNat:Int))),(wrap .i64 (t3+1))))) (
   some (.inr (n,t3,decide (t3<t2))))
abbrev IU (t:List UInt8) (t2:Int) (s:Int×Int):St:=⟨[(3,.lit (.int .u64 s.1)),(6,sl eU8 t),(7,I t2),(8,I s.2)],[]⟩
abbrev HM (t:List UInt8) (t2:Int):(Int×Int×Bool)→ag×St:=fun e=>(.exit 0,⟨[(3,.lit (.int .u64 e.1)),(6,sl eU8 t),(7,I t2),(8,I e.2.1),(9,B e.2.2)],[]⟩)
theorem Vb {t t2 s e} (h:Loop (jp t t2) s=some e):aq tab ow (.close []) IS (IU t t2 s)=some (HM t t2 e):=by
 refine lrG (fun s o h=> ?_) h
 obtain ⟨_,_⟩:=s
 simp only [jp] at h
 simp only [IU,HM,IS,Jm]
 exact go2
def yG (b:(List UInt8)):Option (Int):=
 (Loop (jp b ((b.length:Nat):Int)) (0,0)).bind fun e_=>
 some (wrap .i64 (e_.1.tmod 2130706433))
theorem a1O {b r} (h:yG b=some r):Call tab ow 336 [sl eU8 b] []=some (I r,[]):=by
 rw [ab (af:=zY) rfl]
 unfold yG at h
 simp only [zY,Hr]
 have d1:= @Vb
 exact go2
section
theorem Kq:mkR 5005 []=rws eU8 []:=rfl
attribute [local go_sem] Kq
theorem Ke:mkR 5012 []=rws (eL eU8) []:=rfl
attribute [local go_sem] Ke
def fU (m:Source):Option (Ext×Source):=
 br (decide (((m.Script.length:Nat):Int)>0)) (
 br (decide (((m.Script.length:Nat):Int)≠0)) (
 (atL m.Script ((wrap .i64 ((wrap .i64 (m.At+1))-1)).tmod ((m.Script.length:Nat):Int))).bind fun x=>
 some (x,(Source.mk m.Script (wrap .i64 (m.At+1)) m.State m.Count))) none) (
 br (bE m.State.length 1) (
 (De m.Count).bind fun r_=>
 (ou ([m.State,([(100:UInt8),(114:UInt8),(97:UInt8),(119:UInt8)]:List UInt8),r_]:List (List UInt8))).bind fun r_2=>
 br (bE r_2.length 1) (
 (jO r_2 0 8).bind fun y=>
 (yG y).bind fun r_3=>
 (jO r_2 8 16).bind fun y2=>
 (yG y2).bind fun r_4=>
 some ((Ext.mk r_3 r_4),(Source.mk m.Script m.At m.State (wrap .i64 (m.Count+1))))) none) none)
theorem rU {m r} (h:fU m=some r):Call tab ow 282 [.ptr 0 0 0 1] [⟨4,true,[[sl eExt m.Script,I m.At,S m.State,I m.Count]]⟩]=some (.agg [I r.1.A,I r.1.B],[⟨4,true,[[sl eExt r.2.Script,I r.2.At,S r.2.State,I r.2.Count]]⟩]):=by
 rw [ab (af:=n6) rfl]
 unfold fU at h
 simp only [n6,Ax]
 have d1:= @IB
 have d2:= @uF
 have d3:= @a1O
 exact go2
end
def pw (a:Int):Option (Int):=
 (Nd a 2130706431).bind fun r_=>
 some r_
theorem LW {a r} (h:pw a=some r):Call tab ow 338 [I a] []=some (I r,[]):=by
 rw [ab (af:=vq) rfl]
 unfold pw at h
 simp only [vq,KR]
 have d1:= @Wk
 exact go2
def ko (n i:Int) (a b r_:Ext):Option (Ext):=
 (pw 2).bind fun r_2=>
 (J1 n).bind fun r_3=>
 (NO r_3).bind fun r_4=>
 (Nd r_4 i).bind fun r_5=>
 (dx a b).bind fun r_6=>
 (eF r_6 r_2).bind fun r_7=>
 (eQ a b).bind fun r_8=>
 (bC r_ r_8).bind fun r_9=>
 (pw r_5).bind fun r_10=>
 (tY r_2 r_10).bind fun r_11=>
 (eF r_9 r_11).bind fun r_12=>
 (dx r_7 r_12).bind fun r_13=>
 some r_13
theorem W2 {n i a b r_ r} (h:ko n i a b r_=some r):Call tab ow 284 [I n,I i,.agg [I a.A,I a.B],.agg [I b.A,I b.B],.agg [I r_.A,I r_.B]] []=some (.agg [I r.A,I r.B],[]):=by
 rw [ab (af:=sS) rfl]
 unfold ko at h
 simp only [sS,Hu]
 have d1:= @LW
 have d2:= @T6
 have d3:= @b09
 have d4:= @Wk
 have d5:= @eH
 have d6:= @kw
 have d7:= @jJ
 have d8:= @cP
 have d9:= @MZ
 exact go2
end
end Go.AI.Fn
