/- Walks through the program, with open values. -/
import Derived.Test.YtgjlndaebhaciaaStr
set_option linter.unusedVariables false
set_option linter.unusedSimpArgs false
set_option maxRecDepth 100000
set_option maxHeartbeats 1000000
namespace Go.AI.Fn
noncomputable section
open IntKind (wrap)
def vy (n low high:Int):Option (Bool):=
 br (decide (low≤n)) (
 some (decide (n≤high))) (
 some false)
theorem Lc {n low high r} (h:vy n low high=some r):Call tab ow 88 [I n,I low,I high] []=some (B r,[]):=by
 rw [al (af:=sU) rfl]
 unfold vy at h
 simp only [sU,BG]
 exact go2
def cW (op:Int):Option (Int):=
 (vy op 4 7).bind fun r_=>
 br r_ (
 some 2) (
 br (op==8) (
 some 1) (
 some 0))
theorem Eo {op r} (h:cW op=some r):Call tab ow 100 [I op] []=some (I r,[]):=by
 rw [al (af:=ot) rfl]
 unfold cW at h
 simp only [ot,xG]
 have d1:= @Lc
 exact go2
def va (b:Bool):Option (Int):=
 br b (
 some 1) (
 some 0)
theorem GO {b r} (h:va b=some r):Call tab ow 131 [B b] []=some (I r,[]):=by
 rw [al (af:=pU) rfl]
 unfold va at h
 simp only [pU,Am]
 exact go2
def eZ (op2:Int) (c2:List ab):Int×Int→Option ((Int×Int)⊕((Int×Int×Bool)))
 | (n,k)=>
   br (decide (k<((c2.length:Nat):Int))) (
   (atL c2 k).bind fun x=>
   (va (x.Op==op2)).bind fun r_=>
   some (.inl ((wrap .i64 (n+r_)),(wrap .i64 (k+1))))) (
   some (.inr (n,k,decide (k<((c2.length:Nat):Int)))))
abbrev s8 (op2:Int) (c2:List ab) (s:Int×Int):St:=⟨[(1,I op2),(2,.ptr 1000 0 0 1),(5,I s.1),(6,I s.2)],[(1000,⟨1,true,[[sl aY c2]]⟩)]⟩
abbrev rX (op2:Int) (c2:List ab):(Int×Int×Bool)→aH×St:=fun e=>(.exit 0,⟨[(1,I op2),(2,.ptr 1000 0 0 1),(5,I e.1),(6,I e.2.1),(11,B e.2.2)],[(1000,⟨1,true,[[sl aY c2]]⟩)]⟩)
theorem Aj {op2 c2 s e} (h:Loop (eZ op2 c2) s=some e):bL tab ow (.close [6009]) sv (s8 op2 c2 s)=some (rX op2 c2 e):=by
 refine lrG (fun s o h=> ?_) h
 obtain ⟨_,_⟩:=s
 simp only [eZ] at h
 simp only [s8,rX,sv,sI]
 have d1:= @GO
 exact go2
def eC (c:Circuit) (op:Int):Option (Int):=
 (Loop (eZ op c.Gates) (0,0)).bind fun e_=>
 some e_.1
theorem qE {c op r} (h:eC c op=some r):Call tab ow 90 [.agg [sl aY c.Gates],I op] []=some (I r,[]):=by
 rw [al (af:=mj) rfl]
 unfold eC at h
 simp only [mj,pX]
 have d1:= @Aj
 exact go2
def sE (a b:Int):Option (Int):=
 some ((wrap .i64 (a+b)).tmod 2130706433)
theorem I6 {a b r} (h:sE a b=some r):Call tab ow 105 [I a,I b] []=some (I r,[]):=by
 rw [al (af:=pQ) rfl]
 unfold sE at h
 simp only [pQ,zW]
 exact go2
def fy (n low high:Int):Option (Bool):=
 br (decide (low≤n)) (
 some (decide (n≤high))) (
 some false)
theorem uv {n low high r} (h:fy n low high=some r):Call tab ow 59 [I n,I low,I high] []=some (B r,[]):=by
 rw [al (af:=Cr) rfl]
 unfold fy at h
 simp only [Cr,Q7]
 exact go2
def iZ (a:Int):Option (Bool):=
 (fy a 0 2130706432).bind fun r_=>
 some r_
theorem sP {a r} (h:iZ a=some r):Call tab ow 66 [I a] []=some (B r,[]):=by
 rw [al (af:=o4) rfl]
 unfold iZ at h
 simp only [o4,xA]
 have d1:= @uv
 exact go2
def rH (g:ab) (below:Int):Option (Bool):=
 br (g.Op==3) (
 (iZ g.K).bind fun r_=>
 (fy g.Op 1 8).bind fun r_2=>
 br r_2 (
 br (g.A==0) (
 br (g.B==0) (
 some r_) (
 some false)) (
 some false)) (
 some false)) (
 br (g.Op==4) (
 br (g.Op==4) (
 (fy g.A 0 (wrap .i64 (below-1))).bind fun r_3=>
 (fy g.B 0 (wrap .i64 (below-1))).bind fun r_4=>
 (fy g.Op 1 8).bind fun r_5=>
 br r_5 (
 br r_3 (
 br r_4 (
 some (g.K==0)) (
 some false)) (
 some false)) (
 some false)) (
 br (g.Op==8) (
 (fy g.A 0 (wrap .i64 (below-1))).bind fun r_6=>
 (fy g.Op 1 8).bind fun r_7=>
 br r_7 (
 br r_6 (
 br (g.B==0) (
 some (g.K==0)) (
 some false)) (
 some false)) (
 some false)) (
 (fy g.Op 1 8).bind fun r_8=>
 br r_8 (
 br (g.A==0) (
 br (g.B==0) (
 some (g.K==0)) (
 some false)) (
 some false)) (
 some false)))) (
 br (g.Op==5) (
 br (g.Op==5) (
 (fy g.A 0 (wrap .i64 (below-1))).bind fun r_9=>
 (fy g.B 0 (wrap .i64 (below-1))).bind fun r_10=>
 (fy g.Op 1 8).bind fun r_11=>
 br r_11 (
 br r_9 (
 br r_10 (
 some (g.K==0)) (
 some false)) (
 some false)) (
 some false)) (
 br (g.Op==8) (
 (fy g.A 0 (wrap .i64 (below-1))).bind fun r_12=>
 (fy g.Op 1 8).bind fun r_13=>
 br r_13 (
 br r_12 (
 br (g.B==0) (
 some (g.K==0)) (
 some false)) (
 some false)) (
 some false)) (
 (fy g.Op 1 8).bind fun r_14=>
 br r_14 (
 br (g.A==0) (
 br (g.B==0) (
 some (g.K==0)) (
 some false)) (
 some false)) (
 some false)))) (
 br (g.Op==6) (
 br (g.Op==6) (
 (fy g.A 0 (wrap .i64 (below-1))).bind fun r_15=>
 (fy g.B 0 (wrap .i64 (below-1))).bind fun r_16=>
 (fy g.Op 1 8).bind fun r_17=>
 br r_17 (
 br r_15 (
 br r_16 (
 some (g.K==0)) (
 some false)) (
 some false)) (
 some false)) (
 br (g.Op==8) (
 (fy g.A 0 (wrap .i64 (below-1))).bind fun r_18=>
 (fy g.Op 1 8).bind fun r_19=>
 br r_19 (
 br r_18 (
 br (g.B==0) (
 some (g.K==0)) (
 some false)) (
 some false)) (
 some false)) (
 (fy g.Op 1 8).bind fun r_20=>
 br r_20 (
 br (g.A==0) (
 br (g.B==0) (
 some (g.K==0)) (
 some false)) (
 some false)) (
 some false)))) (
 br (g.Op==7) (
 (fy g.A 0 (wrap .i64 (below-1))).bind fun r_21=>
 (fy g.B 0 (wrap .i64 (below-1))).bind fun r_22=>
 (fy g.Op 1 8).bind fun r_23=>
 br r_23 (
 br r_21 (
 br r_22 (
 some (g.K==0)) (
 some false)) (
 some false)) (
 some false)) (
 br (g.Op==8) (
 (fy g.A 0 (wrap .i64 (below-1))).bind fun r_24=>
 (fy g.Op 1 8).bind fun r_25=>
 br r_25 (
 br r_24 (
 br (g.B==0) (
 some (g.K==0)) (
 some false)) (
 some false)) (
 some false)) (
 (fy g.Op 1 8).bind fun r_26=>
 br r_26 (
 br (g.A==0) (
 br (g.B==0) (
 some (g.K==0)) (
 some false)) (
 some false)) (
 some false)))))))
theorem Ik {g below r} (h:rH g below=some r):Call tab ow 61 [.agg [I g.Op,I g.A,I g.B,I g.K],I below] []=some (B r,[]):=by
 rw [al (af:=pM) rfl]
 unfold rH at h
 simp only [pM,yW]
 have d1:= @sP
 have d2:= @uv
 exact go2
def cm (op2:Int) (t:List ab) (t2:Int) (c2:List ab):Int×Int→Option ((Int×Int)⊕((Int×Int×Bool)))
 | (count,t3)=>
   br (decide (t3<t2)) (
   (atL t t3).bind fun x=>
   br (x.Op==op2) (
   some (.inl ((wrap .i64 (count+1)),(wrap .i64 (t3+1))))) (
   some (.inl (count,(wrap .i64 (t3+1)))))) (
   some (.inr (count,t3,decide (t3<t2))))
abbrev jK (op2:Int) (t:List ab) (t2:Int) (c2:List ab) (s:Int×Int):St:=⟨[(1,I op2),(5,I s.1),(9,sl aY t),(10,I t2),(11,I s.2)],[(1000,⟨1,true,[[sl aY c2]]⟩)]⟩
abbrev jH (op2:Int) (t:List ab) (t2:Int) (c2:List ab):(Int×Int×Bool)→aH×St:=fun e=>(.exit 0,⟨[(1,I op2),(5,I e.1),(9,sl aY t),(10,I t2),(11,I e.2.1),(12,B e.2.2)],[(1000,⟨1,true,[[sl aY c2]]⟩)]⟩)
theorem rt {op2 t t2 c2 s e} (h:Loop (cm op2 t t2 c2) s=some e):bL tab ow (.close [5002]) jI (jK op2 t t2 c2 s)=some (jH op2 t t2 c2 e):=by
 refine lrG (fun s o h=> ?_) h
 obtain ⟨_,_⟩:=s
 simp only [cm] at h
 simp only [jK,jH,jI,jJ]
 exact go2
def cj (c:Circuit) (op:Int):Option (Int):=
 (Loop (cm op c.Gates ((c.Gates.length:Nat):Int) c.Gates) (0,0)).bind fun e_=>
 some e_.1
theorem ib {c op r} (h:cj c op=some r):Call tab ow 60 [.agg [sl aY c.Gates],I op] []=some (I r,[]):=by
 rw [al (af:=eO) rfl]
 unfold cj at h
 simp only [eO,ij]
 have d1:= @rt
 exact go2
def cu (t:List ab) (t2:Int) (c2:List ab):Int→Option ((Int)⊕((Int×Int×Int×Int)⊕(Int×Bool)))
 |t3=>
  br (decide (t3<t2)) (
  (atL t t3).bind fun x=>
  (rH x t3).bind fun r_2=>
  br (!r_2) (
  some (.inr (.inl (x.Op,x.A,x.B,x.K)))) (
  some (.inl (wrap .i64 (t3+1))))) (
  some (.inr (.inr (t3,decide (t3<t2)))))
abbrev rh (t:List ab) (t2:Int) (c2:List ab) (s:Int):St:=⟨[(1,.ptr 1000 0 0 1),(11,sl aY t),(12,I t2),(13,I s)],[(1000,⟨1,true,[[sl aY c2]]⟩)]⟩
abbrev rj (t:List ab) (t2:Int) (c2:List ab):((Int×Int×Int×Int)⊕(Int×Bool))→aH×St:=alt (fun e=>((.ret,⟨[(2,B false)],[(1000,⟨1,true,[[sl aY c2]]⟩),(6003,⟨4,true,[[I e.1,I e.2.1,I e.2.2.1,I e.2.2.2]]⟩)]⟩):aH×St)) (fun e=>(.exit 0,⟨[(1,.ptr 1000 0 0 1),(11,sl aY t),(12,I t2),(13,I e.1),(14,B e.2)],[(1000,⟨1,true,[[sl aY c2]]⟩)]⟩))
theorem y8 {t t2 c2 s e} (h:Loop (cu t t2 c2) s=some e):bL tab ow (.close [6003,7002]) qU (rh t t2 c2 s)=some (rj t t2 c2 e):=by
 refine lrG (fun s o h=> ?_) h
 simp only [cu] at h
 simp only [rh,rj,qU,qM]
 have d1:= @Ik
 exact go2
def iR (c:Circuit):Option (Bool):=
 (fy ((c.Gates.length:Nat):Int) 1 15).bind fun r_=>
 br (!r_) (
 some false) (
 (Loop (cu c.Gates ((c.Gates.length:Nat):Int) c.Gates) 0).bind (alt (fun e_2=>
 some false) (fun e_3=>
 (cj c 2).bind fun r_3=>
 some (decide (r_3≤7)))))
theorem tL {c r} (h:iR c=some r):Call tab ow 22 [.agg [sl aY c.Gates]] []=some (B r,[]):=by
 rw [al (af:=kq) rfl]
 unfold iR at h
 simp only [kq,oD]
 have d1:= @uv
 have d2:= @y8
 have d3:= @ib
 exact go2
def bW (s:aX):Option (Int):=
 br (decide (0≤(wrap .i64 (s.Cols-1)))) (
 some (bo .i64 1 (wrap .i64 (s.Cols-1)))) none
theorem fV {s r} (h:bW s=some r):Call tab ow 62 [.agg [I s.Rows,I s.Cols,I s.Publics,sl aw s.A,sl aw s.B,sl aw s.C]] []=some (I r,[]):=by
 rw [al (af:=iA) rfl]
 unfold bW at h
 simp only [iA,rn]
 exact go2
def xz (a b:Int):Option (Int):=
 some ((wrap .i64 (a+b)).tmod 2130706433)
theorem yg {a b r} (h:xz a b=some r):Call tab ow 72 [I a,I b] []=some (I r,[]):=by
 rw [al (af:=ya) rfl]
 unfold xz at h
 simp only [ya,J7]
 exact go2
def bk (m6 m7:List Tri) (t t2:Int) (t3:List (Int×Int)) (t4 c:Int):(List Tri)×Int→Option (((List Tri)×Int)⊕(((List Tri)×Int×Bool)))
 | (m5,t5)=>
   br (decide (t5<t4)) (
   (atL t3 t5).bind fun x=>
   (xz (cV c x.1 m5) x.2).bind fun r_=>
   some (.inl ((cZ c x.1 r_ m5),(wrap .i64 (t5+1))))) (
   some (.inr (m5,t5,decide (t5<t4))))
abbrev lL (m6 m7:List Tri) (c:Int) (m5:List Tri):List (Nat×Blk):=[(0,⟨4,true,[[I c,.mp 1,.mp 2,.mp 3]]⟩),(1,⟨0,true,[am m5]⟩),(2,⟨0,true,[am m6]⟩),(3,⟨0,true,[am m7]⟩)]
abbrev rb (m6 m7:List Tri) (t t2:Int) (t3:List (Int×Int)) (t4 c:Int) (s:(List Tri)×Int):St:=⟨[(0,.ptr 0 0 0 1),(2,I t),(3,I t2),(11,sl (eA2 eI) t3),(12,I t4),(13,I s.2)],lL m6 m7 c s.1⟩
abbrev qQ (m6 m7:List Tri) (t t2:Int) (t3:List (Int×Int)) (t4 c:Int):((List Tri)×Int×Bool)→aH×St:=fun e=>(.exit 0,⟨[(0,.ptr 0 0 0 1),(2,I t),(3,I t2),(11,sl (eA2 eI) t3),(12,I t4),(13,I e.2.1),(14,B e.2.2)],lL m6 m7 c e.1⟩)
theorem xP {m6 m7 t t2 t3 t4 c s e} (h:Loop (bk m6 m7 t t2 t3 t4 c) s=some e):bL tab ow (.close [3002,4007,5013]) qZ (rb m6 m7 t t2 t3 t4 c s)=some (qQ m6 m7 t t2 t3 t4 c e):=by
 refine lrG (fun s o h=> ?_) h
 obtain ⟨_,_⟩:=s
 simp only [bk] at h
 simp only [rb,qQ,lL,qZ,rd]
 have d1:= @yg
 exact go2
def bF (a:(List (Int×Int))) (a2 a3 m:Int) (m2 m3 m4:List Tri):Option (Int×(List Tri)×(List Tri)×(List Tri)):=
 (Loop (bk m3 m4 a2 a3 a ((a.length:Nat):Int) m) (m2,0)).bind fun e_=>
 some ((wrap .i64 (m+1)),e_.1,(cZ m a2 1 m3),(cZ m a3 1 m4))
theorem AW {a a2 a3 m m2 m3 m4 r} (h:bF a a2 a3 m m2 m3 m4=some r):Call tab ow 134 [.ptr 0 0 0 1,sl (eA2 eI) a,I a2,I a3] [⟨4,true,[[I m,.mp 1,.mp 2,.mp 3]]⟩,⟨0,true,[am m2]⟩,⟨0,true,[am m3]⟩,⟨0,true,[am m4]⟩]=some (.tup [],[⟨4,true,[[I r.1,.mp 1,.mp 2,.mp 3]]⟩,⟨0,true,[am r.2.1]⟩,⟨0,true,[am r.2.2.1]⟩,⟨0,true,[am r.2.2.2]⟩]):=by
 rw [al (af:=ku) rfl]
 unfold bF at h
 simp only [ku,oH]
 have d1:= @xP
 exact go2
section
theorem wm:mkR 2006 []=rws (eA2 eI) []:=rfl
attribute [local go_sem] wm
def bA (place value:Int) (m:(List Int)):Option ((List (Int×Int))):=
 (atL m place).bind fun x=>
 some ([(x,value)]:List (Int×Int))
theorem wT {place value m r} (h:bA place value m=some r):Call tab ow 133 [I place,I value,.ptr 0 0 0 1] [⟨1,true,[[sl eI m]]⟩]=some (.sl 1 0 r.length,[⟨1,true,[[sl eI m]]⟩,⟨2,false,rws (eA2 eI) r⟩]):=by
 rw [al (af:=i4) rfl]
 unfold bA at h
 simp only [i4,oY]
 exact go2
end
section
theorem y4:mkR 5004 []=rws (eA2 eI) []:=rfl
attribute [local go_sem] y4
def ji (a:ab) (a2:Int) (a3:(List Int)) (m:Int) (m2 m3 m4:List Tri):Option (Int×(List Tri)×(List Tri)×(List Tri)):=
 br (a.Op==3) (
 (bF ([(0,a.K)]:List (Int×Int)) 0 a2 m m2 m3 m4).bind fun r_=>
 some (r_.1,r_.2.1,r_.2.2.1,r_.2.2.2)) (
 br (a.Op==4) (
 (bA a.A 1 a3).bind fun r_2=>
 (bA a.B 1 a3).bind fun r_3=>
 br (aK ((r_2++r_3).length) 16) (
 (bF (r_2++r_3) 0 a2 m m2 m3 m4).bind fun r_4=>
 some (r_4.1,r_4.2.1,r_4.2.2.1,r_4.2.2.2)) none) (
 br (a.Op==5) (
 (bA a.A 1 a3).bind fun r_5=>
 (bA a.B 2130706432 a3).bind fun r_6=>
 br (aK ((r_5++r_6).length) 16) (
 (bF (r_5++r_6) 0 a2 m m2 m3 m4).bind fun r_7=>
 some (r_7.1,r_7.2.1,r_7.2.2.1,r_7.2.2.2)) none) (
 br (a.Op==6) (
 (bA a.A 1 a3).bind fun r_8=>
 (atL a3 a.B).bind fun x=>
 (bF r_8 x a2 m m2 m3 m4).bind fun r_9=>
 some (r_9.1,r_9.2.1,r_9.2.2.1,r_9.2.2.2)) (
 br (a.Op==7) (
 (bA a.B 1 a3).bind fun r_10=>
 (bF r_10 0 a2 m m2 m3 m4).bind fun r_11=>
 (bA a.A 1 a3).bind fun r_12=>
 (bF r_12 0 a2 r_11.1 r_11.2.1 r_11.2.2.1 r_11.2.2.2).bind fun r_13=>
 some (r_13.1,r_13.2.1,r_13.2.2.1,r_13.2.2.2)) (
 br (a.Op==8) (
 (bA a.A 1 a3).bind fun r_14=>
 (atL a3 a.A).bind fun x2=>
 (bF r_14 x2 a2 m m2 m3 m4).bind fun r_15=>
 (bA a.A 1 a3).bind fun r_16=>
 (bF r_16 0 a2 r_15.1 r_15.2.1 r_15.2.2.1 r_15.2.2.2).bind fun r_17=>
 some (r_17.1,r_17.2.1,r_17.2.2.1,r_17.2.2.2)) (
 some (m,m2,m3,m4)))))))
theorem Ap {a a2 a3 m m2 m3 m4 r} (h:ji a a2 a3 m m2 m3 m4=some r):Call tab ow 94 [.ptr 0 0 0 1,.agg [I a.Op,I a.A,I a.B,I a.K],I a2,sl eI a3] [⟨4,true,[[I m,.mp 1,.mp 2,.mp 3]]⟩,⟨0,true,[am m2]⟩,⟨0,true,[am m3]⟩,⟨0,true,[am m4]⟩]=some (.tup [],[⟨4,true,[[I r.1,.mp 1,.mp 2,.mp 3]]⟩,⟨0,true,[am r.2.1]⟩,⟨0,true,[am r.2.2.1]⟩,⟨0,true,[am r.2.2.2]⟩]):=by
 rw [al (af:=jh) rfl]
 unfold ji at h
 simp only [jh,sB]
 have d1:= @AW
 have d2:= @wT
 exact go2
end
def oc (t:Tri):ah:=⟨t.1,t.2.1,t.2.2⟩
def jQ (m:List Tri):Option (List ah×List Tri):=
 br (ft m&&decide (m.length<1073741824)) (
 some ((bU (m.filter nzT)).map oc,m)) none
theorem EX {m r} (h:jQ m=some r):Call tab ow 95 [.mp 0] [⟨0,true,[am m]⟩]=some (sl aw r.1,[⟨0,true,[am r.2]⟩]):=by
 unfold jQ at h
 obtain ⟨hb,h⟩:=brg h
 cases h
 rw [As (g:=CM false) rfl]
 exact Sm aw oc rfl (fun _=>rfl) hb
section
theorem tr:mkR 6000 []=rws eI []:=rfl
attribute [local go_sem] tr
theorem tg:mkR 11002 []=rws eI []:=rfl
attribute [local go_sem] tg
theorem tC:mkR 12002 []=rws eI []:=rfl
attribute [local go_sem] tC
def bT (t:Int) (c:List ab) (c2 c3 c4 c5 c7:Int):Int→Option ((Int)⊕((Bool×Int)))
 |c6=>
  (bW (aX.mk c5 c6 c7 ([]:List ah) ([]:List ah) ([]:List ah))).bind fun r_2=>
  br (decide (r_2<(mx (wrap .i64 (c7+1)) t))) (
  some (.inl (wrap .i64 (c6+1)))) (
  some (.inr (decide (r_2<(mx (wrap .i64 (c7+1)) t)),c6)))
abbrev gM (c:List ab) (c2 c3 c4 c5 c7 c6:Int):List (Nat×Blk):=[(1000,⟨1,true,[[sl aY c]]⟩),(1001,⟨6,true,[[I c2,I c3,I c4,.lit (.slice none 0 0),.lit (.slice none 0 0),.lit (.slice none 0 0)]]⟩),(2003,⟨6,true,[[I c5,I c6,I c7,.lit (.slice none 0 0),.lit (.slice none 0 0),.lit (.slice none 0 0)]]⟩)]
abbrev lm (t:Int) (c:List ab) (c2 c3 c4 c5 c7 s:Int):St:=⟨[(1,.ptr 1000 0 0 1),(2,.ptr 1001 0 0 1),(3,.ptr 2003 0 0 1),(4,I t)],gM c c2 c3 c4 c5 c7 s⟩
abbrev lx (t:Int) (c:List ab) (c2 c3 c4 c5 c7:Int):(Bool×Int)→aH×St:=fun e=>(.exit 0,⟨[(1,.ptr 1000 0 0 1),(2,.ptr 1001 0 0 1),(3,.ptr 2003 0 0 1),(4,I t),(29,B e.1)],gM c c2 c3 c4 c5 c7 e.2⟩)
theorem sA {t c c2 c3 c4 c5 c7 s e} (h:Loop (bT t c c2 c3 c4 c5 c7) s=some e):bL tab ow (.close [4001]) kY (lm t c c2 c3 c4 c5 c7 s)=some (lx t c c2 c3 c4 c5 c7 e):=by
 refine lrG (fun s o h=> ?_) h
 simp only [bT] at h
 simp only [lm,lx,gM,kY,kK]
 have d1:= @fV
 exact go2
def bV (t4:List ab) (t5:Int) (c8:List ab) (c9 c10 c11 c12 c13 c14:Int):(List Int)×Int×Int×Int→Option (((List Int)×Int×Int×Int)⊕(((List Int)×Int×Int×Int×Bool)))
 | (l,t2,t3,t6)=>
   br (decide (t6<t5)) (
   (atL t4 t6).bind fun x=>
   br (x.Op==2) (
   br (aK ((l++([t2]:List Int)).length) 8) (
   some (.inl ((l++([t2]:List Int)),(wrap .i64 (t2+1)),t3,(wrap .i64 (t6+1))))) none) (
   br (aK ((l++([t3]:List Int)).length) 8) (
   some (.inl ((l++([t3]:List Int)),t2,(wrap .i64 (t3+1)),(wrap .i64 (t6+1))))) none)) (
   some (.inr (l,t2,t3,t6,decide (t6<t5))))
abbrev gS (c8:List ab) (c9 c10 c11 c12 c13 c14:Int) (l:List Int):List (Nat×Blk):=[(1000,⟨1,true,[[sl aY c8]]⟩),(1001,⟨6,true,[[I c9,I c10,I c11,.lit (.slice none 0 0),.lit (.slice none 0 0),.lit (.slice none 0 0)]]⟩),(2003,⟨6,true,[[I c12,I c13,I c14,.lit (.slice none 0 0),.lit (.slice none 0 0),.lit (.slice none 0 0)]]⟩),(6000,⟨1,false,rws eI l⟩)]
abbrev kP (t4:List ab) (t5:Int) (c8:List ab) (c9 c10 c11 c12 c13 c14:Int) (s:(List Int)×Int×Int×Int):St:=⟨[(1,.ptr 1000 0 0 1),(2,.ptr 1001 0 0 1),(3,.ptr 2003 0 0 1),(5,.sl 6000 0 s.1.length),(6,I s.2.1),(7,I s.2.2.1),(38,sl aY t4),(39,I t5),(40,I s.2.2.2)],gS c8 c9 c10 c11 c12 c13 c14 s.1⟩
abbrev lr (t4:List ab) (t5:Int) (c8:List ab) (c9 c10 c11 c12 c13 c14:Int):((List Int)×Int×Int×Int×Bool)→aH×St:=fun e=>(.exit 2,⟨[(1,.ptr 1000 0 0 1),(2,.ptr 1001 0 0 1),(3,.ptr 2003 0 0 1),(5,.sl 6000 0 e.1.length),(6,I e.2.1),(7,I e.2.2.1),(38,sl aY t4),(39,I t5),(40,I e.2.2.2.1),(41,B e.2.2.2.2)],gS c8 c9 c10 c11 c12 c13 c14 e.1⟩)
theorem sn {t4 t5 c8 c9 c10 c11 c12 c13 c14 s e} (h:Loop (bV t4 t5 c8 c9 c10 c11 c12 c13 c14) s=some e):bL tab ow (.close [9002,11002,11003,12002,12003]) kL (kP t4 t5 c8 c9 c10 c11 c12 c13 c14 s)=some (lr t4 t5 c8 c9 c10 c11 c12 c13 c14 e):=by
 refine lrG (fun s o h=> ?_) h
 obtain ⟨_,_,_,_⟩:=s
 simp only [bV] at h
 simp only [kP,lr,gS,kL,ly]
 exact go2
def cB (l2:List Int) (t7:List ab) (t8:Int) (c15:List ab) (c16 c17 c18 c19 c20 c21:Int):(List Tri)×(List Tri)×(List Tri)×Int×Int→Option (((List Tri)×(List Tri)×(List Tri)×Int×Int)⊕(((List Tri)×(List Tri)×(List Tri)×Int×Bool×Int)))
 | (m,m2,m3,t9,c22)=>
   br (decide (t9<t8)) (
   (atL t7 t9).bind fun x2=>
   br (decide (0≤t9)) (
   br (decide (t9.toNat<l2.length)) (
   (l2[t9.toNat]?).bind fun x3=>
   (ji x2 x3 l2 c22 m m2 m3).bind fun r_4=>
   some (.inl (r_4.2.1,r_4.2.2.1,r_4.2.2.2,(wrap .i64 (t9+1)),r_4.1))) none) none) (
   some (.inr (m,m2,m3,t9,decide (t9<t8),c22)))
abbrev gX (l2:List Int) (c15:List ab) (c16 c17 c18 c19 c20 c21:Int) (m m2 m3:List Tri) (c22:Int):List (Nat×Blk):=[(1000,⟨1,true,[[sl aY c15]]⟩),(1001,⟨6,true,[[I c16,I c17,I c18,.lit (.slice none 0 0),.lit (.slice none 0 0),.lit (.slice none 0 0)]]⟩),(2003,⟨6,true,[[I c19,I c20,I c21,.lit (.slice none 0 0),.lit (.slice none 0 0),.lit (.slice none 0 0)]]⟩),(6000,⟨1,false,rws eI l2⟩),(14000,⟨0,true,[am m]⟩),(14001,⟨0,true,[am m2]⟩),(14002,⟨0,true,[am m3]⟩),(14004,⟨4,true,[[I c22,.mp 14000,.mp 14001,.mp 14002]]⟩)]
abbrev kW (l2:List Int) (t7:List ab) (t8:Int) (c15:List ab) (c16 c17 c18 c19 c20 c21:Int) (s:(List Tri)×(List Tri)×(List Tri)×Int×Int):St:=⟨[(2,.ptr 1001 0 0 1),(3,.ptr 2003 0 0 1),(5,.sl 6000 0 l2.length),(10,.ptr 14004 0 0 1),(66,sl aY t7),(67,I t8),(68,I s.2.2.2.1)],gX l2 c15 c16 c17 c18 c19 c20 c21 s.1 s.2.1 s.2.2.1 s.2.2.2.2⟩
abbrev kQ (l2:List Int) (t7:List ab) (t8:Int) (c15:List ab) (c16 c17 c18 c19 c20 c21:Int):((List Tri)×(List Tri)×(List Tri)×Int×Bool×Int)→aH×St:=fun e=>(.exit 4,⟨[(2,.ptr 1001 0 0 1),(3,.ptr 2003 0 0 1),(5,.sl 6000 0 l2.length),(10,.ptr 14004 0 0 1),(66,sl aY t7),(67,I t8),(68,I e.2.2.2.1),(69,B e.2.2.2.2.1)],gX l2 c15 c16 c17 c18 c19 c20 c21 e.1 e.2.1 e.2.2.1 e.2.2.2.2.2⟩)
theorem sg {l2 t7 t8 c15 c16 c17 c18 c19 c20 c21 s e} (h:Loop (cB l2 t7 t8 c15 c16 c17 c18 c19 c20 c21) s=some e):bL tab ow (.close [17003,18007]) jF (kW l2 t7 t8 c15 c16 c17 c18 c19 c20 c21 s)=some (kQ l2 t7 t8 c15 c16 c17 c18 c19 c20 c21 e):=by
 refine lrG (fun s o h=> ?_) h
 obtain ⟨_,_,_,_,_⟩:=s
 simp only [cB] at h
 simp only [kW,kQ,gX,jF,jC]
 have d1:= @Ap
 exact go2
def dZ (l3:List Int) (m4 m5 m6:List Tri) (t10:List ab) (t11 t12:Int) (t13:Bool) (c23:List ab) (c24 c25 c26 c28 c29 c30:Int):Int→Option ((Int)⊕((Bool×Int)))
 |c27=>
  br (decide (0≤c27)) (
  br (decide ((bo .i64 1 c27)<c30)) (
  some (.inl (wrap .i64 (c27+1)))) (
  some (.inr (decide ((bo .i64 1 c27)<c30),c27)))) none
abbrev hG (l3:List Int) (m4 m5 m6:List Tri) (c23:List ab) (c24 c25 c26 c28 c29 c30 c27:Int):List (Nat×Blk):=[(1000,⟨1,true,[[sl aY c23]]⟩),(1001,⟨6,true,[[I c24,I c25,I c26,.lit (.slice none 0 0),.lit (.slice none 0 0),.lit (.slice none 0 0)]]⟩),(2003,⟨6,true,[[I c27,I c28,I c29,.lit (.slice none 0 0),.lit (.slice none 0 0),.lit (.slice none 0 0)]]⟩),(6000,⟨1,false,rws eI l3⟩),(14000,⟨0,true,[am m4]⟩),(14001,⟨0,true,[am m5]⟩),(14002,⟨0,true,[am m6]⟩),(14004,⟨4,true,[[I c30,.mp 14000,.mp 14001,.mp 14002]]⟩)]
abbrev li (l3:List Int) (m4 m5 m6:List Tri) (t10:List ab) (t11 t12:Int) (t13:Bool) (c23:List ab) (c24 c25 c26 c28 c29 c30 s:Int):St:=⟨[(2,.ptr 1001 0 0 1),(3,.ptr 2003 0 0 1),(5,.sl 6000 0 l3.length),(10,.ptr 14004 0 0 1),(66,sl aY t10),(67,I t11),(68,I t12),(69,B t13)],hG l3 m4 m5 m6 c23 c24 c25 c26 c28 c29 c30 s⟩
abbrev kV (l3:List Int) (m4 m5 m6:List Tri) (t10:List ab) (t11 t12:Int) (t13:Bool) (c23:List ab) (c24 c25 c26 c28 c29 c30:Int):(Bool×Int)→aH×St:=fun e=>(.exit 6,⟨[(2,.ptr 1001 0 0 1),(3,.ptr 2003 0 0 1),(5,.sl 6000 0 l3.length),(10,.ptr 14004 0 0 1),(66,sl aY t10),(67,I t11),(68,I t12),(69,B t13),(89,B e.1)],hG l3 m4 m5 m6 c23 c24 c25 c26 c28 c29 c30 e.2⟩)
theorem sO {l3 m4 m5 m6 t10 t11 t12 t13 c23 c24 c25 c26 c28 c29 c30 s e} (h:Loop (dZ l3 m4 m5 m6 t10 t11 t12 t13 c23 c24 c25 c26 c28 c29 c30) s=some e):bL tab ow (.close []) jE (li l3 m4 m5 m6 t10 t11 t12 t13 c23 c24 c25 c26 c28 c29 c30 s)=some (kV l3 m4 m5 m6 t10 t11 t12 t13 c23 c24 c25 c26 c28 c29 c30 e):=by
 refine lrG (fun s o h=> ?_) h
 simp only [dZ] at h
 simp only [li,kV,hG,jE,jL]
 exact go2
def eX (ListtoArray:Circuit):Option (aX):=
 (cj ListtoArray 2).bind fun r_=>
 (Loop (bT (wrap .i64 (((ListtoArray.Gates.length:Nat):Int)-r_)) ListtoArray.Gates 0 0 0 1 r_) 2).bind fun e_=>
 (bW (aX.mk 1 e_.2 r_ ([]:List ah) ([]:List ah) ([]:List ah))).bind fun r_3=>
 (Loop (bV ListtoArray.Gates ((ListtoArray.Gates.length:Nat):Int) ListtoArray.Gates 0 0 0 1 e_.2 r_) (([]:List Int),1,r_3,0)).bind fun e_2=>
 (Loop (cB e_2.1 ListtoArray.Gates ((ListtoArray.Gates.length:Nat):Int) ListtoArray.Gates 0 0 0 1 e_.2 r_) (([]:List Tri),([]:List Tri),([]:List Tri),0,0)).bind fun e_3=>
 (Loop (dZ e_2.1 e_3.1 e_3.2.1 e_3.2.2.1 ListtoArray.Gates ((ListtoArray.Gates.length:Nat):Int) e_3.2.2.2.1 e_3.2.2.2.2.1 ListtoArray.Gates 0 0 0 e_.2 r_ e_3.2.2.2.2.2) 1).bind fun e_4=>
 (jQ e_3.1).bind fun r_5=>
 (jQ e_3.2.1).bind fun r_6=>
 (jQ e_3.2.2.1).bind fun r_7=>
 some (aX.mk e_4.2 e_.2 r_ r_5.1 r_6.1 r_7.1)
theorem uB {ListtoArray r} (h:eX ListtoArray=some r):Call tab ow 43 [.agg [sl aY ListtoArray.Gates]] []=some (.agg [I r.Rows,I r.Cols,I r.Publics,sl aw r.A,sl aw r.B,sl aw r.C],[]):=by
 rw [al (af:=fG) rfl]
 unfold eX at h
 simp only [fG,cX]
 have d1:= @ib
 have d2:= @sA
 have d3:= @fV
 have d4:= @sn
 have d5:= @sg
 have d6:= @sO
 have d7:= @EX
 exact go2
end
def nD (c:Circuit):Option (aX×Int):=
 (iR c).bind fun r_=>
 br (!r_) (
 some ((aX.mk 0 0 0 ([]:List ah) ([]:List ah) ([]:List ah)),19)) (
 (eX c).bind fun r_2=>
 some (r_2,0))
theorem De {c r} (h:nD c=some r):Call tab ow 10 [.agg [sl aY c.Gates]] []=some (.tup [.agg [I r.1.Rows,I r.1.Cols,I r.1.Publics,sl aw r.1.A,sl aw r.1.B,sl aw r.1.C],I r.2],[]):=by
 rw [al (af:=mH) rfl]
 unfold nD at h
 simp only [mH,vc]
 have d1:= @tL
 have d2:= @uB
 exact go2
def o5 (code:(List UInt8)):Option (aA):=
 some (aA.mk code 0 (((code.length:Nat):Int).tmod 1000))
theorem B7 {code r} (h:o5 code=some r):Call tab ow 49 [sl eU8 code] []=some (.ptr 0 0 0 1,[⟨3,true,[[sl eU8 r.code,I r.at_,I r.seed]]⟩]):=by
 rw [al (af:=kA) rfl]
 unfold o5 at h
 simp only [kA,tK]
 exact go2
def dz (m:aA):Option (Int×aA):=
 br (decide ((wrap .i64 (m.at_+1))≤((m.code.length:Nat):Int))) (
 (atL m.code (wrap .i64 ((wrap .i64 (m.at_+1))-1))).bind fun x=>
 (atL m.code (wrap .i64 ((wrap .i64 (m.at_+1))-1))).bind fun x2=>
 some ((wrap .i64 (x2.toNat:Int)),(aA.mk m.code (wrap .i64 (m.at_+1)) ((wrap .i64 ((wrap .i64 ((wrap .i64 (m.seed*31))+(wrap .i64 (x.toNat:Int))))+7)).tmod 2147483648)))) (
 br (decide ((wrap .i64 (m.at_+1))>3000)) (
 some (0,(aA.mk m.code (wrap .i64 (m.at_+1)) m.seed))) (
 some (((wrap .i64 (((wrap .i64 ((wrap .i64 (m.seed*1103515245))+12345)).tmod 2147483648).tdiv 65536)).tmod 256),(aA.mk m.code (wrap .i64 (m.at_+1)) ((wrap .i64 ((wrap .i64 (m.seed*1103515245))+12345)).tmod 2147483648)))))
theorem xU {m r} (h:dz m=some r):Call tab ow 136 [.ptr 0 0 0 1] [⟨3,true,[[sl eU8 m.code,I m.at_,I m.seed]]⟩]=some (I r.1,[⟨3,true,[[sl eU8 r.2.code,I r.2.at_,I r.2.seed]]⟩]):=by
 rw [al (af:=iD) rfl]
 unfold dz at h
 simp only [iD,re]
 exact go2
def aa (n:Int) (m:aA):Option (Int×aA):=
 br (decide (n≤1)) (
 some (0,m)) (
 br (decide (n≤256)) (
 (dz m).bind fun r_=>
 br (decide (n≠0)) (
 some ((r_.1.tmod n),r_.2)) none) (
 (dz m).bind fun r_2=>
 (dz r_2.2).bind fun r_3=>
 (dz r_3.2).bind fun r_4=>
 br (decide (n≠0)) (
 some (((wrap .i64 ((wrap .i64 ((wrap .i64 (r_2.1*65536))+(wrap .i64 (r_3.1*256))))+r_4.1)).tmod n),r_4.2)) none))
theorem bX {n m r} (h:aa n m=some r):Call tab ow 98 [.ptr 0 0 0 1,I n] [⟨3,true,[[sl eU8 m.code,I m.at_,I m.seed]]⟩]=some (I r.1,[⟨3,true,[[sl eU8 r.2.code,I r.2.at_,I r.2.seed]]⟩]):=by
 rw [al (af:=iI) rfl]
 unfold aa at h
 simp only [iI,qN]
 have d1:= @xU
 exact go2
def aL (n:Int) (m:aA):Option (Bool×aA):=
 (aa n m).bind fun r_=>
 some ((r_.1==(wrap .i64 (n-1))),r_.2)
theorem cK {n m r} (h:aL n m=some r):Call tab ow 99 [.ptr 0 0 0 1,I n] [⟨3,true,[[sl eU8 m.code,I m.at_,I m.seed]]⟩]=some (B r.1,[⟨3,true,[[sl eU8 r.2.code,I r.2.at_,I r.2.seed]]⟩]):=by
 rw [al (af:=gp) rfl]
 unfold aL at h
 simp only [gp,oe]
 have d1:= @bX
 exact go2
def cY:Int×Int×(List UInt8)×Int×Int→Option ((Int×Int×(List UInt8)×Int×Int)⊕((Int×Int×Bool×(List UInt8)×Int×Int)))
 | (n,i,c,c2,c3)=>
   br (decide (i<5)) (
   (aa 256 (aA.mk c c2 c3)).bind fun r_4=>
   some (.inl (((wrap .i64 ((wrap .i64 (n*256))+r_4.1)).tmod 2130706433),(wrap .i64 (i+1)),r_4.2.code,r_4.2.at_,r_4.2.seed))) (
   some (.inr (n,i,decide (i<5),c,c2,c3)))
abbrev ni (s:Int×Int×(List UInt8)×Int×Int):St:=⟨[(0,.ptr 0 0 0 1),(3,I s.1),(4,I s.2.1)],[(0,⟨3,true,[[sl eU8 s.2.2.1,I s.2.2.2.1,I s.2.2.2.2]]⟩)]⟩
abbrev nq:(Int×Int×Bool×(List UInt8)×Int×Int)→aH×St:=fun e=>(.exit 1,⟨[(0,.ptr 0 0 0 1),(3,I e.1),(4,I e.2.1),(17,B e.2.2.1)],[(0,⟨3,true,[[sl eU8 e.2.2.2.1,I e.2.2.2.2.1,I e.2.2.2.2.2]]⟩)]⟩)
theorem v6 { s e} (h:Loop (cY) s=some e):bL tab ow (.close [11003]) mU (ni s)=some (nq e):=by
 refine lrG (fun s o h=> ?_) h
 obtain ⟨_,_,_,_,_⟩:=s
 simp only [cY] at h
 simp only [ni,nq,mU,np]
 have d1:= @bX
 exact go2
def ai (m:aA):Option (Int×aA):=
 (aa 5 m).bind fun r_=>
 br (r_.1==0) (
 (aa 4 r_.2).bind fun r_2=>
 some (r_2.1,r_2.2)) (
 br (r_.1==1) (
 (aa 3 r_.2).bind fun r_3=>
 some ((wrap .i64 (2130706432-r_3.1)),r_3.2)) (
 (Loop (cY) (0,0,r_.2.code,r_.2.at_,r_.2.seed)).bind fun e_=>
 some (e_.1,(aA.mk e_.2.2.2.1 e_.2.2.2.2.1 e_.2.2.2.2.2))))
theorem fk {m r} (h:ai m=some r):Call tab ow 101 [.ptr 0 0 0 1] [⟨3,true,[[sl eU8 m.code,I m.at_,I m.seed]]⟩]=some (I r.1,[⟨3,true,[[sl eU8 r.2.code,I r.2.at_,I r.2.seed]]⟩]):=by
 rw [al (af:=i5) rfl]
 unfold ai at h
 simp only [i5,jS]
 have d1:= @bX
 have d2:= @v6
 exact go2
end
end Go.AI.Fn
set_option linter.unusedVariables false
set_option linter.unusedSimpArgs false
set_option maxRecDepth 100000
set_option maxHeartbeats 1000000
namespace Go.AI.Fn
noncomputable section
open IntKind (wrap)
section
theorem tk:mkR 2000 []=rws aY []:=rfl
attribute [local go_sem] tk
theorem tv:mkR 22003 []=rws aY []:=rfl
attribute [local go_sem] tv
theorem tz:mkR 21002 []=rws eI []:=rfl
attribute [local go_sem] tz
def dd (t:Int):(List ab)×Int×(List UInt8)×Int×Int→Option (((List ab)×Int×(List UInt8)×Int×Int)⊕(((List ab)×Int×Bool×(List UInt8)×Int×Int)))
 | (l,t2,c,c2,c3)=>
   br (decide (t2<t)) (
   (aa 8 (aA.mk c c2 c3)).bind fun r_2=>
   br (t2==0) (
   (aa 3 r_2.2).bind fun r_3=>
   br ((wrap .i64 (1+r_3.1))==2) (
   (eC (Circuit.mk l) 2).bind fun r_4=>
   br (r_4==3) (
   (cW 1).bind fun r_5=>
   br (r_5==2) (
   (aa t2 r_3.2).bind fun r_6=>
   (aa t2 r_6.2).bind fun r_7=>
   br (aK ((l++([(ab.mk 1 r_6.1 r_7.1 0)]:List ab)).length) 32) (
   some (.inl ((l++([(ab.mk 1 r_6.1 r_7.1 0)]:List ab)),(wrap .i64 (t2+1)),r_7.2.code,r_7.2.at_,r_7.2.seed))) none) (
   br (r_5==1) (
   (aa t2 r_3.2).bind fun r_8=>
   br (aK ((l++([(ab.mk 1 r_8.1 0 0)]:List ab)).length) 32) (
   some (.inl ((l++([(ab.mk 1 r_8.1 0 0)]:List ab)),(wrap .i64 (t2+1)),r_8.2.code,r_8.2.at_,r_8.2.seed))) none) (
   br (aK ((l++([(ab.mk 1 0 0 0)]:List ab)).length) 32) (
   some (.inl ((l++([(ab.mk 1 0 0 0)]:List ab)),(wrap .i64 (t2+1)),r_3.2.code,r_3.2.at_,r_3.2.seed))) none))) (
   (cW (wrap .i64 (1+r_3.1))).bind fun r_9=>
   br (r_9==2) (
   (aa t2 r_3.2).bind fun r_10=>
   (aa t2 r_10.2).bind fun r_11=>
   br ((wrap .i64 (1+r_3.1))==7) (
   (aL 5 r_11.2).bind fun r_12=>
   br (!r_12.1) (
   br ((wrap .i64 (1+r_3.1))==3) (
   (ai r_12.2).bind fun r_13=>
   (aa 3 r_13.2).bind fun r_14=>
   br (decide (0≤r_14.1)) (
   br (decide (r_14.1.toNat<([0,1,r_13.1]:List Int).length)) (
   (([0,1,r_13.1]:List Int)[r_14.1.toNat]?).bind fun x=>
   br (aK ((l++([(ab.mk (wrap .i64 (1+r_3.1)) r_10.1 r_10.1 x)]:List ab)).length) 32) (
   some (.inl ((l++([(ab.mk (wrap .i64 (1+r_3.1)) r_10.1 r_10.1 x)]:List ab)),(wrap .i64 (t2+1)),r_14.2.code,r_14.2.at_,r_14.2.seed))) none) none) none) (
   br (aK ((l++([(ab.mk (wrap .i64 (1+r_3.1)) r_10.1 r_10.1 0)]:List ab)).length) 32) (
   some (.inl ((l++([(ab.mk (wrap .i64 (1+r_3.1)) r_10.1 r_10.1 0)]:List ab)),(wrap .i64 (t2+1)),r_12.2.code,r_12.2.at_,r_12.2.seed))) none)) (
   br ((wrap .i64 (1+r_3.1))==3) (
   (ai r_12.2).bind fun r_15=>
   (aa 3 r_15.2).bind fun r_16=>
   br (decide (0≤r_16.1)) (
   br (decide (r_16.1.toNat<([0,1,r_15.1]:List Int).length)) (
   (([0,1,r_15.1]:List Int)[r_16.1.toNat]?).bind fun x2=>
   br (aK ((l++([(ab.mk (wrap .i64 (1+r_3.1)) r_10.1 r_11.1 x2)]:List ab)).length) 32) (
   some (.inl ((l++([(ab.mk (wrap .i64 (1+r_3.1)) r_10.1 r_11.1 x2)]:List ab)),(wrap .i64 (t2+1)),r_16.2.code,r_16.2.at_,r_16.2.seed))) none) none) none) (
   br (aK ((l++([(ab.mk (wrap .i64 (1+r_3.1)) r_10.1 r_11.1 0)]:List ab)).length) 32) (
   some (.inl ((l++([(ab.mk (wrap .i64 (1+r_3.1)) r_10.1 r_11.1 0)]:List ab)),(wrap .i64 (t2+1)),r_12.2.code,r_12.2.at_,r_12.2.seed))) none))) (
   br ((wrap .i64 (1+r_3.1))==3) (
   (ai r_11.2).bind fun r_17=>
   (aa 3 r_17.2).bind fun r_18=>
   br (decide (0≤r_18.1)) (
   br (decide (r_18.1.toNat<([0,1,r_17.1]:List Int).length)) (
   (([0,1,r_17.1]:List Int)[r_18.1.toNat]?).bind fun x3=>
   br (aK ((l++([(ab.mk (wrap .i64 (1+r_3.1)) r_10.1 r_11.1 x3)]:List ab)).length) 32) (
   some (.inl ((l++([(ab.mk (wrap .i64 (1+r_3.1)) r_10.1 r_11.1 x3)]:List ab)),(wrap .i64 (t2+1)),r_18.2.code,r_18.2.at_,r_18.2.seed))) none) none) none) (
   br (aK ((l++([(ab.mk (wrap .i64 (1+r_3.1)) r_10.1 r_11.1 0)]:List ab)).length) 32) (
   some (.inl ((l++([(ab.mk (wrap .i64 (1+r_3.1)) r_10.1 r_11.1 0)]:List ab)),(wrap .i64 (t2+1)),r_11.2.code,r_11.2.at_,r_11.2.seed))) none))) (
   br (r_9==1) (
   (aa t2 r_3.2).bind fun r_19=>
   br ((wrap .i64 (1+r_3.1))==3) (
   (ai r_19.2).bind fun r_20=>
   (aa 3 r_20.2).bind fun r_21=>
   br (decide (0≤r_21.1)) (
   br (decide (r_21.1.toNat<([0,1,r_20.1]:List Int).length)) (
   (([0,1,r_20.1]:List Int)[r_21.1.toNat]?).bind fun x4=>
   br (aK ((l++([(ab.mk (wrap .i64 (1+r_3.1)) r_19.1 0 x4)]:List ab)).length) 32) (
   some (.inl ((l++([(ab.mk (wrap .i64 (1+r_3.1)) r_19.1 0 x4)]:List ab)),(wrap .i64 (t2+1)),r_21.2.code,r_21.2.at_,r_21.2.seed))) none) none) none) (
   br (aK ((l++([(ab.mk (wrap .i64 (1+r_3.1)) r_19.1 0 0)]:List ab)).length) 32) (
   some (.inl ((l++([(ab.mk (wrap .i64 (1+r_3.1)) r_19.1 0 0)]:List ab)),(wrap .i64 (t2+1)),r_19.2.code,r_19.2.at_,r_19.2.seed))) none)) (
   br ((wrap .i64 (1+r_3.1))==3) (
   (ai r_3.2).bind fun r_22=>
   (aa 3 r_22.2).bind fun r_23=>
   br (decide (0≤r_23.1)) (
   br (decide (r_23.1.toNat<([0,1,r_22.1]:List Int).length)) (
   (([0,1,r_22.1]:List Int)[r_23.1.toNat]?).bind fun x5=>
   br (aK ((l++([(ab.mk (wrap .i64 (1+r_3.1)) 0 0 x5)]:List ab)).length) 32) (
   some (.inl ((l++([(ab.mk (wrap .i64 (1+r_3.1)) 0 0 x5)]:List ab)),(wrap .i64 (t2+1)),r_23.2.code,r_23.2.at_,r_23.2.seed))) none) none) none) (
   br (aK ((l++([(ab.mk (wrap .i64 (1+r_3.1)) 0 0 0)]:List ab)).length) 32) (
   some (.inl ((l++([(ab.mk (wrap .i64 (1+r_3.1)) 0 0 0)]:List ab)),(wrap .i64 (t2+1)),r_3.2.code,r_3.2.at_,r_3.2.seed))) none))))) (
   (cW (wrap .i64 (1+r_3.1))).bind fun r_24=>
   br (r_24==2) (
   (aa t2 r_3.2).bind fun r_25=>
   (aa t2 r_25.2).bind fun r_26=>
   br ((wrap .i64 (1+r_3.1))==7) (
   (aL 5 r_26.2).bind fun r_27=>
   br (!r_27.1) (
   br ((wrap .i64 (1+r_3.1))==3) (
   (ai r_27.2).bind fun r_28=>
   (aa 3 r_28.2).bind fun r_29=>
   br (decide (0≤r_29.1)) (
   br (decide (r_29.1.toNat<([0,1,r_28.1]:List Int).length)) (
   (([0,1,r_28.1]:List Int)[r_29.1.toNat]?).bind fun x6=>
   br (aK ((l++([(ab.mk (wrap .i64 (1+r_3.1)) r_25.1 r_25.1 x6)]:List ab)).length) 32) (
   some (.inl ((l++([(ab.mk (wrap .i64 (1+r_3.1)) r_25.1 r_25.1 x6)]:List ab)),(wrap .i64 (t2+1)),r_29.2.code,r_29.2.at_,r_29.2.seed))) none) none) none) (
   br (aK ((l++([(ab.mk (wrap .i64 (1+r_3.1)) r_25.1 r_25.1 0)]:List ab)).length) 32) (
   some (.inl ((l++([(ab.mk (wrap .i64 (1+r_3.1)) r_25.1 r_25.1 0)]:List ab)),(wrap .i64 (t2+1)),r_27.2.code,r_27.2.at_,r_27.2.seed))) none)) (
   br ((wrap .i64 (1+r_3.1))==3) (
   (ai r_27.2).bind fun r_30=>
   (aa 3 r_30.2).bind fun r_31=>
   br (decide (0≤r_31.1)) (
   br (decide (r_31.1.toNat<([0,1,r_30.1]:List Int).length)) (
   (([0,1,r_30.1]:List Int)[r_31.1.toNat]?).bind fun x7=>
   br (aK ((l++([(ab.mk (wrap .i64 (1+r_3.1)) r_25.1 r_26.1 x7)]:List ab)).length) 32) (
   some (.inl ((l++([(ab.mk (wrap .i64 (1+r_3.1)) r_25.1 r_26.1 x7)]:List ab)),(wrap .i64 (t2+1)),r_31.2.code,r_31.2.at_,r_31.2.seed))) none) none) none) (
   br (aK ((l++([(ab.mk (wrap .i64 (1+r_3.1)) r_25.1 r_26.1 0)]:List ab)).length) 32) (
   some (.inl ((l++([(ab.mk (wrap .i64 (1+r_3.1)) r_25.1 r_26.1 0)]:List ab)),(wrap .i64 (t2+1)),r_27.2.code,r_27.2.at_,r_27.2.seed))) none))) (
   br ((wrap .i64 (1+r_3.1))==3) (
   (ai r_26.2).bind fun r_32=>
   (aa 3 r_32.2).bind fun r_33=>
   br (decide (0≤r_33.1)) (
   br (decide (r_33.1.toNat<([0,1,r_32.1]:List Int).length)) (
   (([0,1,r_32.1]:List Int)[r_33.1.toNat]?).bind fun x8=>
   br (aK ((l++([(ab.mk (wrap .i64 (1+r_3.1)) r_25.1 r_26.1 x8)]:List ab)).length) 32) (
   some (.inl ((l++([(ab.mk (wrap .i64 (1+r_3.1)) r_25.1 r_26.1 x8)]:List ab)),(wrap .i64 (t2+1)),r_33.2.code,r_33.2.at_,r_33.2.seed))) none) none) none) (
   br (aK ((l++([(ab.mk (wrap .i64 (1+r_3.1)) r_25.1 r_26.1 0)]:List ab)).length) 32) (
   some (.inl ((l++([(ab.mk (wrap .i64 (1+r_3.1)) r_25.1 r_26.1 0)]:List ab)),(wrap .i64 (t2+1)),r_26.2.code,r_26.2.at_,r_26.2.seed))) none))) (
   br (r_24==1) (
   (aa t2 r_3.2).bind fun r_34=>
   br ((wrap .i64 (1+r_3.1))==3) (
   (ai r_34.2).bind fun r_35=>
   (aa 3 r_35.2).bind fun r_36=>
   br (decide (0≤r_36.1)) (
   br (decide (r_36.1.toNat<([0,1,r_35.1]:List Int).length)) (
   (([0,1,r_35.1]:List Int)[r_36.1.toNat]?).bind fun x9=>
   br (aK ((l++([(ab.mk (wrap .i64 (1+r_3.1)) r_34.1 0 x9)]:List ab)).length) 32) (
   some (.inl ((l++([(ab.mk (wrap .i64 (1+r_3.1)) r_34.1 0 x9)]:List ab)),(wrap .i64 (t2+1)),r_36.2.code,r_36.2.at_,r_36.2.seed))) none) none) none) (
   br (aK ((l++([(ab.mk (wrap .i64 (1+r_3.1)) r_34.1 0 0)]:List ab)).length) 32) (
   some (.inl ((l++([(ab.mk (wrap .i64 (1+r_3.1)) r_34.1 0 0)]:List ab)),(wrap .i64 (t2+1)),r_34.2.code,r_34.2.at_,r_34.2.seed))) none)) (
   br ((wrap .i64 (1+r_3.1))==3) (
   (ai r_3.2).bind fun r_37=>
   (aa 3 r_37.2).bind fun r_38=>
   br (decide (0≤r_38.1)) (
   br (decide (r_38.1.toNat<([0,1,r_37.1]:List Int).length)) (
   (([0,1,r_37.1]:List Int)[r_38.1.toNat]?).bind fun x10=>
   br (aK ((l++([(ab.mk (wrap .i64 (1+r_3.1)) 0 0 x10)]:List ab)).length) 32) (
   some (.inl ((l++([(ab.mk (wrap .i64 (1+r_3.1)) 0 0 x10)]:List ab)),(wrap .i64 (t2+1)),r_38.2.code,r_38.2.at_,r_38.2.seed))) none) none) none) (
   br (aK ((l++([(ab.mk (wrap .i64 (1+r_3.1)) 0 0 0)]:List ab)).length) 32) (
   some (.inl ((l++([(ab.mk (wrap .i64 (1+r_3.1)) 0 0 0)]:List ab)),(wrap .i64 (t2+1)),r_3.2.code,r_3.2.at_,r_3.2.seed))) none))))) (
   (aL 3 r_2.2).bind fun r_39=>
   br r_39.1 (
   (aa 3 r_39.2).bind fun r_40=>
   br ((wrap .i64 (1+r_40.1))==2) (
   (eC (Circuit.mk l) 2).bind fun r_41=>
   br (r_41==3) (
   (cW 1).bind fun r_42=>
   br (r_42==2) (
   (aa t2 r_40.2).bind fun r_43=>
   (aa t2 r_43.2).bind fun r_44=>
   br (aK ((l++([(ab.mk 1 r_43.1 r_44.1 0)]:List ab)).length) 32) (
   some (.inl ((l++([(ab.mk 1 r_43.1 r_44.1 0)]:List ab)),(wrap .i64 (t2+1)),r_44.2.code,r_44.2.at_,r_44.2.seed))) none) (
   br (r_42==1) (
   (aa t2 r_40.2).bind fun r_45=>
   br (aK ((l++([(ab.mk 1 r_45.1 0 0)]:List ab)).length) 32) (
   some (.inl ((l++([(ab.mk 1 r_45.1 0 0)]:List ab)),(wrap .i64 (t2+1)),r_45.2.code,r_45.2.at_,r_45.2.seed))) none) (
   br (aK ((l++([(ab.mk 1 0 0 0)]:List ab)).length) 32) (
   some (.inl ((l++([(ab.mk 1 0 0 0)]:List ab)),(wrap .i64 (t2+1)),r_40.2.code,r_40.2.at_,r_40.2.seed))) none))) (
   (cW (wrap .i64 (1+r_40.1))).bind fun r_46=>
   br (r_46==2) (
   (aa t2 r_40.2).bind fun r_47=>
   (aa t2 r_47.2).bind fun r_48=>
   br ((wrap .i64 (1+r_40.1))==7) (
   (aL 5 r_48.2).bind fun r_49=>
   br (!r_49.1) (
   br ((wrap .i64 (1+r_40.1))==3) (
   (ai r_49.2).bind fun r_50=>
   (aa 3 r_50.2).bind fun r_51=>
   br (decide (0≤r_51.1)) (
   br (decide (r_51.1.toNat<([0,1,r_50.1]:List Int).length)) (
   (([0,1,r_50.1]:List Int)[r_51.1.toNat]?).bind fun x11=>
   br (aK ((l++([(ab.mk (wrap .i64 (1+r_40.1)) r_47.1 r_47.1 x11)]:List ab)).length) 32) (
   some (.inl ((l++([(ab.mk (wrap .i64 (1+r_40.1)) r_47.1 r_47.1 x11)]:List ab)),(wrap .i64 (t2+1)),r_51.2.code,r_51.2.at_,r_51.2.seed))) none) none) none) (
   br (aK ((l++([(ab.mk (wrap .i64 (1+r_40.1)) r_47.1 r_47.1 0)]:List ab)).length) 32) (
   some (.inl ((l++([(ab.mk (wrap .i64 (1+r_40.1)) r_47.1 r_47.1 0)]:List ab)),(wrap .i64 (t2+1)),r_49.2.code,r_49.2.at_,r_49.2.seed))) none)) (
   br ((wrap .i64 (1+r_40.1))==3) (
   (ai r_49.2).bind fun r_52=>
   (aa 3 r_52.2).bind fun r_53=>
   br (decide (0≤r_53.1)) (
   br (decide (r_53.1.toNat<([0,1,r_52.1]:List Int).length)) (
   (([0,1,r_52.1]:List Int)[r_53.1.toNat]?).bind fun x12=>
   br (aK ((l++([(ab.mk (wrap .i64 (1+r_40.1)) r_47.1 r_48.1 x12)]:List ab)).length) 32) (
   some (.inl ((l++([(ab.mk (wrap .i64 (1+r_40.1)) r_47.1 r_48.1 x12)]:List ab)),(wrap .i64 (t2+1)),r_53.2.code,r_53.2.at_,r_53.2.seed))) none) none) none) (
   br (aK ((l++([(ab.mk (wrap .i64 (1+r_40.1)) r_47.1 r_48.1 0)]:List ab)).length) 32) (
   some (.inl ((l++([(ab.mk (wrap .i64 (1+r_40.1)) r_47.1 r_48.1 0)]:List ab)),(wrap .i64 (t2+1)),r_49.2.code,r_49.2.at_,r_49.2.seed))) none))) (
   br ((wrap .i64 (1+r_40.1))==3) (
   (ai r_48.2).bind fun r_54=>
   (aa 3 r_54.2).bind fun r_55=>
   br (decide (0≤r_55.1)) (
   br (decide (r_55.1.toNat<([0,1,r_54.1]:List Int).length)) (
   (([0,1,r_54.1]:List Int)[r_55.1.toNat]?).bind fun x13=>
   br (aK ((l++([(ab.mk (wrap .i64 (1+r_40.1)) r_47.1 r_48.1 x13)]:List ab)).length) 32) (
   some (.inl ((l++([(ab.mk (wrap .i64 (1+r_40.1)) r_47.1 r_48.1 x13)]:List ab)),(wrap .i64 (t2+1)),r_55.2.code,r_55.2.at_,r_55.2.seed))) none) none) none) (
   br (aK ((l++([(ab.mk (wrap .i64 (1+r_40.1)) r_47.1 r_48.1 0)]:List ab)).length) 32) (
   some (.inl ((l++([(ab.mk (wrap .i64 (1+r_40.1)) r_47.1 r_48.1 0)]:List ab)),(wrap .i64 (t2+1)),r_48.2.code,r_48.2.at_,r_48.2.seed))) none))) (
   br (r_46==1) (
   (aa t2 r_40.2).bind fun r_56=>
   br ((wrap .i64 (1+r_40.1))==3) (
   (ai r_56.2).bind fun r_57=>
   (aa 3 r_57.2).bind fun r_58=>
   br (decide (0≤r_58.1)) (
   br (decide (r_58.1.toNat<([0,1,r_57.1]:List Int).length)) (
   (([0,1,r_57.1]:List Int)[r_58.1.toNat]?).bind fun x14=>
   br (aK ((l++([(ab.mk (wrap .i64 (1+r_40.1)) r_56.1 0 x14)]:List ab)).length) 32) (
   some (.inl ((l++([(ab.mk (wrap .i64 (1+r_40.1)) r_56.1 0 x14)]:List ab)),(wrap .i64 (t2+1)),r_58.2.code,r_58.2.at_,r_58.2.seed))) none) none) none) (
   br (aK ((l++([(ab.mk (wrap .i64 (1+r_40.1)) r_56.1 0 0)]:List ab)).length) 32) (
   some (.inl ((l++([(ab.mk (wrap .i64 (1+r_40.1)) r_56.1 0 0)]:List ab)),(wrap .i64 (t2+1)),r_56.2.code,r_56.2.at_,r_56.2.seed))) none)) (
   br ((wrap .i64 (1+r_40.1))==3) (
   (ai r_40.2).bind fun r_59=>
   (aa 3 r_59.2).bind fun r_60=>
   br (decide (0≤r_60.1)) (
   br (decide (r_60.1.toNat<([0,1,r_59.1]:List Int).length)) (
   (([0,1,r_59.1]:List Int)[r_60.1.toNat]?).bind fun x15=>
   br (aK ((l++([(ab.mk (wrap .i64 (1+r_40.1)) 0 0 x15)]:List ab)).length) 32) (
   some (.inl ((l++([(ab.mk (wrap .i64 (1+r_40.1)) 0 0 x15)]:List ab)),(wrap .i64 (t2+1)),r_60.2.code,r_60.2.at_,r_60.2.seed))) none) none) none) (
   br (aK ((l++([(ab.mk (wrap .i64 (1+r_40.1)) 0 0 0)]:List ab)).length) 32) (
   some (.inl ((l++([(ab.mk (wrap .i64 (1+r_40.1)) 0 0 0)]:List ab)),(wrap .i64 (t2+1)),r_40.2.code,r_40.2.at_,r_40.2.seed))) none))))) (
   (cW (wrap .i64 (1+r_40.1))).bind fun r_61=>
   br (r_61==2) (
   (aa t2 r_40.2).bind fun r_62=>
   (aa t2 r_62.2).bind fun r_63=>
   br ((wrap .i64 (1+r_40.1))==7) (
   (aL 5 r_63.2).bind fun r_64=>
   br (!r_64.1) (
   br ((wrap .i64 (1+r_40.1))==3) (
   (ai r_64.2).bind fun r_65=>
   (aa 3 r_65.2).bind fun r_66=>
   br (decide (0≤r_66.1)) (
   br (decide (r_66.1.toNat<([0,1,r_65.1]:List Int).length)) (
   (([0,1,r_65.1]:List Int)[r_66.1.toNat]?).bind fun x16=>
   br (aK ((l++([(ab.mk (wrap .i64 (1+r_40.1)) r_62.1 r_62.1 x16)]:List ab)).length) 32) (
   some (.inl ((l++([(ab.mk (wrap .i64 (1+r_40.1)) r_62.1 r_62.1 x16)]:List ab)),(wrap .i64 (t2+1)),r_66.2.code,r_66.2.at_,r_66.2.seed))) none) none) none) (
   br (aK ((l++([(ab.mk (wrap .i64 (1+r_40.1)) r_62.1 r_62.1 0)]:List ab)).length) 32) (
   some (.inl ((l++([(ab.mk (wrap .i64 (1+r_40.1)) r_62.1 r_62.1 0)]:List ab)),(wrap .i64 (t2+1)),r_64.2.code,r_64.2.at_,r_64.2.seed))) none)) (
   br ((wrap .i64 (1+r_40.1))==3) (
   (ai r_64.2).bind fun r_67=>
   (aa 3 r_67.2).bind fun r_68=>
   br (decide (0≤r_68.1)) (
   br (decide (r_68.1.toNat<([0,1,r_67.1]:List Int).length)) (
   (([0,1,r_67.1]:List Int)[r_68.1.toNat]?).bind fun x17=>
   br (aK ((l++([(ab.mk (wrap .i64 (1+r_40.1)) r_62.1 r_63.1 x17)]:List ab)).length) 32) (
   some (.inl ((l++([(ab.mk (wrap .i64 (1+r_40.1)) r_62.1 r_63.1 x17)]:List ab)),(wrap .i64 (t2+1)),r_68.2.code,r_68.2.at_,r_68.2.seed))) none) none) none) (
   br (aK ((l++([(ab.mk (wrap .i64 (1+r_40.1)) r_62.1 r_63.1 0)]:List ab)).length) 32) (
   some (.inl ((l++([(ab.mk (wrap .i64 (1+r_40.1)) r_62.1 r_63.1 0)]:List ab)),(wrap .i64 (t2+1)),r_64.2.code,r_64.2.at_,r_64.2.seed))) none))) (
   br ((wrap .i64 (1+r_40.1))==3) (
   (ai r_63.2).bind fun r_69=>
   (aa 3 r_69.2).bind fun r_70=>
   br (decide (0≤r_70.1)) (
   br (decide (r_70.1.toNat<([0,1,r_69.1]:List Int).length)) (
   (([0,1,r_69.1]:List Int)[r_70.1.toNat]?).bind fun x18=>
   br (aK ((l++([(ab.mk (wrap .i64 (1+r_40.1)) r_62.1 r_63.1 x18)]:List ab)).length) 32) (
   some (.inl ((l++([(ab.mk (wrap .i64 (1+r_40.1)) r_62.1 r_63.1 x18)]:List ab)),(wrap .i64 (t2+1)),r_70.2.code,r_70.2.at_,r_70.2.seed))) none) none) none) (
   br (aK ((l++([(ab.mk (wrap .i64 (1+r_40.1)) r_62.1 r_63.1 0)]:List ab)).length) 32) (
   some (.inl ((l++([(ab.mk (wrap .i64 (1+r_40.1)) r_62.1 r_63.1 0)]:List ab)),(wrap .i64 (t2+1)),r_63.2.code,r_63.2.at_,r_63.2.seed))) none))) (
   br (r_61==1) (
   (aa t2 r_40.2).bind fun r_71=>
   br ((wrap .i64 (1+r_40.1))==3) (
   (ai r_71.2).bind fun r_72=>
   (aa 3 r_72.2).bind fun r_73=>
   br (decide (0≤r_73.1)) (
   br (decide (r_73.1.toNat<([0,1,r_72.1]:List Int).length)) (
   (([0,1,r_72.1]:List Int)[r_73.1.toNat]?).bind fun x19=>
   br (aK ((l++([(ab.mk (wrap .i64 (1+r_40.1)) r_71.1 0 x19)]:List ab)).length) 32) (
   some (.inl ((l++([(ab.mk (wrap .i64 (1+r_40.1)) r_71.1 0 x19)]:List ab)),(wrap .i64 (t2+1)),r_73.2.code,r_73.2.at_,r_73.2.seed))) none) none) none) (
   br (aK ((l++([(ab.mk (wrap .i64 (1+r_40.1)) r_71.1 0 0)]:List ab)).length) 32) (
   some (.inl ((l++([(ab.mk (wrap .i64 (1+r_40.1)) r_71.1 0 0)]:List ab)),(wrap .i64 (t2+1)),r_71.2.code,r_71.2.at_,r_71.2.seed))) none)) (
   br ((wrap .i64 (1+r_40.1))==3) (
   (ai r_40.2).bind fun r_74=>
   (aa 3 r_74.2).bind fun r_75=>
   br (decide (0≤r_75.1)) (
   br (decide (r_75.1.toNat<([0,1,r_74.1]:List Int).length)) (
   (([0,1,r_74.1]:List Int)[r_75.1.toNat]?).bind fun x20=>
   br (aK ((l++([(ab.mk (wrap .i64 (1+r_40.1)) 0 0 x20)]:List ab)).length) 32) (
   some (.inl ((l++([(ab.mk (wrap .i64 (1+r_40.1)) 0 0 x20)]:List ab)),(wrap .i64 (t2+1)),r_75.2.code,r_75.2.at_,r_75.2.seed))) none) none) none) (
   br (aK ((l++([(ab.mk (wrap .i64 (1+r_40.1)) 0 0 0)]:List ab)).length) 32) (
   some (.inl ((l++([(ab.mk (wrap .i64 (1+r_40.1)) 0 0 0)]:List ab)),(wrap .i64 (t2+1)),r_40.2.code,r_40.2.at_,r_40.2.seed))) none))))) (
   br ((wrap .i64 (1+r_2.1))==2) (
   (eC (Circuit.mk l) 2).bind fun r_76=>
   br (r_76==3) (
   (cW 1).bind fun r_77=>
   br (r_77==2) (
   (aa t2 r_39.2).bind fun r_78=>
   (aa t2 r_78.2).bind fun r_79=>
   br (aK ((l++([(ab.mk 1 r_78.1 r_79.1 0)]:List ab)).length) 32) (
   some (.inl ((l++([(ab.mk 1 r_78.1 r_79.1 0)]:List ab)),(wrap .i64 (t2+1)),r_79.2.code,r_79.2.at_,r_79.2.seed))) none) (
   br (r_77==1) (
   (aa t2 r_39.2).bind fun r_80=>
   br (aK ((l++([(ab.mk 1 r_80.1 0 0)]:List ab)).length) 32) (
   some (.inl ((l++([(ab.mk 1 r_80.1 0 0)]:List ab)),(wrap .i64 (t2+1)),r_80.2.code,r_80.2.at_,r_80.2.seed))) none) (
   br (aK ((l++([(ab.mk 1 0 0 0)]:List ab)).length) 32) (
   some (.inl ((l++([(ab.mk 1 0 0 0)]:List ab)),(wrap .i64 (t2+1)),r_39.2.code,r_39.2.at_,r_39.2.seed))) none))) (
   (cW (wrap .i64 (1+r_2.1))).bind fun r_81=>
   br (r_81==2) (
   (aa t2 r_39.2).bind fun r_82=>
   (aa t2 r_82.2).bind fun r_83=>
   br ((wrap .i64 (1+r_2.1))==7) (
   (aL 5 r_83.2).bind fun r_84=>
   br (!r_84.1) (
   br ((wrap .i64 (1+r_2.1))==3) (
   (ai r_84.2).bind fun r_85=>
   (aa 3 r_85.2).bind fun r_86=>
   br (decide (0≤r_86.1)) (
   br (decide (r_86.1.toNat<([0,1,r_85.1]:List Int).length)) (
   (([0,1,r_85.1]:List Int)[r_86.1.toNat]?).bind fun x21=>
   br (aK ((l++([(ab.mk (wrap .i64 (1+r_2.1)) r_82.1 r_82.1 x21)]:List ab)).length) 32) (
   some (.inl ((l++([(ab.mk (wrap .i64 (1+r_2.1)) r_82.1 r_82.1 x21)]:List ab)),(wrap .i64 (t2+1)),r_86.2.code,r_86.2.at_,r_86.2.seed))) none) none) none) (
   br (aK ((l++([(ab.mk (wrap .i64 (1+r_2.1)) r_82.1 r_82.1 0)]:List ab)).length) 32) (
   some (.inl ((l++([(ab.mk (wrap .i64 (1+r_2.1)) r_82.1 r_82.1 0)]:List ab)),(wrap .i64 (t2+1)),r_84.2.code,r_84.2.at_,r_84.2.seed))) none)) (
   br ((wrap .i64 (1+r_2.1))==3) (
   (ai r_84.2).bind fun r_87=>
   (aa 3 r_87.2).bind fun r_88=>
   br (decide (0≤r_88.1)) (
   br (decide (r_88.1.toNat<([0,1,r_87.1]:List Int).length)) (
   (([0,1,r_87.1]:List Int)[r_88.1.toNat]?).bind fun x22=>
   br (aK ((l++([(ab.mk (wrap .i64 (1+r_2.1)) r_82.1 r_83.1 x22)]:List ab)).length) 32) (
   some (.inl ((l++([(ab.mk (wrap .i64 (1+r_2.1)) r_82.1 r_83.1 x22)]:List ab)),(wrap .i64 (t2+1)),r_88.2.code,r_88.2.at_,r_88.2.seed))) none) none) none) (
   br (aK ((l++([(ab.mk (wrap .i64 (1+r_2.1)) r_82.1 r_83.1 0)]:List ab)).length) 32) (
   some (.inl ((l++([(ab.mk (wrap .i64 (1+r_2.1)) r_82.1 r_83.1 0)]:List ab)),(wrap .i64 (t2+1)),r_84.2.code,r_84.2.at_,r_84.2.seed))) none))) (
   br ((wrap .i64 (1+r_2.1))==3) (
   (ai r_83.2).bind fun r_89=>
   (aa 3 r_89.2).bind fun r_90=>
   br (decide (0≤r_90.1)) (
   br (decide (r_90.1.toNat<([0,1,r_89.1]:List Int).length)) (
   (([0,1,r_89.1]:List Int)[r_90.1.toNat]?).bind fun x23=>
   br (aK ((l++([(ab.mk (wrap .i64 (1+r_2.1)) r_82.1 r_83.1 x23)]:List ab)).length) 32) (
   some (.inl ((l++([(ab.mk (wrap .i64 (1+r_2.1)) r_82.1 r_83.1 x23)]:List ab)),(wrap .i64 (t2+1)),r_90.2.code,r_90.2.at_,r_90.2.seed))) none) none) none) (
   br (aK ((l++([(ab.mk (wrap .i64 (1+r_2.1)) r_82.1 r_83.1 0)]:List ab)).length) 32) (
   some (.inl ((l++([(ab.mk (wrap .i64 (1+r_2.1)) r_82.1 r_83.1 0)]:List ab)),(wrap .i64 (t2+1)),r_83.2.code,r_83.2.at_,r_83.2.seed))) none))) (
   br (r_81==1) (
   (aa t2 r_39.2).bind fun r_91=>
   br ((wrap .i64 (1+r_2.1))==3) (
   (ai r_91.2).bind fun r_92=>
   (aa 3 r_92.2).bind fun r_93=>
   br (decide (0≤r_93.1)) (
   br (decide (r_93.1.toNat<([0,1,r_92.1]:List Int).length)) (
   (([0,1,r_92.1]:List Int)[r_93.1.toNat]?).bind fun x24=>
   br (aK ((l++([(ab.mk (wrap .i64 (1+r_2.1)) r_91.1 0 x24)]:List ab)).length) 32) (
   some (.inl ((l++([(ab.mk (wrap .i64 (1+r_2.1)) r_91.1 0 x24)]:List ab)),(wrap .i64 (t2+1)),r_93.2.code,r_93.2.at_,r_93.2.seed))) none) none) none) (
   br (aK ((l++([(ab.mk (wrap .i64 (1+r_2.1)) r_91.1 0 0)]:List ab)).length) 32) (
   some (.inl ((l++([(ab.mk (wrap .i64 (1+r_2.1)) r_91.1 0 0)]:List ab)),(wrap .i64 (t2+1)),r_91.2.code,r_91.2.at_,r_91.2.seed))) none)) (
   br ((wrap .i64 (1+r_2.1))==3) (
   (ai r_39.2).bind fun r_94=>
   (aa 3 r_94.2).bind fun r_95=>
   br (decide (0≤r_95.1)) (
   br (decide (r_95.1.toNat<([0,1,r_94.1]:List Int).length)) (
   (([0,1,r_94.1]:List Int)[r_95.1.toNat]?).bind fun x25=>
   br (aK ((l++([(ab.mk (wrap .i64 (1+r_2.1)) 0 0 x25)]:List ab)).length) 32) (
   some (.inl ((l++([(ab.mk (wrap .i64 (1+r_2.1)) 0 0 x25)]:List ab)),(wrap .i64 (t2+1)),r_95.2.code,r_95.2.at_,r_95.2.seed))) none) none) none) (
   br (aK ((l++([(ab.mk (wrap .i64 (1+r_2.1)) 0 0 0)]:List ab)).length) 32) (
   some (.inl ((l++([(ab.mk (wrap .i64 (1+r_2.1)) 0 0 0)]:List ab)),(wrap .i64 (t2+1)),r_39.2.code,r_39.2.at_,r_39.2.seed))) none))))) (
   (cW (wrap .i64 (1+r_2.1))).bind fun r_96=>
   br (r_96==2) (
   (aa t2 r_39.2).bind fun r_97=>
   (aa t2 r_97.2).bind fun r_98=>
   br ((wrap .i64 (1+r_2.1))==7) (
   (aL 5 r_98.2).bind fun r_99=>
   br (!r_99.1) (
   br ((wrap .i64 (1+r_2.1))==3) (
   (ai r_99.2).bind fun r_100=>
   (aa 3 r_100.2).bind fun r_101=>
   br (decide (0≤r_101.1)) (
   br (decide (r_101.1.toNat<([0,1,r_100.1]:List Int).length)) (
   (([0,1,r_100.1]:List Int)[r_101.1.toNat]?).bind fun x26=>
   br (aK ((l++([(ab.mk (wrap .i64 (1+r_2.1)) r_97.1 r_97.1 x26)]:List ab)).length) 32) (
   some (.inl ((l++([(ab.mk (wrap .i64 (1+r_2.1)) r_97.1 r_97.1 x26)]:List ab)),(wrap .i64 (t2+1)),r_101.2.code,r_101.2.at_,r_101.2.seed))) none) none) none) (
   br (aK ((l++([(ab.mk (wrap .i64 (1+r_2.1)) r_97.1 r_97.1 0)]:List ab)).length) 32) (
   some (.inl ((l++([(ab.mk (wrap .i64 (1+r_2.1)) r_97.1 r_97.1 0)]:List ab)),(wrap .i64 (t2+1)),r_99.2.code,r_99.2.at_,r_99.2.seed))) none)) (
   br ((wrap .i64 (1+r_2.1))==3) (
   (ai r_99.2).bind fun r_102=>
   (aa 3 r_102.2).bind fun r_103=>
   br (decide (0≤r_103.1)) (
   br (decide (r_103.1.toNat<([0,1,r_102.1]:List Int).length)) (
   (([0,1,r_102.1]:List Int)[r_103.1.toNat]?).bind fun x27=>
   br (aK ((l++([(ab.mk (wrap .i64 (1+r_2.1)) r_97.1 r_98.1 x27)]:List ab)).length) 32) (
   some (.inl ((l++([(ab.mk (wrap .i64 (1+r_2.1)) r_97.1 r_98.1 x27)]:List ab)),(wrap .i64 (t2+1)),r_103.2.code,r_103.2.at_,r_103.2.seed))) none) none) none) (
   br (aK ((l++([(ab.mk (wrap .i64 (1+r_2.1)) r_97.1 r_98.1 0)]:List ab)).length) 32) (
   some (.inl ((l++([(ab.mk (wrap .i64 (1+r_2.1)) r_97.1 r_98.1 0)]:List ab)),(wrap .i64 (t2+1)),r_99.2.code,r_99.2.at_,r_99.2.seed))) none))) (
   br ((wrap .i64 (1+r_2.1))==3) (
   (ai r_98.2).bind fun r_104=>
   (aa 3 r_104.2).bind fun r_105=>
   br (decide (0≤r_105.1)) (
   br (decide (r_105.1.toNat<([0,1,r_104.1]:List Int).length)) (
   (([0,1,r_104.1]:List Int)[r_105.1.toNat]?).bind fun x28=>
   br (aK ((l++([(ab.mk (wrap .i64 (1+r_2.1)) r_97.1 r_98.1 x28)]:List ab)).length) 32) (
   some (.inl ((l++([(ab.mk (wrap .i64 (1+r_2.1)) r_97.1 r_98.1 x28)]:List ab)),(wrap .i64 (t2+1)),r_105.2.code,r_105.2.at_,r_105.2.seed))) none) none) none) (
   br (aK ((l++([(ab.mk (wrap .i64 (1+r_2.1)) r_97.1 r_98.1 0)]:List ab)).length) 32) (
   some (.inl ((l++([(ab.mk (wrap .i64 (1+r_2.1)) r_97.1 r_98.1 0)]:List ab)),(wrap .i64 (t2+1)),r_98.2.code,r_98.2.at_,r_98.2.seed))) none))) (
   br (r_96==1) (
   (aa t2 r_39.2).bind fun r_106=>
   br ((wrap .i64 (1+r_2.1))==3) (
   (ai r_106.2).bind fun r_107=>
   (aa 3 r_107.2).bind fun r_108=>
   br (decide (0≤r_108.1)) (
   br (decide (r_108.1.toNat<([0,1,r_107.1]:List Int).length)) (
   (([0,1,r_107.1]:List Int)[r_108.1.toNat]?).bind fun x29=>
   br (aK ((l++([(ab.mk (wrap .i64 (1+r_2.1)) r_106.1 0 x29)]:List ab)).length) 32) (
   some (.inl ((l++([(ab.mk (wrap .i64 (1+r_2.1)) r_106.1 0 x29)]:List ab)),(wrap .i64 (t2+1)),r_108.2.code,r_108.2.at_,r_108.2.seed))) none) none) none) (
   br (aK ((l++([(ab.mk (wrap .i64 (1+r_2.1)) r_106.1 0 0)]:List ab)).length) 32) (
   some (.inl ((l++([(ab.mk (wrap .i64 (1+r_2.1)) r_106.1 0 0)]:List ab)),(wrap .i64 (t2+1)),r_106.2.code,r_106.2.at_,r_106.2.seed))) none)) (
   br ((wrap .i64 (1+r_2.1))==3) (
   (ai r_39.2).bind fun r_109=>
   (aa 3 r_109.2).bind fun r_110=>
   br (decide (0≤r_110.1)) (
   br (decide (r_110.1.toNat<([0,1,r_109.1]:List Int).length)) (
   (([0,1,r_109.1]:List Int)[r_110.1.toNat]?).bind fun x30=>
   br (aK ((l++([(ab.mk (wrap .i64 (1+r_2.1)) 0 0 x30)]:List ab)).length) 32) (
   some (.inl ((l++([(ab.mk (wrap .i64 (1+r_2.1)) 0 0 x30)]:List ab)),(wrap .i64 (t2+1)),r_110.2.code,r_110.2.at_,r_110.2.seed))) none) none) none) (
   br (aK ((l++([(ab.mk (wrap .i64 (1+r_2.1)) 0 0 0)]:List ab)).length) 32) (
   some (.inl ((l++([(ab.mk (wrap .i64 (1+r_2.1)) 0 0 0)]:List ab)),(wrap .i64 (t2+1)),r_39.2.code,r_39.2.at_,r_39.2.seed))) none))))))) (
   some (.inr (l,t2,decide (t2<t),c,c2,c3)))
abbrev gR (l:List ab) (c:List UInt8) (c2 c3:Int):List (Nat×Blk):=[(0,⟨3,true,[[sl eU8 c,I c2,I c3]]⟩),(1000,⟨1,true,[[.lit (.slice none 0 0)]]⟩),(2000,⟨4,false,rws aY l⟩),(2002,⟨1,true,[[.sl 2000 0 l.length]]⟩)]
abbrev l7 (t:Int) (s:(List ab)×Int×(List UInt8)×Int×Int):St:=⟨[(0,.ptr 0 0 0 1),(2,.ptr 1000 0 0 1),(3,.ptr 2002 0 0 1),(4,I t),(5,I s.2.1)],gR s.1 s.2.2.1 s.2.2.2.1 s.2.2.2.2⟩
abbrev ln (t:Int):((List ab)×Int×Bool×(List UInt8)×Int×Int)→aH×St:=fun e=>(.exit 0,⟨[(0,.ptr 0 0 0 1),(2,.ptr 1000 0 0 1),(3,.ptr 2002 0 0 1),(4,I t),(5,I e.2.1),(14,B e.2.2.1)],gR e.1 e.2.2.2.1 e.2.2.2.2.1 e.2.2.2.2.2⟩)
theorem rv {t s e} (h:Loop (dd t) s=some e):bL tab ow (.close [7001,7004,8004,9001,10005,12002,14002,15002,16005,19002,21001,21002,21004,22003,22004]) l0 (l7 t s)=some (ln t e):=by
 refine lrG (fun s o h=> ?_) h
 obtain ⟨_,_,_,_,_⟩:=s
 simp only [dd] at h
 simp only [l7,ln,gR,l0,lD]
 have d1:= @bX
 have d2:= @qE
 have d3:= @Eo
 have d4:= @cK
 have d5:= @fk
 exact go2
def fg (m:aA):Option (Circuit×aA):=
 (aa 9 m).bind fun r_=>
 (Loop (dd (wrap .i64 (1+r_.1))) (([]:List ab),0,r_.2.code,r_.2.at_,r_.2.seed)).bind fun e_=>
 some ((Circuit.mk e_.1),(aA.mk e_.2.2.2.1 e_.2.2.2.2.1 e_.2.2.2.2.2))
theorem ux {m r} (h:fg m=some r):Call tab ow 50 [.ptr 0 0 0 1] [⟨3,true,[[sl eU8 m.code,I m.at_,I m.seed]]⟩]=some (.agg [sl aY r.1.Gates],[⟨3,true,[[sl eU8 r.2.code,I r.2.at_,I r.2.seed]]⟩]):=by
 rw [al (af:=fF) rfl]
 unfold fg at h
 simp only [fF,iP]
 have d1:= @bX
 have d2:= @rv
 exact go2
end
section
theorem uF:mkR 2000 []=rws eI []:=rfl
attribute [local go_sem] uF
theorem uI:mkR 2001 []=rws eI []:=rfl
attribute [local go_sem] uI
theorem ut:mkR 6000 []=rws eI []:=rfl
attribute [local go_sem] ut
theorem uu:mkR 13007 []=rws eI []:=rfl
attribute [local go_sem] uu
def bH (l2 l3:List Int) (c5:List ab):(List Int)×Int×(List UInt8)×Int×Int→Option (((List Int)×Int×(List UInt8)×Int×Int)⊕(((List Int)×Int×Bool×(List UInt8)×Int×Int)))
 | (l,k,c2,c3,c4)=>
   br (decide (k>0)) (
   (aa 2 (aA.mk c2 c3 c4)).bind fun r_2=>
   (aL 5 r_2.2).bind fun r_3=>
   br r_3.1 (
   (ai r_3.2).bind fun r_4=>
   br (aK ((l++([r_4.1]:List Int)).length) 8) (
   some (.inl ((l++([r_4.1]:List Int)),(wrap .i64 (k-1)),r_4.2.code,r_4.2.at_,r_4.2.seed))) none) (
   br (aK ((l++([r_2.1]:List Int)).length) 8) (
   some (.inl ((l++([r_2.1]:List Int)),(wrap .i64 (k-1)),r_3.2.code,r_3.2.at_,r_3.2.seed))) none)) (
   some (.inr (l,k,decide (k>0),c2,c3,c4)))
abbrev ik (l2 l3:List Int) (c5:List ab) (l:List Int) (c2:List UInt8) (c3 c4:Int):List (Nat×Blk):=[(0,⟨3,true,[[sl eU8 c2,I c3,I c4]]⟩),(1000,⟨1,true,[[sl aY c5]]⟩),(2000,⟨1,false,rws eI l⟩),(2001,⟨1,false,rws eI l2⟩),(2002,⟨1,true,[[.sl 2000 0 l.length],[.sl 2001 0 l2.length]]⟩),(6000,⟨1,false,rws eI l3⟩)]
abbrev lR (l2 l3:List Int) (c5:List ab) (s:(List Int)×Int×(List UInt8)×Int×Int):St:=⟨[(0,.ptr 0 0 0 1),(3,.ptr 1000 0 0 1),(6,.sl 2002 0 2),(7,I 0),(9,I s.2.1)],ik l2 l3 c5 s.1 s.2.2.1 s.2.2.2.1 s.2.2.2.2⟩
abbrev lU (l2 l3:List Int) (c5:List ab):((List Int)×Int×Bool×(List UInt8)×Int×Int)→aH×St:=fun e=>(.exit 2,⟨[(0,.ptr 0 0 0 1),(3,.ptr 1000 0 0 1),(6,.sl 2002 0 2),(7,I 0),(9,I e.2.1),(26,B e.2.2.1)],ik l2 l3 c5 e.1 e.2.2.2.1 e.2.2.2.2.1 e.2.2.2.2.2⟩)
theorem tp {l2 l3 c5 s e} (h:Loop (bH l2 l3 c5) s=some e):bL tab ow (.close [10001,11001,12001,13007,13008]) eP (lR l2 l3 c5 s)=some (lU l2 l3 c5 e):=by
 refine lrG (fun s o h=> ?_) h
 obtain ⟨_,_,_,_,_⟩:=s
 simp only [bH] at h
 simp only [lR,lU,ik,eP,i8]
 have d1:= @bX
 have d2:= @cK
 have d3:= @fk
 exact go2
def dl (l4 l6:List Int) (c9:List ab):(List Int)×Int×(List UInt8)×Int×Int→Option (((List Int)×Int×(List UInt8)×Int×Int)⊕(((List Int)×Int×Bool×(List UInt8)×Int×Int)))
 | (l5,k2,c6,c7,c8)=>
   br (decide (k2>0)) (
   (aa 2 (aA.mk c6 c7 c8)).bind fun r_6=>
   (aL 5 r_6.2).bind fun r_7=>
   br r_7.1 (
   (ai r_7.2).bind fun r_8=>
   br (aK ((l5++([r_8.1]:List Int)).length) 8) (
   some (.inl ((l5++([r_8.1]:List Int)),(wrap .i64 (k2-1)),r_8.2.code,r_8.2.at_,r_8.2.seed))) none) (
   br (aK ((l5++([r_6.1]:List Int)).length) 8) (
   some (.inl ((l5++([r_6.1]:List Int)),(wrap .i64 (k2-1)),r_7.2.code,r_7.2.at_,r_7.2.seed))) none)) (
   some (.inr (l5,k2,decide (k2>0),c6,c7,c8)))
abbrev il (l4 l6:List Int) (c9:List ab) (l5:List Int) (c6:List UInt8) (c7 c8:Int):List (Nat×Blk):=[(0,⟨3,true,[[sl eU8 c6,I c7,I c8]]⟩),(1000,⟨1,true,[[sl aY c9]]⟩),(2000,⟨1,false,rws eI l4⟩),(2001,⟨1,false,rws eI l5⟩),(2002,⟨1,true,[[.sl 2000 0 l4.length],[.sl 2001 0 l5.length]]⟩),(6000,⟨1,false,rws eI l6⟩)]
abbrev lW (l4 l6:List Int) (c9:List ab) (s:(List Int)×Int×(List UInt8)×Int×Int):St:=⟨[(0,.ptr 0 0 0 1),(3,.ptr 1000 0 0 1),(6,.sl 2002 0 2),(7,I 1),(9,I s.2.1)],il l4 l6 c9 s.1 s.2.2.1 s.2.2.2.1 s.2.2.2.2⟩
abbrev md (l4 l6:List Int) (c9:List ab):((List Int)×Int×Bool×(List UInt8)×Int×Int)→aH×St:=fun e=>(.exit 2,⟨[(0,.ptr 0 0 0 1),(3,.ptr 1000 0 0 1),(6,.sl 2002 0 2),(7,I 1),(9,I e.2.1),(26,B e.2.2.1)],il l4 l6 c9 e.1 e.2.2.2.1 e.2.2.2.2.1 e.2.2.2.2.2⟩)
theorem tw {l4 l6 c9 s e} (h:Loop (dl l4 l6 c9) s=some e):bL tab ow (.close [10001,11001,12001,13007,13008]) eP (lW l4 l6 c9 s)=some (md l4 l6 c9 e):=by
 refine lrG (fun s o h=> ?_) h
 obtain ⟨_,_,_,_,_⟩:=s
 simp only [dl] at h
 simp only [lW,md,il,eP,i8]
 have d1:= @bX
 have d2:= @cK
 have d3:= @fk
 exact go2
def fT (c:Circuit) (m:aA):Option ((List Int)×(List Int)×aA):=
 (eC c 2).bind fun r_=>
 (Loop (bH ([]:List Int) ([2,1]:List Int) c.Gates) (([]:List Int),r_,m.code,m.at_,m.seed)).bind fun e_=>
 (eC c 1).bind fun r_5=>
 (Loop (dl e_.1 ([2,1]:List Int) c.Gates) (([]:List Int),r_5,e_.2.2.2.1,e_.2.2.2.2.1,e_.2.2.2.2.2)).bind fun e_2=>
 some (e_.1,e_2.1,(aA.mk e_2.2.2.2.1 e_2.2.2.2.2.1 e_2.2.2.2.2.2))
theorem vq {c m r} (h:fT c m=some r):Call tab ow 51 [.ptr 0 0 0 1,.agg [sl aY c.Gates]] [⟨3,true,[[sl eU8 m.code,I m.at_,I m.seed]]⟩]=some (.tup [sl eI r.1,sl eI r.2.1],[⟨3,true,[[sl eU8 r.2.2.code,I r.2.2.at_,I r.2.2.seed]]⟩]):=by
 rw [al (af:=gk) rfl]
 unfold fT at h
 simp+decide only [gk,ge,go_sem,reduceIte,Nat.reduceAdd,Int.reduceAdd,Int.reduceMul,Int.reduceSub]
 refine ka ?_
 simp+decide only [mkL,go_sem,reduceIte,Nat.reduceAdd,Int.reduceAdd,Int.reduceMul,Int.reduceSub]
 obtain ⟨r_,h1,h⟩:=bd h
 refine we (qE h1) ?_
 simp+decide only [go_sem,reduceIte,Nat.reduceAdd,Int.reduceAdd,Int.reduceMul,Int.reduceSub]
 obtain ⟨e_,h1,h⟩:=bd h
 refine It (tp h1) ?_
 simp+decide only [go_sem,reduceIte,Nat.reduceAdd,Int.reduceAdd,Int.reduceMul,Int.reduceSub]
 refine ka ?_
 simp+decide only [mkL,go_sem,reduceIte,Nat.reduceAdd,Int.reduceAdd,Int.reduceMul,Int.reduceSub]
 obtain ⟨r_5,h1,h⟩:=bd h
 refine we (qE h1) ?_
 simp+decide only [go_sem,reduceIte,Nat.reduceAdd,Int.reduceAdd,Int.reduceMul,Int.reduceSub]
 obtain ⟨e_2,h1,h⟩:=bd h
 refine It (tw h1) ?_
 simp+decide only [go_sem,reduceIte,Nat.reduceAdd,Int.reduceAdd,Int.reduceMul,Int.reduceSub]
 refine ka ?_
 simp+decide only [mkL,go_sem,reduceIte,Nat.reduceAdd,Int.reduceAdd,Int.reduceMul,Int.reduceSub]
 obtain rfl:=Option.some.inj h
 first|rfl| (simp only [List.length_set,go_sem];done)
end
def dp (x:Int):Option (Bool):=
 (iZ x).bind fun r_=>
 some (!r_)
theorem rp {x r} (h:dp x=some r):Call tab ow 110 [I x,.ptr 0 0 0 1] [⟨1,true,[[.fn 66 []]]⟩]=some (B r,[⟨1,true,[[.fn 66 []]]⟩]):=by
 rw [al (af:=ko) rfl]
 unfold dp at h
 simp only [ko,uc]
 have d1:= @sP
 exact go2
def aV (s2:List Int) (t:Int):Int→Option ((Int)⊕(Int⊕(Int×Bool)))
 |t2=>
  br (decide (t2<t)) (
  (atL s2 t2).bind fun x=>
  (dp x).bind fun r_=>
  br r_ (
  some (.inr (.inl t2))) (
  some (.inl (wrap .i64 (t2+1))))) (
  some (.inr (.inr (t2,decide (t2<t)))))
abbrev cf (s2:List Int) (t s:Int):St:=⟨[(0,sl eI s2),(1,.fn 110 [.ptr 0 0 0 1]),(7,I t),(8,I s)],[(0,⟨1,true,[[.fn 66 []]]⟩)]⟩
abbrev ck (s2:List Int) (t:Int):(Int⊕(Int×Bool))→aH×St:=alt (fun e=>((.ret,⟨[(4,I e)],[(0,⟨1,true,[[.fn 66 []]]⟩)]⟩):aH×St)) (fun e=>(.exit 0,⟨[(0,sl eI s2),(1,.fn 110 [.ptr 0 0 0 1]),(7,I t),(8,I e.1),(9,B e.2)],[(0,⟨1,true,[[.fn 66 []]]⟩)]⟩))
theorem ed {s2 t s e} (h:Loop (aV s2 t) s=some e):bL tab ow (.close [5005]) fu (cf s2 t s)=some (ck s2 t e):=by
 refine lrG (fun s o h=> ?_) h
 simp only [aV] at h
 simp only [cf,ck,fu,fq]
 have d1:= @rp
 exact go2
def ba (s:(List Int)):Option (Int):=
 (Loop (aV s ((s.length:Nat):Int)) 0).bind (alt (fun e_2=>
 some e_2) (fun e_3=>
 some (-1:Int)))
theorem eH {s r} (h:ba s=some r):Call tab ow 139 [sl eI s,.fn 110 [.ptr 0 0 0 1]] [⟨1,true,[[.fn 66 []]]⟩]=some (I r,[⟨1,true,[[.fn 66 []]]⟩]):=by
 rw [al (af:=cE) rfl]
 unfold ba at h
 simp only [cE,du]
 have d1:= @ed
 exact go2
def aW (s:(List Int)):Option (Bool):=
 (ba s).bind fun r_=>
 some (decide (r_≥0))
theorem dQ {s r} (h:aW s=some r):Call tab ow 109 [sl eI s,.fn 110 [.ptr 0 0 0 1]] [⟨1,true,[[.fn 66 []]]⟩]=some (B r,[⟨1,true,[[.fn 66 []]]⟩]):=by
 rw [al (af:=bY) rfl]
 unfold aW at h
 simp only [bY,fj]
 have d1:= @eH
 exact go2
def bJ (list:(List Int)):Option (Bool):=
 (aW list).bind fun r_=>
 some (!r_)
theorem ip {list r} (h:bJ list=some r):Call tab ow 65 [.fn 66 [],sl eI list] []=some (B r,[]):=by
 rw [al (af:=o8) rfl]
 unfold bJ at h
 simp only [o8,xj]
 have d1:= @dQ
 exact go2
def pI (c:Circuit) (publics inputs:(List Int)):Option (Int):=
 br (decide (((publics.length:Nat):Int)>4096)) (
 some 2) (
 br (decide (((inputs.length:Nat):Int)>4096)) (
 some 2) (
 (iR c).bind fun r_=>
 br (!r_) (
 some 19) (
 (bJ publics).bind fun r_2=>
 br (!r_2) (
 some 1) (
 (bJ inputs).bind fun r_3=>
 br (!r_3) (
 some 1) (
 (cj c 2).bind fun r_4=>
 br (((publics.length:Nat):Int) !=r_4) (
 some 8) (
 (cj c 1).bind fun r_5=>
 br (((inputs.length:Nat):Int) !=r_5) (
 some 8) (
 some 0)))))))
theorem F9 {c publics inputs r} (h:pI c publics inputs=some r):Call tab ow 52 [.agg [sl aY c.Gates],sl eI publics,sl eI inputs] []=some (I r,[]):=by
 rw [al (af:=o3) rfl]
 unfold pI at h
 simp only [o3,xy]
 have d1:= @tL
 have d2:= @ip
 have d3:= @ib
 exact go2
def Gk (a b:Int):Option (Int):=
 some ((wrap .i64 ((wrap .i64 (a-b))+2130706433)).tmod 2130706433)
theorem RQ {a b r} (h:Gk a b=some r):Call tab ow 102 [I a,I b] []=some (I r,[]):=by
 rw [al (af:=yi) rfl]
 unfold Gk at h
 simp only [yi,J4]
 exact go2
def zN (a b:Int):Option (Int):=
 some ((wrap .i64 (a*b)).tmod 2130706433)
theorem DA {a b r} (h:zN a b=some r):Call tab ow 103 [I a,I b] []=some (I r,[]):=by
 rw [al (af:=yr) rfl]
 unfold zN at h
 simp only [yr,IY]
 exact go2
end
end Go.AI.Fn
