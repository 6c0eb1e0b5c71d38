/- Walks through the program, with open values. -/
import Derived.Test.YtgjlndaebhaciaaFx0
set_option linter.unusedVariables false
set_option linter.unusedSimpArgs false
set_option maxRecDepth 100000
set_option maxHeartbeats 1000000
namespace Go.AI.Fn
noncomputable section
open IntKind (wrap)
section
theorem wH:mkR 2000 []=rws eI []:=rfl
attribute [local go_sem] wH
theorem wZ:mkR 23002 []=rws eI []:=rfl
attribute [local go_sem] wZ
def cL (t3:List ab) (t4:Int) (c:List ab):(List Int)×(List Int)×(List Int)×Int→Option (((List Int)×(List Int)×(List Int)×Int)⊕(((List Int)×Int×Int×Int×Int)⊕((List Int)×(List Int)×(List Int)×Int×Bool)))
 | (l,t,t2,t5)=>
   br (decide (t5<t4)) (
   (atL t3 t5).bind fun x=>
   br (x.Op==1) (
   (atL t2 0).bind fun x2=>
   (oZ t2 1 ((t2.length:Nat):Int)).bind fun y=>
   br (aK ((l++([x2]:List Int)).length) 8) (
   some (.inl ((l++([x2]:List Int)),t,y,(wrap .i64 (t5+1))))) none) (
   br (x.Op==2) (
   (atL t 0).bind fun x3=>
   (oZ t 1 ((t.length:Nat):Int)).bind fun y2=>
   br (aK ((l++([x3]:List Int)).length) 8) (
   some (.inl ((l++([x3]:List Int)),y2,t2,(wrap .i64 (t5+1))))) none) (
   br (x.Op==4) (
   br (decide (0≤x.A)) (
   br (decide (x.A.toNat<l.length)) (
   (l[x.A.toNat]?).bind fun x4=>
   br (decide (0≤x.B)) (
   br (decide (x.B.toNat<l.length)) (
   (l[x.B.toNat]?).bind fun x5=>
   (xz x4 x5).bind fun r_=>
   br (aK ((l++([r_]:List Int)).length) 8) (
   some (.inl ((l++([r_]:List Int)),t,t2,(wrap .i64 (t5+1))))) none) none) none) none) none) (
   br (x.Op==5) (
   br (decide (0≤x.A)) (
   br (decide (x.A.toNat<l.length)) (
   (l[x.A.toNat]?).bind fun x6=>
   br (decide (0≤x.B)) (
   br (decide (x.B.toNat<l.length)) (
   (l[x.B.toNat]?).bind fun x7=>
   (Gk x6 x7).bind fun r_2=>
   br (aK ((l++([r_2]:List Int)).length) 8) (
   some (.inl ((l++([r_2]:List Int)),t,t2,(wrap .i64 (t5+1))))) none) none) none) none) none) (
   br (x.Op==6) (
   br (decide (0≤x.A)) (
   br (decide (x.A.toNat<l.length)) (
   (l[x.A.toNat]?).bind fun x8=>
   br (decide (0≤x.B)) (
   br (decide (x.B.toNat<l.length)) (
   (l[x.B.toNat]?).bind fun x9=>
   (zN x8 x9).bind fun r_3=>
   br (aK ((l++([r_3]:List Int)).length) 8) (
   some (.inl ((l++([r_3]:List Int)),t,t2,(wrap .i64 (t5+1))))) none) none) none) none) none) (
   br (x.Op==7) (
   br (x.Op==7) (
   br (decide (0≤x.A)) (
   br (decide (x.A.toNat<l.length)) (
   (l[x.A.toNat]?).bind fun x10=>
   br (x.Op==7) (
   br (decide (0≤x.B)) (
   br (decide (x.B.toNat<l.length)) (
   (l[x.B.toNat]?).bind fun x11=>
   br (x10 !=x11) (
   some (.inr (.inl (l,x.Op,x.A,x.B,x.K)))) (
   br (x.Op==8) (
   br (decide (x10>1)) (
   some (.inr (.inl (l,x.Op,x.A,x.B,x.K)))) (
   br (aK ((l++([x10]:List Int)).length) 8) (
   some (.inl ((l++([x10]:List Int)),t,t2,(wrap .i64 (t5+1))))) none)) (
   br (aK ((l++([x10]:List Int)).length) 8) (
   some (.inl ((l++([x10]:List Int)),t,t2,(wrap .i64 (t5+1))))) none))) none) none) (
   br (x.Op==8) (
   br (decide (x10>1)) (
   some (.inr (.inl (l,x.Op,x.A,x.B,x.K)))) (
   br (aK ((l++([x10]:List Int)).length) 8) (
   some (.inl ((l++([x10]:List Int)),t,t2,(wrap .i64 (t5+1))))) none)) (
   br (aK ((l++([x10]:List Int)).length) 8) (
   some (.inl ((l++([x10]:List Int)),t,t2,(wrap .i64 (t5+1))))) none))) none) none) (
   br (aK ((l++([x.K]:List Int)).length) 8) (
   some (.inl ((l++([x.K]:List Int)),t,t2,(wrap .i64 (t5+1))))) none)) (
   br (x.Op==8) (
   br (decide (0≤x.A)) (
   br (decide (x.A.toNat<l.length)) (
   (l[x.A.toNat]?).bind fun x12=>
   br (x.Op==7) (
   br (decide (0≤x.B)) (
   br (decide (x.B.toNat<l.length)) (
   (l[x.B.toNat]?).bind fun x13=>
   br (x12 !=x13) (
   some (.inr (.inl (l,x.Op,x.A,x.B,x.K)))) (
   br (x.Op==8) (
   br (decide (x12>1)) (
   some (.inr (.inl (l,x.Op,x.A,x.B,x.K)))) (
   br (aK ((l++([x12]:List Int)).length) 8) (
   some (.inl ((l++([x12]:List Int)),t,t2,(wrap .i64 (t5+1))))) none)) (
   br (aK ((l++([x12]:List Int)).length) 8) (
   some (.inl ((l++([x12]:List Int)),t,t2,(wrap .i64 (t5+1))))) none))) none) none) (
   br (x.Op==8) (
   br (decide (x12>1)) (
   some (.inr (.inl (l,x.Op,x.A,x.B,x.K)))) (
   br (aK ((l++([x12]:List Int)).length) 8) (
   some (.inl ((l++([x12]:List Int)),t,t2,(wrap .i64 (t5+1))))) none)) (
   br (aK ((l++([x12]:List Int)).length) 8) (
   some (.inl ((l++([x12]:List Int)),t,t2,(wrap .i64 (t5+1))))) none))) none) none) (
   br (aK ((l++([x.K]:List Int)).length) 8) (
   some (.inl ((l++([x.K]:List Int)),t,t2,(wrap .i64 (t5+1))))) none)))))))) (
   some (.inr (.inr (l,t,t2,t5,decide (t5<t4)))))
abbrev je (c:List ab) (l:List Int):List (Nat×Blk):=[(1000,⟨1,true,[[sl aY c]]⟩),(2000,⟨1,false,rws eI l⟩)]
abbrev oi (t3:List ab) (t4:Int) (c:List ab) (s:(List Int)×(List Int)×(List Int)×Int):St:=⟨[(1,sl eI s.2.1),(2,sl eI s.2.2.1),(8,.sl 2000 0 s.1.length),(14,sl aY t3),(15,I t4),(16,I s.2.2.2)],je c s.1⟩
abbrev oa (t3:List ab) (t4:Int) (c:List ab):(((List Int)×Int×Int×Int×Int)⊕((List Int)×(List Int)×(List Int)×Int×Bool))→aH×St:=alt (fun e=>((.ret,⟨[(6,.lit (.slice none 0 0)),(7,B false)],[(1000,⟨1,true,[[sl aY c]]⟩),(2000,⟨1,false,rws eI e.1⟩),(5002,⟨4,true,[[I e.2.1,I e.2.2.1,I e.2.2.2.1,I e.2.2.2.2]]⟩)]⟩):aH×St)) (fun e=>(.exit 0,⟨[(1,sl eI e.2.1),(2,sl eI e.2.2.1),(8,.sl 2000 0 e.1.length),(14,sl aY t3),(15,I t4),(16,I e.2.2.2.1),(17,B e.2.2.2.2)],je c e.1⟩))
theorem vh {t3 t4 c s e} (h:Loop (cL t3 t4 c) s=some e):bL tab ow (.close [5002,13010,15010,17010,23002,23003]) ol (oi t3 t4 c s)=some (oa t3 t4 c e):=by
 refine lrG (fun s o h=> ?_) h
 obtain ⟨_,_,_,_⟩:=s
 simp only [cL] at h
 simp only [oi,oa,je,ol,oj]
 have d1:= @yg
 have d2:= @RQ
 have d3:= @DA
 exact go2
def is (ListtoArray:Circuit) (a a2:(List Int)):Option ((List Int)×Bool):=
 (Loop (cL ListtoArray.Gates ((ListtoArray.Gates.length:Nat):Int) ListtoArray.Gates) (([]:List Int),a,a2,0)).bind (alt (fun e_2=>
 some (([]:List Int),false)) (fun e_3=>
 some (e_3.1,true)))
theorem xV {ListtoArray a a2 r} (h:is ListtoArray a a2=some r):Call tab ow 53 [.agg [sl aY ListtoArray.Gates],sl eI a,sl eI a2] []=some (.tup [sl eI r.1,B r.2],[]):=by
 rw [al (af:=iz) rfl]
 unfold is at h
 simp only [iz,lM]
 have d1:= @vh
 exact go2
end
def jk (c:Circuit) (publics inputs:(List Int)):Option ((List Int)×Int):=
 (pI c publics inputs).bind fun r_=>
 br (r_ !=0) (
 some (([]:List Int),r_)) (
 (is c publics inputs).bind fun r_2=>
 br (!r_2.2) (
 some (([]:List Int),15)) (
 some (r_2.1,0)))
theorem A9 {c publics inputs r} (h:jk c publics inputs=some r):Call tab ow 18 [.agg [sl aY c.Gates],sl eI publics,sl eI inputs] []=some (.tup [sl eI r.1,I r.2],[]):=by
 rw [al (af:=j9) rfl]
 unfold jk at h
 simp only [j9,rJ]
 have d1:= @F9
 have d2:= @xV
 exact go2
def s7 (a b:Int):Option (Int):=
 some ((wrap .i64 ((wrap .i64 (a+2130706433))-b)).tmod 2130706433)
theorem Iq {a b r} (h:s7 a b=some r):Call tab ow 106 [I a,I b] []=some (I r,[]):=by
 rw [al (af:=qF) rfl]
 unfold s7 at h
 simp only [qF,A7]
 exact go2
def rK (a b:Int):Option (Int):=
 some ((wrap .i64 (a*b)).tmod 2130706433)
theorem HJ {a b r} (h:rK a b=some r):Call tab ow 107 [I a,I b] []=some (I r,[]):=by
 rw [al (af:=pY) rfl]
 unfold rK at h
 simp only [pY,A8]
 exact go2
section
theorem FG:mkR 2000 []=rws eI []:=rfl
attribute [local go_sem] FG
theorem Ex:mkR 26002 []=rws eI []:=rfl
attribute [local go_sem] Ex
def hZ (t t2:List Int) (c:List ab):(List Int)×Int×Int×Int→Option (((List Int)×Int×Int×Int)⊕(((List Int)×Int×Int×Int×Bool)))
 | (l,t3,t4,t5)=>
   br (decide (t5<((c.length:Nat):Int))) (
   (atL c t5).bind fun x=>
   br (x.Op==1) (
   (atL t2 t4).bind fun x2=>
   br (aK ((l++([x2]:List Int)).length) 8) (
   some (.inl ((l++([x2]:List Int)),t3,(wrap .i64 (t4+1)),(wrap .i64 (t5+1))))) none) (
   br (x.Op==2) (
   (atL t t3).bind fun x3=>
   br (aK ((l++([x3]:List Int)).length) 8) (
   some (.inl ((l++([x3]:List Int)),(wrap .i64 (t3+1)),t4,(wrap .i64 (t5+1))))) none) (
   br (x.Op==3) (
   br (aK ((l++([x.K]:List Int)).length) 8) (
   some (.inl ((l++([x.K]:List Int)),t3,t4,(wrap .i64 (t5+1))))) none) (
   br (x.Op==4) (
   br (decide (0≤x.A)) (
   br (decide (x.A.toNat<l.length)) (
   (l[x.A.toNat]?).bind fun x4=>
   br (decide (0≤x.B)) (
   br (decide (x.B.toNat<l.length)) (
   (l[x.B.toNat]?).bind fun x5=>
   (sE x4 x5).bind fun r_=>
   br (aK ((l++([r_]:List Int)).length) 8) (
   some (.inl ((l++([r_]:List Int)),t3,t4,(wrap .i64 (t5+1))))) none) none) none) none) none) (
   br (x.Op==5) (
   br (decide (0≤x.A)) (
   br (decide (x.A.toNat<l.length)) (
   (l[x.A.toNat]?).bind fun x6=>
   br (decide (0≤x.B)) (
   br (decide (x.B.toNat<l.length)) (
   (l[x.B.toNat]?).bind fun x7=>
   (s7 x6 x7).bind fun r_2=>
   br (aK ((l++([r_2]:List Int)).length) 8) (
   some (.inl ((l++([r_2]:List Int)),t3,t4,(wrap .i64 (t5+1))))) none) none) none) none) none) (
   br (x.Op==6) (
   br (decide (0≤x.A)) (
   br (decide (x.A.toNat<l.length)) (
   (l[x.A.toNat]?).bind fun x8=>
   br (decide (0≤x.B)) (
   br (decide (x.B.toNat<l.length)) (
   (l[x.B.toNat]?).bind fun x9=>
   (rK x8 x9).bind fun r_3=>
   br (aK ((l++([r_3]:List Int)).length) 8) (
   some (.inl ((l++([r_3]:List Int)),t3,t4,(wrap .i64 (t5+1))))) none) none) none) none) none) (
   br (decide (0≤x.A)) (
   br (decide (x.A.toNat<l.length)) (
   (l[x.A.toNat]?).bind fun x10=>
   br (aK ((l++([x10]:List Int)).length) 8) (
   some (.inl ((l++([x10]:List Int)),t3,t4,(wrap .i64 (t5+1))))) none) none) none))))))) (
   some (.inr (l,t3,t4,t5,decide (t5<((c.length:Nat):Int)))))
abbrev pO (c:List ab) (l:List Int):List (Nat×Blk):=[(1000,⟨1,true,[[sl aY c]]⟩),(2000,⟨1,false,rws eI l⟩)]
abbrev vJ (t t2:List Int) (c:List ab) (s:(List Int)×Int×Int×Int):St:=⟨[(1,sl eI t),(2,sl eI t2),(3,.ptr 1000 0 0 1),(7,.sl 2000 0 s.1.length),(8,I s.2.1),(9,I s.2.2.1),(10,I s.2.2.2)],pO c s.1⟩
abbrev w8 (t t2:List Int) (c:List ab):((List Int)×Int×Int×Int×Bool)→aH×St:=fun e=>(.exit 0,⟨[(1,sl eI t),(2,sl eI t2),(3,.ptr 1000 0 0 1),(7,.sl 2000 0 e.1.length),(8,I e.2.1),(9,I e.2.2.1),(10,I e.2.2.2.1),(18,B e.2.2.2.2)],pO c e.1⟩)
theorem Cb {t t2 c s e} (h:Loop (hZ t t2 c) s=some e):bL tab ow (.close [8005,21010,23010,25010,26002,26003]) vj (vJ t t2 c s)=some (w8 t t2 c e):=by
 refine lrG (fun s o h=> ?_) h
 obtain ⟨_,_,_,_⟩:=s
 simp only [hZ] at h
 simp only [vJ,w8,pO,vj,vx]
 have d1:= @I6
 have d2:= @Iq
 have d3:= @HJ
 exact go2
def sK (ListtoArray:Circuit) (a a2:(List Int)):Option ((List Int)):=
 (Loop (hZ a a2 ListtoArray.Gates) (([]:List Int),0,0,0)).bind fun e_=>
 some e_.1
theorem HE {ListtoArray a a2 r} (h:sK ListtoArray a a2=some r):Call tab ow 55 [.agg [sl aY ListtoArray.Gates],sl eI a,sl eI a2] []=some (sl eI r,[]):=by
 rw [al (af:=pS) rfl]
 unfold sK at h
 simp only [pS,uC]
 have d1:= @Cb
 exact go2
end
def da (v2:List Int) (c2:List ab):Int→Option ((Int)⊕((Int×Int×Int×Int)⊕(Int×Bool)))
 |k=>
  br (decide (k<((c2.length:Nat):Int))) (
  (atL c2 k).bind fun x=>
  br (x.Op==7) (
  (atL v2 x.A).bind fun x2=>
  (atL v2 x.B).bind fun x3=>
  br (x2 !=x3) (
  some (.inr (.inl (x.Op,x.A,x.B,x.K)))) (
  br (x.Op==8) (
  (atL v2 x.A).bind fun x4=>
  br (decide (x4>1)) (
  some (.inr (.inl (x.Op,x.A,x.B,x.K)))) (
  some (.inl (wrap .i64 (k+1))))) (
  some (.inl (wrap .i64 (k+1)))))) (
  br (x.Op==8) (
  (atL v2 x.A).bind fun x5=>
  br (decide (x5>1)) (
  some (.inr (.inl (x.Op,x.A,x.B,x.K)))) (
  some (.inl (wrap .i64 (k+1))))) (
  some (.inl (wrap .i64 (k+1)))))) (
  some (.inr (.inr (k,decide (k<((c2.length:Nat):Int))))))
abbrev tU (v2:List Int) (c2:List ab) (s:Int):St:=⟨[(1,sl eI v2),(2,.ptr 1000 0 0 1),(5,I s)],[(1000,⟨1,true,[[sl aY c2]]⟩)]⟩
abbrev tO (v2:List Int) (c2:List ab):((Int×Int×Int×Int)⊕(Int×Bool))→aH×St:=alt (fun e=>((.ret,⟨[(4,B false)],[(1000,⟨1,true,[[sl aY c2]]⟩),(5005,⟨4,true,[[I e.1,I e.2.1,I e.2.2.1,I e.2.2.2]]⟩)]⟩):aH×St)) (fun e=>(.exit 0,⟨[(1,sl eI v2),(2,.ptr 1000 0 0 1),(5,I e.1),(11,B e.2)],[(1000,⟨1,true,[[sl aY c2]]⟩)]⟩))
theorem AU {v2 c2 s e} (h:Loop (da v2 c2) s=some e):bL tab ow (.close [5005]) tZ (tU v2 c2 s)=some (tO v2 c2 e):=by
 refine lrG (fun s o h=> ?_) h
 simp only [da] at h
 simp only [tU,tO,tZ,uk]
 exact go2
def pd (c:Circuit) (v:(List Int)):Option (Bool):=
 (Loop (da v c.Gates) 0).bind (alt (fun e_2=>
 some false) (fun e_3=>
 some true))
theorem EY {c v r} (h:pd c v=some r):Call tab ow 56 [.agg [sl aY c.Gates],sl eI v] []=some (B r,[]):=by
 rw [al (af:=ob) rfl]
 unfold pd at h
 simp only [ob,sr]
 have d1:= @AU
 exact go2
def dO (l:List Int):Option (List Int):=br (aK l.length 8) (some l) none
theorem pa (x:Int) (l:List Int) (hf:aK (x::l).length 8=true):Call (xS 57 aS) ze 57 [sl eI (x::l)] []=some (sl eI (x::l),[]):=by
 rw [al (af:=aS) (ww _ _)]
 rw [List.length_cons] at hf
 simp+decide only [aS,dh,fun k=>mk0 eI k,DW,go_sem,reduceIte,Nat.reduceAdd,hf]
theorem pn {l r:List Int} (h:dO l=some r):Call tab ow 57 [sl eI l] []=some (sl eI r,[]):=by
 unfold dO at h
 obtain ⟨hb,h⟩:=brg h
 cases h
 rw [As (g:=Dc 57 aS) rfl]
 cases l with
 |nil=>rfl
 |cons x l=>exact pa x l hb
section
theorem tx:mkR 2000 []=rws eI []:=rfl
attribute [local go_sem] tx
theorem th:mkR 7005 []=rws eI []:=rfl
attribute [local go_sem] th
def cy (values2:List Int) (t:List ab) (t2:Int) (c2:List ab):(List Int)×Int→Option (((List Int)×Int)⊕(((List Int)×Int×Bool)))
 | (l,t3)=>
   br (decide (t3<t2)) (
   (atL t t3).bind fun x=>
   br (x.Op !=2) (
   (atL values2 t3).bind fun x2=>
   br (aK ((l++([x2]:List Int)).length) 8) (
   some (.inl ((l++([x2]:List Int)),(wrap .i64 (t3+1))))) none) (
   some (.inl (l,(wrap .i64 (t3+1)))))) (
   some (.inr (l,t3,decide (t3<t2))))
abbrev gw (c2:List ab) (l:List Int):List (Nat×Blk):=[(1000,⟨1,true,[[sl aY c2]]⟩),(2000,⟨1,false,rws eI l⟩)]
abbrev kZ (values2:List Int) (t:List ab) (t2:Int) (c2:List ab) (s:(List Int)×Int):St:=⟨[(1,sl eI values2),(5,.sl 2000 0 s.1.length),(10,sl aY t),(11,I t2),(12,I s.2)],gw c2 s.1⟩
abbrev lk (values2:List Int) (t:List ab) (t2:Int) (c2:List ab):((List Int)×Int×Bool)→aH×St:=fun e=>(.exit 0,⟨[(1,sl eI values2),(5,.sl 2000 0 e.1.length),(10,sl aY t),(11,I t2),(12,I e.2.1),(13,B e.2.2)],gw c2 e.1⟩)
theorem rT {values2 t t2 c2 s e} (h:Loop (cy values2 t t2 c2) s=some e):bL tab ow (.close [5003,7005,7006]) kS (kZ values2 t t2 c2 s)=some (lk values2 t t2 c2 e):=by
 refine lrG (fun s o h=> ?_) h
 obtain ⟨_,_⟩:=s
 simp only [cy] at h
 simp only [kZ,lk,gw,kS,lh]
 exact go2
def fe (c:Circuit) (values:(List Int)):Option ((List Int)):=
 (Loop (cy values c.Gates ((c.Gates.length:Nat):Int) c.Gates) (([]:List Int),0)).bind fun e_=>
 some e_.1
theorem um {c values r} (h:fe c values=some r):Call tab ow 58 [.agg [sl aY c.Gates],sl eI values] []=some (sl eI r,[]):=by
 rw [al (af:=fB) rfl]
 unfold fe at h
 simp only [fB,iL]
 have d1:= @rT
 exact go2
end
def ld (c:Circuit) (publics inputs:(List Int)):Option ((List Int)×(List Int)×Int):=
 (jk c publics inputs).bind fun r_=>
 br (r_.2 !=0) (
 some (([]:List Int),([]:List Int),r_.2)) (
 (dO publics).bind fun r_2=>
 (fe c r_.1).bind fun r_3=>
 some (r_2,r_3,0))
theorem Ba {c publics inputs r} (h:ld c publics inputs=some r):Call tab ow 20 [.agg [sl aY c.Gates],sl eI publics,sl eI inputs] []=some (.tup [sl eI r.1,sl eI r.2.1,I r.2.2],[]):=by
 rw [al (af:=kx) rfl]
 unfold ld at h
 simp only [kx,u4]
 have d1:= @A9
 have d2:= @pn
 have d3:= @um
 exact go2
def gn (s:aX):Option (((List ah)×(List ah)×(List ah))):=
 some (s.A,s.B,s.C)
theorem tA {s r} (h:gn s=some r):Call tab ow 63 [.agg [I s.Rows,I s.Cols,I s.Publics,sl aw s.A,sl aw s.B,sl aw s.C]] []=some (.agg [sl aw r.1,sl aw r.2.1,sl aw r.2.2],[]):=by
 rw [al (af:=eK) rfl]
 unfold gn at h
 simp only [eK,mf]
 exact go2
def cp (x:Int):Option (Bool):=
 some (x !=x)
theorem lK {x r} (h:cp x=some r):Call tab ow 152 [I x] []=some (B r,[]):=by
 rw [al (af:=cx) rfl]
 unfold cp at h
 simp only [cx,fS]
 exact go2
def bm (x y:Int):Option (Int):=
 (cp x).bind fun r_=>
 (cp y).bind fun r_2=>
 br r_ (
 br r_2 (
 some 0) (
 some (-1:Int))) (
 br r_2 (
 some 1) (
 br (decide (x<y)) (
 some (-1:Int)) (
 br (decide (x>y)) (
 some 1) (
 some 0))))
theorem jt {x y r} (h:bm x y=some r):Call tab ow 138 [I x,I y] []=some (I r,[]):=by
 rw [al (af:=bM) rfl]
 unfold bm at h
 simp only [bM,dY]
 have d1:= @lK
 exact go2
def aI (zero:Int) (t:List Int) (t2:Int):Int→Option ((Int)⊕(Int⊕(Int×Bool)))
 |t3=>
  br (decide (t3<t2)) (
  (atL t t3).bind fun x=>
  br (x !=zero) (
  some (.inr (.inl x))) (
  some (.inl (wrap .i64 (t3+1))))) (
  some (.inr (.inr (t3,decide (t3<t2)))))
abbrev gY (zero:Int) (t:List Int) (t2 s:Int):St:=⟨[(3,I zero),(6,sl eI t),(7,I t2),(8,I s)],[]⟩
abbrev gU (zero:Int) (t:List Int) (t2:Int):(Int⊕(Int×Bool))→aH×St:=alt (fun e=>((.ret,⟨[(2,I e)],[]⟩):aH×St)) (fun e=>(.exit 0,⟨[(3,I zero),(6,sl eI t),(7,I t2),(8,I e.1),(9,B e.2)],[]⟩))
theorem nk {zero t t2 s e} (h:Loop (aI zero t t2) s=some e):bL tab ow (.close []) gN (gY zero t t2 s)=some (gU zero t t2 e):=by
 refine lrG (fun s o h=> ?_) h
 simp only [aI] at h
 simp only [gY,gU,gN,gG]
 exact go2
def dN (vals:(List Int)):Option (Int):=
 (Loop (aI 0 vals ((vals.length:Nat):Int)) 0).bind (alt (fun e_2=>
 some e_2) (fun e_3=>
 some 0))
theorem qp {vals r} (h:dN vals=some r):Call tab ow 137 [sl eI vals] []=some (I r,[]):=by
 rw [al (af:=dx) rfl]
 unfold dN at h
 simp only [dx,fH]
 have d1:= @nk
 exact go2
section
theorem jN:mkR 2010 []=rws eI []:=rfl
attribute [local go_sem] jN
def cJ (e_ f:ah):Option (Int):=
 (bm e_.Row f.Row).bind fun r_=>
 (bm e_.Col f.Col).bind fun r_2=>
 (dN ([r_,r_2]:List Int)).bind fun r_3=>
 some r_3
theorem lF {e_ f r} (h:cJ e_ f=some r):Call tab ow 108 [.agg [I e_.Row,I e_.Col,I e_.Value],.agg [I f.Row,I f.Col,I f.Value]] []=some (I r,[]):=by
 rw [al (af:=cr) rfl]
 unfold cJ at h
 simp only [cr,fN]
 have d1:= @jt
 have d2:= @qp
 exact go2
end
def gI (list2:List ah) (rows2 cols2:Int) (t:List ah) (t2:Int):Int→Option ((Int)⊕((Int×Int×Int)⊕(Int×Bool)))
 |t3=>
  br (decide (t3<t2)) (
  (atL t t3).bind fun x=>
  (fy x.Row 0 (wrap .i64 (rows2-1))).bind fun r_=>
  br (!r_) (
  some (.inr (.inl (x.Row,x.Col,x.Value)))) (
  (fy x.Col 0 (wrap .i64 (cols2-1))).bind fun r_2=>
  br (!r_2) (
  some (.inr (.inl (x.Row,x.Col,x.Value)))) (
  (fy x.Value 1 2130706432).bind fun r_3=>
  br (!r_3) (
  some (.inr (.inl (x.Row,x.Col,x.Value)))) (
  br (decide (t3>0)) (
  (atL list2 (wrap .i64 (t3-1))).bind fun x2=>
  (cJ x2 x).bind fun r_4=>
  br (decide (r_4≥0)) (
  some (.inr (.inl (x.Row,x.Col,x.Value)))) (
  some (.inl (wrap .i64 (t3+1))))) (
  some (.inl (wrap .i64 (t3+1)))))))) (
  some (.inr (.inr (t3,decide (t3<t2)))))
abbrev rZ (list2:List ah) (rows2 cols2:Int) (t:List ah) (t2 s:Int):St:=⟨[(0,sl aw list2),(1,I rows2),(2,I cols2),(9,sl aw t),(10,I t2),(11,I s)],[]⟩
abbrev sM (list2:List ah) (rows2 cols2:Int) (t:List ah) (t2:Int):((Int×Int×Int)⊕(Int×Bool))→aH×St:=alt (fun e=>((.ret,⟨[(6,B false)],[(4003,⟨3,true,[[I e.1,I e.2.1,I e.2.2]]⟩)]⟩):aH×St)) (fun e=>(.exit 0,⟨[(0,sl aw list2),(1,I rows2),(2,I cols2),(9,sl aw t),(10,I t2),(11,I e.1),(12,B e.2)],[]⟩))
theorem zu {list2 rows2 cols2 t t2 s e} (h:Loop (gI list2 rows2 cols2 t t2) s=some e):bL tab ow (.close [4003,5004,5011,5017,5030]) rF (rZ list2 rows2 cols2 t t2 s)=some (sM list2 rows2 cols2 t t2 e):=by
 refine lrG (fun s o h=> ?_) h
 simp only [gI] at h
 simp only [rZ,sM,rF,sq]
 have d1:= @uv
 have d2:= @lF
 exact go2
def iO (list:(List ah)) (rows cols:Int):Option (Bool):=
 (Loop (gI list rows cols list ((list.length:Nat):Int)) 0).bind (alt (fun e_2=>
 some false) (fun e_3=>
 some (decide (((list.length:Nat):Int)≤200))))
theorem qA {list rows cols r} (h:iO list rows cols=some r):Call tab ow 64 [sl aw list,I rows,I cols] []=some (B r,[]):=by
 rw [al (af:=mD) rfl]
 unfold iO at h
 simp only [mD,pV]
 have d1:= @zu
 exact go2
def jY (s:aX):Option (Bool):=
 (fy s.Rows 1 5).bind fun r_=>
 br (!r_) (
 some false) (
 (fy s.Cols 2 5).bind fun r_2=>
 br (!r_2) (
 some false) (
 (bW s).bind fun r_3=>
 (fy s.Publics 0 (wrap .i64 (r_3-1))).bind fun r_4=>
 br (!r_4) (
 some false) (
 (gn s).bind fun r_5=>
 br (decide (0≤s.Rows)) (
 br (decide (0≤s.Cols)) (
 (iO r_5.1 (bo .i64 1 s.Rows) (bo .i64 1 s.Cols)).bind fun r_6=>
 br (!r_6) (
 some false) (
 br (decide (0≤s.Rows)) (
 br (decide (0≤s.Cols)) (
 (iO r_5.2.1 (bo .i64 1 s.Rows) (bo .i64 1 s.Cols)).bind fun r_7=>
 br (!r_7) (
 some false) (
 br (decide (0≤s.Rows)) (
 br (decide (0≤s.Cols)) (
 (iO r_5.2.2 (bo .i64 1 s.Rows) (bo .i64 1 s.Cols)).bind fun r_8=>
 br (!r_8) (
 some false) (
 some true)) none) none)) none) none)) none) none)))
theorem vm {s r} (h:jY s=some r):Call tab ow 24 [.agg [I s.Rows,I s.Cols,I s.Publics,sl aw s.A,sl aw s.B,sl aw s.C]] []=some (B r,[]):=by
 rw [al (af:=mG) rfl]
 unfold jY at h
 simp+decide only [mG,qy,go_sem,reduceIte,Nat.reduceAdd,Int.reduceAdd,Int.reduceMul,Int.reduceSub]
 obtain ⟨r_,h1,h⟩:=bd h
 refine iS (uv h1) ?_
 simp+decide only [go_sem,reduceIte,Nat.reduceAdd,Int.reduceAdd,Int.reduceMul,Int.reduceSub]
 rcases brc h with ⟨hb,h⟩|⟨hb,h⟩
 ·refine xR hb ?_
  obtain rfl:=Option.some.inj h
  first|rfl| (simp only [List.length_set,go_sem];done)
 ·refine L8 hb ?_
  obtain ⟨r_2,h1,h⟩:=bd h
  refine iS (uv h1) ?_
  simp+decide only [go_sem,reduceIte,Nat.reduceAdd,Int.reduceAdd,Int.reduceMul,Int.reduceSub]
  rcases brc h with ⟨hb,h⟩|⟨hb,h⟩
  ·refine xR hb ?_
   obtain rfl:=Option.some.inj h
   first|rfl| (simp only [List.length_set,go_sem];done)
  ·refine L8 hb ?_
   obtain ⟨r_3,h1,h⟩:=bd h
   refine iS (fV h1) ?_
   simp+decide only [go_sem,reduceIte,Nat.reduceAdd,Int.reduceAdd,Int.reduceMul,Int.reduceSub]
   obtain ⟨r_4,h1,h⟩:=bd h
   refine iS (uv h1) ?_
   simp+decide only [go_sem,reduceIte,Nat.reduceAdd,Int.reduceAdd,Int.reduceMul,Int.reduceSub]
   rcases brc h with ⟨hb,h⟩|⟨hb,h⟩
   ·refine xR hb ?_
    obtain rfl:=Option.some.inj h
    first|rfl| (simp only [List.length_set,go_sem];done)
   ·refine L8 hb ?_
    obtain ⟨r_5,h1,h⟩:=bd h
    refine we (tA h1) ?_
    simp+decide only [go_sem,reduceIte,Nat.reduceAdd,Int.reduceAdd,Int.reduceMul,Int.reduceSub]
    refine ka ?_
    simp+decide only [mkL,go_sem,reduceIte,Nat.reduceAdd,Int.reduceAdd,Int.reduceMul,Int.reduceSub]
    obtain ⟨hb,h⟩:=brg h
    refine xR hb ?_
    obtain ⟨hb,h⟩:=brg h
    refine xR hb ?_
    obtain ⟨r_6,h1,h⟩:=bd h
    refine iS (qA h1) ?_
    simp+decide only [go_sem,reduceIte,Nat.reduceAdd,Int.reduceAdd,Int.reduceMul,Int.reduceSub]
    rcases brc h with ⟨hb,h⟩|⟨hb,h⟩
    ·refine xR hb ?_
     obtain rfl:=Option.some.inj h
     first|rfl| (simp only [List.length_set,go_sem];done)
    ·refine L8 hb ?_
     refine ka ?_
     simp+decide only [mkL,go_sem,reduceIte,Nat.reduceAdd,Int.reduceAdd,Int.reduceMul,Int.reduceSub]
     obtain ⟨hb,h⟩:=brg h
     refine xR hb ?_
     obtain ⟨hb,h⟩:=brg h
     refine xR hb ?_
     obtain ⟨r_7,h1,h⟩:=bd h
     refine iS (qA h1) ?_
     simp+decide only [go_sem,reduceIte,Nat.reduceAdd,Int.reduceAdd,Int.reduceMul,Int.reduceSub]
     rcases brc h with ⟨hb,h⟩|⟨hb,h⟩
     ·refine xR hb ?_
      obtain rfl:=Option.some.inj h
      first|rfl| (simp only [List.length_set,go_sem];done)
     ·refine L8 hb ?_
      refine ka ?_
      simp+decide only [mkL,go_sem,reduceIte,Nat.reduceAdd,Int.reduceAdd,Int.reduceMul,Int.reduceSub]
      obtain ⟨hb,h⟩:=brg h
      refine xR hb ?_
      obtain ⟨hb,h⟩:=brg h
      refine xR hb ?_
      obtain ⟨r_8,h1,h⟩:=bd h
      refine iS (qA h1) ?_
      simp+decide only [go_sem,reduceIte,Nat.reduceAdd,Int.reduceAdd,Int.reduceMul,Int.reduceSub]
      rcases brc h with ⟨hb,h⟩|⟨hb,h⟩
      ·refine xR hb ?_
       obtain rfl:=Option.some.inj h
       first|rfl| (simp only [List.length_set,go_sem];done)
      ·refine L8 hb ?_
       refine ka ?_
       simp+decide only [mkL,go_sem,reduceIte,Nat.reduceAdd,Int.reduceAdd,Int.reduceMul,Int.reduceSub]
       obtain rfl:=Option.some.inj h
       first|rfl| (simp only [List.length_set,go_sem];done)
section
theorem uy: ∀k,Cg 2003 k [I (0:Int)]=rws eI (List.replicate k (0:Int)):=fun _=>a0x eI (0:Int) _ _
attribute [local go_sem] uy
def fQ (s:aX) (publics privates:(List Int)):Option ((List Int)):=
 br (decide (0≤s.Cols)) (
 br (DC (bo .i64 1 s.Cols) (bo .i64 1 s.Cols) 8) (
 br (decide (0<(List.replicate ((bo .i64 (1:Int) s.Cols).toNat) (0:Int)).length)) (
 ((List.replicate ((bo .i64 (1:Int) s.Cols).toNat) (0:Int))[0]?).bind fun x=>
 br (decide ((1:Int)≤(((List.replicate ((bo .i64 (1:Int) s.Cols).toNat) (0:Int)).length:Nat):Int))) (
 br (decide (1+((List.replicate ((bo .i64 (1:Int) s.Cols).toNat) (0:Int)).length-1)=(List.replicate ((bo .i64 (1:Int) s.Cols).toNat) (0:Int)).length)) (
 (bW s).bind fun r_=>
 br (decide (0≤r_)&&decide (r_≤(((List.replicate ((bo .i64 (1:Int) s.Cols).toNat) (0:Int)).length:Nat):Int))) (
 br (decide (r_.toNat+((List.replicate ((bo .i64 (1:Int) s.Cols).toNat) (0:Int)).length-r_.toNat)=(List.replicate ((bo .i64 (1:Int) s.Cols).toNat) (0:Int)).length)) (
 some (pl (pl ((List.replicate ((bo .i64 (1:Int) s.Cols).toNat) (0:Int)).set 0 (1:Int)) 1 (min publics.length ((List.replicate ((bo .i64 (1:Int) s.Cols).toNat) (0:Int)).length-1)) publics) r_.toNat (min privates.length ((List.replicate ((bo .i64 (1:Int) s.Cols).toNat) (0:Int)).length-r_.toNat)) privates)) none) none) none) none) none) none) none
theorem wi {s publics privates r} (h:fQ s publics privates=some r):Call tab ow 67 [.agg [I s.Rows,I s.Cols,I s.Publics,sl aw s.A,sl aw s.B,sl aw s.C],sl eI publics,sl eI privates] []=some (sl eI r,[]):=by
 rw [al (af:=gc) rfl]
 unfold fQ at h
 simp only [gc,og]
 have d1:= @fV
 exact go2
end
def nI (s:aX) (publics privates:(List Int)):Option ((List Int)×Int):=
 br (decide (((publics.length:Nat):Int)>4096)) (
 some (([]:List Int),2)) (
 br (decide (((privates.length:Nat):Int)>4096)) (
 some (([]:List Int),2)) (
 (jY s).bind fun r_=>
 br (!r_) (
 some (([]:List Int),1)) (
 (bJ publics).bind fun r_2=>
 br (!r_2) (
 some (([]:List Int),1)) (
 (bJ privates).bind fun r_3=>
 br (!r_3) (
 some (([]:List Int),1)) (
 br (((publics.length:Nat):Int) !=s.Publics) (
 some (([]:List Int),8)) (
 (bW s).bind fun r_4=>
 br (decide (((privates.length:Nat):Int)>r_4)) (
 some (([]:List Int),8)) (
 (fQ s publics privates).bind fun r_5=>
 some (r_5,0))))))))
theorem Dq {s publics privates r} (h:nI s publics privates=some r):Call tab ow 26 [.agg [I s.Rows,I s.Cols,I s.Publics,sl aw s.A,sl aw s.B,sl aw s.C],sl eI publics,sl eI privates] []=some (.tup [sl eI r.1,I r.2],[]):=by
 rw [al (af:=mh) rfl]
 unfold nI at h
 simp only [mh,vf]
 have d1:= @vm
 have d2:= @ip
 have d3:= @fV
 have d4:= @wi
 exact go2
def kI (s:aX) (z:(List Int)):Option (Int):=
 br (decide (((z.length:Nat):Int)>4096)) (
 some 2) (
 (jY s).bind fun r_=>
 br (!r_) (
 some 1) (
 (bJ z).bind fun r_2=>
 br (!r_2) (
 some 1) (
 br (decide (0≤s.Cols)) (
 br (((z.length:Nat):Int) !=(bo .i64 1 s.Cols)) (
 some 8) (
 some 0)) none)))
theorem xT {s z r} (h:kI s z=some r):Call tab ow 68 [.agg [I s.Rows,I s.Cols,I s.Publics,sl aw s.A,sl aw s.B,sl aw s.C],sl eI z] []=some (I r,[]):=by
 rw [al (af:=iF) rfl]
 unfold kI at h
 simp only [iF,rk]
 have d1:= @vm
 have d2:= @ip
 exact go2
section
theorem CF: ∀k,Cg 2002 k [I (0:Int)]=rws eI (List.replicate k (0:Int)):=fun _=>a0x eI (0:Int) _ _
attribute [local go_sem] CF
def fZ (z2:List Int) (t:List ah) (t2:Int):(List Int)×Int→Option (((List Int)×Int)⊕(((List Int)×Int×Bool)))
 | (l,t3)=>
   br (decide (t3<t2)) (
   (atL t t3).bind fun x=>
   br (decide (0≤x.Row)) (
   br (decide (x.Row.toNat<l.length)) (
   (l[x.Row.toNat]?).bind fun x2=>
   (atL z2 x.Col).bind fun x3=>
   (zN x.Value x3).bind fun r_=>
   (xz x2 r_).bind fun r_2=>
   br (decide (0≤x.Row)) (
   br (decide (x.Row.toNat<l.length)) (
   (l[x.Row.toNat]?).bind fun x4=>
   some (.inl ((l.set x.Row.toNat r_2),(wrap .i64 (t3+1))))) none) none) none) none) (
   some (.inr (l,t3,decide (t3<t2))))
abbrev ua (z2:List Int) (t:List ah) (t2:Int) (s:(List Int)×Int):St:=⟨[(2,sl eI z2),(7,.sl 2002 0 s.1.length),(13,sl aw t),(14,I t2),(15,I s.2)],[(2002,⟨1,false,rws eI s.1⟩)]⟩
abbrev tR (z2:List Int) (t:List ah) (t2:Int):((List Int)×Int×Bool)→aH×St:=fun e=>(.exit 0,⟨[(2,sl eI z2),(7,.sl 2002 0 e.1.length),(13,sl aw t),(14,I t2),(15,I e.2.1),(16,B e.2.2)],[(2002,⟨1,false,rws eI e.1⟩)]⟩)
theorem B0 {z2 t t2 s e} (h:Loop (fZ z2 t t2) s=some e):bL tab ow (.close [5002,6015,6016]) tQ (ua z2 t t2 s)=some (tR z2 t t2 e):=by
 refine lrG (fun s o h=> ?_) h
 obtain ⟨_,_⟩:=s
 simp only [fZ] at h
 simp only [ua,tR,tQ,uh]
 have d1:= @DA
 have d2:= @yg
 exact go2
def jU (list:(List ah)) (rows:Int) (z:(List Int)):Option ((List Int)):=
 br (decide (0≤rows)) (
 br (DC (bo .i64 1 rows) (bo .i64 1 rows) 8) (
 (Loop (fZ z list ((list.length:Nat):Int)) ((List.replicate ((bo .i64 (1:Int) rows).toNat) (0:Int)),(0:Int))).bind fun e_=>
 some e_.1) none) none
theorem Fo {list rows z r} (h:jU list rows z=some r):Call tab ow 111 [sl aw list,I rows,sl eI z] []=some (sl eI r,[]):=by
 rw [al (af:=nU) rfl]
 unfold jU at h
 simp only [nU,rM]
 have d1:= @B0
 exact go2
end
def bv (a b c:List Int) (t c2 c3 c4:Int) (c5 c6 c7:List ah):Int→Option ((Int)⊕(Int⊕(Int×Bool)))
 |t2=>
  br (decide (t2<t)) (
  (atL a t2).bind fun x=>
  (atL b t2).bind fun x2=>
  (zN x x2).bind fun r_4=>
  (atL c t2).bind fun x3=>
  br (r_4 !=x3) (
  some (.inr (.inl t2))) (
  some (.inl (wrap .i64 (t2+1))))) (
  some (.inr (.inr (t2,decide (t2<t)))))
abbrev eV (c2 c3 c4:Int) (c5 c6 c7:List ah):List (Nat×Blk):=[(1000,⟨6,true,[[I c2,I c3,I c4,sl aw c5,sl aw c6,sl aw c7]]⟩)]
abbrev lY (a b c:List Int) (t c2 c3 c4:Int) (c5 c6 c7:List ah) (s:Int):St:=⟨[(5,sl eI a),(6,sl eI b),(7,sl eI c),(28,I t),(29,I s)],eV c2 c3 c4 c5 c6 c7⟩
abbrev lV (a b c:List Int) (t c2 c3 c4:Int) (c5 c6 c7:List ah):(Int⊕(Int×Bool))→aH×St:=alt (fun e=>((.ret,⟨[(4,I e)],eV c2 c3 c4 c5 c6 c7⟩):aH×St)) (fun e=>(.exit 0,⟨[(5,sl eI a),(6,sl eI b),(7,sl eI c),(28,I t),(29,I e.1),(30,B e.2)],eV c2 c3 c4 c5 c6 c7⟩))
theorem ti {a b c t c2 c3 c4 c5 c6 c7 s e} (h:Loop (bv a b c t c2 c3 c4 c5 c6 c7) s=some e):bL tab ow (.close [6008]) lT (lY a b c t c2 c3 c4 c5 c6 c7 s)=some (lV a b c t c2 c3 c4 c5 c6 c7 e):=by
 refine lrG (fun s o h=> ?_) h
 simp only [bv] at h
 simp only [lY,lV,eV,lT,lQ]
 have d1:= @DA
 exact go2
def fM (s:aX) (z:(List Int)):Option (Int):=
 (jU s.A s.Rows z).bind fun r_=>
 (jU s.B s.Rows z).bind fun r_2=>
 (jU s.C s.Rows z).bind fun r_3=>
 (Loop (bv r_ r_2 r_3 ((r_.length:Nat):Int) s.Rows s.Cols s.Publics s.A s.B s.C) 0).bind (alt (fun e_2=>
 some e_2) (fun e_3=>
 some (-1:Int)))
theorem vX {s z r} (h:fM s z=some r):Call tab ow 69 [.agg [I s.Rows,I s.Cols,I s.Publics,sl aw s.A,sl aw s.B,sl aw s.C],sl eI z] []=some (I r,[]):=by
 rw [al (af:=gi) rfl]
 unfold fM at h
 simp only [gi,jA]
 have d1:= @Fo
 have d2:= @ti
 exact go2
def lu (s:aX) (z:(List Int)):Option (Bool×Int):=
 (kI s z).bind fun r_=>
 br (r_ !=0) (
 some (false,r_)) (
 (fM s z).bind fun r_2=>
 some (decide (r_2<0),0))
theorem Ay {s z r} (h:lu s z=some r):Call tab ow 27 [.agg [I s.Rows,I s.Cols,I s.Publics,sl aw s.A,sl aw s.B,sl aw s.C],sl eI z] []=some (.tup [B r.1,I r.2],[]):=by
 rw [al (af:=kz) rfl]
 unfold lu at h
 simp only [kz,tW]
 have d1:= @xT
 have d2:= @vX
 exact go2
def dF (m:aA):Option (Setting×aA):=
 (aa 2 m).bind fun r_=>
 (aa 3 r_.2).bind fun r_2=>
 (aa 3 r_2.2).bind fun r_3=>
 some ((Setting.mk (wrap .i64 (1+r_.1)) (wrap .i64 (1+r_2.1)) r_3.1),r_3.2)
theorem uM {m r} (h:dF m=some r):Call tab ow 112 [.ptr 0 0 0 1] [⟨3,true,[[sl eU8 m.code,I m.at_,I m.seed]]⟩]=some (.agg [I r.1.Rate,I r.1.Queries,I r.1.Grind],[⟨3,true,[[sl eU8 r.2.code,I r.2.at_,I r.2.seed]]⟩]):=by
 rw [al (af:=fA) rfl]
 unfold dF at h
 simp only [fA,nG]
 have d1:= @bX
 exact go2
def eu (list:(List (List UInt8))) (m:aA):Option ((List UInt8)×aA):=
 br (((list.length:Nat):Int)==0) (
 some ((([]:List UInt8)),m)) (
 (aa ((list.length:Nat):Int) m).bind fun r_=>
 (atL list r_.1).bind fun x=>
 some (x,r_.2))
theorem lH {list m r} (h:eu list m=some r):Call tab ow 141 [.ptr 0 0 0 1,sl eS list] [⟨3,true,[[sl eU8 m.code,I m.at_,I m.seed]]⟩]=some (S r.1,[⟨3,true,[[sl eU8 r.2.code,I r.2.at_,I r.2.seed]]⟩]):=by
 rw [al (af:=iB) rfl]
 unfold eu at h
 simp only [iB,rf]
 have d1:= @bX
 exact go2
def eW (m:List Int) (t2:List UInt8):(List Int)×Int→Option (((List Int)×Int)⊕(((List Int)×Int×Bool)))
 | (m2,i)=>
   br (decide (i<((t2.length:Nat):Int))) (
   br (decide (0≤(wrap .i64 (i.tdiv 8)))&&decide ((wrap .i64 (i.tdiv 8)).toNat<25)) (
   (m2[(wrap .i64 (i.tdiv 8)).toNat]?).bind fun x=>
   (atL t2 i).bind fun c=>
   br (decide (0≤(wrap .u64 (wrap .i64 (8*(i.tmod 8)))))) (
   br (decide (0≤(wrap .i64 (i.tdiv 8)))&&decide ((wrap .i64 (i.tdiv 8)).toNat<25)) (
   br (decide ((wrap .i64 (i.tdiv 8)).toNat<m2.length)) (
   some (.inl ((m2.set ((wrap .i64 (i.tdiv 8)).toNat) (vp .u64 x (bo .u64 (wrap .u64 (c.toNat:Int)) (wrap .u64 (wrap .i64 (8*(i.tmod 8))))))),(wrap .i64 (i+1))))) none) none) none) none) (
   some (.inr (m2,i,decide (i<((t2.length:Nat):Int)))))
abbrev mX (m m2:List Int):List (Nat×Blk):=[(1000,⟨25,true,[ar .u64 m]⟩),(2001,⟨25,true,[ar .u64 m2]⟩)]
abbrev rE (m:List Int) (t2:List UInt8) (s:(List Int)×Int):St:=⟨[(0,S t2),(2,.ptr 1000 0 0 1),(3,.ptr 2001 0 0 1),(4,I s.2)],mX m s.1⟩
abbrev rG (m:List Int) (t2:List UInt8):((List Int)×Int×Bool)→aH×St:=fun e=>(.exit 0,⟨[(0,S t2),(2,.ptr 1000 0 0 1),(3,.ptr 2001 0 0 1),(4,I e.2.1),(9,B e.2.2)],mX m e.1⟩)
theorem A5 {m t2 s e} (h:Loop (eW m t2) s=some e):bL tab ow (.close []) nH (rE m t2 s)=some (rG m t2 e):=by
 refine lrG (fun s o h=> ?_) h
 obtain ⟨_,_⟩:=s
 simp only [eW] at h
 simp only [rE,rG,mX,nH]
 exact go2
def ng (t:(List UInt8)):Option ((List Int)):=
 (Loop (eW (nZ 25) t) ((nZ 25),0)).bind fun e_=>
 br (decide (e_.1.length=25)) (
 br (decide (e_.1.length=25)) (
 br (decide (e_.1.length=25)) (
 some e_.1) none) none) none
theorem Cm {t r} (h:ng t=some r):Call tab ow 166 [S t] []=some (.agg (ar .u64 r),[]):=by
 rw [al (af:=mr) rfl]
 unfold ng at h
 simp only [mr,w9]
 have d1:= @A5
 exact go2
def rY:Option ((List Int)):=
 some ([1,32898,9223372036854808714,9223372039002292224,32907,2147483649,9223372039002292353,9223372036854808585,138,136,2147516425,2147483658,2147516555,9223372036854775947,9223372036854808713,9223372036854808579,9223372036854808578,9223372036854775936,32778,9223372039002259466,9223372039002292353,9223372036854808704,2147483649,9223372039002292232]:List Int)
theorem B1 {r} (h:rY=some r):Call tab ow 174 [] []=some (.agg (ar .u64 r),[]):=by
 rw [al (af:=kB) rfl]
 unfold rY at h
 simp only [kB,ue]
 exact go2
def sc:Option ((List Int)):=
 some ([0,1,62,28,27,36,44,6,55,20,3,10,43,25,39,41,45,15,21,8,18,2,61,56,14]:List Int)
theorem B5 {r} (h:sc=some r):Call tab ow 175 [] []=some (.agg (ar .u64 r),[]):=by
 rw [al (af:=ky) rfl]
 unfold sc at h
 simp only [ky,tX]
 exact go2
def mM (x n:Int):Option (Int):=
 br (n==0) (
 some x) (
 br (decide (0≤n)) (
 br (decide (0≤(wrap .u64 (64-n)))) (
 some (vp .u64 (bo .u64 x n) (eG .u64 x (wrap .u64 (64-n))))) none) none)
theorem xh {x n r} (h:mM x n=some r):Call tab ow 176 [.lit (.int .u64 x),.lit (.int .u64 n)] []=some (.lit (.int .u64 r),[]):=by
 rw [al (af:=oq) rfl]
 unfold mM at h
 simp only [oq,xM]
 exact go2
end
end Go.AI.Fn
set_option linter.unusedVariables false
set_option linter.unusedSimpArgs false
set_option maxRecDepth 100000
set_option maxHeartbeats 1000000
namespace Go.AI.Fn
noncomputable section
open IntKind (wrap)
def dI (m5 m6 m7 m8:List Int) (t2:Int):(List Int)×Int→Option (((List Int)×Int)⊕(((List Int)×Int×Bool)))
 | (m9,t3)=>
   br (decide (t3<5)) (
   br (decide (0≤t3)&&decide (t3.toNat<25)) (
   (m5[t3.toNat]?).bind fun x=>
   br (decide (0≤(wrap .i64 (t3+5)))&&decide ((wrap .i64 (t3+5)).toNat<25)) (
   (m5[(wrap .i64 (t3+5)).toNat]?).bind fun x2=>
   br (decide (0≤(wrap .i64 (t3+10)))&&decide ((wrap .i64 (t3+10)).toNat<25)) (
   (m5[(wrap .i64 (t3+10)).toNat]?).bind fun x3=>
   br (decide (0≤(wrap .i64 (t3+15)))&&decide ((wrap .i64 (t3+15)).toNat<25)) (
   (m5[(wrap .i64 (t3+15)).toNat]?).bind fun x4=>
   br (decide (0≤(wrap .i64 (t3+20)))&&decide ((wrap .i64 (t3+20)).toNat<25)) (
   (m5[(wrap .i64 (t3+20)).toNat]?).bind fun x5=>
   br (decide (0≤t3)&&decide (t3.toNat<5)) (
   br (decide (t3.toNat<m9.length)) (
   some (.inl ((m9.set t3.toNat (jD .u64 (jD .u64 (jD .u64 (jD .u64 x x2) x3) x4) x5)),(wrap .i64 (t3+1))))) none) none) none) none) none) none) none) (
   some (.inr (m9,t3,decide (t3<5))))
abbrev jX (m5 m6 m7 m8 m9:List Int):List (Nat×Blk):=[(1000,⟨25,true,[ar .u64 m5]⟩),(1001,⟨25,true,[ar .u64 m6]⟩),(2001,⟨24,true,[ar .u64 m7]⟩),(3001,⟨25,true,[ar .u64 m8]⟩),(7001,⟨5,true,[ar .u64 m9]⟩)]
abbrev oX (m5 m6 m7 m8:List Int) (t2:Int) (s:(List Int)×Int):St:=⟨[(1,.ptr 1000 0 0 1),(2,.ptr 1001 0 0 1),(3,.ptr 2001 0 0 1),(4,.ptr 3001 0 0 1),(5,I t2),(6,.ptr 7001 0 0 1),(7,I s.2)],jX m5 m6 m7 m8 s.1⟩
abbrev p8 (m5 m6 m7 m8:List Int) (t2:Int):((List Int)×Int×Bool)→aH×St:=fun e=>(.exit 2,⟨[(1,.ptr 1000 0 0 1),(2,.ptr 1001 0 0 1),(3,.ptr 2001 0 0 1),(4,.ptr 3001 0 0 1),(5,I t2),(6,.ptr 7001 0 0 1),(7,I e.2.1),(22,B e.2.2)],jX m5 m6 m7 m8 e.1⟩)
theorem wA {m5 m6 m7 m8 t2 s e} (h:Loop (dI m5 m6 m7 m8 t2) s=some e):bL tab ow (.close []) k8 (oX m5 m6 m7 m8 t2 s)=some (p8 m5 m6 m7 m8 t2 e):=by
 refine lrG (fun s o h=> ?_) h
 obtain ⟨_,_⟩:=s
 simp only [dI] at h
 simp only [oX,p8,jX,k8]
 exact go2
def dB (m11 m12 m13 m14:List Int) (t4:Int):(List Int)×Int→Option (((List Int)×Int)⊕(((List Int)×Int×Bool)))
 | (m10,t5)=>
   br (decide (t5<25)) (
   br (decide (0≤t5)&&decide (t5.toNat<25)) (
   (m10[t5.toNat]?).bind fun x6=>
   br (decide (0≤((wrap .i64 (t5+4)).tmod 5))&&decide (((wrap .i64 (t5+4)).tmod 5).toNat<5)) (
   (m14[((wrap .i64 (t5+4)).tmod 5).toNat]?).bind fun x7=>
   br (decide (0≤((wrap .i64 (t5+1)).tmod 5))&&decide (((wrap .i64 (t5+1)).tmod 5).toNat<5)) (
   (m14[((wrap .i64 (t5+1)).tmod 5).toNat]?).bind fun x8=>
   (mM x8 1).bind fun r_3=>
   br (decide (0≤t5)&&decide (t5.toNat<25)) (
   br (decide (t5.toNat<m10.length)) (
   some (.inl ((m10.set t5.toNat (jD .u64 x6 (jD .u64 x7 r_3))),(wrap .i64 (t5+1))))) none) none) none) none) none) (
   some (.inr (m10,t5,decide (t5<25))))
abbrev jV (m11 m12 m13 m14 m10:List Int):List (Nat×Blk):=[(1000,⟨25,true,[ar .u64 m10]⟩),(1001,⟨25,true,[ar .u64 m11]⟩),(2001,⟨24,true,[ar .u64 m12]⟩),(3001,⟨25,true,[ar .u64 m13]⟩),(7001,⟨5,true,[ar .u64 m14]⟩)]
abbrev pH (m11 m12 m13 m14:List Int) (t4:Int) (s:(List Int)×Int):St:=⟨[(1,.ptr 1000 0 0 1),(2,.ptr 1001 0 0 1),(3,.ptr 2001 0 0 1),(4,.ptr 3001 0 0 1),(5,I t4),(6,.ptr 7001 0 0 1),(8,I s.2)],jV m11 m12 m13 m14 s.1⟩
abbrev p5 (m11 m12 m13 m14:List Int) (t4:Int):((List Int)×Int×Bool)→aH×St:=fun e=>(.exit 4,⟨[(1,.ptr 1000 0 0 1),(2,.ptr 1001 0 0 1),(3,.ptr 2001 0 0 1),(4,.ptr 3001 0 0 1),(5,I t4),(6,.ptr 7001 0 0 1),(8,I e.2.1),(51,B e.2.2)],jV m11 m12 m13 m14 e.1⟩)
theorem wX {m11 m12 m13 m14 t4 s e} (h:Loop (dB m11 m12 m13 m14 t4) s=some e):bL tab ow (.close [15013]) jn (pH m11 m12 m13 m14 t4 s)=some (p5 m11 m12 m13 m14 t4 e):=by
 refine lrG (fun s o h=> ?_) h
 obtain ⟨_,_⟩:=s
 simp only [dB] at h
 simp only [pH,p5,jV,jn]
 have d1:= @xh
 exact go2
def dE (m21 m22 m23 m24 m25:List Int) (t8 t9:Int):(List Int)×Int→Option (((List Int)×Int)⊕(((List Int)×Int×Bool)))
 | (m26,t10)=>
   br (decide (t10<5)) (
   br (decide (0≤(wrap .i64 (t9+(wrap .i64 (5*t10)))))&&decide ((wrap .i64 (t9+(wrap .i64 (5*t10)))).toNat<25)) (
   (m21[(wrap .i64 (t9+(wrap .i64 (5*t10)))).toNat]?).bind fun x9=>
   br (decide (0≤(wrap .i64 (t9+(wrap .i64 (5*t10)))))&&decide ((wrap .i64 (t9+(wrap .i64 (5*t10)))).toNat<25)) (
   (m24[(wrap .i64 (t9+(wrap .i64 (5*t10)))).toNat]?).bind fun x10=>
   (mM x9 x10).bind fun r_4=>
   br (decide (0≤(wrap .i64 (t10+(wrap .i64 (5*((wrap .i64 ((wrap .i64 (2*t9))+(wrap .i64 (3*t10)))).tmod 5))))))&&decide ((wrap .i64 (t10+(wrap .i64 (5*((wrap .i64 ((wrap .i64 (2*t9))+(wrap .i64 (3*t10)))).tmod 5))))).toNat<25)) (
   br (decide ((wrap .i64 (t10+(wrap .i64 (5*((wrap .i64 ((wrap .i64 (2*t9))+(wrap .i64 (3*t10)))).tmod 5))))).toNat<m26.length)) (
   some (.inl ((m26.set ((wrap .i64 (t10+(wrap .i64 (5*((wrap .i64 ((wrap .i64 (2*t9))+(wrap .i64 (3*t10)))).tmod 5))))).toNat) r_4),(wrap .i64 (t10+1))))) none) none) none) none) (
   some (.inr (m26,t10,decide (t10<5))))
abbrev kn (m21 m22 m23 m24 m25 m26:List Int):List (Nat×Blk):=[(1000,⟨25,true,[ar .u64 m21]⟩),(1001,⟨25,true,[ar .u64 m22]⟩),(2001,⟨24,true,[ar .u64 m23]⟩),(3001,⟨25,true,[ar .u64 m24]⟩),(7001,⟨5,true,[ar .u64 m25]⟩),(16001,⟨25,true,[ar .u64 m26]⟩)]
abbrev pv (m21 m22 m23 m24 m25:List Int) (t8 t9:Int) (s:(List Int)×Int):St:=⟨[(1,.ptr 1000 0 0 1),(2,.ptr 1001 0 0 1),(3,.ptr 2001 0 0 1),(4,.ptr 3001 0 0 1),(5,I t8),(9,.ptr 16001 0 0 1),(10,I t9),(11,I s.2)],kn m21 m22 m23 m24 m25 s.1⟩
abbrev pz (m21 m22 m23 m24 m25:List Int) (t8 t9:Int):((List Int)×Int×Bool)→aH×St:=fun e=>(.exit 8,⟨[(1,.ptr 1000 0 0 1),(2,.ptr 1001 0 0 1),(3,.ptr 2001 0 0 1),(4,.ptr 3001 0 0 1),(5,I t8),(9,.ptr 16001 0 0 1),(10,I t9),(11,I e.2.1),(77,B e.2.2)],kn m21 m22 m23 m24 m25 e.1⟩)
theorem wo {m21 m22 m23 m24 m25 t8 t9 s e} (h:Loop (dE m21 m22 m23 m24 m25 t8 t9) s=some e):bL tab ow (.close [23021]) j8 (pv m21 m22 m23 m24 m25 t8 t9 s)=some (pz m21 m22 m23 m24 m25 t8 t9 e):=by
 refine lrG (fun s o h=> ?_) h
 obtain ⟨_,_⟩:=s
 simp only [dE] at h
 simp only [pv,pz,kn,j8]
 have d1:= @xh
 exact go2
def dD (m15 m16 m17 m18 m19:List Int) (t6:Int):(List Int)×Int→Option (((List Int)×Int)⊕(((List Int)×Int×Bool)))
 | (m20,t7)=>
   br (decide (t7<5)) (
   (Loop (dE m15 m16 m17 m18 m19 t6 t7) (m20,0)).bind fun e_3=>
   some (.inl (e_3.1,(wrap .i64 (t7+1))))) (
   some (.inr (m20,t7,decide (t7<5))))
abbrev k9 (m15 m16 m17 m18 m19 m20:List Int):List (Nat×Blk):=[(1000,⟨25,true,[ar .u64 m15]⟩),(1001,⟨25,true,[ar .u64 m16]⟩),(2001,⟨24,true,[ar .u64 m17]⟩),(3001,⟨25,true,[ar .u64 m18]⟩),(7001,⟨5,true,[ar .u64 m19]⟩),(16001,⟨25,true,[ar .u64 m20]⟩)]
abbrev pk (m15 m16 m17 m18 m19:List Int) (t6:Int) (s:(List Int)×Int):St:=⟨[(1,.ptr 1000 0 0 1),(2,.ptr 1001 0 0 1),(3,.ptr 2001 0 0 1),(4,.ptr 3001 0 0 1),(5,I t6),(9,.ptr 16001 0 0 1),(10,I s.2)],k9 m15 m16 m17 m18 m19 s.1⟩
abbrev px (m15 m16 m17 m18 m19:List Int) (t6:Int):((List Int)×Int×Bool)→aH×St:=fun e=>(.exit 6,⟨[(1,.ptr 1000 0 0 1),(2,.ptr 1001 0 0 1),(3,.ptr 2001 0 0 1),(4,.ptr 3001 0 0 1),(5,I t6),(9,.ptr 16001 0 0 1),(10,I e.2.1),(73,B e.2.2)],k9 m15 m16 m17 m18 m19 e.1⟩)
theorem wU {m15 m16 m17 m18 m19 t6 s e} (h:Loop (dD m15 m16 m17 m18 m19 t6) s=some e):bL tab ow (.close [23021]) jx (pk m15 m16 m17 m18 m19 t6 s)=some (px m15 m16 m17 m18 m19 t6 e):=by
 refine lrG (fun s o h=> ?_) h
 obtain ⟨_,_⟩:=s
 simp only [dD] at h
 simp only [pk,px,k9,jx]
 have d1:= @wo
 exact go2
def dA (m34 m35 m36 m37 m38:List Int) (t13 t14:Int):(List Int)×Int→Option (((List Int)×Int)⊕(((List Int)×Int×Bool)))
 | (m33,t15)=>
   br (decide (t15<5)) (
   br (decide (0≤(wrap .i64 (t14+(wrap .i64 (5*t15)))))&&decide ((wrap .i64 (t14+(wrap .i64 (5*t15)))).toNat<25)) (
   (m38[(wrap .i64 (t14+(wrap .i64 (5*t15)))).toNat]?).bind fun x11=>
   br (decide (0≤(wrap .i64 (((wrap .i64 (t14+1)).tmod 5)+(wrap .i64 (5*t15)))))&&decide ((wrap .i64 (((wrap .i64 (t14+1)).tmod 5)+(wrap .i64 (5*t15)))).toNat<25)) (
   (m38[(wrap .i64 (((wrap .i64 (t14+1)).tmod 5)+(wrap .i64 (5*t15)))).toNat]?).bind fun x12=>
   br (decide (0≤(wrap .i64 (((wrap .i64 (t14+2)).tmod 5)+(wrap .i64 (5*t15)))))&&decide ((wrap .i64 (((wrap .i64 (t14+2)).tmod 5)+(wrap .i64 (5*t15)))).toNat<25)) (
   (m38[(wrap .i64 (((wrap .i64 (t14+2)).tmod 5)+(wrap .i64 (5*t15)))).toNat]?).bind fun x13=>
   br (decide (0≤(wrap .i64 (t14+(wrap .i64 (5*t15)))))&&decide ((wrap .i64 (t14+(wrap .i64 (5*t15)))).toNat<25)) (
   br (decide ((wrap .i64 (t14+(wrap .i64 (5*t15)))).toNat<m33.length)) (
   some (.inl ((m33.set ((wrap .i64 (t14+(wrap .i64 (5*t15)))).toNat) (jD .u64 x11 (bi .u64 (bu .u64 x12) x13))),(wrap .i64 (t15+1))))) none) none) none) none) none) (
   some (.inr (m33,t15,decide (t15<5))))
abbrev kh (m34 m35 m36 m37 m38 m33:List Int):List (Nat×Blk):=[(1000,⟨25,true,[ar .u64 m33]⟩),(1001,⟨25,true,[ar .u64 m34]⟩),(2001,⟨24,true,[ar .u64 m35]⟩),(3001,⟨25,true,[ar .u64 m36]⟩),(7001,⟨5,true,[ar .u64 m37]⟩),(16001,⟨25,true,[ar .u64 m38]⟩)]
abbrev pL (m34 m35 m36 m37 m38:List Int) (t13 t14:Int) (s:(List Int)×Int):St:=⟨[(1,.ptr 1000 0 0 1),(2,.ptr 1001 0 0 1),(3,.ptr 2001 0 0 1),(4,.ptr 3001 0 0 1),(5,I t13),(9,.ptr 16001 0 0 1),(12,I t14),(13,I s.2)],kh m34 m35 m36 m37 m38 s.1⟩
abbrev pK (m34 m35 m36 m37 m38:List Int) (t13 t14:Int):((List Int)×Int×Bool)→aH×St:=fun e=>(.exit 12,⟨[(1,.ptr 1000 0 0 1),(2,.ptr 1001 0 0 1),(3,.ptr 2001 0 0 1),(4,.ptr 3001 0 0 1),(5,I t13),(9,.ptr 16001 0 0 1),(12,I t14),(13,I e.2.1),(108,B e.2.2)],kh m34 m35 m36 m37 m38 e.1⟩)
theorem wD {m34 m35 m36 m37 m38 t13 t14 s e} (h:Loop (dA m34 m35 m36 m37 m38 t13 t14) s=some e):bL tab ow (.close []) js (pL m34 m35 m36 m37 m38 t13 t14 s)=some (pK m34 m35 m36 m37 m38 t13 t14 e):=by
 refine lrG (fun s o h=> ?_) h
 obtain ⟨_,_⟩:=s
 simp only [dA] at h
 simp only [pL,pK,kh,js]
 exact go2
def dG (m28 m29 m30 m31 m32:List Int) (t11:Int):(List Int)×Int→Option (((List Int)×Int)⊕(((List Int)×Int×Bool)))
 | (m27,t12)=>
   br (decide (t12<5)) (
   (Loop (dA m28 m29 m30 m31 m32 t11 t12) (m27,0)).bind fun e_5=>
   some (.inl (e_5.1,(wrap .i64 (t12+1))))) (
   some (.inr (m27,t12,decide (t12<5))))
abbrev kg (m28 m29 m30 m31 m32 m27:List Int):List (Nat×Blk):=[(1000,⟨25,true,[ar .u64 m27]⟩),(1001,⟨25,true,[ar .u64 m28]⟩),(2001,⟨24,true,[ar .u64 m29]⟩),(3001,⟨25,true,[ar .u64 m30]⟩),(7001,⟨5,true,[ar .u64 m31]⟩),(16001,⟨25,true,[ar .u64 m32]⟩)]
abbrev pu (m28 m29 m30 m31 m32:List Int) (t11:Int) (s:(List Int)×Int):St:=⟨[(1,.ptr 1000 0 0 1),(2,.ptr 1001 0 0 1),(3,.ptr 2001 0 0 1),(4,.ptr 3001 0 0 1),(5,I t11),(9,.ptr 16001 0 0 1),(12,I s.2)],kg m28 m29 m30 m31 m32 s.1⟩
abbrev ph (m28 m29 m30 m31 m32:List Int) (t11:Int):((List Int)×Int×Bool)→aH×St:=fun e=>(.exit 10,⟨[(1,.ptr 1000 0 0 1),(2,.ptr 1001 0 0 1),(3,.ptr 2001 0 0 1),(4,.ptr 3001 0 0 1),(5,I t11),(9,.ptr 16001 0 0 1),(12,I e.2.1),(104,B e.2.2)],kg m28 m29 m30 m31 m32 e.1⟩)
theorem wu {m28 m29 m30 m31 m32 t11 s e} (h:Loop (dG m28 m29 m30 m31 m32 t11) s=some e):bL tab ow (.close []) jd (pu m28 m29 m30 m31 m32 t11 s)=some (ph m28 m29 m30 m31 m32 t11 e):=by
 refine lrG (fun s o h=> ?_) h
 obtain ⟨_,_⟩:=s
 simp only [dG] at h
 simp only [pu,ph,kg,jd]
 have d1:= @wD
 exact go2
def dC (m2 m3 m4:List Int):(List Int)×Int→Option (((List Int)×Int)⊕(((List Int)×Int×Bool)))
 | (m,t)=>
   br (decide (t<24)) (
   (Loop (dI m m2 m3 m4 t) ((nZ 5),0)).bind fun e_=>
   (Loop (dB m2 m3 m4 e_.1 t) (m,0)).bind fun e_2=>
   (Loop (dD e_2.1 m2 m3 m4 e_.1 t) ((nZ 25),0)).bind fun e_4=>
   (Loop (dG m2 m3 m4 e_.1 e_4.1 t) (e_2.1,0)).bind fun e_6=>
   (e_6.1[0]?).bind fun x14=>
   br (decide (0≤t)&&decide (t.toNat<24)) (
   (m3[t.toNat]?).bind fun x15=>
   br (decide (0<e_6.1.length)) (
   some (.inl ((e_6.1.set 0 (jD .u64 x14 x15)),(wrap .i64 (t+1))))) none) none) (
   some (.inr (m,t,decide (t<24))))
abbrev jZ (m2 m3 m4 m:List Int):List (Nat×Blk):=[(1000,⟨25,true,[ar .u64 m]⟩),(1001,⟨25,true,[ar .u64 m2]⟩),(2001,⟨24,true,[ar .u64 m3]⟩),(3001,⟨25,true,[ar .u64 m4]⟩)]
abbrev pe (m2 m3 m4:List Int) (s:(List Int)×Int):St:=⟨[(1,.ptr 1000 0 0 1),(2,.ptr 1001 0 0 1),(3,.ptr 2001 0 0 1),(4,.ptr 3001 0 0 1),(5,I s.2)],jZ m2 m3 m4 s.1⟩
abbrev pf (m2 m3 m4:List Int):((List Int)×Int×Bool)→aH×St:=fun e=>(.exit 0,⟨[(1,.ptr 1000 0 0 1),(2,.ptr 1001 0 0 1),(3,.ptr 2001 0 0 1),(4,.ptr 3001 0 0 1),(5,I e.2.1),(17,B e.2.2)],jZ m2 m3 m4 e.1⟩)
theorem wP {m2 m3 m4 s e} (h:Loop (dC m2 m3 m4) s=some e):bL tab ow (.close [7001,15013,16001,23021]) km (pe m2 m3 m4 s)=some (pf m2 m3 m4 e):=by
 refine lrG (fun s o h=> ?_) h
 obtain ⟨_,_⟩:=s
 simp only [dC] at h
 simp only [pe,pf,jZ,km]
 have d1:= @wA
 have d2:= @wX
 have d3:= @wU
 have d4:= @wu
 exact go2
def jz (ListtoArray:(List Int)):Option ((List Int)):=
 br (decide (ListtoArray.length=25)) (
 (rY).bind fun r_=>
 br (decide (r_.length=24)) (
 (sc).bind fun r_2=>
 br (decide (r_2.length=25)) (
 (Loop (dC (nZ 25) r_ r_2) (ListtoArray,0)).bind fun e_7=>
 br (decide (e_7.1.length=25)) (
 br (decide (e_7.1.length=25)) (
 br (decide (e_7.1.length=25)) (
 some e_7.1) none) none) none) none) none) none
theorem yv {ListtoArray r} (h:jz ListtoArray=some r):Call tab ow 167 [.agg (ar .u64 ListtoArray)] []=some (.agg (ar .u64 r),[]):=by
 rw [al (af:=jr) rfl]
 unfold jz at h
 simp only [jr,rO]
 have d1:= @B1
 have d2:= @B5
 have d3:= @wP
 exact go2
section
theorem CH:mkR 2000 []=rws eU8 []:=rfl
attribute [local go_sem] CH
theorem Ci:mkR 6011 []=rws eU8 []:=rfl
attribute [local go_sem] Ci
def fW (m:List Int) (n2:Int):(List UInt8)×Int→Option (((List UInt8)×Int)⊕(((List UInt8)×Int×Bool)))
 | (l,i)=>
   br (decide (i<n2)) (
   br (decide (0≤(wrap .i64 (i.tdiv 8)))&&decide ((wrap .i64 (i.tdiv 8)).toNat<25)) (
   (m[(wrap .i64 (i.tdiv 8)).toNat]?).bind fun x=>
   br (decide (0≤(wrap .u64 (wrap .i64 (8*(i.tmod 8)))))) (
   br (aK ((l++([(UInt8.ofInt (eG .u64 x (wrap .u64 (wrap .i64 (8*(i.tmod 8))))))]:List UInt8)).length) 1) (
   some (.inl ((l++([(UInt8.ofInt (eG .u64 x (wrap .u64 (wrap .i64 (8*(i.tmod 8))))))]:List UInt8)),(wrap .i64 (i+1))))) none) none) none) (
   some (.inr (l,i,decide (i<n2))))
abbrev oL (m:List Int) (l:List UInt8):List (Nat×Blk):=[(1000,⟨25,true,[ar .u64 m]⟩),(2000,⟨1,false,rws eU8 l⟩)]
abbrev tV (m:List Int) (n2:Int) (s:(List UInt8)×Int):St:=⟨[(1,I n2),(2,.ptr 1000 0 0 1),(5,.sl 2000 0 s.1.length),(6,I s.2)],oL m s.1⟩
abbrev ui (m:List Int) (n2:Int):((List UInt8)×Int×Bool)→aH×St:=fun e=>(.exit 0,⟨[(1,I n2),(2,.ptr 1000 0 0 1),(5,.sl 2000 0 e.1.length),(6,I e.2.1),(10,B e.2.2)],oL m e.1⟩)
theorem AZ {m n2 s e} (h:Loop (fW m n2) s=some e):bL tab ow (.close [6011,6012]) ug (tV m n2 s)=some (ui m n2 e):=by
 refine lrG (fun s o h=> ?_) h
 obtain ⟨_,_⟩:=s
 simp only [fW] at h
 simp only [tV,ui,oL,ug,tY]
 exact go2
def pt (a:(List Int)) (n:Int):Option ((List UInt8)):=
 br (decide (a.length=25)) (
 (Loop (fW a n) (([]:List UInt8),0)).bind fun e_=>
 some e_.1) none
theorem E6 {a n r} (h:pt a n=some r):Call tab ow 168 [.agg (ar .u64 a),I n] []=some (S r,[]):=by
 rw [al (af:=nS) rfl]
 unfold pt at h
 simp only [nS,sH]
 have d1:= @AZ
 exact go2
end
section
theorem BX:mkR 2002 []=rws eU8 []:=rfl
attribute [local go_sem] BX
theorem D1:mkR 4001 []=rws eU8 []:=rfl
attribute [local go_sem] D1
def ew (l2:List UInt8):(List UInt8)→Option (((List UInt8))⊕(((List UInt8)×Bool)))
 |l=>
  br ((((l.length:Nat):Int).tmod 136) !=0) (
  br (aK ((l++([(0:UInt8)]:List UInt8)).length) 1) (
  some (.inl (l++([(0:UInt8)]:List UInt8)))) none) (
  some (.inr (l,((((l.length:Nat):Int).tmod 136) !=0))))
abbrev oM (l2 l:List UInt8):List (Nat×Blk):=[(2001,⟨1,false,rws eU8 l⟩),(2002,⟨1,false,rws eU8 l2⟩)]
abbrev tH (l2:List UInt8) (s:(List UInt8)):St:=⟨[(3,.sl 2001 0 s.length)],oM l2 s⟩
abbrev u6 (l2:List UInt8):((List UInt8)×Bool)→aH×St:=fun e=>(.exit 0,⟨[(3,.sl 2001 0 e.1.length),(15,B e.2)],oM l2 e.1⟩)
theorem Az {l2 s e} (h:Loop (ew l2) s=some e):bL tab ow (.close [4001,4002]) oO (tH l2 s)=some (u6 l2 e):=by
 refine lrG (fun s o h=> ?_) h
 simp only [ew] at h
 simp only [tH,u6,oM,oO]
 exact go2
def g8 (l4:List UInt8) (m4:List Int) (m5:List UInt8) (at_2:Int):(List Int)×Int→Option (((List Int)×Int)⊕(((List Int)×Int×Bool)))
 | (m3,i)=>
   br (decide (i<25)) (
   br (decide (0≤i)&&decide (i.toNat<25)) (
   (m3[i.toNat]?).bind fun x3=>
   br (decide (0≤i)&&decide (i.toNat<25)) (
   (m4[i.toNat]?).bind fun x4=>
   br (decide (0≤i)&&decide (i.toNat<25)) (
   br (decide (i.toNat<m3.length)) (
   some (.inl ((m3.set i.toNat (jD .u64 x3 x4)),(wrap .i64 (i+1))))) none) none) none) none) (
   some (.inr (m3,i,decide (i<25))))
abbrev oR (l4:List UInt8) (m4 m3:List Int):List (Nat×Blk):=[(2002,⟨1,false,rws eU8 l4⟩),(6001,⟨25,true,[ar .u64 m3]⟩),(10007,⟨25,true,[ar .u64 m4]⟩)]
abbrev tT (l4:List UInt8) (m4:List Int) (m5:List UInt8) (at_2:Int) (s:(List Int)×Int):St:=⟨[(3,sl eU8 m5),(4,.ptr 6001 0 0 1),(5,I at_2),(6,.ptr 10007 0 0 1),(7,I s.2)],oR l4 m4 s.1⟩
abbrev uj (l4:List UInt8) (m4:List Int) (m5:List UInt8) (at_2:Int):((List Int)×Int×Bool)→aH×St:=fun e=>(.exit 4,⟨[(3,sl eU8 m5),(4,.ptr 6001 0 0 1),(5,I at_2),(6,.ptr 10007 0 0 1),(7,I e.2.1),(42,B e.2.2)],oR l4 m4 e.1⟩)
theorem AO {l4 m4 m5 at_2 s e} (h:Loop (g8 l4 m4 m5 at_2) s=some e):bL tab ow (.close []) nl (tT l4 m4 m5 at_2 s)=some (uj l4 m4 m5 at_2 e):=by
 refine lrG (fun s o h=> ?_) h
 obtain ⟨_,_⟩:=s
 simp only [g8] at h
 simp only [tT,uj,oR,nl]
 exact go2
def fX (l3 m2:List UInt8):(List Int)×Int→Option (((List Int)×Int)⊕(((List Int)×Int×Bool)))
 | (m,at_)=>
   br (decide (at_<((m2.length:Nat):Int))) (
   (oZ m2 at_ (wrap .i64 (at_+136))).bind fun y=>
   (ng y).bind fun r_=>
   br (decide (r_.length=25)) (
   (Loop (g8 l3 r_ m2 at_) (m,0)).bind fun e_2=>
   br (decide (e_2.1.length=25)) (
   (jz e_2.1).bind fun r_2=>
   br (decide (r_2.length=25)&&decide (e_2.1.length=25)) (
   some (.inl (r_2,(wrap .i64 (at_+136))))) none) none) none) (
   some (.inr (m,at_,decide (at_<((m2.length:Nat):Int)))))
abbrev kF (l3:List UInt8) (m:List Int):List (Nat×Blk):=[(2002,⟨1,false,rws eU8 l3⟩),(6001,⟨25,true,[ar .u64 m]⟩)]
abbrev oF (l3 m2:List UInt8) (s:(List Int)×Int):St:=⟨[(3,sl eU8 m2),(4,.ptr 6001 0 0 1),(5,I s.2)],kF l3 s.1⟩
abbrev ul (l3 m2:List UInt8):((List Int)×Int×Bool)→aH×St:=fun e=>(.exit 2,⟨[(3,sl eU8 m2),(4,.ptr 6001 0 0 1),(5,I e.2.1),(31,B e.2.2)],kF l3 e.1⟩)
theorem AJ {l3 m2 s e} (h:Loop (fX l3 m2) s=some e):bL tab ow (.close [10006,10007,15001,2001]) oK (oF l3 m2 s)=some (ul l3 m2 e):=by
 refine lrG (fun s o h=> ?_) h
 obtain ⟨_,_⟩:=s
 simp only [fX] at h
 simp only [oF,ul,kF,oK]
 have d1:= @Cm
 have d2:= @AO
 have d3:= @yv
 exact go2
def jW (b:(List UInt8)):Option ((List UInt8)):=
 br (aK b.length 1) (
 br (aK ((b++([(1:UInt8)]:List UInt8)).length) 1) (
 (Loop (ew ([(1:UInt8)]:List UInt8)) (b++([(1:UInt8)]:List UInt8))).bind fun e_=>
 br (decide (0≤(wrap .i64 (((e_.1.length:Nat):Int)-1)))) (
 br (decide ((wrap .i64 (((e_.1.length:Nat):Int)-1)).toNat<e_.1.length)) (
 (e_.1[(wrap .i64 (((e_.1.length:Nat):Int)-1)).toNat]?).bind fun x=>
 br (decide (0≤(wrap .i64 (((e_.1.length:Nat):Int)-1)))) (
 br (decide ((wrap .i64 (((e_.1.length:Nat):Int)-1)).toNat<e_.1.length)) (
 (e_.1[(wrap .i64 (((e_.1.length:Nat):Int)-1)).toNat]?).bind fun x2=>
 (Loop (fX ([(1:UInt8)]:List UInt8) (e_.1.set ((wrap .i64 (((e_.1.length:Nat):Int)-1)).toNat) (UInt8.ofInt (vp .u8 (x.toNat:Int) 128)))) ((nZ 25),0)).bind fun e_3=>
 br (decide (e_3.1.length=25)) (
 (pt e_3.1 32).bind fun r_3=>
 some r_3) none) none) none) none) none) none) none
theorem sm {b r} (h:jW b=some r):Call tab ow 153 [S b] []=some (S r,[]):=by
 rw [al (af:=nR) rfl]
 unfold jW at h
 simp only [nR,xu]
 have d1:= @Az
 have d2:= @AJ
 simp only [oF,kF] at d2
 have d3:= @E6
 exact go2
end
def rB (label:(List UInt8)) (list:(List Ext)):Option (Source):=
 br (aK ((([115,111,117,114,99,101]:List UInt8)).length+label.length) 1) (
 (jW ((([115,111,117,114,99,101]:List UInt8))++label)).bind fun r_=>
 some (Source.mk list 0 r_ 0)) none
theorem Iu {label list r} (h:rB label list=some r):Call tab ow 140 [S label,sl gy list] []=some (.agg [sl gy r.Script,I r.At,S r.State,I r.Count],[]):=by
 rw [al (af:=pW) rfl]
 unfold rB at h
 simp only [pW,yA]
 have d1:= @sm
 exact go2
def jq (m:aA):Option (Ext×aA):=
 (aL 4 m).bind fun r_=>
 br r_.1 (
 (ai r_.2).bind fun r_2=>
 some ((Ext.mk r_2.1 0),r_2.2)) (
 (ai r_.2).bind fun r_3=>
 (ai r_3.2).bind fun r_4=>
 some ((Ext.mk r_3.1 r_4.1),r_4.2))
theorem zg {m r} (h:jq m=some r):Call tab ow 114 [.ptr 0 0 0 1] [⟨3,true,[[sl eU8 m.code,I m.at_,I m.seed]]⟩]=some (.agg [I r.1.A,I r.1.B],[⟨3,true,[[sl eU8 r.2.code,I r.2.at_,I r.2.seed]]⟩]):=by
 rw [al (af:=jl) rfl]
 unfold jq at h
 simp only [jl,se]
 have d1:= @cK
 have d2:= @fk
 exact go2
section
theorem wt:mkR 2000 []=rws gy []:=rfl
attribute [local go_sem] wt
theorem wC:mkR 6003 []=rws gy []:=rfl
attribute [local go_sem] wC
def dj (n2:Int):(List Ext)×Int×(List UInt8)×Int×Int→Option (((List Ext)×Int×(List UInt8)×Int×Int)⊕(((List Ext)×Int×Bool×(List UInt8)×Int×Int)))
 | (l,i,c,c2,c3)=>
   br (decide (i<n2)) (
   (jq (aA.mk c c2 c3)).bind fun r_=>
   br (aK ((l++([r_.1]:List Ext)).length) 16) (
   some (.inl ((l++([r_.1]:List Ext)),(wrap .i64 (i+1)),r_.2.code,r_.2.at_,r_.2.seed))) none) (
   some (.inr (l,i,decide (i<n2),c,c2,c3)))
abbrev jo (l:List Ext) (c:List UInt8) (c2 c3:Int):List (Nat×Blk):=[(0,⟨3,true,[[sl eU8 c,I c2,I c3]]⟩),(2000,⟨2,false,rws gy l⟩)]
abbrev o6 (n2:Int) (s:(List Ext)×Int×(List UInt8)×Int×Int):St:=⟨[(0,.ptr 0 0 0 1),(1,I n2),(5,.sl 2000 0 s.1.length),(6,I s.2.1)],jo s.1 s.2.2.1 s.2.2.2.1 s.2.2.2.2⟩
abbrev od (n2:Int):((List Ext)×Int×Bool×(List UInt8)×Int×Int)→aH×St:=fun e=>(.exit 0,⟨[(0,.ptr 0 0 0 1),(1,I n2),(5,.sl 2000 0 e.1.length),(6,I e.2.1),(10,B e.2.2.1)],jo e.1 e.2.2.2.1 e.2.2.2.2.1 e.2.2.2.2.2⟩)
theorem vP {n2 s e} (h:Loop (dj n2) s=some e):bL tab ow (.close [6002,6003,6004]) oo (o6 n2 s)=some (od n2 e):=by
 refine lrG (fun s o h=> ?_) h
 obtain ⟨_,_,_,_,_⟩:=s
 simp only [dj] at h
 simp only [o6,od,jo,oo,nQ]
 have d1:= @zg
 exact go2
def iw (n:Int) (m:aA):Option ((List Ext)×aA):=
 (Loop (dj n) (([]:List Ext),0,m.code,m.at_,m.seed)).bind fun e_=>
 some (e_.1,(aA.mk e_.2.2.2.1 e_.2.2.2.2.1 e_.2.2.2.2.2))
theorem xO {n m r} (h:iw n m=some r):Call tab ow 73 [.ptr 0 0 0 1,I n] [⟨3,true,[[sl eU8 m.code,I m.at_,I m.seed]]⟩]=some (sl gy r.1,[⟨3,true,[[sl eU8 r.2.code,I r.2.at_,I r.2.seed]]⟩]):=by
 rw [al (af:=iE) rfl]
 unfold iw at h
 simp only [iE,lO]
 have d1:= @vP
 exact go2
end
section
theorem zk:mkR 2000 []=rws eU8 []:=rfl
attribute [local go_sem] zk
theorem zf:mkR 6007 []=rws eU8 []:=rfl
attribute [local go_sem] zf
def lG (n2:Int):(List UInt8)×Int→Option (((List UInt8)×Int)⊕(((List UInt8)×Int×Bool)))
 | (l,i)=>
   br (decide (i≥0)) (
   br (decide (0≤(wrap .u64 (wrap .i64 (8*i))))) (
   br (aK ((l++([(UInt8.ofInt (eG .i64 n2 (wrap .u64 (wrap .i64 (8*i)))))]:List UInt8)).length) 1) (
   some (.inl ((l++([(UInt8.ofInt (eG .i64 n2 (wrap .u64 (wrap .i64 (8*i)))))]:List UInt8)),(wrap .i64 (i-1))))) none) none) (
   some (.inr (l,i,decide (i≥0))))
abbrev qJ (n2:Int) (s:(List UInt8)×Int):St:=⟨[(0,I n2),(5,.sl 2000 0 s.1.length),(6,I s.2)],[(2000,⟨1,false,rws eU8 s.1⟩)]⟩
abbrev rm (n2:Int):((List UInt8)×Int×Bool)→aH×St:=fun e=>(.exit 0,⟨[(0,I n2),(5,.sl 2000 0 e.1.length),(6,I e.2.1),(11,B e.2.2)],[(2000,⟨1,false,rws eU8 e.1⟩)]⟩)
theorem y7 {n2 s e} (h:Loop (lG n2) s=some e):bL tab ow (.close [6007,6008]) qP (qJ n2 s)=some (rm n2 e):=by
 refine lrG (fun s o h=> ?_) h
 obtain ⟨_,_⟩:=s
 simp only [lG] at h
 simp only [qJ,rm,qP,qO]
 exact go2
def iY (n size:Int):Option ((List UInt8)):=
 (Loop (lG n) (([]:List UInt8),(wrap .i64 (size-1)))).bind fun e_=>
 some e_.1
theorem u5 {n size r} (h:iY n size=some r):Call tab ow 154 [I n,I size] []=some (sl eU8 r,[]):=by
 rw [al (af:=kE) rfl]
 unfold iY at h
 simp only [kE,oT]
 have d1:= @y7
 exact go2
end
def j2 (s:Source) (t:(List UInt8)):Option (Source):=
 br (aK (s.State.length+(([97,98,115,111,114,98]:List UInt8)).length) 1) (
 (iY ((t.length:Nat):Int) 4).bind fun r_=>
 br (aK ((s.State++(([97,98,115,111,114,98]:List UInt8))).length+r_.length) 1) (
 br (aK (((s.State++(([97,98,115,111,114,98]:List UInt8)))++r_).length+t.length) 1) (
 (jW (((s.State++(([97,98,115,111,114,98]:List UInt8)))++r_)++t)).bind fun r_2=>
 some (Source.mk s.Script s.At r_2 0)) none) none) none
theorem uf {s t r} (h:j2 s t=some r):Call tab ow 142 [.agg [sl gy s.Script,I s.At,S s.State,I s.Count],S t] []=some (.agg [sl gy r.Script,I r.At,S r.State,I r.Count],[]):=by
 rw [al (af:=kG) rfl]
 unfold j2 at h
 simp only [kG,u7]
 have d1:= @u5
 have d2:= @sm
 exact go2
def fb (t2:List UInt8):Int×Int→Option ((Int×Int)⊕((Int×Int×Bool)))
 | (n,i)=>
   br (decide (i<8)) (
   (atL t2 i).bind fun c=>
   some (.inl (((wrap .i64 ((wrap .i64 (n*256))+(wrap .i64 (c.toNat:Int)))).tmod 2130706433),(wrap .i64 (i+1))))) (
   some (.inr (n,i,decide (i<8))))
abbrev sC (t2:List UInt8) (s:Int×Int):St:=⟨[(0,S t2),(3,I s.1),(4,I s.2)],[]⟩
abbrev sx (t2:List UInt8):(Int×Int×Bool)→aH×St:=fun e=>(.exit 0,⟨[(0,S t2),(3,I e.1),(4,I e.2.1),(6,B e.2.2)],[]⟩)
theorem yJ {t2 s e} (h:Loop (fb t2) s=some e):bL tab ow (.close []) so (sC t2 s)=some (sx t2 e):=by
 refine lrG (fun s o h=> ?_) h
 obtain ⟨_,_⟩:=s
 simp only [fb] at h
 simp only [sC,sx,so,sh]
 exact go2
def jP (t:(List UInt8)):Option (Int):=
 (Loop (fb t) (0,0)).bind fun e_=>
 some e_.1
theorem Ds {t r} (h:jP t=some r):Call tab ow 155 [S t] []=some (I r,[]):=by
 rw [al (af:=ms) rfl]
 unfold jP at h
 simp only [ms,pN]
 have d1:= @yJ
 exact go2
def mR (s:Source):Option (Source×Ext):=
 br (decide (((s.Script.length:Nat):Int)>0)) (
 br (decide (((s.Script.length:Nat):Int)≠0)) (
 (atL s.Script (s.At.tmod ((s.Script.length:Nat):Int))).bind fun x=>
 some ((Source.mk s.Script (wrap .i64 (s.At+1)) s.State s.Count),x)) none) (
 br (aK (s.State.length+(([100,114,97,119]:List UInt8)).length) 1) (
 (iY s.Count 4).bind fun r_=>
 br (aK ((s.State++(([100,114,97,119]:List UInt8))).length+r_.length) 1) (
 (jW ((s.State++(([100,114,97,119]:List UInt8)))++r_)).bind fun r_2=>
 (oZ r_2 0 8).bind fun y=>
 (jP y).bind fun r_3=>
 (oZ r_2 8 16).bind fun y2=>
 (jP y2).bind fun r_4=>
 some ((Source.mk s.Script s.At s.State (wrap .i64 (s.Count+1))),(Ext.mk r_3 r_4))) none) none)
theorem xl {s r} (h:mR s=some r):Call tab ow 143 [.agg [sl gy s.Script,I s.At,S s.State,I s.Count]] []=some (.tup [.agg [sl gy r.1.Script,I r.1.At,S r.1.State,I r.1.Count],.agg [I r.2.A,I r.2.B]],[]):=by
 rw [al (af:=o7) rfl]
 unfold mR at h
 simp only [o7,xD]
 have d1:= @u5
 have d2:= @sm
 have d3:= @Ds
 exact go2
section
theorem Ei:mkR 2000 []=rws gy []:=rfl
attribute [local go_sem] Ei
def pE (s:Source):Option (Source):=
 br (aK ((([]:List Ext)++s.Script).length) 16) (
 some (Source.mk (([]:List Ext)++s.Script) s.At s.State s.Count)) none
theorem Hm {s r} (h:pE s=some r):Call tab ow 144 [.agg [sl gy s.Script,I s.At,S s.State,I s.Count]] []=some (.agg [sl gy r.Script,I r.At,S r.State,I r.Count],[]):=by
 rw [al (af:=qh) rfl]
 unfold pE at h
 simp only [qh,zZ]
 exact go2
end
section
theorem uR:mkR 2001 []=rws eS []:=rfl
attribute [local go_sem] uR
theorem uT:mkR 2003 []=rws gy []:=rfl
attribute [local go_sem] uT
theorem uz:mkR 9002 []=rws eS []:=rfl
attribute [local go_sem] uz
def cN (c4:Int) (c5:List UInt8) (c6:Int):Int×(List UInt8)×Int×Int×(List Ext)×Int×(List UInt8)×Int→Option ((Int×(List UInt8)×Int×Int×(List Ext)×Int×(List UInt8)×Int)⊕((Int×Bool×(List UInt8)×Int×Int×(List Ext)×Int×(List UInt8)×Int)))
 | (i,c,c2,c3,c7,c8,c9,c10)=>
   br (decide (i>0)) (
   (aL 2 (aA.mk c c2 c3)).bind fun r_7=>
   br r_7.1 (
   (eu ([(([]:List UInt8)),(([116,101,120,116]:List UInt8))]:List (List UInt8)) r_7.2).bind fun r_8=>
   (j2 (Source.mk c7 c8 c9 c10) r_8.1).bind fun r_9=>
   some (.inl ((wrap .i64 (i-1)),r_8.2.code,r_8.2.at_,r_8.2.seed,r_9.Script,r_9.At,r_9.State,r_9.Count))) (
   (mR (Source.mk c7 c8 c9 c10)).bind fun r_10=>
   some (.inl ((wrap .i64 (i-1)),r_7.2.code,r_7.2.at_,r_7.2.seed,r_10.1.Script,r_10.1.At,r_10.1.State,r_10.1.Count)))) (
   some (.inr (i,decide (i>0),c,c2,c3,c7,c8,c9,c10)))
abbrev io (c4:Int) (c5:List UInt8) (c6:Int) (c:List UInt8) (c2 c3:Int) (c7:List Ext) (c8:Int) (c9:List UInt8) (c10:Int):List (Nat×Blk):=[(0,⟨3,true,[[sl eU8 c,I c2,I c3]]⟩),(1000,⟨4,true,[[.lit (.slice none 0 0),I c4,S c5,I c6]]⟩),(2001,gu),(2003,gu),(2005,⟨4,true,[[sl gy c7,I c8,S c9,I c10]]⟩)]
abbrev lS (c4:Int) (c5:List UInt8) (c6:Int) (s:Int×(List UInt8)×Int×Int×(List Ext)×Int×(List UInt8)×Int):St:=⟨[(0,.ptr 0 0 0 1),(2,.ptr 1000 0 0 1),(3,.ptr 2005 0 0 1),(4,I s.1)],io c4 c5 c6 s.2.1 s.2.2.1 s.2.2.2.1 s.2.2.2.2.1 s.2.2.2.2.2.1 s.2.2.2.2.2.2.1 s.2.2.2.2.2.2.2⟩
abbrev mb (c4:Int) (c5:List UInt8) (c6:Int):(Int×Bool×(List UInt8)×Int×Int×(List Ext)×Int×(List UInt8)×Int)→aH×St:=fun e=>(.exit 0,⟨[(0,.ptr 0 0 0 1),(2,.ptr 1000 0 0 1),(3,.ptr 2005 0 0 1),(4,I e.1),(21,B e.2.1)],io c4 c5 c6 e.2.2.1 e.2.2.2.1 e.2.2.2.2.1 e.2.2.2.2.2.1 e.2.2.2.2.2.2.1 e.2.2.2.2.2.2.2.1 e.2.2.2.2.2.2.2.2⟩)
theorem tB {c4 c5 c6 s e} (h:Loop (cN c4 c5 c6) s=some e):bL tab ow (.close [8001,9002,9003,9004,10001]) eQ (lS c4 c5 c6 s)=some (mb c4 c5 c6 e):=by
 refine lrG (fun s o h=> ?_) h
 obtain ⟨_,_,_,_,_,_,_,_⟩:=s
 simp only [cN] at h
 simp only [lS,mb,io,eQ,ig]
 have d1:= @cK
 have d2:= @lH
 have d3:= @uf
 have d4:= @xl
 exact go2
def eU (c14:Int) (c15:List UInt8) (c16:Int):Int×(List UInt8)×Int×Int×(List Ext)×Int×(List UInt8)×Int→Option ((Int×(List UInt8)×Int×Int×(List Ext)×Int×(List UInt8)×Int)⊕((Int×Bool×(List UInt8)×Int×Int×(List Ext)×Int×(List UInt8)×Int)))
 | (i2,c11,c12,c13,c17,c18,c19,c20)=>
   br (decide (i2>0)) (
   (aL 2 (aA.mk c11 c12 c13)).bind fun r_13=>
   br r_13.1 (
   (eu ([(([]:List UInt8)),(([116,101,120,116]:List UInt8))]:List (List UInt8)) r_13.2).bind fun r_14=>
   (j2 (Source.mk c17 c18 c19 c20) r_14.1).bind fun r_15=>
   some (.inl ((wrap .i64 (i2-1)),r_14.2.code,r_14.2.at_,r_14.2.seed,r_15.Script,r_15.At,r_15.State,r_15.Count))) (
   (mR (Source.mk c17 c18 c19 c20)).bind fun r_16=>
   some (.inl ((wrap .i64 (i2-1)),r_13.2.code,r_13.2.at_,r_13.2.seed,r_16.1.Script,r_16.1.At,r_16.1.State,r_16.1.Count)))) (
   some (.inr (i2,decide (i2>0),c11,c12,c13,c17,c18,c19,c20)))
abbrev ia (c14:Int) (c15:List UInt8) (c16:Int) (c11:List UInt8) (c12 c13:Int) (c17:List Ext) (c18:Int) (c19:List UInt8) (c20:Int):List (Nat×Blk):=[(0,⟨3,true,[[sl eU8 c11,I c12,I c13]]⟩),(1000,⟨4,true,[[.lit (.slice none 0 0),I c14,S c15,I c16]]⟩),(2001,gu),(2003,gu),(2005,⟨4,true,[[sl gy c17,I c18,S c19,I c20]]⟩)]
abbrev mc (c14:Int) (c15:List UInt8) (c16:Int) (s:Int×(List UInt8)×Int×Int×(List Ext)×Int×(List UInt8)×Int):St:=⟨[(0,.ptr 0 0 0 1),(2,.ptr 1000 0 0 1),(3,.ptr 2005 0 0 1),(4,I s.1)],ia c14 c15 c16 s.2.1 s.2.2.1 s.2.2.2.1 s.2.2.2.2.1 s.2.2.2.2.2.1 s.2.2.2.2.2.2.1 s.2.2.2.2.2.2.2⟩
abbrev ma (c14:Int) (c15:List UInt8) (c16:Int):(Int×Bool×(List UInt8)×Int×Int×(List Ext)×Int×(List UInt8)×Int)→aH×St:=fun e=>(.exit 0,⟨[(0,.ptr 0 0 0 1),(2,.ptr 1000 0 0 1),(3,.ptr 2005 0 0 1),(4,I e.1),(21,B e.2.1)],ia c14 c15 c16 e.2.2.1 e.2.2.2.1 e.2.2.2.2.1 e.2.2.2.2.2.1 e.2.2.2.2.2.2.1 e.2.2.2.2.2.2.2.1 e.2.2.2.2.2.2.2.2⟩)
theorem tm {c14 c15 c16 s e} (h:Loop (eU c14 c15 c16) s=some e):bL tab ow (.close [8001,9002,9003,9004,10001]) eQ (mc c14 c15 c16 s)=some (ma c14 c15 c16 e):=by
 refine lrG (fun s o h=> ?_) h
 obtain ⟨_,_,_,_,_,_,_,_⟩:=s
 simp only [eU] at h
 simp only [mc,ma,ia,eQ,ig]
 have d1:= @cK
 have d2:= @lH
 have d3:= @uf
 have d4:= @xl
 exact go2
def dT (m:aA):Option (Source×aA):=
 (eu ([(([]:List UInt8)),(([97]:List UInt8)),(([108,97,98,101,108]:List UInt8))]:List (List UInt8)) m).bind fun r_=>
 (rB r_.1 ([]:List Ext)).bind fun r_2=>
 (aL 3 r_.2).bind fun r_3=>
 br r_3.1 (
 (aa 5 r_3.2).bind fun r_4=>
 (iw (wrap .i64 (1+r_4.1)) r_4.2).bind fun r_5=>
 (aa 4 r_5.2).bind fun r_6=>
 (Loop (cN 0 (([]:List UInt8)) 0) (r_6.1,r_6.2.code,r_6.2.at_,r_6.2.seed,r_5.1,r_2.At,r_2.State,r_2.Count)).bind fun e_=>
 (pE (Source.mk e_.2.2.2.2.2.1 e_.2.2.2.2.2.2.1 e_.2.2.2.2.2.2.2.1 e_.2.2.2.2.2.2.2.2)).bind fun r_11=>
 some (r_11,(aA.mk e_.2.2.1 e_.2.2.2.1 e_.2.2.2.2.1))) (
 (aa 4 r_3.2).bind fun r_12=>
 (Loop (eU 0 (([]:List UInt8)) 0) (r_12.1,r_12.2.code,r_12.2.at_,r_12.2.seed,r_2.Script,r_2.At,r_2.State,r_2.Count)).bind fun e_2=>
 (pE (Source.mk e_2.2.2.2.2.2.1 e_2.2.2.2.2.2.2.1 e_2.2.2.2.2.2.2.2.1 e_2.2.2.2.2.2.2.2.2)).bind fun r_17=>
 some (r_17,(aA.mk e_2.2.2.1 e_2.2.2.2.1 e_2.2.2.2.2.1)))
theorem vO {m r} (h:dT m=some r):Call tab ow 113 [.ptr 0 0 0 1] [⟨3,true,[[sl eU8 m.code,I m.at_,I m.seed]]⟩]=some (.agg [sl gy r.1.Script,I r.1.At,S r.1.State,I r.1.Count],[⟨3,true,[[sl eU8 r.2.code,I r.2.at_,I r.2.seed]]⟩]):=by
 rw [al (af:=gr) rfl]
 unfold dT at h
 simp only [gr,jy]
 have d1:= @lH
 have d2:= @Iu
 have d3:= @cK
 have d4:= @bX
 have d5:= @xO
 have d6:= @tB
 have d7:= @Hm
 have d8:= @tm
 exact go2
end
section
theorem v8:mkR 5004 []=rws aY []:=rfl
attribute [local go_sem] v8
theorem uL:mkR 6002 []=rws eI []:=rfl
attribute [local go_sem] uL
theorem uA:mkR 7002 []=rws eI []:=rfl
attribute [local go_sem] uA
def fP (m:aA):Option (Circuit×(List Int)×(List Int)×Setting×Source×aA):=
 (fg m).bind fun r_=>
 (fT r_.1 r_.2).bind fun r_2=>
 (sK r_.1 r_2.1 r_2.2.1).bind fun r_3=>
 (pd r_.1 r_3).bind fun r_4=>
 br (!r_4) (
 (ai r_2.2.2).bind fun r_5=>
 (ai r_5.2).bind fun r_6=>
 (dF r_6.2).bind fun r_7=>
 (dT r_7.2).bind fun r_8=>
 some ((Circuit.mk ([(ab.mk 1 0 0 0),(ab.mk 2 0 0 0),(ab.mk 6 0 0 0),(ab.mk 4 2 1 0)]:List ab)),([r_5.1]:List Int),([r_6.1]:List Int),r_7.1,r_8.1,r_8.2)) (
 (dF r_2.2.2).bind fun r_9=>
 (dT r_9.2).bind fun r_10=>
 some (r_.1,r_2.1,r_2.2.1,r_9.1,r_10.1,r_10.2))
theorem vo {m r} (h:fP m=some r):Call tab ow 70 [.ptr 0 0 0 1] [⟨3,true,[[sl eU8 m.code,I m.at_,I m.seed]]⟩]=some (.tup [.agg [sl aY r.1.Gates],sl eI r.2.1,sl eI r.2.2.1,.agg [I r.2.2.2.1.Rate,I r.2.2.2.1.Queries,I r.2.2.2.1.Grind],.agg [sl gy r.2.2.2.2.1.Script,I r.2.2.2.2.1.At,S r.2.2.2.2.1.State,I r.2.2.2.2.1.Count]],[⟨3,true,[[sl eU8 r.2.2.2.2.2.code,I r.2.2.2.2.2.at_,I r.2.2.2.2.2.seed]]⟩]):=by
 rw [al (af:=gt) rfl]
 unfold fP at h
 simp only [gt,nV]
 have d1:= @ux
 have d2:= @vq
 have d3:= @HE
 have d4:= @EY
 have d5:= @fk
 have d6:= @uM
 have d7:= @vO
 exact go2
end
def nu (code:(List UInt8)):Option (nw):=
 (o5 code).bind fun r_=>
 (fP r_).bind fun r_2=>
 some (nw.mk r_2.1 r_2.2.1 r_2.2.2.1 r_2.2.2.2.1 r_2.2.2.2.2.1)
theorem CI {code r} (h:nu code=some r):Call tab ow 28 [sl eU8 code] []=some (.agg [sl aY r.Circuit.Gates,sl eI r.Publics,sl eI r.Inputs,I r.Setting.Rate,I r.Setting.Queries,I r.Setting.Grind,sl gy r.Source.Script,I r.Source.At,S r.Source.State,I r.Source.Count],[]):=by
 rw [al (af:=mI) rfl]
 unfold nu at h
 simp only [mI,vT]
 have d1:= @B7
 have d2:= @vo
 exact go2
def FY (more:(List UInt8)) (i n:Int):Option (Int):=
 br (decide (n≤1)) (
 some 0) (
 br (((more.length:Nat):Int)==0) (
 br (decide (n≠0)) (
 some ((wrap .i64 (i*7)).tmod n)) none) (
 br (decide (((more.length:Nat):Int)≠0)) (
 (atL more (i.tmod ((more.length:Nat):Int))).bind fun x=>
 br (decide (((more.length:Nat):Int)≠0)) (
 (atL more ((wrap .i64 (i+1)).tmod ((more.length:Nat):Int))).bind fun x2=>
 br (decide (((more.length:Nat):Int)≠0)) (
 br (decide (n≠0)) (
 some ((wrap .i64 ((wrap .i64 ((wrap .i64 ((wrap .i64 (x.toNat:Int))*31))+(wrap .i64 (x2.toNat:Int))))+(wrap .i64 (i.tdiv ((more.length:Nat):Int))))).tmod n)) none) none) none) none))
theorem Ya {more i n r} (h:FY more i n=some r):Call tab ow 29 [sl eU8 more,I i,I n] []=some (I r,[]):=by
 rw [al (af:=CW) rfl]
 unfold FY at h
 simp only [CW,OI]
 exact go2
def sY (a b:Int):Option (Int×Int):=
 (iZ a).bind fun r_=>
 br (!r_) (
 some (0,1)) (
 (iZ b).bind fun r_2=>
 br (!r_2) (
 some (0,1)) (
 (xz a b).bind fun r_3=>
 some (r_3,0)))
theorem Fk {a b r} (h:sY a b=some r):Call tab ow 71 [I a,I b,.fn 72 []] []=some (.tup [I r.1,I r.2],[]):=by
 rw [al (af:=ym) rfl]
 unfold sY at h
 simp only [ym,Jh]
 have d1:= @sP
 have d2:= @yg
 exact go2
def F8 (a b:Int):Option (Int×Int):=
 (sY a b).bind fun r_=>
 some (r_.1,r_.2)
theorem SE {a b r} (h:F8 a b=some r):Call tab ow 30 [I a,I b] []=some (.tup [I r.1,I r.2],[]):=by
 rw [al (af:=yq) rfl]
 unfold F8 at h
 simp only [yq,JB]
 have d1:= @Fk
 exact go2
section
theorem Ck:mkR 9000 []=rws eI []:=rfl
attribute [local go_sem] Ck
theorem BZ:mkR 17002 []=rws eI []:=rfl
attribute [local go_sem] BZ
theorem Db:mkR 22000 []=rws eI []:=rfl
attribute [local go_sem] Db
def fY (t:List UInt8) (t2 t3:List Int) (c:List ab) (c2 c3:List Int) (c4 c5 c6:Int) (c7:List Ext) (c8:Int) (c9:List UInt8) (c10 c11 c12 c13:Int) (c14 c15 c16:List ah):(List Int)×Int×Int→Option (((List Int)×Int×Int)⊕(((List Int)×Int×Int×Bool)))
 | (l,t4,t5)=>
   br (decide (t5<((c.length:Nat):Int))) (
   (atL c t5).bind fun x=>
   br (x.Op==2) (
   some (.inl (l,t4,(wrap .i64 (t5+1))))) (
   br (x.Op !=1) (
   br (aK ((l++([t4]:List Int)).length) 8) (
   some (.inl ((l++([t4]:List Int)),(wrap .i64 (t4+1)),(wrap .i64 (t5+1))))) none) (
   some (.inl (l,(wrap .i64 (t4+1)),(wrap .i64 (t5+1))))))) (
   some (.inr (l,t4,t5,decide (t5<((c.length:Nat):Int)))))
abbrev oJ (c:List ab) (c2 c3:List Int) (c4 c5 c6:Int) (c7:List Ext) (c8:Int) (c9:List UInt8) (c10 c11 c12 c13:Int) (c14 c15 c16:List ah) (l:List Int):List (Nat×Blk):=[(4002,⟨10,true,[[sl aY c,sl eI c2,sl eI c3,I c4,I c5,I c6,sl gy c7,I c8,S c9,I c10]]⟩),(5006,⟨6,true,[[I c11,I c12,I c13,sl aw c14,sl aw c15,sl aw c16]]⟩),(9000,⟨1,false,rws eI l⟩)]
abbrev tS (t:List UInt8) (t2 t3:List Int) (c:List ab) (c2 c3:List Int) (c4 c5 c6:Int) (c7:List Ext) (c8:Int) (c9:List UInt8) (c10 c11 c12 c13:Int) (c14 c15 c16:List ah) (s:(List Int)×Int×Int):St:=⟨[(1,sl eU8 t),(5,.ptr 4002 0 0 1),(6,.ptr 5006 0 0 1),(8,sl eI t2),(9,sl eI t3),(11,.sl 9000 0 s.1.length),(12,I s.2.1),(13,I s.2.2)],oJ c c2 c3 c4 c5 c6 c7 c8 c9 c10 c11 c12 c13 c14 c15 c16 s.1⟩
abbrev tP (t:List UInt8) (t2 t3:List Int) (c:List ab) (c2 c3:List Int) (c4 c5 c6:Int) (c7:List Ext) (c8:Int) (c9:List UInt8) (c10 c11 c12 c13:Int) (c14 c15 c16:List ah):((List Int)×Int×Int×Bool)→aH×St:=fun e=>(.exit 0,⟨[(1,sl eU8 t),(5,.ptr 4002 0 0 1),(6,.ptr 5006 0 0 1),(8,sl eI t2),(9,sl eI t3),(11,.sl 9000 0 e.1.length),(12,I e.2.1),(13,I e.2.2.1),(74,B e.2.2.2)],oJ c c2 c3 c4 c5 c6 c7 c8 c9 c10 c11 c12 c13 c14 c15 c16 e.1⟩)
theorem AK {t t2 t3 c c2 c3 c4 c5 c6 c7 c8 c9 c10 c11 c12 c13 c14 c15 c16 s e} (h:Loop (fY t t2 t3 c c2 c3 c4 c5 c6 c7 c8 c9 c10 c11 c12 c13 c14 c15 c16) s=some e):bL tab ow (.close [17002,17003]) rL (tS t t2 t3 c c2 c3 c4 c5 c6 c7 c8 c9 c10 c11 c12 c13 c14 c15 c16 s)=some (tP t t2 t3 c c2 c3 c4 c5 c6 c7 c8 c9 c10 c11 c12 c13 c14 c15 c16 e):=by
 refine lrG (fun s o h=> ?_) h
 obtain ⟨_,_,_⟩:=s
 simp only [fY] at h
 simp only [tS,tP,oJ,rL,s9]
 exact go2
def te (ListtoArray a:(List UInt8)):Option (Bool):=
 br (decide (((ListtoArray.length:Nat):Int)>1048576)) (
 some true) (
 br (decide (((a.length:Nat):Int)>1048576)) (
 some true) (
 (nu ListtoArray).bind fun r_=>
 (nD r_.Circuit).bind fun r_2=>
 (ld r_.Circuit r_.Publics r_.Inputs).bind fun r_3=>
 br (r_2.2 !=0) (
 some false) (
 br (r_3.2.2 !=0) (
 some false) (
 br ((wrap .i64 (((r_3.1.length:Nat):Int)+((r_3.2.1.length:Nat):Int))) !=((r_.Circuit.Gates.length:Nat):Int)) (
 some false) (
 (Loop (fY a r_3.1 r_3.2.1 r_.Circuit.Gates r_.Publics r_.Inputs r_.Setting.Rate r_.Setting.Queries r_.Setting.Grind r_.Source.Script r_.Source.At r_.Source.State r_.Source.Count r_2.1.Rows r_2.1.Cols r_2.1.Publics r_2.1.A r_2.1.B r_2.1.C) (([]:List Int),0,0)).bind fun e_=>
 br (((e_.1.length:Nat):Int)==0) (
 some true) (
 (FY a 0 ((e_.1.length:Nat):Int)).bind fun r_4=>
 br (decide (0≤r_4)) (
 br (decide (r_4.toNat<e_.1.length)) (
 (e_.1[r_4.toNat]?).bind fun x2=>
 br (aK ((([]:List Int)++r_3.2.1).length) 8) (
 br (decide (0≤x2)) (
 br (decide (x2.toNat<(([]:List Int)++r_3.2.1).length)) (
 ((([]:List Int)++r_3.2.1)[x2.toNat]?).bind fun x3=>
 (FY a 1 90).bind fun r_5=>
 (F8 x3 (wrap .i64 (1+r_5))).bind fun r_6=>
 br (decide (0≤x2)) (
 br (decide (x2.toNat<(([]:List Int)++r_3.2.1).length)) (
 ((([]:List Int)++r_3.2.1)[x2.toNat]?).bind fun x4=>
 (nI r_2.1 r_3.1 ((([]:List Int)++r_3.2.1).set x2.toNat r_6.1)).bind fun r_7=>
 (lu r_2.1 r_7.1).bind fun r_8=>
 br (r_6.2==0) (
 br (r_7.2==0) (
 br (r_8.2==0) (
 some (!r_8.1)) (
 some false)) (
 some false)) (
 some false)) none) none) none) none) none) none) none))))))
theorem w_FnBinds_c {ListtoArray a r} (h:te ListtoArray a=some r):Call tab ow 5 [sl eU8 ListtoArray,sl eU8 a] []=some (B r,[]):=by
 rw [al (af:=a_w_FnBinds) rfl]
 unfold te at h
 simp only [a_w_FnBinds,sJ]
 have d1:= @CI
 have d2:= @De
 have d3:= @Ba
 have d4:= @AK
 have d5:= @Ya
 have d6:= @SE
 have d7:= @Dq
 have d8:= @Ay
 exact go2
end
end
end Go.AI.Fn
