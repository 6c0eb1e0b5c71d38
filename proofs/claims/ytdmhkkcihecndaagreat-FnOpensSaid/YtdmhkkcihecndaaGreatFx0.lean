/- Walks through the program, with open values. -/
import Derived.Test.YtdmhkkcihecndaaGreatStr
set_option linter.unusedVariables false
set_option linter.unusedSimpArgs false
set_option maxRecDepth 100000
set_option maxHeartbeats 1000000
namespace Go.AI.Fn
noncomputable section
open IntKind (wrap)
def a7n (more:(List UInt8)) (i n:Int):Option (Int):=
 br (decide (n≤1)) (
 some 0) (
 br (((more.length:Nat):Int)==0) (
 br (decide (n≠0)) (
 some ((wrap .i64 (i*7)).tmod n)) none) (
 br (decide (((more.length:Nat):Int)≠0)) (
 (atL more (i.tmod ((more.length:Nat):Int))).bind fun x=>
 br (decide (((more.length:Nat):Int)≠0)) (
 (atL more ((wrap .i64 (i+1)).tmod ((more.length:Nat):Int))).bind fun x2=>
 br (decide (((more.length:Nat):Int)≠0)) (
 br (decide (n≠0)) (
 some ((wrap .i64 ((wrap .i64 ((wrap .i64 ((wrap .i64 (x.toNat:Int))*31))+(wrap .i64 (x2.toNat:Int))))+(wrap .i64 (i.tdiv ((more.length:Nat):Int))))).tmod n)) none) none) none) none))
theorem b34 {more i n r} (h:a7n more i n=some r):Call tab ow 9 [sl eU8 more,I i,I n] []=some (I r,[]):=by
 rw [ab (af:=TB) rfl]
 unfold a7n at h
 simp+decide only [TB,a4t,go_sem,reduceIte,Nat.reduceAdd]
 all_goals exact go
def mB (code:(List UInt8)):Option (bJ):=
 some (bJ.mk code 0 (((code.length:Nat):Int).tmod 1000))
theorem w7 {code r} (h:mB code=some r):Call tab ow 57 [sl eU8 code] []=some (.ptr 0 0 0 1,[⟨3,true,[[sl eU8 r.code,I r.at_,I r.seed]]⟩]):=by
 rw [ab (af:=oI) rfl]
 unfold mB at h
 simp+decide only [oI,Dh,go_sem,reduceIte,Nat.reduceAdd]
 all_goals exact go
def f9 (m:bJ):Option (Int×bJ):=
 br (decide ((wrap .i64 (m.at_+1))≤((m.code.length:Nat):Int))) (
 (atL m.code (wrap .i64 ((wrap .i64 (m.at_+1))-1))).bind fun x=>
 (atL m.code (wrap .i64 ((wrap .i64 (m.at_+1))-1))).bind fun x2=>
 some ((wrap .i64 (x2.toNat:Int)),(bJ.mk m.code (wrap .i64 (m.at_+1)) ((wrap .i64 ((wrap .i64 ((wrap .i64 (m.seed*31))+(wrap .i64 (x.toNat:Int))))+7)).tmod 2147483648)))) (
 br (decide ((wrap .i64 (m.at_+1))>3000)) (
 some (0,(bJ.mk m.code (wrap .i64 (m.at_+1)) m.seed))) (
 some (((wrap .i64 (((wrap .i64 ((wrap .i64 (m.seed*1103515245))+12345)).tmod 2147483648).tdiv 65536)).tmod 256),(bJ.mk m.code (wrap .i64 (m.at_+1)) ((wrap .i64 ((wrap .i64 (m.seed*1103515245))+12345)).tmod 2147483648)))))
theorem KI {m r} (h:f9 m=some r):Call tab ow 265 [.ptr 0 0 0 1] [⟨3,true,[[sl eU8 m.code,I m.at_,I m.seed]]⟩]=some (I r.1,[⟨3,true,[[sl eU8 r.2.code,I r.2.at_,I r.2.seed]]⟩]):=by
 rw [ab (af:=li) rfl]
 unfold f9 at h
 simp+decide only [li,zZ,go_sem,reduceIte,Nat.reduceAdd]
 all_goals exact go
def bD (n:Int) (m:bJ):Option (Int×bJ):=
 br (decide (n≤1)) (
 some (0,m)) (
 br (decide (n≤256)) (
 (f9 m).bind fun r_=>
 br (decide (n≠0)) (
 some ((r_.1.tmod n),r_.2)) none) (
 (f9 m).bind fun r_2=>
 (f9 r_2.2).bind fun r_3=>
 (f9 r_3.2).bind fun r_4=>
 br (decide (n≠0)) (
 some (((wrap .i64 ((wrap .i64 ((wrap .i64 (r_2.1*65536))+(wrap .i64 (r_3.1*256))))+r_4.1)).tmod n),r_4.2)) none))
theorem fY {n m r} (h:bD n m=some r):Call tab ow 144 [.ptr 0 0 0 1,I n] [⟨3,true,[[sl eU8 m.code,I m.at_,I m.seed]]⟩]=some (I r.1,[⟨3,true,[[sl eU8 r.2.code,I r.2.at_,I r.2.seed]]⟩]):=by
 rw [ab (af:=ly) rfl]
 unfold bD at h
 simp+decide only [ly,zr,go_sem,reduceIte,Nat.reduceAdd]
 have d1:= @KI
 all_goals exact go
def dG (n:Int) (m:bJ):Option (Bool×bJ):=
 (bD n m).bind fun r_=>
 some ((r_.1==(wrap .i64 (n-1))),r_.2)
theorem ji {n m r} (h:dG n m=some r):Call tab ow 147 [.ptr 0 0 0 1,I n] [⟨3,true,[[sl eU8 m.code,I m.at_,I m.seed]]⟩]=some (B r.1,[⟨3,true,[[sl eU8 r.2.code,I r.2.at_,I r.2.seed]]⟩]):=by
 rw [ab (af:=j8) rfl]
 unfold dG at h
 simp+decide only [j8,ua,go_sem,reduceIte,Nat.reduceAdd]
 have d1:= @fY
 all_goals exact go
def dN:Int×Int×(List UInt8)×Int×Int→Option ((Int×Int×(List UInt8)×Int×Int)⊕((Int×Int×Bool×(List UInt8)×Int×Int)))
 | (n,i,c,c2,c3)=>
   br (decide (i<5)) (
   (bD 256 (bJ.mk c c2 c3)).bind fun r_4=>
   some (.inl (((wrap .i64 ((wrap .i64 (n*256))+r_4.1)).tmod 2130706433),(wrap .i64 (i+1)),r_4.2.code,r_4.2.at_,r_4.2.seed))) (
   some (.inr (n,i,decide (i<5),c,c2,c3)))
abbrev sJ (s:Int×Int×(List UInt8)×Int×Int):St:=⟨[(0,.ptr 0 0 0 1),(3,I s.1),(4,I s.2.1)],[(0,⟨3,true,[[sl eU8 s.2.2.1,I s.2.2.2.1,I s.2.2.2.2]]⟩)]⟩
abbrev sx:(Int×Int×Bool×(List UInt8)×Int×Int)→ai×St:=fun e=>(.exit 1,⟨[(0,.ptr 0 0 0 1),(3,I e.1),(4,I e.2.1),(17,B e.2.2.1)],[(0,⟨3,true,[[sl eU8 e.2.2.2.1,I e.2.2.2.2.1,I e.2.2.2.2.2]]⟩)]⟩)
theorem E3 { s e} (h:Loop (dN) s=some e):aD tab ow (.close [11003]) lS (sJ s)=some (sx e):=by
 refine lrG (fun s o h=> ?_) h
 obtain ⟨_,_,_,_,_⟩:=s
 simp only [dN] at h
 simp+decide only [sJ,sx,lS,go_sem,reduceIte,Nat.reduceAdd]
 have d1:= @fY
 all_goals exact go
def fF (m:bJ):Option (Int×bJ):=
 (bD 5 m).bind fun r_=>
 br (r_.1==0) (
 (bD 4 r_.2).bind fun r_2=>
 some (r_2.1,r_2.2)) (
 br (r_.1==1) (
 (bD 3 r_.2).bind fun r_3=>
 some ((wrap .i64 (2130706432-r_3.1)),r_3.2)) (
 (Loop (dN) (0,0,r_.2.code,r_.2.at_,r_.2.seed)).bind fun e_=>
 some (e_.1,(bJ.mk e_.2.2.2.1 e_.2.2.2.2.1 e_.2.2.2.2.2))))
theorem Ib {m r} (h:fF m=some r):Call tab ow 242 [.ptr 0 0 0 1] [⟨3,true,[[sl eU8 m.code,I m.at_,I m.seed]]⟩]=some (I r.1,[⟨3,true,[[sl eU8 r.2.code,I r.2.at_,I r.2.seed]]⟩]):=by
 rw [ab (af:=jS) rfl]
 unfold fF at h
 simp+decide only [jS,wG,go_sem,reduceIte,Nat.reduceAdd]
 have d1:= @fY
 have d2:= @E3
 all_goals exact go
def nl (m:bJ):Option (Ext×bJ):=
 (dG 4 m).bind fun r_=>
 br r_.1 (
 (fF r_.2).bind fun r_2=>
 some ((Ext.mk r_2.1 0),r_2.2)) (
 (fF r_.2).bind fun r_3=>
 (fF r_3.2).bind fun r_4=>
 some ((Ext.mk r_3.1 r_4.1),r_4.2))
theorem LK {m r} (h:nl m=some r):Call tab ow 143 [.ptr 0 0 0 1] [⟨3,true,[[sl eU8 m.code,I m.at_,I m.seed]]⟩]=some (.agg [I r.1.A,I r.1.B],[⟨3,true,[[sl eU8 r.2.code,I r.2.at_,I r.2.seed]]⟩]):=by
 rw [ab (af:=n7) rfl]
 unfold nl at h
 simp+decide only [n7,Bo,go_sem,reduceIte,Nat.reduceAdd]
 have d1:= @ji
 have d2:= @Ib
 all_goals exact go
section
theorem HA:mkR 2000 []=rws ag []:=rfl
attribute [local go_sem] HA
theorem IE:mkR 6003 []=rws ag []:=rfl
attribute [local go_sem] IE
def ej (n2:Int):(List Ext)×Int×(List UInt8)×Int×Int→Option (((List Ext)×Int×(List UInt8)×Int×Int)⊕(((List Ext)×Int×Bool×(List UInt8)×Int×Int)))
 | (l,i,c,c2,c3)=>
   br (decide (i<n2)) (
   (nl (bJ.mk c c2 c3)).bind fun r_=>
   br (bc ((l++([r_.1]:List Ext)).length) 16) (
   some (.inl ((l++([r_.1]:List Ext)),(wrap .i64 (i+1)),r_.2.code,r_.2.at_,r_.2.seed))) none) (
   some (.inr (l,i,decide (i<n2),c,c2,c3)))
abbrev nj (l:List Ext) (c:List UInt8) (c2 c3:Int):List (Nat×Blk):=[(0,⟨3,true,[[sl eU8 c,I c2,I c3]]⟩),(2000,⟨2,false,rws ag l⟩)]
abbrev uF (n2:Int) (s:(List Ext)×Int×(List UInt8)×Int×Int):St:=⟨[(0,.ptr 0 0 0 1),(1,I n2),(5,.sl 2000 0 s.1.length),(6,I s.2.1)],nj s.1 s.2.2.1 s.2.2.2.1 s.2.2.2.2⟩
abbrev uR (n2:Int):((List Ext)×Int×Bool×(List UInt8)×Int×Int)→ai×St:=fun e=>(.exit 0,⟨[(0,.ptr 0 0 0 1),(1,I n2),(5,.sl 2000 0 e.1.length),(6,I e.2.1),(10,B e.2.2.1)],nj e.1 e.2.2.2.1 e.2.2.2.2.1 e.2.2.2.2.2⟩)
theorem H6 {n2 s e} (h:Loop (ej n2) s=some e):aD tab ow (.close [6002,6003,6004]) mH (uF n2 s)=some (uR n2 e):=by
 refine lrG (fun s o h=> ?_) h
 obtain ⟨_,_,_,_,_⟩:=s
 simp only [ej] at h
 simp+decide only [uF,uR,nj,mH,go_sem,reduceIte,Nat.reduceAdd]
 have d1:= @LK
 all_goals exact go
def iT (n:Int) (m:bJ):Option ((List Ext)×bJ):=
 (Loop (ej n) (([]:List Ext),0,m.code,m.at_,m.seed)).bind fun e_=>
 some (e_.1,(bJ.mk e_.2.2.2.1 e_.2.2.2.2.1 e_.2.2.2.2.2))
theorem zs {n m r} (h:iT n m=some r):Call tab ow 58 [.ptr 0 0 0 1,I n] [⟨3,true,[[sl eU8 m.code,I m.at_,I m.seed]]⟩]=some (sl ag r.1,[⟨3,true,[[sl eU8 r.2.code,I r.2.at_,I r.2.seed]]⟩]):=by
 rw [ab (af:=lr) rfl]
 unfold iT at h
 simp+decide only [lr,A0,go_sem,reduceIte,Nat.reduceAdd]
 have d1:= @H6
 all_goals exact go
end
def wK (code:(List UInt8)) (n:Int):Option ((List Ext)):=
 (mB code).bind fun r_=>
 (iT n r_).bind fun r_2=>
 some r_2.1
theorem Zs {code n r} (h:wK code n=some r):Call tab ow 10 [sl eU8 code,I n] []=some (sl ag r,[]):=by
 rw [ab (af:=y4) rfl]
 unfold wK at h
 simp+decide only [y4,Oc,go_sem,reduceIte,Nat.reduceAdd]
 have d1:= @w7
 have d2:= @zs
 all_goals exact go
def k9 (m:bJ):Option (Setting×bJ):=
 (bD 2 m).bind fun r_=>
 (bD 3 r_.2).bind fun r_2=>
 (bD 3 r_2.2).bind fun r_3=>
 some ((Setting.mk (wrap .i64 (1+r_.1)) (wrap .i64 (1+r_2.1)) r_3.1),r_3.2)
theorem Ez {m r} (h:k9 m=some r):Call tab ow 59 [.ptr 0 0 0 1] [⟨3,true,[[sl eU8 m.code,I m.at_,I m.seed]]⟩]=some (.agg [I r.1.Rate,I r.1.Queries,I r.1.Grind],[⟨3,true,[[sl eU8 r.2.code,I r.2.at_,I r.2.seed]]⟩]):=by
 rw [ab (af:=il) rfl]
 unfold k9 at h
 simp+decide only [il,sK,go_sem,reduceIte,Nat.reduceAdd]
 have d1:= @fY
 all_goals exact go
def pG (code:(List UInt8)):Option (Setting):=
 (mB code).bind fun r_=>
 (k9 r_).bind fun r_2=>
 some r_2.1
theorem Px {code r} (h:pG code=some r):Call tab ow 11 [sl eU8 code] []=some (.agg [I r.Rate,I r.Queries,I r.Grind],[]):=by
 rw [ab (af:=oT) rfl]
 unfold pG at h
 simp+decide only [oT,Di,go_sem,reduceIte,Nat.reduceAdd]
 have d1:= @w7
 have d2:= @Ez
 all_goals exact go
def gw (list:(List (List UInt8))) (m:bJ):Option ((List UInt8)×bJ):=
 br (((list.length:Nat):Int)==0) (
 some ((([]:List UInt8)),m)) (
 (bD ((list.length:Nat):Int) m).bind fun r_=>
 (atL list r_.1).bind fun x=>
 some (x,r_.2))
theorem pY {list m r} (h:gw list m=some r):Call tab ow 146 [.ptr 0 0 0 1,sl eS list] [⟨3,true,[[sl eU8 m.code,I m.at_,I m.seed]]⟩]=some (S r.1,[⟨3,true,[[sl eU8 r.2.code,I r.2.at_,I r.2.seed]]⟩]):=by
 rw [ab (af:=lw) rfl]
 unfold gw at h
 simp+decide only [lw,zU,go_sem,reduceIte,Nat.reduceAdd]
 have d1:= @fY
 all_goals exact go
def gW (m:List Int) (t2:List UInt8):(List Int)×Int→Option (((List Int)×Int)⊕(((List Int)×Int×Bool)))
 | (m2,i)=>
   br (decide (i<((t2.length:Nat):Int))) (
   br (decide (0≤(wrap .i64 (i.tdiv 8)))&&decide ((wrap .i64 (i.tdiv 8)).toNat<25)) (
   (m2[(wrap .i64 (i.tdiv 8)).toNat]?).bind fun x=>
   (atL t2 i).bind fun c=>
   br (decide (0≤(wrap .u64 (wrap .i64 (8*(i.tmod 8)))))) (
   br (decide (0≤(wrap .i64 (i.tdiv 8)))&&decide ((wrap .i64 (i.tdiv 8)).toNat<25)) (
   br (decide ((wrap .i64 (i.tdiv 8)).toNat<m2.length)) (
   some (.inl ((m2.set ((wrap .i64 (i.tdiv 8)).toNat) (vX .u64 x (bX .u64 (wrap .u64 (c.toNat:Int)) (wrap .u64 (wrap .i64 (8*(i.tmod 8))))))),(wrap .i64 (i+1))))) none) none) none) none) (
   some (.inr (m2,i,decide (i<((t2.length:Nat):Int)))))
abbrev sS (m m2:List Int):List (Nat×Blk):=[(1000,⟨25,true,[ar .u64 m]⟩),(2001,⟨25,true,[ar .u64 m2]⟩)]
abbrev Aj (m:List Int) (t2:List UInt8) (s:(List Int)×Int):St:=⟨[(0,S t2),(2,.ptr 1000 0 0 1),(3,.ptr 2001 0 0 1),(4,I s.2)],sS m s.1⟩
abbrev B6 (m:List Int) (t2:List UInt8):((List Int)×Int×Bool)→ai×St:=fun e=>(.exit 0,⟨[(0,S t2),(2,.ptr 1000 0 0 1),(3,.ptr 2001 0 0 1),(4,I e.2.1),(9,B e.2.2)],sS m e.1⟩)
theorem Mi {m t2 s e} (h:Loop (gW m t2) s=some e):aD tab ow (.close []) tP (Aj m t2 s)=some (B6 m t2 e):=by
 refine lrG (fun s o h=> ?_) h
 obtain ⟨_,_⟩:=s
 simp only [gW] at h
 simp+decide only [Aj,B6,sS,tP,go_sem,reduceIte,Nat.reduceAdd]
 all_goals exact go
def sG (t:(List UInt8)):Option ((List Int)):=
 (Loop (gW (nZ 25) t) ((nZ 25),0)).bind fun e_=>
 br (decide (e_.1.length=25)) (
 br (decide (e_.1.length=25)) (
 br (decide (e_.1.length=25)) (
 some e_.1) none) none) none
theorem TQ {t r} (h:sG t=some r):Call tab ow 304 [S t] []=some (.agg (ar .u64 r),[]):=by
 rw [ab (af:=rm) rfl]
 unfold sG at h
 simp+decide only [rm,F0,go_sem,reduceIte,Nat.reduceAdd]
 have d1:= @Mi
 all_goals exact go
def Ag:Option ((List Int)):=
 some ([1,32898,9223372036854808714,9223372039002292224,32907,2147483649,9223372039002292353,9223372036854808585,138,136,2147516425,2147483658,2147516555,9223372036854775947,9223372036854808713,9223372036854808579,9223372036854808578,9223372036854775936,32778,9223372039002259466,9223372039002292353,9223372036854808704,2147483649,9223372039002292232]:List Int)
theorem Q7 {r} (h:Ag=some r):Call tab ow 343 [] []=some (.agg (ar .u64 r),[]):=by
 rw [ab (af:=oR) rfl]
 unfold Ag at h
 simp+decide only [oR,Dn,go_sem,reduceIte,Nat.reduceAdd]
 all_goals exact go
def Ab:Option ((List Int)):=
 some ([0,1,62,28,27,36,44,6,55,20,3,10,43,25,39,41,45,15,21,8,18,2,61,56,14]:List Int)
theorem Pr {r} (h:Ab=some r):Call tab ow 344 [] []=some (.agg (ar .u64 r),[]):=by
 rw [ab (af:=om) rfl]
 unfold Ab at h
 simp+decide only [om,CI,go_sem,reduceIte,Nat.reduceAdd]
 all_goals exact go
def sa (x n:Int):Option (Int):=
 br (n==0) (
 some x) (
 br (decide (0≤n)) (
 br (decide (0≤(wrap .u64 (64-n)))) (
 some (vX .u64 (bX .u64 x n) (aM .u64 x (wrap .u64 (64-n))))) none) none)
theorem J1 {x n r} (h:sa x n=some r):Call tab ow 345 [.lit (.int .u64 x),.lit (.int .u64 n)] []=some (.lit (.int .u64 r),[]):=by
 rw [ab (af:=uL) rfl]
 unfold sa at h
 simp+decide only [uL,Ki,go_sem,reduceIte,Nat.reduceAdd]
 all_goals exact go
def fh (m5 m6 m7 m8:List Int) (t2:Int):(List Int)×Int→Option (((List Int)×Int)⊕(((List Int)×Int×Bool)))
 | (m9,t3)=>
   br (decide (t3<5)) (
   br (decide (0≤t3)&&decide (t3.toNat<25)) (
   (m5[t3.toNat]?).bind fun x=>
   br (decide (0≤(wrap .i64 (t3+5)))&&decide ((wrap .i64 (t3+5)).toNat<25)) (
   (m5[(wrap .i64 (t3+5)).toNat]?).bind fun x2=>
   br (decide (0≤(wrap .i64 (t3+10)))&&decide ((wrap .i64 (t3+10)).toNat<25)) (
   (m5[(wrap .i64 (t3+10)).toNat]?).bind fun x3=>
   br (decide (0≤(wrap .i64 (t3+15)))&&decide ((wrap .i64 (t3+15)).toNat<25)) (
   (m5[(wrap .i64 (t3+15)).toNat]?).bind fun x4=>
   br (decide (0≤(wrap .i64 (t3+20)))&&decide ((wrap .i64 (t3+20)).toNat<25)) (
   (m5[(wrap .i64 (t3+20)).toNat]?).bind fun x5=>
   br (decide (0≤t3)&&decide (t3.toNat<5)) (
   br (decide (t3.toNat<m9.length)) (
   some (.inl ((m9.set t3.toNat (ga .u64 (ga .u64 (ga .u64 (ga .u64 x x2) x3) x4) x5)),(wrap .i64 (t3+1))))) none) none) none) none) none) none) none) (
   some (.inr (m9,t3,decide (t3<5))))
abbrev oc (m5 m6 m7 m8 m9:List Int):List (Nat×Blk):=[(1000,⟨25,true,[ar .u64 m5]⟩),(1001,⟨25,true,[ar .u64 m6]⟩),(2001,⟨24,true,[ar .u64 m7]⟩),(3001,⟨25,true,[ar .u64 m8]⟩),(7001,⟨5,true,[ar .u64 m9]⟩)]
abbrev wu (m5 m6 m7 m8:List Int) (t2:Int) (s:(List Int)×Int):St:=⟨[(1,.ptr 1000 0 0 1),(2,.ptr 1001 0 0 1),(3,.ptr 2001 0 0 1),(4,.ptr 3001 0 0 1),(5,I t2),(6,.ptr 7001 0 0 1),(7,I s.2)],oc m5 m6 m7 m8 s.1⟩
abbrev xu (m5 m6 m7 m8:List Int) (t2:Int):((List Int)×Int×Bool)→ai×St:=fun e=>(.exit 2,⟨[(1,.ptr 1000 0 0 1),(2,.ptr 1001 0 0 1),(3,.ptr 2001 0 0 1),(4,.ptr 3001 0 0 1),(5,I t2),(6,.ptr 7001 0 0 1),(7,I e.2.1),(22,B e.2.2)],oc m5 m6 m7 m8 e.1⟩)
theorem HP {m5 m6 m7 m8 t2 s e} (h:Loop (fh m5 m6 m7 m8 t2) s=some e):aD tab ow (.close []) nL (wu m5 m6 m7 m8 t2 s)=some (xu m5 m6 m7 m8 t2 e):=by
 refine lrG (fun s o h=> ?_) h
 obtain ⟨_,_⟩:=s
 simp only [fh] at h
 simp+decide only [wu,xu,oc,nL,go_sem,reduceIte,Nat.reduceAdd]
 all_goals exact go
def ff (m11 m12 m13 m14:List Int) (t4:Int):(List Int)×Int→Option (((List Int)×Int)⊕(((List Int)×Int×Bool)))
 | (m10,t5)=>
   br (decide (t5<25)) (
   br (decide (0≤t5)&&decide (t5.toNat<25)) (
   (m10[t5.toNat]?).bind fun x6=>
   br (decide (0≤((wrap .i64 (t5+4)).tmod 5))&&decide (((wrap .i64 (t5+4)).tmod 5).toNat<5)) (
   (m14[((wrap .i64 (t5+4)).tmod 5).toNat]?).bind fun x7=>
   br (decide (0≤((wrap .i64 (t5+1)).tmod 5))&&decide (((wrap .i64 (t5+1)).tmod 5).toNat<5)) (
   (m14[((wrap .i64 (t5+1)).tmod 5).toNat]?).bind fun x8=>
   (sa x8 1).bind fun r_3=>
   br (decide (0≤t5)&&decide (t5.toNat<25)) (
   br (decide (t5.toNat<m10.length)) (
   some (.inl ((m10.set t5.toNat (ga .u64 x6 (ga .u64 x7 r_3))),(wrap .i64 (t5+1))))) none) none) none) none) none) (
   some (.inr (m10,t5,decide (t5<25))))
abbrev nS (m11 m12 m13 m14 m10:List Int):List (Nat×Blk):=[(1000,⟨25,true,[ar .u64 m10]⟩),(1001,⟨25,true,[ar .u64 m11]⟩),(2001,⟨24,true,[ar .u64 m12]⟩),(3001,⟨25,true,[ar .u64 m13]⟩),(7001,⟨5,true,[ar .u64 m14]⟩)]
abbrev wY (m11 m12 m13 m14:List Int) (t4:Int) (s:(List Int)×Int):St:=⟨[(1,.ptr 1000 0 0 1),(2,.ptr 1001 0 0 1),(3,.ptr 2001 0 0 1),(4,.ptr 3001 0 0 1),(5,I t4),(6,.ptr 7001 0 0 1),(8,I s.2)],nS m11 m12 m13 m14 s.1⟩
abbrev wP (m11 m12 m13 m14:List Int) (t4:Int):((List Int)×Int×Bool)→ai×St:=fun e=>(.exit 4,⟨[(1,.ptr 1000 0 0 1),(2,.ptr 1001 0 0 1),(3,.ptr 2001 0 0 1),(4,.ptr 3001 0 0 1),(5,I t4),(6,.ptr 7001 0 0 1),(8,I e.2.1),(51,B e.2.2)],nS m11 m12 m13 m14 e.1⟩)
theorem HH {m11 m12 m13 m14 t4 s e} (h:Loop (ff m11 m12 m13 m14 t4) s=some e):aD tab ow (.close [15013]) mT (wY m11 m12 m13 m14 t4 s)=some (wP m11 m12 m13 m14 t4 e):=by
 refine lrG (fun s o h=> ?_) h
 obtain ⟨_,_⟩:=s
 simp only [ff] at h
 simp+decide only [wY,wP,nS,mT,go_sem,reduceIte,Nat.reduceAdd]
 have d1:= @J1
 all_goals exact go
def fe (m21 m22 m23 m24 m25:List Int) (t8 t9:Int):(List Int)×Int→Option (((List Int)×Int)⊕(((List Int)×Int×Bool)))
 | (m26,t10)=>
   br (decide (t10<5)) (
   br (decide (0≤(wrap .i64 (t9+(wrap .i64 (5*t10)))))&&decide ((wrap .i64 (t9+(wrap .i64 (5*t10)))).toNat<25)) (
   (m21[(wrap .i64 (t9+(wrap .i64 (5*t10)))).toNat]?).bind fun x9=>
   br (decide (0≤(wrap .i64 (t9+(wrap .i64 (5*t10)))))&&decide ((wrap .i64 (t9+(wrap .i64 (5*t10)))).toNat<25)) (
   (m24[(wrap .i64 (t9+(wrap .i64 (5*t10)))).toNat]?).bind fun x10=>
   (sa x9 x10).bind fun r_4=>
   br (decide (0≤(wrap .i64 (t10+(wrap .i64 (5*((wrap .i64 ((wrap .i64 (2*t9))+(wrap .i64 (3*t10)))).tmod 5))))))&&decide ((wrap .i64 (t10+(wrap .i64 (5*((wrap .i64 ((wrap .i64 (2*t9))+(wrap .i64 (3*t10)))).tmod 5))))).toNat<25)) (
   br (decide ((wrap .i64 (t10+(wrap .i64 (5*((wrap .i64 ((wrap .i64 (2*t9))+(wrap .i64 (3*t10)))).tmod 5))))).toNat<m26.length)) (
   some (.inl ((m26.set ((wrap .i64 (t10+(wrap .i64 (5*((wrap .i64 ((wrap .i64 (2*t9))+(wrap .i64 (3*t10)))).tmod 5))))).toNat) r_4),(wrap .i64 (t10+1))))) none) none) none) none) (
   some (.inr (m26,t10,decide (t10<5))))
abbrev nI (m21 m22 m23 m24 m25 m26:List Int):List (Nat×Blk):=[(1000,⟨25,true,[ar .u64 m21]⟩),(1001,⟨25,true,[ar .u64 m22]⟩),(2001,⟨24,true,[ar .u64 m23]⟩),(3001,⟨25,true,[ar .u64 m24]⟩),(7001,⟨5,true,[ar .u64 m25]⟩),(16001,⟨25,true,[ar .u64 m26]⟩)]
abbrev wZ (m21 m22 m23 m24 m25:List Int) (t8 t9:Int) (s:(List Int)×Int):St:=⟨[(1,.ptr 1000 0 0 1),(2,.ptr 1001 0 0 1),(3,.ptr 2001 0 0 1),(4,.ptr 3001 0 0 1),(5,I t8),(9,.ptr 16001 0 0 1),(10,I t9),(11,I s.2)],nI m21 m22 m23 m24 m25 s.1⟩
abbrev ws (m21 m22 m23 m24 m25:List Int) (t8 t9:Int):((List Int)×Int×Bool)→ai×St:=fun e=>(.exit 8,⟨[(1,.ptr 1000 0 0 1),(2,.ptr 1001 0 0 1),(3,.ptr 2001 0 0 1),(4,.ptr 3001 0 0 1),(5,I t8),(9,.ptr 16001 0 0 1),(10,I t9),(11,I e.2.1),(77,B e.2.2)],nI m21 m22 m23 m24 m25 e.1⟩)
theorem HO {m21 m22 m23 m24 m25 t8 t9 s e} (h:Loop (fe m21 m22 m23 m24 m25 t8 t9) s=some e):aD tab ow (.close [23021]) mW (wZ m21 m22 m23 m24 m25 t8 t9 s)=some (ws m21 m22 m23 m24 m25 t8 t9 e):=by
 refine lrG (fun s o h=> ?_) h
 obtain ⟨_,_⟩:=s
 simp only [fe] at h
 simp+decide only [wZ,ws,nI,mW,go_sem,reduceIte,Nat.reduceAdd]
 have d1:= @J1
 all_goals exact go
def fi (m15 m16 m17 m18 m19:List Int) (t6:Int):(List Int)×Int→Option (((List Int)×Int)⊕(((List Int)×Int×Bool)))
 | (m20,t7)=>
   br (decide (t7<5)) (
   (Loop (fe m15 m16 m17 m18 m19 t6 t7) (m20,0)).bind fun e_3=>
   some (.inl (e_3.1,(wrap .i64 (t7+1))))) (
   some (.inr (m20,t7,decide (t7<5))))
abbrev nX (m15 m16 m17 m18 m19 m20:List Int):List (Nat×Blk):=[(1000,⟨25,true,[ar .u64 m15]⟩),(1001,⟨25,true,[ar .u64 m16]⟩),(2001,⟨24,true,[ar .u64 m17]⟩),(3001,⟨25,true,[ar .u64 m18]⟩),(7001,⟨5,true,[ar .u64 m19]⟩),(16001,⟨25,true,[ar .u64 m20]⟩)]
abbrev wt (m15 m16 m17 m18 m19:List Int) (t6:Int) (s:(List Int)×Int):St:=⟨[(1,.ptr 1000 0 0 1),(2,.ptr 1001 0 0 1),(3,.ptr 2001 0 0 1),(4,.ptr 3001 0 0 1),(5,I t6),(9,.ptr 16001 0 0 1),(10,I s.2)],nX m15 m16 m17 m18 m19 s.1⟩
abbrev xB (m15 m16 m17 m18 m19:List Int) (t6:Int):((List Int)×Int×Bool)→ai×St:=fun e=>(.exit 6,⟨[(1,.ptr 1000 0 0 1),(2,.ptr 1001 0 0 1),(3,.ptr 2001 0 0 1),(4,.ptr 3001 0 0 1),(5,I t6),(9,.ptr 16001 0 0 1),(10,I e.2.1),(73,B e.2.2)],nX m15 m16 m17 m18 m19 e.1⟩)
theorem HN {m15 m16 m17 m18 m19 t6 s e} (h:Loop (fi m15 m16 m17 m18 m19 t6) s=some e):aD tab ow (.close [23021]) mM (wt m15 m16 m17 m18 m19 t6 s)=some (xB m15 m16 m17 m18 m19 t6 e):=by
 refine lrG (fun s o h=> ?_) h
 obtain ⟨_,_⟩:=s
 simp only [fi] at h
 simp+decide only [wt,xB,nX,mM,go_sem,reduceIte,Nat.reduceAdd]
 have d1:= @HO
 all_goals exact go
def fk (m34 m35 m36 m37 m38:List Int) (t13 t14:Int):(List Int)×Int→Option (((List Int)×Int)⊕(((List Int)×Int×Bool)))
 | (m33,t15)=>
   br (decide (t15<5)) (
   br (decide (0≤(wrap .i64 (t14+(wrap .i64 (5*t15)))))&&decide ((wrap .i64 (t14+(wrap .i64 (5*t15)))).toNat<25)) (
   (m38[(wrap .i64 (t14+(wrap .i64 (5*t15)))).toNat]?).bind fun x11=>
   br (decide (0≤(wrap .i64 (((wrap .i64 (t14+1)).tmod 5)+(wrap .i64 (5*t15)))))&&decide ((wrap .i64 (((wrap .i64 (t14+1)).tmod 5)+(wrap .i64 (5*t15)))).toNat<25)) (
   (m38[(wrap .i64 (((wrap .i64 (t14+1)).tmod 5)+(wrap .i64 (5*t15)))).toNat]?).bind fun x12=>
   br (decide (0≤(wrap .i64 (((wrap .i64 (t14+2)).tmod 5)+(wrap .i64 (5*t15)))))&&decide ((wrap .i64 (((wrap .i64 (t14+2)).tmod 5)+(wrap .i64 (5*t15)))).toNat<25)) (
   (m38[(wrap .i64 (((wrap .i64 (t14+2)).tmod 5)+(wrap .i64 (5*t15)))).toNat]?).bind fun x13=>
   br (decide (0≤(wrap .i64 (t14+(wrap .i64 (5*t15)))))&&decide ((wrap .i64 (t14+(wrap .i64 (5*t15)))).toNat<25)) (
   br (decide ((wrap .i64 (t14+(wrap .i64 (5*t15)))).toNat<m33.length)) (
   some (.inl ((m33.set ((wrap .i64 (t14+(wrap .i64 (5*t15)))).toNat) (ga .u64 x11 (bm .u64 (bQ .u64 x12) x13))),(wrap .i64 (t15+1))))) none) none) none) none) none) (
   some (.inr (m33,t15,decide (t15<5))))
abbrev nD (m34 m35 m36 m37 m38 m33:List Int):List (Nat×Blk):=[(1000,⟨25,true,[ar .u64 m33]⟩),(1001,⟨25,true,[ar .u64 m34]⟩),(2001,⟨24,true,[ar .u64 m35]⟩),(3001,⟨25,true,[ar .u64 m36]⟩),(7001,⟨5,true,[ar .u64 m37]⟩),(16001,⟨25,true,[ar .u64 m38]⟩)]
abbrev xj (m34 m35 m36 m37 m38:List Int) (t13 t14:Int) (s:(List Int)×Int):St:=⟨[(1,.ptr 1000 0 0 1),(2,.ptr 1001 0 0 1),(3,.ptr 2001 0 0 1),(4,.ptr 3001 0 0 1),(5,I t13),(9,.ptr 16001 0 0 1),(12,I t14),(13,I s.2)],nD m34 m35 m36 m37 m38 s.1⟩
abbrev wB (m34 m35 m36 m37 m38:List Int) (t13 t14:Int):((List Int)×Int×Bool)→ai×St:=fun e=>(.exit 12,⟨[(1,.ptr 1000 0 0 1),(2,.ptr 1001 0 0 1),(3,.ptr 2001 0 0 1),(4,.ptr 3001 0 0 1),(5,I t13),(9,.ptr 16001 0 0 1),(12,I t14),(13,I e.2.1),(108,B e.2.2)],nD m34 m35 m36 m37 m38 e.1⟩)
theorem IG {m34 m35 m36 m37 m38 t13 t14 s e} (h:Loop (fk m34 m35 m36 m37 m38 t13 t14) s=some e):aD tab ow (.close []) ne (xj m34 m35 m36 m37 m38 t13 t14 s)=some (wB m34 m35 m36 m37 m38 t13 t14 e):=by
 refine lrG (fun s o h=> ?_) h
 obtain ⟨_,_⟩:=s
 simp only [fk] at h
 simp+decide only [xj,wB,nD,ne,go_sem,reduceIte,Nat.reduceAdd]
 all_goals exact go
def fc (m28 m29 m30 m31 m32:List Int) (t11:Int):(List Int)×Int→Option (((List Int)×Int)⊕(((List Int)×Int×Bool)))
 | (m27,t12)=>
   br (decide (t12<5)) (
   (Loop (fk m28 m29 m30 m31 m32 t11 t12) (m27,0)).bind fun e_5=>
   some (.inl (e_5.1,(wrap .i64 (t12+1))))) (
   some (.inr (m27,t12,decide (t12<5))))
abbrev nW (m28 m29 m30 m31 m32 m27:List Int):List (Nat×Blk):=[(1000,⟨25,true,[ar .u64 m27]⟩),(1001,⟨25,true,[ar .u64 m28]⟩),(2001,⟨24,true,[ar .u64 m29]⟩),(3001,⟨25,true,[ar .u64 m30]⟩),(7001,⟨5,true,[ar .u64 m31]⟩),(16001,⟨25,true,[ar .u64 m32]⟩)]
abbrev wM (m28 m29 m30 m31 m32:List Int) (t11:Int) (s:(List Int)×Int):St:=⟨[(1,.ptr 1000 0 0 1),(2,.ptr 1001 0 0 1),(3,.ptr 2001 0 0 1),(4,.ptr 3001 0 0 1),(5,I t11),(9,.ptr 16001 0 0 1),(12,I s.2)],nW m28 m29 m30 m31 m32 s.1⟩
abbrev xl (m28 m29 m30 m31 m32:List Int) (t11:Int):((List Int)×Int×Bool)→ai×St:=fun e=>(.exit 10,⟨[(1,.ptr 1000 0 0 1),(2,.ptr 1001 0 0 1),(3,.ptr 2001 0 0 1),(4,.ptr 3001 0 0 1),(5,I t11),(9,.ptr 16001 0 0 1),(12,I e.2.1),(104,B e.2.2)],nW m28 m29 m30 m31 m32 e.1⟩)
theorem HU {m28 m29 m30 m31 m32 t11 s e} (h:Loop (fc m28 m29 m30 m31 m32 t11) s=some e):aD tab ow (.close []) mX (wM m28 m29 m30 m31 m32 t11 s)=some (xl m28 m29 m30 m31 m32 t11 e):=by
 refine lrG (fun s o h=> ?_) h
 obtain ⟨_,_⟩:=s
 simp only [fc] at h
 simp+decide only [wM,xl,nW,mX,go_sem,reduceIte,Nat.reduceAdd]
 have d1:= @IG
 all_goals exact go
def fg (m2 m3 m4:List Int):(List Int)×Int→Option (((List Int)×Int)⊕(((List Int)×Int×Bool)))
 | (m,t)=>
   br (decide (t<24)) (
   (Loop (fh m m2 m3 m4 t) ((nZ 5),0)).bind fun e_=>
   (Loop (ff m2 m3 m4 e_.1 t) (m,0)).bind fun e_2=>
   (Loop (fi e_2.1 m2 m3 m4 e_.1 t) ((nZ 25),0)).bind fun e_4=>
   (Loop (fc m2 m3 m4 e_.1 e_4.1 t) (e_2.1,0)).bind fun e_6=>
   (e_6.1[0]?).bind fun x14=>
   br (decide (0≤t)&&decide (t.toNat<24)) (
   (m3[t.toNat]?).bind fun x15=>
   br (decide (0<e_6.1.length)) (
   some (.inl ((e_6.1.set 0 (ga .u64 x14 x15)),(wrap .i64 (t+1))))) none) none) (
   some (.inr (m,t,decide (t<24))))
abbrev of (m2 m3 m4 m:List Int):List (Nat×Blk):=[(1000,⟨25,true,[ar .u64 m]⟩),(1001,⟨25,true,[ar .u64 m2]⟩),(2001,⟨24,true,[ar .u64 m3]⟩),(3001,⟨25,true,[ar .u64 m4]⟩)]
abbrev xc (m2 m3 m4:List Int) (s:(List Int)×Int):St:=⟨[(1,.ptr 1000 0 0 1),(2,.ptr 1001 0 0 1),(3,.ptr 2001 0 0 1),(4,.ptr 3001 0 0 1),(5,I s.2)],of m2 m3 m4 s.1⟩
abbrev wx (m2 m3 m4:List Int):((List Int)×Int×Bool)→ai×St:=fun e=>(.exit 0,⟨[(1,.ptr 1000 0 0 1),(2,.ptr 1001 0 0 1),(3,.ptr 2001 0 0 1),(4,.ptr 3001 0 0 1),(5,I e.2.1),(17,B e.2.2)],of m2 m3 m4 e.1⟩)
theorem It {m2 m3 m4 s e} (h:Loop (fg m2 m3 m4) s=some e):aD tab ow (.close [7001,15013,16001,23021]) o9 (xc m2 m3 m4 s)=some (wx m2 m3 m4 e):=by
 refine lrG (fun s o h=> ?_) h
 obtain ⟨_,_⟩:=s
 simp only [fg] at h
 simp+decide only [xc,wx,of,o9,go_sem,reduceIte,Nat.reduceAdd]
 have d1:= @HP
 have d2:= @HH
 have d3:= @HN
 have d4:= @HU
 all_goals exact go
def n6 (ListtoArray:(List Int)):Option ((List Int)):=
 br (decide (ListtoArray.length=25)) (
 (Ag).bind fun r_=>
 br (decide (r_.length=24)) (
 (Ab).bind fun r_2=>
 br (decide (r_2.length=25)) (
 (Loop (fg (nZ 25) r_ r_2) (ListtoArray,0)).bind fun e_7=>
 br (decide (e_7.1.length=25)) (
 br (decide (e_7.1.length=25)) (
 br (decide (e_7.1.length=25)) (
 some e_7.1) none) none) none) none) none) none
theorem Mk {ListtoArray r} (h:n6 ListtoArray=some r):Call tab ow 305 [.agg (ar .u64 ListtoArray)] []=some (.agg (ar .u64 r),[]):=by
 rw [ab (af:=ng) rfl]
 unfold n6 at h
 simp+decide only [ng,B7,go_sem,reduceIte,Nat.reduceAdd]
 have d1:= @Q7
 have d2:= @Pr
 have d3:= @It
 all_goals exact go
section
theorem SI:mkR 2000 []=rws eU8 []:=rfl
attribute [local go_sem] SI
theorem S9:mkR 6011 []=rws eU8 []:=rfl
attribute [local go_sem] S9
def iM (m:List Int) (n2:Int):(List UInt8)×Int→Option (((List UInt8)×Int)⊕(((List UInt8)×Int×Bool)))
 | (l,i)=>
   br (decide (i<n2)) (
   br (decide (0≤(wrap .i64 (i.tdiv 8)))&&decide ((wrap .i64 (i.tdiv 8)).toNat<25)) (
   (m[(wrap .i64 (i.tdiv 8)).toNat]?).bind fun x=>
   br (decide (0≤(wrap .u64 (wrap .i64 (8*(i.tmod 8)))))) (
   br (bc ((l++([(UInt8.ofInt (aM .u64 x (wrap .u64 (wrap .i64 (8*(i.tmod 8))))))]:List UInt8)).length) 1) (
   some (.inl ((l++([(UInt8.ofInt (aM .u64 x (wrap .u64 (wrap .i64 (8*(i.tmod 8))))))]:List UInt8)),(wrap .i64 (i+1))))) none) none) none) (
   some (.inr (l,i,decide (i<n2))))
abbrev vB (m:List Int) (l:List UInt8):List (Nat×Blk):=[(1000,⟨25,true,[ar .u64 m]⟩),(2000,⟨1,false,rws eU8 l⟩)]
abbrev Dq (m:List Int) (n2:Int) (s:(List UInt8)×Int):St:=⟨[(1,I n2),(2,.ptr 1000 0 0 1),(5,.sl 2000 0 s.1.length),(6,I s.2)],vB m s.1⟩
abbrev DV (m:List Int) (n2:Int):((List UInt8)×Int×Bool)→ai×St:=fun e=>(.exit 0,⟨[(1,I n2),(2,.ptr 1000 0 0 1),(5,.sl 2000 0 e.1.length),(6,I e.2.1),(10,B e.2.2)],vB m e.1⟩)
theorem PX {m n2 s e} (h:Loop (iM m n2) s=some e):aD tab ow (.close [6011,6012]) vt (Dq m n2 s)=some (DV m n2 e):=by
 refine lrG (fun s o h=> ?_) h
 obtain ⟨_,_⟩:=s
 simp only [iM] at h
 simp+decide only [Dq,DV,vB,vt,go_sem,reduceIte,Nat.reduceAdd]
 all_goals exact go
def wC (a:(List Int)) (n:Int):Option ((List UInt8)):=
 br (decide (a.length=25)) (
 (Loop (iM a n) (([]:List UInt8),0)).bind fun e_=>
 some e_.1) none
theorem W5 {a n r} (h:wC a n=some r):Call tab ow 306 [.agg (ar .u64 a),I n] []=some (S r,[]):=by
 rw [ab (af:=uC) rfl]
 unfold wC at h
 simp+decide only [uC,JK,go_sem,reduceIte,Nat.reduceAdd]
 have d1:= @PX
 all_goals exact go
end
section
theorem Tf:mkR 2002 []=rws eU8 []:=rfl
attribute [local go_sem] Tf
theorem T2:mkR 4001 []=rws eU8 []:=rfl
attribute [local go_sem] T2
def gA (l2:List UInt8):(List UInt8)→Option (((List UInt8))⊕(((List UInt8)×Bool)))
 |l=>
  br ((((l.length:Nat):Int).tmod 136) !=0) (
  br (bc ((l++([(0:UInt8)]:List UInt8)).length) 1) (
  some (.inl (l++([(0:UInt8)]:List UInt8)))) none) (
  some (.inr (l,((((l.length:Nat):Int).tmod 136) !=0))))
abbrev wj (l2 l:List UInt8):List (Nat×Blk):=[(2001,⟨1,false,rws eU8 l⟩),(2002,⟨1,false,rws eU8 l2⟩)]
abbrev DE (l2:List UInt8) (s:(List UInt8)):St:=⟨[(3,.sl 2001 0 s.length)],wj l2 s⟩
abbrev Dg (l2:List UInt8):((List UInt8)×Bool)→ai×St:=fun e=>(.exit 0,⟨[(3,.sl 2001 0 e.1.length),(15,B e.2)],wj l2 e.1⟩)
theorem Q1 {l2 s e} (h:Loop (gA l2) s=some e):aD tab ow (.close [4001,4002]) vq (DE l2 s)=some (Dg l2 e):=by
 refine lrG (fun s o h=> ?_) h
 simp only [gA] at h
 simp+decide only [DE,Dg,wj,vq,go_sem,reduceIte,Nat.reduceAdd]
 all_goals exact go
def iV (l4:List UInt8) (m4:List Int) (m5:List UInt8) (at_2:Int):(List Int)×Int→Option (((List Int)×Int)⊕(((List Int)×Int×Bool)))
 | (m3,i)=>
   br (decide (i<25)) (
   br (decide (0≤i)&&decide (i.toNat<25)) (
   (m3[i.toNat]?).bind fun x3=>
   br (decide (0≤i)&&decide (i.toNat<25)) (
   (m4[i.toNat]?).bind fun x4=>
   br (decide (0≤i)&&decide (i.toNat<25)) (
   br (decide (i.toNat<m3.length)) (
   some (.inl ((m3.set i.toNat (ga .u64 x3 x4)),(wrap .i64 (i+1))))) none) none) none) none) (
   some (.inr (m3,i,decide (i<25))))
abbrev vv (l4:List UInt8) (m4 m3:List Int):List (Nat×Blk):=[(2002,⟨1,false,rws eU8 l4⟩),(6001,⟨25,true,[ar .u64 m3]⟩),(10007,⟨25,true,[ar .u64 m4]⟩)]
abbrev De (l4:List UInt8) (m4:List Int) (m5:List UInt8) (at_2:Int) (s:(List Int)×Int):St:=⟨[(3,sl eU8 m5),(4,.ptr 6001 0 0 1),(5,I at_2),(6,.ptr 10007 0 0 1),(7,I s.2)],vv l4 m4 s.1⟩
abbrev CB (l4:List UInt8) (m4:List Int) (m5:List UInt8) (at_2:Int):((List Int)×Int×Bool)→ai×St:=fun e=>(.exit 4,⟨[(3,sl eU8 m5),(4,.ptr 6001 0 0 1),(5,I at_2),(6,.ptr 10007 0 0 1),(7,I e.2.1),(42,B e.2.2)],vv l4 m4 e.1⟩)
theorem PA {l4 m4 m5 at_2 s e} (h:Loop (iV l4 m4 m5 at_2) s=some e):aD tab ow (.close []) tN (De l4 m4 m5 at_2 s)=some (CB l4 m4 m5 at_2 e):=by
 refine lrG (fun s o h=> ?_) h
 obtain ⟨_,_⟩:=s
 simp only [iV] at h
 simp+decide only [De,CB,vv,tN,go_sem,reduceIte,Nat.reduceAdd]
 all_goals exact go
def iW (l3 m2:List UInt8):(List Int)×Int→Option (((List Int)×Int)⊕(((List Int)×Int×Bool)))
 | (m,at_)=>
   br (decide (at_<((m2.length:Nat):Int))) (
   (rL m2 at_ (wrap .i64 (at_+136))).bind fun y=>
   (sG y).bind fun r_=>
   br (decide (r_.length=25)) (
   (Loop (iV l3 r_ m2 at_) (m,0)).bind fun e_2=>
   br (decide (e_2.1.length=25)) (
   (n6 e_2.1).bind fun r_2=>
   br (decide (r_2.length=25)&&decide (e_2.1.length=25)) (
   some (.inl (r_2,(wrap .i64 (at_+136))))) none) none) none) (
   some (.inr (m,at_,decide (at_<((m2.length:Nat):Int)))))
abbrev oX (l3:List UInt8) (m:List Int):List (Nat×Blk):=[(2002,⟨1,false,rws eU8 l3⟩),(6001,⟨25,true,[ar .u64 m]⟩)]
abbrev vm (l3 m2:List UInt8) (s:(List Int)×Int):St:=⟨[(3,sl eU8 m2),(4,.ptr 6001 0 0 1),(5,I s.2)],oX l3 s.1⟩
abbrev DW (l3 m2:List UInt8):((List Int)×Int×Bool)→ai×St:=fun e=>(.exit 2,⟨[(3,sl eU8 m2),(4,.ptr 6001 0 0 1),(5,I e.2.1),(31,B e.2.2)],oX l3 e.1⟩)
theorem P5 {l3 m2 s e} (h:Loop (iW l3 m2) s=some e):aD tab ow (.close [10006,10007,15001,2001]) vl (vm l3 m2 s)=some (DW l3 m2 e):=by
 refine lrG (fun s o h=> ?_) h
 obtain ⟨_,_⟩:=s
 simp only [iW] at h
 simp+decide only [vm,DW,oX,vl,go_sem,reduceIte,Nat.reduceAdd]
 have d1:= @TQ
 have d2:= @PA
 have d3:= @Mk
 all_goals exact go
def fW (b:(List UInt8)):Option ((List UInt8)):=
 br (bc b.length 1) (
 br (bc ((b++([(1:UInt8)]:List UInt8)).length) 1) (
 (Loop (gA ([(1:UInt8)]:List UInt8)) (b++([(1:UInt8)]:List UInt8))).bind fun e_=>
 br (decide (0≤(wrap .i64 (((e_.1.length:Nat):Int)-1)))) (
 br (decide ((wrap .i64 (((e_.1.length:Nat):Int)-1)).toNat<e_.1.length)) (
 (e_.1[(wrap .i64 (((e_.1.length:Nat):Int)-1)).toNat]?).bind fun x=>
 br (decide (0≤(wrap .i64 (((e_.1.length:Nat):Int)-1)))) (
 br (decide ((wrap .i64 (((e_.1.length:Nat):Int)-1)).toNat<e_.1.length)) (
 (e_.1[(wrap .i64 (((e_.1.length:Nat):Int)-1)).toNat]?).bind fun x2=>
 (Loop (iW ([(1:UInt8)]:List UInt8) (e_.1.set ((wrap .i64 (((e_.1.length:Nat):Int)-1)).toNat) (UInt8.ofInt (vX .u8 (x.toNat:Int) 128)))) ((nZ 25),0)).bind fun e_3=>
 br (decide (e_3.1.length=25)) (
 (wC e_3.1 32).bind fun r_3=>
 some r_3) none) none) none) none) none) none) none
theorem js {b r} (h:fW b=some r):Call tab ow 210 [S b] []=some (S r,[]):=by
 rw [ab (af:=tY) rfl]
 unfold fW at h
 simp+decide only [tY,Jf,go_sem,reduceIte,Nat.reduceAdd]
 have d1:= @Q1
 have d2:= @P5
 simp only [vm,oX] at d2
 have d3:= @W5
 all_goals exact go
end
def B0 (label:(List UInt8)) (list:(List Ext)):Option (Source):=
 br (bc ((([115,111,117,114,99,101]:List UInt8)).length+label.length) 1) (
 (fW ((([115,111,117,114,99,101]:List UInt8))++label)).bind fun r_=>
 some (Source.mk list 0 r_ 0)) none
theorem YK {label list r} (h:B0 label list=some r):Call tab ow 145 [S label,sl ag list] []=some (.agg [sl ag r.Script,I r.At,S r.State,I r.Count],[]):=by
 rw [ab (af:=xJ) rfl]
 unfold B0 at h
 simp+decide only [xJ,N1,go_sem,reduceIte,Nat.reduceAdd]
 have d1:= @js
 all_goals exact go
section
theorem M7:mkR 2000 []=rws eU8 []:=rfl
attribute [local go_sem] M7
theorem ON:mkR 6007 []=rws eU8 []:=rfl
attribute [local go_sem] ON
def pT (n2:Int):(List UInt8)×Int→Option (((List UInt8)×Int)⊕(((List UInt8)×Int×Bool)))
 | (l,i)=>
   br (decide (i≥0)) (
   br (decide (0≤(wrap .u64 (wrap .i64 (8*i))))) (
   br (bc ((l++([(UInt8.ofInt (aM .i64 n2 (wrap .u64 (wrap .i64 (8*i)))))]:List UInt8)).length) 1) (
   some (.inl ((l++([(UInt8.ofInt (aM .i64 n2 (wrap .u64 (wrap .i64 (8*i)))))]:List UInt8)),(wrap .i64 (i-1))))) none) none) (
   some (.inr (l,i,decide (i≥0))))
abbrev zk (n2:Int) (s:(List UInt8)×Int):St:=⟨[(0,I n2),(5,.sl 2000 0 s.1.length),(6,I s.2)],[(2000,⟨1,false,rws eU8 s.1⟩)]⟩
abbrev zF (n2:Int):((List UInt8)×Int×Bool)→ai×St:=fun e=>(.exit 0,⟨[(0,I n2),(5,.sl 2000 0 e.1.length),(6,I e.2.1),(11,B e.2.2)],[(2000,⟨1,false,rws eU8 e.1⟩)]⟩)
theorem Ks {n2 s e} (h:Loop (pT n2) s=some e):aD tab ow (.close [6007,6008]) pZ (zk n2 s)=some (zF n2 e):=by
 refine lrG (fun s o h=> ?_) h
 obtain ⟨_,_⟩:=s
 simp only [pT] at h
 simp+decide only [zk,zF,pZ,go_sem,reduceIte,Nat.reduceAdd]
 all_goals exact go
def ed (n size:Int):Option ((List UInt8)):=
 (Loop (pT n) (([]:List UInt8),(wrap .i64 (size-1)))).bind fun e_=>
 some e_.1
theorem iX {n size r} (h:ed n size=some r):Call tab ow 179 [I n,I size] []=some (sl eU8 r,[]):=by
 rw [ab (af:=p5) rfl]
 unfold ed at h
 simp+decide only [p5,Du,go_sem,reduceIte,Nat.reduceAdd]
 have d1:= @Ks
 all_goals exact go
end
def dZ (s:Source) (t:(List UInt8)):Option (Source):=
 br (bc (s.State.length+(([97,98,115,111,114,98]:List UInt8)).length) 1) (
 (ed ((t.length:Nat):Int) 4).bind fun r_=>
 br (bc ((s.State++(([97,98,115,111,114,98]:List UInt8))).length+r_.length) 1) (
 br (bc (((s.State++(([97,98,115,111,114,98]:List UInt8)))++r_).length+t.length) 1) (
 (fW (((s.State++(([97,98,115,111,114,98]:List UInt8)))++r_)++t)).bind fun r_2=>
 some (Source.mk s.Script s.At r_2 0)) none) none) none
theorem gk {s t r} (h:dZ s t=some r):Call tab ow 148 [.agg [sl ag s.Script,I s.At,S s.State,I s.Count],S t] []=some (.agg [sl ag r.Script,I r.At,S r.State,I r.Count],[]):=by
 rw [ab (af:=oM) rfl]
 unfold dZ at h
 simp+decide only [oM,CO,go_sem,reduceIte,Nat.reduceAdd]
 have d1:= @iX
 have d2:= @js
 all_goals exact go
def hG (t2:List UInt8):Int×Int→Option ((Int×Int)⊕((Int×Int×Bool)))
 | (n,i)=>
   br (decide (i<8)) (
   (atL t2 i).bind fun c=>
   some (.inl (((wrap .i64 ((wrap .i64 (n*256))+(wrap .i64 (c.toNat:Int)))).tmod 2130706433),(wrap .i64 (i+1))))) (
   some (.inr (n,i,decide (i<8))))
abbrev By (t2:List UInt8) (s:Int×Int):St:=⟨[(0,S t2),(3,I s.1),(4,I s.2)],[]⟩
abbrev BG (t2:List UInt8):(Int×Int×Bool)→ai×St:=fun e=>(.exit 0,⟨[(0,S t2),(3,I e.1),(4,I e.2.1),(6,B e.2.2)],[]⟩)
theorem MH {t2 s e} (h:Loop (hG t2) s=some e):aD tab ow (.close []) sU (By t2 s)=some (BG t2 e):=by
 refine lrG (fun s o h=> ?_) h
 obtain ⟨_,_⟩:=s
 simp only [hG] at h
 simp+decide only [By,BG,sU,go_sem,reduceIte,Nat.reduceAdd]
 all_goals exact go
def o5 (t:(List UInt8)):Option (Int):=
 (Loop (hG t) (0,0)).bind fun e_=>
 some e_.1
theorem SH {t r} (h:o5 t=some r):Call tab ow 266 [S t] []=some (I r,[]):=by
 rw [ab (af:=qT) rfl]
 unfold o5 at h
 simp+decide only [qT,Hk,go_sem,reduceIte,Nat.reduceAdd]
 have d1:= @MH
 all_goals exact go
def iL (s:Source):Option (Source×Ext):=
 br (decide (((s.Script.length:Nat):Int)>0)) (
 br (decide (((s.Script.length:Nat):Int)≠0)) (
 (atL s.Script (s.At.tmod ((s.Script.length:Nat):Int))).bind fun x=>
 some ((Source.mk s.Script (wrap .i64 (s.At+1)) s.State s.Count),x)) none) (
 br (bc (s.State.length+(([100,114,97,119]:List UInt8)).length) 1) (
 (ed s.Count 4).bind fun r_=>
 br (bc ((s.State++(([100,114,97,119]:List UInt8))).length+r_.length) 1) (
 (fW ((s.State++(([100,114,97,119]:List UInt8)))++r_)).bind fun r_2=>
 (rL r_2 0 8).bind fun y=>
 (o5 y).bind fun r_3=>
 (rL r_2 8 16).bind fun y2=>
 (o5 y2).bind fun r_4=>
 some ((Source.mk s.Script s.At s.State (wrap .i64 (s.Count+1))),(Ext.mk r_3 r_4))) none) none)
theorem pB {s r} (h:iL s=some r):Call tab ow 149 [.agg [sl ag s.Script,I s.At,S s.State,I s.Count]] []=some (.tup [.agg [sl ag r.1.Script,I r.1.At,S r.1.State,I r.1.Count],.agg [I r.2.A,I r.2.B]],[]):=by
 rw [ab (af:=u6) rfl]
 unfold iL at h
 simp+decide only [u6,JG,go_sem,reduceIte,Nat.reduceAdd]
 have d1:= @iX
 have d2:= @js
 have d3:= @SH
 all_goals exact go
section
theorem Xc:mkR 2000 []=rws ag []:=rfl
attribute [local go_sem] Xc
def pz (s:Source):Option (Source):=
 br (bc ((([]:List Ext)++s.Script).length) 16) (
 some (Source.mk (([]:List Ext)++s.Script) s.At s.State s.Count)) none
theorem ED {s r} (h:pz s=some r):Call tab ow 83 [.agg [sl ag s.Script,I s.At,S s.State,I s.Count]] []=some (.agg [sl ag r.Script,I r.At,S r.State,I r.Count],[]):=by
 rw [ab (af:=y7) rfl]
 unfold pz at h
 simp+decide only [y7,NG,go_sem,reduceIte,Nat.reduceAdd]
 all_goals exact go
end
end
end Go.AI.Fn
set_option linter.unusedVariables false
set_option linter.unusedSimpArgs false
set_option maxRecDepth 100000
set_option maxHeartbeats 1000000
namespace Go.AI.Fn
noncomputable section
open IntKind (wrap)
section
theorem Eg:mkR 2001 []=rws eS []:=rfl
attribute [local go_sem] Eg
theorem DX:mkR 2003 []=rws ag []:=rfl
attribute [local go_sem] DX
theorem EA:mkR 9002 []=rws eS []:=rfl
attribute [local go_sem] EA
def dB (c4:Int) (c5:List UInt8) (c6:Int):Int×(List UInt8)×Int×Int×(List Ext)×Int×(List UInt8)×Int→Option ((Int×(List UInt8)×Int×Int×(List Ext)×Int×(List UInt8)×Int)⊕((Int×Bool×(List UInt8)×Int×Int×(List Ext)×Int×(List UInt8)×Int)))
 | (i,c,c2,c3,c7,c8,c9,c10)=>
   br (decide (i>0)) (
   (dG 2 (bJ.mk c c2 c3)).bind fun r_7=>
   br r_7.1 (
   (gw ([(([]:List UInt8)),(([116,101,120,116]:List UInt8))]:List (List UInt8)) r_7.2).bind fun r_8=>
   (dZ (Source.mk c7 c8 c9 c10) r_8.1).bind fun r_9=>
   some (.inl ((wrap .i64 (i-1)),r_8.2.code,r_8.2.at_,r_8.2.seed,r_9.Script,r_9.At,r_9.State,r_9.Count))) (
   (iL (Source.mk c7 c8 c9 c10)).bind fun r_10=>
   some (.inl ((wrap .i64 (i-1)),r_7.2.code,r_7.2.at_,r_7.2.seed,r_10.1.Script,r_10.1.At,r_10.1.State,r_10.1.Count)))) (
   some (.inr (i,decide (i>0),c,c2,c3,c7,c8,c9,c10)))
abbrev kx (c4:Int) (c5:List UInt8) (c6:Int) (c:List UInt8) (c2 c3:Int) (c7:List Ext) (c8:Int) (c9:List UInt8) (c10:Int):List (Nat×Blk):=[(0,⟨3,true,[[sl eU8 c,I c2,I c3]]⟩),(1000,⟨4,true,[[.lit (.slice none 0 0),I c4,S c5,I c6]]⟩),(2001,dR),(2003,dR),(2005,⟨4,true,[[sl ag c7,I c8,S c9,I c10]]⟩)]
abbrev qJ (c4:Int) (c5:List UInt8) (c6:Int) (s:Int×(List UInt8)×Int×Int×(List Ext)×Int×(List UInt8)×Int):St:=⟨[(0,.ptr 0 0 0 1),(2,.ptr 1000 0 0 1),(3,.ptr 2005 0 0 1),(4,I s.1)],kx c4 c5 c6 s.2.1 s.2.2.1 s.2.2.2.1 s.2.2.2.2.1 s.2.2.2.2.2.1 s.2.2.2.2.2.2.1 s.2.2.2.2.2.2.2⟩
abbrev qM (c4:Int) (c5:List UInt8) (c6:Int):(Int×Bool×(List UInt8)×Int×Int×(List Ext)×Int×(List UInt8)×Int)→ai×St:=fun e=>(.exit 0,⟨[(0,.ptr 0 0 0 1),(2,.ptr 1000 0 0 1),(3,.ptr 2005 0 0 1),(4,I e.1),(21,B e.2.1)],kx c4 c5 c6 e.2.2.1 e.2.2.2.1 e.2.2.2.2.1 e.2.2.2.2.2.1 e.2.2.2.2.2.2.1 e.2.2.2.2.2.2.2.1 e.2.2.2.2.2.2.2.2⟩)
theorem Cy {c4 c5 c6 s e} (h:Loop (dB c4 c5 c6) s=some e):aD tab ow (.close [8001,9002,9003,9004,10001]) eQ (qJ c4 c5 c6 s)=some (qM c4 c5 c6 e):=by
 refine lrG (fun s o h=> ?_) h
 obtain ⟨_,_,_,_,_,_,_,_⟩:=s
 simp only [dB] at h
 simp+decide only [qJ,qM,kx,eQ,go_sem,reduceIte,Nat.reduceAdd]
 have d1:= @ji
 have d2:= @pY
 have d3:= @gk
 have d4:= @pB
 all_goals exact go
def gH (c14:Int) (c15:List UInt8) (c16:Int):Int×(List UInt8)×Int×Int×(List Ext)×Int×(List UInt8)×Int→Option ((Int×(List UInt8)×Int×Int×(List Ext)×Int×(List UInt8)×Int)⊕((Int×Bool×(List UInt8)×Int×Int×(List Ext)×Int×(List UInt8)×Int)))
 | (i2,c11,c12,c13,c17,c18,c19,c20)=>
   br (decide (i2>0)) (
   (dG 2 (bJ.mk c11 c12 c13)).bind fun r_13=>
   br r_13.1 (
   (gw ([(([]:List UInt8)),(([116,101,120,116]:List UInt8))]:List (List UInt8)) r_13.2).bind fun r_14=>
   (dZ (Source.mk c17 c18 c19 c20) r_14.1).bind fun r_15=>
   some (.inl ((wrap .i64 (i2-1)),r_14.2.code,r_14.2.at_,r_14.2.seed,r_15.Script,r_15.At,r_15.State,r_15.Count))) (
   (iL (Source.mk c17 c18 c19 c20)).bind fun r_16=>
   some (.inl ((wrap .i64 (i2-1)),r_13.2.code,r_13.2.at_,r_13.2.seed,r_16.1.Script,r_16.1.At,r_16.1.State,r_16.1.Count)))) (
   some (.inr (i2,decide (i2>0),c11,c12,c13,c17,c18,c19,c20)))
abbrev kD (c14:Int) (c15:List UInt8) (c16:Int) (c11:List UInt8) (c12 c13:Int) (c17:List Ext) (c18:Int) (c19:List UInt8) (c20:Int):List (Nat×Blk):=[(0,⟨3,true,[[sl eU8 c11,I c12,I c13]]⟩),(1000,⟨4,true,[[.lit (.slice none 0 0),I c14,S c15,I c16]]⟩),(2001,dR),(2003,dR),(2005,⟨4,true,[[sl ag c17,I c18,S c19,I c20]]⟩)]
abbrev qh (c14:Int) (c15:List UInt8) (c16:Int) (s:Int×(List UInt8)×Int×Int×(List Ext)×Int×(List UInt8)×Int):St:=⟨[(0,.ptr 0 0 0 1),(2,.ptr 1000 0 0 1),(3,.ptr 2005 0 0 1),(4,I s.1)],kD c14 c15 c16 s.2.1 s.2.2.1 s.2.2.2.1 s.2.2.2.2.1 s.2.2.2.2.2.1 s.2.2.2.2.2.2.1 s.2.2.2.2.2.2.2⟩
abbrev qy (c14:Int) (c15:List UInt8) (c16:Int):(Int×Bool×(List UInt8)×Int×Int×(List Ext)×Int×(List UInt8)×Int)→ai×St:=fun e=>(.exit 0,⟨[(0,.ptr 0 0 0 1),(2,.ptr 1000 0 0 1),(3,.ptr 2005 0 0 1),(4,I e.1),(21,B e.2.1)],kD c14 c15 c16 e.2.2.1 e.2.2.2.1 e.2.2.2.2.1 e.2.2.2.2.2.1 e.2.2.2.2.2.2.1 e.2.2.2.2.2.2.2.1 e.2.2.2.2.2.2.2.2⟩)
theorem Cz {c14 c15 c16 s e} (h:Loop (gH c14 c15 c16) s=some e):aD tab ow (.close [8001,9002,9003,9004,10001]) eQ (qh c14 c15 c16 s)=some (qy c14 c15 c16 e):=by
 refine lrG (fun s o h=> ?_) h
 obtain ⟨_,_,_,_,_,_,_,_⟩:=s
 simp only [gH] at h
 simp+decide only [qh,qy,kD,eQ,go_sem,reduceIte,Nat.reduceAdd]
 have d1:= @ji
 have d2:= @pY
 have d3:= @gk
 have d4:= @pB
 all_goals exact go
def ll (m:bJ):Option (Source×bJ):=
 (gw ([(([]:List UInt8)),(([97]:List UInt8)),(([108,97,98,101,108]:List UInt8))]:List (List UInt8)) m).bind fun r_=>
 (B0 r_.1 ([]:List Ext)).bind fun r_2=>
 (dG 3 r_.2).bind fun r_3=>
 br r_3.1 (
 (bD 5 r_3.2).bind fun r_4=>
 (iT (wrap .i64 (1+r_4.1)) r_4.2).bind fun r_5=>
 (bD 4 r_5.2).bind fun r_6=>
 (Loop (dB 0 (([]:List UInt8)) 0) (r_6.1,r_6.2.code,r_6.2.at_,r_6.2.seed,r_5.1,r_2.At,r_2.State,r_2.Count)).bind fun e_=>
 (pz (Source.mk e_.2.2.2.2.2.1 e_.2.2.2.2.2.2.1 e_.2.2.2.2.2.2.2.1 e_.2.2.2.2.2.2.2.2)).bind fun r_11=>
 some (r_11,(bJ.mk e_.2.2.1 e_.2.2.2.1 e_.2.2.2.2.1))) (
 (bD 4 r_3.2).bind fun r_12=>
 (Loop (gH 0 (([]:List UInt8)) 0) (r_12.1,r_12.2.code,r_12.2.at_,r_12.2.seed,r_2.Script,r_2.At,r_2.State,r_2.Count)).bind fun e_2=>
 (pz (Source.mk e_2.2.2.2.2.2.1 e_2.2.2.2.2.2.2.1 e_2.2.2.2.2.2.2.2.1 e_2.2.2.2.2.2.2.2.2)).bind fun r_17=>
 some (r_17,(bJ.mk e_2.2.2.1 e_2.2.2.2.1 e_2.2.2.2.2.1)))
theorem Ft {m r} (h:ll m=some r):Call tab ow 60 [.ptr 0 0 0 1] [⟨3,true,[[sl eU8 m.code,I m.at_,I m.seed]]⟩]=some (.agg [sl ag r.1.Script,I r.1.At,S r.1.State,I r.1.Count],[⟨3,true,[[sl eU8 r.2.code,I r.2.at_,I r.2.seed]]⟩]):=by
 rw [ab (af:=jk) rfl]
 unfold ll at h
 simp+decide only [jk,uE,go_sem,reduceIte,Nat.reduceAdd]
 have d1:= @pY
 have d2:= @YK
 have d3:= @ji
 have d4:= @fY
 have d5:= @zs
 have d6:= @Cy
 have d7:= @ED
 have d8:= @Cz
 all_goals exact go
end
def tv (code:(List UInt8)):Option (Source):=
 (mB code).bind fun r_=>
 (ll r_).bind fun r_2=>
 some r_2.1
theorem Td {code r} (h:tv code=some r):Call tab ow 12 [sl eU8 code] []=some (.agg [sl ag r.Script,I r.At,S r.State,I r.Count],[]):=by
 rw [ab (af:=rd) rfl]
 unfold tv at h
 simp+decide only [rd,Gy,go_sem,reduceIte,Nat.reduceAdd]
 have d1:= @w7
 have d2:= @Ft
 all_goals exact go
def ye (n low high:Int):Option (Bool):=
 br (decide (low≤n)) (
 some (decide (n≤high))) (
 some false)
theorem B9 {n low high r} (h:ye n low high=some r):Call tab ow 62 [I n,I low,I high] []=some (B r,[]):=by
 rw [ab (af:=SL) rfl]
 unfold ye at h
 simp+decide only [SL,a7z,go_sem,reduceIte,Nat.reduceAdd]
 all_goals exact go
def wN (n most:Int):Option (Bool):=
 (ye n 1 most).bind fun r_=>
 br r_ (
 some ((bm .i64 n (wrap .i64 (n-1)))==0)) (
 some false)
theorem VR {n most r} (h:wN n most=some r):Call tab ow 150 [I n,I most] []=some (B r,[]):=by
 rw [ab (af:=uk) rfl]
 unfold wN at h
 simp+decide only [uk,Jz,go_sem,reduceIte,Nat.reduceAdd]
 have d1:= @B9
 all_goals exact go
def rX (a:Int):Option (Bool):=
 (ye a 0 2130706432).bind fun r_=>
 some r_
theorem XK {a r} (h:rX a=some r):Call tab ow 186 [I a] []=some (B r,[]):=by
 rw [ab (af:=vg) rfl]
 unfold rX at h
 simp+decide only [vg,K3,go_sem,reduceIte,Nat.reduceAdd]
 have d1:= @B9
 all_goals exact go
def rD (a:Ext):Option (Bool):=
 (rX a.A).bind fun r_=>
 br r_ (
 (rX a.B).bind fun r_2=>
 some r_2) (
 some false)
theorem BZ {a r} (h:rD a=some r):Call tab ow 91 [.agg [I a.A,I a.B]] []=some (B r,[]):=by
 rw [ab (af:=Ci) rfl]
 unfold rD at h
 simp+decide only [Ci,Rz,go_sem,reduceIte,Nat.reduceAdd]
 have d1:= @XK
 all_goals exact go
def eJ (x:Ext):Option (Bool):=
 (rD x).bind fun r_=>
 some (!r_)
theorem A5 {x r} (h:eJ x=some r):Call tab ow 185 [.agg [I x.A,I x.B],.ptr 0 0 0 1] [⟨1,true,[[.fn 91 []]]⟩]=some (B r,[⟨1,true,[[.fn 91 []]]⟩]):=by
 rw [ab (af:=lf) rfl]
 unfold eJ at h
 simp+decide only [lf,zN,go_sem,reduceIte,Nat.reduceAdd]
 have d1:= @BZ
 all_goals exact go
def aT (s2:List Ext) (t:Int):Int→Option ((Int)⊕(Int⊕(Int×Bool)))
 |t2=>
  br (decide (t2<t)) (
  (atL s2 t2).bind fun x=>
  (eJ x).bind fun r_=>
  br r_ (
  some (.inr (.inl t2))) (
  some (.inl (wrap .i64 (t2+1))))) (
  some (.inr (.inr (t2,decide (t2<t)))))
abbrev cq (s2:List Ext) (t s:Int):St:=⟨[(0,sl ag s2),(1,.fn 185 [.ptr 0 0 0 1]),(7,I t),(8,I s)],[(0,⟨1,true,[[.fn 91 []]]⟩)]⟩
abbrev cp (s2:List Ext) (t:Int):(Int⊕(Int×Bool))→ai×St:=alt (fun e=>((.ret,⟨[(4,I e)],[(0,⟨1,true,[[.fn 91 []]]⟩)]⟩):ai×St)) (fun e=>(.exit 0,⟨[(0,sl ag s2),(1,.fn 185 [.ptr 0 0 0 1]),(7,I t),(8,I e.1),(9,B e.2)],[(0,⟨1,true,[[.fn 91 []]]⟩)]⟩))
theorem fb {s2 t s e} (h:Loop (aT s2 t) s=some e):aD tab ow (.close [5005]) dd (cq s2 t s)=some (cp s2 t e):=by
 refine lrG (fun s o h=> ?_) h
 simp only [aT] at h
 simp+decide only [cq,cp,dd,go_sem,reduceIte,Nat.reduceAdd]
 have d1:= @A5
 all_goals exact go
def bj (s:(List Ext)):Option (Int):=
 (Loop (aT s ((s.length:Nat):Int)) 0).bind (alt (fun e_2=>
 some e_2) (fun e_3=>
 some (-1:Int)))
theorem fO {s r} (h:bj s=some r):Call tab ow 292 [sl ag s,.fn 185 [.ptr 0 0 0 1]] [⟨1,true,[[.fn 91 []]]⟩]=some (I r,[⟨1,true,[[.fn 91 []]]⟩]):=by
 rw [ab (af:=cv) rfl]
 unfold bj at h
 simp+decide only [cv,gC,go_sem,reduceIte,Nat.reduceAdd]
 have d1:= @fb
 all_goals exact go
def aY (s:(List Ext)):Option (Bool):=
 (bj s).bind fun r_=>
 some (decide (r_≥0))
theorem eR {s r} (h:aY s=some r):Call tab ow 184 [sl ag s,.fn 185 [.ptr 0 0 0 1]] [⟨1,true,[[.fn 91 []]]⟩]=some (B r,[⟨1,true,[[.fn 91 []]]⟩]):=by
 rw [ab (af:=cc) rfl]
 unfold aY at h
 simp+decide only [cc,fx,go_sem,reduceIte,Nat.reduceAdd]
 have d1:= @fO
 all_goals exact go
def bW (list:(List Ext)):Option (Bool):=
 (aY list).bind fun r_=>
 some (!r_)
theorem dz {list r} (h:bW list=some r):Call tab ow 90 [.fn 91 [],sl ag list] []=some (B r,[]):=by
 rw [ab (af:=oF) rfl]
 unfold bW at h
 simp+decide only [oF,Dj,go_sem,reduceIte,Nat.reduceAdd]
 have d1:= @eR
 all_goals exact go
def mu (list:(List Ext)):Option (Bool):=
 (wN ((list.length:Nat):Int) 64).bind fun r_=>
 br r_ (
 (bW list).bind fun r_2=>
 some r_2) (
 some false)
theorem Bj {list r} (h:mu list=some r):Call tab ow 61 [sl ag list] []=some (B r,[]):=by
 rw [ab (af:=v5) rfl]
 unfold mu at h
 simp+decide only [v5,Kd,go_sem,reduceIte,Nat.reduceAdd]
 have d1:= @VR
 have d2:= @dz
 all_goals exact go
def NT (a b:Int):Option (Int):=
 some ((wrap .i64 ((wrap .i64 (a-b))+2130706433)).tmod 2130706433)
theorem a0I {a b r} (h:NT a b=some r):Call tab ow 274 [I a,I b] []=some (I r,[]):=by
 rw [ab (af:=Ln) rfl]
 unfold NT at h
 simp+decide only [Ln,a0Y,go_sem,reduceIte,Nat.reduceAdd]
 all_goals exact go
def cY (a b:Ext):Option (Ext):=
 (NT a.A b.A).bind fun r_=>
 (NT a.B b.B).bind fun r_2=>
 some (Ext.mk r_ r_2)
theorem eZ {a b r} (h:cY a b=some r):Call tab ow 155 [.agg [I a.A,I a.B],.agg [I b.A,I b.B]] []=some (.agg [I r.A,I r.B],[]):=by
 rw [ab (af:=oQ) rfl]
 unfold cY at h
 simp+decide only [oQ,CG,go_sem,reduceIte,Nat.reduceAdd]
 have d1:= @a0I
 all_goals exact go
section
theorem ET:mkR 2000 []=rws ag []:=rfl
attribute [local go_sem] ET
def cA (step2 t:Int):(List Ext)×Int→Option (((List Ext)×Int)⊕(((List Ext)×Int×Bool)))
 | (l2,t2)=>
   br (decide (t2<t)) (
   br ((bm .i64 t2 step2) !=0) (
   br (decide (0≤t2)) (
   br (decide (t2.toNat<l2.length)) (
   (l2[t2.toNat]?).bind fun x=>
   br (decide (0≤(wrap .i64 (t2-step2)))) (
   br (decide ((wrap .i64 (t2-step2)).toNat<l2.length)) (
   (l2[(wrap .i64 (t2-step2)).toNat]?).bind fun x2=>
   (cY x x2).bind fun r_=>
   br (decide (0≤t2)) (
   br (decide (t2.toNat<l2.length)) (
   (l2[t2.toNat]?).bind fun x3=>
   some (.inl ((l2.set t2.toNat r_),(wrap .i64 (t2+1))))) none) none) none) none) none) none) (
   some (.inl (l2,(wrap .i64 (t2+1)))))) (
   some (.inr (l2,t2,decide (t2<t))))
abbrev sA (step2 t:Int) (s:(List Ext)×Int):St:=⟨[(1,.fn 155 []),(5,.sl 2000 0 s.1.length),(6,I step2),(18,I t),(19,I s.2)],[(2000,⟨2,false,rws ag s.1⟩)]⟩
abbrev tW (step2 t:Int):((List Ext)×Int×Bool)→ai×St:=fun e=>(.exit 2,⟨[(1,.fn 155 []),(5,.sl 2000 0 e.1.length),(6,I step2),(18,I t),(19,I e.2.1),(20,B e.2.2)],[(2000,⟨2,false,rws ag e.1⟩)]⟩)
theorem El {step2 t s e} (h:Loop (cA step2 t) s=some e):aD tab ow (.close [10013]) xY (sA step2 t s)=some (tW step2 t e):=by
 refine lrG (fun s o h=> ?_) h
 obtain ⟨_,_⟩:=s
 simp only [cA] at h
 simp+decide only [sA,tW,xY,go_sem,reduceIte,Nat.reduceAdd]
 have d1:= @eZ
 all_goals exact go
def cV:(List Ext)×Int→Option (((List Ext)×Int)⊕(((List Ext)×Int×Bool)))
 | (l,step)=>
   br (decide (step<((l.length:Nat):Int))) (
   (Loop (cA step ((l.length:Nat):Int)) (l,0)).bind fun e_=>
   some (.inl (e_.1,(wrap .i64 (step*2))))) (
   some (.inr (l,step,decide (step<((l.length:Nat):Int)))))
abbrev sR (s:(List Ext)×Int):St:=⟨[(1,.fn 155 []),(5,.sl 2000 0 s.1.length),(6,I s.2)],[(2000,⟨2,false,rws ag s.1⟩)]⟩
abbrev tm:((List Ext)×Int×Bool)→ai×St:=fun e=>(.exit 0,⟨[(1,.fn 155 []),(5,.sl 2000 0 e.1.length),(6,I e.2.1),(14,B e.2.2)],[(2000,⟨2,false,rws ag e.1⟩)]⟩)
theorem Eo { s e} (h:Loop (cV) s=some e):aD tab ow (.close [10013]) yD (sR s)=some (tm e):=by
 refine lrG (fun s o h=> ?_) h
 obtain ⟨_,_⟩:=s
 simp only [cV] at h
 simp+decide only [sR,tm,yD,go_sem,reduceIte,Nat.reduceAdd]
 have d1:= @El
 all_goals exact go
def mG (table:(List Ext)):Option ((List Ext)):=
 br (bc ((([]:List Ext)++table).length) 16) (
 (Loop (cV) ((([]:List Ext)++table),1)).bind fun e_2=>
 some e_2.1) none
theorem Hq {table r} (h:mG table=some r):Call tab ow 154 [sl ag table,.fn 155 []] []=some (sl ag r,[]):=by
 rw [ab (af:=yk) rfl]
 unfold mG at h
 simp+decide only [yk,NR,go_sem,reduceIte,Nat.reduceAdd]
 have d1:= @Eo
 all_goals exact go
end
def rY (table:(List Ext)):Option ((List Ext)):=
 (mG table).bind fun r_=>
 some r_
theorem Jh {table r} (h:rY table=some r):Call tab ow 66 [sl ag table] []=some (sl ag r,[]):=by
 rw [ab (af:=vf) rfl]
 unfold rY at h
 simp+decide only [vf,K2,go_sem,reduceIte,Nat.reduceAdd]
 have d1:= @Hq
 all_goals exact go
def q9 (x:Int):Option (Int):=
 br (decide (x≥4294967296)) (
 br (decide ((aM .u64 x 32)≥65536)) (
 br (decide ((aM .u64 (aM .u64 x 32) 16)≥256)) (
 (atL (([0,1,2,2,3,3,3,3,4,4,4,4,4,4,4,4,5,5,5,5,5,5,5,5,5,5,5,5,5,5,5,5,6,6,6,6,6,6,6,6,6,6,6,6,6,6,6,6,6,6,6,6,6,6,6,6,6,6,6,6,6,6,6,6,7,7,7,7,7,7,7,7,7,7,7,7,7,7,7,7,7,7,7,7,7,7,7,7,7,7,7,7,7,7,7,7,7,7,7,7,7,7,7,7,7,7,7,7,7,7,7,7,7,7,7,7,7,7,7,7,7,7,7,7,7,7,7,7,8,8,8,8,8,8,8,8,8,8,8,8,8,8,8,8,8,8,8,8,8,8,8,8,8,8,8,8,8,8,8,8,8,8,8,8,8,8,8,8,8,8,8,8,8,8,8,8,8,8,8,8,8,8,8,8,8,8,8,8,8,8,8,8,8,8,8,8,8,8,8,8,8,8,8,8,8,8,8,8,8,8,8,8,8,8,8,8,8,8,8,8,8,8,8,8,8,8,8,8,8,8,8,8,8,8,8,8,8,8,8,8,8,8,8,8,8,8,8,8,8,8,8,8,8,8,8,8]:List UInt8)) (wrap .u8 (aM .u64 (aM .u64 (aM .u64 x 32) 16) 8))).bind fun c=>
 some (wrap .i64 (56+(wrap .i64 (c.toNat:Int))))) (
 (atL (([0,1,2,2,3,3,3,3,4,4,4,4,4,4,4,4,5,5,5,5,5,5,5,5,5,5,5,5,5,5,5,5,6,6,6,6,6,6,6,6,6,6,6,6,6,6,6,6,6,6,6,6,6,6,6,6,6,6,6,6,6,6,6,6,7,7,7,7,7,7,7,7,7,7,7,7,7,7,7,7,7,7,7,7,7,7,7,7,7,7,7,7,7,7,7,7,7,7,7,7,7,7,7,7,7,7,7,7,7,7,7,7,7,7,7,7,7,7,7,7,7,7,7,7,7,7,7,7,8,8,8,8,8,8,8,8,8,8,8,8,8,8,8,8,8,8,8,8,8,8,8,8,8,8,8,8,8,8,8,8,8,8,8,8,8,8,8,8,8,8,8,8,8,8,8,8,8,8,8,8,8,8,8,8,8,8,8,8,8,8,8,8,8,8,8,8,8,8,8,8,8,8,8,8,8,8,8,8,8,8,8,8,8,8,8,8,8,8,8,8,8,8,8,8,8,8,8,8,8,8,8,8,8,8,8,8,8,8,8,8,8,8,8,8,8,8,8,8,8,8,8,8,8,8,8,8]:List UInt8)) (wrap .u8 (aM .u64 (aM .u64 x 32) 16))).bind fun c2=>
 some (wrap .i64 (48+(wrap .i64 (c2.toNat:Int)))))) (
 br (decide ((aM .u64 x 32)≥256)) (
 (atL (([0,1,2,2,3,3,3,3,4,4,4,4,4,4,4,4,5,5,5,5,5,5,5,5,5,5,5,5,5,5,5,5,6,6,6,6,6,6,6,6,6,6,6,6,6,6,6,6,6,6,6,6,6,6,6,6,6,6,6,6,6,6,6,6,7,7,7,7,7,7,7,7,7,7,7,7,7,7,7,7,7,7,7,7,7,7,7,7,7,7,7,7,7,7,7,7,7,7,7,7,7,7,7,7,7,7,7,7,7,7,7,7,7,7,7,7,7,7,7,7,7,7,7,7,7,7,7,7,8,8,8,8,8,8,8,8,8,8,8,8,8,8,8,8,8,8,8,8,8,8,8,8,8,8,8,8,8,8,8,8,8,8,8,8,8,8,8,8,8,8,8,8,8,8,8,8,8,8,8,8,8,8,8,8,8,8,8,8,8,8,8,8,8,8,8,8,8,8,8,8,8,8,8,8,8,8,8,8,8,8,8,8,8,8,8,8,8,8,8,8,8,8,8,8,8,8,8,8,8,8,8,8,8,8,8,8,8,8,8,8,8,8,8,8,8,8,8,8,8,8,8,8,8,8,8,8]:List UInt8)) (wrap .u8 (aM .u64 (aM .u64 x 32) 8))).bind fun c3=>
 some (wrap .i64 (40+(wrap .i64 (c3.toNat:Int))))) (
 (atL (([0,1,2,2,3,3,3,3,4,4,4,4,4,4,4,4,5,5,5,5,5,5,5,5,5,5,5,5,5,5,5,5,6,6,6,6,6,6,6,6,6,6,6,6,6,6,6,6,6,6,6,6,6,6,6,6,6,6,6,6,6,6,6,6,7,7,7,7,7,7,7,7,7,7,7,7,7,7,7,7,7,7,7,7,7,7,7,7,7,7,7,7,7,7,7,7,7,7,7,7,7,7,7,7,7,7,7,7,7,7,7,7,7,7,7,7,7,7,7,7,7,7,7,7,7,7,7,7,8,8,8,8,8,8,8,8,8,8,8,8,8,8,8,8,8,8,8,8,8,8,8,8,8,8,8,8,8,8,8,8,8,8,8,8,8,8,8,8,8,8,8,8,8,8,8,8,8,8,8,8,8,8,8,8,8,8,8,8,8,8,8,8,8,8,8,8,8,8,8,8,8,8,8,8,8,8,8,8,8,8,8,8,8,8,8,8,8,8,8,8,8,8,8,8,8,8,8,8,8,8,8,8,8,8,8,8,8,8,8,8,8,8,8,8,8,8,8,8,8,8,8,8,8,8,8,8]:List UInt8)) (wrap .u8 (aM .u64 x 32))).bind fun c4=>
 some (wrap .i64 (32+(wrap .i64 (c4.toNat:Int))))))) (
 br (decide (x≥65536)) (
 br (decide ((aM .u64 x 16)≥256)) (
 (atL (([0,1,2,2,3,3,3,3,4,4,4,4,4,4,4,4,5,5,5,5,5,5,5,5,5,5,5,5,5,5,5,5,6,6,6,6,6,6,6,6,6,6,6,6,6,6,6,6,6,6,6,6,6,6,6,6,6,6,6,6,6,6,6,6,7,7,7,7,7,7,7,7,7,7,7,7,7,7,7,7,7,7,7,7,7,7,7,7,7,7,7,7,7,7,7,7,7,7,7,7,7,7,7,7,7,7,7,7,7,7,7,7,7,7,7,7,7,7,7,7,7,7,7,7,7,7,7,7,8,8,8,8,8,8,8,8,8,8,8,8,8,8,8,8,8,8,8,8,8,8,8,8,8,8,8,8,8,8,8,8,8,8,8,8,8,8,8,8,8,8,8,8,8,8,8,8,8,8,8,8,8,8,8,8,8,8,8,8,8,8,8,8,8,8,8,8,8,8,8,8,8,8,8,8,8,8,8,8,8,8,8,8,8,8,8,8,8,8,8,8,8,8,8,8,8,8,8,8,8,8,8,8,8,8,8,8,8,8,8,8,8,8,8,8,8,8,8,8,8,8,8,8,8,8,8,8]:List UInt8)) (wrap .u8 (aM .u64 (aM .u64 x 16) 8))).bind fun c5=>
 some (wrap .i64 (24+(wrap .i64 (c5.toNat:Int))))) (
 (atL (([0,1,2,2,3,3,3,3,4,4,4,4,4,4,4,4,5,5,5,5,5,5,5,5,5,5,5,5,5,5,5,5,6,6,6,6,6,6,6,6,6,6,6,6,6,6,6,6,6,6,6,6,6,6,6,6,6,6,6,6,6,6,6,6,7,7,7,7,7,7,7,7,7,7,7,7,7,7,7,7,7,7,7,7,7,7,7,7,7,7,7,7,7,7,7,7,7,7,7,7,7,7,7,7,7,7,7,7,7,7,7,7,7,7,7,7,7,7,7,7,7,7,7,7,7,7,7,7,8,8,8,8,8,8,8,8,8,8,8,8,8,8,8,8,8,8,8,8,8,8,8,8,8,8,8,8,8,8,8,8,8,8,8,8,8,8,8,8,8,8,8,8,8,8,8,8,8,8,8,8,8,8,8,8,8,8,8,8,8,8,8,8,8,8,8,8,8,8,8,8,8,8,8,8,8,8,8,8,8,8,8,8,8,8,8,8,8,8,8,8,8,8,8,8,8,8,8,8,8,8,8,8,8,8,8,8,8,8,8,8,8,8,8,8,8,8,8,8,8,8,8,8,8,8,8,8]:List UInt8)) (wrap .u8 (aM .u64 x 16))).bind fun c6=>
 some (wrap .i64 (16+(wrap .i64 (c6.toNat:Int)))))) (
 br (decide (x≥256)) (
 (atL (([0,1,2,2,3,3,3,3,4,4,4,4,4,4,4,4,5,5,5,5,5,5,5,5,5,5,5,5,5,5,5,5,6,6,6,6,6,6,6,6,6,6,6,6,6,6,6,6,6,6,6,6,6,6,6,6,6,6,6,6,6,6,6,6,7,7,7,7,7,7,7,7,7,7,7,7,7,7,7,7,7,7,7,7,7,7,7,7,7,7,7,7,7,7,7,7,7,7,7,7,7,7,7,7,7,7,7,7,7,7,7,7,7,7,7,7,7,7,7,7,7,7,7,7,7,7,7,7,8,8,8,8,8,8,8,8,8,8,8,8,8,8,8,8,8,8,8,8,8,8,8,8,8,8,8,8,8,8,8,8,8,8,8,8,8,8,8,8,8,8,8,8,8,8,8,8,8,8,8,8,8,8,8,8,8,8,8,8,8,8,8,8,8,8,8,8,8,8,8,8,8,8,8,8,8,8,8,8,8,8,8,8,8,8,8,8,8,8,8,8,8,8,8,8,8,8,8,8,8,8,8,8,8,8,8,8,8,8,8,8,8,8,8,8,8,8,8,8,8,8,8,8,8,8,8,8]:List UInt8)) (wrap .u8 (aM .u64 x 8))).bind fun c7=>
 some (wrap .i64 (8+(wrap .i64 (c7.toNat:Int))))) (
 (atL (([0,1,2,2,3,3,3,3,4,4,4,4,4,4,4,4,5,5,5,5,5,5,5,5,5,5,5,5,5,5,5,5,6,6,6,6,6,6,6,6,6,6,6,6,6,6,6,6,6,6,6,6,6,6,6,6,6,6,6,6,6,6,6,6,7,7,7,7,7,7,7,7,7,7,7,7,7,7,7,7,7,7,7,7,7,7,7,7,7,7,7,7,7,7,7,7,7,7,7,7,7,7,7,7,7,7,7,7,7,7,7,7,7,7,7,7,7,7,7,7,7,7,7,7,7,7,7,7,8,8,8,8,8,8,8,8,8,8,8,8,8,8,8,8,8,8,8,8,8,8,8,8,8,8,8,8,8,8,8,8,8,8,8,8,8,8,8,8,8,8,8,8,8,8,8,8,8,8,8,8,8,8,8,8,8,8,8,8,8,8,8,8,8,8,8,8,8,8,8,8,8,8,8,8,8,8,8,8,8,8,8,8,8,8,8,8,8,8,8,8,8,8,8,8,8,8,8,8,8,8,8,8,8,8,8,8,8,8,8,8,8,8,8,8,8,8,8,8,8,8,8,8,8,8,8,8]:List UInt8)) (wrap .u8 x)).bind fun c8=>
 some (wrap .i64 (0+(wrap .i64 (c8.toNat:Int)))))))
theorem Gu {x r} (h:q9 x=some r):Call tab ow 356 [.lit (.int .u64 x)] []=some (I r,[]):=by
 rw [ab (af:=jf) rfl]
 unfold q9 at h
 simp+decide only [jf,u3,go_sem,reduceIte,Nat.reduceAdd]
 all_goals exact go
def vK (x:Int):Option (Int):=
 (q9 x).bind fun r_=>
 some r_
theorem KD {x r} (h:vK x=some r):Call tab ow 333 [.lit (.int .u64 x)] []=some (I r,[]):=by
 rw [ab (af:=lE) rfl]
 unfold vK at h
 simp+decide only [lE,zR,go_sem,reduceIte,Nat.reduceAdd]
 have d1:= @Gu
 all_goals exact go
def BR (n:Int):Option (Int):=
 (vK (wrap .u64 n)).bind fun r_=>
 some (wrap .i64 (r_-1))
theorem HD {n r} (h:BR n=some r):Call tab ow 273 [I n] []=some (I r,[]):=by
 rw [ab (af:=BU) rfl]
 unfold BR at h
 simp+decide only [BU,RI,go_sem,reduceIte,Nat.reduceAdd]
 have d1:= @KD
 all_goals exact go
def nv (a b:Int):Option (Int):=
 some ((wrap .i64 (a*b)).tmod 2130706433)
theorem Cg {a b r} (h:nv a b=some r):Call tab ow 291 [I a,I b] []=some (I r,[]):=by
 rw [ab (af:=Lt) rfl]
 unfold nv at h
 simp+decide only [Lt,a0Q,go_sem,reduceIte,Nat.reduceAdd]
 all_goals exact go
def su:Int×Int×Int→Option ((Int×Int×Int)⊕((Int×Int×Int×Bool)))
 | (a2,n2,out)=>
   br (decide (n2>0)) (
   br ((bm .i64 n2 1)==1) (
   (nv out a2).bind fun r_=>
   (nv a2 a2).bind fun r_2=>
   some (.inl (r_2,(aM .i64 n2 1),r_))) (
   (nv a2 a2).bind fun r_3=>
   some (.inl (r_3,(aM .i64 n2 1),out)))) (
   some (.inr (a2,n2,out,decide (n2>0))))
abbrev Ro (s:Int×Int×Int):St:=⟨[(0,I s.1),(1,I s.2.1),(5,I s.2.2)],[]⟩
abbrev R7:(Int×Int×Int×Bool)→ai×St:=fun e=>(.exit 0,⟨[(0,I e.1),(1,I e.2.1),(5,I e.2.2.1),(7,B e.2.2.2)],[]⟩)
theorem a2r { s e} (h:Loop (su) s=some e):aD tab ow (.close [6002,7002]) HR (Ro s)=some (R7 e):=by
 refine lrG (fun s o h=> ?_) h
 obtain ⟨_,_,_⟩:=s
 simp only [su] at h
 simp+decide only [Ro,R7,HR,go_sem,reduceIte,Nat.reduceAdd]
 have d1:= @Cg
 all_goals exact go
def OF (a n:Int):Option (Int):=
 (Loop (su) (a,n,1)).bind fun e_=>
 some e_.2.2.1
theorem UM {a n r} (h:OF a n=some r):Call tab ow 332 [I a,I n] []=some (I r,[]):=by
 rw [ab (af:=Lq) rfl]
 unfold OF at h
 simp+decide only [Lq,a1j,go_sem,reduceIte,Nat.reduceAdd]
 have d1:= @a2r
 all_goals exact go
def HV (k:Int):Option (Int):=
 br (decide (0≤(wrap .i64 (24-k)))) (
 (OF 3 (bX .i64 127 (wrap .i64 (24-k)))).bind fun r_=>
 some r_) none
theorem Vi {k r} (h:HV k=some r):Call tab ow 272 [I k] []=some (I r,[]):=by
 rw [ab (af:=FL) rfl]
 unfold HV at h
 simp+decide only [FL,XT,go_sem,reduceIte,Nat.reduceAdd]
 have d1:= @UM
 all_goals exact go
def bZ (l:List Ext):Option (List Ext):=br (bc l.length 16) (some l) none
theorem rB (x:Ext) (l:List Ext) (hf:bc (x::l).length 16=true):Call (KX 162 aE) Oi 162 [sl ag (x::l)] []=some (.sl 0 0 (x::l).length,[⟨2,false,rws ag (x::l)⟩]):=by
 rw [ab (af:=aE) (Ia _ _)]
 rw [List.length_cons] at hf
 simp+decide only [aE,eU,fun k=>mk0 ag k,We,go_sem,reduceIte,Nat.reduceAdd,hf]
theorem je {l r:List Ext} (h:bZ l=some r):Call tab ow 162 [sl ag l] []=some (.sl 0 0 r.length,[⟨2,false,rws ag r⟩]):=by
 unfold bZ at h
 obtain ⟨hb,h⟩:=brg h
 cases h
 rw [a5z (g:=U6 162 aE 2) rfl]
 cases l with
 |nil=>rfl
 |cons x l=>exact rB x l hb
def g8 (a:Ext) (n:Int):Option (Ext):=
 (nv a.A n).bind fun r_=>
 (nv a.B n).bind fun r_2=>
 some (Ext.mk r_ r_2)
theorem tO {a n r} (h:g8 a n=some r):Call tab ow 331 [.agg [I a.A,I a.B],I n] []=some (.agg [I r.A,I r.B],[]):=by
 rw [ab (af:=mD) rfl]
 unfold g8 at h
 simp+decide only [mD,BK,go_sem,reduceIte,Nat.reduceAdd]
 have d1:= @Cg
 all_goals exact go
def IW (a b:Int):Option (Int):=
 some ((wrap .i64 (a+b)).tmod 2130706433)
theorem a1J {a b r} (h:IW a b=some r):Call tab ow 192 [I a,I b] []=some (I r,[]):=by
 rw [ab (af:=Ls) rfl]
 unfold IW at h
 simp+decide only [Ls,a0W,go_sem,reduceIte,Nat.reduceAdd]
 all_goals exact go
def du (a b:Ext):Option (Ext):=
 (IW a.A b.A).bind fun r_=>
 (IW a.B b.B).bind fun r_2=>
 some (Ext.mk r_ r_2)
theorem eT {a b r} (h:du a b=some r):Call tab ow 94 [.agg [I a.A,I a.B],.agg [I b.A,I b.B]] []=some (.agg [I r.A,I r.B],[]):=by
 rw [ab (af:=ry) rfl]
 unfold du at h
 simp+decide only [ry,Hb,go_sem,reduceIte,Nat.reduceAdd]
 have d1:= @a1J
 all_goals exact go
section
theorem VN:mkR 4000 []=rws ag []:=rfl
attribute [local go_sem] VN
theorem WP:mkR 4001 []=rws ag []:=rfl
attribute [local go_sem] WP
theorem Vj:mkR 8005 []=rws ag []:=rfl
attribute [local go_sem] Vj
theorem XF:mkR 8013 []=rws ag []:=rfl
attribute [local go_sem] XF
theorem V7: ∀k,KZ 11002 k [I (0:Int),I (0:Int)]=rws ag (List.replicate k (Ext.mk (0:Int) (0:Int))):=fun _=>a4X ag (Ext.mk (0:Int) (0:Int)) _ _
attribute [local go_sem] V7
def ii (ListtoArray2:List Ext) (t:Int):(List Ext)×(List Ext)×Int→Option (((List Ext)×(List Ext)×Int)⊕(((List Ext)×(List Ext)×Int×Bool)))
 | (l,l2,t2)=>
   br (decide (t2<((ListtoArray2.length:Nat):Int))) (
   (atL ListtoArray2 t2).bind fun x=>
   br (bc ((l++([x]:List Ext)).length) 16) (
   (atL ListtoArray2 (wrap .i64 (t2+1))).bind fun x2=>
   br (bc ((l2++([x2]:List Ext)).length) 16) (
   some (.inl ((l++([x]:List Ext)),(l2++([x2]:List Ext)),(wrap .i64 (t2+2))))) none) none) (
   some (.inr (l,l2,t2,decide (t2<((ListtoArray2.length:Nat):Int)))))
abbrev xO (l l2:List Ext):List (Nat×Blk):=[(4000,⟨2,false,rws ag l⟩),(4001,⟨2,false,rws ag l2⟩)]
abbrev GO (ListtoArray2:List Ext) (t:Int) (s:(List Ext)×(List Ext)×Int):St:=⟨[(0,sl ag ListtoArray2),(1,I t),(5,.sl 4000 0 s.1.length),(6,.sl 4001 0 s.2.1.length),(7,I s.2.2)],xO s.1 s.2.1⟩
abbrev G6 (ListtoArray2:List Ext) (t:Int):((List Ext)×(List Ext)×Int×Bool)→ai×St:=fun e=>(.exit 0,⟨[(0,sl ag ListtoArray2),(1,I t),(5,.sl 4000 0 e.1.length),(6,.sl 4001 0 e.2.1.length),(7,I e.2.2.1),(25,B e.2.2.2)],xO e.1 e.2.1⟩)
theorem TI {ListtoArray2 t s e} (h:Loop (ii ListtoArray2 t) s=some e):aD tab ow (.close [8005,8006,8013,8014]) xS (GO ListtoArray2 t s)=some (G6 ListtoArray2 t e):=by
 refine lrG (fun s o h=> ?_) h
 obtain ⟨_,_,_⟩:=s
 simp only [ii] at h
 simp+decide only [GO,G6,xO,xS,go_sem,reduceIte,Nat.reduceAdd]
 all_goals exact go
def iC (l3 l4:List Ext) (t3 t4 t6:Int):(List Ext)×Int×Int→Option (((List Ext)×Int×Int)⊕(((List Ext)×Int×Int×Bool)))
 | (l5,t5,t7)=>
   br (decide (t7<t6)) (
   br (decide (0≤t7)) (
   br (decide (t7.toNat<l4.length)) (
   (l4[t7.toNat]?).bind fun x3=>
   (g8 x3 t5).bind fun r_6=>
   br (decide (0≤t7)) (
   br (decide (t7.toNat<l3.length)) (
   (l3[t7.toNat]?).bind fun x4=>
   (du x4 r_6).bind fun r_7=>
   br (decide (0≤t7)) (
   br (decide (t7.toNat<l3.length)) (
   (l3[t7.toNat]?).bind fun x5=>
   (cY x5 r_6).bind fun r_8=>
   br (decide (0≤t7)) (
   br (decide (t7.toNat<l5.length)) (
   (l5[t7.toNat]?).bind fun x6=>
   br (decide (0≤(wrap .i64 (t7+t4)))) (
   br (decide ((wrap .i64 (t7+t4)).toNat<l5.length)) (
   ((l5.set t7.toNat r_7)[(wrap .i64 (t7+t4)).toNat]?).bind fun x7=>
   (nv t5 t3).bind fun r_9=>
   some (.inl (((l5.set t7.toNat r_7).set ((wrap .i64 (t7+t4)).toNat) r_8),r_9,(wrap .i64 (t7+1))))) none) none) none) none) none) none) none) none) none) none) (
   some (.inr (l5,t5,t7,decide (t7<t6))))
abbrev xW (l3 l4 l5:List Ext):List (Nat×Blk):=[(4000,dR),(4001,dR),(9004,⟨2,false,rws ag l3⟩),(9009,⟨2,false,rws ag l4⟩),(11002,⟨2,false,rws ag l5⟩)]
abbrev Gw (l3 l4:List Ext) (t3 t4 t6:Int) (s:(List Ext)×Int×Int):St:=⟨[(1,I t3),(8,.sl 9004 0 l3.length),(9,.sl 9009 0 l4.length),(10,I t4),(11,I s.2.1),(12,.sl 11002 0 s.1.length),(58,I t6),(59,I s.2.2)],xW l3 l4 s.1⟩
abbrev ES (l3 l4:List Ext) (t3 t4 t6:Int):((List Ext)×Int×Int×Bool)→ai×St:=fun e=>(.exit 2,⟨[(1,I t3),(8,.sl 9004 0 l3.length),(9,.sl 9009 0 l4.length),(10,I t4),(11,I e.2.1),(12,.sl 11002 0 e.1.length),(58,I t6),(59,I e.2.2.1),(60,B e.2.2.2)],xW l3 l4 e.1⟩)
theorem Se {l3 l4 t3 t4 t6 s e} (h:Loop (iC l3 l4 t3 t4 t6) s=some e):aD tab ow (.close [15005,15006,16011,16017,17002]) vI (Gw l3 l4 t3 t4 t6 s)=some (ES l3 l4 t3 t4 t6 e):=by
 refine lrG (fun s o h=> ?_) h
 obtain ⟨_,_,_⟩:=s
 simp only [iC] at h
 simp+decide only [Gw,ES,xW,vI,go_sem,reduceIte,Nat.reduceAdd]
 have d1:= @tO
 have d2:= @eT
 have d3:= @eZ
 have d4:= @Cg
 all_goals exact go
def jC:Nat→(List Ext)→Int→Option ((List Ext))
 |0,_,_=>none
 |n_+1,ListtoArray,a=>
  br (((ListtoArray.length:Nat):Int)==1) (
  (bZ ListtoArray).bind fun r_=>
  some r_) (
  (Loop (ii ListtoArray a) (([]:List Ext),([]:List Ext),0)).bind fun e_=>
  (nv a a).bind fun r_2=>
  (jC n_ e_.1 r_2).bind fun r_3=>
  (nv a a).bind fun r_4=>
  (jC n_ e_.2.1 r_4).bind fun r_5=>
  br (KS (wrap .i64 (2*((r_3.length:Nat):Int))) (wrap .i64 (2*((r_3.length:Nat):Int))) 16) (
  (Loop (iC r_3 r_5 a ((r_3.length:Nat):Int) ((r_3.length:Nat):Int)) ((List.replicate ((wrap .i64 ((2:Int)*((r_3.length:Nat):Int))).toNat) (Ext.mk (0:Int) (0:Int))),(1:Int),(0:Int))).bind fun e_2=>
  some e_2.1) none)
theorem Um (n_:Nat): ∀{ListtoArray:(List Ext)} {a:Int} {r:(List Ext)},jC n_ ListtoArray a=some r→Call tab ow 271 [sl ag ListtoArray,I a] []=some (.sl 0 0 r.length,[⟨2,false,rws ag r⟩]):=by
 induction n_ with
 |zero=>intro _ _ r h;cases h
 |succ n_ ih=>
  intro ListtoArray a r h
  rw [ab (af:=yF) rfl]
  simp only [jC] at h
  simp+decide only [yF,MD,go_sem,reduceIte,Nat.reduceAdd]
  have d1:= @je
  have d2:= @TI
  have d3:= @Cg
  have d4:= @ih
  have d5:= @Se
  all_goals exact go
def OQ (ListtoArray:(List Ext)) (a:Int):Option ((List Ext)):=lim (fun n_=>jC n_ ListtoArray a)
theorem Yj {ListtoArray:(List Ext)} {a:Int} {r:(List Ext)} (h:OQ ListtoArray a=some r):Call tab ow 271 [sl ag ListtoArray,I a] []=some (.sl 0 0 r.length,[⟨2,false,rws ag r⟩]):=by
 obtain ⟨n_,hn⟩:=O3 h
 exact Um n_ hn
end
def a0F (coefs:(List Ext)):Option ((List Ext)):=
 (BR ((coefs.length:Nat):Int)).bind fun r_=>
 (HV r_).bind fun r_2=>
 (OQ coefs r_2).bind fun r_3=>
 some r_3
theorem b1e {coefs r} (h:a0F coefs=some r):Call tab ow 153 [sl ag coefs] []=some (sl ag r,[]):=by
 rw [ab (af:=Ll) rfl]
 unfold a0F at h
 simp+decide only [Ll,a0T,go_sem,reduceIte,Nat.reduceAdd]
 have d1:= @HD
 have d2:= @Vi
 have d3:= @Yj
 all_goals exact go
section
theorem TE: ∀k,KZ 2004 k [I (0:Int),I (0:Int)]=rws ag (List.replicate k (Ext.mk (0:Int) (0:Int))):=fun _=>a4X ag (Ext.mk (0:Int) (0:Int)) _ _
attribute [local go_sem] TE
def sd (coefs:(List Ext)) (rate:Int):Option ((List Ext)):=
 br (decide (0≤rate)) (
 br (KS (bX .i64 ((coefs.length:Nat):Int) rate) (bX .i64 ((coefs.length:Nat):Int) rate) 16) (
 (a0F (OG (List.replicate ((bX .i64 ((coefs.length:Nat):Int) rate).toNat) (Ext.mk (0:Int) (0:Int))) 0 (min coefs.length ((List.replicate ((bX .i64 ((coefs.length:Nat):Int) rate).toNat) (Ext.mk (0:Int) (0:Int))).length)) coefs)).bind fun r_=>
 some r_) none) none
theorem JH {coefs rate r} (h:sd coefs rate=some r):Call tab ow 65 [sl ag coefs,I rate] []=some (sl ag r,[]):=by
 rw [ab (af:=v9) rfl]
 unfold sd at h
 simp+decide only [v9,K4,go_sem,reduceIte,Nat.reduceAdd]
 have d1:= @b1e
 all_goals exact go
end
section
theorem Wa:mkR 2012 []=rws eU8 []:=rfl
attribute [local go_sem] Wa
def xx (n:Int) (l:List UInt8):Option ((List UInt8)):=
 br (bc ((l++([(UInt8.ofInt (aM .i64 n 24)),(UInt8.ofInt (aM .i64 n 16)),(UInt8.ofInt (aM .i64 n 8)),(UInt8.ofInt n)]:List UInt8)).length) 1) (
 some (l++([(UInt8.ofInt (aM .i64 n 24)),(UInt8.ofInt (aM .i64 n 16)),(UInt8.ofInt (aM .i64 n 8)),(UInt8.ofInt n)]:List UInt8))) none
theorem ZJ {n l r} (h:xx n l=some r):Call tab ow 169 [.sl 0 0 l.length,I n] [⟨1,false,rws eU8 l⟩]=some (.sl 0 0 r.length,[⟨1,false,rws eU8 r⟩]):=by
 rw [ab (af:=wF) rfl]
 unfold xx at h
 simp+decide only [wF,OU,go_sem,reduceIte,Nat.reduceAdd]
 all_goals exact go
end
section
theorem Pd:mkR 2000 []=rws eU8 []:=rfl
attribute [local go_sem] Pd
def gJ (t:List Ext) (t2:Int):(List UInt8)×Int→Option (((List UInt8)×Int)⊕(((List UInt8)×Int×Bool)))
 | (l,t3)=>
   br (decide (t3<t2)) (
   (atL t t3).bind fun x=>
   (xx x.A l).bind fun r_=>
   (xx x.B r_).bind fun r_2=>
   some (.inl (r_2,(wrap .i64 (t3+1))))) (
   some (.inr (l,t3,decide (t3<t2))))
abbrev Az (t:List Ext) (t2:Int) (s:(List UInt8)×Int):St:=⟨[(3,.sl 2000 0 s.1.length),(7,sl ag t),(8,I t2),(9,I s.2)],[(2000,⟨1,false,rws eU8 s.1⟩)]⟩
abbrev B2 (t:List Ext) (t2:Int):((List UInt8)×Int×Bool)→ai×St:=fun e=>(.exit 0,⟨[(3,.sl 2000 0 e.1.length),(7,sl ag t),(8,I t2),(9,I e.2.1),(10,B e.2.2)],[(2000,⟨1,false,rws eU8 e.1⟩)]⟩)
theorem NS {t t2 s e} (h:Loop (gJ t t2) s=some e):aD tab ow (.close [5002,6003,6006]) tf (Az t t2 s)=some (B2 t t2 e):=by
 refine lrG (fun s o h=> ?_) h
 obtain ⟨_,_⟩:=s
 simp only [gJ] at h
 simp+decide only [Az,B2,tf,go_sem,reduceIte,Nat.reduceAdd]
 have d1:= @ZJ
 all_goals exact go
def lG (list:(List Ext)):Option ((List UInt8)):=
 (Loop (gJ list ((list.length:Nat):Int)) (([]:List UInt8),0)).bind fun e_=>
 some e_.1
theorem yY {list r} (h:lG list=some r):Call tab ow 270 [sl ag list] []=some (sl eU8 r,[]):=by
 rw [ab (af:=rz) rfl]
 unfold lG at h
 simp+decide only [rz,FB,go_sem,reduceIte,Nat.reduceAdd]
 have d1:= @NS
 all_goals exact go
end
section
theorem Pc:mkR 2000 []=rws eS []:=rfl
attribute [local go_sem] Pc
theorem Pb:mkR 6011 []=rws ag []:=rfl
attribute [local go_sem] Pb
theorem P7:mkR 6014 []=rws eS []:=rfl
attribute [local go_sem] P7
def fm (word2:List Ext) (half t:Int):(List (List UInt8))×Int→Option (((List (List UInt8))×Int)⊕(((List (List UInt8))×Int×Bool)))
 | (l,t2)=>
   br (decide (t2<t)) (
   (atL word2 t2).bind fun x=>
   (atL word2 (wrap .i64 (t2+half))).bind fun x2=>
   (lG ([x,x2]:List Ext)).bind fun r_=>
   br (bc ((l++([r_]:List (List UInt8))).length) 16) (
   some (.inl ((l++([r_]:List (List UInt8))),(wrap .i64 (t2+1))))) none) (
   some (.inr (l,t2,decide (t2<t))))
abbrev B5 (word2:List Ext) (half t:Int) (s:(List (List UInt8))×Int):St:=⟨[(0,sl ag word2),(3,.sl 2000 0 s.1.length),(4,I half),(10,I t),(11,I s.2)],[(2000,⟨1,false,rws eS s.1⟩)]⟩
abbrev Ap (word2:List Ext) (half t:Int):((List (List UInt8))×Int×Bool)→ai×St:=fun e=>(.exit 0,⟨[(0,sl ag word2),(3,.sl 2000 0 e.1.length),(4,I half),(10,I t),(11,I e.2.1),(12,B e.2.2)],[(2000,⟨1,false,rws eS e.1⟩)]⟩)
theorem LZ {word2 half t s e} (h:Loop (fm word2 half t) s=some e):aD tab ow (.close [6011,6012,6014,6015]) sQ (B5 word2 half t s)=some (Ap word2 half t e):=by
 refine lrG (fun s o h=> ?_) h
 obtain ⟨_,_⟩:=s
 simp only [fm] at h
 simp+decide only [B5,Ap,sQ,go_sem,reduceIte,Nat.reduceAdd]
 have d1:= @yY
 all_goals exact go
def te (word:(List Ext)):Option ((List (List UInt8))):=
 (Loop (fm word (wrap .i64 (((word.length:Nat):Int).tdiv 2)) (wrap .i64 (((word.length:Nat):Int).tdiv 2))) (([]:List (List UInt8)),0)).bind fun e_=>
 some e_.1
theorem SZ {word r} (h:te word=some r):Call tab ow 152 [sl ag word] []=some (sl eS r,[]):=by
 rw [ab (af:=rk) rfl]
 unfold te at h
 simp+decide only [rk,FU,go_sem,reduceIte,Nat.reduceAdd]
 have d1:= @LZ
 all_goals exact go
end
def o6 (leaf:(List UInt8)):Option ((List UInt8)):=
 br (bc ((([0]:List UInt8)).length+leaf.length) 1) (
 some ((([0]:List UInt8))++leaf)) none
theorem Fp {leaf r} (h:o6 leaf=some r):Call tab ow 268 [S leaf] []=some (S r,[]):=by
 rw [ab (af:=rb) rfl]
 unfold o6 at h
 simp+decide only [rb,H3,go_sem,reduceIte,Nat.reduceAdd]
 all_goals exact go
def iQ (m:List Int) (t:List UInt8) (t2:Int):(List Int)×Int→Option (((List Int)×Int)⊕(((List Int)×Int×Bool)))
 | (m2,t3)=>
   br (decide (t3<t2)) (
   (atL t t3).bind fun x=>
   br (decide (0≤(wrap .i64 (t3.tdiv 8)))&&decide ((wrap .i64 (t3.tdiv 8)).toNat<25)) (
   (m2[(wrap .i64 (t3.tdiv 8)).toNat]?).bind fun x2=>
   br (decide (0≤(wrap .i64 (8*(t3.tmod 8))))) (
   br (decide (0≤(wrap .i64 (t3.tdiv 8)))&&decide ((wrap .i64 (t3.tdiv 8)).toNat<25)) (
   br (decide ((wrap .i64 (t3.tdiv 8)).toNat<m2.length)) (
   some (.inl ((m2.set ((wrap .i64 (t3.tdiv 8)).toNat) (vX .u64 x2 (bX .u64 (wrap .u64 (x.toNat:Int)) (wrap .i64 (8*(t3.tmod 8)))))),(wrap .i64 (t3+1))))) none) none) none) none) (
   some (.inr (m2,t3,decide (t3<t2))))
abbrev vL (m m2:List Int):List (Nat×Blk):=[(1000,⟨25,true,[ar .u64 m]⟩),(2001,⟨25,true,[ar .u64 m2]⟩)]
abbrev Df (m:List Int) (t:List UInt8) (t2:Int) (s:(List Int)×Int):St:=⟨[(2,.ptr 1000 0 0 1),(3,.ptr 2001 0 0 1),(7,sl eU8 t),(8,I t2),(9,I s.2)],vL m s.1⟩
abbrev Do (m:List Int) (t:List UInt8) (t2:Int):((List Int)×Int×Bool)→ai×St:=fun e=>(.exit 0,⟨[(2,.ptr 1000 0 0 1),(3,.ptr 2001 0 0 1),(7,sl eU8 t),(8,I t2),(9,I e.2.1),(10,B e.2.2)],vL m e.1⟩)
theorem P8 {m t t2 s e} (h:Loop (iQ m t t2) s=some e):aD tab ow (.close []) vQ (Df m t t2 s)=some (Do m t t2 e):=by
 refine lrG (fun s o h=> ?_) h
 obtain ⟨_,_⟩:=s
 simp only [iQ] at h
 simp+decide only [Df,Do,vL,vQ,go_sem,reduceIte,Nat.reduceAdd]
 all_goals exact go
def xm (state:(List UInt8)):Option ((List Int)):=
 (Loop (iQ (nZ 25) state ((state.length:Nat):Int)) ((nZ 25),0)).bind fun e_=>
 br (decide (e_.1.length=25)) (
 br (decide (e_.1.length=25)) (
 br (decide (e_.1.length=25)) (
 some e_.1) none) none) none
theorem WF {state r} (h:xm state=some r):Call tab ow 193 [sl eU8 state] []=some (.agg (ar .u64 r),[]):=by
 rw [ab (af:=ui) rfl]
 unfold xm at h
 simp+decide only [ui,K6,go_sem,reduceIte,Nat.reduceAdd]
 have d1:= @P8
 all_goals exact go
def cG (x k:Int):Option (Int):=
 br (decide (0≤(bm .u64 (wrap .u64 k) 63))) (
 br (decide (0≤(wrap .u64 (64-(bm .u64 (wrap .u64 k) 63))))) (
 some (vX .u64 (bX .u64 x (bm .u64 (wrap .u64 k) 63)) (aM .u64 x (wrap .u64 (64-(bm .u64 (wrap .u64 k) 63)))))) none) none
theorem vr {x k r} (h:cG x k=some r):Call tab ow 297 [.lit (.int .u64 x),I k] []=some (.lit (.int .u64 r),[]):=by
 rw [ab (af:=dS) rfl]
 unfold cG at h
 simp+decide only [dS,kN,go_sem,reduceIte,Nat.reduceAdd]
 all_goals exact go
end
end Go.AI.Fn
set_option linter.unusedVariables false
set_option linter.unusedSimpArgs false
set_option maxRecDepth 100000
set_option maxHeartbeats 1000000
namespace Go.AI.Fn
noncomputable section
open IntKind (wrap)
def dD (m5 m6 m7 m9:List Int) (t3:Int) (t4:List Int) (t5:Int):(List Int)×Int→Option (((List Int)×Int)⊕(((List Int)×Int×Bool)))
 | (m8,t6)=>
   br (decide (t6<25)) (
   br (decide (0≤t6)&&decide (t6.toNat<25)) (
   (m5[t6.toNat]?).bind fun x2=>
   br (decide (0≤(t6.tmod 5))&&decide ((t6.tmod 5).toNat<5)) (
   (m8[(t6.tmod 5).toNat]?).bind fun x3=>
   br (decide (0≤(t6.tmod 5))&&decide ((t6.tmod 5).toNat<5)) (
   br (decide ((t6.tmod 5).toNat<m8.length)) (
   some (.inl ((m8.set ((t6.tmod 5).toNat) (ga .u64 x3 x2)),(wrap .i64 (t6+1))))) none) none) none) none) (
   some (.inr (m8,t6,decide (t6<25))))
abbrev kC (m5 m6 m7 m9 m8:List Int):List (Nat×Blk):=[(0,⟨25,true,[ar .u64 m5]⟩),(1001,⟨25,true,[ar .i64 m6]⟩),(2001,⟨24,true,[ar .u64 m7]⟩),(6002,⟨5,true,[ar .u64 m8]⟩),(6003,⟨25,true,[ar .u64 m9]⟩)]
abbrev qz (m5 m6 m7 m9:List Int) (t3:Int) (t4:List Int) (t5:Int) (s:(List Int)×Int):St:=⟨[(0,.ptr 0 0 0 1),(2,.ptr 1001 0 0 1),(5,.lit (.int .u64 t3)),(6,.ptr 6002 0 0 1),(7,.ptr 6003 0 0 1),(20,.agg (ar .u64 t4)),(21,I t5),(26,.ptr 0 0 0 1),(27,I s.2)],kC m5 m6 m7 m9 s.1⟩
abbrev qK (m5 m6 m7 m9:List Int) (t3:Int) (t4:List Int) (t5:Int):((List Int)×Int×Bool)→ai×St:=fun e=>(.exit 2,⟨[(0,.ptr 0 0 0 1),(2,.ptr 1001 0 0 1),(5,.lit (.int .u64 t3)),(6,.ptr 6002 0 0 1),(7,.ptr 6003 0 0 1),(20,.agg (ar .u64 t4)),(21,I t5),(26,.ptr 0 0 0 1),(27,I e.2.1),(28,B e.2.2)],kC m5 m6 m7 m9 e.1⟩)
theorem Cx {m5 m6 m7 m9 t3 t4 t5 s e} (h:Loop (dD m5 m6 m7 m9 t3 t4 t5) s=some e):aD tab ow (.close []) kH (qz m5 m6 m7 m9 t3 t4 t5 s)=some (qK m5 m6 m7 m9 t3 t4 t5 e):=by
 refine lrG (fun s o h=> ?_) h
 obtain ⟨_,_⟩:=s
 simp only [dD] at h
 simp+decide only [qz,qK,kC,kH,go_sem,reduceIte,Nat.reduceAdd]
 all_goals exact go
def dy (m10 m11 m12 m13:List Int) (t7:Int) (t8:List Int) (t9:Int):(List Int)×Int→Option (((List Int)×Int)⊕(((List Int)×Int×Bool)))
 | (m14,t10)=>
   br (decide (t10<25)) (
   br (decide (0≤t10)&&decide (t10.toNat<25)) (
   (m10[t10.toNat]?).bind fun x4=>
   br (decide (0≤((wrap .i64 ((t10.tmod 5)+4)).tmod 5))&&decide (((wrap .i64 ((t10.tmod 5)+4)).tmod 5).toNat<5)) (
   (m13[((wrap .i64 ((t10.tmod 5)+4)).tmod 5).toNat]?).bind fun x5=>
   br (decide (0≤((wrap .i64 ((t10.tmod 5)+1)).tmod 5))&&decide (((wrap .i64 ((t10.tmod 5)+1)).tmod 5).toNat<5)) (
   (m13[((wrap .i64 ((t10.tmod 5)+1)).tmod 5).toNat]?).bind fun x6=>
   (cG x6 1).bind fun r_=>
   br (decide (0≤t10)&&decide (t10.toNat<25)) (
   (m11[t10.toNat]?).bind fun x7=>
   (cG (ga .u64 x4 (ga .u64 x5 r_)) x7).bind fun r_2=>
   br (decide (0≤(wrap .i64 ((wrap .i64 (t10.tdiv 5))+(wrap .i64 (5*((wrap .i64 ((wrap .i64 (2*(t10.tmod 5)))+(wrap .i64 (3*(wrap .i64 (t10.tdiv 5)))))).tmod 5))))))&&decide ((wrap .i64 ((wrap .i64 (t10.tdiv 5))+(wrap .i64 (5*((wrap .i64 ((wrap .i64 (2*(t10.tmod 5)))+(wrap .i64 (3*(wrap .i64 (t10.tdiv 5)))))).tmod 5))))).toNat<25)) (
   br (decide ((wrap .i64 ((wrap .i64 (t10.tdiv 5))+(wrap .i64 (5*((wrap .i64 ((wrap .i64 (2*(t10.tmod 5)))+(wrap .i64 (3*(wrap .i64 (t10.tdiv 5)))))).tmod 5))))).toNat<m14.length)) (
   some (.inl ((m14.set ((wrap .i64 ((wrap .i64 (t10.tdiv 5))+(wrap .i64 (5*((wrap .i64 ((wrap .i64 (2*(t10.tmod 5)))+(wrap .i64 (3*(wrap .i64 (t10.tdiv 5)))))).tmod 5))))).toNat) r_2),(wrap .i64 (t10+1))))) none) none) none) none) none) none) (
   some (.inr (m14,t10,decide (t10<25))))
abbrev kG (m10 m11 m12 m13 m14:List Int):List (Nat×Blk):=[(0,⟨25,true,[ar .u64 m10]⟩),(1001,⟨25,true,[ar .i64 m11]⟩),(2001,⟨24,true,[ar .u64 m12]⟩),(6002,⟨5,true,[ar .u64 m13]⟩),(6003,⟨25,true,[ar .u64 m14]⟩)]
abbrev qw (m10 m11 m12 m13:List Int) (t7:Int) (t8:List Int) (t9:Int) (s:(List Int)×Int):St:=⟨[(0,.ptr 0 0 0 1),(2,.ptr 1001 0 0 1),(5,.lit (.int .u64 t7)),(6,.ptr 6002 0 0 1),(7,.ptr 6003 0 0 1),(20,.agg (ar .u64 t8)),(21,I t9),(41,.ptr 0 0 0 1),(42,I s.2)],kG m10 m11 m12 m13 s.1⟩
abbrev qC (m10 m11 m12 m13:List Int) (t7:Int) (t8:List Int) (t9:Int):((List Int)×Int×Bool)→ai×St:=fun e=>(.exit 4,⟨[(0,.ptr 0 0 0 1),(2,.ptr 1001 0 0 1),(5,.lit (.int .u64 t7)),(6,.ptr 6002 0 0 1),(7,.ptr 6003 0 0 1),(20,.agg (ar .u64 t8)),(21,I t9),(41,.ptr 0 0 0 1),(42,I e.2.1),(43,B e.2.2)],kG m10 m11 m12 m13 e.1⟩)
theorem Cs {m10 m11 m12 m13 t7 t8 t9 s e} (h:Loop (dy m10 m11 m12 m13 t7 t8 t9) s=some e):aD tab ow (.close [16011,17013]) jq (qw m10 m11 m12 m13 t7 t8 t9 s)=some (qC m10 m11 m12 m13 t7 t8 t9 e):=by
 refine lrG (fun s o h=> ?_) h
 obtain ⟨_,_⟩:=s
 simp only [dy] at h
 simp+decide only [qw,qC,kG,jq,go_sem,reduceIte,Nat.reduceAdd]
 have d1:= @vr
 all_goals exact go
def dw (m16 m17 m18 m19:List Int) (t11:Int) (t12:List Int) (t13:Int) (t14:List Int):(List Int)×Int→Option (((List Int)×Int)⊕(((List Int)×Int×Bool)))
 | (m15,t15)=>
   br (decide (t15<25)) (
   br (decide (0≤t15)&&decide (t15.toNat<25)) (
   (t14[t15.toNat]?).bind fun x8=>
   br (decide (0≤(wrap .i64 ((wrap .i64 (t15-(t15.tmod 5)))+((wrap .i64 ((t15.tmod 5)+2)).tmod 5))))&&decide ((wrap .i64 ((wrap .i64 (t15-(t15.tmod 5)))+((wrap .i64 ((t15.tmod 5)+2)).tmod 5))).toNat<25)) (
   (m19[(wrap .i64 ((wrap .i64 (t15-(t15.tmod 5)))+((wrap .i64 ((t15.tmod 5)+2)).tmod 5))).toNat]?).bind fun x9=>
   br (decide (0≤(wrap .i64 ((wrap .i64 (t15-(t15.tmod 5)))+((wrap .i64 ((t15.tmod 5)+1)).tmod 5))))&&decide ((wrap .i64 ((wrap .i64 (t15-(t15.tmod 5)))+((wrap .i64 ((t15.tmod 5)+1)).tmod 5))).toNat<25)) (
   (m19[(wrap .i64 ((wrap .i64 (t15-(t15.tmod 5)))+((wrap .i64 ((t15.tmod 5)+1)).tmod 5))).toNat]?).bind fun x10=>
   br (decide (0≤t15)&&decide (t15.toNat<25)) (
   br (decide (t15.toNat<m15.length)) (
   some (.inl ((m15.set t15.toNat (ga .u64 x8 (NL .u64 x9 x10))),(wrap .i64 (t15+1))))) none) none) none) none) none) (
   some (.inr (m15,t15,decide (t15<25))))
abbrev ky (m16 m17 m18 m19 m15:List Int):List (Nat×Blk):=[(0,⟨25,true,[ar .u64 m15]⟩),(1001,⟨25,true,[ar .i64 m16]⟩),(2001,⟨24,true,[ar .u64 m17]⟩),(6002,⟨5,true,[ar .u64 m18]⟩),(6003,⟨25,true,[ar .u64 m19]⟩)]
abbrev qF (m16 m17 m18 m19:List Int) (t11:Int) (t12:List Int) (t13:Int) (t14:List Int) (s:(List Int)×Int):St:=⟨[(0,.ptr 0 0 0 1),(2,.ptr 1001 0 0 1),(5,.lit (.int .u64 t11)),(7,.ptr 6003 0 0 1),(20,.agg (ar .u64 t12)),(21,I t13),(82,.agg (ar .u64 t14)),(83,I s.2)],ky m16 m17 m18 m19 s.1⟩
abbrev qH (m16 m17 m18 m19:List Int) (t11:Int) (t12:List Int) (t13:Int) (t14:List Int):((List Int)×Int×Bool)→ai×St:=fun e=>(.exit 6,⟨[(0,.ptr 0 0 0 1),(2,.ptr 1001 0 0 1),(5,.lit (.int .u64 t11)),(7,.ptr 6003 0 0 1),(20,.agg (ar .u64 t12)),(21,I t13),(82,.agg (ar .u64 t14)),(83,I e.2.1),(84,B e.2.2)],ky m16 m17 m18 m19 e.1⟩)
theorem Cu {m16 m17 m18 m19 t11 t12 t13 t14 s e} (h:Loop (dw m16 m17 m18 m19 t11 t12 t13 t14) s=some e):aD tab ow (.close []) jI (qF m16 m17 m18 m19 t11 t12 t13 t14 s)=some (qH m16 m17 m18 m19 t11 t12 t13 t14 e):=by
 refine lrG (fun s o h=> ?_) h
 obtain ⟨_,_⟩:=s
 simp only [dw] at h
 simp+decide only [qF,qH,ky,jI,go_sem,reduceIte,Nat.reduceAdd]
 all_goals exact go
def dx (m3 m4 t:List Int):(List Int)×Int→Option (((List Int)×Int)⊕(((List Int)×Int×Bool)))
 | (m2,t2)=>
   br (decide (t2<24)) (
   br (decide (0≤t2)&&decide (t2.toNat<24)) (
   (t[t2.toNat]?).bind fun x=>
   (Loop (dD m2 m3 m4 (nZ 25) x t t2) ((nZ 5),0)).bind fun e_=>
   (Loop (dy m2 m3 m4 e_.1 x t t2) ((nZ 25),0)).bind fun e_2=>
   br (decide (e_2.1.length=25)) (
   (Loop (dw m3 m4 e_.1 e_2.1 x t t2 e_2.1) (m2,0)).bind fun e_3=>
   (e_3.1[0]?).bind fun x11=>
   br (decide (0<e_3.1.length)) (
   some (.inl ((e_3.1.set 0 (ga .u64 x11 x)),(wrap .i64 (t2+1))))) none) none) none) (
   some (.inr (m2,t2,decide (t2<24))))
abbrev kK (m3 m4 m2:List Int):List (Nat×Blk):=[(0,⟨25,true,[ar .u64 m2]⟩),(1001,⟨25,true,[ar .i64 m3]⟩),(2001,⟨24,true,[ar .u64 m4]⟩)]
abbrev qr (m3 m4 t:List Int) (s:(List Int)×Int):St:=⟨[(0,.ptr 0 0 0 1),(2,.ptr 1001 0 0 1),(20,.agg (ar .u64 t)),(21,I s.2)],kK m3 m4 s.1⟩
abbrev qE (m3 m4 t:List Int):((List Int)×Int×Bool)→ai×St:=fun e=>(.exit 0,⟨[(0,.ptr 0 0 0 1),(2,.ptr 1001 0 0 1),(20,.agg (ar .u64 t)),(21,I e.2.1),(22,B e.2.2)],kK m3 m4 e.1⟩)
theorem Cw {m3 m4 t s e} (h:Loop (dx m3 m4 t) s=some e):aD tab ow (.close [6002,6003,16011,17013]) kz (qr m3 m4 t s)=some (qE m3 m4 t e):=by
 refine lrG (fun s o h=> ?_) h
 obtain ⟨_,_⟩:=s
 simp only [dx] at h
 simp+decide only [qr,qE,kK,kz,go_sem,reduceIte,Nat.reduceAdd]
 have d1:= @Cx
 have d2:= @Cs
 have d3:= @Cu
 all_goals exact go
def iI (m:List Int):Option ((List Int)):=
 (Loop (dx ([0,1,62,28,27,36,44,6,55,20,3,10,43,25,39,41,45,15,21,8,18,2,61,56,14]:List Int) ([1,32898,9223372036854808714,9223372039002292224,32907,2147483649,9223372039002292353,9223372036854808585,138,136,2147516425,2147483658,2147516555,9223372036854775947,9223372036854808713,9223372036854808579,9223372036854808578,9223372036854775936,32778,9223372039002259466,9223372039002292353,9223372036854808704,2147483649,9223372039002292232]:List Int) ([1,32898,9223372036854808714,9223372039002292224,32907,2147483649,9223372039002292353,9223372036854808585,138,136,2147516425,2147483658,2147516555,9223372036854775947,9223372036854808713,9223372036854808579,9223372036854808578,9223372036854775936,32778,9223372039002259466,9223372039002292353,9223372036854808704,2147483649,9223372039002292232]:List Int)) (m,0)).bind fun e_4=>
 some e_4.1
theorem GT {m r} (h:iI m=some r):Call tab ow 194 [.ptr 0 0 0 1] [⟨25,true,[ar .u64 m]⟩]=some (.tup [],[⟨25,true,[ar .u64 r]⟩]):=by
 rw [ab (af:=j7) rfl]
 unfold iI at h
 simp+decide only [j7,ur,go_sem,reduceIte,Nat.reduceAdd]
 have d1:= @Cw
 all_goals exact go
section
theorem KJ:mkR 2000 []=rws eU8 []:=rfl
attribute [local go_sem] KJ
theorem KW:mkR 6012 []=rws eU8 []:=rfl
attribute [local go_sem] KW
def fj (m2:List Int):(List UInt8)×Int→Option (((List UInt8)×Int)⊕(((List UInt8)×Int×Bool)))
 | (l,t)=>
   br (decide (t<200)) (
   br (decide (0≤(wrap .i64 (t.tdiv 8)))&&decide ((wrap .i64 (t.tdiv 8)).toNat<25)) (
   (m2[(wrap .i64 (t.tdiv 8)).toNat]?).bind fun x=>
   br (decide (0≤(wrap .i64 (8*(t.tmod 8))))) (
   br (bc ((l++([(UInt8.ofInt (aM .u64 x (wrap .i64 (8*(t.tmod 8)))))]:List UInt8)).length) 1) (
   some (.inl ((l++([(UInt8.ofInt (aM .u64 x (wrap .i64 (8*(t.tmod 8)))))]:List UInt8)),(wrap .i64 (t+1))))) none) none) none) (
   some (.inr (l,t,decide (t<200))))
abbrev nY (m2:List Int) (l:List UInt8):List (Nat×Blk):=[(0,⟨25,true,[ar .u64 m2]⟩),(2000,⟨1,false,rws eU8 l⟩)]
abbrev xf (m2:List Int) (s:(List UInt8)×Int):St:=⟨[(0,.ptr 0 0 0 1),(3,.sl 2000 0 s.1.length),(6,I s.2)],nY m2 s.1⟩
abbrev wE (m2:List Int):((List UInt8)×Int×Bool)→ai×St:=fun e=>(.exit 0,⟨[(0,.ptr 0 0 0 1),(3,.sl 2000 0 e.1.length),(6,I e.2.1),(7,B e.2.2)],nY m2 e.1⟩)
theorem IB {m2 s e} (h:Loop (fj m2) s=some e):aD tab ow (.close [6012,6013]) nR (xf m2 s)=some (wE m2 e):=by
 refine lrG (fun s o h=> ?_) h
 obtain ⟨_,_⟩:=s
 simp only [fj] at h
 simp+decide only [xf,wE,nY,nR,go_sem,reduceIte,Nat.reduceAdd]
 all_goals exact go
def mQ (m:List Int):Option ((List UInt8)×(List Int)):=
 (Loop (fj m) (([]:List UInt8),0)).bind fun e_=>
 some (e_.1,m)
theorem MF {m r} (h:mQ m=some r):Call tab ow 195 [.ptr 0 0 0 1] [⟨25,true,[ar .u64 m]⟩]=some (sl eU8 r.1,[⟨25,true,[ar .u64 r.2]⟩]):=by
 rw [ab (af:=mR) rfl]
 unfold mQ at h
 simp+decide only [mR,Bc,go_sem,reduceIte,Nat.reduceAdd]
 have d1:= @IB
 all_goals exact go
end
section
theorem VL:mkR 2000 []=rws eU8 []:=rfl
attribute [local go_sem] VL
theorem Yb:mkR 8001 []=rws eU8 []:=rfl
attribute [local go_sem] Yb
theorem XX:mkR 10001 []=rws eU8 []:=rfl
attribute [local go_sem] XX
def kt (t:List (List UInt8)) (t2:Int):(List UInt8)×Int→Option (((List UInt8)×Int)⊕(((List UInt8)×Int×Bool)))
 | (l,t3)=>
   br (decide (t3<t2)) (
   (atL t t3).bind fun x=>
   br (bc ((l++x).length) 1) (
   some (.inl ((l++x),(wrap .i64 (t3+1))))) none) (
   some (.inr (l,t3,decide (t3<t2))))
abbrev FF (t:List (List UInt8)) (t2:Int) (s:(List UInt8)×Int):St:=⟨[(3,.sl 2000 0 s.1.length),(10,sl (eL eU8) t),(11,I t2),(12,I s.2)],[(2000,⟨1,false,rws eU8 s.1⟩)]⟩
abbrev FE (t:List (List UInt8)) (t2:Int):((List UInt8)×Int×Bool)→ai×St:=fun e=>(.exit 0,⟨[(3,.sl 2000 0 e.1.length),(10,sl (eL eU8) t),(11,I t2),(12,I e.2.1),(13,B e.2.2)],[(2000,⟨1,false,rws eU8 e.1⟩)]⟩)
theorem Sx {t t2 s e} (h:Loop (kt t t2) s=some e):aD tab ow (.close [6002]) yo (FF t t2 s)=some (FE t t2 e):=by
 refine lrG (fun s o h=> ?_) h
 obtain ⟨_,_⟩:=s
 simp only [kt] at h
 simp+decide only [FF,FE,yo,go_sem,reduceIte,Nat.reduceAdd]
 all_goals exact go
def i7 (l3:List UInt8):(List UInt8)→Option (((List UInt8))⊕(((List UInt8)×Bool)))
 |l2=>
  br ((((l2.length:Nat):Int).tmod 136) !=0) (
  br (bc ((l2++([(0:UInt8)]:List UInt8)).length) 1) (
  some (.inl (l2++([(0:UInt8)]:List UInt8)))) none) (
  some (.inr (l2,((((l2.length:Nat):Int).tmod 136) !=0))))
abbrev xR (l3 l2:List UInt8):List (Nat×Blk):=[(2000,⟨1,false,rws eU8 l2⟩),(8001,⟨1,false,rws eU8 l3⟩)]
abbrev G5 (l3:List UInt8) (s:(List UInt8)):St:=⟨[(3,.sl 2000 0 s.length)],xR l3 s⟩
abbrev G4 (l3:List UInt8):((List UInt8)×Bool)→ai×St:=fun e=>(.exit 2,⟨[(3,.sl 2000 0 e.1.length),(26,B e.2)],xR l3 e.1⟩)
theorem U0 {l3 s e} (h:Loop (i7 l3) s=some e):aD tab ow (.close [10001,10002]) ya (G5 l3 s)=some (G4 l3 e):=by
 refine lrG (fun s o h=> ?_) h
 simp only [i7] at h
 simp+decide only [G5,G4,xR,ya,go_sem,reduceIte,Nat.reduceAdd]
 all_goals exact go
def ko (l5 all2:List UInt8) (t4:List Int):(List Int)×Int→Option (((List Int)×Int)⊕(((List Int)×Int×Bool)))
 | (m2,t5)=>
   br (decide (t5<25)) (
   br (decide (0≤t5)&&decide (t5.toNat<25)) (
   (t4[t5.toNat]?).bind fun x4=>
   br (decide (0≤t5)&&decide (t5.toNat<25)) (
   (m2[t5.toNat]?).bind fun x5=>
   br (decide (0≤t5)&&decide (t5.toNat<25)) (
   br (decide (t5.toNat<m2.length)) (
   some (.inl ((m2.set t5.toNat (ga .u64 x5 x4)),(wrap .i64 (t5+1))))) none) none) none) none) (
   some (.inr (m2,t5,decide (t5<25))))
abbrev xU (l5:List UInt8) (m2:List Int):List (Nat×Blk):=[(8001,⟨1,false,rws eU8 l5⟩),(12001,⟨25,true,[ar .u64 m2]⟩)]
abbrev FN (l5 all2:List UInt8) (t4:List Int) (s:(List Int)×Int):St:=⟨[(3,sl eU8 all2),(6,.ptr 12001 0 0 1),(46,.agg (ar .u64 t4)),(47,I s.2)],xU l5 s.1⟩
abbrev Hd (l5 all2:List UInt8) (t4:List Int):((List Int)×Int×Bool)→ai×St:=fun e=>(.exit 6,⟨[(3,sl eU8 all2),(6,.ptr 12001 0 0 1),(46,.agg (ar .u64 t4)),(47,I e.2.1),(48,B e.2.2)],xU l5 e.1⟩)
theorem UA {l5 all2 t4 s e} (h:Loop (ko l5 all2 t4) s=some e):aD tab ow (.close []) wd (FN l5 all2 t4 s)=some (Hd l5 all2 t4 e):=by
 refine lrG (fun s o h=> ?_) h
 obtain ⟨_,_⟩:=s
 simp only [ko] at h
 simp+decide only [FN,Hd,xU,wd,go_sem,reduceIte,Nat.reduceAdd]
 all_goals exact go
def jV (l4:List UInt8):(List Int)×(List UInt8)→Option (((List Int)×(List UInt8))⊕(((List Int)×(List UInt8)×Bool)))
 | (m,all)=>
   br (decide (((all.length:Nat):Int)>0)) (
   (rL all 0 136).bind fun y=>
   (xm y).bind fun r_=>
   (Loop (ko l4 all r_) (m,0)).bind fun e_3=>
   (iI e_3.1).bind fun r_2=>
   (rL all 136 ((all.length:Nat):Int)).bind fun y2=>
   some (.inl (r_2,y2))) (
   some (.inr (m,all,decide (((all.length:Nat):Int)>0))))
abbrev qV (l4:List UInt8) (m:List Int):List (Nat×Blk):=[(8001,⟨1,false,rws eU8 l4⟩),(12001,⟨25,true,[ar .u64 m]⟩)]
abbrev yA (l4:List UInt8) (s:(List Int)×(List UInt8)):St:=⟨[(3,sl eU8 s.2),(6,.ptr 12001 0 0 1)],qV l4 s.1⟩
abbrev H9 (l4:List UInt8):((List Int)×(List UInt8)×Bool)→ai×St:=fun e=>(.exit 4,⟨[(3,sl eU8 e.2.1),(6,.ptr 12001 0 0 1),(41,B e.2.2)],qV l4 e.1⟩)
theorem Tm {l4 s e} (h:Loop (jV l4) s=some e):aD tab ow (.close [15002,20000,2000]) w6 (yA l4 s)=some (H9 l4 e):=by
 refine lrG (fun s o h=> ?_) h
 obtain ⟨_,_⟩:=s
 simp only [jV] at h
 simp+decide only [yA,H9,qV,w6,go_sem,reduceIte,Nat.reduceAdd]
 have d1:= @WF
 have d2:= @UA
 have d3:= @GT
 all_goals exact go
def mK (pieces:(List (List UInt8))):Option ((List UInt8)):=
 (Loop (kt pieces ((pieces.length:Nat):Int)) (([]:List UInt8),0)).bind fun e_=>
 br (bc ((e_.1++([(1:UInt8)]:List UInt8)).length) 1) (
 (Loop (i7 ([(1:UInt8)]:List UInt8)) (e_.1++([(1:UInt8)]:List UInt8))).bind fun e_2=>
 br (decide (0≤(wrap .i64 (((e_2.1.length:Nat):Int)-1)))) (
 br (decide ((wrap .i64 (((e_2.1.length:Nat):Int)-1)).toNat<e_2.1.length)) (
 (e_2.1[(wrap .i64 (((e_2.1.length:Nat):Int)-1)).toNat]?).bind fun x2=>
 br (decide (0≤(wrap .i64 (((e_2.1.length:Nat):Int)-1)))) (
 br (decide ((wrap .i64 (((e_2.1.length:Nat):Int)-1)).toNat<e_2.1.length)) (
 (e_2.1[(wrap .i64 (((e_2.1.length:Nat):Int)-1)).toNat]?).bind fun x3=>
 (Loop (jV ([(1:UInt8)]:List UInt8)) ((nZ 25),(e_2.1.set ((wrap .i64 (((e_2.1.length:Nat):Int)-1)).toNat) (UInt8.ofInt (vX .u8 (x2.toNat:Int) 128))))).bind fun e_4=>
 (mQ e_4.1).bind fun r_3=>
 (rL r_3.1 0 32).bind fun y3=>
 some y3) none) none) none) none) none
theorem sY {pieces r} (h:mK pieces=some r):Call tab ow 95 [sl (eL eU8) pieces] []=some (S r,[]):=by
 rw [ab (af:=yb) rfl]
 unfold mK at h
 simp+decide only [yb,Me,go_sem,reduceIte,Nat.reduceAdd]
 have d1:= @Sx
 have d2:= @U0
 have d3:= @Tm
 simp only [yA,qV] at d3
 have d4:= @MF
 all_goals exact go
end
section
theorem VI:mkR 2002 []=rws (eL eU8) []:=rfl
attribute [local go_sem] VI
def pu (t:(List UInt8)):Option ((List UInt8)):=
 br (bc t.length 1) (
 (mK ([t]:List (List UInt8))).bind fun r_=>
 some r_) none
theorem yM {t r} (h:pu t=some r):Call tab ow 267 [S t] []=some (S r,[]):=by
 rw [ab (af:=xI) rfl]
 unfold pu at h
 simp+decide only [xI,OI,go_sem,reduceIte,Nat.reduceAdd]
 have d1:= @sY
 all_goals exact go
end
def m0 (a b:(List UInt8)):Option ((List UInt8)):=
 br (bc ((([1]:List UInt8)).length+a.length) 1) (
 br (bc (((([1]:List UInt8))++a).length+b.length) 1) (
 some (((([1]:List UInt8))++a)++b)) none) none
theorem Fk {a b r} (h:m0 a b=some r):Call tab ow 269 [S a,S b] []=some (S r,[]):=by
 rw [ab (af:=rj) rfl]
 unfold m0 at h
 simp+decide only [rj,FH,go_sem,reduceIte,Nat.reduceAdd]
 all_goals exact go
section
theorem Wp:mkR 2000 []=rws eS []:=rfl
attribute [local go_sem] Wp
theorem VT:mkR 6004 []=rws eS []:=rfl
attribute [local go_sem] VT
theorem Y9:mkR 8001 []=rws (eL eS) []:=rfl
attribute [local go_sem] Y9
theorem XY:mkR 10000 []=rws eS []:=rfl
attribute [local go_sem] XY
theorem WV:mkR 14012 []=rws eS []:=rfl
attribute [local go_sem] WV
theorem Xb:mkR 15002 []=rws (eL eS) []:=rfl
attribute [local go_sem] Xb
def jU (t:List (List UInt8)) (t2:Int):(List (List UInt8))×Int→Option (((List (List UInt8))×Int)⊕(((List (List UInt8))×Int×Bool)))
 | (l,t3)=>
   br (decide (t3<t2)) (
   (atL t t3).bind fun x=>
   (o6 x).bind fun r_=>
   (pu r_).bind fun r_2=>
   br (bc ((l++([r_2]:List (List UInt8))).length) 16) (
   some (.inl ((l++([r_2]:List (List UInt8))),(wrap .i64 (t3+1))))) none) (
   some (.inr (l,t3,decide (t3<t2))))
abbrev Fw (t:List (List UInt8)) (t2:Int) (s:(List (List UInt8))×Int):St:=⟨[(3,.sl 2000 0 s.1.length),(10,sl eS t),(11,I t2),(12,I s.2)],[(2000,⟨1,false,rws eS s.1⟩)]⟩
abbrev G1 (t:List (List UInt8)) (t2:Int):((List (List UInt8))×Int×Bool)→ai×St:=fun e=>(.exit 0,⟨[(3,.sl 2000 0 e.1.length),(10,sl eS t),(11,I t2),(12,I e.2.1),(13,B e.2.2)],[(2000,⟨1,false,rws eS e.1⟩)]⟩)
theorem Sh {t t2 s e} (h:Loop (jU t t2) s=some e):aD tab ow (.close [6002,6003,6004,6005]) xN (Fw t t2 s)=some (G1 t t2 e):=by
 refine lrG (fun s o h=> ?_) h
 obtain ⟨_,_⟩:=s
 simp only [jU] at h
 simp+decide only [Fw,G1,xN,go_sem,reduceIte,Nat.reduceAdd]
 have d1:= @Fp
 have d2:= @yM
 all_goals exact go
def kf (l3:List (List (List UInt8))) (row2:List (List UInt8)):(List (List UInt8))×Int→Option (((List (List UInt8))×Int)⊕(((List (List UInt8))×Int×Bool)))
 | (l4,i)=>
   br (decide (i<((row2.length:Nat):Int))) (
   (atL row2 i).bind fun x2=>
   (atL row2 (wrap .i64 (i+1))).bind fun x3=>
   (m0 x2 x3).bind fun r_3=>
   (pu r_3).bind fun r_4=>
   br (bc ((l4++([r_4]:List (List UInt8))).length) 16) (
   some (.inl ((l4++([r_4]:List (List UInt8))),(wrap .i64 (i+2))))) none) (
   some (.inr (l4,i,decide (i<((row2.length:Nat):Int)))))
abbrev ze (l3:List (List (List UInt8))) (l4:List (List UInt8)):List (Nat×Blk):=[(8001,⟨1,false,rws (eL eS) l3⟩),(10000,⟨1,false,rws eS l4⟩)]
abbrev F5 (l3:List (List (List UInt8))) (row2:List (List UInt8)) (s:(List (List UInt8))×Int):St:=⟨[(3,sl eS row2),(6,.sl 8001 0 l3.length),(7,.sl 10000 0 s.1.length),(8,I s.2)],ze l3 s.1⟩
abbrev Gp (l3:List (List (List UInt8))) (row2:List (List UInt8)):((List (List UInt8))×Int×Bool)→ai×St:=fun e=>(.exit 4,⟨[(3,sl eS row2),(6,.sl 8001 0 l3.length),(7,.sl 10000 0 e.1.length),(8,I e.2.1),(32,B e.2.2)],ze l3 e.1⟩)
theorem SX {l3 row2 s e} (h:Loop (kf l3 row2) s=some e):aD tab ow (.close [14010,14011,14012,14013]) vp (F5 l3 row2 s)=some (Gp l3 row2 e):=by
 refine lrG (fun s o h=> ?_) h
 obtain ⟨_,_⟩:=s
 simp only [kf] at h
 simp+decide only [F5,Gp,ze,vp,go_sem,reduceIte,Nat.reduceAdd]
 have d1:= @Fk
 have d2:= @yM
 all_goals exact go
def i6:(List (List (List UInt8)))×(List (List UInt8))→Option (((List (List (List UInt8)))×(List (List UInt8)))⊕(((List (List (List UInt8)))×(List (List UInt8))×Bool)))
 | (l2,row)=>
   br (decide (((row.length:Nat):Int)>1)) (
   (Loop (kf l2 row) (([]:List (List UInt8)),0)).bind fun e_2=>
   br (bc ((l2++([e_2.1]:List (List (List UInt8)))).length) 24) (
   some (.inl ((l2++([e_2.1]:List (List (List UInt8)))),e_2.1))) none) (
   some (.inr (l2,row,decide (((row.length:Nat):Int)>1))))
abbrev GP (s:(List (List (List UInt8)))×(List (List UInt8))):St:=⟨[(3,sl eS s.2),(6,.sl 8001 0 s.1.length)],[(8001,⟨1,false,rws (eL eS) s.1⟩)]⟩
abbrev Hh:((List (List (List UInt8)))×(List (List UInt8))×Bool)→ai×St:=fun e=>(.exit 2,⟨[(3,sl eS e.2.1),(6,.sl 8001 0 e.1.length),(27,B e.2.2)],[(8001,⟨1,false,rws (eL eS) e.1⟩)]⟩)
theorem Tr { s e} (h:Loop (i6) s=some e):aD tab ow (.close [10000,14010,14011,14012,14013,15002,15003]) yL (GP s)=some (Hh e):=by
 refine lrG (fun s o h=> ?_) h
 obtain ⟨_,_⟩:=s
 simp only [i6] at h
 simp+decide only [GP,Hh,yL,go_sem,reduceIte,Nat.reduceAdd]
 have d1:= @SX
 all_goals exact go
def BA (leaves:(List (List UInt8))):Option ((List (List (List UInt8)))):=
 (Loop (jU leaves ((leaves.length:Nat):Int)) (([]:List (List UInt8)),0)).bind fun e_=>
 (Loop (i6) (([e_.1]:List (List (List UInt8))),e_.1)).bind fun e_3=>
 some e_3.1
theorem ZF {leaves r} (h:BA leaves=some r):Call tab ow 151 [sl eS leaves] []=some (sl (eL eS) r,[]):=by
 rw [ab (af:=za) rfl]
 unfold BA at h
 simp+decide only [za,P2,go_sem,reduceIte,Nat.reduceAdd]
 have d1:= @Sh
 have d2:= @Tr
 all_goals exact go
end
def sO (word:(List Ext)):Option (aG):=
 (te word).bind fun r_=>
 (BA r_).bind fun r_2=>
 some (aG.mk word r_2)
theorem Eu {word r} (h:sO word=some r):Call tab ow 64 [sl ag word] []=some (.agg [sl ag r.word,sl (eL eS) r.rows],[]):=by
 rw [ab (af:=yN) rfl]
 unfold sO at h
 simp+decide only [yN,P1,go_sem,reduceIte,Nat.reduceAdd]
 have d1:= @SZ
 have d2:= @ZF
 all_goals exact go
def tn (rows:(List (List (List UInt8)))):Option ((List UInt8)):=
 (atL rows (wrap .i64 (((rows.length:Nat):Int)-1))).bind fun x=>
 (atL x 0).bind fun x2=>
 some x2
theorem M0 {rows r} (h:tn rows=some r):Call tab ow 63 [sl (eL eS) rows] []=some (S r,[]):=by
 rw [ab (af:=yc) rfl]
 unfold tn at h
 simp+decide only [yc,LR,go_sem,reduceIte,Nat.reduceAdd]
 all_goals exact go
def kW (table:(List Ext)) (rate:Int):Option ((List UInt8)×Int):=
 br (decide (((table.length:Nat):Int)>4096)) (
 some ((([]:List UInt8)),2)) (
 (mu table).bind fun r_=>
 br (!r_) (
 some ((([]:List UInt8)),1)) (
 (ye ((table.length:Nat):Int) 2 64).bind fun r_2=>
 br (!r_2) (
 some ((([]:List UInt8)),4)) (
 (ye rate 1 3).bind fun r_3=>
 br (!r_3) (
 some ((([]:List UInt8)),4)) (
 (rY table).bind fun r_4=>
 (sd r_4 rate).bind fun r_5=>
 (sO r_5).bind fun r_6=>
 (tn r_6.rows).bind fun r_7=>
 some (r_7,0)))))
theorem L7 {table rate r} (h:kW table rate=some r):Call tab ow 13 [sl ag table,I rate] []=some (.tup [S r.1,I r.2],[]):=by
 rw [ab (af:=ls) rfl]
 unfold kW at h
 simp+decide only [ls,zG,go_sem,reduceIte,Nat.reduceAdd]
 have d1:= @Bj
 have d2:= @B9
 have d3:= @Jh
 have d4:= @JH
 have d5:= @Eu
 have d6:= @M0
 all_goals exact go
def fy (n2 most2:Int):Int→Option ((Int)⊕(Unit⊕(Int×Bool)))
 |k=>
  br (decide (k≤most2)) (
  br (n2==k) (
  some (.inr (.inl ()))) (
  some (.inl (wrap .i64 (k*2))))) (
  some (.inr (.inr (k,decide (k≤most2)))))
abbrev B4 (n2 most2 s:Int):St:=⟨[(0,I n2),(1,I most2),(5,I s)],[]⟩
abbrev AT (n2 most2:Int):(Unit⊕(Int×Bool))→ai×St:=alt (fun e=>((.ret,⟨[(4,B true)],[]⟩):ai×St)) (fun e=>(.exit 0,⟨[(0,I n2),(1,I most2),(5,I e.1),(8,B e.2)],[]⟩))
theorem Og {n2 most2 s e} (h:Loop (fy n2 most2) s=some e):aD tab ow (.close []) tQ (B4 n2 most2 s)=some (AT n2 most2 e):=by
 refine lrG (fun s o h=> ?_) h
 simp only [fy] at h
 simp+decide only [B4,AT,tQ,go_sem,reduceIte,Nat.reduceAdd]
 all_goals exact go
def o3 (n most:Int):Option (Bool):=
 (Loop (fy n most) 1).bind (alt (fun e_2=>
 some true) (fun e_3=>
 some false))
theorem EZ {n most r} (h:o3 n most=some r):Call tab ow 157 [I n,I most] []=some (B r,[]):=by
 rw [ab (af:=qY) rfl]
 unfold o3 at h
 simp+decide only [qY,EL,go_sem,reduceIte,Nat.reduceAdd]
 have d1:= @Og
 all_goals exact go
def yK (n:Int):Option (Bool):=
 (o3 n 64).bind fun r_=>
 some r_
theorem UK {n r} (h:yK n=some r):Call tab ow 156 [I n] []=some (B r,[]):=by
 rw [ab (af:=rO) rfl]
 unfold yK at h
 simp+decide only [rO,Fe,go_sem,reduceIte,Nat.reduceAdd]
 have d1:= @EZ
 all_goals exact go
def gG (n low high:Int):Option (Bool):=
 br (decide (low≤n)) (
 some (decide (n≤high))) (
 some false)
theorem sg {n low high r} (h:gG n low high=some r):Call tab ow 69 [I n,I low,I high] []=some (B r,[]):=by
 rw [ab (af:=C9) rfl]
 unfold gG at h
 simp+decide only [C9,Rm,go_sem,reduceIte,Nat.reduceAdd]
 all_goals exact go
def s9 (a:Int):Option (Bool):=
 (gG a 0 2130706432).bind fun r_=>
 some r_
theorem Vx {a r} (h:s9 a=some r):Call tab ow 196 [I a] []=some (B r,[]):=by
 rw [ab (af:=ue) rfl]
 unfold s9 at h
 simp+decide only [ue,Kg,go_sem,reduceIte,Nat.reduceAdd]
 have d1:= @sg
 all_goals exact go
def uJ (a:Ext):Option (Bool):=
 (s9 a.A).bind fun r_=>
 br r_ (
 (s9 a.B).bind fun r_2=>
 some r_2) (
 some false)
theorem I3 {a r} (h:uJ a=some r):Call tab ow 96 [.agg [I a.A,I a.B]] []=some (B r,[]):=by
 rw [ab (af:=Co) rfl]
 unfold uJ at h
 simp+decide only [Co,R9,go_sem,reduceIte,Nat.reduceAdd]
 have d1:= @Vx
 all_goals exact go
def wl (list2:List Ext):Int→Option ((Int)⊕(Unit⊕(Int×Bool)))
 |i=>
  br (decide (i<((list2.length:Nat):Int))) (
  (atL list2 i).bind fun x=>
  (uJ x).bind fun r_=>
  br (!r_) (
  some (.inr (.inl ()))) (
  some (.inl (wrap .i64 (i+1))))) (
  some (.inr (.inr (i,decide (i<((list2.length:Nat):Int))))))
abbrev Dc (list2:List Ext) (s:Int):St:=⟨[(0,sl ag list2),(3,I s)],[]⟩
abbrev CR (list2:List Ext):(Unit⊕(Int×Bool))→ai×St:=alt (fun e=>((.ret,⟨[(2,B false)],[]⟩):ai×St)) (fun e=>(.exit 0,⟨[(0,sl ag list2),(3,I e.1),(7,B e.2)],[]⟩))
theorem Pp {list2 s e} (h:Loop (wl list2) s=some e):aD tab ow (.close [5004]) vT (Dc list2 s)=some (CR list2 e):=by
 refine lrG (fun s o h=> ?_) h
 simp only [wl] at h
 simp+decide only [Dc,CR,vT,go_sem,reduceIte,Nat.reduceAdd]
 have d1:= @I3
 all_goals exact go
def kr (list:(List Ext)):Option (Bool):=
 (Loop (wl list) 0).bind (alt (fun e_2=>
 some false) (fun e_3=>
 some true))
theorem pc {list r} (h:kr list=some r):Call tab ow 105 [sl ag list] []=some (B r,[]):=by
 rw [ab (af:=vi) rfl]
 unfold kr at h
 simp+decide only [vi,IR,go_sem,reduceIte,Nat.reduceAdd]
 have d1:= @Pp
 all_goals exact go
def sn (list:(List Ext)):Option (Bool):=
 br (decide (((list.length:Nat):Int)>4096)) (
 some false) (
 (yK ((list.length:Nat):Int)).bind fun r_=>
 br r_ (
 (kr list).bind fun r_2=>
 some r_2) (
 some false))
theorem Km {list r} (h:sn list=some r):Call tab ow 67 [sl ag list] []=some (B r,[]):=by
 rw [ab (af:=ug) rfl]
 unfold sn at h
 simp+decide only [ug,J3,go_sem,reduceIte,Nat.reduceAdd]
 have d1:= @UK
 have d2:= @pc
 all_goals exact go
def sh (n:Int):Option (Bool):=
 (o3 n 64).bind fun r_=>
 br r_ (
 some (decide (n>1))) (
 some false)
theorem K7 {n r} (h:sh n=some r):Call tab ow 68 [I n] []=some (B r,[]):=by
 rw [ab (af:=ub) rfl]
 unfold sh at h
 simp+decide only [ub,JQ,go_sem,reduceIte,Nat.reduceAdd]
 have d1:= @EZ
 all_goals exact go
def p9 (a b:Int):Option (Int):=
 some ((wrap .i64 (a+b)).tmod 2130706433)
theorem NB {a b r} (h:p9 a b=some r):Call tab ow 244 [I a,I b] []=some (I r,[]):=by
 rw [ab (af:=yQ) rfl]
 unfold p9 at h
 simp+decide only [yQ,N8,go_sem,reduceIte,Nat.reduceAdd]
 all_goals exact go
def gQ (a b:Ext):Option (Ext):=
 (p9 a.A b.A).bind fun r_=>
 (p9 a.B b.B).bind fun r_2=>
 some (Ext.mk r_ r_2)
theorem jw {a b r} (h:gQ a b=some r):Call tab ow 197 [.agg [I a.A,I a.B],.agg [I b.A,I b.B]] []=some (.agg [I r.A,I r.B],[]):=by
 rw [ab (af:=z9) rfl]
 unfold gQ at h
 simp+decide only [z9,M1,go_sem,reduceIte,Nat.reduceAdd]
 have d1:= @NB
 all_goals exact go
def tx (a b:Int):Option (Int):=
 some ((wrap .i64 ((wrap .i64 (a+2130706433))-b)).tmod 2130706433)
theorem N7 {a b r} (h:tx a b=some r):Call tab ow 245 [I a,I b] []=some (I r,[]):=by
 rw [ab (af:=yi) rfl]
 unfold tx at h
 simp+decide only [yi,Ms,go_sem,reduceIte,Nat.reduceAdd]
 all_goals exact go
def jx (a b:Ext):Option (Ext):=
 (tx a.A b.A).bind fun r_=>
 (tx a.B b.B).bind fun r_2=>
 some (Ext.mk r_ r_2)
theorem lM {a b r} (h:jx a b=some r):Call tab ow 280 [.agg [I a.A,I a.B],.agg [I b.A,I b.B]] []=some (.agg [I r.A,I r.B],[]):=by
 rw [ab (af:=yZ) rfl]
 unfold jx at h
 simp+decide only [yZ,NZ,go_sem,reduceIte,Nat.reduceAdd]
 have d1:= @N7
 all_goals exact go
section
theorem PM:mkR 2000 []=rws ag []:=rfl
attribute [local go_sem] PM
def dV (back3:Bool) (w_2:Int):(List Ext)×Int→Option (((List Ext)×Int)⊕(((List Ext)×Int×Bool)))
 | (l2,i)=>
   br (decide (i<((l2.length:Nat):Int))) (
   br ((bm .i64 i w_2)==0) (
   some (.inl (l2,(wrap .i64 (i+1))))) (
   br back3 (
   br (decide (0≤i)) (
   br (decide (i.toNat<l2.length)) (
   (l2[i.toNat]?).bind fun x=>
   br (decide (0≤(ga .i64 i w_2))) (
   br (decide ((ga .i64 i w_2).toNat<l2.length)) (
   (l2[(ga .i64 i w_2).toNat]?).bind fun x2=>
   (gQ x x2).bind fun r_=>
   br (decide (0≤i)) (
   br (decide (i.toNat<l2.length)) (
   (l2[i.toNat]?).bind fun x3=>
   some (.inl ((l2.set i.toNat r_),(wrap .i64 (i+1))))) none) none) none) none) none) none) (
   br (decide (0≤i)) (
   br (decide (i.toNat<l2.length)) (
   (l2[i.toNat]?).bind fun x4=>
   br (decide (0≤(ga .i64 i w_2))) (
   br (decide ((ga .i64 i w_2).toNat<l2.length)) (
   (l2[(ga .i64 i w_2).toNat]?).bind fun x5=>
   (jx x4 x5).bind fun r_2=>
   br (decide (0≤i)) (
   br (decide (i.toNat<l2.length)) (
   (l2[i.toNat]?).bind fun x6=>
   some (.inl ((l2.set i.toNat r_2),(wrap .i64 (i+1))))) none) none) none) none) none) none))) (
   some (.inr (l2,i,decide (i<((l2.length:Nat):Int)))))
abbrev AK (back3:Bool) (w_2:Int) (s:(List Ext)×Int):St:=⟨[(1,B back3),(5,.sl 2000 0 s.1.length),(6,I w_2),(7,I s.2)],[(2000,⟨2,false,rws ag s.1⟩)]⟩
abbrev Ao (back3:Bool) (w_2:Int):((List Ext)×Int×Bool)→ai×St:=fun e=>(.exit 2,⟨[(1,B back3),(5,.sl 2000 0 e.1.length),(6,I w_2),(7,I e.2.1),(20,B e.2.2)],[(2000,⟨2,false,rws ag e.1⟩)]⟩)
theorem Nq {back3 w_2 s e} (h:Loop (dV back3 w_2) s=some e):aD tab ow (.close [11012,12012]) tB (AK back3 w_2 s)=some (Ao back3 w_2 e):=by
 refine lrG (fun s o h=> ?_) h
 obtain ⟨_,_⟩:=s
 simp only [dV] at h
 simp+decide only [AK,Ao,tB,go_sem,reduceIte,Nat.reduceAdd]
 have d1:= @jw
 have d2:= @lM
 all_goals exact go
def fE (back2:Bool):(List Ext)×Int→Option (((List Ext)×Int)⊕(((List Ext)×Int×Bool)))
 | (l,w_)=>
   br (decide (w_<((l.length:Nat):Int))) (
   (Loop (dV back2 w_) (l,0)).bind fun e_=>
   some (.inl (e_.1,(wrap .i64 (w_*2))))) (
   some (.inr (l,w_,decide (w_<((l.length:Nat):Int)))))
abbrev AZ (back2:Bool) (s:(List Ext)×Int):St:=⟨[(1,B back2),(5,.sl 2000 0 s.1.length),(6,I s.2)],[(2000,⟨2,false,rws ag s.1⟩)]⟩
abbrev Bg (back2:Bool):((List Ext)×Int×Bool)→ai×St:=fun e=>(.exit 0,⟨[(1,B back2),(5,.sl 2000 0 e.1.length),(6,I e.2.1),(14,B e.2.2)],[(2000,⟨2,false,rws ag e.1⟩)]⟩)
theorem MB {back2 s e} (h:Loop (fE back2) s=some e):aD tab ow (.close [11012,12012]) tc (AZ back2 s)=some (Bg back2 e):=by
 refine lrG (fun s o h=> ?_) h
 obtain ⟨_,_⟩:=s
 simp only [fE] at h
 simp+decide only [AZ,Bg,tc,go_sem,reduceIte,Nat.reduceAdd]
 have d1:= @Nq
 all_goals exact go
def sE (table:(List Ext)) (back:Bool):Option ((List Ext)):=
 br (bc ((([]:List Ext)++table).length) 16) (
 (Loop (fE back) ((([]:List Ext)++table),1)).bind fun e_2=>
 some e_2.1) none
theorem Th {table back r} (h:sE table back=some r):Call tab ow 161 [sl ag table,B back] []=some (sl ag r,[]):=by
 rw [ab (af:=ra) rfl]
 unfold sE at h
 simp+decide only [ra,EN,go_sem,reduceIte,Nat.reduceAdd]
 have d1:= @MB
 all_goals exact go
end
def gc (n2:Int):Int→Option ((Int)⊕((Int×Bool)))
 |k=>
  br (decide (0≤(wrap .u64 k))) (
  br (decide ((bX .i64 1 (wrap .u64 k))<n2)) (
  some (.inl (wrap .i64 (k+1)))) (
  some (.inr (k,decide ((bX .i64 1 (wrap .u64 k))<n2))))) none
abbrev D0 (n2 s:Int):St:=⟨[(0,I n2),(3,I s)],[]⟩
abbrev DU (n2:Int):(Int×Bool)→ai×St:=fun e=>(.exit 0,⟨[(0,I n2),(3,I e.1),(8,B e.2)],[]⟩)
theorem PY {n2 s e} (h:Loop (gc n2) s=some e):aD tab ow (.close []) vH (D0 n2 s)=some (DU n2 e):=by
 refine lrG (fun s o h=> ?_) h
 simp only [gc] at h
 simp+decide only [D0,DU,vH,go_sem,reduceIte,Nat.reduceAdd]
 all_goals exact go
def se (n:Int):Option (Int):=
 (Loop (gc n) 0).bind fun e_=>
 some e_.1
theorem JM {n r} (h:se n=some r):Call tab ow 279 [I n] []=some (I r,[]):=by
 rw [ab (af:=uj) rfl]
 unfold se at h
 simp+decide only [uj,JD,go_sem,reduceIte,Nat.reduceAdd]
 have d1:= @PY
 all_goals exact go
def eK (a b:Int):Option (Int):=
 some ((wrap .i64 (a*b)).tmod 2130706433)
theorem o2 {a b r} (h:eK a b=some r):Call tab ow 246 [I a,I b] []=some (I r,[]):=by
 rw [ab (af:=yq) rfl]
 unfold eK at h
 simp+decide only [yq,Nv,go_sem,reduceIte,Nat.reduceAdd]
 all_goals exact go
def jR:Int×Int×Int→Option ((Int×Int×Int)⊕((Int×Int×Int×Bool)))
 | (a2,n2,r_)=>
   br (decide (n2>0)) (
   br ((n2.tmod 2)==1) (
   (eK r_ a2).bind fun r_2=>
   (eK a2 a2).bind fun r_3=>
   some (.inl (r_3,(wrap .i64 (n2.tdiv 2)),r_2))) (
   (eK a2 a2).bind fun r_4=>
   some (.inl (r_4,(wrap .i64 (n2.tdiv 2)),r_)))) (
   some (.inr (a2,n2,r_,decide (n2>0))))
abbrev FG (s:Int×Int×Int):St:=⟨[(0,I s.1),(1,I s.2.1),(5,I s.2.2)],[]⟩
abbrev H7:(Int×Int×Int×Bool)→ai×St:=fun e=>(.exit 0,⟨[(0,I e.1),(1,I e.2.1),(5,I e.2.2.1),(7,B e.2.2.2)],[]⟩)
theorem Su { s e} (h:Loop (jR) s=some e):aD tab ow (.close [5002,6002]) xP (FG s)=some (H7 e):=by
 refine lrG (fun s o h=> ?_) h
 obtain ⟨_,_,_⟩:=s
 simp only [jR] at h
 simp+decide only [FG,H7,xP,go_sem,reduceIte,Nat.reduceAdd]
 have d1:= @o2
 all_goals exact go
def pD (a n:Int):Option (Int):=
 (Loop (jR) (a,n,1)).bind fun e_=>
 some e_.2.2.1
theorem Er {a n r} (h:pD a n=some r):Call tab ow 334 [I a,I n] []=some (I r,[]):=by
 rw [ab (af:=yw) rfl]
 unfold pD at h
 simp+decide only [yw,Mw,go_sem,reduceIte,Nat.reduceAdd]
 have d1:= @Su
 all_goals exact go
def sk (k:Int):Option (Int):=
 br (decide (0≤(wrap .u64 (wrap .i64 (24-k))))) (
 (pD 3 (bX .i64 127 (wrap .u64 (wrap .i64 (24-k))))).bind fun r_=>
 some r_) none
theorem JE {k r} (h:sk k=some r):Call tab ow 278 [I k] []=some (I r,[]):=by
 rw [ab (af:=uf) rfl]
 unfold sk at h
 simp+decide only [uf,Jj,go_sem,reduceIte,Nat.reduceAdd]
 have d1:= @Er
 all_goals exact go
def oK (n:Int):Option (Ext):=
 some (Ext.mk n 0)
theorem rU {n r} (h:oK n=some r):Call tab ow 288 [I n] []=some (.agg [I r.A,I r.B],[]):=by
 rw [ab (af:=C7) rfl]
 unfold oK at h
 simp+decide only [C7,QH,go_sem,reduceIte,Nat.reduceAdd]
 all_goals exact go
def cZ (a b:Ext):Option (Ext):=
 (eK a.A b.A).bind fun r_=>
 (eK a.B b.B).bind fun r_2=>
 (p9 r_ ((wrap .i64 (3*r_2)).tmod 2130706433)).bind fun r_3=>
 (eK a.A b.B).bind fun r_4=>
 (eK a.B b.A).bind fun r_5=>
 (p9 r_4 r_5).bind fun r_6=>
 some (Ext.mk r_3 r_6)
theorem i8 {a b r} (h:cZ a b=some r):Call tab ow 199 [.agg [I a.A,I a.B],.agg [I b.A,I b.B]] []=some (.agg [I r.A,I r.B],[]):=by
 rw [ab (af:=yt) rfl]
 unfold cZ at h
 simp+decide only [yt,OB,go_sem,reduceIte,Nat.reduceAdd]
 have d1:= @o2
 have d2:= @NB
 all_goals exact go
section
theorem W1:mkR 4000 []=rws ag []:=rfl
attribute [local go_sem] W1
theorem WO:mkR 5000 []=rws ag []:=rfl
attribute [local go_sem] WO
theorem Vn:mkR 6000 []=rws ag []:=rfl
attribute [local go_sem] Vn
theorem Y1:mkR 10005 []=rws ag []:=rfl
attribute [local go_sem] Y1
theorem WQ:mkR 11006 []=rws ag []:=rfl
attribute [local go_sem] WQ
theorem WJ: ∀k,KZ 14001 k [I (0:Int),I (0:Int)]=rws ag (List.replicate k (Ext.mk (0:Int) (0:Int))):=fun _=>a4X ag (Ext.mk (0:Int) (0:Int)) _ _
attribute [local go_sem] WJ
def i5 (ListtoArray2:List Ext) (t t2:Int):(List Ext)×(List Ext)×Int→Option (((List Ext)×(List Ext)×Int)⊕(((List Ext)×(List Ext)×Int×Bool)))
 | (l,l2,t3)=>
   br (decide (t3<t2)) (
   (atL ListtoArray2 t3).bind fun x=>
   br (bc ((l++([x]:List Ext)).length) 16) (
   (atL ListtoArray2 (wrap .i64 (t3+1))).bind fun x2=>
   br (bc ((l2++([x2]:List Ext)).length) 16) (
   some (.inl ((l++([x]:List Ext)),(l2++([x2]:List Ext)),(wrap .i64 (t3+2))))) none) none) (
   some (.inr (l,l2,t3,decide (t3<t2))))
abbrev yO (l l2:List Ext):List (Nat×Blk):=[(5000,⟨2,false,rws ag l⟩),(6000,⟨2,false,rws ag l2⟩)]
abbrev F2 (ListtoArray2:List Ext) (t t2:Int) (s:(List Ext)×(List Ext)×Int):St:=⟨[(0,sl ag ListtoArray2),(1,I t),(5,I t2),(6,.sl 5000 0 s.1.length),(7,.sl 6000 0 s.2.1.length),(8,I s.2.2)],yO s.1 s.2.1⟩
abbrev F6 (ListtoArray2:List Ext) (t t2:Int):((List Ext)×(List Ext)×Int×Bool)→ai×St:=fun e=>(.exit 0,⟨[(0,sl ag ListtoArray2),(1,I t),(5,I t2),(6,.sl 5000 0 e.1.length),(7,.sl 6000 0 e.2.1.length),(8,I e.2.2.1),(26,B e.2.2.2)],yO e.1 e.2.1⟩)
theorem T9 {ListtoArray2 t t2 s e} (h:Loop (i5 ListtoArray2 t t2) s=some e):aD tab ow (.close [10005,10006,11006,11007]) xH (F2 ListtoArray2 t t2 s)=some (F6 ListtoArray2 t t2 e):=by
 refine lrG (fun s o h=> ?_) h
 obtain ⟨_,_,_⟩:=s
 simp only [i5] at h
 simp+decide only [F2,F6,yO,xH,go_sem,reduceIte,Nat.reduceAdd]
 all_goals exact go
def is (t4 t5:Int) (t6 t7:List Ext):(List Ext)×Int×Int→Option (((List Ext)×Int×Int)⊕(((List Ext)×Int×Int×Bool)))
 | (l3,t8,t9)=>
   br (decide (t9<(wrap .i64 (t5.tdiv 2)))) (
   (atL t7 t9).bind fun x3=>
   (oK t8).bind fun r_5=>
   (cZ x3 r_5).bind fun r_6=>
   (atL t6 t9).bind fun x4=>
   (gQ x4 r_6).bind fun r_7=>
   br (decide (0≤t9)) (
   br (decide (t9.toNat<l3.length)) (
   (l3[t9.toNat]?).bind fun x5=>
   (atL t6 t9).bind fun x6=>
   (jx x6 r_6).bind fun r_8=>
   br (decide (0≤(wrap .i64 (t9+(wrap .i64 (t5.tdiv 2)))))) (
   br (decide ((wrap .i64 (t9+(wrap .i64 (t5.tdiv 2)))).toNat<l3.length)) (
   ((l3.set t9.toNat r_7)[(wrap .i64 (t9+(wrap .i64 (t5.tdiv 2)))).toNat]?).bind fun x7=>
   (eK t8 t4).bind fun r_9=>
   some (.inl (((l3.set t9.toNat r_7).set ((wrap .i64 (t9+(wrap .i64 (t5.tdiv 2)))).toNat) r_8),r_9,(wrap .i64 (t9+1))))) none) none) none) none) (
   some (.inr (l3,t8,t9,decide (t9<(wrap .i64 (t5.tdiv 2))))))
abbrev ym (l3:List Ext):List (Nat×Blk):=[(5000,dR),(6000,dR),(14001,⟨2,false,rws ag l3⟩)]
abbrev G8 (t4 t5:Int) (t6 t7:List Ext) (s:(List Ext)×Int×Int):St:=⟨[(1,I t4),(5,I t5),(9,sl ag t6),(10,sl ag t7),(11,.sl 14001 0 s.1.length),(12,I s.2.1),(13,I s.2.2)],ym s.1⟩
abbrev F8 (t4 t5:Int) (t6 t7:List Ext):((List Ext)×Int×Int×Bool)→ai×St:=fun e=>(.exit 2,⟨[(1,I t4),(5,I t5),(9,sl ag t6),(10,sl ag t7),(11,.sl 14001 0 e.1.length),(12,I e.2.1),(13,I e.2.2.1),(59,B e.2.2.2)],ym e.1⟩)
theorem Te {t4 t5 t6 t7 s e} (h:Loop (is t4 t5 t6 t7) s=some e):aD tab ow (.close [19005,19006,19007,20007,21010,22002]) vV (G8 t4 t5 t6 t7 s)=some (F8 t4 t5 t6 t7 e):=by
 refine lrG (fun s o h=> ?_) h
 obtain ⟨_,_,_⟩:=s
 simp only [is] at h
 simp+decide only [G8,F8,ym,vV,go_sem,reduceIte,Nat.reduceAdd]
 have d1:= @rU
 have d2:= @i8
 have d3:= @jw
 have d4:= @lM
 have d5:= @o2
 all_goals exact go
def jr:Nat→(List Ext)→Int→Option ((List Ext))
 |0,_,_=>none
 |n_+1,ListtoArray,a=>
  br (((ListtoArray.length:Nat):Int)==1) (
  br (bc ((([]:List Ext)++ListtoArray).length) 16) (
  some (([]:List Ext)++ListtoArray)) none) (
  (Loop (i5 ListtoArray a ((ListtoArray.length:Nat):Int)) (([]:List Ext),([]:List Ext),0)).bind fun e_=>
  (eK a a).bind fun r_=>
  (jr n_ e_.1 r_).bind fun r_2=>
  (eK a a).bind fun r_3=>
  (jr n_ e_.2.1 r_3).bind fun r_4=>
  br (KS ((ListtoArray.length:Nat):Int) ((ListtoArray.length:Nat):Int) 16) (
  (Loop (is a ((ListtoArray.length:Nat):Int) r_2 r_4) ((List.replicate (((ListtoArray.length:Nat):Int).toNat) (Ext.mk (0:Int) (0:Int))),(1:Int),(0:Int))).bind fun e_2=>
  some e_2.1) none)
theorem SO (n_:Nat): ∀{ListtoArray:(List Ext)} {a:Int} {r:(List Ext)},jr n_ ListtoArray a=some r→Call tab ow 277 [sl ag ListtoArray,I a] []=some (sl ag r,[]):=by
 induction n_ with
 |zero=>intro _ _ r h;cases h
 |succ n_ ih=>
  intro ListtoArray a r h
  rw [ab (af:=xX) rfl]
  simp only [jr] at h
  simp+decide only [xX,OM,go_sem,reduceIte,Nat.reduceAdd]
  have d1:= @T9
  have d2:= @o2
  have d3:= @ih
  have d4:= @Te
  all_goals exact go
def Ny (ListtoArray:(List Ext)) (a:Int):Option ((List Ext)):=lim (fun n_=>jr n_ ListtoArray a)
theorem Zu {ListtoArray:(List Ext)} {a:Int} {r:(List Ext)} (h:Ny ListtoArray a=some r):Call tab ow 277 [sl ag ListtoArray,I a] []=some (sl ag r,[]):=by
 obtain ⟨n_,hn⟩:=O3 h
 exact SO n_ hn
end
end
end Go.AI.Fn
set_option linter.unusedVariables false
set_option linter.unusedSimpArgs false
set_option maxRecDepth 100000
set_option maxHeartbeats 1000000
namespace Go.AI.Fn
noncomputable section
open IntKind (wrap)
section
theorem Oz:mkR 3000 []=rws ag []:=rfl
attribute [local go_sem] Oz
theorem LA: ∀k,KZ 3007 k [I (0:Int),I (0:Int)]=rws ag (List.replicate k (Ext.mk (0:Int) (0:Int))):=fun _=>a4X ag (Ext.mk (0:Int) (0:Int)) _ _
attribute [local go_sem] LA
def pm (coefs:(List Ext)) (rate:Int):Option ((List Ext)):=
 br (decide (0≤(wrap .u64 rate))) (
 br (bc ((([]:List Ext)++coefs).length) 16) (
 br (KS (wrap .i64 ((bX .i64 ((coefs.length:Nat):Int) (wrap .u64 rate))-((coefs.length:Nat):Int))) (wrap .i64 ((bX .i64 ((coefs.length:Nat):Int) (wrap .u64 rate))-((coefs.length:Nat):Int))) 16&&decide ((wrap .i64 ((bX .i64 ((coefs.length:Nat):Int) (wrap .u64 rate))-((coefs.length:Nat):Int)))≤1099511627776)) (
 br (bc (((([]:List Ext)++coefs)++List.replicate ((wrap .i64 ((bX .i64 ((coefs.length:Nat):Int) (wrap .u64 rate))-((coefs.length:Nat):Int))).toNat) (Ext.mk (0:Int) (0:Int))).length) 16) (
 (se (bX .i64 ((coefs.length:Nat):Int) (wrap .u64 rate))).bind fun r_=>
 (sk r_).bind fun r_2=>
 (Ny ((([]:List Ext)++coefs)++List.replicate ((wrap .i64 ((bX .i64 ((coefs.length:Nat):Int) (wrap .u64 rate))-((coefs.length:Nat):Int))).toNat) (Ext.mk (0:Int) (0:Int))) r_2).bind fun r_3=>
 some r_3) none) none) none) none
theorem Qb {coefs rate r} (h:pm coefs rate=some r):Call tab ow 160 [sl ag coefs,I rate] []=some (sl ag r,[]):=by
 rw [ab (af:=ov) rfl]
 unfold pm at h
 simp+decide only [ov,DB,go_sem,reduceIte,Nat.reduceAdd]
 have d1:= @JM
 have d2:= @JE
 have d3:= @Zu
 all_goals exact go
end
def sv (table:(List Ext)) (rate:Int):Option ((List Ext)):=
 (sE table false).bind fun r_=>
 (pm r_ rate).bind fun r_2=>
 some r_2
theorem II {table rate r} (h:sv table rate=some r):Call tab ow 72 [sl ag table,I rate] []=some (sl ag r,[]):=by
 rw [ab (af:=uO) rfl]
 unfold sv at h
 simp+decide only [uO,IY,go_sem,reduceIte,Nat.reduceAdd]
 have d1:= @Th
 have d2:= @Qb
 all_goals exact go
section
theorem PV:mkR 2000 []=rws eU8 []:=rfl
attribute [local go_sem] PV
def gN (list2:List Ext):(List UInt8)×Int→Option (((List UInt8)×Int)⊕(((List UInt8)×Int×Bool)))
 | (l,i)=>
   br (decide (i<((list2.length:Nat):Int))) (
   (atL list2 i).bind fun x=>
   (ed x.A 4).bind fun r_=>
   br (bc ((l++r_).length) 1) (
   (atL list2 i).bind fun x2=>
   (ed x2.B 4).bind fun r_2=>
   br (bc (((l++r_)++r_2).length) 1) (
   some (.inl (((l++r_)++r_2),(wrap .i64 (i+1))))) none) none) (
   some (.inr (l,i,decide (i<((list2.length:Nat):Int)))))
abbrev Bu (list2:List Ext) (s:(List UInt8)×Int):St:=⟨[(0,sl ag list2),(3,.sl 2000 0 s.1.length),(4,I s.2)],[(2000,⟨1,false,rws eU8 s.1⟩)]⟩
abbrev AR (list2:List Ext):((List UInt8)×Int×Bool)→ai×St:=fun e=>(.exit 0,⟨[(0,sl ag list2),(3,.sl 2000 0 e.1.length),(4,I e.2.1),(9,B e.2.2)],[(2000,⟨1,false,rws eU8 e.1⟩)]⟩)
theorem Nj {list2 s e} (h:Loop (gN list2) s=some e):aD tab ow (.close [6006,6007,6013,6014]) sZ (Bu list2 s)=some (AR list2 e):=by
 refine lrG (fun s o h=> ?_) h
 obtain ⟨_,_⟩:=s
 simp only [gN] at h
 simp+decide only [Bu,AR,sZ,go_sem,reduceIte,Nat.reduceAdd]
 have d1:= @iX
 all_goals exact go
def lF (list:(List Ext)):Option ((List UInt8)):=
 (Loop (gN list) (([]:List UInt8),0)).bind fun e_=>
 some e_.1
theorem zb {list r} (h:lF list=some r):Call tab ow 159 [sl ag list] []=some (sl eU8 r,[]):=by
 rw [ab (af:=qR) rfl]
 unfold lF at h
 simp+decide only [qR,Fh,go_sem,reduceIte,Nat.reduceAdd]
 have d1:= @Nj
 all_goals exact go
end
section
theorem Nu:mkR 2000 []=rws eS []:=rfl
attribute [local go_sem] Nu
theorem NE:mkR 7012 []=rws ag []:=rfl
attribute [local go_sem] NE
theorem LC:mkR 7015 []=rws eS []:=rfl
attribute [local go_sem] LC
def ez (word2:List Ext) (n:Int):(List (List UInt8))×Int→Option (((List (List UInt8))×Int)⊕(((List (List UInt8))×Int×Bool)))
 | (l,i)=>
   br (decide (i<(wrap .i64 (n.tdiv 2)))) (
   (atL word2 i).bind fun x=>
   (atL word2 (wrap .i64 (i+(wrap .i64 (n.tdiv 2))))).bind fun x2=>
   (lF ([x,x2]:List Ext)).bind fun r_=>
   br (bc ((l++([r_]:List (List UInt8))).length) 16) (
   some (.inl ((l++([r_]:List (List UInt8))),(wrap .i64 (i+1))))) none) (
   some (.inr (l,i,decide (i<(wrap .i64 (n.tdiv 2))))))
abbrev zT (word2:List Ext) (n:Int) (s:(List (List UInt8))×Int):St:=⟨[(0,sl ag word2),(3,.sl 2000 0 s.1.length),(4,I n),(5,I s.2)],[(2000,⟨1,false,rws eS s.1⟩)]⟩
abbrev zg (word2:List Ext) (n:Int):((List (List UInt8))×Int×Bool)→ai×St:=fun e=>(.exit 0,⟨[(0,sl ag word2),(3,.sl 2000 0 e.1.length),(4,I n),(5,I e.2.1),(12,B e.2.2)],[(2000,⟨1,false,rws eS e.1⟩)]⟩)
theorem KT {word2 n s e} (h:Loop (ez word2 n) s=some e):aD tab ow (.close [7012,7013,7015,7016]) pV (zT word2 n s)=some (zg word2 n e):=by
 refine lrG (fun s o h=> ?_) h
 obtain ⟨_,_⟩:=s
 simp only [ez] at h
 simp+decide only [zT,zg,pV,go_sem,reduceIte,Nat.reduceAdd]
 have d1:= @zb
 all_goals exact go
def jB (word:(List Ext)):Option ((List (List UInt8))):=
 (Loop (ez word ((word.length:Nat):Int)) (([]:List (List UInt8)),0)).bind fun e_=>
 some e_.1
theorem vZ {word r} (h:jB word=some r):Call tab ow 71 [sl ag word] []=some (sl eS r,[]):=by
 rw [ab (af:=ou) rfl]
 unfold jB at h
 simp+decide only [ou,CC,go_sem,reduceIte,Nat.reduceAdd]
 have d1:= @KT
 all_goals exact go
end
def s8 (t:(List UInt8)):Option ((List UInt8)):=
 br (bc ((([0]:List UInt8)).length+t.length) 1) (
 (fW ((([0]:List UInt8))++t)).bind fun r_=>
 some r_) none
theorem IP {t r} (h:s8 t=some r):Call tab ow 275 [S t] []=some (S r,[]):=by
 rw [ab (af:=uY) rfl]
 unfold s8 at h
 simp+decide only [uY,Jn,go_sem,reduceIte,Nat.reduceAdd]
 have d1:= @js
 all_goals exact go
def xG (a b:(List UInt8)):Option ((List UInt8)):=
 br (bc ((([1]:List UInt8)).length+a.length) 1) (
 br (bc (((([1]:List UInt8))++a).length+b.length) 1) (
 (fW (((([1]:List UInt8))++a)++b)).bind fun r_=>
 some r_) none) none
theorem V4 {a b r} (h:xG a b=some r):Call tab ow 276 [S a,S b] []=some (S r,[]):=by
 rw [ab (af:=uI) rfl]
 unfold xG at h
 simp+decide only [uI,Jb,go_sem,reduceIte,Nat.reduceAdd]
 have d1:= @js
 all_goals exact go
section
theorem NF:mkR 2000 []=rws eS []:=rfl
attribute [local go_sem] NF
theorem Mv:mkR 6006 []=rws eS []:=rfl
attribute [local go_sem] Mv
theorem NY:mkR 7001 []=rws (eL eS) []:=rfl
attribute [local go_sem] NY
theorem N3:mkR 9000 []=rws eS []:=rfl
attribute [local go_sem] N3
theorem Nm:mkR 13011 []=rws eS []:=rfl
attribute [local go_sem] Nm
theorem MS:mkR 15002 []=rws (eL eS) []:=rfl
attribute [local go_sem] MS
def fX (leaves2:List (List UInt8)):(List (List UInt8))×Int→Option (((List (List UInt8))×Int)⊕(((List (List UInt8))×Int×Bool)))
 | (l,i)=>
   br (decide (i<((leaves2.length:Nat):Int))) (
   (atL leaves2 i).bind fun x=>
   (s8 x).bind fun r_=>
   br (bc ((l++([r_]:List (List UInt8))).length) 16) (
   some (.inl ((l++([r_]:List (List UInt8))),(wrap .i64 (i+1))))) none) (
   some (.inr (l,i,decide (i<((leaves2.length:Nat):Int)))))
abbrev zl (leaves2:List (List UInt8)) (s:(List (List UInt8))×Int):St:=⟨[(0,sl eS leaves2),(3,.sl 2000 0 s.1.length),(4,I s.2)],[(2000,⟨1,false,rws eS s.1⟩)]⟩
abbrev zP (leaves2:List (List UInt8)):((List (List UInt8))×Int×Bool)→ai×St:=fun e=>(.exit 0,⟨[(0,sl eS leaves2),(3,.sl 2000 0 e.1.length),(4,I e.2.1),(12,B e.2.2)],[(2000,⟨1,false,rws eS e.1⟩)]⟩)
theorem KV {leaves2 s e} (h:Loop (fX leaves2) s=some e):aD tab ow (.close [6005,6006,6007]) qa (zl leaves2 s)=some (zP leaves2 e):=by
 refine lrG (fun s o h=> ?_) h
 obtain ⟨_,_⟩:=s
 simp only [fX] at h
 simp+decide only [zl,zP,qa,go_sem,reduceIte,Nat.reduceAdd]
 have d1:= @IP
 all_goals exact go
def fV (l3:List (List (List UInt8))) (level2:List (List UInt8)):(List (List UInt8))×Int→Option (((List (List UInt8))×Int)⊕(((List (List UInt8))×Int×Bool)))
 | (l4,i2)=>
   br (decide (i2<((level2.length:Nat):Int))) (
   (atL level2 i2).bind fun x2=>
   (atL level2 (wrap .i64 (i2+1))).bind fun x3=>
   (xG x2 x3).bind fun r_2=>
   br (bc ((l4++([r_2]:List (List UInt8))).length) 16) (
   some (.inl ((l4++([r_2]:List (List UInt8))),(wrap .i64 (i2+2))))) none) (
   some (.inr (l4,i2,decide (i2<((level2.length:Nat):Int)))))
abbrev pS (l3:List (List (List UInt8))) (l4:List (List UInt8)):List (Nat×Blk):=[(7001,⟨1,false,rws (eL eS) l3⟩),(9000,⟨1,false,rws eS l4⟩)]
abbrev A2 (l3:List (List (List UInt8))) (level2:List (List UInt8)) (s:(List (List UInt8))×Int):St:=⟨[(3,sl eS level2),(5,.sl 7001 0 l3.length),(6,.sl 9000 0 s.1.length),(7,I s.2)],pS l3 s.1⟩
abbrev zJ (l3:List (List (List UInt8))) (level2:List (List UInt8)):((List (List UInt8))×Int×Bool)→ai×St:=fun e=>(.exit 4,⟨[(3,sl eS level2),(5,.sl 7001 0 l3.length),(6,.sl 9000 0 e.1.length),(7,I e.2.1),(32,B e.2.2)],pS l3 e.1⟩)
theorem KB {l3 level2 s e} (h:Loop (fV l3 level2) s=some e):aD tab ow (.close [13010,13011,13012]) nQ (A2 l3 level2 s)=some (zJ l3 level2 e):=by
 refine lrG (fun s o h=> ?_) h
 obtain ⟨_,_⟩:=s
 simp only [fV] at h
 simp+decide only [A2,zJ,pS,nQ,go_sem,reduceIte,Nat.reduceAdd]
 have d1:= @V4
 all_goals exact go
def ex:(List (List (List UInt8)))×(List (List UInt8))→Option (((List (List (List UInt8)))×(List (List UInt8)))⊕(((List (List (List UInt8)))×(List (List UInt8))×Bool)))
 | (l2,level)=>
   br (decide (((level.length:Nat):Int)>1)) (
   (Loop (fV l2 level) (([]:List (List UInt8)),0)).bind fun e_2=>
   br (bc ((l2++([e_2.1]:List (List (List UInt8)))).length) 24) (
   some (.inl ((l2++([e_2.1]:List (List (List UInt8)))),e_2.1))) none) (
   some (.inr (l2,level,decide (((level.length:Nat):Int)>1))))
abbrev zQ (s:(List (List (List UInt8)))×(List (List UInt8))):St:=⟨[(3,sl eS s.2),(5,.sl 7001 0 s.1.length)],[(7001,⟨1,false,rws (eL eS) s.1⟩)]⟩
abbrev zn:((List (List (List UInt8)))×(List (List UInt8))×Bool)→ai×St:=fun e=>(.exit 2,⟨[(3,sl eS e.2.1),(5,.sl 7001 0 e.1.length),(27,B e.2.2)],[(7001,⟨1,false,rws (eL eS) e.1⟩)]⟩)
theorem KY { s e} (h:Loop (ex) s=some e):aD tab ow (.close [9000,13010,13011,13012,15002,15003]) pO (zQ s)=some (zn e):=by
 refine lrG (fun s o h=> ?_) h
 obtain ⟨_,_⟩:=s
 simp only [ex] at h
 simp+decide only [zQ,zn,pO,go_sem,reduceIte,Nat.reduceAdd]
 have d1:= @KB
 all_goals exact go
def mA (leaves:(List (List UInt8))):Option ((List (List (List UInt8)))):=
 (Loop (fX leaves) (([]:List (List UInt8)),0)).bind fun e_=>
 (Loop (ex) (([e_.1]:List (List (List UInt8))),e_.1)).bind fun e_3=>
 some e_3.1
theorem Da {leaves r} (h:mA leaves=some r):Call tab ow 158 [sl eS leaves] []=some (sl (eL eS) r,[]):=by
 rw [ab (af:=oy) rfl]
 unfold mA at h
 simp+decide only [oy,CU,go_sem,reduceIte,Nat.reduceAdd]
 have d1:= @KV
 have d2:= @KY
 all_goals exact go
end
def nU (leaves:(List (List UInt8))):Option ((List UInt8)):=
 (mA leaves).bind fun r_=>
 (atL r_ (wrap .i64 (((r_.length:Nat):Int)-1))).bind fun x=>
 (atL x 0).bind fun x2=>
 some x2
theorem K8 {leaves r} (h:nU leaves=some r):Call tab ow 70 [sl eS leaves] []=some (S r,[]):=by
 rw [ab (af:=uq) rfl]
 unfold nU at h
 simp+decide only [uq,IK,go_sem,reduceIte,Nat.reduceAdd]
 have d1:= @Da
 all_goals exact go
def kO (table:(List Ext)) (rate:Int):Option ((List UInt8)×Int):=
 br (decide (((table.length:Nat):Int)>4096)) (
 some ((([]:List UInt8)),2)) (
 (sn table).bind fun r_=>
 br (!r_) (
 some ((([]:List UInt8)),1)) (
 (sh ((table.length:Nat):Int)).bind fun r_2=>
 br (!r_2) (
 some ((([]:List UInt8)),4)) (
 (gG rate 1 3).bind fun r_3=>
 br (!r_3) (
 some ((([]:List UInt8)),4)) (
 (sv table rate).bind fun r_4=>
 (jB r_4).bind fun r_5=>
 (nU r_5).bind fun r_6=>
 some (r_6,0)))))
theorem Kz {table rate r} (h:kO table rate=some r):Call tab ow 14 [sl ag table,I rate] []=some (.tup [S r.1,I r.2],[]):=by
 rw [ab (af:=lk) rfl]
 unfold kO at h
 simp+decide only [lk,zj,go_sem,reduceIte,Nat.reduceAdd]
 have d1:= @Km
 have d2:= @K7
 have d3:= @sg
 have d4:= @II
 have d5:= @vZ
 have d6:= @K8
 all_goals exact go
def rQ (list:(List Ext)):Option (Bool):=
 br (decide (((list.length:Nat):Int)≤6)) (
 (bW list).bind fun r_=>
 some r_) (
 some false)
theorem Ko {list r} (h:rQ list=some r):Call tab ow 73 [sl ag list] []=some (B r,[]):=by
 rw [ab (af:=u4) rfl]
 unfold rQ at h
 simp+decide only [u4,Jg,go_sem,reduceIte,Nat.reduceAdd]
 have d1:= @dz
 all_goals exact go
def hZ (t:Setting):Option (Bool):=
 (ye t.Rate 1 3).bind fun r_=>
 br r_ (
 (ye t.Queries 1 8).bind fun r_2=>
 br r_2 (
 (ye t.Grind 0 12).bind fun r_3=>
 some r_3) (
 some false)) (
 some false)
theorem oO {t r} (h:hZ t=some r):Call tab ow 26 [.agg [I t.Rate,I t.Queries,I t.Grind]] []=some (B r,[]):=by
 rw [ab (af:=oE) rfl]
 unfold hZ at h
 simp+decide only [oE,DK,go_sem,reduceIte,Nat.reduceAdd]
 have d1:= @B9
 all_goals exact go
def tD (h_:(List UInt8)):Option (Bool):=
 some (((h_.length:Nat):Int)==32)
theorem EF {h_ r} (h:tD h_=some r):Call tab ow 100 [S h_] []=some (B r,[]):=by
 rw [ab (af:=z7) rfl]
 unfold tD at h
 simp+decide only [z7,NX,go_sem,reduceIte,Nat.reduceAdd]
 all_goals exact go
def lY (s:Source):Option (Bool):=
 br (decide (((s.Script.length:Nat):Int)≤64)) (
 (bW s.Script).bind fun r_=>
 br r_ (
 (tD s.State).bind fun r_2=>
 br r_2 (
 (ye s.At 0 1000000).bind fun r_3=>
 br r_3 (
 (ye s.Count 0 1000000).bind fun r_4=>
 some r_4) (
 some false)) (
 some false)) (
 some false)) (
 some false)
theorem Fi {s r} (h:lY s=some r):Call tab ow 74 [.agg [sl ag s.Script,I s.At,S s.State,I s.Count]] []=some (B r,[]):=by
 rw [ab (af:=rx) rfl]
 unfold lY at h
 simp+decide only [rx,Gk,go_sem,reduceIte,Nat.reduceAdd]
 have d1:= @dz
 have d2:= @EF
 have d3:= @B9
 all_goals exact go
def iO (s:Source):Option (Int):=
 some (wrap .i64 (1000000-(mx s.At s.Count)))
theorem zq {s r} (h:iO s=some r):Call tab ow 75 [.agg [sl ag s.Script,I s.At,S s.State,I s.Count]] []=some (I r,[]):=by
 rw [ab (af:=lA) rfl]
 unfold iO at h
 simp+decide only [lA,zV,go_sem,reduceIte,Nat.reduceAdd]
 all_goals exact go
def fU (s:Source):Option (Source):=
 (bZ s.Script).bind fun r_=>
 some (Source.mk r_ s.At s.State s.Count)
theorem vd {s r} (h:fU s=some r):Call tab ow 76 [.agg [sl ag s.Script,I s.At,S s.State,I s.Count]] []=some (.agg [sl ag r.Script,I r.At,S r.State,I r.Count],[]):=by
 rw [ab (af:=jd) rfl]
 unfold fU at h
 simp+decide only [jd,uU,go_sem,reduceIte,Nat.reduceAdd]
 have d1:= @je
 all_goals exact go
def Kh:Option (Ext):=
 some (Ext.mk 1 0)
theorem Lh {r} (h:Kh=some r):Call tab ow 183 [] []=some (.agg [I r.A,I r.B],[]):=by
 rw [ab (af:=Lw) rfl]
 unfold Kh at h
 simp+decide only [Lw,a1s,go_sem,reduceIte,Nat.reduceAdd]
 all_goals exact go
def bY (a b:Ext):Option (Ext):=
 (nv a.A b.A).bind fun r_=>
 (nv a.B b.B).bind fun r_2=>
 (nv 3 r_2).bind fun r_3=>
 (IW r_ r_3).bind fun r_4=>
 (nv a.A b.B).bind fun r_5=>
 (nv a.B b.A).bind fun r_6=>
 (IW r_5 r_6).bind fun r_7=>
 some (Ext.mk r_4 r_7)
theorem eX {a b r} (h:bY a b=some r):Call tab ow 182 [.agg [I a.A,I a.B],.agg [I b.A,I b.B]] []=some (.agg [I r.A,I r.B],[]):=by
 rw [ab (af:=oB) rfl]
 unfold bY at h
 simp+decide only [oB,CX,go_sem,reduceIte,Nat.reduceAdd]
 have d1:= @Cg
 have d2:= @a1J
 all_goals exact go
section
theorem UC:mkR 2001 []=rws ag []:=rfl
attribute [local go_sem] UC
theorem U9:mkR 6000 []=rws ag []:=rfl
attribute [local go_sem] U9
theorem UI:mkR 6001 []=rws ag []:=rfl
attribute [local go_sem] UI
theorem Sy:mkR 10006 []=rws ag []:=rfl
attribute [local go_sem] Sy
theorem S0:mkR 10012 []=rws ag []:=rfl
attribute [local go_sem] S0
def iZ (t4:List Ext) (t5 t6:Int) (t7:List Ext) (t8 c c2:Int):(List Ext)×(List Ext)×Int→Option (((List Ext)×(List Ext)×Int)⊕(((List Ext)×(List Ext)×Int×Bool)))
 | (l,l2,t9)=>
   br (decide (t9<t8)) (
   (atL t7 t9).bind fun x2=>
   (Kh).bind fun r_2=>
   (cY r_2 (Ext.mk c c2)).bind fun r_3=>
   (bY x2 r_3).bind fun r_4=>
   br (bc ((l++([r_4]:List Ext)).length) 16) (
   (bY x2 (Ext.mk c c2)).bind fun r_5=>
   br (bc ((l2++([r_5]:List Ext)).length) 16) (
   some (.inl ((l++([r_4]:List Ext)),(l2++([r_5]:List Ext)),(wrap .i64 (t9+1))))) none) none) (
   some (.inr (l,l2,t9,decide (t9<t8))))
abbrev wo (c c2:Int) (l l2:List Ext):List (Nat×Blk):=[(5002,⟨2,true,[[I c,I c2]]⟩),(6000,⟨2,false,rws ag l⟩),(6001,⟨2,false,rws ag l2⟩)]
abbrev DR (t4:List Ext) (t5 t6:Int) (t7:List Ext) (t8 c c2:Int) (s:(List Ext)×(List Ext)×Int):St:=⟨[(5,.ptr 5002 0 0 1),(6,.sl 6000 0 s.1.length),(7,.sl 6001 0 s.2.1.length),(12,sl ag t4),(13,I t5),(14,I t6),(20,sl ag t7),(21,I t8),(22,I s.2.2)],wo c c2 s.1 s.2.1⟩
abbrev DA (t4:List Ext) (t5 t6:Int) (t7:List Ext) (t8 c c2:Int):((List Ext)×(List Ext)×Int×Bool)→ai×St:=fun e=>(.exit 2,⟨[(5,.ptr 5002 0 0 1),(6,.sl 6000 0 e.1.length),(7,.sl 6001 0 e.2.1.length),(12,sl ag t4),(13,I t5),(14,I t6),(20,sl ag t7),(21,I t8),(22,I e.2.2.1),(23,B e.2.2.2)],wo c c2 e.1 e.2.1⟩)
theorem PP {t4 t5 t6 t7 t8 c c2 s e} (h:Loop (iZ t4 t5 t6 t7 t8 c c2) s=some e):aD tab ow (.close [9002,10002,10004,10005,10006,10007,10011,10012,10013]) w4 (DR t4 t5 t6 t7 t8 c c2 s)=some (DA t4 t5 t6 t7 t8 c c2 e):=by
 refine lrG (fun s o h=> ?_) h
 obtain ⟨_,_,_⟩:=s
 simp only [iZ] at h
 simp+decide only [DR,DA,wo,w4,go_sem,reduceIte,Nat.reduceAdd]
 have d1:= @Lh
 have d2:= @eZ
 have d3:= @eX
 all_goals exact go
def iR (t:List Ext) (t2:Int):(List Ext)×Int→Option (((List Ext)×Int)⊕(((List Ext)×Int×Bool)))
 | (out,t3)=>
   br (decide (t3<t2)) (
   (atL t t3).bind fun x=>
   (Loop (iZ t t2 t3 out ((out.length:Nat):Int) x.A x.B) (([]:List Ext),([]:List Ext),0)).bind fun e_=>
   br (bc ((e_.1++e_.2.1).length) 16) (
   some (.inl ((e_.1++e_.2.1),(wrap .i64 (t3+1))))) none) (
   some (.inr (out,t3,decide (t3<t2))))
abbrev DT (t:List Ext) (t2:Int) (s:(List Ext)×Int):St:=⟨[(3,sl ag s.1),(12,sl ag t),(13,I t2),(14,I s.2)],[]⟩
abbrev CT (t:List Ext) (t2:Int):((List Ext)×Int×Bool)→ai×St:=fun e=>(.exit 0,⟨[(3,sl ag e.1),(12,sl ag t),(13,I t2),(14,I e.2.1),(15,B e.2.2)],[]⟩)
theorem Qg {t t2 s e} (h:Loop (iR t t2) s=some e):aD tab ow (.close [5002,6000,6001,9002,10002,10004,10005,10006,10007,10011,10012,10013,12002,2001]) vJ (DT t t2 s)=some (CT t t2 e):=by
 refine lrG (fun s o h=> ?_) h
 obtain ⟨_,_⟩:=s
 simp only [iR] at h
 simp+decide only [DT,CT,vJ,go_sem,reduceIte,Nat.reduceAdd]
 have d1:= @PP
 all_goals exact go
def rT (point:(List Ext)):Option ((List Ext)):=
 (Kh).bind fun r_=>
 (Loop (iR point ((point.length:Nat):Int)) (([r_]:List Ext),0)).bind fun e_2=>
 some e_2.1
theorem IZ {point r} (h:rT point=some r):Call tab ow 88 [sl ag point] []=some (sl ag r,[]):=by
 rw [ab (af:=uM) rfl]
 unfold rT at h
 simp+decide only [uM,Ju,go_sem,reduceIte,Nat.reduceAdd]
 have d1:= @Lh
 have d2:= @Qg
 all_goals exact go
end
def lL (kind:Int):Option (Int):=
 (ye kind 1 2).bind fun r_=>
 br (!r_) (
 some 0) (
 some (wrap .i64 (kind+1)))
theorem Gz {kind r} (h:lL kind=some r):Call tab ow 293 [I kind] []=some (I r,[]):=by
 rw [ab (af:=rC) rfl]
 unfold lL at h
 simp+decide only [rC,G2,go_sem,reduceIte,Nat.reduceAdd]
 have d1:= @B9
 all_goals exact go
def C3 (a b r_:Ext):Option (Ext):=
 (cY b a).bind fun r_2=>
 (bY r_ r_2).bind fun r_3=>
 (du a r_3).bind fun r_4=>
 some r_4
theorem WK {a b r_ r} (h:C3 a b r_=some r):Call tab ow 316 [.agg [I a.A,I a.B],.agg [I b.A,I b.B],.agg [I r_.A,I r_.B]] []=some (.agg [I r.A,I r.B],[]):=by
 rw [ab (af:=u9) rfl]
 unfold C3 at h
 simp+decide only [u9,J6,go_sem,reduceIte,Nat.reduceAdd]
 have d1:= @eZ
 have d2:= @eX
 have d3:= @eT
 all_goals exact go
section
theorem Nc:mkR 2000 []=rws ag []:=rfl
attribute [local go_sem] Nc
theorem O5:mkR 6012 []=rws ag []:=rfl
attribute [local go_sem] O5
def ey (table2:List Ext) (c c2:Int):(List Ext)×Int→Option (((List Ext)×Int)⊕(((List Ext)×Int×Bool)))
 | (l,i)=>
   br (decide (i<((table2.length:Nat):Int))) (
   (atL table2 i).bind fun x=>
   (atL table2 (wrap .i64 (i+1))).bind fun x2=>
   (C3 x x2 (Ext.mk c c2)).bind fun r_2=>
   br (bc ((l++([r_2]:List Ext)).length) 16) (
   some (.inl ((l++([r_2]:List Ext)),(wrap .i64 (i+2))))) none) (
   some (.inr (l,i,decide (i<((table2.length:Nat):Int)))))
abbrev qf (c c2:Int) (l:List Ext):List (Nat×Blk):=[(1000,⟨2,true,[[I c,I c2]]⟩),(2000,⟨2,false,rws ag l⟩)]
abbrev zO (table2:List Ext) (c c2:Int) (s:(List Ext)×Int):St:=⟨[(0,sl ag table2),(3,.ptr 1000 0 0 1),(5,.sl 2000 0 s.1.length),(6,I s.2)],qf c c2 s.1⟩
abbrev A4 (table2:List Ext) (c c2:Int):((List Ext)×Int×Bool)→ai×St:=fun e=>(.exit 0,⟨[(0,sl ag table2),(3,.ptr 1000 0 0 1),(5,.sl 2000 0 e.1.length),(6,I e.2.1),(11,B e.2.2)],qf c c2 e.1⟩)
theorem Kx {table2 c c2 s e} (h:Loop (ey table2 c c2) s=some e):aD tab ow (.close [6011,6012,6013]) pP (zO table2 c c2 s)=some (A4 table2 c c2 e):=by
 refine lrG (fun s o h=> ?_) h
 obtain ⟨_,_⟩:=s
 simp only [ey] at h
 simp+decide only [zO,A4,qf,pP,go_sem,reduceIte,Nat.reduceAdd]
 have d1:= @WK
 all_goals exact go
def pw (table:(List Ext)) (r_:Ext):Option ((List Ext)):=
 (Loop (ey table r_.A r_.B) (([]:List Ext),0)).bind fun e_=>
 some e_.1
theorem Pm {table r_ r} (h:pw table r_=some r):Call tab ow 337 [sl ag table,.agg [I r_.A,I r_.B]] []=some (sl ag r,[]):=by
 rw [ab (af:=p6) rfl]
 unfold pw at h
 simp+decide only [p6,D2,go_sem,reduceIte,Nat.reduceAdd]
 have d1:= @Kx
 all_goals exact go
end
section
theorem YP:mkR 2000 []=rws (eL ag) []:=rfl
attribute [local go_sem] YP
theorem Z4:mkR 6004 []=rws (eL ag) []:=rfl
attribute [local go_sem] Z4
def jt (t:List (List Ext)) (t2 c c2:Int):(List (List Ext))×Int→Option (((List (List Ext))×Int)⊕(((List (List Ext))×Int×Bool)))
 | (l,t3)=>
   br (decide (t3<t2)) (
   (atL t t3).bind fun x=>
   (pw x (Ext.mk c c2)).bind fun r_2=>
   br (bc ((l++([r_2]:List (List Ext))).length) 24) (
   some (.inl ((l++([r_2]:List (List Ext))),(wrap .i64 (t3+1))))) none) (
   some (.inr (l,t3,decide (t3<t2))))
abbrev Ad (c c2:Int) (l:List (List Ext)):List (Nat×Blk):=[(1000,⟨2,true,[[I c,I c2]]⟩),(2000,⟨1,false,rws (eL ag) l⟩)]
abbrev JT (t:List (List Ext)) (t2 c c2:Int) (s:(List (List Ext))×Int):St:=⟨[(3,.ptr 1000 0 0 1),(5,.sl 2000 0 s.1.length),(9,sl (eL ag) t),(10,I t2),(11,I s.2)],Ad c c2 s.1⟩
abbrev Jc (t:List (List Ext)) (t2 c c2:Int):((List (List Ext))×Int×Bool)→ai×St:=fun e=>(.exit 0,⟨[(3,.ptr 1000 0 0 1),(5,.sl 2000 0 e.1.length),(9,sl (eL ag) t),(10,I t2),(11,I e.2.1),(12,B e.2.2)],Ad c c2 e.1⟩)
theorem Y2 {t t2 c c2 s e} (h:Loop (jt t t2 c c2) s=some e):aD tab ow (.close [6003,6004,6005]) Bk (JT t t2 c c2 s)=some (Jc t t2 c c2 e):=by
 refine lrG (fun s o h=> ?_) h
 obtain ⟨_,_⟩:=s
 simp only [jt] at h
 simp+decide only [JT,Jc,Ad,Bk,go_sem,reduceIte,Nat.reduceAdd]
 have d1:= @Pm
 all_goals exact go
def Ce (tables:(List (List Ext))) (r_:Ext):Option ((List (List Ext))):=
 (Loop (jt tables ((tables.length:Nat):Int) r_.A r_.B) (([]:List (List Ext)),0)).bind fun e_=>
 some e_.1
theorem Rv {tables r_ r} (h:Ce tables r_=some r):Call tab ow 283 [sl (eL ag) tables,.agg [I r_.A,I r_.B]] []=some (sl (eL ag) r,[]):=by
 rw [ab (af:=Ca) rfl]
 unfold Ce at h
 simp+decide only [Ca,RC,go_sem,reduceIte,Nat.reduceAdd]
 have d1:= @Y2
 all_goals exact go
end
def wS (kind:Int) (v:(List Ext)):Option (Ext):=
 br (kind==1) (
 (atL v 0).bind fun x=>
 (atL v 1).bind fun x2=>
 (bY x x2).bind fun r_=>
 some r_) (
 (atL v 0).bind fun x3=>
 (atL v 1).bind fun x4=>
 (atL v 2).bind fun x5=>
 (bY x4 x5).bind fun r_2=>
 (atL v 3).bind fun x6=>
 (cY r_2 x6).bind fun r_3=>
 (bY x3 r_3).bind fun r_4=>
 some r_4)
theorem XE {kind v r} (h:wS kind v=some r):Call tab ow 314 [I kind,sl ag v] []=some (.agg [I r.A,I r.B],[]):=by
 rw [ab (af:=vb) rfl]
 unfold wS at h
 simp+decide only [vb,JS,go_sem,reduceIte,Nat.reduceAdd]
 have d1:= @eX
 have d2:= @eZ
 all_goals exact go
section
theorem Za:mkR 6000 []=rws ag []:=rfl
attribute [local go_sem] Za
theorem YO:mkR 10005 []=rws ag []:=rfl
attribute [local go_sem] YO
def ju (kind3:Int) (tables3:List (List Ext)) (i t3 t4:Int) (t5:List (List Ext)) (t6 c5 c6 c7 c8:Int):(List Ext)×Int→Option (((List Ext)×Int)⊕(((List Ext)×Int×Bool)))
 | (l,t7)=>
   br (decide (t7<t6)) (
   (atL t5 t7).bind fun x2=>
   (atL x2 i).bind fun x3=>
   br (bc ((l++([x3]:List Ext)).length) 16) (
   some (.inl ((l++([x3]:List Ext)),(wrap .i64 (t7+1))))) none) (
   some (.inr (l,t7,decide (t7<t6))))
abbrev Br (c5 c6 c7 c8:Int) (l:List Ext):List (Nat×Blk):=[(1000,⟨2,true,[[I c5,I c6]]⟩),(2001,⟨2,true,[[I c7,I c8]]⟩),(6000,⟨2,false,rws ag l⟩)]
abbrev JP (kind3:Int) (tables3:List (List Ext)) (i t3 t4:Int) (t5:List (List Ext)) (t6 c5 c6 c7 c8:Int) (s:(List Ext)×Int):St:=⟨[(0,I kind3),(1,sl (eL ag) tables3),(4,.ptr 1000 0 0 1),(5,.ptr 2001 0 0 1),(6,I i),(7,.sl 6000 0 s.1.length),(14,I t3),(15,I t4),(19,sl (eL ag) t5),(20,I t6),(21,I s.2)],Br c5 c6 c7 c8 s.1⟩
abbrev JF (kind3:Int) (tables3:List (List Ext)) (i t3 t4:Int) (t5:List (List Ext)) (t6 c5 c6 c7 c8:Int):((List Ext)×Int×Bool)→ai×St:=fun e=>(.exit 2,⟨[(0,I kind3),(1,sl (eL ag) tables3),(4,.ptr 1000 0 0 1),(5,.ptr 2001 0 0 1),(6,I i),(7,.sl 6000 0 e.1.length),(14,I t3),(15,I t4),(19,sl (eL ag) t5),(20,I t6),(21,I e.2.1),(22,B e.2.2)],Br c5 c6 c7 c8 e.1⟩)
theorem WC {kind3 tables3 i t3 t4 t5 t6 c5 c6 c7 c8 s e} (h:Loop (ju kind3 tables3 i t3 t4 t5 t6 c5 c6 c7 c8) s=some e):aD tab ow (.close [10005,10006]) BI (JP kind3 tables3 i t3 t4 t5 t6 c5 c6 c7 c8 s)=some (JF kind3 tables3 i t3 t4 t5 t6 c5 c6 c7 c8 e):=by
 refine lrG (fun s o h=> ?_) h
 obtain ⟨_,_⟩:=s
 simp only [ju] at h
 simp+decide only [JP,JF,Br,BI,go_sem,reduceIte,Nat.reduceAdd]
 all_goals exact go
def jD (kind2:Int) (tables2:List (List Ext)) (t c c2:Int):Int×Int×Int→Option ((Int×Int×Int)⊕((Int×Bool×Int×Int)))
 | (t2,c3,c4)=>
   br (decide (t2<t)) (
   (Loop (ju kind2 tables2 t2 t t2 tables2 ((tables2.length:Nat):Int) c c2 c3 c4) (([]:List Ext),0)).bind fun e_=>
   (wS kind2 e_.1).bind fun r_=>
   (du (Ext.mk c3 c4) r_).bind fun r_2=>
   some (.inl ((wrap .i64 (t2+1)),r_2.A,r_2.B))) (
   some (.inr (t2,decide (t2<t),c3,c4)))
abbrev BC (c c2 c3 c4:Int):List (Nat×Blk):=[(1000,⟨2,true,[[I c,I c2]]⟩),(2001,⟨2,true,[[I c3,I c4]]⟩)]
abbrev IX (kind2:Int) (tables2:List (List Ext)) (t c c2:Int) (s:Int×Int×Int):St:=⟨[(0,I kind2),(1,sl (eL ag) tables2),(4,.ptr 1000 0 0 1),(5,.ptr 2001 0 0 1),(14,I t),(15,I s.1)],BC c c2 s.2.1 s.2.2⟩
abbrev Kk (kind2:Int) (tables2:List (List Ext)) (t c c2:Int):(Int×Bool×Int×Int)→ai×St:=fun e=>(.exit 0,⟨[(0,I kind2),(1,sl (eL ag) tables2),(4,.ptr 1000 0 0 1),(5,.ptr 2001 0 0 1),(14,I t),(15,I e.1),(16,B e.2.1)],BC c c2 e.2.2.1 e.2.2.2⟩)
theorem Vk {kind2 tables2 t c c2 s e} (h:Loop (jD kind2 tables2 t c c2) s=some e):aD tab ow (.close [6000,10005,10006,12003,12004]) Ba (IX kind2 tables2 t c c2 s)=some (Kk kind2 tables2 t c c2 e):=by
 refine lrG (fun s o h=> ?_) h
 obtain ⟨_,_,_⟩:=s
 simp only [jD] at h
 simp+decide only [IX,Kk,BC,Ba,go_sem,reduceIte,Nat.reduceAdd]
 have d1:= @WC
 have d2:= @XE
 have d3:= @eT
 all_goals exact go
def GJ (kind:Int) (tables:(List (List Ext))):Option (Ext):=
 (atL tables 0).bind fun x=>
 (Loop (jD kind tables ((x.length:Nat):Int) 0 0) (0,0,0)).bind fun e_2=>
 some (Ext.mk e_2.2.2.1 e_2.2.2.2)
theorem a3v {kind tables r} (h:GJ kind tables=some r):Call tab ow 335 [I kind,sl (eL ag) tables] []=some (.agg [I r.A,I r.B],[]):=by
 rw [ab (af:=C6) rfl]
 unfold GJ at h
 simp+decide only [C6,Rf,go_sem,reduceIte,Nat.reduceAdd]
 have d1:= @Vk
 all_goals exact go
end
section
theorem Tt:mkR 2000 []=rws ag []:=rfl
attribute [local go_sem] Tt
theorem UJ:mkR 6007 []=rws ag []:=rfl
attribute [local go_sem] UJ
def gn (kind2:Int) (tables2:List (List Ext)) (t:Int):(List Ext)×Int→Option (((List Ext)×Int)⊕(((List Ext)×Int×Bool)))
 | (l,t2)=>
   br (decide (t2<t)) (
   (Ce tables2 (Ext.mk t2 0)).bind fun r_2=>
   (GJ kind2 r_2).bind fun r_3=>
   br (bc ((l++([r_3]:List Ext)).length) 16) (
   some (.inl ((l++([r_3]:List Ext)),(wrap .i64 (t2+1))))) none) (
   some (.inr (l,t2,decide (t2<t))))
abbrev DO (kind2:Int) (tables2:List (List Ext)) (t:Int) (s:(List Ext)×Int):St:=⟨[(0,I kind2),(1,sl (eL ag) tables2),(5,.sl 2000 0 s.1.length),(10,I t),(11,I s.2)],[(2000,⟨2,false,rws ag s.1⟩)]⟩
abbrev DP (kind2:Int) (tables2:List (List Ext)) (t:Int):((List Ext)×Int×Bool)→ai×St:=fun e=>(.exit 0,⟨[(0,I kind2),(1,sl (eL ag) tables2),(5,.sl 2000 0 e.1.length),(10,I t),(11,I e.2.1),(12,B e.2.2)],[(2000,⟨2,false,rws ag e.1⟩)]⟩)
theorem Qa {kind2 tables2 t s e} (h:Loop (gn kind2 tables2 t) s=some e):aD tab ow (.close [6005,6006,6007,6008]) vO (DO kind2 tables2 t s)=some (DP kind2 tables2 t e):=by
 refine lrG (fun s o h=> ?_) h
 obtain ⟨_,_⟩:=s
 simp only [gn] at h
 simp+decide only [DO,DP,vO,go_sem,reduceIte,Nat.reduceAdd]
 have d1:= @Rv
 have d2:= @a3v
 all_goals exact go
def nH (kind:Int) (tables:(List (List Ext))):Option ((List Ext)):=
 (lL kind).bind fun r_=>
 (Loop (gn kind tables (wrap .i64 (r_+1))) (([]:List Ext),0)).bind fun e_=>
 some e_.1
theorem WD {kind tables r} (h:nH kind tables=some r):Call tab ow 281 [I kind,sl (eL ag) tables] []=some (sl ag r,[]):=by
 rw [ab (af:=uK) rfl]
 unfold nH at h
 simp+decide only [uK,Kn,go_sem,reduceIte,Nat.reduceAdd]
 have d1:= @Gz
 have d2:= @Qa
 all_goals exact go
end
section
theorem a2O:mkR 2012 []=rws eU8 []:=rfl
attribute [local go_sem] a2O
def y6 (n:Int):Option ((List UInt8)):=
 br (bc (([(UInt8.ofInt (aM .i64 n 24)),(UInt8.ofInt (aM .i64 n 16)),(UInt8.ofInt (aM .i64 n 8)),(UInt8.ofInt n)]:List UInt8).length) 1) (
 some ([(UInt8.ofInt (aM .i64 n 24)),(UInt8.ofInt (aM .i64 n 16)),(UInt8.ofInt (aM .i64 n 8)),(UInt8.ofInt n)]:List UInt8)) none
theorem Af {n r} (h:y6 n=some r):Call tab ow 169 [.lit (.slice none 0 0),I n] []=some (sl eU8 r,[]):=by
 rw [ab (af:=wF) rfl]
 unfold y6 at h
 simp+decide only [wF,OU,go_sem,reduceIte,Nat.reduceAdd]
 all_goals exact go
end
section
theorem Eh:mkR 1007 []=rws eU8 []:=rfl
attribute [local go_sem] Eh
theorem E4:mkR 1013 []=rws (eL eU8) []:=rfl
attribute [local go_sem] E4
def cS (t:(List UInt8)) (m:Source):Option (Source):=
 br (bc m.State.length 1) (
 (y6 ((t.length:Nat):Int)).bind fun r_=>
 (mK ([m.State,([(97:UInt8),(98:UInt8),(115:UInt8),(111:UInt8),(114:UInt8),(98:UInt8)]:List UInt8),r_,t]:List (List UInt8))).bind fun r_2=>
 some (Source.mk m.Script m.At r_2 0)) none
theorem gb {t m r} (h:cS t m=some r):Call tab ow 166 [.ptr 0 0 0 1,sl eU8 t] [⟨4,true,[[sl ag m.Script,I m.At,S m.State,I m.Count]]⟩]=some (.tup [],[⟨4,true,[[sl ag r.Script,I r.At,S r.State,I r.Count]]⟩]):=by
 rw [ab (af:=j9) rfl]
 unfold cS at h
 simp+decide only [j9,uS,go_sem,reduceIte,Nat.reduceAdd]
 have d1:= @Af
 have d2:= @sY
 all_goals exact go
end
def cj (list:(List Ext)) (m:Source):Option (Source):=
 (lG list).bind fun r_=>
 (cS r_ m).bind fun r_2=>
 some r_2
theorem fI {list m r} (h:cj list m=some r):Call tab ow 167 [.ptr 0 0 0 1,sl ag list] [⟨4,true,[[sl ag m.Script,I m.At,S m.State,I m.Count]]⟩]=some (.tup [],[⟨4,true,[[sl ag r.Script,I r.At,S r.State,I r.Count]]⟩]):=by
 rw [ab (af:=fK) rfl]
 unfold cj at h
 simp+decide only [fK,nw,go_sem,reduceIte,Nat.reduceAdd]
 have d1:= @yY
 have d2:= @gb
 all_goals exact go
def i9 (t:List UInt8) (t2:Int):Int×Int→Option ((Int×Int)⊕((Int×Int×Bool)))
 | (n,t3)=>
   br (decide (t3<t2)) (
   (atL t t3).bind fun x=>
   some (.inl ((vX .u64 (bX .u64 n 8) (wrap .u64 (x.toNat:Int))),(wrap .i64 (t3+1))))) (
   some (.inr (n,t3,decide (t3<t2))))
abbrev GD (t:List UInt8) (t2:Int) (s:Int×Int):St:=⟨[(3,.lit (.int .u64 s.1)),(6,sl eU8 t),(7,I t2),(8,I s.2)],[]⟩
abbrev GG (t:List UInt8) (t2:Int):(Int×Int×Bool)→ai×St:=fun e=>(.exit 0,⟨[(3,.lit (.int .u64 e.1)),(6,sl eU8 t),(7,I t2),(8,I e.2.1),(9,B e.2.2)],[]⟩)
theorem Sa {t t2 s e} (h:Loop (i9 t t2) s=some e):aD tab ow (.close []) yx (GD t t2 s)=some (GG t t2 e):=by
 refine lrG (fun s o h=> ?_) h
 obtain ⟨_,_⟩:=s
 simp only [i9] at h
 simp+decide only [GD,GG,yx,go_sem,reduceIte,Nat.reduceAdd]
 all_goals exact go
def wI (b:(List UInt8)):Option (Int):=
 (Loop (i9 b ((b.length:Nat):Int)) (0,0)).bind fun e_=>
 some (wrap .i64 (e_.1.tmod 2130706433))
theorem ZM {b r} (h:wI b=some r):Call tab ow 336 [sl eU8 b] []=some (I r,[]):=by
 rw [ab (af:=yT) rfl]
 unfold wI at h
 simp+decide only [yT,MG,go_sem,reduceIte,Nat.reduceAdd]
 have d1:= @Sa
 all_goals exact go
section
theorem ID:mkR 5005 []=rws eU8 []:=rfl
attribute [local go_sem] ID
theorem IC:mkR 5012 []=rws (eL eU8) []:=rfl
attribute [local go_sem] IC
def f4 (m:Source):Option (Ext×Source):=
 br (decide (((m.Script.length:Nat):Int)>0)) (
 br (decide (((m.Script.length:Nat):Int)≠0)) (
 (atL m.Script ((wrap .i64 ((wrap .i64 (m.At+1))-1)).tmod ((m.Script.length:Nat):Int))).bind fun x=>
 some (x,(Source.mk m.Script (wrap .i64 (m.At+1)) m.State m.Count))) none) (
 br (bc m.State.length 1) (
 (y6 m.Count).bind fun r_=>
 (mK ([m.State,([(100:UInt8),(114:UInt8),(97:UInt8),(119:UInt8)]:List UInt8),r_]:List (List UInt8))).bind fun r_2=>
 br (bc r_2.length 1) (
 (rL r_2 0 8).bind fun y=>
 (wI y).bind fun r_3=>
 (rL r_2 8 16).bind fun y2=>
 (wI y2).bind fun r_4=>
 some ((Ext.mk r_3 r_4),(Source.mk m.Script m.At m.State (wrap .i64 (m.Count+1))))) none) none)
theorem q8 {m r} (h:f4 m=some r):Call tab ow 282 [.ptr 0 0 0 1] [⟨4,true,[[sl ag m.Script,I m.At,S m.State,I m.Count]]⟩]=some (.agg [I r.1.A,I r.1.B],[⟨4,true,[[sl ag r.2.Script,I r.2.At,S r.2.State,I r.2.Count]]⟩]):=by
 rw [ab (af:=lz) rfl]
 unfold f4 at h
 simp+decide only [lz,zt,go_sem,reduceIte,Nat.reduceAdd]
 have d1:= @Af
 have d2:= @sY
 have d3:= @ZM
 all_goals exact go
end
def nG (a:Int):Option (Int):=
 (OF a 2130706431).bind fun r_=>
 some r_
theorem Kc {a r} (h:nG a=some r):Call tab ow 338 [I a] []=some (I r,[]):=by
 rw [ab (af:=uv) rfl]
 unfold nG at h
 simp+decide only [uv,Kl,go_sem,reduceIte,Nat.reduceAdd]
 have d1:= @UM
 all_goals exact go
def iB (n i:Int) (a b r_:Ext):Option (Ext):=
 (nG 2).bind fun r_2=>
 (BR n).bind fun r_3=>
 (HV r_3).bind fun r_4=>
 (OF r_4 i).bind fun r_5=>
 (du a b).bind fun r_6=>
 (g8 r_6 r_2).bind fun r_7=>
 (cY a b).bind fun r_8=>
 (bY r_ r_8).bind fun r_9=>
 (nG r_5).bind fun r_10=>
 (nv r_2 r_10).bind fun r_11=>
 (g8 r_9 r_11).bind fun r_12=>
 (du r_7 r_12).bind fun r_13=>
 some r_13
theorem GM {n i a b r_ r} (h:iB n i a b r_=some r):Call tab ow 284 [I n,I i,.agg [I a.A,I a.B],.agg [I b.A,I b.B],.agg [I r_.A,I r_.B]] []=some (.agg [I r.A,I r.B],[]):=by
 rw [ab (af:=rE) rfl]
 unfold iB at h
 simp+decide only [rE,F3,go_sem,reduceIte,Nat.reduceAdd]
 have d1:= @Kc
 have d2:= @HD
 have d3:= @Vi
 have d4:= @UM
 have d5:= @eT
 have d6:= @tO
 have d7:= @eZ
 have d8:= @eX
 have d9:= @Cg
 all_goals exact go
section
theorem Q0:mkR 2000 []=rws ag []:=rfl
attribute [local go_sem] Q0
theorem PJ:mkR 6016 []=rws ag []:=rfl
attribute [local go_sem] PJ
def fH (word2:List Ext) (half t c c2:Int):(List Ext)×Int→Option (((List Ext)×Int)⊕(((List Ext)×Int×Bool)))
 | (l,t2)=>
   br (decide (t2<t)) (
   (atL word2 t2).bind fun x=>
   (atL word2 (wrap .i64 (t2+half))).bind fun x2=>
   (iB ((word2.length:Nat):Int) t2 x x2 (Ext.mk c c2)).bind fun r_2=>
   br (bc ((l++([r_2]:List Ext)).length) 16) (
   some (.inl ((l++([r_2]:List Ext)),(wrap .i64 (t2+1))))) none) (
   some (.inr (l,t2,decide (t2<t))))
abbrev tL (c c2:Int) (l:List Ext):List (Nat×Blk):=[(1000,⟨2,true,[[I c,I c2]]⟩),(2000,⟨2,false,rws ag l⟩)]
abbrev AP (word2:List Ext) (half t c c2:Int) (s:(List Ext)×Int):St:=⟨[(0,sl ag word2),(3,.ptr 1000 0 0 1),(5,.sl 2000 0 s.1.length),(6,I half),(12,I t),(13,I s.2)],tL c c2 s.1⟩
abbrev AA (word2:List Ext) (half t c c2:Int):((List Ext)×Int×Bool)→ai×St:=fun e=>(.exit 0,⟨[(0,sl ag word2),(3,.ptr 1000 0 0 1),(5,.sl 2000 0 e.1.length),(6,I half),(12,I t),(13,I e.2.1),(14,B e.2.2)],tL c c2 e.1⟩)
theorem Om {word2 half t c c2 s e} (h:Loop (fH word2 half t c c2) s=some e):aD tab ow (.close [6015,6016,6017]) tF (AP word2 half t c c2 s)=some (AA word2 half t c c2 e):=by
 refine lrG (fun s o h=> ?_) h
 obtain ⟨_,_⟩:=s
 simp only [fH] at h
 simp+decide only [AP,AA,tL,tF,go_sem,reduceIte,Nat.reduceAdd]
 have d1:= @GM
 all_goals exact go
def tM (word:(List Ext)) (r_:Ext):Option ((List Ext)):=
 (Loop (fH word (wrap .i64 (((word.length:Nat):Int).tdiv 2)) (wrap .i64 (((word.length:Nat):Int).tdiv 2)) r_.A r_.B) (([]:List Ext),0)).bind fun e_=>
 some e_.1
theorem RX {word r_ r} (h:tM word r_=some r):Call tab ow 165 [sl ag word,.agg [I r_.A,I r_.B]] []=some (sl ag r,[]):=by
 rw [ab (af:=qP) rfl]
 unfold tM at h
 simp+decide only [qP,GB,go_sem,reduceIte,Nat.reduceAdd]
 have d1:= @Om
 all_goals exact go
end
section
theorem A7:mkR 4003 []=rws dt []:=rfl
attribute [local go_sem] A7
theorem A8:mkR 6003 []=rws eS []:=rfl
attribute [local go_sem] A8
def fB (r_:Ext) (m m2 m3 m4:Int) (l:List aG) (l2:List (List UInt8)) (m5:Source):Option (Int×Int×Int×Int×(List aG)×(List (List UInt8))×Source):=
 br (decide (0≤(wrap .i64 (((l.length:Nat):Int)-1)))) (
 br (decide ((wrap .i64 (((l.length:Nat):Int)-1)).toNat<l.length)) (
 (l[(wrap .i64 (((l.length:Nat):Int)-1)).toNat]?).bind fun x=>
 (tM x.word r_).bind fun r_2=>
 br (((l.length:Nat):Int)==m) (
 some (m,m2,m3,m4,l,l2,m5)) (
 (sO r_2).bind fun r_3=>
 br (bc ((l++([r_3]:List aG)).length) 48) (
 br (decide (0≤(wrap .i64 ((((l++([r_3]:List aG)).length:Nat):Int)-1)))) (
 br (decide ((wrap .i64 ((((l++([r_3]:List aG)).length:Nat):Int)-1)).toNat<(l++([r_3]:List aG)).length)) (
 ((l++([r_3]:List aG))[(wrap .i64 ((((l++([r_3]:List aG)).length:Nat):Int)-1)).toNat]?).bind fun x2=>
 (tn x2.rows).bind fun r_4=>
 br (bc ((l2++([r_4]:List (List UInt8))).length) 16) (
 br (bc r_4.length 1) (
 (cS r_4 m5).bind fun r_5=>
 some (m,m2,m3,m4,(l++([r_3]:List aG)),(l2++([r_4]:List (List UInt8))),r_5)) none) none) none) none) none)) none) none
theorem Bd {r_ m m2 m3 m4 l l2 m5 r} (h:fB r_ m m2 m3 m4 l l2 m5=some r):Call tab ow 164 [.agg [I r_.A,I r_.B],.ptr 0 0 0 1,.ptr 1 0 0 1,.ptr 2 0 0 1,.ptr 3 0 0 1] [⟨1,true,[[.sl 4 0 l.length]]⟩,⟨1,true,[[I m]]⟩,⟨6,true,[[.lit (.slice none 0 0),.sl 5 0 l2.length,I m2,I m3,I m4,.lit (.slice none 0 0)]]⟩,⟨1,true,[[.ptr 6 0 0 1]]⟩,⟨2,false,rws dt l⟩,⟨1,false,rws eS l2⟩,⟨4,true,[[sl ag m5.Script,I m5.At,S m5.State,I m5.Count]]⟩]=some (.tup [],[⟨1,true,[[.sl 4 0 r.2.2.2.2.1.length]]⟩,⟨1,true,[[I r.1]]⟩,⟨6,true,[[.lit (.slice none 0 0),.sl 5 0 r.2.2.2.2.2.1.length,I r.2.1,I r.2.2.1,I r.2.2.2.1,.lit (.slice none 0 0)]]⟩,⟨1,true,[[.ptr 6 0 0 1]]⟩,⟨2,false,rws dt r.2.2.2.2.1⟩,⟨1,false,rws eS r.2.2.2.2.2.1⟩,⟨4,true,[[sl ag r.2.2.2.2.2.2.Script,I r.2.2.2.2.2.2.At,S r.2.2.2.2.2.2.State,I r.2.2.2.2.2.2.Count]]⟩]):=by
 rw [ab (af:=jl) rfl]
 unfold fB at h
 simp+decide only [jl,u5,go_sem,reduceIte,Nat.reduceAdd]
 have d1:= @RX
 have d2:= @Eu
 have d3:= @M0
 have d4:= @gb
 all_goals exact go
end
end
end Go.AI.Fn
set_option linter.unusedVariables false
set_option linter.unusedSimpArgs false
set_option maxRecDepth 100000
set_option maxHeartbeats 1000000
namespace Go.AI.Fn
noncomputable section
open IntKind (wrap)
section
theorem lJ:mkR 2000 []=rws (eL ag) []:=rfl
attribute [local go_sem] lJ
theorem lX:mkR 2001 []=rws ag []:=rfl
attribute [local go_sem] lX
theorem lK:mkR 2002 []=rws ag []:=rfl
attribute [local go_sem] lK
theorem mb:mkR 8002 []=rws (eL ag) []:=rfl
attribute [local go_sem] mb
theorem lN:mkR 8006 []=rws ag []:=rfl
attribute [local go_sem] lN
theorem lQ:mkR 13004 []=rws ag []:=rfl
attribute [local go_sem] lQ
def aO (l5:List Ext) (kind2:Int):(List aG)×(List (List Ext))×(List Ext)×(List (List UInt8))×(List (List Ext))×(List Ext)×Int×(List UInt8)×Int×Int×Int×Int×Int→Option (((List aG)×(List (List Ext))×(List Ext)×(List (List UInt8))×(List (List Ext))×(List Ext)×Int×(List UInt8)×Int×Int×Int×Int×Int)⊕(((List aG)×(List (List Ext))×(List Ext)×(List (List UInt8))×(List (List Ext))×Bool×(List Ext)×Int×(List UInt8)×Int×Int×Int×Int×Int)))
 | (l2,l3,l4,l6,tables2,c,c2,c3,c4,c5,c6,c7,c8)=>
   (atL tables2 0).bind fun x=>
   br (decide (((x.length:Nat):Int)>1)) (
   (nH kind2 tables2).bind fun r_=>
   (cj r_ (Source.mk c c2 c3 c4)).bind fun r_2=>
   (f4 r_2).bind fun r_3=>
   (Ce tables2 r_3.1).bind fun r_4=>
   br (bc ((l3++([r_]:List (List Ext))).length) 24) (
   br (bc ((l4++([r_3.1]:List Ext)).length) 16) (
   (fB r_3.1 c5 c6 c7 c8 l2 l6 r_3.2).bind fun r_5=>
   some (.inl (r_5.2.2.2.2.1,(l3++([r_]:List (List Ext))),(l4++([r_3.1]:List Ext)),r_5.2.2.2.2.2.1,r_4,r_5.2.2.2.2.2.2.Script,r_5.2.2.2.2.2.2.At,r_5.2.2.2.2.2.2.State,r_5.2.2.2.2.2.2.Count,r_5.1,r_5.2.1,r_5.2.2.1,r_5.2.2.2.1))) none) none) (
   some (.inr (l2,l3,l4,l6,tables2,decide (((x.length:Nat):Int)>1),c,c2,c3,c4,c5,c6,c7,c8)))
abbrev cQ (l5:List Ext) (l2:List aG) (l3:List (List Ext)) (l4:List Ext) (l6:List (List UInt8)) (c:List Ext) (c2:Int) (c3:List UInt8) (c4 c5 c6 c7 c8:Int):List (Nat×Blk):=[(0,⟨4,true,[[sl ag c,I c2,S c3,I c4]]⟩),(1,⟨1,true,[[.sl 5 0 l2.length]]⟩),(2,⟨1,true,[[I c5]]⟩),(3,⟨6,true,[[.lit (.slice none 0 0),.sl 3900 0 l6.length,I c6,I c7,I c8,.lit (.slice none 0 0)]]⟩),(4,⟨1,true,[[.ptr 0 0 0 1]]⟩),(5,⟨2,false,rws dt l2⟩),(2000,⟨1,false,rws (eL ag) l3⟩),(2001,⟨2,false,rws ag l4⟩),(2002,⟨2,false,rws ag l5⟩),(3900,⟨1,false,rws eS l6⟩)]
abbrev eY (l5:List Ext) (kind2:Int) (s:(List aG)×(List (List Ext))×(List Ext)×(List (List UInt8))×(List (List Ext))×(List Ext)×Int×(List UInt8)×Int×Int×Int×Int×Int):St:=⟨[(0,.ptr 0 0 0 1),(1,I kind2),(2,sl (eL ag) s.2.2.2.2.1),(3,.fn 164 [.ptr 1 0 0 1,.ptr 2 0 0 1,.ptr 3 0 0 1,.ptr 4 0 0 1]),(11,.sl 2000 0 s.2.1.length),(12,.sl 2001 0 s.2.2.1.length),(13,.sl 2002 0 l5.length)],cQ l5 s.1 s.2.1 s.2.2.1 s.2.2.2.1 s.2.2.2.2.2.1 s.2.2.2.2.2.2.1 s.2.2.2.2.2.2.2.1 s.2.2.2.2.2.2.2.2.1 s.2.2.2.2.2.2.2.2.2.1 s.2.2.2.2.2.2.2.2.2.2.1 s.2.2.2.2.2.2.2.2.2.2.2.1 s.2.2.2.2.2.2.2.2.2.2.2.2⟩
abbrev f6 (l5:List Ext) (kind2:Int):((List aG)×(List (List Ext))×(List Ext)×(List (List UInt8))×(List (List Ext))×Bool×(List Ext)×Int×(List UInt8)×Int×Int×Int×Int×Int)→ai×St:=fun e=>(.exit 0,⟨[(0,.ptr 0 0 0 1),(1,I kind2),(2,sl (eL ag) e.2.2.2.2.1),(3,.fn 164 [.ptr 1 0 0 1,.ptr 2 0 0 1,.ptr 3 0 0 1,.ptr 4 0 0 1]),(11,.sl 2000 0 e.2.1.length),(12,.sl 2001 0 e.2.2.1.length),(13,.sl 2002 0 l5.length),(25,B e.2.2.2.2.2.1)],cQ l5 e.1 e.2.1 e.2.2.1 e.2.2.2.1 e.2.2.2.2.2.2.1 e.2.2.2.2.2.2.2.1 e.2.2.2.2.2.2.2.2.1 e.2.2.2.2.2.2.2.2.2.1 e.2.2.2.2.2.2.2.2.2.2.1 e.2.2.2.2.2.2.2.2.2.2.2.1 e.2.2.2.2.2.2.2.2.2.2.2.2.1 e.2.2.2.2.2.2.2.2.2.2.2.2.2⟩)
theorem kQ {l5 kind2 s e} (h:Loop (aO l5 kind2) s=some e):aD tab ow (.both (.close [4002,5002,6001,6002,7002,8002,8003,8006,8007,9002]) (.nilCell 3 1 3900 1)) j2 (eY l5 kind2 s)=some (f6 l5 kind2 e):=by
 refine lrG (fun s o h=> ?_) h
 obtain ⟨_,_,_,_,_,_,_,_,_,_,_,_,_⟩:=s
 simp only [aO] at h
 simp+decide only [eY,f6,cQ,j2,go_sem,reduceIte,Nat.reduceAdd]
 have d1:= @WD
 have d2:= @fI
 have d3:= @q8
 have d4:= @Rv
 have d5:= @Bd
 all_goals exact go
def bf (l7:List aG) (l8:List (List Ext)) (l9:List Ext) (l11:List (List UInt8)) (t:List (List Ext)) (t2:Int) (c9:List Ext) (c10:Int) (c11:List UInt8) (c12 c13 c14 c15 c16:Int):(List Ext)×Int→Option (((List Ext)×Int)⊕(((List Ext)×Int×Bool)))
 | (l10,t3)=>
   br (decide (t3<t2)) (
   (atL t t3).bind fun x2=>
   (atL x2 0).bind fun x3=>
   br (bc ((l10++([x3]:List Ext)).length) 16) (
   some (.inl ((l10++([x3]:List Ext)),(wrap .i64 (t3+1))))) none) (
   some (.inr (l10,t3,decide (t3<t2))))
abbrev cP (l7:List aG) (l8:List (List Ext)) (l9:List Ext) (l11:List (List UInt8)) (c9:List Ext) (c10:Int) (c11:List UInt8) (c12 c13 c14 c15 c16:Int) (l10:List Ext):List (Nat×Blk):=[(0,⟨4,true,[[sl ag c9,I c10,S c11,I c12]]⟩),(1,⟨1,true,[[.sl 5 0 l7.length]]⟩),(2,⟨1,true,[[I c13]]⟩),(3,⟨6,true,[[.lit (.slice none 0 0),.sl 3900 0 l11.length,I c14,I c15,I c16,.lit (.slice none 0 0)]]⟩),(4,⟨1,true,[[.ptr 0 0 0 1]]⟩),(5,⟨2,false,rws dt l7⟩),(2000,⟨1,false,rws (eL ag) l8⟩),(2001,⟨2,false,rws ag l9⟩),(2002,⟨2,false,rws ag l10⟩),(3900,⟨1,false,rws eS l11⟩)]
abbrev eV (l7:List aG) (l8:List (List Ext)) (l9:List Ext) (l11:List (List UInt8)) (t:List (List Ext)) (t2:Int) (c9:List Ext) (c10:Int) (c11:List UInt8) (c12 c13 c14 c15 c16:Int) (s:(List Ext)×Int):St:=⟨[(11,.sl 2000 0 l8.length),(12,.sl 2001 0 l9.length),(13,.sl 2002 0 s.1.length),(48,sl (eL ag) t),(49,I t2),(50,I s.2)],cP l7 l8 l9 l11 c9 c10 c11 c12 c13 c14 c15 c16 s.1⟩
abbrev fa (l7:List aG) (l8:List (List Ext)) (l9:List Ext) (l11:List (List UInt8)) (t:List (List Ext)) (t2:Int) (c9:List Ext) (c10:Int) (c11:List UInt8) (c12 c13 c14 c15 c16:Int):((List Ext)×Int×Bool)→ai×St:=fun e=>(.exit 2,⟨[(11,.sl 2000 0 l8.length),(12,.sl 2001 0 l9.length),(13,.sl 2002 0 e.1.length),(48,sl (eL ag) t),(49,I t2),(50,I e.2.1),(51,B e.2.2)],cP l7 l8 l9 l11 c9 c10 c11 c12 c13 c14 c15 c16 e.1⟩)
theorem kY {l7 l8 l9 l11 t t2 c9 c10 c11 c12 c13 c14 c15 c16 s e} (h:Loop (bf l7 l8 l9 l11 t t2 c9 c10 c11 c12 c13 c14 c15 c16) s=some e):aD tab ow (.close [13004,13005]) im (eV l7 l8 l9 l11 t t2 c9 c10 c11 c12 c13 c14 c15 c16 s)=some (fa l7 l8 l9 l11 t t2 c9 c10 c11 c12 c13 c14 c15 c16 e):=by
 refine lrG (fun s o h=> ?_) h
 obtain ⟨_,_⟩:=s
 simp only [bf] at h
 simp+decide only [eV,fa,cP,im,go_sem,reduceIte,Nat.reduceAdd]
 all_goals exact go
def bO (kind:Int) (tables:(List (List Ext))) (m:Source) (m2 m3 m4 m5:Int) (l:List aG):Option ((List (List Ext))×(List Ext)×(List Ext)×Source×Int×Int×Int×Int×(List aG)×(List (List UInt8))):=
 (Loop (aO ([]:List Ext) kind) (l,([]:List (List Ext)),([]:List Ext),([]:List (List UInt8)),tables,m.Script,m.At,m.State,m.Count,m2,m3,m4,m5)).bind fun e_=>
 (Loop (bf e_.1 e_.2.1 e_.2.2.1 e_.2.2.2.1 e_.2.2.2.2.1 ((e_.2.2.2.2.1.length:Nat):Int) e_.2.2.2.2.2.2.1 e_.2.2.2.2.2.2.2.1 e_.2.2.2.2.2.2.2.2.1 e_.2.2.2.2.2.2.2.2.2.1 e_.2.2.2.2.2.2.2.2.2.2.1 e_.2.2.2.2.2.2.2.2.2.2.2.1 e_.2.2.2.2.2.2.2.2.2.2.2.2.1 e_.2.2.2.2.2.2.2.2.2.2.2.2.2) (([]:List Ext),0)).bind fun e_2=>
 some (e_.2.1,e_.2.2.1,e_2.1,(Source.mk e_.2.2.2.2.2.2.1 e_.2.2.2.2.2.2.2.1 e_.2.2.2.2.2.2.2.2.1 e_.2.2.2.2.2.2.2.2.2.1),e_.2.2.2.2.2.2.2.2.2.2.1,e_.2.2.2.2.2.2.2.2.2.2.2.1,e_.2.2.2.2.2.2.2.2.2.2.2.2.1,e_.2.2.2.2.2.2.2.2.2.2.2.2.2,e_.1,e_.2.2.2.1)
theorem mC {kind tables m m2 m3 m4 m5 l r} (h:bO kind tables m m2 m3 m4 m5 l=some r):Call tab ow 163 [.ptr 0 0 0 1,I kind,sl (eL ag) tables,.fn 164 [.ptr 1 0 0 1,.ptr 2 0 0 1,.ptr 3 0 0 1,.ptr 4 0 0 1]] [⟨4,true,[[sl ag m.Script,I m.At,S m.State,I m.Count]]⟩,⟨1,true,[[.sl 5 0 l.length]]⟩,⟨1,true,[[I m2]]⟩,⟨6,true,[[.lit (.slice none 0 0),.lit (.slice none 0 0),I m3,I m4,I m5,.lit (.slice none 0 0)]]⟩,⟨1,true,[[.ptr 0 0 0 1]]⟩,⟨2,false,rws dt l⟩]=some (.tup [sl (eL ag) r.1,sl ag r.2.1,sl ag r.2.2.1],[⟨4,true,[[sl ag r.2.2.2.1.Script,I r.2.2.2.1.At,S r.2.2.2.1.State,I r.2.2.2.1.Count]]⟩,⟨1,true,[[.sl 5 0 r.2.2.2.2.2.2.2.2.1.length]]⟩,⟨1,true,[[I r.2.2.2.2.1]]⟩,⟨6,true,[[.lit (.slice none 0 0),.sl 6 0 r.2.2.2.2.2.2.2.2.2.length,I r.2.2.2.2.2.1,I r.2.2.2.2.2.2.1,I r.2.2.2.2.2.2.2.1,.lit (.slice none 0 0)]]⟩,⟨1,true,[[.ptr 0 0 0 1]]⟩,⟨2,false,rws dt r.2.2.2.2.2.2.2.2.1⟩,⟨1,false,rws eS r.2.2.2.2.2.2.2.2.2⟩]):=by
 rw [ab (af:=gI) rfl]
 unfold bO at h
 simp+decide only [gI,qj,go_sem,reduceIte,Nat.reduceAdd]
 have d1:= @kQ
 have d2:= @kY
 all_goals exact go
end
def jW (t:List UInt8) (t2:Int):Int×Int→Option ((Int×Int)⊕((Int×Int×Bool)))
 | (n,t3)=>
   br (decide (t3<t2)) (
   (atL t t3).bind fun x=>
   some (.inl ((vX .i64 (bX .i64 n 8) (wrap .i64 (x.toNat:Int))),(wrap .i64 (t3+1))))) (
   some (.inr (n,t3,decide (t3<t2))))
abbrev Gc (t:List UInt8) (t2:Int) (s:Int×Int):St:=⟨[(3,I s.1),(6,sl eU8 t),(7,I t2),(8,I s.2)],[]⟩
abbrev GK (t:List UInt8) (t2:Int):(Int×Int×Bool)→ai×St:=fun e=>(.exit 0,⟨[(3,I e.1),(6,sl eU8 t),(7,I t2),(8,I e.2.1),(9,B e.2.2)],[]⟩)
theorem RK {t t2 s e} (h:Loop (jW t t2) s=some e):aD tab ow (.close []) yy (Gc t t2 s)=some (GK t t2 e):=by
 refine lrG (fun s o h=> ?_) h
 obtain ⟨_,_⟩:=s
 simp only [jW] at h
 simp+decide only [Gc,GK,yy,go_sem,reduceIte,Nat.reduceAdd]
 all_goals exact go
def BF (b:(List UInt8)):Option (Int):=
 (Loop (jW b ((b.length:Nat):Int)) (0,0)).bind fun e_=>
 some e_.1
theorem Zi {b r} (h:BF b=some r):Call tab ow 295 [sl eU8 b] []=some (I r,[]):=by
 rw [ab (af:=yp) rfl]
 unfold BF at h
 simp+decide only [yp,LV,go_sem,reduceIte,Nat.reduceAdd]
 have d1:= @RK
 all_goals exact go
section
theorem HW:mkR 2003 []=rws eU8 []:=rfl
attribute [local go_sem] HW
theorem I7:mkR 2007 []=rws (eL eU8) []:=rfl
attribute [local go_sem] I7
def iJ (s:Source) (bits nonce:Int):Option (Bool):=
 br (bc s.State.length 1) (
 (y6 nonce).bind fun r_=>
 (mK ([s.State,([(103:UInt8),(114:UInt8),(105:UInt8),(110:UInt8),(100:UInt8)]:List UInt8),r_]:List (List UInt8))).bind fun r_2=>
 br (bc r_2.length 1) (
 (rL r_2 0 4).bind fun y=>
 (BF y).bind fun r_3=>
 br (decide (0≤(wrap .i64 (32-bits)))) (
 some ((aM .i64 r_3 (wrap .i64 (32-bits)))==0)) none) none) none
theorem zA {s bits nonce r} (h:iJ s bits nonce=some r):Call tab ow 190 [.agg [sl ag s.Script,I s.At,S s.State,I s.Count],I bits,I nonce] []=some (B r,[]):=by
 rw [ab (af:=ln) rfl]
 unfold iJ at h
 simp+decide only [ln,zh,go_sem,reduceIte,Nat.reduceAdd]
 have d1:= @Af
 have d2:= @sY
 have d3:= @Zi
 all_goals exact go
end
def ca (bits2:Int) (c:List Ext) (c2:Int) (c3:List UInt8) (c4:Int):Int→Option ((Int)⊕(Int⊕(Int×Bool)))
 |t=>
  br (decide (t<65536)) (
  (iJ (Source.mk c c2 c3 c4) bits2 t).bind fun r_=>
  br r_ (
  some (.inr (.inl t))) (
  some (.inl (wrap .i64 (t+1))))) (
  some (.inr (.inr (t,decide (t<65536)))))
abbrev sD (bits2:Int) (c:List Ext) (c2:Int) (c3:List UInt8) (c4 s:Int):St:=⟨[(1,I bits2),(2,.ptr 1000 0 0 1),(6,I s)],[(1000,⟨4,true,[[sl ag c,I c2,S c3,I c4]]⟩)]⟩
abbrev tV (bits2:Int) (c:List Ext) (c2:Int) (c3:List UInt8) (c4:Int):(Int⊕(Int×Bool))→ai×St:=alt (fun e=>((.ret,⟨[(4,I e)],[(1000,⟨4,true,[[sl ag c,I c2,S c3,I c4]]⟩)]⟩):ai×St)) (fun e=>(.exit 0,⟨[(1,I bits2),(2,.ptr 1000 0 0 1),(6,I e.1),(7,B e.2)],[(1000,⟨4,true,[[sl ag c,I c2,S c3,I c4]]⟩)]⟩))
theorem Ex {bits2 c c2 c3 c4 s e} (h:Loop (ca bits2 c c2 c3 c4) s=some e):aD tab ow (.close [5003]) lV (sD bits2 c c2 c3 c4 s)=some (tV bits2 c c2 c3 c4 e):=by
 refine lrG (fun s o h=> ?_) h
 simp only [ca] at h
 simp+decide only [sD,tV,lV,go_sem,reduceIte,Nat.reduceAdd]
 have d1:= @zA
 all_goals exact go
def jA (s:Source) (bits:Int):Option (Int):=
 (Loop (ca bits s.Script s.At s.State s.Count) 0).bind (alt (fun e_2=>
 some e_2) (fun e_3=>
 some (-1:Int)))
theorem Hm {s bits r} (h:jA s bits=some r):Call tab ow 168 [.agg [sl ag s.Script,I s.At,S s.State,I s.Count],I bits] []=some (I r,[]):=by
 rw [ab (af:=jT) rfl]
 unfold jA at h
 simp+decide only [jT,xp,go_sem,reduceIte,Nat.reduceAdd]
 have d1:= @Ex
 all_goals exact go
section
theorem EQ:mkR 2000 []=rws ag []:=rfl
attribute [local go_sem] EQ
theorem Hg:mkR 5003 []=rws ag []:=rfl
attribute [local go_sem] Hg
def cU (t:Int):(List Ext)×Int×(List Ext)×Int×(List UInt8)×Int→Option (((List Ext)×Int×(List Ext)×Int×(List UInt8)×Int)⊕(((List Ext)×Int×Bool×(List Ext)×Int×(List UInt8)×Int)))
 | (l,t2,c,c2,c3,c4)=>
   br (decide (t2<t)) (
   (f4 (Source.mk c c2 c3 c4)).bind fun r_=>
   br (bc ((l++([r_.1]:List Ext)).length) 16) (
   some (.inl ((l++([r_.1]:List Ext)),(wrap .i64 (t2+1)),r_.2.Script,r_.2.At,r_.2.State,r_.2.Count))) none) (
   some (.inr (l,t2,decide (t2<t),c,c2,c3,c4)))
abbrev lO (l c:List Ext) (c2:Int) (c3:List UInt8) (c4:Int):List (Nat×Blk):=[(0,⟨4,true,[[sl ag c,I c2,S c3,I c4]]⟩),(2000,⟨2,false,rws ag l⟩)]
abbrev tj (t:Int) (s:(List Ext)×Int×(List Ext)×Int×(List UInt8)×Int):St:=⟨[(0,.ptr 0 0 0 1),(5,.sl 2000 0 s.1.length),(7,I t),(8,I s.2.1)],lO s.1 s.2.2.1 s.2.2.2.1 s.2.2.2.2.1 s.2.2.2.2.2⟩
abbrev tI (t:Int):((List Ext)×Int×Bool×(List Ext)×Int×(List UInt8)×Int)→ai×St:=fun e=>(.exit 0,⟨[(0,.ptr 0 0 0 1),(5,.sl 2000 0 e.1.length),(7,I t),(8,I e.2.1),(9,B e.2.2.1)],lO e.1 e.2.2.2.1 e.2.2.2.2.1 e.2.2.2.2.2.1 e.2.2.2.2.2.2⟩)
theorem Eb {t s e} (h:Loop (cU t) s=some e):aD tab ow (.close [5002,5003,5004]) lP (tj t s)=some (tI t e):=by
 refine lrG (fun s o h=> ?_) h
 obtain ⟨_,_,_,_,_,_⟩:=s
 simp only [cU] at h
 simp+decide only [tj,tI,lO,lP,go_sem,reduceIte,Nat.reduceAdd]
 have d1:= @q8
 all_goals exact go
def gO (n:Int) (m:Source):Option ((List Ext)×Source):=
 (Loop (cU n) (([]:List Ext),0,m.Script,m.At,m.State,m.Count)).bind fun e_=>
 some (e_.1,(Source.mk e_.2.2.2.1 e_.2.2.2.2.1 e_.2.2.2.2.2.1 e_.2.2.2.2.2.2))
theorem xb {n m r} (h:gO n m=some r):Call tab ow 171 [.ptr 0 0 0 1,I n] [⟨4,true,[[sl ag m.Script,I m.At,S m.State,I m.Count]]⟩]=some (sl ag r.1,[⟨4,true,[[sl ag r.2.Script,I r.2.At,S r.2.State,I r.2.Count]]⟩]):=by
 rw [ab (af:=jZ) rfl]
 unfold gO at h
 simp+decide only [jZ,wT,go_sem,reduceIte,Nat.reduceAdd]
 have d1:= @Eb
 all_goals exact go
end
section
theorem Xe:mkR 2000 []=rws eI []:=rfl
attribute [local go_sem] Xe
theorem Yf:mkR 6005 []=rws eI []:=rfl
attribute [local go_sem] Yf
def ig (most2:Int) (t:List Ext) (t2:Int):(List Int)×Int→Option (((List Int)×Int)⊕(((List Int)×Int×Bool)))
 | (l,t3)=>
   br (decide (t3<t2)) (
   (atL t t3).bind fun x=>
   br (decide (most2≠0)) (
   br (bc ((l++([(x.A.tmod most2)]:List Int)).length) 8) (
   some (.inl ((l++([(x.A.tmod most2)]:List Int)),(wrap .i64 (t3+1))))) none) none) (
   some (.inr (l,t3,decide (t3<t2))))
abbrev G7 (most2:Int) (t:List Ext) (t2:Int) (s:(List Int)×Int):St:=⟨[(1,I most2),(5,.sl 2000 0 s.1.length),(9,sl ag t),(10,I t2),(11,I s.2)],[(2000,⟨1,false,rws eI s.1⟩)]⟩
abbrev Gv (most2:Int) (t:List Ext) (t2:Int):((List Int)×Int×Bool)→ai×St:=fun e=>(.exit 0,⟨[(1,I most2),(5,.sl 2000 0 e.1.length),(9,sl ag t),(10,I t2),(11,I e.2.1),(12,B e.2.2)],[(2000,⟨1,false,rws eI e.1⟩)]⟩)
theorem U2 {most2 t t2 s e} (h:Loop (ig most2 t t2) s=some e):aD tab ow (.close [5002,6005,6006]) yH (G7 most2 t t2 s)=some (Gv most2 t t2 e):=by
 refine lrG (fun s o h=> ?_) h
 obtain ⟨_,_⟩:=s
 simp only [ig] at h
 simp+decide only [G7,Gv,yH,go_sem,reduceIte,Nat.reduceAdd]
 all_goals exact go
def xv (list:(List Ext)) (most:Int):Option ((List Int)):=
 (Loop (ig most list ((list.length:Nat):Int)) (([]:List Int),0)).bind fun e_=>
 some e_.1
theorem LH {list most r} (h:xv list most=some r):Call tab ow 170 [sl ag list,I most] []=some (sl eI r,[]):=by
 rw [ab (af:=yd) rfl]
 unfold xv at h
 simp+decide only [yd,O8,go_sem,reduceIte,Nat.reduceAdd]
 have d1:= @U2
 all_goals exact go
end
section
theorem V8:mkR 2000 []=rws eS []:=rfl
attribute [local go_sem] V8
theorem Xh:mkR 6006 []=rws eS []:=rfl
attribute [local go_sem] Xh
def ix (t:List (List (List UInt8))) (t2:Int):(List (List UInt8))×Int×Int→Option (((List (List UInt8))×Int×Int)⊕(((List (List UInt8))×Int×Int×Bool)))
 | (l,i2,t3)=>
   br (decide (t3<t2)) (
   (atL t t3).bind fun x=>
   (atL x (ga .i64 i2 1)).bind fun x2=>
   br (bc ((l++([x2]:List (List UInt8))).length) 16) (
   some (.inl ((l++([x2]:List (List UInt8))),(wrap .i64 (i2.tdiv 2)),(wrap .i64 (t3+1))))) none) (
   some (.inr (l,i2,t3,decide (t3<t2))))
abbrev FT (t:List (List (List UInt8))) (t2:Int) (s:(List (List UInt8))×Int×Int):St:=⟨[(1,I s.2.1),(5,.sl 2000 0 s.1.length),(13,sl (eL eS) t),(14,I t2),(15,I s.2.2)],[(2000,⟨1,false,rws eS s.1⟩)]⟩
abbrev EU (t:List (List (List UInt8))) (t2:Int):((List (List UInt8))×Int×Int×Bool)→ai×St:=fun e=>(.exit 0,⟨[(1,I e.2.1),(5,.sl 2000 0 e.1.length),(13,sl (eL eS) t),(14,I t2),(15,I e.2.2.1),(16,B e.2.2.2)],[(2000,⟨1,false,rws eS e.1⟩)]⟩)
theorem RU {t t2 s e} (h:Loop (ix t t2) s=some e):aD tab ow (.close [6006,6007]) xK (FT t t2 s)=some (EU t t2 e):=by
 refine lrG (fun s o h=> ?_) h
 obtain ⟨_,_,_⟩:=s
 simp only [ix] at h
 simp+decide only [FT,EU,xK,go_sem,reduceIte,Nat.reduceAdd]
 all_goals exact go
def Bz (rows:(List (List (List UInt8)))) (i:Int):Option ((List (List UInt8))):=
 (rL rows 0 (wrap .i64 (((rows.length:Nat):Int)-1))).bind fun y=>
 (Loop (ix y ((y.length:Nat):Int)) (([]:List (List UInt8)),i,0)).bind fun e_=>
 some e_.1
theorem Ym {rows i r} (h:Bz rows i=some r):Call tab ow 172 [sl (eL eS) rows,I i] []=some (sl eS r,[]):=by
 rw [ab (af:=yJ) rfl]
 unfold Bz at h
 simp+decide only [yJ,Nt,go_sem,reduceIte,Nat.reduceAdd]
 have d1:= @RU
 all_goals exact go
end
section
theorem Ip:mkR 2006 []=rws dt []:=rfl
attribute [local go_sem] Ip
theorem HJ:mkR 4004 []=rws (eL ag) []:=rfl
attribute [local go_sem] HJ
theorem Hz:mkR 6003 []=rws ag []:=rfl
attribute [local go_sem] Hz
theorem Hr:mkR 20014 []=rws ag []:=rfl
attribute [local go_sem] Hr
theorem HZ:mkR 20022 []=rws (eL eS) []:=rfl
attribute [local go_sem] HZ
theorem Hl:mkR 22003 []=rws aQ []:=rfl
attribute [local go_sem] Hl
def eo (l4:List aG) (l5:List (List UInt8)) (l6:List aq) (t4:Int) (t5:List Int) (t6 t7 t8:Int) (c16:List Ext) (c17:Int) (c18:List UInt8) (c19 c20 c21 c22 c23 c24 c25:Int) (c26:List (List Ext)) (c27 c28 c29 c30:Int):(List Ext)×(List (List (List UInt8)))×Int→Option (((List Ext)×(List (List (List UInt8)))×Int)⊕(((List Ext)×(List (List (List UInt8)))×Int×Bool)))
 | (l7,l8,t9)=>
   br (decide (t9<t8)) (
   br (decide (0≤t9)) (
   br (decide (t9.toNat<l4.length)) (
   (l4[t9.toNat]?).bind fun x4=>
   br (decide ((wrap .i64 (((x4.word.length:Nat):Int).tdiv 2))≠0)) (
   (atL x4.word (t4.tmod (wrap .i64 (((x4.word.length:Nat):Int).tdiv 2)))).bind fun x5=>
   (atL x4.word (wrap .i64 ((t4.tmod (wrap .i64 (((x4.word.length:Nat):Int).tdiv 2)))+(wrap .i64 (((x4.word.length:Nat):Int).tdiv 2))))).bind fun x6=>
   br (bc ((l7++([x5,x6]:List Ext)).length) 16) (
   (Bz x4.rows (t4.tmod (wrap .i64 (((x4.word.length:Nat):Int).tdiv 2)))).bind fun r_12=>
   br (bc ((l8++([r_12]:List (List (List UInt8)))).length) 24) (
   some (.inl ((l7++([x5,x6]:List Ext)),(l8++([r_12]:List (List (List UInt8)))),(wrap .i64 (t9+1))))) none) none) none) none) none) (
   some (.inr (l7,l8,t9,decide (t9<t8))))
abbrev nm (l4:List aG) (l5:List (List UInt8)) (l6:List aq) (c16:List Ext) (c17:Int) (c18:List UInt8) (c19 c20 c21 c22 c23 c24 c25:Int) (c26:List (List Ext)) (c27 c28 c29 c30:Int) (l7:List Ext) (l8:List (List (List UInt8))):List (Nat×Blk):=[(0,⟨4,true,[[sl ag c16,I c17,S c18,I c19]]⟩),(1000,⟨1,true,[[.ptr 0 0 0 1]]⟩),(1001,⟨3,true,[[I c20,I c21,I c22]]⟩),(1002,⟨6,true,[[.lit (.slice none 0 0),.lit (.slice none 0 0),I c23,I c24,I c25,.lit (.slice none 0 0)]]⟩),(2006,⟨2,false,rws dt l4⟩),(2007,⟨1,true,[[.sl 2006 0 l4.length]]⟩),(3003,⟨6,true,[[sl (eL ag) c26,.sl 4006 0 l5.length,I c27,I c28,I c29,.sl 12900 0 l6.length]]⟩),(3004,⟨1,true,[[I c30]]⟩),(4004,dR),(4006,⟨1,false,rws eS l5⟩),(6003,dR),(12900,⟨2,false,rws aQ l6⟩),(14001,⟨2,true,[[.sl 16900 0 l7.length,.sl 16901 0 l8.length]]⟩),(16900,⟨2,false,rws ag l7⟩),(16901,⟨1,false,rws (eL eS) l8⟩)]
abbrev v6 (l4:List aG) (l5:List (List UInt8)) (l6:List aq) (t4:Int) (t5:List Int) (t6 t7 t8:Int) (c16:List Ext) (c17:Int) (c18:List UInt8) (c19 c20 c21 c22 c23 c24 c25:Int) (c26:List (List Ext)) (c27 c28 c29 c30:Int) (s:(List Ext)×(List (List (List UInt8)))×Int):St:=⟨[(8,.ptr 1002 0 0 1),(10,.ptr 2007 0 0 1),(11,.ptr 3003 0 0 1),(17,I t4),(18,.ptr 14001 0 0 1),(81,sl eI t5),(82,I t6),(83,I t7),(88,.sl 2006 0 l4.length),(89,I t8),(90,I s.2.2)],nm l4 l5 l6 c16 c17 c18 c19 c20 c21 c22 c23 c24 c25 c26 c27 c28 c29 c30 s.1 s.2.1⟩
abbrev v8 (l4:List aG) (l5:List (List UInt8)) (l6:List aq) (t4:Int) (t5:List Int) (t6 t7 t8:Int) (c16:List Ext) (c17:Int) (c18:List UInt8) (c19 c20 c21 c22 c23 c24 c25:Int) (c26:List (List Ext)) (c27 c28 c29 c30:Int):((List Ext)×(List (List (List UInt8)))×Int×Bool)→ai×St:=fun e=>(.exit 2,⟨[(8,.ptr 1002 0 0 1),(10,.ptr 2007 0 0 1),(11,.ptr 3003 0 0 1),(17,I t4),(18,.ptr 14001 0 0 1),(81,sl eI t5),(82,I t6),(83,I t7),(88,.sl 2006 0 l4.length),(89,I t8),(90,I e.2.2.1),(91,B e.2.2.2)],nm l4 l5 l6 c16 c17 c18 c19 c20 c21 c22 c23 c24 c25 c26 c27 c28 c29 c30 e.1 e.2.1⟩)
theorem Fv {l4 l5 l6 t4 t5 t6 t7 t8 c16 c17 c18 c19 c20 c21 c22 c23 c24 c25 c26 c27 c28 c29 c30 s e} (h:Loop (eo l4 l5 l6 t4 t5 t6 t7 t8 c16 c17 c18 c19 c20 c21 c22 c23 c24 c25 c26 c27 c28 c29 c30) s=some e):aD tab ow (.both (.both (.close [17002,20014,20015,20021,20022,20023]) (.nilCell 14001 0 16900 2)) (.nilCell 14001 1 16901 1)) lI (v6 l4 l5 l6 t4 t5 t6 t7 t8 c16 c17 c18 c19 c20 c21 c22 c23 c24 c25 c26 c27 c28 c29 c30 s)=some (v8 l4 l5 l6 t4 t5 t6 t7 t8 c16 c17 c18 c19 c20 c21 c22 c23 c24 c25 c26 c27 c28 c29 c30 e):=by
 refine lrG (fun s o h=> ?_) h
 obtain ⟨_,_,_⟩:=s
 simp only [eo] at h
 simp+decide only [v6,v8,nm,lI,go_sem,reduceIte,Nat.reduceAdd]
 have d1:= @Ym
 all_goals exact go
def dm (l:List aG) (l2:List (List UInt8)) (t:List Int) (t2:Int) (c:List Ext) (c2:Int) (c3:List UInt8) (c4 c5 c6 c7 c8 c9 c10:Int) (c11:List (List Ext)) (c12 c13 c14 c15:Int):(List aq)×Int→Option (((List aq)×Int)⊕(((List aq)×Int×Bool)))
 | (l3,t3)=>
   br (decide (t3<t2)) (
   (atL t t3).bind fun x3=>
   (Loop (eo l l2 l3 x3 t t2 t3 ((l.length:Nat):Int) c c2 c3 c4 c5 c6 c7 c8 c9 c10 c11 c12 c13 c14 c15) (([]:List Ext),([]:List (List (List UInt8))),0)).bind fun e_=>
   br (bc ((l3++([(aq.mk e_.1 e_.2.1)]:List aq)).length) 48) (
   some (.inl ((l3++([(aq.mk e_.1 e_.2.1)]:List aq)),(wrap .i64 (t3+1))))) none) (
   some (.inr (l3,t3,decide (t3<t2))))
abbrev mO (l:List aG) (l2:List (List UInt8)) (c:List Ext) (c2:Int) (c3:List UInt8) (c4 c5 c6 c7 c8 c9 c10:Int) (c11:List (List Ext)) (c12 c13 c14 c15:Int) (l3:List aq):List (Nat×Blk):=[(0,⟨4,true,[[sl ag c,I c2,S c3,I c4]]⟩),(1000,⟨1,true,[[.ptr 0 0 0 1]]⟩),(1001,⟨3,true,[[I c5,I c6,I c7]]⟩),(1002,⟨6,true,[[.lit (.slice none 0 0),.lit (.slice none 0 0),I c8,I c9,I c10,.lit (.slice none 0 0)]]⟩),(2006,⟨2,false,rws dt l⟩),(2007,⟨1,true,[[.sl 2006 0 l.length]]⟩),(3003,⟨6,true,[[sl (eL ag) c11,.sl 4006 0 l2.length,I c12,I c13,I c14,.sl 12900 0 l3.length]]⟩),(3004,⟨1,true,[[I c15]]⟩),(4004,dR),(4006,⟨1,false,rws eS l2⟩),(6003,dR),(12900,⟨2,false,rws aQ l3⟩)]
abbrev uN (l:List aG) (l2:List (List UInt8)) (t:List Int) (t2:Int) (c:List Ext) (c2:Int) (c3:List UInt8) (c4 c5 c6 c7 c8 c9 c10:Int) (c11:List (List Ext)) (c12 c13 c14 c15:Int) (s:(List aq)×Int):St:=⟨[(8,.ptr 1002 0 0 1),(10,.ptr 2007 0 0 1),(11,.ptr 3003 0 0 1),(81,sl eI t),(82,I t2),(83,I s.2)],mO l l2 c c2 c3 c4 c5 c6 c7 c8 c9 c10 c11 c12 c13 c14 c15 s.1⟩
abbrev uu (l:List aG) (l2:List (List UInt8)) (t:List Int) (t2:Int) (c:List Ext) (c2:Int) (c3:List UInt8) (c4 c5 c6 c7 c8 c9 c10:Int) (c11:List (List Ext)) (c12 c13 c14 c15:Int):((List aq)×Int×Bool)→ai×St:=fun e=>(.exit 0,⟨[(8,.ptr 1002 0 0 1),(10,.ptr 2007 0 0 1),(11,.ptr 3003 0 0 1),(81,sl eI t),(82,I t2),(83,I e.2.1),(84,B e.2.2)],mO l l2 c c2 c3 c4 c5 c6 c7 c8 c9 c10 c11 c12 c13 c14 c15 e.1⟩)
theorem EV {l l2 t t2 c c2 c3 c4 c5 c6 c7 c8 c9 c10 c11 c12 c13 c14 c15 s e} (h:Loop (dm l l2 t t2 c c2 c3 c4 c5 c6 c7 c8 c9 c10 c11 c12 c13 c14 c15) s=some e):aD tab ow (.both (.close [14001,17002,20014,20015,20021,20022,20023,22003,22004,16900,16901]) (.nilCell 3003 5 12900 2)) lZ (uN l l2 t t2 c c2 c3 c4 c5 c6 c7 c8 c9 c10 c11 c12 c13 c14 c15 s)=some (uu l l2 t t2 c c2 c3 c4 c5 c6 c7 c8 c9 c10 c11 c12 c13 c14 c15 e):=by
 refine lrG (fun s o h=> ?_) h
 obtain ⟨_,_⟩:=s
 simp only [dm] at h
 simp+decide only [uN,uu,mO,lZ,go_sem,reduceIte,Nat.reduceAdd]
 have d1:= @Fv
 all_goals exact go
def kU (a a2:(List Ext)) (a3:Setting) (m:Source):Option (aC×Bool×Source):=
 (rY a).bind fun r_=>
 (sd r_ a3.Rate).bind fun r_2=>
 (sO r_2).bind fun r_3=>
 (rT a2).bind fun r_4=>
 (bO 1 ([a,r_4]:List (List Ext)) m ((a2.length:Nat):Int) 0 0 0 ([r_3]:List aG)).bind fun r_5=>
 (atL r_5.2.2.1 0).bind fun x=>
 (cj ([x]:List Ext) r_5.2.2.2.1).bind fun r_6=>
 (jA r_6 a3.Grind).bind fun r_7=>
 br (decide (r_7<0)) (
 some ((aC.mk ([]:List (List Ext)) ([]:List (List UInt8)) (Ext.mk 0 0) 0 ([]:List aq)),false,r_6)) (
 (y6 r_7).bind fun r_8=>
 (cS r_8 r_6).bind fun r_9=>
 (gO a3.Queries r_9).bind fun r_10=>
 br (decide (0<r_5.2.2.2.2.2.2.2.2.1.length)) (
 (r_5.2.2.2.2.2.2.2.2.1[0]?).bind fun x2=>
 (xv r_10.1 (wrap .i64 (((x2.word.length:Nat):Int).tdiv 2))).bind fun r_11=>
 (Loop (dm r_5.2.2.2.2.2.2.2.2.1 r_5.2.2.2.2.2.2.2.2.2 r_11 ((r_11.length:Nat):Int) r_10.2.Script r_10.2.At r_10.2.State r_10.2.Count a3.Rate a3.Queries a3.Grind 0 0 0 r_5.1 x.A x.B r_7 r_5.2.2.2.2.1) (([]:List aq),0)).bind fun e_2=>
 some ((aC.mk r_5.1 r_5.2.2.2.2.2.2.2.2.2 x r_7 e_2.1),true,r_10.2)) none)
theorem L2 {a a2 a3 m r} (h:kU a a2 a3 m=some r):Call tab ow 77 [.ptr 0 0 0 1,sl ag a,sl ag a2,.agg [I a3.Rate,I a3.Queries,I a3.Grind]] [⟨4,true,[[sl ag m.Script,I m.At,S m.State,I m.Count]]⟩]=some (.tup [.agg [sl (eL ag) r.1.Rounds,sl eS r.1.Roots,I r.1.Last.A,I r.1.Last.B,I r.1.Nonce,sl aQ r.1.Queries],B r.2.1],[⟨4,true,[[sl ag r.2.2.Script,I r.2.2.At,S r.2.2.State,I r.2.2.Count]]⟩]):=by
 rw [ab (af:=lc) rfl]
 unfold kU at h
 simp+decide only [lc,zH,go_sem,reduceIte,Nat.reduceAdd]
 have d1:= @Jh
 have d2:= @JH
 have d3:= @Eu
 have d4:= @IZ
 have d5:= @mC
 have d6:= @fI
 have d7:= @Hm
 have d8:= @Af
 have d9:= @gb
 have d10:= @xb
 have d11:= @LH
 have d12:= @EV
 all_goals exact go
end
def pH (ListtoArray a:(List Ext)) (a2:Setting) (a3:Source):Option (aC×Source×Int):=
 br (decide (((ListtoArray.length:Nat):Int)>4096)) (
 some ((aC.mk ([]:List (List Ext)) ([]:List (List UInt8)) (Ext.mk 0 0) 0 ([]:List aq)),(Source.mk ([]:List Ext) 0 (([]:List UInt8)) 0),2)) (
 br (decide (((a.length:Nat):Int)>4096)) (
 some ((aC.mk ([]:List (List Ext)) ([]:List (List UInt8)) (Ext.mk 0 0) 0 ([]:List aq)),(Source.mk ([]:List Ext) 0 (([]:List UInt8)) 0),2)) (
 (mu ListtoArray).bind fun r_=>
 br (!r_) (
 some ((aC.mk ([]:List (List Ext)) ([]:List (List UInt8)) (Ext.mk 0 0) 0 ([]:List aq)),(Source.mk ([]:List Ext) 0 (([]:List UInt8)) 0),1)) (
 (rQ a).bind fun r_2=>
 br (!r_2) (
 some ((aC.mk ([]:List (List Ext)) ([]:List (List UInt8)) (Ext.mk 0 0) 0 ([]:List aq)),(Source.mk ([]:List Ext) 0 (([]:List UInt8)) 0),1)) (
 (hZ a2).bind fun r_3=>
 br (!r_3) (
 some ((aC.mk ([]:List (List Ext)) ([]:List (List UInt8)) (Ext.mk 0 0) 0 ([]:List aq)),(Source.mk ([]:List Ext) 0 (([]:List UInt8)) 0),1)) (
 (lY a3).bind fun r_4=>
 br (!r_4) (
 some ((aC.mk ([]:List (List Ext)) ([]:List (List UInt8)) (Ext.mk 0 0) 0 ([]:List aq)),(Source.mk ([]:List Ext) 0 (([]:List UInt8)) 0),1)) (
 br (((ListtoArray.length:Nat):Int)==1) (
 some ((aC.mk ([]:List (List Ext)) ([]:List (List UInt8)) (Ext.mk 0 0) 0 ([]:List aq)),(Source.mk ([]:List Ext) 0 (([]:List UInt8)) 0),4)) (
 br (decide (0≤((a.length:Nat):Int))) (
 br (((ListtoArray.length:Nat):Int) !=(bX .i64 1 ((a.length:Nat):Int))) (
 some ((aC.mk ([]:List (List Ext)) ([]:List (List UInt8)) (Ext.mk 0 0) 0 ([]:List aq)),(Source.mk ([]:List Ext) 0 (([]:List UInt8)) 0),8)) (
 (iO a3).bind fun r_5=>
 br (decide (r_5<100)) (
 some ((aC.mk ([]:List (List Ext)) ([]:List (List UInt8)) (Ext.mk 0 0) 0 ([]:List aq)),(Source.mk ([]:List Ext) 0 (([]:List UInt8)) 0),6)) (
 (fU a3).bind fun r_6=>
 (kU ListtoArray a a2 r_6).bind fun r_7=>
 br (!r_7.2.1) (
 some ((aC.mk ([]:List (List Ext)) ([]:List (List UInt8)) (Ext.mk 0 0) 0 ([]:List aq)),(Source.mk ([]:List Ext) 0 (([]:List UInt8)) 0),14)) (
 some (r_7.1,r_7.2.2,0))))) none)))))))
theorem Qe {ListtoArray a a2 a3 r} (h:pH ListtoArray a a2 a3=some r):Call tab ow 15 [sl ag ListtoArray,sl ag a,.agg [I a2.Rate,I a2.Queries,I a2.Grind],.agg [sl ag a3.Script,I a3.At,S a3.State,I a3.Count]] []=some (.tup [.agg [sl (eL ag) r.1.Rounds,sl eS r.1.Roots,I r.1.Last.A,I r.1.Last.B,I r.1.Nonce,sl aQ r.1.Queries],.agg [sl ag r.2.1.Script,I r.2.1.At,S r.2.1.State,I r.2.1.Count],I r.2.2],[]):=by
 rw [ab (af:=oY) rfl]
 unfold pH at h
 simp+decide only [oY,D4,go_sem,reduceIte,Nat.reduceAdd]
 have d1:= @Bj
 have d2:= @Ko
 have d3:= @oO
 have d4:= @Fi
 have d5:= @zq
 have d6:= @vd
 have d7:= @L2
 all_goals exact go
def o4 (list:(List Ext)):Option (Bool):=
 br (decide (((list.length:Nat):Int)≤6)) (
 (kr list).bind fun r_=>
 some r_) (
 some false)
theorem Fb {list r} (h:o4 list=some r):Call tab ow 78 [sl ag list] []=some (B r,[]):=by
 rw [ab (af:=rq) rfl]
 unfold o4 at h
 simp+decide only [rq,Fs,go_sem,reduceIte,Nat.reduceAdd]
 have d1:= @pc
 all_goals exact go
def jJ (t:Setting):Option (Bool):=
 (gG t.Rate 1 3).bind fun r_=>
 br r_ (
 (gG t.Queries 1 8).bind fun r_2=>
 br r_2 (
 (gG t.Grind 0 12).bind fun r_3=>
 some r_3) (
 some false)) (
 some false)
theorem wc {t r} (h:jJ t=some r):Call tab ow 79 [.agg [I t.Rate,I t.Queries,I t.Grind]] []=some (B r,[]):=by
 rw [ab (af:=oN) rfl]
 unfold jJ at h
 simp+decide only [oN,Dd,go_sem,reduceIte,Nat.reduceAdd]
 have d1:= @sg
 all_goals exact go
def lW (s:Source):Option (Bool):=
 br (decide (((s.Script.length:Nat):Int)≤64)) (
 (kr s.Script).bind fun r_=>
 br r_ (
 (gG s.At 0 1000000).bind fun r_2=>
 br r_2 (
 br (((s.State.length:Nat):Int)==32) (
 (gG s.Count 0 1000000).bind fun r_3=>
 some r_3) (
 some false)) (
 some false)) (
 some false)) (
 some false)
theorem FQ {s r} (h:lW s=some r):Call tab ow 80 [.agg [sl ag s.Script,I s.At,S s.State,I s.Count]] []=some (B r,[]):=by
 rw [ab (af:=qW) rfl]
 unfold lW at h
 simp+decide only [qW,F1,go_sem,reduceIte,Nat.reduceAdd]
 have d1:= @pc
 have d2:= @sg
 all_goals exact go
def jN (s:Source) (n:Int):Option (Bool):=
 br (decide (s.At>(wrap .i64 (1000000-n)))) (
 some true) (
 some (decide (s.Count>(wrap .i64 (1000000-n)))))
theorem GW {s n r} (h:jN s n=some r):Call tab ow 81 [.agg [sl ag s.Script,I s.At,S s.State,I s.Count],I n] []=some (B r,[]):=by
 rw [ab (af:=rI) rfl]
 unfold jN at h
 simp+decide only [rI,Ha,go_sem,reduceIte,Nat.reduceAdd]
 all_goals exact go
def xy:Option (Ext):=
 (oK 1).bind fun r_=>
 some r_
theorem Ep {r} (h:xy=some r):Call tab ow 285 [] []=some (.agg [I r.A,I r.B],[]):=by
 rw [ab (af:=yf) rfl]
 unfold xy at h
 simp+decide only [yf,ME,go_sem,reduceIte,Nat.reduceAdd]
 have d1:= @rU
 all_goals exact go
def nT (a:Ext):Option (Ext):=
 (xy).bind fun r_=>
 (jx r_ a).bind fun r_2=>
 some r_2
theorem Kb {a r} (h:nT a=some r):Call tab ow 218 [.agg [I a.A,I a.B]] []=some (.agg [I r.A,I r.B],[]):=by
 rw [ab (af:=uZ) rfl]
 unfold nT at h
 simp+decide only [uZ,K9,go_sem,reduceIte,Nat.reduceAdd]
 have d1:= @Ep
 have d2:= @lM
 all_goals exact go
section
theorem a06:mkR 2001 []=rws ag []:=rfl
attribute [local go_sem] a06
theorem Z7: ∀k,KZ 6003 k [I (0:Int),I (0:Int)]=rws ag (List.replicate k (Ext.mk (0:Int) (0:Int))):=fun _=>a4X ag (Ext.mk (0:Int) (0:Int)) _ _
attribute [local go_sem] Z7
def my (point3 out2:List Ext) (i2:Int):(List Ext)×Int→Option (((List Ext)×Int)⊕(((List Ext)×Int×Bool)))
 | (l,k)=>
   br (decide (k<((out2.length:Nat):Int))) (
   (atL out2 k).bind fun x=>
   (atL point3 i2).bind fun x2=>
   (nT x2).bind fun r_2=>
   (cZ x r_2).bind fun r_3=>
   br (decide (0≤k)) (
   br (decide (k.toNat<l.length)) (
   (l[k.toNat]?).bind fun x3=>
   (atL out2 k).bind fun x4=>
   (atL point3 i2).bind fun x5=>
   (cZ x4 x5).bind fun r_4=>
   br (decide (0≤(wrap .i64 (k+((out2.length:Nat):Int))))) (
   br (decide ((wrap .i64 (k+((out2.length:Nat):Int))).toNat<l.length)) (
   ((l.set k.toNat r_3)[(wrap .i64 (k+((out2.length:Nat):Int))).toNat]?).bind fun x6=>
   some (.inl (((l.set k.toNat r_3).set ((wrap .i64 (k+((out2.length:Nat):Int))).toNat) r_4),(wrap .i64 (k+1))))) none) none) none) none) (
   some (.inr (l,k,decide (k<((out2.length:Nat):Int)))))
abbrev Jp (point3 out2:List Ext) (i2:Int) (s:(List Ext)×Int):St:=⟨[(0,sl ag point3),(3,sl ag out2),(4,I i2),(5,.sl 6003 0 s.1.length),(6,I s.2)],[(6003,⟨2,false,rws ag s.1⟩)]⟩
abbrev IQ (point3 out2:List Ext) (i2:Int):((List Ext)×Int×Bool)→ai×St:=fun e=>(.exit 2,⟨[(0,sl ag point3),(3,sl ag out2),(4,I i2),(5,.sl 6003 0 e.1.length),(6,I e.2.1),(22,B e.2.2)],[(6003,⟨2,false,rws ag e.1⟩)]⟩)
theorem Xj {point3 out2 i2 s e} (h:Loop (my point3 out2 i2) s=some e):aD tab ow (.close [10010,10011,11013]) Ah (Jp point3 out2 i2 s)=some (IQ point3 out2 i2 e):=by
 refine lrG (fun s o h=> ?_) h
 obtain ⟨_,_⟩:=s
 simp only [my] at h
 simp+decide only [Jp,IQ,Ah,go_sem,reduceIte,Nat.reduceAdd]
 have d1:= @Kb
 have d2:= @i8
 all_goals exact go
def mz (point2:List Ext):(List Ext)×Int→Option (((List Ext)×Int)⊕(((List Ext)×Int×Bool)))
 | (out,i)=>
   br (decide (i<((point2.length:Nat):Int))) (
   br (KS (wrap .i64 (2*((out.length:Nat):Int))) (wrap .i64 (2*((out.length:Nat):Int))) 16) (
   (Loop (my point2 out i) ((List.replicate ((wrap .i64 ((2:Int)*((out.length:Nat):Int))).toNat) (Ext.mk (0:Int) (0:Int))),(0:Int))).bind fun e_=>
   some (.inl (e_.1,(wrap .i64 (i+1))))) none) (
   some (.inr (out,i,decide (i<((point2.length:Nat):Int)))))
abbrev J4 (point2:List Ext) (s:(List Ext)×Int):St:=⟨[(0,sl ag point2),(3,sl ag s.1),(4,I s.2)],[]⟩
abbrev J0 (point2:List Ext):((List Ext)×Int×Bool)→ai×St:=fun e=>(.exit 0,⟨[(0,sl ag point2),(3,sl ag e.1),(4,I e.2.1),(12,B e.2.2)],[]⟩)
theorem Ya {point2 s e} (h:Loop (mz point2) s=some e):aD tab ow (.close [6003,10010,10011,11013,2001]) Ak (J4 point2 s)=some (J0 point2 e):=by
 refine lrG (fun s o h=> ?_) h
 obtain ⟨_,_⟩:=s
 simp only [mz] at h
 simp+decide only [J4,J0,Ak,go_sem,reduceIte,Nat.reduceAdd]
 have d1:= @Xj
 all_goals exact go
def Gq (point:(List Ext)):Option ((List Ext)):=
 (xy).bind fun r_=>
 (Loop (mz point) (([r_]:List Ext),0)).bind fun e_2=>
 some e_2.1
theorem a3y {point r} (h:Gq point=some r):Call tab ow 173 [sl ag point] []=some (sl ag r,[]):=by
 rw [ab (af:=BN) rfl]
 unfold Gq at h
 simp+decide only [BN,RF,go_sem,reduceIte,Nat.reduceAdd]
 have d1:= @Ep
 have d2:= @Ya
 all_goals exact go
end
def pg (kind:Int):Option (Int):=
 some (wrap .i64 (kind+1))
theorem Qi {kind r} (h:pg kind=some r):Call tab ow 286 [I kind] []=some (I r,[]):=by
 rw [ab (af:=oj) rfl]
 unfold pg at h
 simp+decide only [oj,Dx,go_sem,reduceIte,Nat.reduceAdd]
 all_goals exact go
section
theorem TP:mkR 2000 []=rws ag []:=rfl
attribute [local go_sem] TP
theorem UR:mkR 6018 []=rws ag []:=rfl
attribute [local go_sem] UR
def gu (table2:List Ext) (c c2:Int):(List Ext)×Int→Option (((List Ext)×Int)⊕(((List Ext)×Int×Bool)))
 | (l,i)=>
   br (decide (i<((table2.length:Nat):Int))) (
   (atL table2 i).bind fun x=>
   (atL table2 (wrap .i64 (i+1))).bind fun x2=>
   (atL table2 i).bind fun x3=>
   (jx x2 x3).bind fun r_2=>
   (cZ (Ext.mk c c2) r_2).bind fun r_3=>
   (gQ x r_3).bind fun r_4=>
   br (bc ((l++([r_4]:List Ext)).length) 16) (
   some (.inl ((l++([r_4]:List Ext)),(wrap .i64 (i+2))))) none) (
   some (.inr (l,i,decide (i<((table2.length:Nat):Int)))))
abbrev vA (c c2:Int) (l:List Ext):List (Nat×Blk):=[(1000,⟨2,true,[[I c,I c2]]⟩),(2000,⟨2,false,rws ag l⟩)]
abbrev D5 (table2:List Ext) (c c2:Int) (s:(List Ext)×Int):St:=⟨[(0,sl ag table2),(3,.ptr 1000 0 0 1),(5,.sl 2000 0 s.1.length),(6,I s.2)],vA c c2 s.1⟩
abbrev DQ (table2:List Ext) (c c2:Int):((List Ext)×Int×Bool)→ai×St:=fun e=>(.exit 0,⟨[(0,sl ag table2),(3,.ptr 1000 0 0 1),(5,.sl 2000 0 e.1.length),(6,I e.2.1),(11,B e.2.2)],vA c c2 e.1⟩)
theorem Qz {table2 c c2 s e} (h:Loop (gu table2 c c2) s=some e):aD tab ow (.close [6015,6016,6017,6018,6019]) wi (D5 table2 c c2 s)=some (DQ table2 c c2 e):=by
 refine lrG (fun s o h=> ?_) h
 obtain ⟨_,_⟩:=s
 simp only [gu] at h
 simp+decide only [D5,DQ,vA,wi,go_sem,reduceIte,Nat.reduceAdd]
 have d1:= @lM
 have d2:= @i8
 have d3:= @jw
 all_goals exact go
def wW (table:(List Ext)) (r_:Ext):Option ((List Ext)):=
 (Loop (gu table r_.A r_.B) (([]:List Ext),0)).bind fun e_=>
 some e_.1
theorem Xs {table r_ r} (h:wW table r_=some r):Call tab ow 289 [sl ag table,.agg [I r_.A,I r_.B]] []=some (sl ag r,[]):=by
 rw [ab (af:=uG) rfl]
 unfold wW at h
 simp+decide only [uG,JI,go_sem,reduceIte,Nat.reduceAdd]
 have d1:= @Qz
 all_goals exact go
end
section
theorem S8:mkR 2000 []=rws (eL ag) []:=rfl
attribute [local go_sem] S8
theorem Ui:mkR 6007 []=rws (eL ag) []:=rfl
attribute [local go_sem] Ui
def gz (tables2:List (List Ext)) (c c2:Int):(List (List Ext))×Int→Option (((List (List Ext))×Int)⊕(((List (List Ext))×Int×Bool)))
 | (l,i)=>
   br (decide (i<((tables2.length:Nat):Int))) (
   (atL tables2 i).bind fun x=>
   (wW x (Ext.mk c c2)).bind fun r_2=>
   br (bc ((l++([r_2]:List (List Ext))).length) 24) (
   some (.inl ((l++([r_2]:List (List Ext))),(wrap .i64 (i+1))))) none) (
   some (.inr (l,i,decide (i<((tables2.length:Nat):Int)))))
abbrev wq (c c2:Int) (l:List (List Ext)):List (Nat×Blk):=[(1000,⟨2,true,[[I c,I c2]]⟩),(2000,⟨1,false,rws (eL ag) l⟩)]
abbrev DS (tables2:List (List Ext)) (c c2:Int) (s:(List (List Ext))×Int):St:=⟨[(0,sl (eL ag) tables2),(3,.ptr 1000 0 0 1),(5,.sl 2000 0 s.1.length),(6,I s.2)],wq c c2 s.1⟩
abbrev Dp (tables2:List (List Ext)) (c c2:Int):((List (List Ext))×Int×Bool)→ai×St:=fun e=>(.exit 0,⟨[(0,sl (eL ag) tables2),(3,.ptr 1000 0 0 1),(5,.sl 2000 0 e.1.length),(6,I e.2.1),(11,B e.2.2)],wq c c2 e.1⟩)
theorem Ps {tables2 c c2 s e} (h:Loop (gz tables2 c c2) s=some e):aD tab ow (.close [6006,6007,6008]) vk (DS tables2 c c2 s)=some (Dp tables2 c c2 e):=by
 refine lrG (fun s o h=> ?_) h
 obtain ⟨_,_⟩:=s
 simp only [gz] at h
 simp+decide only [DS,Dp,wq,vk,go_sem,reduceIte,Nat.reduceAdd]
 have d1:= @Xs
 all_goals exact go
def si (tables:(List (List Ext))) (r_:Ext):Option ((List (List Ext))):=
 (Loop (gz tables r_.A r_.B) (([]:List (List Ext)),0)).bind fun e_=>
 some e_.1
theorem Ke {tables r_ r} (h:si tables r_=some r):Call tab ow 176 [sl (eL ag) tables,.agg [I r_.A,I r_.B]] []=some (sl (eL ag) r,[]):=by
 rw [ab (af:=uA) rfl]
 unfold si at h
 simp+decide only [uA,IT,go_sem,reduceIte,Nat.reduceAdd]
 have d1:= @Ps
 all_goals exact go
end
def nk (kind:Int) (v:(List Ext)):Option (Ext):=
 br (kind==1) (
 (atL v 0).bind fun x=>
 (atL v 1).bind fun x2=>
 (cZ x x2).bind fun r_=>
 some r_) (
 (atL v 0).bind fun x3=>
 (atL v 1).bind fun x4=>
 (atL v 2).bind fun x5=>
 (cZ x4 x5).bind fun r_2=>
 (atL v 3).bind fun x6=>
 (jx r_2 x6).bind fun r_3=>
 (cZ x3 r_3).bind fun r_4=>
 some r_4)
theorem OR {kind v r} (h:nk kind v=some r):Call tab ow 217 [I kind,sl ag v] []=some (.agg [I r.A,I r.B],[]):=by
 rw [ab (af:=np) rfl]
 unfold nk at h
 simp+decide only [np,AJ,go_sem,reduceIte,Nat.reduceAdd]
 have d1:= @i8
 have d2:= @lM
 all_goals exact go
section
theorem YV:mkR 2000 []=rws ag []:=rfl
attribute [local go_sem] YV
theorem a0g:mkR 6008 []=rws ag []:=rfl
attribute [local go_sem] a0g
def jz (kind2:Int) (tables2:List (List Ext)) (k2 c c2:Int):(List Ext)×Int→Option (((List Ext)×Int)⊕(((List Ext)×Int×Bool)))
 | (l,i)=>
   br (decide (i<((tables2.length:Nat):Int))) (
   (atL tables2 i).bind fun x=>
   (atL x k2).bind fun x2=>
   br (bc ((l++([x2]:List Ext)).length) 16) (
   some (.inl ((l++([x2]:List Ext)),(wrap .i64 (i+1))))) none) (
   some (.inr (l,i,decide (i<((tables2.length:Nat):Int)))))
abbrev AF (c c2:Int) (l:List Ext):List (Nat×Blk):=[(1000,⟨2,true,[[I c,I c2]]⟩),(2000,⟨2,false,rws ag l⟩)]
abbrev IV (kind2:Int) (tables2:List (List Ext)) (k2 c c2:Int) (s:(List Ext)×Int):St:=⟨[(0,I kind2),(1,sl (eL ag) tables2),(2,I k2),(6,.ptr 1000 0 0 1),(7,.sl 2000 0 s.1.length),(8,I s.2)],AF c c2 s.1⟩
abbrev K5 (kind2:Int) (tables2:List (List Ext)) (k2 c c2:Int):((List Ext)×Int×Bool)→ai×St:=fun e=>(.exit 0,⟨[(0,I kind2),(1,sl (eL ag) tables2),(2,I k2),(6,.ptr 1000 0 0 1),(7,.sl 2000 0 e.1.length),(8,I e.2.1),(13,B e.2.2)],AF c c2 e.1⟩)
theorem VZ {kind2 tables2 k2 c c2 s e} (h:Loop (jz kind2 tables2 k2 c c2) s=some e):aD tab ow (.close [6008,6009]) AB (IV kind2 tables2 k2 c c2 s)=some (K5 kind2 tables2 k2 c c2 e):=by
 refine lrG (fun s o h=> ?_) h
 obtain ⟨_,_⟩:=s
 simp only [jz] at h
 simp+decide only [IV,K5,AF,AB,go_sem,reduceIte,Nat.reduceAdd]
 all_goals exact go
def Hc (kind:Int) (tables:(List (List Ext))) (k:Int):Option (Ext):=
 (Loop (jz kind tables k 0 0) (([]:List Ext),0)).bind fun e_=>
 (nk kind e_.1).bind fun r_=>
 some r_
theorem a3e {kind tables k r} (h:Hc kind tables k=some r):Call tab ow 339 [I kind,sl (eL ag) tables,I k] []=some (.agg [I r.A,I r.B],[]):=by
 rw [ab (af:=C0) rfl]
 unfold Hc at h
 simp+decide only [C0,QB,go_sem,reduceIte,Nat.reduceAdd]
 have d1:= @VZ
 have d2:= @OR
 all_goals exact go
end
def ic (kind2:Int) (tables2:List (List Ext)) (c c2:Int):Int×Int×Int→Option ((Int×Int×Int)⊕((Int×Bool×Int×Int)))
 | (k,c3,c4)=>
   (atL tables2 0).bind fun x=>
   br (decide (k<((x.length:Nat):Int))) (
   (Hc kind2 tables2 k).bind fun r_=>
   (gQ (Ext.mk c3 c4) r_).bind fun r_2=>
   some (.inl ((wrap .i64 (k+1)),r_2.A,r_2.B))) (
   some (.inr (k,decide (k<((x.length:Nat):Int)),c3,c4)))
abbrev yg (c c2 c3 c4:Int):List (Nat×Blk):=[(1000,⟨2,true,[[I c,I c2]]⟩),(2001,⟨2,true,[[I c3,I c4]]⟩)]
abbrev G3 (kind2:Int) (tables2:List (List Ext)) (c c2:Int) (s:Int×Int×Int):St:=⟨[(0,I kind2),(1,sl (eL ag) tables2),(4,.ptr 1000 0 0 1),(5,.ptr 2001 0 0 1),(6,I s.1)],yg c c2 s.2.1 s.2.2⟩
abbrev Ge (kind2:Int) (tables2:List (List Ext)) (c c2:Int):(Int×Bool×Int×Int)→ai×St:=fun e=>(.exit 0,⟨[(0,I kind2),(1,sl (eL ag) tables2),(4,.ptr 1000 0 0 1),(5,.ptr 2001 0 0 1),(6,I e.1),(13,B e.2.1)],yg c c2 e.2.2.1 e.2.2.2⟩)
theorem U3 {kind2 tables2 c c2 s e} (h:Loop (ic kind2 tables2 c c2) s=some e):aD tab ow (.close [6004,6005]) y5 (G3 kind2 tables2 c c2 s)=some (Ge kind2 tables2 c c2 e):=by
 refine lrG (fun s o h=> ?_) h
 obtain ⟨_,_,_⟩:=s
 simp only [ic] at h
 simp+decide only [G3,Ge,yg,y5,go_sem,reduceIte,Nat.reduceAdd]
 have d1:= @a3e
 have d2:= @jw
 all_goals exact go
def Ac (kind:Int) (tables:(List (List Ext))):Option (Ext):=
 (Loop (ic kind tables 0 0) (0,0,0)).bind fun e_=>
 some (Ext.mk e_.2.2.1 e_.2.2.2)
theorem Zv {kind tables r} (h:Ac kind tables=some r):Call tab ow 287 [I kind,sl (eL ag) tables] []=some (.agg [I r.A,I r.B],[]):=by
 rw [ab (af:=yI) rfl]
 unfold Ac at h
 simp+decide only [yI,NW,go_sem,reduceIte,Nat.reduceAdd]
 have d1:= @U3
 all_goals exact go
end
end Go.AI.Fn
