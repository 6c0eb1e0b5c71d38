/- Part. -/
import Derived.Test.YtdnkignjanfikaaGreatAiTyp3
set_option linter.unusedVariables false
set_option linter.unusedSimpArgs false
namespace Go.AI
def ar (k:IntKind) (l:List Int):List V:=l.map fun n=> .lit (.int k n)
def nZ (n:Nat):List Int:=List.replicate n 0
def zar (k:IntKind) (n:Nat):List Value:=List.replicate n (.int k 0)
def Xo (k:IntKind):Nat->List Int->List (Nat×Nat×Opd)
 |_,[]=>[]
 |i,c::r=>(i,1,.c (.int k c))::Xo k (i+1) r
theorem a3i (x:Int):UInt8.ofInt (IntKind.u8.wrap x)=UInt8.ofInt x:=by
 have h:=tu (IntKind.u8.wrap x)
 have b:=tu x
 have a:IntKind.u8.wrap (IntKind.u8.wrap x)=IntKind.u8.wrap x:=by
  simp [IntKind.wrap,IntKind.bits,IntKind.signed]
 apply UInt8.toNat.inj
 rw [a] at h
 omega
theorem a9p (l:List UInt8) (i:Nat) (a b:Int):Gj (rws eU8 l) i [.lit (.int .u8 (Cy .u8 a b))]=rws eU8 (l.set i (UInt8.ofInt (Cy .u8 a b))):=by
 unfold Cy;rw [b0h,a3i]
theorem b2A {h:ba} {bs:List Nat}:fzK h bs kj=kj:=rfl
theorem a8G {α:Type} {l r:List α} {s q:Nat} (a:l.length=q):(yX l s (min r.length (q-s)) r).length=q:=by
 subst a
 simp only [yX,a8,aD,bQ]
 omega
theorem a47 {α:Type} {l r:List α} {q:Nat} (a:l.length=q):(yX l 0 (min r.length q) r).length=q:=by
 subst a
 simp only [yX,a8,aD,bQ]
 omega
section
variable {C:cr} {ow:fe} {ev:Opd->V} {h:ba} {n:Nat} {k:IntKind} {l l2:List Int}
theorem K4:(ar k l).length=l.length:=by simp [ar]
theorem xu (a:Int):ar k (a::l)= .lit (.int k a)::ar k l:=rfl
theorem c61:(ar k l).map V.cz=ar k l:=by
 induction l with
 |nil=>rfl
 |cons a l ih=>rw [xu,aM,ih];rfl
theorem c2m (ids:List Nat):(ar k l).map (unV ids)=ar k l:=by
 induction l with
 |nil=>rfl
 |cons a l ih=>rw [xu,aM,ih];rfl
theorem b4p (ids:List Nat):(ar k l).map (pV ids)=ar k l:=by
 induction l with
 |nil=>rfl
 |cons a l ih=>rw [xu,aM,ih];rfl
theorem c1q (bs:List Nat):(ar k l).map (fzC h bs)=ar k l:=by
 induction l with
 |nil=>rfl
 |cons a l ih=>rw [xu,aM,ih];rfl
theorem a5m:(ar k l).all V.cell=true:=by
 induction l with
 |nil=>rfl
 |cons a l ih=>rw [xu,cC,ih];rfl
theorem b0x:(ar k l).all vG=true:=by
 induction l with
 |nil=>rfl
 |cons a l ih=>rw [xu,cC,ih];rfl
theorem b2F (m:Nat) (kp:List Nat):yR h m kp (ar k l)=some (ar k l):=by
 induction l with
 |nil=>rfl
 |cons a l ih=>rw [xu,Rh,ih];rfl
theorem b1d (m:Nat) (kp:List Nat):BQ h m kp (ar k l)=some (ar k l):=by
 induction l with
 |nil=>rfl
 |cons a l ih=>rw [xu,AK,ih];rfl
theorem b6Q (ids:List Nat):uH h ids (ar k l)=some (ar k l,ids):=by
 induction l with
 |nil=>rfl
 |cons a l ih=>rw [xu,AG,Q4,GT,ih];rfl
theorem c38 (own:Bool) (ids:List Nat):fM h own ids (ar k l)=some (ar k l,ids,[]):=by
 induction l with
 |nil=>rfl
 |cons a l ih=>rw [xu,Ix,b2D,Vw,ih];rfl
theorem a7z:(V.agg (ar k l)).cells=ar k l:=rfl
theorem b80 (i:Nat):part none (ar k l) i=(l[i]?).bind fun x=>some (.lit (.int k x)):=by
 simp only [part,ar,b6]
 cases l[i]? <;>rfl
def c5F (m:Nat) (k:IntKind) (l:List Int):Option V:=part (some m) (ar k l) 0
theorem b1a (m:Nat):part (some m) (ar k l) 0=br (Nat.beq l.length m) (some (.agg (ar k l))) (c5F m k l):=by
 rw [KA]
 by_cases a:l.length=m
 ·subst a
  simp only [part,K4,decide_true,dj]
  rw [aa om,hJ,aX (by rw [K4];omega)]
 ·rw [ae a,bu];rfl
theorem c2z (c:Bool) (x y:Option V):ldS (br c x y)=br c (ldS x) (ldS y):=by cases c<;>rfl
theorem b1H (k:IntKind) (m q:Nat):aK C ow (.alloc (zar k m)) ev h q=frO (h q) q ⟨m,true,[ar k (nZ m)]⟩ (.ptr q 0 0 1):=by
 rw [a5Z]
 have a:(zar k m).all cF=true:=by simp [zar,cF]
 have b:(zar k m).map V.lit=ar k (nZ m):=by simp [zar,ar,nZ]
 rw [a,dj,b]
 simp [zar]
theorem a7n (k:IntKind) (m q:Nat):aK C ow (.build (zar k m) []) ev h q=some (.agg (ar k (nZ m)),[]):=by
 rw [Yp]
 have a:(zar k m).all cF=true:=by simp [zar,cF]
 have b:(zar k m).map V.lit=ar k (nZ m):=by simp [zar,ar,nZ]
 rw [a,dj,b];rfl
theorem Ld (f:Nat->V): ∀(cs:List Int) (i:Nat),jz (Opd.ev f) (Xo k i cs)=(cs.zipIdx i).map fun p=>(p.2,1,.lit (.int k p.1))
 |[],i=>rfl
 |c::cs,i=>by
  show (i,1,_)::jz _ (Xo k (i+1) cs)=_
  rw [Ld f cs (i+1)];rfl
theorem Vl: ∀(cs:List Int) (pre:List Int),Ip (ar k (pre++List.replicate cs.length 0)) ((cs.zipIdx pre.length).map fun p=>(p.2,1,.lit (.int k p.1)))=some (ar k (pre++cs))
 |[],pre=>by simp [Ip]
 |c::cs,pre=>by
  have ih:=Vl cs (pre++[c])
  simp only [List.zipIdx_cons,aM,Ip]
  rw [aa ⟨rfl,by rw [K4,a8,aL,ab];omega,rfl⟩]
  have e1:(ar k (pre++List.replicate (c::cs).length 0)).take pre.length=ar k pre:=by simp [ar]
  have e2:(ar k (pre++List.replicate (c::cs).length 0)).drop (pre.length+1)=ar k (List.replicate cs.length 0):=by
   simp [ar,List.drop_append]
  rw [e1,e2]
  have a:ar k pre++((V.lit (.int k c)).cells++ar k (List.replicate cs.length 0))=ar k ((pre++[c])++List.replicate cs.length 0):=by simp [ar,V.cells]
  have b:pre++c::cs=(pre++[c])++cs:=by simp
  rw [a,b, <-ih]
  simp
theorem b0d (st:St) (k:IntKind) (m q:Nat) (cs:List Int) (a:Nat.beq cs.length m=true):aK C ow (.build (zar k m) (Xo k 0 cs)) st.ev h q=some (.agg (ar k cs),[]):=by
 show aK C ow (.build (zar k m) (Xo k 0 cs)) (Opd.ev st.get) h q=some (.agg (ar k cs),[])
 have a:=j1 a
 subst a
 have b:(zar k cs.length).all cF=true:=by simp [zar,cF]
 have c:(zar k cs.length).map V.lit=ar k (List.replicate cs.length 0):=by simp [zar,ar]
 rw [Yp,b,dj,c,Ld, <-RS]
 have:=Vl (k:=k) cs []
 simp only [bA,ah] at this
 rw [this];rfl
theorem c3t (m b o:Nat) (x:Int):stO (some ⟨m,true,[ar k l]⟩) b 1 0 o 1 (.lit (.int k x)) h=br (decide (o<l.length)) (some (.undef,[(b,⟨m,true,[ar k (l.set o x)]⟩)])) none:=by
 rw [a1U]
 simp only [Vt,ab,ah,K4,cC,ZK,List.all_nil,dO]
 have e0:Nat.beq (0+1) 1=true:=rfl
 rw [e0,bk,Ku]
 by_cases a:o<l.length
 ·rw [aj (show o+1<=l.length by omega),aj a,dj,dj]
  have:(ar k l).take o++([V.lit (.int k x)]++(ar k l).drop (o+1))=ar k (l.set o x):=by
   rw [List.set_eq_take_append_cons_drop,aa a];simp [ar]
  rw [this]
 ·rw [ae (show ¬o+1<=l.length by omega),ae a,bu,bu]
def c76 (m b q:Nat) (x:V) (row:List V) (h:ba):Option (V×Upd):=stO (some ⟨m,true,[row]⟩) b q 0 0 1 x h
theorem b5Z (m b q:Nat):stO (some ⟨m,true,[ar k l]⟩) b q 0 0 1 (.agg (ar k l2)) h=br (Nat.beq l2.length q&&Nat.beq l.length q) (some (.undef,[(b,⟨m,true,[ar k l2]⟩)])) (c76 m b q (.agg (ar k l2)) (ar k l) h):=by
 rw [KA,KA]
 by_cases a:l2.length=q
 ·by_cases c:l.length=q
  ·rw [aj a,aj c,dO,dj,a1U]
   simp only [a7z,K4,a5m,dO]
   rw [a,c,KA,Ku,aj rfl,aj (show 0+q<=q by omega),dO,dj]
   rw [u9,bA,iD (by rw [K4];omega),bL]
  ·rw [ae c,Bool.and_false,bu];rfl
 ·rw [ae a,u6,bu];rfl
theorem c34 (c:Bool) (x y:Option V) (z:Option (List V)):rs1 (br c x y) z=br c (rs1 x z) (rs1 y z):=by cases c<;>rfl
theorem b9i (keep raw:Bool) (m:Nat) (c:Bool) (x y:Option (List V)):a1f keep raw m h (br c x y)=br c (a1f keep raw m h x) (a1f keep raw m h y):=by cases c<;>rfl
end
end Go.AI
