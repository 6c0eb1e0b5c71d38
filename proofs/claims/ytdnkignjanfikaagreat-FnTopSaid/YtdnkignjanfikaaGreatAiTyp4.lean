/- Part. -/
import Derived.Test.YtdnkignjanfikaaGreatAiTyp3
set_option linter.unusedVariables false
set_option linter.unusedSimpArgs false
namespace Go.AI
def ar (k:IntKind) (l:List Int):List V:=l.map fun n=> .lit (.int k n)
def nZ (n:Nat):List Int:=List.replicate n 0
def zar (k:IntKind) (n:Nat):List Value:=List.replicate n (.int k 0)
def WQ (k:IntKind):Nat->List Int->List (Nat×Nat×Opd)
 |_,[]=>[]
 |i,c::r=>(i,1,.c (.int k c))::WQ k (i+1) r
theorem a34 (x:Int):UInt8.ofInt (IntKind.u8.wrap x)=UInt8.ofInt x:=by
 have h:=tk (IntKind.u8.wrap x)
 have b:=tk x
 have a:IntKind.u8.wrap (IntKind.u8.wrap x)=IntKind.u8.wrap x:=by
  simp [IntKind.wrap,IntKind.bits,IntKind.signed]
 apply UInt8.toNat.inj
 rw [a] at h
 omega
theorem a6X (l:List UInt8) (i:Nat) (a b:Int):Gg (rws eU8 l) i [.lit (.int .u8 (Cp .u8 a b))]=rws eU8 (l.set i (UInt8.ofInt (Cp .u8 a b))):=by
 unfold Cp;rw [b0l,a34]
theorem b3Y {h:ba} {bs:List Nat}:fzK h bs kf=kf:=rfl
theorem a8A {α:Type} {l r:List α} {s q:Nat} (a:l.length=q):(yN l s (min r.length (q-s)) r).length=q:=by
 subst a
 simp only [yN,a8,aD,bP]
 omega
theorem a2x {α:Type} {l r:List α} {q:Nat} (a:l.length=q):(yN l 0 (min r.length q) r).length=q:=by
 subst a
 simp only [yN,a8,aD,bP]
 omega
section
variable {C:cr} {ow:ff} {ev:Opd->V} {h:ba} {n:Nat} {k:IntKind} {l l2:List Int}
theorem JU:(ar k l).length=l.length:=by simp [ar]
theorem xk (a:Int):ar k (a::l)= .lit (.int k a)::ar k l:=rfl
theorem c5x:(ar k l).map V.cz=ar k l:=by
 induction l with
 |nil=>rfl
 |cons a l ih=>rw [xk,aM,ih];rfl
theorem c2n (ids:List Nat):(ar k l).map (unV ids)=ar k l:=by
 induction l with
 |nil=>rfl
 |cons a l ih=>rw [xk,aM,ih];rfl
theorem b50 (ids:List Nat):(ar k l).map (qj ids)=ar k l:=by
 induction l with
 |nil=>rfl
 |cons a l ih=>rw [xk,aM,ih];rfl
theorem c2G (bs:List Nat):(ar k l).map (fzC h bs)=ar k l:=by
 induction l with
 |nil=>rfl
 |cons a l ih=>rw [xk,aM,ih];rfl
theorem a5B:(ar k l).all V.cell=true:=by
 induction l with
 |nil=>rfl
 |cons a l ih=>rw [xk,cC,ih];rfl
theorem b26:(ar k l).all vB=true:=by
 induction l with
 |nil=>rfl
 |cons a l ih=>rw [xk,cC,ih];rfl
theorem b1L (m:Nat) (kp:List Nat):yZ h m kp (ar k l)=some (ar k l):=by
 induction l with
 |nil=>rfl
 |cons a l ih=>rw [xk,Qv,ih];rfl
theorem b5l (m:Nat) (kp:List Nat):BR h m kp (ar k l)=some (ar k l):=by
 induction l with
 |nil=>rfl
 |cons a l ih=>rw [xk,Aq,ih];rfl
theorem b6O (ids:List Nat):uE h ids (ar k l)=some (ar k l,ids):=by
 induction l with
 |nil=>rfl
 |cons a l ih=>rw [xk,AU,SN,GP,ih];rfl
theorem c2D (own:Bool) (ids:List Nat):fI h own ids (ar k l)=some (ar k l,ids,[]):=by
 induction l with
 |nil=>rfl
 |cons a l ih=>rw [xk,Io,b3o,Vu,ih];rfl
theorem a6P:(V.agg (ar k l)).cells=ar k l:=rfl
theorem b8L (i:Nat):part none (ar k l) i=(l[i]?).bind fun x=>some (.lit (.int k x)):=by
 simp only [part,ar,b6]
 cases l[i]? <;>rfl
def c5A (m:Nat) (k:IntKind) (l:List Int):Option V:=part (some m) (ar k l) 0
theorem b3u (m:Nat):part (some m) (ar k l) 0=br (Nat.beq l.length m) (some (.agg (ar k l))) (c5A m k l):=by
 rw [L0]
 by_cases a:l.length=m
 ·subst a
  simp only [part,JU,decide_true,dj]
  rw [aa om,hK,aX (by rw [JU];omega)]
 ·rw [ae a,bu];rfl
theorem c45 (c:Bool) (x y:Option V):ldS (br c x y)=br c (ldS x) (ldS y):=by cases c<;>rfl
theorem b2a (k:IntKind) (m q:Nat):aK C ow (.alloc (zar k m)) ev h q=frO (h q) q ⟨m,true,[ar k (nZ m)]⟩ (.ptr q 0 0 1):=by
 rw [a4O]
 have a:(zar k m).all cD=true:=by simp [zar,cD]
 have b:(zar k m).map V.lit=ar k (nZ m):=by simp [zar,ar,nZ]
 rw [a,dj,b]
 simp [zar]
theorem a82 (k:IntKind) (m q:Nat):aK C ow (.build (zar k m) []) ev h q=some (.agg (ar k (nZ m)),[]):=by
 rw [XR]
 have a:(zar k m).all cD=true:=by simp [zar,cD]
 have b:(zar k m).map V.lit=ar k (nZ m):=by simp [zar,ar,nZ]
 rw [a,dj,b];rfl
theorem LF (f:Nat->V): ∀(cs:List Int) (i:Nat),jH (Opd.ev f) (WQ k i cs)=(cs.zipIdx i).map fun p=>(p.2,1,.lit (.int k p.1))
 |[],i=>rfl
 |c::cs,i=>by
  show (i,1,_)::jH _ (WQ k (i+1) cs)=_
  rw [LF f cs (i+1)];rfl
theorem Vs: ∀(cs:List Int) (pre:List Int),Jg (ar k (pre++List.replicate cs.length 0)) ((cs.zipIdx pre.length).map fun p=>(p.2,1,.lit (.int k p.1)))=some (ar k (pre++cs))
 |[],pre=>by simp [Jg]
 |c::cs,pre=>by
  have ih:=Vs cs (pre++[c])
  simp only [List.zipIdx_cons,aM,Jg]
  rw [aa ⟨rfl,by rw [JU,a8,aL,ab];omega,rfl⟩]
  have e1:(ar k (pre++List.replicate (c::cs).length 0)).take pre.length=ar k pre:=by simp [ar]
  have e2:(ar k (pre++List.replicate (c::cs).length 0)).drop (pre.length+1)=ar k (List.replicate cs.length 0):=by
   simp [ar,List.drop_append]
  rw [e1,e2]
  have a:ar k pre++((V.lit (.int k c)).cells++ar k (List.replicate cs.length 0))=ar k ((pre++[c])++List.replicate cs.length 0):=by simp [ar,V.cells]
  have b:pre++c::cs=(pre++[c])++cs:=by simp
  rw [a,b, <-ih]
  simp
theorem b1v (st:St) (k:IntKind) (m q:Nat) (cs:List Int) (a:Nat.beq cs.length m=true):aK C ow (.build (zar k m) (WQ k 0 cs)) st.ev h q=some (.agg (ar k cs),[]):=by
 show aK C ow (.build (zar k m) (WQ k 0 cs)) (Opd.ev st.get) h q=some (.agg (ar k cs),[])
 have a:=iZ a
 subst a
 have b:(zar k cs.length).all cD=true:=by simp [zar,cD]
 have c:(zar k cs.length).map V.lit=ar k (List.replicate cs.length 0):=by simp [zar,ar]
 rw [XR,b,dj,c,LF, <-SH]
 have:=Vs (k:=k) cs []
 simp only [bA,ah] at this
 rw [this];rfl
theorem c3q (m b o:Nat) (x:Int):stO (some ⟨m,true,[ar k l]⟩) b 1 0 o 1 (.lit (.int k x)) h=br (decide (o<l.length)) (some (.undef,[(b,⟨m,true,[ar k (l.set o x)]⟩)])) none:=by
 rw [a2k]
 simp only [VH,ab,ah,JU,cC,ZK,List.all_nil,dO]
 have e0:Nat.beq (0+1) 1=true:=rfl
 rw [e0,bm,KX]
 by_cases a:o<l.length
 ·rw [aj (show o+1<=l.length by omega),aj a,dj,dj]
  have:(ar k l).take o++([V.lit (.int k x)]++(ar k l).drop (o+1))=ar k (l.set o x):=by
   rw [List.set_eq_take_append_cons_drop,aa a];simp [ar]
  rw [this]
 ·rw [ae (show ¬o+1<=l.length by omega),ae a,bu,bu]
def c7d (m b q:Nat) (x:V) (row:List V) (h:ba):Option (V×Upd):=stO (some ⟨m,true,[row]⟩) b q 0 0 1 x h
theorem b8j (m b q:Nat):stO (some ⟨m,true,[ar k l]⟩) b q 0 0 1 (.agg (ar k l2)) h=br (Nat.beq l2.length q&&Nat.beq l.length q) (some (.undef,[(b,⟨m,true,[ar k l2]⟩)])) (c7d m b q (.agg (ar k l2)) (ar k l) h):=by
 rw [L0,L0]
 by_cases a:l2.length=q
 ·by_cases c:l.length=q
  ·rw [aj a,aj c,dO,dj,a2k]
   simp only [a6P,JU,a5B,dO]
   rw [a,c,L0,KX,aj rfl,aj (show 0+q<=q by omega),dO,dj]
   rw [uh,bA,iu (by rw [JU];omega),bM]
  ·rw [ae c,Bool.and_false,bu];rfl
 ·rw [ae a,ub,bu];rfl
theorem c1i (c:Bool) (x y:Option V) (z:Option (List V)):rs1 (br c x y) z=br c (rs1 x z) (rs1 y z):=by cases c<;>rfl
theorem b7S (keep raw:Bool) (m:Nat) (c:Bool) (x y:Option (List V)):a0Y keep raw m h (br c x y)=br c (a0Y keep raw m h x) (a0Y keep raw m h y):=by cases c<;>rfl
end
end Go.AI
