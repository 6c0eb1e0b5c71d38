/- Arrays of whole numbers, as lists: the machine's words on their cells. -/
import Derived.Test.YtdnkignjanfikaaGreatAiTyp3
set_option linter.unusedVariables false
set_option linter.unusedSimpArgs false
namespace Go.AI
def ar (k:IntKind) (l:List Int):List V:=l.map fun n=> .lit (.int k n)
def nZ (n:Nat):List Int:=List.replicate n 0
def zar (k:IntKind) (n:Nat):List Value:=List.replicate n (.int k 0)
def Yj (k:IntKind):Nat->List Int->List (Nat×Nat×Opd)
 |_,[]=>[]
 |i,c::r=>(i,1,.c (.int k c))::Yj k (i+1) r
theorem a7h (x:Int):UInt8.ofInt (IntKind.u8.wrap x)=UInt8.ofInt x:=by
 have h:=vn (IntKind.u8.wrap x)
 have h2:=vn x
 have h3:IntKind.u8.wrap (IntKind.u8.wrap x)=IntKind.u8.wrap x:=by
  simp [IntKind.wrap,IntKind.bits,IntKind.signed]
 apply UInt8.toNat.inj
 rw [h3] at h
 omega
theorem a9I (l:List UInt8) (i:Nat) (a b:Int):iV (rws eU8 l) i [.lit (.int .u8 (B7 .u8 a b))]=rws eU8 (l.set i (UInt8.ofInt (B7 .u8 a b))):=by
 unfold B7;rw [b5Q,a7h]
theorem b4U {h:aZ} {bs:List Nat}:fzK h bs nG=nG:=rfl
theorem a5F {α:Type} {l r:List α} {q:Nat} (hq:l.length=q):(Gy l 0 (min r.length q) r).length=q:=by
 subst hq
 simp only [Gy,ab,bi,eQ]
 omega
section
variable {C:cg} {ow:en} {ev:Opd->V} {h:aZ} {n:Nat} {k:IntKind} {l l2:List Int}
theorem JH:(ar k l).length=l.length:=by simp [ar]
theorem ux (a:Int):ar k (a::l)= .lit (.int k a)::ar k l:=rfl
theorem c53:(ar k l).map V.cz=ar k l:=by
 induction l with
 |nil=>rfl
 |cons a l ih=>rw [ux,aS,ih];rfl
theorem c0U (ids:List Nat):(ar k l).map (unV ids)=ar k l:=by
 induction l with
 |nil=>rfl
 |cons a l ih=>rw [ux,aS,ih];rfl
theorem b4O (ids:List Nat):(ar k l).map (nK ids)=ar k l:=by
 induction l with
 |nil=>rfl
 |cons a l ih=>rw [ux,aS,ih];rfl
theorem c3g (bs:List Nat):(ar k l).map (fzC h bs)=ar k l:=by
 induction l with
 |nil=>rfl
 |cons a l ih=>rw [ux,aS,ih];rfl
theorem a8t:(ar k l).all V.cell=true:=by
 induction l with
 |nil=>rfl
 |cons a l ih=>rw [ux,cr,ih];rfl
theorem b2x:(ar k l).all su=true:=by
 induction l with
 |nil=>rfl
 |cons a l ih=>rw [ux,cr,ih];rfl
theorem b5J (m:Nat) (kp:List Nat):xb h m kp (ar k l)=some (ar k l):=by
 induction l with
 |nil=>rfl
 |cons a l ih=>rw [ux,R7,ih];rfl
theorem b2L (m:Nat) (kp:List Nat):Aj h m kp (ar k l)=some (ar k l):=by
 induction l with
 |nil=>rfl
 |cons a l ih=>rw [ux,yT,ih];rfl
theorem b7y (ids:List Nat):rL h ids (ar k l)=some (ar k l,ids):=by
 induction l with
 |nil=>rfl
 |cons a l ih=>rw [ux,zs,Sf,FC,ih];rfl
theorem c2k (own:Bool) (ids:List Nat):eP h own ids (ar k l)=some (ar k l,ids,[]):=by
 induction l with
 |nil=>rfl
 |cons a l ih=>rw [ux,IK,b5v,XF,ih];rfl
theorem b0V:(V.agg (ar k l)).cells=ar k l:=rfl
theorem b7o (i:Nat):part none (ar k l) i=(l[i]?).bind fun x=>some (.lit (.int k x)):=by
 simp only [part,ar,aV]
 cases l[i]? <;>rfl
def c4d (m:Nat) (k:IntKind) (l:List Int):Option V:=part (some m) (ar k l) 0
theorem b5c (m:Nat):part (some m) (ar k l) 0=br (Nat.beq l.length m) (some (.agg (ar k l))) (c4d m k l):=by
 rw [TM]
 by_cases hm:l.length=m
 ·subst hm
  simp only [part,JH,decide_true,cO]
  rw [ae (by omega),io,cq (by rw [JH];omega)]
 ·rw [ag hm,bf];rfl
theorem c0I (c:Bool) (x y:Option V):ldS (br c x y)=br c (ldS x) (ldS y):=by cases c<;>rfl
theorem b6a (k:IntKind) (m q:Nat):aN C ow (.alloc (zar k m)) ev h q=frO (h q) q ⟨m,true,[ar k (nZ m)]⟩ (.ptr q 0 0 1):=by
 rw [a8S]
 have h1:(zar k m).all ck=true:=by simp [zar,ck]
 have h2:(zar k m).map V.lit=ar k (nZ m):=by simp [zar,ar,nZ]
 rw [h1,cO,h2]
 simp [zar]
theorem a9U (k:IntKind) (m q:Nat):aN C ow (.build (zar k m) []) ev h q=some (.agg (ar k (nZ m)),[]):=by
 rw [a0F]
 have h1:(zar k m).all ck=true:=by simp [zar,ck]
 have h2:(zar k m).map V.lit=ar k (nZ m):=by simp [zar,ar,nZ]
 rw [h1,cO,h2];rfl
theorem Lt (f:Nat->V): ∀(cs:List Int) (i:Nat),iE (Opd.ev f) (Yj k i cs)=(cs.zipIdx i).map fun p=>(p.2,1,.lit (.int k p.1))
 |[],i=>rfl
 |c::cs,i=>by
  show (i,1,_)::iE _ (Yj k (i+1) cs)=_
  rw [Lt f cs (i+1)];rfl
theorem XD: ∀(cs:List Int) (pre:List Int),Is (ar k (pre++List.replicate cs.length 0)) ((cs.zipIdx pre.length).map fun p=>(p.2,1,.lit (.int k p.1)))=some (ar k (pre++cs))
 |[],pre=>by simp [Is]
 |c::cs,pre=>by
  have ih:=XD cs (pre++[c])
  simp only [List.zipIdx_cons,aS,Is]
  rw [ae ⟨rfl,by rw [JH,ab,aQ,ah];omega,rfl⟩]
  have e1:(ar k (pre++List.replicate (c::cs).length 0)).take pre.length=ar k pre:=by simp [ar]
  have e2:(ar k (pre++List.replicate (c::cs).length 0)).drop (pre.length+1)=ar k (List.replicate cs.length 0):=by
   simp [ar,List.drop_append]
  rw [e1,e2]
  have e3:ar k pre++((V.lit (.int k c)).cells++ar k (List.replicate cs.length 0))=ar k ((pre++[c])++List.replicate cs.length 0):=by simp [ar,V.cells]
  have e4:pre++c::cs=(pre++[c])++cs:=by simp
  rw [e3,e4, <-ih]
  simp
theorem b55 (st:St) (k:IntKind) (m q:Nat) (cs:List Int) (hm:Nat.beq cs.length m=true):aN C ow (.build (zar k m) (Yj k 0 cs)) st.ev h q=some (.agg (ar k cs),[]):=by
 show aN C ow (.build (zar k m) (Yj k 0 cs)) (Opd.ev st.get) h q=some (.agg (ar k cs),[])
 have hm:=i5 hm
 subst hm
 have h1:(zar k cs.length).all ck=true:=by simp [zar,ck]
 have h2:(zar k cs.length).map V.lit=ar k (List.replicate cs.length 0):=by simp [zar,ar]
 rw [a0F,h1,cO,h2,Lt, <-TC]
 have:=XD (k:=k) cs []
 simp only [bj,ai] at this
 rw [this];rfl
theorem c1q (m b o:Nat) (x:Int):stO (some ⟨m,true,[ar k l]⟩) b 1 0 o 1 (.lit (.int k x)) h=br (decide (o<l.length)) (some (.undef,[(b,⟨m,true,[ar k (l.set o x)]⟩)])) none:=by
 rw [a67]
 simp only [Xg,ah,ai,JH,cr,a36,List.all_nil,gt]
 have e0:Nat.beq (0+1) 1=true:=rfl
 rw [e0,aO,Pa]
 by_cases ho:o<l.length
 ·rw [al (show o+1<=l.length by omega),al ho,cO,cO]
  have:(ar k l).take o++([V.lit (.int k x)]++(ar k l).drop (o+1))=ar k (l.set o x):=by
   rw [List.set_eq_take_append_cons_drop,ae ho];simp [ar]
  rw [this]
 ·rw [ag (show ¬o+1<=l.length by omega),ag ho,bf,bf]
def c5P (m b q:Nat) (x:V) (row:List V) (h:aZ):Option (V×Upd):=stO (some ⟨m,true,[row]⟩) b q 0 0 1 x h
theorem b6J (m b q:Nat):stO (some ⟨m,true,[ar k l]⟩) b q 0 0 1 (.agg (ar k l2)) h=br (Nat.beq l2.length q&&Nat.beq l.length q) (some (.undef,[(b,⟨m,true,[ar k l2]⟩)])) (c5P m b q (.agg (ar k l2)) (ar k l) h):=by
 rw [TM,TM]
 by_cases h1:l2.length=q
 ·by_cases h2:l.length=q
  ·rw [al h1,al h2,gt,cO,a67]
   simp only [b0V,JH,a8t,gt]
   rw [h1,h2,TM,Pa,al rfl,al (show 0+q<=q by omega),gt,cO]
   rw [List.take_zero,bj,gB (by rw [JH];omega),bW]
  ·rw [ag h2,Bool.and_false,bf];rfl
 ·rw [ag h1,jO,bf];rfl
theorem c1K (c:Bool) (x y:Option V) (z:Option (List V)):rs1 (br c x y) z=br c (rs1 x z) (rs1 y z):=by cases c<;>rfl
theorem c07 (keep raw:Bool) (m:Nat) (c:Bool) (x y:Option (List V)):a34 keep raw m h (br c x y)=br c (a34 keep raw m h x) (a34 keep raw m h y):=by cases c<;>rfl
end
end Go.AI
