/- Part. -/
import Derived.Test.YtdnkignjanfikaaGreatAiTyp3
set_option linter.unusedVariables false
set_option linter.unusedSimpArgs false
namespace Go.AI
def ar (k:IntKind) (l:List Int):List V:=l.map fun n=> .lit (.int k n)
def nZ (n:Nat):List Int:=List.replicate n 0
def zar (k:IntKind) (n:Nat):List Value:=List.replicate n (.int k 0)
def Wp (k:IntKind):Nat->List Int->List (Nat×Nat×Opd)
 |_,[]=>[]
 |i,c::r=>(i,1,.c (.int k c))::Wp k (i+1) r
theorem o1 (x:Int):UInt8.ofInt (IntKind.u8.wrap x)=UInt8.ofInt x:=by
 a h:=tT (IntKind.u8.wrap x)
 a c:=tT x
 a b:IntKind.u8.wrap (IntKind.u8.wrap x)=IntKind.u8.wrap x:=by
   simp [IntKind.wrap,IntKind.bits,IntKind.signed]
 apply UInt8.toNat.inj
 rw [b] at h
 omega
theorem a8A (l:List UInt8) (i:Nat) (a b:Int):hZ (rws eU8 l) i [.lit (.int .u8 (xi .u8 a b))]=rws eU8 (l.set i (UInt8.ofInt (xi .u8 a b))):=by
 unfold xi;rw [RE,o1]
theorem a4i (l:List UInt8) (a b:Int):dt [.lit (.int .u8 (xi .u8 a b))] (rws eU8 l)=rws eU8 (UInt8.ofInt (xi .u8 a b)::l):=by
 unfold xi;rw [KH,o1]
theorem a4v (l:List UInt8) (i:Nat) (a b:Int):hZ (rws eU8 l) i [.lit (.int .u8 (cM .u8 a b))]=rws eU8 (l.set i (UInt8.ofInt (cM .u8 a b))):=by
 unfold cM;rw [RE,o1]
theorem a2D (l:List UInt8) (a b:Int):dt [.lit (.int .u8 (cM .u8 a b))] (rws eU8 l)=rws eU8 (UInt8.ofInt (cM .u8 a b)::l):=by
 unfold cM;rw [KH,o1]
theorem a5q (l:List UInt8) (i:Nat) (a b:Int):hZ (rws eU8 l) i [.lit (.int .u8 (nh .u8 a b))]=rws eU8 (l.set i (UInt8.ofInt (nh .u8 a b))):=by
 unfold nh;rw [RE,o1]
theorem a2x (l:List UInt8) (a b:Int):dt [.lit (.int .u8 (nh .u8 a b))] (rws eU8 l)=rws eU8 (UInt8.ofInt (nh .u8 a b)::l):=by
 unfold nh;rw [KH,o1]
theorem a61 (l:List UInt8) (i:Nat) (a b:Int):hZ (rws eU8 l) i [.lit (.int .u8 (bC .u8 a b))]=rws eU8 (l.set i (UInt8.ofInt (bC .u8 a b))):=by
 unfold bC;rw [RE,o1]
theorem a1M (l:List UInt8) (a b:Int):dt [.lit (.int .u8 (bC .u8 a b))] (rws eU8 l)=rws eU8 (UInt8.ofInt (bC .u8 a b)::l):=by
 unfold bC;rw [KH,o1]
theorem b3z {h:b8} {bs:List Nat}:fzK h bs my=my:=rfl
theorem a9B {α:Type} {l r:List α} {s q:Nat} (a:l.length=q):(Cj l s (min r.length (q-s)) r).length=q:=by
 subst a
 simp only [Cj,ab,bc,dQ]
 omega
theorem a5m {α:Type} {l r:List α} {q:Nat} (a:l.length=q):(Cj l 0 (min r.length q) r).length=q:=by
 subst a
 simp only [Cj,ab,bc,dQ]
 omega
section
variable {C:ce} {ow:ec} {ev:Opd->V} {h:b8} {n:Nat} {k:IntKind} {l l2:List Int}
theorem Jm:(ar k l).length=l.length:=by simp [ar]
theorem rY (a:Int):ar k (a::l)= .lit (.int k a)::ar k l:=rfl
theorem c7A:(ar k l).map V.cz=ar k l:=by
 induction l with
 |nil=>rfl
 |cons a l ih=>rw [rY,aP,ih];rfl
theorem c45 (ids:List Nat):(ar k l).map (unV ids)=ar k l:=by
 induction l with
 |nil=>rfl
 |cons a l ih=>rw [rY,aP,ih];rfl
theorem b2b (ids:List Nat):(ar k l).map (mI ids)=ar k l:=by
 induction l with
 |nil=>rfl
 |cons a l ih=>rw [rY,aP,ih];rfl
theorem c4X (bs:List Nat):(ar k l).map (fzC h bs)=ar k l:=by
 induction l with
 |nil=>rfl
 |cons a l ih=>rw [rY,aP,ih];rfl
theorem a7a:(ar k l).all V.cell=true:=by
 induction l with
 |nil=>rfl
 |cons a l ih=>rw [rY,cj,ih];rfl
theorem b6s:(ar k l).all pN=true:=by
 induction l with
 |nil=>rfl
 |cons a l ih=>rw [rY,cj,ih];rfl
theorem b9V:(ar k l).flatMap si=[]:=by
 induction l with
 |nil=>rfl
 |cons a l ih=>rw [rY,cm,ih];rfl
theorem b2D (m:Nat) (kp:List Nat):wz h m kp (ar k l)=some (ar k l):=by
 induction l with
 |nil=>rfl
 |cons a l ih=>rw [rY,Rp,ih];rfl
theorem b6E (m:Nat) (kp:List Nat):Ak h m kp (ar k l)=some (ar k l):=by
 induction l with
 |nil=>rfl
 |cons a l ih=>rw [rY,ye,ih];rfl
theorem b7G (ids:List Nat):re h ids (ar k l)=some (ar k l,ids):=by
 induction l with
 |nil=>rfl
 |cons a l ih=>rw [rY,y0,PA,Gu,ih];rfl
theorem c47 (own:Bool) (ids:List Nat):eO h own ids (ar k l)=some (ar k l,ids,[]):=by
 induction l with
 |nil=>rfl
 |cons a l ih=>rw [rY,IP,b6e,Vx,ih];rfl
theorem b0t:(V.agg (ar k l)).cells=ar k l:=rfl
theorem c0n (i:Nat):part none (ar k l) i=(l[i]?).bind fun x=>some (.lit (.int k x)):=by
 simp only [part,ar,aW]
 cases l[i]? <;>rfl
def c7E (m:Nat) (k:IntKind) (l:List Int):Option V:=part (some m) (ar k l) 0
theorem b2P (m:Nat):part (some m) (ar k l) 0=br (Nat.beq l.length m) (some (.agg (ar k l))) (c7E m k l):=by
 rw [LU]
 by_cases a:l.length=m
 ·subst a
  simp only [part,Jm,decide_true,cL]
  rw [ae (by omega),fR,bZ (by rw [Jm];omega)]
 ·rw [ag a,ba];rfl
theorem c4z (c:Bool) (x y:Option V):ldS (br c x y)=br c (ldS x) (ldS y):=by cases c<;>rfl
theorem b5m (k:IntKind) (m q:Nat):aM C ow (.alloc (zar k m)) ev h q=frO (h q) q ⟨m,true,[ar k (nZ m)]⟩ (.ptr q 0 0 1):=by
 rw [a7x]
 a b:(zar k m).all ci=true:=by simp [zar,ci]
 a c:(zar k m).map V.lit=ar k (nZ m):=by simp [zar,ar,nZ]
 rw [b,cL,c]
 simp [zar]
theorem a9h (k:IntKind) (m q:Nat):aM C ow (.build (zar k m) []) ev h q=some (.agg (ar k (nZ m)),[]):=by
 rw [Yi]
 a b:(zar k m).all ci=true:=by simp [zar,ci]
 a c:(zar k m).map V.lit=ar k (nZ m):=by simp [zar,ar,nZ]
 rw [b,cL,c];rfl
theorem Lz (f:Nat->V): ∀(cs:List Int) (i:Nat),iG (Opd.ev f) (Wp k i cs)=(cs.zipIdx i).map fun p=>(p.2,1,.lit (.int k p.1))
 |[],i=>rfl
 |c::cs,i=>by
  show (i,1,_)::iG _ (Wp k (i+1) cs)=_
  rw [Lz f cs (i+1)];rfl
theorem W7: ∀(cs:List Int) (pre:List Int),IX (ar k (pre++List.replicate cs.length 0)) ((cs.zipIdx pre.length).map fun p=>(p.2,1,.lit (.int k p.1)))=some (ar k (pre++cs))
 |[],pre=>by simp [IX]
 |c::cs,pre=>by
  a ih:=W7 cs (pre++[c])
  simp only [List.zipIdx_cons,aP,IX]
  rw [ae ⟨rfl,by rw [Jm,ab,aS,ah];omega,rfl⟩]
  a e1:(ar k (pre++List.replicate (c::cs).length 0)).take pre.length=ar k pre:=by simp [ar]
  a e2:(ar k (pre++List.replicate (c::cs).length 0)).drop (pre.length+1)=ar k (List.replicate cs.length 0):=by
    simp [ar,List.drop_append]
  rw [e1,e2]
  a b:ar k pre++((V.lit (.int k c)).cells++ar k (List.replicate cs.length 0))=ar k ((pre++[c])++List.replicate cs.length 0):=by simp [ar,V.cells]
  a d:pre++c::cs=(pre++[c])++cs:=by simp
  rw [b,d, <-ih]
  simp
theorem b43 (st:St) (k:IntKind) (m q:Nat) (cs:List Int) (b:Nat.beq cs.length m=true):aM C ow (.build (zar k m) (Wp k 0 cs)) st.ev h q=some (.agg (ar k cs),[]):=by
 show aM C ow (.build (zar k m) (Wp k 0 cs)) (Opd.ev st.get) h q=some (.agg (ar k cs),[])
 a b:=hJ b
 subst b
 a c:(zar k cs.length).all ci=true:=by simp [zar,ci]
 a d:(zar k cs.length).map V.lit=ar k (List.replicate cs.length 0):=by simp [zar,ar]
 rw [Yi,c,cL,d,Lz, <-Qh]
 a:=W7 (k:=k) cs []
 simp only [bg,ai] at this
 rw [this];rfl
theorem c3x (m b o:Nat) (x:Int):stO (some ⟨m,true,[ar k l]⟩) b 1 0 o 1 (.lit (.int k x)) h=br (decide (o<l.length)) (some (.undef,[(b,⟨m,true,[ar k (l.set o x)]⟩)])) none:=by
 rw [a3W]
 simp only [Wi,ah,ai,Jm,cj,a1g,ox,fy]
 a e0:Nat.beq (0+1) 1=true:=rfl
 rw [e0,aN,Ki]
 by_cases c:o<l.length
 ·rw [al (show o+1<=l.length by omega),al c,cL,cL]
  a:(ar k l).take o++([V.lit (.int k x)]++(ar k l).drop (o+1))=ar k (l.set o x):=by
   rw [List.set_eq_take_append_cons_drop,ae c];simp [ar]
  rw [this]
 ·rw [ag (show ¬o+1<=l.length by omega),ag c,ba,ba]
def c8B (m b q:Nat) (x:V) (row:List V) (h:b8):Option (V×Upd):=stO (some ⟨m,true,[row]⟩) b q 0 0 1 x h
theorem b7w (m b q:Nat):stO (some ⟨m,true,[ar k l]⟩) b q 0 0 1 (.agg (ar k l2)) h=br (Nat.beq l2.length q&&Nat.beq l.length q) (some (.undef,[(b,⟨m,true,[ar k l2]⟩)])) (c8B m b q (.agg (ar k l2)) (ar k l) h):=by
 rw [LU,LU]
 by_cases a:l2.length=q
 ·by_cases c:l.length=q
  ·rw [al a,al c,fy,cL,a3W]
   simp only [b0t,Jm,a7a,fy]
   rw [a,c,LU,Ki,al rfl,al (show 0+q<=q by omega),fy,cL]
   rw [List.take_zero,bg,gt (by rw [Jm];omega),bV]
  ·rw [ag c,Bool.and_false,ba];rfl
 ·rw [ag a,jA,ba];rfl
theorem c5r (c:Bool) (x y:Option V) (z:Option (List V)):rs1 (br c x y) z=br c (rs1 x z) (rs1 y z):=by cases c<;>rfl
theorem b9M (c:Bool) (v:V) (x y:Option (List V)):rs1 (some v) (br c x y)=br c (rs1 (some v) x) (rs1 (some v) y):=by cases c<;>rfl
theorem b9y (keep raw:Bool) (m:Nat) (c:Bool) (x y:Option (List V)):a0G keep raw m h (br c x y)=br c (a0G keep raw m h x) (a0G keep raw m h y):=by cases c<;>rfl
end
end Go.AI
