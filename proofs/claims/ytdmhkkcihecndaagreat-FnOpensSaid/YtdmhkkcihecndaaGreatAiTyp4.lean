/- Arrays of whole numbers, as lists: the machine's words on their cells. -/
import Derived.Test.YtdmhkkcihecndaaGreatAiTyp3
set_option linter.unusedVariables false
set_option linter.unusedSimpArgs false
namespace Go.AI
def ar (k:IntKind) (l:List Int):List V:=l.map fun n=> .lit (.int k n)
def nZ (n:Nat):List Int:=List.replicate n 0
def zar (k:IntKind) (n:Nat):List Value:=List.replicate n (.int k 0)
def QR (k:IntKind):Nat→List Int→List (Nat×Nat×Opd)
 |_,[]=>[]
 |i,c::r=>(i,1,.c (.int k c))::QR k (i+1) r
theorem UC (x:Int):UInt8.ofInt (IntKind.u8.wrap x)=UInt8.ofInt x:=by
 have h:=nD (IntKind.u8.wrap x)
 have h2:=nD x
 have h3:IntKind.u8.wrap (IntKind.u8.wrap x)=IntKind.u8.wrap x:=by
  simp [IntKind.wrap,IntKind.bits,IntKind.signed]
 apply UInt8.toNat.inj
 rw [h3] at h
 omega
theorem XW (l:List UInt8) (i:Nat) (a b:Int):KU (rws eU8 l) i [.lit (.int .u8 (uq .u8 a b))]=rws eU8 (l.set i (UInt8.ofInt (uq .u8 a b))):=by
 unfold uq;rw [Zu,UC]
theorem UO {α:Type} {l r:List α} {q:Nat} (hq:l.length=q):(Ko l 0 (min r.length q) r).length=q:=by
 subst hq
 simp only [Ko,List.length_append,List.length_take,List.length_drop]
 omega
section
variable {C:aY} {ow:cY} {ev:Opd→V} {h:au} {n:Nat} {k:IntKind} {l l2:List Int}
theorem CM:(ar k l).length=l.length:=by simp [ar]
theorem nJ (a:Int):ar k (a::l)= .lit (.int k a)::ar k l:=rfl
theorem a7j:(ar k l).map V.cz=ar k l:=by
 induction l with
 |nil=>rfl
 |cons a l ih=>rw [nJ,List.map_cons,ih];rfl
theorem a59 (ids:List Nat):(ar k l).map (unV ids)=ar k l:=by
 induction l with
 |nil=>rfl
 |cons a l ih=>rw [nJ,List.map_cons,ih];rfl
theorem a0I (ids:List Nat):(ar k l).map (w9 ids)=ar k l:=by
 induction l with
 |nil=>rfl
 |cons a l ih=>rw [nJ,List.map_cons,ih];rfl
theorem a5K (bs:List Nat):(ar k l).map (fzC h bs)=ar k l:=by
 induction l with
 |nil=>rfl
 |cons a l ih=>rw [nJ,List.map_cons,ih];rfl
theorem X3:(ar k l).all V.cell=true:=by
 induction l with
 |nil=>rfl
 |cons a l ih=>rw [nJ,List.all_cons,ih];rfl
theorem a1j:(ar k l).all zb=true:=by
 induction l with
 |nil=>rfl
 |cons a l ih=>rw [nJ,List.all_cons,ih];rfl
theorem ZR (m:Nat) (kp:List Nat):sJ h m kp (ar k l)=some (ar k l):=by
 induction l with
 |nil=>rfl
 |cons a l ih=>rw [nJ,KG,ih];rfl
theorem a0g (m:Nat) (kp:List Nat):xQ h m kp (ar k l)=some (ar k l):=by
 induction l with
 |nil=>rfl
 |cons a l ih=>rw [nJ,JB,ih];rfl
theorem a31 (ids:List Nat):mL h ids (ar k l)=some (ar k l,ids):=by
 induction l with
 |nil=>rfl
 |cons a l ih=>rw [nJ,Mj,a09,To,ih];rfl
theorem a5q (own:Bool) (ids:List Nat):cF h own ids (ar k l)=some (ar k l,ids,[]):=by
 induction l with
 |nil=>rfl
 |cons a l ih=>rw [nJ,BO,a07,Oq,ih];rfl
theorem Yi:(V.agg (ar k l)).cells=ar k l:=rfl
theorem a2y (i:Nat):part none (ar k l) i=(l[i]?).bind fun x=>some (.lit (.int k x)):=by
 simp only [part,ar,List.getElem?_map]
 cases l[i]? <;>rfl
def a7n (m:Nat) (k:IntKind) (l:List Int):Option V:=part (some m) (ar k l) 0
theorem a0l (m:Nat):part (some m) (ar k l) 0=br (Nat.beq l.length m) (some (.agg (ar k l))) (a7n m k l):=by
 rw [L5]
 by_cases hm:l.length=m
 ·subst hm
  simp only [part,CM,decide_true,aQ]
  rw [if_pos (by omega),List.drop_zero,List.take_of_length_le (by rw [CM];omega)]
 ·rw [decide_eq_false hm,aj];rfl
theorem a67 (c:Bool) (x y:Option V):ldS (br c x y)=br c (ldS x) (ldS y):=by cases c<;>rfl
theorem a0k (k:IntKind) (m q:Nat):an C ow (.alloc (zar k m)) ev h q=frO (h q) q ⟨m,true,[ar k (nZ m)]⟩ (.ptr q 0 0 1):=by
 rw [Wp]
 have h1:(zar k m).all bf=true:=by simp [zar,bf]
 have h2:(zar k m).map V.lit=ar k (nZ m):=by simp [zar,ar,nZ]
 rw [h1,aQ,h2]
 simp [zar]
theorem XY (k:IntKind) (m q:Nat):an C ow (.build (zar k m) []) ev h q=some (.agg (ar k (nZ m)),[]):=by
 rw [PV]
 have h1:(zar k m).all bf=true:=by simp [zar,bf]
 have h2:(zar k m).map V.lit=ar k (nZ m):=by simp [zar,ar,nZ]
 rw [h1,aQ,h2];rfl
theorem D9 (f:Nat→V): ∀(cs:List Int) (i:Nat),fR (Opd.ev f) (QR k i cs)=(cs.zipIdx i).map fun p=>(p.2,1,.lit (.int k p.1))
 |[],i=>rfl
 |c::cs,i=>by
  show (i,1,_)::fR _ (QR k (i+1) cs)=_
  rw [D9 f cs (i+1)];rfl
theorem O0: ∀(cs:List Int) (pre:List Int),C7 (ar k (pre++List.replicate cs.length 0)) ((cs.zipIdx pre.length).map fun p=>(p.2,1,.lit (.int k p.1)))=some (ar k (pre++cs))
 |[],pre=>by simp [C7]
 |c::cs,pre=>by
  have ih:=O0 cs (pre++[c])
  simp only [List.zipIdx_cons,List.map_cons,C7]
  rw [if_pos ⟨rfl,by rw [CM,List.length_append,List.length_replicate,List.length_cons];omega,rfl⟩]
  have e1:(ar k (pre++List.replicate (c::cs).length 0)).take pre.length=ar k pre:=by simp [ar]
  have e2:(ar k (pre++List.replicate (c::cs).length 0)).drop (pre.length+1)=ar k (List.replicate cs.length 0):=by
   simp [ar,List.drop_append]
  rw [e1,e2]
  have e3:ar k pre++((V.lit (.int k c)).cells++ar k (List.replicate cs.length 0))=ar k ((pre++[c])++List.replicate cs.length 0):=by simp [ar,V.cells]
  have e4:pre++c::cs=(pre++[c])++cs:=by simp
  rw [e3,e4, ←ih]
  simp
theorem a0Y (st:St) (k:IntKind) (m q:Nat) (cs:List Int) (hm:Nat.beq cs.length m=true):an C ow (.build (zar k m) (QR k 0 cs)) st.ev h q=some (.agg (ar k cs),[]):=by
 show an C ow (.build (zar k m) (QR k 0 cs)) (Opd.ev st.get) h q=some (.agg (ar k cs),[])
 have hm:=Nat.eq_of_beq_eq_true hm
 subst hm
 have h1:(zar k cs.length).all bf=true:=by simp [zar,bf]
 have h2:(zar k cs.length).map V.lit=ar k (List.replicate cs.length 0):=by simp [zar,ar]
 rw [PV,h1,aQ,h2,D9, ←Lv]
 have:=O0 (k:=k) cs []
 simp only [List.nil_append,List.length_nil] at this
 rw [this];rfl
theorem a58 (m b o:Nat) (x:Int):stO (some ⟨m,true,[ar k l]⟩) b 1 0 o 1 (.lit (.int k x)) h=br (decide (o<l.length)) (some (.undef,[(b,⟨m,true,[ar k (l.set o x)]⟩)])) none:=by
 rw [Ux]
 simp only [OQ,List.length_cons,List.length_nil,CM,List.all_cons,Ug,List.all_nil,Bool.and_true]
 have e0:Nat.beq (0+1) 1=true:=rfl
 rw [e0,Bool.true_and,IF]
 by_cases ho:o<l.length
 ·rw [decide_eq_true (show o+1≤l.length by omega),decide_eq_true ho,aQ,aQ]
  have:(ar k l).take o++([V.lit (.int k x)]++(ar k l).drop (o+1))=ar k (l.set o x):=by
   rw [List.set_eq_take_append_cons_drop,if_pos ho];simp [ar]
  rw [this]
 ·rw [decide_eq_false (show ¬o+1≤l.length by omega),decide_eq_false ho,aj,aj]
def a80 (m b q:Nat) (x:V) (row:List V) (h:au):Option (V×Upd):=stO (some ⟨m,true,[row]⟩) b q 0 0 1 x h
theorem a2b (m b q:Nat):stO (some ⟨m,true,[ar k l]⟩) b q 0 0 1 (.agg (ar k l2)) h=br (Nat.beq l2.length q&&Nat.beq l.length q) (some (.undef,[(b,⟨m,true,[ar k l2]⟩)])) (a80 m b q (.agg (ar k l2)) (ar k l) h):=by
 rw [L5,L5]
 by_cases h1:l2.length=q
 ·by_cases h2:l.length=q
  ·rw [decide_eq_true h1,decide_eq_true h2,Bool.and_true,aQ,Ux]
   simp only [Yi,CM,X3,Bool.and_true]
   rw [h1,h2,L5,IF,decide_eq_true rfl,decide_eq_true (show 0+q≤q by omega),Bool.and_true,aQ]
   rw [List.take_zero,List.nil_append,List.drop_eq_nil_of_le (by rw [CM];omega),List.append_nil]
  ·rw [decide_eq_false h2,Bool.and_false,aj];rfl
 ·rw [decide_eq_false h1,Bool.false_and,aj];rfl
theorem a4Q (c:Bool) (x y:Option V) (z:Option (List V)):rs1 (br c x y) z=br c (rs1 x z) (rs1 y z):=by cases c<;>rfl
theorem a3N (keep raw:Bool) (m:Nat) (c:Bool) (x y:Option (List V)):UZ keep raw m h (br c x y)=br c (UZ keep raw m h x) (UZ keep raw m h y):=by cases c<;>rfl
end
end Go.AI
