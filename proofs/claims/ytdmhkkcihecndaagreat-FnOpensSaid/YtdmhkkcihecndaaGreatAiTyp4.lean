/- Arrays of whole numbers, as lists: the machine's words on their cells. -/
import Derived.Test.YtdmhkkcihecndaaGreatAiTyp3
set_option linter.unusedVariables false
set_option linter.unusedSimpArgs false
namespace Go.AI
def ar (k:IntKind) (l:List Int):List V:=l.map fun n=> .lit (.int k n)
def nZ (n:Nat):List Int:=List.replicate n 0
def zar (k:IntKind) (n:Nat):List Value:=List.replicate n (.int k 0)
def Sg (k:IntKind):Nat→List Int→List (Nat×Nat×Opd)
 |_,[]=>[]
 |i,c::r=>(i,1,.c (.int k c))::Sg k (i+1) r
theorem Zj (x:Int):UInt8.ofInt (IntKind.u8.wrap x)=UInt8.ofInt x:=by
 have h:=oz (IntKind.u8.wrap x)
 have h2:=oz x
 have h3:IntKind.u8.wrap (IntKind.u8.wrap x)=IntKind.u8.wrap x:=by
  simp [IntKind.wrap,IntKind.bits,IntKind.signed]
 apply UInt8.toNat.inj
 rw [h3] at h
 omega
theorem a2R (l:List UInt8) (i:Nat) (a b:Int):vz (rws eU8 l) i [.lit (.int .u8 (vX .u8 a b))]=rws eU8 (l.set i (UInt8.ofInt (vX .u8 a b))):=by
 unfold vX;rw [a8k,Zj]
theorem a7s {h:aw} {bs:List Nat}:fzK h bs dR=dR:=rfl
theorem ZR {α:Type} {l r:List α} {q:Nat} (hq:l.length=q):(OG l 0 (min r.length q) r).length=q:=by
 subst hq
 simp only [OG,List.length_append,List.length_take,List.length_drop]
 omega
section
variable {C:ba} {ow:dg} {ev:Opd→V} {h:aw} {n:Nat} {k:IntKind} {l l2:List Int}
theorem Em:(ar k l).length=l.length:=by simp [ar]
theorem ox (a:Int):ar k (a::l)= .lit (.int k a)::ar k l:=rfl
theorem b6j:(ar k l).map V.cz=ar k l:=by
 induction l with
 |nil=>rfl
 |cons a l ih=>rw [ox,List.map_cons,ih];rfl
theorem b4m (ids:List Nat):(ar k l).map (unV ids)=ar k l:=by
 induction l with
 |nil=>rfl
 |cons a l ih=>rw [ox,List.map_cons,ih];rfl
theorem a7R (ids:List Nat):(ar k l).map (mm ids)=ar k l:=by
 induction l with
 |nil=>rfl
 |cons a l ih=>rw [ox,List.map_cons,ih];rfl
theorem b4A (bs:List Nat):(ar k l).map (fzC h bs)=ar k l:=by
 induction l with
 |nil=>rfl
 |cons a l ih=>rw [ox,List.map_cons,ih];rfl
theorem a1c:(ar k l).all V.cell=true:=by
 induction l with
 |nil=>rfl
 |cons a l ih=>rw [ox,List.all_cons,ih];rfl
theorem a5d:(ar k l).all py=true:=by
 induction l with
 |nil=>rfl
 |cons a l ih=>rw [ox,List.all_cons,ih];rfl
theorem a7c (m:Nat) (kp:List Nat):qA h m kp (ar k l)=some (ar k l):=by
 induction l with
 |nil=>rfl
 |cons a l ih=>rw [ox,Nl,ih];rfl
theorem a7B (m:Nat) (kp:List Nat):xk h m kp (ar k l)=some (ar k l):=by
 induction l with
 |nil=>rfl
 |cons a l ih=>rw [ox,OX,ih];rfl
theorem a9R (ids:List Nat):mP h ids (ar k l)=some (ar k l,ids):=by
 induction l with
 |nil=>rfl
 |cons a l ih=>rw [ox,Mb,a7o,Vw,ih];rfl
theorem b5i (own:Bool) (ids:List Nat):cB h own ids (ar k l)=some (ar k l,ids,[]):=by
 induction l with
 |nil=>rfl
 |cons a l ih=>rw [ox,Dw,a4W,QR,ih];rfl
theorem a2k:(V.agg (ar k l)).cells=ar k l:=rfl
theorem b1g (i:Nat):part none (ar k l) i=(l[i]?).bind fun x=>some (.lit (.int k x)):=by
 simp only [part,ar,List.getElem?_map]
 cases l[i]? <;>rfl
def b5A (m:Nat) (k:IntKind) (l:List Int):Option V:=part (some m) (ar k l) 0
theorem a4w (m:Nat):part (some m) (ar k l) 0=br (Nat.beq l.length m) (some (.agg (ar k l))) (b5A m k l):=by
 rw [Ns]
 by_cases hm:l.length=m
 ·subst hm
  simp only [part,Em,decide_true,aR]
  rw [if_pos (by omega),List.drop_zero,List.take_of_length_le (by rw [Em];omega)]
 ·rw [decide_eq_false hm,ak];rfl
theorem b3y (c:Bool) (x y:Option V):ldS (br c x y)=br c (ldS x) (ldS y):=by cases c<;>rfl
theorem a5P (k:IntKind) (m q:Nat):aj C ow (.alloc (zar k m)) ev h q=frO (h q) q ⟨m,true,[ar k (nZ m)]⟩ (.ptr q 0 0 1):=by
 rw [a0U]
 have h1:(zar k m).all aS=true:=by simp [zar,aS]
 have h2:(zar k m).map V.lit=ar k (nZ m):=by simp [zar,ar,nZ]
 rw [h1,aR,h2]
 simp [zar]
theorem a2N (k:IntKind) (m q:Nat):aj C ow (.build (zar k m) []) ev h q=some (.agg (ar k (nZ m)),[]):=by
 rw [U5]
 have h1:(zar k m).all aS=true:=by simp [zar,aS]
 have h2:(zar k m).map V.lit=ar k (nZ m):=by simp [zar,ar,nZ]
 rw [h1,aR,h2];rfl
theorem Fy (f:Nat→V): ∀(cs:List Int) (i:Nat),en (Opd.ev f) (Sg k i cs)=(cs.zipIdx i).map fun p=>(p.2,1,.lit (.int k p.1))
 |[],i=>rfl
 |c::cs,i=>by
  show (i,1,_)::en _ (Sg k (i+1) cs)=_
  rw [Fy f cs (i+1)];rfl
theorem QD: ∀(cs:List Int) (pre:List Int),D1 (ar k (pre++List.replicate cs.length 0)) ((cs.zipIdx pre.length).map fun p=>(p.2,1,.lit (.int k p.1)))=some (ar k (pre++cs))
 |[],pre=>by simp [D1]
 |c::cs,pre=>by
  have ih:=QD cs (pre++[c])
  simp only [List.zipIdx_cons,List.map_cons,D1]
  rw [if_pos ⟨rfl,by rw [Em,List.length_append,List.length_replicate,List.length_cons];omega,rfl⟩]
  have e1:(ar k (pre++List.replicate (c::cs).length 0)).take pre.length=ar k pre:=by simp [ar]
  have e2:(ar k (pre++List.replicate (c::cs).length 0)).drop (pre.length+1)=ar k (List.replicate cs.length 0):=by
   simp [ar,List.drop_append]
  rw [e1,e2]
  have e3:ar k pre++((V.lit (.int k c)).cells++ar k (List.replicate cs.length 0))=ar k ((pre++[c])++List.replicate cs.length 0):=by simp [ar,V.cells]
  have e4:pre++c::cs=(pre++[c])++cs:=by simp
  rw [e3,e4, ←ih]
  simp
theorem a8n (st:St) (k:IntKind) (m q:Nat) (cs:List Int) (hm:Nat.beq cs.length m=true):aj C ow (.build (zar k m) (Sg k 0 cs)) st.ev h q=some (.agg (ar k cs),[]):=by
 show aj C ow (.build (zar k m) (Sg k 0 cs)) (Opd.ev st.get) h q=some (.agg (ar k cs),[])
 have hm:=Nat.eq_of_beq_eq_true hm
 subst hm
 have h1:(zar k cs.length).all aS=true:=by simp [zar,aS]
 have h2:(zar k cs.length).map V.lit=ar k (List.replicate cs.length 0):=by simp [zar,ar]
 rw [U5,h1,aR,h2,Fy, ←OA]
 have:=QD (k:=k) cs []
 simp only [List.nil_append,List.length_nil] at this
 rw [this];rfl
theorem b4p (m b o:Nat) (x:Int):stO (some ⟨m,true,[ar k l]⟩) b 1 0 o 1 (.lit (.int k x)) h=br (decide (o<l.length)) (some (.undef,[(b,⟨m,true,[ar k (l.set o x)]⟩)])) none:=by
 rw [YC]
 simp only [QL,List.length_cons,List.length_nil,Em,List.all_cons,XM,List.all_nil,Bool.and_true]
 have e0:Nat.beq (0+1) 1=true:=rfl
 rw [e0,Bool.true_and,KE]
 by_cases ho:o<l.length
 ·rw [decide_eq_true (show o+1≤l.length by omega),decide_eq_true ho,aR,aR]
  have:(ar k l).take o++([V.lit (.int k x)]++(ar k l).drop (o+1))=ar k (l.set o x):=by
   rw [List.set_eq_take_append_cons_drop,if_pos ho];simp [ar]
  rw [this]
 ·rw [decide_eq_false (show ¬o+1≤l.length by omega),decide_eq_false ho,ak,ak]
def b7p (m b q:Nat) (x:V) (row:List V) (h:aw):Option (V×Upd):=stO (some ⟨m,true,[row]⟩) b q 0 0 1 x h
theorem a8H (m b q:Nat):stO (some ⟨m,true,[ar k l]⟩) b q 0 0 1 (.agg (ar k l2)) h=br (Nat.beq l2.length q&&Nat.beq l.length q) (some (.undef,[(b,⟨m,true,[ar k l2]⟩)])) (b7p m b q (.agg (ar k l2)) (ar k l) h):=by
 rw [Ns,Ns]
 by_cases h1:l2.length=q
 ·by_cases h2:l.length=q
  ·rw [decide_eq_true h1,decide_eq_true h2,Bool.and_true,aR,YC]
   simp only [a2k,Em,a1c,Bool.and_true]
   rw [h1,h2,Ns,KE,decide_eq_true rfl,decide_eq_true (show 0+q≤q by omega),Bool.and_true,aR]
   rw [List.take_zero,List.nil_append,List.drop_eq_nil_of_le (by rw [Em];omega),List.append_nil]
  ·rw [decide_eq_false h2,Bool.and_false,ak];rfl
 ·rw [decide_eq_false h1,Bool.false_and,ak];rfl
theorem b3w (c:Bool) (x y:Option V) (z:Option (List V)):rs1 (br c x y) z=br c (rs1 x z) (rs1 y z):=by cases c<;>rfl
theorem b1G (keep raw:Bool) (m:Nat) (c:Bool) (x y:Option (List V)):UU keep raw m h (br c x y)=br c (UU keep raw m h x) (UU keep raw m h y):=by cases c<;>rfl
end
end Go.AI
