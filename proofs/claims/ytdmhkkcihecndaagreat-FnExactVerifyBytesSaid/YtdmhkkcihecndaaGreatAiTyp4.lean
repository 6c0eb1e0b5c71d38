/- Arrays of whole numbers, as lists: the machine's words on their cells. -/
import Derived.Test.YtdmhkkcihecndaaGreatAiTyp3
set_option linter.unusedVariables false
set_option linter.unusedSimpArgs false
namespace Go.AI
def ar (k:IntKind) (l:List Int):List V:=l.map fun n=> .lit (.int k n)
def nZ (n:Nat):List Int:=List.replicate n 0
def zar (k:IntKind) (n:Nat):List Value:=List.replicate n (.int k 0)
def WX (k:IntKind):Nat→List Int→List (Nat×Nat×Opd)
 |_,[]=>[]
 |i,c::r=>(i,1,.c (.int k c))::WX k (i+1) r
theorem a0L (x:Int):UInt8.ofInt (IntKind.u8.wrap x)=UInt8.ofInt x:=by
 have h:=qw (IntKind.u8.wrap x)
 have h2:=qw x
 have h3:IntKind.u8.wrap (IntKind.u8.wrap x)=IntKind.u8.wrap x:=by
  simp [IntKind.wrap,IntKind.bits,IntKind.signed]
 apply UInt8.toNat.inj
 rw [h3] at h
 omega
theorem a5y (l:List UInt8) (i:Nat) (a b:Int):wS (rws eU8 l) i [.lit (.int .u8 (wR .u8 a b))]=rws eU8 (l.set i (UInt8.ofInt (wR .u8 a b))):=by
 unfold wR;rw [a80,a0L]
theorem a94 {h:al} {bs:List Nat}:fzK h bs jR=jR:=rfl
theorem a5E {α:Type} {l r:List α} {s q:Nat} (hq:l.length=q):(xk l s (min r.length (q-s)) r).length=q:=by
 subst hq
 simp only [xk,List.length_append,List.length_take,List.length_drop]
 omega
theorem a0D {α:Type} {l r:List α} {q:Nat} (hq:l.length=q):(xk l 0 (min r.length q) r).length=q:=by
 subst hq
 simp only [xk,List.length_append,List.length_take,List.length_drop]
 omega
section
variable {C:aZ} {ow:dI} {ev:Opd→V} {h:al} {n:Nat} {k:IntKind} {l l2:List Int}
theorem GR:(ar k l).length=l.length:=by simp [ar]
theorem od (a:Int):ar k (a::l)= .lit (.int k a)::ar k l:=rfl
theorem b9C:(ar k l).map V.cz=ar k l:=by
 induction l with
 |nil=>rfl
 |cons a l ih=>rw [od,List.map_cons,ih];rfl
theorem b7U (ids:List Nat):(ar k l).map (unV ids)=ar k l:=by
 induction l with
 |nil=>rfl
 |cons a l ih=>rw [od,List.map_cons,ih];rfl
theorem a7f (ids:List Nat):(ar k l).map (mc ids)=ar k l:=by
 induction l with
 |nil=>rfl
 |cons a l ih=>rw [od,List.map_cons,ih];rfl
theorem b7G (bs:List Nat):(ar k l).map (fzC h bs)=ar k l:=by
 induction l with
 |nil=>rfl
 |cons a l ih=>rw [od,List.map_cons,ih];rfl
theorem a3S:(ar k l).all V.cell=true:=by
 induction l with
 |nil=>rfl
 |cons a l ih=>rw [od,List.all_cons,ih];rfl
theorem a7d:(ar k l).all oH=true:=by
 induction l with
 |nil=>rfl
 |cons a l ih=>rw [od,List.all_cons,ih];rfl
theorem b3G:(ar k l).flatMap rX=[]:=by
 induction l with
 |nil=>rfl
 |cons a l ih=>rw [od,List.flatMap_cons,ih];rfl
theorem a9q (m:Nat) (kp:List Nat):sk h m kp (ar k l)=some (ar k l):=by
 induction l with
 |nil=>rfl
 |cons a l ih=>rw [od,On,ih];rfl
theorem a82 (m:Nat) (kp:List Nat):yi h m kp (ar k l)=some (ar k l):=by
 induction l with
 |nil=>rfl
 |cons a l ih=>rw [od,PH,ih];rfl
theorem b1S (ids:List Nat):o8 h ids (ar k l)=some (ar k l,ids):=by
 induction l with
 |nil=>rfl
 |cons a l ih=>rw [od,Pt,b1i,Yg,ih];rfl
theorem b6R (own:Bool) (ids:List Nat):cL h own ids (ar k l)=some (ar k l,ids,[]):=by
 induction l with
 |nil=>rfl
 |cons a l ih=>rw [od,Fv,a9Y,SS,ih];rfl
theorem a6s:(V.agg (ar k l)).cells=ar k l:=rfl
theorem b31 (i:Nat):part none (ar k l) i=(l[i]?).bind fun x=>some (.lit (.int k x)):=by
 simp only [part,ar,List.getElem?_map]
 cases l[i]? <;>rfl
def c0b (m:Nat) (k:IntKind) (l:List Int):Option V:=part (some m) (ar k l) 0
theorem b08 (m:Nat):part (some m) (ar k l) 0=br (Nat.beq l.length m) (some (.agg (ar k l))) (c0b m k l):=by
 rw [Mg]
 by_cases hm:l.length=m
 ·subst hm
  simp only [part,GR,decide_true,bF]
  rw [if_pos (by omega),List.drop_zero,List.take_of_length_le (by rw [GR];omega)]
 ·rw [decide_eq_false hm,aw];rfl
theorem b7s (c:Bool) (x y:Option V):ldS (br c x y)=br c (ldS x) (ldS y):=by cases c<;>rfl
theorem a7i (k:IntKind) (m q:Nat):ah C ow (.alloc (zar k m)) ev h q=frO (h q) q ⟨m,true,[ar k (nZ m)]⟩ (.ptr q 0 0 1):=by
 rw [a3T]
 have h1:(zar k m).all aQ=true:=by simp [zar,aQ]
 have h2:(zar k m).map V.lit=ar k (nZ m):=by simp [zar,ar,nZ]
 rw [h1,bF,h2]
 simp [zar]
theorem a5Q (k:IntKind) (m q:Nat):ah C ow (.build (zar k m) []) ev h q=some (.agg (ar k (nZ m)),[]):=by
 rw [W3]
 have h1:(zar k m).all aQ=true:=by simp [zar,aQ]
 have h2:(zar k m).map V.lit=ar k (nZ m):=by simp [zar,ar,nZ]
 rw [h1,bF,h2];rfl
theorem HG (f:Nat→V): ∀(cs:List Int) (i:Nat),fc (Opd.ev f) (WX k i cs)=(cs.zipIdx i).map fun p=>(p.2,1,.lit (.int k p.1))
 |[],i=>rfl
 |c::cs,i=>by
  show (i,1,_)::fc _ (WX k (i+1) cs)=_
  rw [HG f cs (i+1)];rfl
theorem SW: ∀(cs:List Int) (pre:List Int),ER (ar k (pre++List.replicate cs.length 0)) ((cs.zipIdx pre.length).map fun p=>(p.2,1,.lit (.int k p.1)))=some (ar k (pre++cs))
 |[],pre=>by simp [ER]
 |c::cs,pre=>by
  have ih:=SW cs (pre++[c])
  simp only [List.zipIdx_cons,List.map_cons,ER]
  rw [if_pos ⟨rfl,by rw [GR,List.length_append,List.length_replicate,List.length_cons];omega,rfl⟩]
  have e1:(ar k (pre++List.replicate (c::cs).length 0)).take pre.length=ar k pre:=by simp [ar]
  have e2:(ar k (pre++List.replicate (c::cs).length 0)).drop (pre.length+1)=ar k (List.replicate cs.length 0):=by
   simp [ar,List.drop_append]
  rw [e1,e2]
  have e3:ar k pre++((V.lit (.int k c)).cells++ar k (List.replicate cs.length 0))=ar k ((pre++[c])++List.replicate cs.length 0):=by simp [ar,V.cells]
  have e4:pre++c::cs=(pre++[c])++cs:=by simp
  rw [e3,e4, ←ih]
  simp
theorem a7V (st:St) (k:IntKind) (m q:Nat) (cs:List Int) (hm:Nat.beq cs.length m=true):ah C ow (.build (zar k m) (WX k 0 cs)) st.ev h q=some (.agg (ar k cs),[]):=by
 show ah C ow (.build (zar k m) (WX k 0 cs)) (Opd.ev st.get) h q=some (.agg (ar k cs),[])
 have hm:=Nat.eq_of_beq_eq_true hm
 subst hm
 have h1:(zar k cs.length).all aQ=true:=by simp [zar,aQ]
 have h2:(zar k cs.length).map V.lit=ar k (List.replicate cs.length 0):=by simp [zar,ar]
 rw [W3,h1,bF,h2,HG, ←Qn]
 have:=SW (k:=k) cs []
 simp only [List.nil_append,List.length_nil] at this
 rw [this];rfl
theorem b8k (m b o:Nat) (x:Int):stO (some ⟨m,true,[ar k l]⟩) b 1 0 o 1 (.lit (.int k x)) h=br (decide (o<l.length)) (some (.undef,[(b,⟨m,true,[ar k (l.set o x)]⟩)])) none:=by
 rw [a30]
 simp only [Tz,List.length_cons,List.length_nil,GR,List.all_cons,a0e,List.all_nil,Bool.and_true]
 have e0:Nat.beq (0+1) 1=true:=rfl
 rw [e0,Bool.true_and,Mz]
 by_cases ho:o<l.length
 ·rw [decide_eq_true (show o+1≤l.length by omega),decide_eq_true ho,bF,bF]
  have:(ar k l).take o++([V.lit (.int k x)]++(ar k l).drop (o+1))=ar k (l.set o x):=by
   rw [List.set_eq_take_append_cons_drop,if_pos ho];simp [ar]
  rw [this]
 ·rw [decide_eq_false (show ¬o+1≤l.length by omega),decide_eq_false ho,aw,aw]
def c0x (m b q:Nat) (x:V) (row:List V) (h:al):Option (V×Upd):=stO (some ⟨m,true,[row]⟩) b q 0 0 1 x h
theorem b2U (m b q:Nat):stO (some ⟨m,true,[ar k l]⟩) b q 0 0 1 (.agg (ar k l2)) h=br (Nat.beq l2.length q&&Nat.beq l.length q) (some (.undef,[(b,⟨m,true,[ar k l2]⟩)])) (c0x m b q (.agg (ar k l2)) (ar k l) h):=by
 rw [Mg,Mg]
 by_cases h1:l2.length=q
 ·by_cases h2:l.length=q
  ·rw [decide_eq_true h1,decide_eq_true h2,Bool.and_true,bF,a30]
   simp only [a6s,GR,a3S,Bool.and_true]
   rw [h1,h2,Mg,Mz,decide_eq_true rfl,decide_eq_true (show 0+q≤q by omega),Bool.and_true,bF]
   rw [List.take_zero,List.nil_append,List.drop_eq_nil_of_le (by rw [GR];omega),List.append_nil]
  ·rw [decide_eq_false h2,Bool.and_false,aw];rfl
 ·rw [decide_eq_false h1,Bool.false_and,aw];rfl
theorem b8b (c:Bool) (x y:Option V) (z:Option (List V)):rs1 (br c x y) z=br c (rs1 x z) (rs1 y z):=by cases c<;>rfl
theorem b3w (c:Bool) (v:V) (x y:Option (List V)):rs1 (some v) (br c x y)=br c (rs1 (some v) x) (rs1 (some v) y):=by cases c<;>rfl
theorem b4C (keep raw:Bool) (m:Nat) (c:Bool) (x y:Option (List V)):Y9 keep raw m h (br c x y)=br c (Y9 keep raw m h x) (Y9 keep raw m h y):=by cases c<;>rfl
end
end Go.AI
