/- Arrays of whole numbers, as lists: the machine's words on their cells. -/
import Derived.Test.YtdmhkkcihecndaaGreatAiTyp3
set_option linter.unusedVariables false
set_option linter.unusedSimpArgs false
namespace Go.AI
def ar (k:IntKind) (l:List Int):List V:=l.map fun n=> .lit (.int k n)
def nZ (n:Nat):List Int:=List.replicate n 0
def zar (k:IntKind) (n:Nat):List Value:=List.replicate n (.int k 0)
def Rw (k:IntKind):Nat→List Int→List (Nat×Nat×Opd)
 |_,[]=>[]
 |i,c::r=>(i,1,.c (.int k c))::Rw k (i+1) r
theorem XP (x:Int):UInt8.ofInt (IntKind.u8.wrap x)=UInt8.ofInt x:=by
 have h:=of (IntKind.u8.wrap x)
 have h2:=of x
 have h3:IntKind.u8.wrap (IntKind.u8.wrap x)=IntKind.u8.wrap x:=by
  simp [IntKind.wrap,IntKind.bits,IntKind.signed]
 apply UInt8.toNat.inj
 rw [h3] at h
 omega
theorem a2c (l:List UInt8) (i:Nat) (a b:Int):vk (rws eU8 l) i [.lit (.int .u8 (vh .u8 a b))]=rws eU8 (l.set i (UInt8.ofInt (vh .u8 a b))):=by
 unfold vh;rw [a5I,XP]
theorem a7c {h:ak} {bs:List Nat}:fzK h bs is=is:=rfl
theorem a2y {α:Type} {l r:List α} {s q:Nat} (hq:l.length=q):(wx l s (min r.length (q-s)) r).length=q:=by
 subst hq
 simp only [wx,List.length_append,List.length_take,List.length_drop]
 omega
theorem XG {α:Type} {l r:List α} {q:Nat} (hq:l.length=q):(wx l 0 (min r.length q) r).length=q:=by
 subst hq
 simp only [wx,List.length_append,List.length_take,List.length_drop]
 omega
section
variable {C:aU} {ow:dl} {ev:Opd→V} {h:ak} {n:Nat} {k:IntKind} {l l2:List Int}
theorem Dv:(ar k l).length=l.length:=by simp [ar]
theorem mf (a:Int):ar k (a::l)= .lit (.int k a)::ar k l:=rfl
theorem b6h:(ar k l).map V.cz=ar k l:=by
 induction l with
 |nil=>rfl
 |cons a l ih=>rw [mf,List.map_cons,ih];rfl
theorem b4T (ids:List Nat):(ar k l).map (unV ids)=ar k l:=by
 induction l with
 |nil=>rfl
 |cons a l ih=>rw [mf,List.map_cons,ih];rfl
theorem a73 (ids:List Nat):(ar k l).map (k9 ids)=ar k l:=by
 induction l with
 |nil=>rfl
 |cons a l ih=>rw [mf,List.map_cons,ih];rfl
theorem b3R (bs:List Nat):(ar k l).map (fzC h bs)=ar k l:=by
 induction l with
 |nil=>rfl
 |cons a l ih=>rw [mf,List.map_cons,ih];rfl
theorem a0n:(ar k l).all V.cell=true:=by
 induction l with
 |nil=>rfl
 |cons a l ih=>rw [mf,List.all_cons,ih];rfl
theorem a66:(ar k l).all mu=true:=by
 induction l with
 |nil=>rfl
 |cons a l ih=>rw [mf,List.all_cons,ih];rfl
theorem b1l:(ar k l).flatMap pp=[]:=by
 induction l with
 |nil=>rfl
 |cons a l ih=>rw [mf,List.flatMap_cons,ih];rfl
theorem a63 (m:Nat) (kp:List Nat):q8 h m kp (ar k l)=some (ar k l):=by
 induction l with
 |nil=>rfl
 |cons a l ih=>rw [mf,KQ,ih];rfl
theorem a6D (m:Nat) (kp:List Nat):vW h m kp (ar k l)=some (ar k l):=by
 induction l with
 |nil=>rfl
 |cons a l ih=>rw [mf,Mq,ih];rfl
theorem a8K (ids:List Nat):lK h ids (ar k l)=some (ar k l,ids):=by
 induction l with
 |nil=>rfl
 |cons a l ih=>rw [mf,No,a6f,Wa,ih];rfl
theorem b2b (own:Bool) (ids:List Nat):cy h own ids (ar k l)=some (ar k l,ids,[]):=by
 induction l with
 |nil=>rfl
 |cons a l ih=>rw [mf,CF,a4T,Qi,ih];rfl
theorem a2t:(V.agg (ar k l)).cells=ar k l:=rfl
theorem b0i (i:Nat):part none (ar k l) i=(l[i]?).bind fun x=>some (.lit (.int k x)):=by
 simp only [part,ar,List.getElem?_map]
 cases l[i]? <;>rfl
def b5n (m:Nat) (k:IntKind) (l:List Int):Option V:=part (some m) (ar k l) 0
theorem a5c (m:Nat):part (some m) (ar k l) 0=br (Nat.beq l.length m) (some (.agg (ar k l))) (b5n m k l):=by
 rw [J5]
 by_cases hm:l.length=m
 ·subst hm
  simp only [part,Dv,decide_true,bz]
  rw [if_pos (by omega),List.drop_zero,List.take_of_length_le (by rw [Dv];omega)]
 ·rw [decide_eq_false hm,an];rfl
theorem b2C (c:Bool) (x y:Option V):ldS (br c x y)=br c (ldS x) (ldS y):=by cases c<;>rfl
theorem a50 (k:IntKind) (m q:Nat):ai C ow (.alloc (zar k m)) ev h q=frO (h q) q ⟨m,true,[ar k (nZ m)]⟩ (.ptr q 0 0 1):=by
 rw [ZU]
 have h1:(zar k m).all aN=true:=by simp [zar,aN]
 have h2:(zar k m).map V.lit=ar k (nZ m):=by simp [zar,ar,nZ]
 rw [h1,bz,h2]
 simp [zar]
theorem a1t (k:IntKind) (m q:Nat):ai C ow (.build (zar k m) []) ev h q=some (.agg (ar k (nZ m)),[]):=by
 rw [SD]
 have h1:(zar k m).all aN=true:=by simp [zar,aN]
 have h2:(zar k m).map V.lit=ar k (nZ m):=by simp [zar,ar,nZ]
 rw [h1,bz,h2];rfl
theorem FX (f:Nat→V): ∀(cs:List Int) (i:Nat),ej (Opd.ev f) (Rw k i cs)=(cs.zipIdx i).map fun p=>(p.2,1,.lit (.int k p.1))
 |[],i=>rfl
 |c::cs,i=>by
  show (i,1,_)::ej _ (Rw k (i+1) cs)=_
  rw [FX f cs (i+1)];rfl
theorem QB: ∀(cs:List Int) (pre:List Int),Da (ar k (pre++List.replicate cs.length 0)) ((cs.zipIdx pre.length).map fun p=>(p.2,1,.lit (.int k p.1)))=some (ar k (pre++cs))
 |[],pre=>by simp [Da]
 |c::cs,pre=>by
  have ih:=QB cs (pre++[c])
  simp only [List.zipIdx_cons,List.map_cons,Da]
  rw [if_pos ⟨rfl,by rw [Dv,List.length_append,List.length_replicate,List.length_cons];omega,rfl⟩]
  have e1:(ar k (pre++List.replicate (c::cs).length 0)).take pre.length=ar k pre:=by simp [ar]
  have e2:(ar k (pre++List.replicate (c::cs).length 0)).drop (pre.length+1)=ar k (List.replicate cs.length 0):=by
   simp [ar,List.drop_append]
  rw [e1,e2]
  have e3:ar k pre++((V.lit (.int k c)).cells++ar k (List.replicate cs.length 0))=ar k ((pre++[c])++List.replicate cs.length 0):=by simp [ar,V.cells]
  have e4:pre++c::cs=(pre++[c])++cs:=by simp
  rw [e3,e4, ←ih]
  simp
theorem a45 (st:St) (k:IntKind) (m q:Nat) (cs:List Int) (hm:Nat.beq cs.length m=true):ai C ow (.build (zar k m) (Rw k 0 cs)) st.ev h q=some (.agg (ar k cs),[]):=by
 show ai C ow (.build (zar k m) (Rw k 0 cs)) (Opd.ev st.get) h q=some (.agg (ar k cs),[])
 have hm:=Nat.eq_of_beq_eq_true hm
 subst hm
 have h1:(zar k cs.length).all aN=true:=by simp [zar,aN]
 have h2:(zar k cs.length).map V.lit=ar k (List.replicate cs.length 0):=by simp [zar,ar]
 rw [SD,h1,bz,h2,FX, ←MT]
 have:=QB (k:=k) cs []
 simp only [List.nil_append,List.length_nil] at this
 rw [this];rfl
theorem b2z (m b o:Nat) (x:Int):stO (some ⟨m,true,[ar k l]⟩) b 1 0 o 1 (.lit (.int k x)) h=br (decide (o<l.length)) (some (.undef,[(b,⟨m,true,[ar k (l.set o x)]⟩)])) none:=by
 rw [Xh]
 simp only [Qd,List.length_cons,List.length_nil,Dv,List.all_cons,Vf,List.all_nil,Bool.and_true]
 have e0:Nat.beq (0+1) 1=true:=rfl
 rw [e0,Bool.true_and,JM]
 by_cases ho:o<l.length
 ·rw [decide_eq_true (show o+1≤l.length by omega),decide_eq_true ho,bz,bz]
  have:(ar k l).take o++([V.lit (.int k x)]++(ar k l).drop (o+1))=ar k (l.set o x):=by
   rw [List.set_eq_take_append_cons_drop,if_pos ho];simp [ar]
  rw [this]
 ·rw [decide_eq_false (show ¬o+1≤l.length by omega),decide_eq_false ho,an,an]
def b6Q (m b q:Nat) (x:V) (row:List V) (h:ak):Option (V×Upd):=stO (some ⟨m,true,[row]⟩) b q 0 0 1 x h
theorem b0G (m b q:Nat):stO (some ⟨m,true,[ar k l]⟩) b q 0 0 1 (.agg (ar k l2)) h=br (Nat.beq l2.length q&&Nat.beq l.length q) (some (.undef,[(b,⟨m,true,[ar k l2]⟩)])) (b6Q m b q (.agg (ar k l2)) (ar k l) h):=by
 rw [J5,J5]
 by_cases h1:l2.length=q
 ·by_cases h2:l.length=q
  ·rw [decide_eq_true h1,decide_eq_true h2,Bool.and_true,bz,Xh]
   simp only [a2t,Dv,a0n,Bool.and_true]
   rw [h1,h2,J5,JM,decide_eq_true rfl,decide_eq_true (show 0+q≤q by omega),Bool.and_true,bz]
   rw [List.take_zero,List.nil_append,List.drop_eq_nil_of_le (by rw [Dv];omega),List.append_nil]
  ·rw [decide_eq_false h2,Bool.and_false,an];rfl
 ·rw [decide_eq_false h1,Bool.false_and,an];rfl
theorem b4o (c:Bool) (x y:Option V) (z:Option (List V)):rs1 (br c x y) z=br c (rs1 x z) (rs1 y z):=by cases c<;>rfl
theorem a8a (c:Bool) (v:V) (x y:Option (List V)):rs1 (some v) (br c x y)=br c (rs1 (some v) x) (rs1 (some v) y):=by cases c<;>rfl
theorem a8o (keep raw:Bool) (m:Nat) (c:Bool) (x y:Option (List V)):W7 keep raw m h (br c x y)=br c (W7 keep raw m h x) (W7 keep raw m h y):=by cases c<;>rfl
end
end Go.AI
