/- Arrays of whole numbers, as lists: the machine's words on their cells. -/
import Derived.Test.YtgjlndaebhaciaaAiTyp3
set_option linter.unusedVariables false
set_option linter.unusedSimpArgs false
namespace Go.AI
def ar (k:IntKind) (l:List Int):List V:=l.map fun n=> .lit (.int k n)
def nZ (n:Nat):List Int:=List.replicate n 0
def zar (k:IntKind) (n:Nat):List Value:=List.replicate n (.int k 0)
def v8 (k:IntKind):Nat→List Int→List (Nat×Nat×Opd)
 |_,[]=>[]
 |i,c::r=>(i,1,.c (.int k c))::v8 k (i+1) r
theorem dL (x:Int):UInt8.ofInt (IntKind.u8.wrap x)=UInt8.ofInt x:=by
 have h:=gI (IntKind.u8.wrap x)
 have h2:=gI x
 have h3:IntKind.u8.wrap (IntKind.u8.wrap x)=IntKind.u8.wrap x:=by
  simp [IntKind.wrap,IntKind.bits,IntKind.signed]
 apply UInt8.toNat.inj
 rw [h3] at h
 omega
theorem Cy (l:List UInt8) (i:Nat) (a b:Int):cI (rws eU8 l) i [.lit (.int .u8 (sA .u8 a b))]=rws eU8 (l.set i (UInt8.ofInt (sA .u8 a b))):=by
 unfold sA;rw [sH,dL]
theorem AS (l:List UInt8) (a b:Int):bD [.lit (.int .u8 (sA .u8 a b))] (rws eU8 l)=rws eU8 (UInt8.ofInt (sA .u8 a b)::l):=by
 unfold sA;rw [oI,dL]
theorem zH (l:List UInt8) (i:Nat) (a b:Int):cI (rws eU8 l) i [.lit (.int .u8 (qp .u8 a b))]=rws eU8 (l.set i (UInt8.ofInt (qp .u8 a b))):=by
 unfold qp;rw [sH,dL]
theorem yP (l:List UInt8) (a b:Int):bD [.lit (.int .u8 (qp .u8 a b))] (rws eU8 l)=rws eU8 (UInt8.ofInt (qp .u8 a b)::l):=by
 unfold qp;rw [oI,dL]
theorem zn (l:List UInt8) (i:Nat) (a b:Int):cI (rws eU8 l) i [.lit (.int .u8 (pc .u8 a b))]=rws eU8 (l.set i (UInt8.ofInt (pc .u8 a b))):=by
 unfold pc;rw [sH,dL]
theorem xt (l:List UInt8) (a b:Int):bD [.lit (.int .u8 (pc .u8 a b))] (rws eU8 l)=rws eU8 (UInt8.ofInt (pc .u8 a b)::l):=by
 unfold pc;rw [oI,dL]
theorem AZ (l:List UInt8) (i:Nat) (a b:Int):cI (rws eU8 l) i [.lit (.int .u8 (da .u8 a b))]=rws eU8 (l.set i (UInt8.ofInt (da .u8 a b))):=by
 unfold da;rw [sH,dL]
theorem xA (l:List UInt8) (a b:Int):bD [.lit (.int .u8 (da .u8 a b))] (rws eU8 l)=rws eU8 (UInt8.ofInt (da .u8 a b)::l):=by
 unfold da;rw [oI,dL]
theorem Gx {h:ah} {bs:List Nat}:fzK h bs eD=eD:=rfl
theorem CH {α:Type} {l r:List α} {s q:Nat} (hq:l.length=q):(ub l s (min r.length (q-s)) r).length=q:=by
 subst hq
 simp only [ub,List.length_append,List.length_take,List.length_drop]
 omega
theorem A8 {α:Type} {l r:List α} {q:Nat} (hq:l.length=q):(ub l 0 (min r.length q) r).length=q:=by
 subst hq
 simp only [ub,List.length_append,List.length_take,List.length_drop]
 omega
section
variable {C:aB} {ow:be} {ev:Opd→V} {h:ah} {n:Nat} {k:IntKind} {l l2:List Int}
theorem od:(ar k l).length=l.length:=by simp [ar]
theorem SD:ar k []=[]:=rfl
theorem fC (a:Int):ar k (a::l)= .lit (.int k a)::ar k l:=rfl
theorem R1:(ar k l).map V.cz=ar k l:=by
 induction l with
 |nil=>rfl
 |cons a l ih=>rw [fC,List.map_cons,ih];rfl
theorem N4 (ids:List Nat):(ar k l).map (unV ids)=ar k l:=by
 induction l with
 |nil=>rfl
 |cons a l ih=>rw [fC,List.map_cons,ih];rfl
theorem HT (ids:List Nat):(ar k l).map (du ids)=ar k l:=by
 induction l with
 |nil=>rfl
 |cons a l ih=>rw [fC,List.map_cons,ih];rfl
theorem PI (bs:List Nat):(ar k l).map (fzC h bs)=ar k l:=by
 induction l with
 |nil=>rfl
 |cons a l ih=>rw [fC,List.map_cons,ih];rfl
theorem Bw:(ar k l).all V.cell=true:=by
 induction l with
 |nil=>rfl
 |cons a l ih=>rw [fC,List.all_cons,ih];rfl
theorem He:(ar k l).all eK=true:=by
 induction l with
 |nil=>rfl
 |cons a l ih=>rw [fC,List.all_cons,ih];rfl
theorem Jd:(ar k l).flatMap ft=[]:=by
 induction l with
 |nil=>rfl
 |cons a l ih=>rw [fC,List.flatMap_cons,ih];rfl
theorem FV (m:Nat) (kp:List Nat):il h m kp (ar k l)=some (ar k l):=by
 induction l with
 |nil=>rfl
 |cons a l ih=>rw [fC,tg,ih];rfl
theorem Gt (m:Nat) (kp:List Nat):jj h m kp (ar k l)=some (ar k l):=by
 induction l with
 |nil=>rfl
 |cons a l ih=>rw [fC,j0,ih];rfl
theorem Jc (ids:List Nat):fk h ids (ar k l)=some (ar k l,ids):=by
 induction l with
 |nil=>rfl
 |cons a l ih=>rw [fC,j4,sE,lW,ih];rfl
theorem OD (own:Bool) (ids:List Nat):bm h own ids (ar k l)=some (ar k l,ids,[]):=by
 induction l with
 |nil=>rfl
 |cons a l ih=>rw [fC,nH,J2,uk,ih];rfl
theorem DE:(V.agg (ar k l)).cells=ar k l:=rfl
theorem Ls (i:Nat):part none (ar k l) i=(l[i]?).bind fun x=>some (.lit (.int k x)):=by
 simp only [part,ar,List.getElem?_map]
 cases l[i]? <;>rfl
def RH (m:Nat) (k:IntKind) (l:List Int):Option V:=part (some m) (ar k l) 0
theorem GI (m:Nat):part (some m) (ar k l) 0=br (Nat.beq l.length m) (some (.agg (ar k l))) (RH m k l):=by
 rw [oQ]
 by_cases hm:l.length=m
 ·subst hm
  simp only [part,od,decide_true,bH]
  rw [if_pos (by omega),List.drop_zero,List.take_of_length_le (by rw [od];omega)]
 ·rw [decide_eq_false hm,aX];rfl
theorem Qm (c:Bool) (x y:Option V):ldS (br c x y)=br c (ldS x) (ldS y):=by cases c<;>rfl
theorem FH (k:IntKind) (m q:Nat):ae C ow (.alloc (zar k m)) ev h q=frO (h q) q ⟨m,true,[ar k (nZ m)]⟩ (.ptr q 0 0 1):=by
 rw [Bs]
 have h1:(zar k m).all aC=true:=by simp [zar,aC]
 have h2:(zar k m).map V.lit=ar k (nZ m):=by simp [zar,ar,nZ]
 rw [h1,bH,h2]
 simp [zar]
theorem Dh (k:IntKind) (m q:Nat):ae C ow (.build (zar k m) []) ev h q=some (.agg (ar k (nZ m)),[]):=by
 rw [uQ]
 have h1:(zar k m).all aC=true:=by simp [zar,aC]
 have h2:(zar k m).map V.lit=ar k (nZ m):=by simp [zar,ar,nZ]
 rw [h1,bH,h2];rfl
theorem oG (f:Nat→V): ∀(cs:List Int) (i:Nat),ca (Opd.ev f) (v8 k i cs)=(cs.zipIdx i).map fun p=>(p.2,1,.lit (.int k p.1))
 |[],i=>rfl
 |c::cs,i=>by
  show (i,1,_)::ca _ (v8 k (i+1) cs)=_
  rw [oG f cs (i+1)];rfl
theorem ut: ∀(cs:List Int) (pre:List Int),ny (ar k (pre++List.replicate cs.length 0)) ((cs.zipIdx pre.length).map fun p=>(p.2,1,.lit (.int k p.1)))=some (ar k (pre++cs))
 |[],pre=>by simp [ny]
 |c::cs,pre=>by
  have ih:=ut cs (pre++[c])
  simp only [List.zipIdx_cons,List.map_cons,ny]
  rw [if_pos ⟨rfl,by rw [od,List.length_append,List.length_replicate,List.length_cons];omega,rfl⟩]
  have e1:(ar k (pre++List.replicate (c::cs).length 0)).take pre.length=ar k pre:=by simp [ar]
  have e2:(ar k (pre++List.replicate (c::cs).length 0)).drop (pre.length+1)=ar k (List.replicate cs.length 0):=by
   simp [ar,List.drop_append]
  rw [e1,e2]
  have e3:ar k pre++((V.lit (.int k c)).cells++ar k (List.replicate cs.length 0))=ar k ((pre++[c])++List.replicate cs.length 0):=by simp [ar,V.cells]
  have e4:pre++c::cs=(pre++[c])++cs:=by simp
  rw [e3,e4, ←ih]
  simp
theorem IQ (st:St) (k:IntKind) (m q:Nat) (cs:List Int) (hm:Nat.beq cs.length m=true):ae C ow (.build (zar k m) (v8 k 0 cs)) st.ev h q=some (.agg (ar k cs),[]):=by
 show ae C ow (.build (zar k m) (v8 k 0 cs)) (Opd.ev st.get) h q=some (.agg (ar k cs),[])
 have hm:=Nat.eq_of_beq_eq_true hm
 subst hm
 have h1:(zar k cs.length).all aC=true:=by simp [zar,aC]
 have h2:(zar k cs.length).map V.lit=ar k (List.replicate cs.length 0):=by simp [zar,ar]
 rw [uQ,h1,bH,h2,oG, ←s7]
 have:=ut (k:=k) cs []
 simp only [List.nil_append,List.length_nil] at this
 rw [this];rfl
theorem Be: ∀(cs:List Int) (i:Nat) (f:Nat→V),(((v8 k i cs).map (·.2.2)).map (Opd.ev f)).flatMap bL=[]
 |[],_,_=>rfl
 |c::cs,i,f=>by
  show bL (.lit _)++(((v8 k (i+1) cs).map (·.2.2)).map (Opd.ev f)).flatMap bL=[]
  rw [Be cs (i+1) f];rfl
theorem Dc (st:St) (k:IntKind) (m:Nat) (cs:List Int):bS ow (.build (zar k m) (v8 k 0 cs)) st.ev h=[]:=by
 show bS ow (.build (zar k m) (v8 k 0 cs)) (Opd.ev st.get) h=[]
 rw [xI,xm,Be]
theorem Na (m b o:Nat) (x:Int):stO (some ⟨m,true,[ar k l]⟩) b 1 0 o 1 (.lit (.int k x)) h=br (decide (o<l.length)) (some (.undef,[(b,⟨m,true,[ar k (l.set o x)]⟩)])) none:=by
 rw [zJ]
 simp only [ur,List.length_cons,List.length_nil,od,List.all_cons,yG,List.all_nil,Bool.and_true]
 have e0:Nat.beq (0+1) 1=true:=rfl
 rw [e0,Bool.true_and,oY]
 by_cases ho:o<l.length
 ·rw [decide_eq_true (show o+1≤l.length by omega),decide_eq_true ho,bH,bH]
  have:(ar k l).take o++([V.lit (.int k x)]++(ar k l).drop (o+1))=ar k (l.set o x):=by
   rw [List.set_eq_take_append_cons_drop,if_pos ho];simp [ar]
  rw [this]
 ·rw [decide_eq_false (show ¬o+1≤l.length by omega),decide_eq_false ho,aX,aX]
def SZ (m b q:Nat) (x:V) (row:List V) (h:ah):Option (V×Upd):=stO (some ⟨m,true,[row]⟩) b q 0 0 1 x h
theorem KE (m b q:Nat):stO (some ⟨m,true,[ar k l]⟩) b q 0 0 1 (.agg (ar k l2)) h=br (Nat.beq l2.length q&&Nat.beq l.length q) (some (.undef,[(b,⟨m,true,[ar k l2]⟩)])) (SZ m b q (.agg (ar k l2)) (ar k l) h):=by
 rw [oQ,oQ]
 by_cases h1:l2.length=q
 ·by_cases h2:l.length=q
  ·rw [decide_eq_true h1,decide_eq_true h2,Bool.and_true,bH,zJ]
   simp only [DE,od,Bw,Bool.and_true]
   rw [h1,h2,oQ,oY,decide_eq_true rfl,decide_eq_true (show 0+q≤q by omega),Bool.and_true,bH]
   rw [List.take_zero,List.nil_append,List.drop_eq_nil_of_le (by rw [od];omega),List.append_nil]
  ·rw [decide_eq_false h2,Bool.and_false,aX];rfl
 ·rw [decide_eq_false h1,Bool.false_and,aX];rfl
theorem PH (c:Bool) (x y:Option V) (z:Option (List V)):rs1 (br c x y) z=br c (rs1 x z) (rs1 y z):=by cases c<;>rfl
theorem L8 (c:Bool) (v:V) (x y:Option (List V)):rs1 (some v) (br c x y)=br c (rs1 (some v) x) (rs1 (some v) y):=by cases c<;>rfl
theorem KX (keep raw:Bool) (m:Nat) (c:Bool) (x y:Option (List V)):wL keep raw m h (br c x y)=br c (wL keep raw m h x) (wL keep raw m h y):=by cases c<;>rfl
end
end Go.AI
