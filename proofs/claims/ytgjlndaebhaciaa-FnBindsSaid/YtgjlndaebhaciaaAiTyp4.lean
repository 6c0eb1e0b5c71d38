/- Arrays of whole numbers, as lists: the machine's words on their cells. -/
import Derived.Test.YtgjlndaebhaciaaAiTyp3
set_option linter.unusedVariables false
set_option linter.unusedSimpArgs false
namespace Go.AI
def ar (k:IntKind) (l:List Int):List V:=l.map fun n=> .lit (.int k n)
def nZ (n:Nat):List Int:=List.replicate n 0
def zar (k:IntKind) (n:Nat):List Value:=List.replicate n (.int k 0)
def yP (k:IntKind):Nat→List Int→List (Nat×Nat×Opd)
 |_,[]=>[]
 |i,c::r=>(i,1,.c (.int k c))::yP k (i+1) r
theorem gH (x:Int):UInt8.ofInt (IntKind.u8.wrap x)=UInt8.ofInt x:=by
 have h:=kv (IntKind.u8.wrap x)
 have h2:=kv x
 have h3:IntKind.u8.wrap (IntKind.u8.wrap x)=IntKind.u8.wrap x:=by
  simp [IntKind.wrap,IntKind.bits,IntKind.signed]
 apply UInt8.toNat.inj
 rw [h3] at h
 omega
theorem Lx (l:List UInt8) (i:Nat) (a b:Int):eo (rws eU8 l) i [.lit (.int .u8 (vp .u8 a b))]=rws eU8 (l.set i (UInt8.ofInt (vp .u8 a b))):=by
 unfold vp;rw [A1,gH]
theorem HW (l:List UInt8) (a b:Int):cA [.lit (.int .u8 (vp .u8 a b))] (rws eU8 l)=rws eU8 (UInt8.ofInt (vp .u8 a b)::l):=by
 unfold vp;rw [vS,gH]
theorem Hl (l:List UInt8) (i:Nat) (a b:Int):eo (rws eU8 l) i [.lit (.int .u8 (bi .u8 a b))]=rws eU8 (l.set i (UInt8.ofInt (bi .u8 a b))):=by
 unfold bi;rw [A1,gH]
theorem EI (l:List UInt8) (a b:Int):cA [.lit (.int .u8 (bi .u8 a b))] (rws eU8 l)=rws eU8 (UInt8.ofInt (bi .u8 a b)::l):=by
 unfold bi;rw [vS,gH]
theorem If (l:List UInt8) (i:Nat) (a b:Int):eo (rws eU8 l) i [.lit (.int .u8 (jD .u8 a b))]=rws eU8 (l.set i (UInt8.ofInt (jD .u8 a b))):=by
 unfold jD;rw [A1,gH]
theorem FP (l:List UInt8) (a b:Int):cA [.lit (.int .u8 (jD .u8 a b))] (rws eU8 l)=rws eU8 (UInt8.ofInt (jD .u8 a b)::l):=by
 unfold jD;rw [vS,gH]
theorem Hh (l:List UInt8) (i:Nat) (a b:Int):eo (rws eU8 l) i [.lit (.int .u8 (bo .u8 a b))]=rws eU8 (l.set i (UInt8.ofInt (bo .u8 a b))):=by
 unfold bo;rw [A1,gH]
theorem EH (l:List UInt8) (a b:Int):cA [.lit (.int .u8 (bo .u8 a b))] (rws eU8 l)=rws eU8 (UInt8.ofInt (bo .u8 a b)::l):=by
 unfold bo;rw [vS,gH]
theorem Qf {h:ak} {bs:List Nat}:fzK h bs gu=gu:=rfl
theorem Ma {α:Type} {l r:List α} {s q:Nat} (hq:l.length=q):(pl l s (min r.length (q-s)) r).length=q:=by
 subst hq
 simp only [pl,List.length_append,List.length_take,List.length_drop]
 omega
theorem GF {α:Type} {l r:List α} {q:Nat} (hq:l.length=q):(pl l 0 (min r.length q) r).length=q:=by
 subst hq
 simp only [pl,List.length_append,List.length_take,List.length_drop]
 omega
section
variable {C:aM} {ow:bK} {ev:Opd→V} {h:ak} {n:Nat} {k:IntKind} {l l2:List Int}
theorem uE:(ar k l).length=l.length:=by simp [ar]
theorem a2a:ar k []=[]:=rfl
theorem jf (a:Int):ar k (a::l)= .lit (.int k a)::ar k l:=rfl
theorem a1a:(ar k l).map V.cz=ar k l:=by
 induction l with
 |nil=>rfl
 |cons a l ih=>rw [jf,List.map_cons,ih];rfl
theorem ZI (ids:List Nat):(ar k l).map (unV ids)=ar k l:=by
 induction l with
 |nil=>rfl
 |cons a l ih=>rw [jf,List.map_cons,ih];rfl
theorem Qa (ids:List Nat):(ar k l).map (fR ids)=ar k l:=by
 induction l with
 |nil=>rfl
 |cons a l ih=>rw [jf,List.map_cons,ih];rfl
theorem ZN (bs:List Nat):(ar k l).map (fzC h bs)=ar k l:=by
 induction l with
 |nil=>rfl
 |cons a l ih=>rw [jf,List.map_cons,ih];rfl
theorem IT:(ar k l).all V.cell=true:=by
 induction l with
 |nil=>rfl
 |cons a l ih=>rw [jf,List.all_cons,ih];rfl
theorem ME:(ar k l).all ir=true:=by
 induction l with
 |nil=>rfl
 |cons a l ih=>rw [jf,List.all_cons,ih];rfl
theorem Uz:(ar k l).flatMap ju=[]:=by
 induction l with
 |nil=>rfl
 |cons a l ih=>rw [jf,List.flatMap_cons,ih];rfl
theorem Qm (m:Nat) (kp:List Nat):lX h m kp (ar k l)=some (ar k l):=by
 induction l with
 |nil=>rfl
 |cons a l ih=>rw [jf,yx,ih];rfl
theorem PC (m:Nat) (kp:List Nat):o9 h m kp (ar k l)=some (ar k l):=by
 induction l with
 |nil=>rfl
 |cons a l ih=>rw [jf,nf,ih];rfl
theorem SS (ids:List Nat):j3 h ids (ar k l)=some (ar k l,ids):=by
 induction l with
 |nil=>rfl
 |cons a l ih=>rw [jf,nL,Ad,sN,ih];rfl
theorem YW (own:Bool) (ids:List Nat):bS h own ids (ar k l)=some (ar k l,ids,[]):=by
 induction l with
 |nil=>rfl
 |cons a l ih=>rw [jf,tN,OP,Bi,ih];rfl
theorem Lu:(V.agg (ar k l)).cells=ar k l:=rfl
theorem RX (i:Nat):part none (ar k l) i=(l[i]?).bind fun x=>some (.lit (.int k x)):=by
 simp only [part,ar,List.getElem?_map]
 cases l[i]? <;>rfl
def a0M (m:Nat) (k:IntKind) (l:List Int):Option V:=part (some m) (ar k l) 0
theorem P7 (m:Nat):part (some m) (ar k l) 0=br (Nat.beq l.length m) (some (.agg (ar k l))) (a0M m k l):=by
 rw [vV]
 by_cases hm:l.length=m
 ·subst hm
  simp only [part,uE,decide_true,bR]
  rw [if_pos (by omega),List.drop_zero,List.take_of_length_le (by rw [uE];omega)]
 ·rw [decide_eq_false hm,aO];rfl
theorem XC (c:Bool) (x y:Option V):ldS (br c x y)=br c (ldS x) (ldS y):=by cases c<;>rfl
theorem Oo (k:IntKind) (m q:Nat):ag C ow (.alloc (zar k m)) ev h q=frO (h q) q ⟨m,true,[ar k (nZ m)]⟩ (.ptr q 0 0 1):=by
 rw [JA]
 have h1:(zar k m).all aN=true:=by simp [zar,aN]
 have h2:(zar k m).map V.lit=ar k (nZ m):=by simp [zar,ar,nZ]
 rw [h1,bR,h2]
 simp [zar]
theorem LZ (k:IntKind) (m q:Nat):ag C ow (.build (zar k m) []) ev h q=some (.agg (ar k (nZ m)),[]):=by
 rw [DN]
 have h1:(zar k m).all aN=true:=by simp [zar,aN]
 have h2:(zar k m).map V.lit=ar k (nZ m):=by simp [zar,ar,nZ]
 rw [h1,bR,h2];rfl
theorem vN (f:Nat→V): ∀(cs:List Int) (i:Nat),di (Opd.ev f) (yP k i cs)=(cs.zipIdx i).map fun p=>(p.2,1,.lit (.int k p.1))
 |[],i=>rfl
 |c::cs,i=>by
  show (i,1,_)::di _ (yP k (i+1) cs)=_
  rw [vN f cs (i+1)];rfl
theorem Bf: ∀(cs:List Int) (pre:List Int),tI (ar k (pre++List.replicate cs.length 0)) ((cs.zipIdx pre.length).map fun p=>(p.2,1,.lit (.int k p.1)))=some (ar k (pre++cs))
 |[],pre=>by simp [tI]
 |c::cs,pre=>by
  have ih:=Bf cs (pre++[c])
  simp only [List.zipIdx_cons,List.map_cons,tI]
  rw [if_pos ⟨rfl,by rw [uE,List.length_append,List.length_replicate,List.length_cons];omega,rfl⟩]
  have e1:(ar k (pre++List.replicate (c::cs).length 0)).take pre.length=ar k pre:=by simp [ar]
  have e2:(ar k (pre++List.replicate (c::cs).length 0)).drop (pre.length+1)=ar k (List.replicate cs.length 0):=by
   simp [ar,List.drop_append]
  rw [e1,e2]
  have e3:ar k pre++((V.lit (.int k c)).cells++ar k (List.replicate cs.length 0))=ar k ((pre++[c])++List.replicate cs.length 0):=by simp [ar,V.cells]
  have e4:pre++c::cs=(pre++[c])++cs:=by simp
  rw [e3,e4, ←ih]
  simp
theorem OL (st:St) (k:IntKind) (m q:Nat) (cs:List Int) (hm:Nat.beq cs.length m=true):ag C ow (.build (zar k m) (yP k 0 cs)) st.ev h q=some (.agg (ar k cs),[]):=by
 show ag C ow (.build (zar k m) (yP k 0 cs)) (Opd.ev st.get) h q=some (.agg (ar k cs),[])
 have hm:=Nat.eq_of_beq_eq_true hm
 subst hm
 have h1:(zar k cs.length).all aN=true:=by simp [zar,aN]
 have h2:(zar k cs.length).map V.lit=ar k (List.replicate cs.length 0):=by simp [zar,ar]
 rw [DN,h1,bR,h2,vN, ←zT]
 have:=Bf (k:=k) cs []
 simp only [List.nil_append,List.length_nil] at this
 rw [this];rfl
theorem Jx: ∀(cs:List Int) (i:Nat) (f:Nat→V),(((yP k i cs).map (·.2.2)).map (Opd.ev f)).flatMap cH=[]
 |[],_,_=>rfl
 |c::cs,i,f=>by
  show cH (.lit _)++(((yP k (i+1) cs).map (·.2.2)).map (Opd.ev f)).flatMap cH=[]
  rw [Jx cs (i+1) f];rfl
theorem Me (st:St) (k:IntKind) (m:Nat) (cs:List Int):cU ow (.build (zar k m) (yP k 0 cs)) st.ev h=[]:=by
 show cU ow (.build (zar k m) (yP k 0 cs)) (Opd.ev st.get) h=[]
 rw [Ek,F5,Jx]
theorem WB (m b o:Nat) (x:Int):stO (some ⟨m,true,[ar k l]⟩) b 1 0 o 1 (.lit (.int k x)) h=br (decide (o<l.length)) (some (.undef,[(b,⟨m,true,[ar k (l.set o x)]⟩)])) none:=by
 rw [GD]
 simp only [BB,List.length_cons,List.length_nil,uE,List.all_cons,DY,List.all_nil,Bool.and_true]
 have e0:Nat.beq (0+1) 1=true:=rfl
 rw [e0,Bool.true_and,w7]
 by_cases ho:o<l.length
 ·rw [decide_eq_true (show o+1≤l.length by omega),decide_eq_true ho,bR,bR]
  have:(ar k l).take o++([V.lit (.int k x)]++(ar k l).drop (o+1))=ar k (l.set o x):=by
   rw [List.set_eq_take_append_cons_drop,if_pos ho];simp [ar]
  rw [this]
 ·rw [decide_eq_false (show ¬o+1≤l.length by omega),decide_eq_false ho,aO,aO]
def a2b (m b q:Nat) (x:V) (row:List V) (h:ak):Option (V×Upd):=stO (some ⟨m,true,[row]⟩) b q 0 0 1 x h
theorem Ut (m b q:Nat):stO (some ⟨m,true,[ar k l]⟩) b q 0 0 1 (.agg (ar k l2)) h=br (Nat.beq l2.length q&&Nat.beq l.length q) (some (.undef,[(b,⟨m,true,[ar k l2]⟩)])) (a2b m b q (.agg (ar k l2)) (ar k l) h):=by
 rw [vV,vV]
 by_cases h1:l2.length=q
 ·by_cases h2:l.length=q
  ·rw [decide_eq_true h1,decide_eq_true h2,Bool.and_true,bR,GD]
   simp only [Lu,uE,IT,Bool.and_true]
   rw [h1,h2,vV,w7,decide_eq_true rfl,decide_eq_true (show 0+q≤q by omega),Bool.and_true,bR]
   rw [List.take_zero,List.nil_append,List.drop_eq_nil_of_le (by rw [uE];omega),List.append_nil]
  ·rw [decide_eq_false h2,Bool.and_false,aO];rfl
 ·rw [decide_eq_false h1,Bool.false_and,aO];rfl
theorem YR (c:Bool) (x y:Option V) (z:Option (List V)):rs1 (br c x y) z=br c (rs1 x z) (rs1 y z):=by cases c<;>rfl
theorem SG (c:Bool) (v:V) (x y:Option (List V)):rs1 (some v) (br c x y)=br c (rs1 (some v) x) (rs1 (some v) y):=by cases c<;>rfl
theorem UE (keep raw:Bool) (m:Nat) (c:Bool) (x y:Option (List V)):E9 keep raw m h (br c x y)=br c (E9 keep raw m h x) (E9 keep raw m h y):=by cases c<;>rfl
end
end Go.AI
