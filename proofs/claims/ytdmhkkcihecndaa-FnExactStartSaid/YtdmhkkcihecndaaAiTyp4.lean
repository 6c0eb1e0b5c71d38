/- Arrays of whole numbers, as lists: the machine's words on their cells. -/
import Derived.Test.YtdmhkkcihecndaaAiTyp3
set_option linter.unusedVariables false
set_option linter.unusedSimpArgs false
namespace Go.AI
def ar (k:IntKind) (l:List Int):List V:=l.map fun n=> .lit (.int k n)
def nZ (n:Nat):List Int:=List.replicate n 0
def zar (k:IntKind) (n:Nat):List Value:=List.replicate n (.int k 0)
def tR (k:IntKind):Nat→List Int→List (Nat×Nat×Opd)
 |_,[]=>[]
 |i,c::r=>(i,1,.c (.int k c))::tR k (i+1) r
theorem eU (x:Int):UInt8.ofInt (IntKind.u8.wrap x)=UInt8.ofInt x:=by
 have h:=iR (IntKind.u8.wrap x)
 have h2:=iR x
 have h3:IntKind.u8.wrap (IntKind.u8.wrap x)=IntKind.u8.wrap x:=by
  simp [IntKind.wrap,IntKind.bits,IntKind.signed]
 apply UInt8.toNat.inj
 rw [h3] at h
 omega
theorem HZ (l:List UInt8) (i:Nat) (a b:Int):dS (rws eU8 l) i [.lit (.int .u8 (ov .u8 a b))]=rws eU8 (l.set i (UInt8.ofInt (ov .u8 a b))):=by
 unfold ov;rw [xI,eU]
theorem E2 (l:List UInt8) (a b:Int):bA [.lit (.int .u8 (ov .u8 a b))] (rws eU8 l)=rws eU8 (UInt8.ofInt (ov .u8 a b)::l):=by
 unfold ov;rw [tm,eU]
theorem G2 (l:List UInt8) (i:Nat) (a b:Int):dS (rws eU8 l) i [.lit (.int .u8 (aK .u8 a b))]=rws eU8 (l.set i (UInt8.ofInt (aK .u8 a b))):=by
 unfold aK;rw [xI,eU]
theorem CP (l:List UInt8) (a b:Int):bA [.lit (.int .u8 (aK .u8 a b))] (rws eU8 l)=rws eU8 (UInt8.ofInt (aK .u8 a b)::l):=by
 unfold aK;rw [tm,eU]
theorem EM (l:List UInt8) (i:Nat) (a b:Int):dS (rws eU8 l) i [.lit (.int .u8 (eJ .u8 a b))]=rws eU8 (l.set i (UInt8.ofInt (eJ .u8 a b))):=by
 unfold eJ;rw [xI,eU]
theorem Dx (l:List UInt8) (a b:Int):bA [.lit (.int .u8 (eJ .u8 a b))] (rws eU8 l)=rws eU8 (UInt8.ofInt (eJ .u8 a b)::l):=by
 unfold eJ;rw [tm,eU]
theorem FB (l:List UInt8) (i:Nat) (a b:Int):dS (rws eU8 l) i [.lit (.int .u8 (bf .u8 a b))]=rws eU8 (l.set i (UInt8.ofInt (bf .u8 a b))):=by
 unfold bf;rw [xI,eU]
theorem Cr (l:List UInt8) (a b:Int):bA [.lit (.int .u8 (bf .u8 a b))] (rws eU8 l)=rws eU8 (UInt8.ofInt (bf .u8 a b)::l):=by
 unfold bf;rw [tm,eU]
theorem LJ {h:ag} {bs:List Nat}:fzK h bs fN=fN:=rfl
theorem I8 {α:Type} {l r:List α} {s q:Nat} (hq:l.length=q):(zm l s (min r.length (q-s)) r).length=q:=by
 subst hq
 simp only [zm,List.length_append,List.length_take,List.length_drop]
 omega
theorem ED {α:Type} {l r:List α} {q:Nat} (hq:l.length=q):(zm l 0 (min r.length q) r).length=q:=by
 subst hq
 simp only [zm,List.length_append,List.length_take,List.length_drop]
 omega
section
variable {C:aA} {ow:bP} {ev:Opd→V} {h:ag} {n:Nat} {k:IntKind} {l l2:List Int}
theorem rM:(ar k l).length=l.length:=by simp [ar]
theorem W2:ar k []=[]:=rfl
theorem gK (a:Int):ar k (a::l)= .lit (.int k a)::ar k l:=rfl
theorem UT:(ar k l).map V.cz=ar k l:=by
 induction l with
 |nil=>rfl
 |cons a l ih=>rw [gK,List.map_cons,ih];rfl
theorem U0 (ids:List Nat):(ar k l).map (unV ids)=ar k l:=by
 induction l with
 |nil=>rfl
 |cons a l ih=>rw [gK,List.map_cons,ih];rfl
theorem L8 (ids:List Nat):(ar k l).map (fQ ids)=ar k l:=by
 induction l with
 |nil=>rfl
 |cons a l ih=>rw [gK,List.map_cons,ih];rfl
theorem Ri (bs:List Nat):(ar k l).map (fzC h bs)=ar k l:=by
 induction l with
 |nil=>rfl
 |cons a l ih=>rw [gK,List.map_cons,ih];rfl
theorem Gg:(ar k l).all V.cell=true:=by
 induction l with
 |nil=>rfl
 |cons a l ih=>rw [gK,List.all_cons,ih];rfl
theorem JB:(ar k l).all hK=true:=by
 induction l with
 |nil=>rfl
 |cons a l ih=>rw [gK,List.all_cons,ih];rfl
theorem Ok:(ar k l).flatMap jm=[]:=by
 induction l with
 |nil=>rfl
 |cons a l ih=>rw [gK,List.flatMap_cons,ih];rfl
theorem KG (m:Nat) (kp:List Nat):jz h m kp (ar k l)=some (ar k l):=by
 induction l with
 |nil=>rfl
 |cons a l ih=>rw [gK,ws,ih];rfl
theorem Js (m:Nat) (kp:List Nat):lX h m kp (ar k l)=some (ar k l):=by
 induction l with
 |nil=>rfl
 |cons a l ih=>rw [gK,vX,ih];rfl
theorem QS (ids:List Nat):gU h ids (ar k l)=some (ar k l,ids):=by
 induction l with
 |nil=>rfl
 |cons a l ih=>rw [gK,wS,Kg,Cn,ih];rfl
theorem RU (own:Bool) (ids:List Nat):bq h own ids (ar k l)=some (ar k l,ids,[]):=by
 induction l with
 |nil=>rfl
 |cons a l ih=>rw [gK,rv,JV,zC,ih];rfl
theorem HR:(V.agg (ar k l)).cells=ar k l:=rfl
theorem P8 (i:Nat):part none (ar k l) i=(l[i]?).bind fun x=>some (.lit (.int k x)):=by
 simp only [part,ar,List.getElem?_map]
 cases l[i]? <;>rfl
def UE (m:Nat) (k:IntKind) (l:List Int):Option V:=part (some m) (ar k l) 0
theorem LY (m:Nat):part (some m) (ar k l) 0=br (Nat.beq l.length m) (some (.agg (ar k l))) (UE m k l):=by
 rw [sN]
 by_cases hm:l.length=m
 ·subst hm
  simp only [part,rM,decide_true,bK]
  rw [if_pos (by omega),List.drop_zero,List.take_of_length_le (by rw [rM];omega)]
 ·rw [decide_eq_false hm,aH];rfl
theorem Su (c:Bool) (x y:Option V):ldS (br c x y)=br c (ldS x) (ldS y):=by cases c<;>rfl
theorem Mh (k:IntKind) (m q:Nat):aa C ow (.alloc (zar k m)) ev h q=frO (h q) q ⟨m,true,[ar k (nZ m)]⟩ (.ptr q 0 0 1):=by
 rw [Gr]
 have h1:(zar k m).all aq=true:=by simp [zar,aq]
 have h2:(zar k m).map V.lit=ar k (nZ m):=by simp [zar,ar,nZ]
 rw [h1,bK,h2]
 simp [zar]
theorem IU (k:IntKind) (m q:Nat):aa C ow (.build (zar k m) []) ev h q=some (.agg (ar k (nZ m)),[]):=by
 rw [Bf]
 have h1:(zar k m).all aq=true:=by simp [zar,aq]
 have h2:(zar k m).map V.lit=ar k (nZ m):=by simp [zar,ar,nZ]
 rw [h1,bK,h2];rfl
theorem sL (f:Nat→V): ∀(cs:List Int) (i:Nat),cx (Opd.ev f) (tR k i cs)=(cs.zipIdx i).map fun p=>(p.2,1,.lit (.int k p.1))
 |[],i=>rfl
 |c::cs,i=>by
  show (i,1,_)::cx _ (tR k (i+1) cs)=_
  rw [sL f cs (i+1)];rfl
theorem zA: ∀(cs:List Int) (pre:List Int),rm (ar k (pre++List.replicate cs.length 0)) ((cs.zipIdx pre.length).map fun p=>(p.2,1,.lit (.int k p.1)))=some (ar k (pre++cs))
 |[],pre=>by simp [rm]
 |c::cs,pre=>by
  have ih:=zA cs (pre++[c])
  simp only [List.zipIdx_cons,List.map_cons,rm]
  rw [if_pos ⟨rfl,by rw [rM,List.length_append,List.length_replicate,List.length_cons];omega,rfl⟩]
  have e1:(ar k (pre++List.replicate (c::cs).length 0)).take pre.length=ar k pre:=by simp [ar]
  have e2:(ar k (pre++List.replicate (c::cs).length 0)).drop (pre.length+1)=ar k (List.replicate cs.length 0):=by
   simp [ar,List.drop_append]
  rw [e1,e2]
  have e3:ar k pre++((V.lit (.int k c)).cells++ar k (List.replicate cs.length 0))=ar k ((pre++[c])++List.replicate cs.length 0):=by simp [ar,V.cells]
  have e4:pre++c::cs=(pre++[c])++cs:=by simp
  rw [e3,e4, ←ih]
  simp
theorem LV (st:St) (k:IntKind) (m q:Nat) (cs:List Int) (hm:Nat.beq cs.length m=true):aa C ow (.build (zar k m) (tR k 0 cs)) st.ev h q=some (.agg (ar k cs),[]):=by
 show aa C ow (.build (zar k m) (tR k 0 cs)) (Opd.ev st.get) h q=some (.agg (ar k cs),[])
 have hm:=Nat.eq_of_beq_eq_true hm
 subst hm
 have h1:(zar k cs.length).all aq=true:=by simp [zar,aq]
 have h2:(zar k cs.length).map V.lit=ar k (List.replicate cs.length 0):=by simp [zar,ar]
 rw [Bf,h1,bK,h2,sL, ←xK]
 have:=zA (k:=k) cs []
 simp only [List.nil_append,List.length_nil] at this
 rw [this];rfl
theorem G7: ∀(cs:List Int) (i:Nat) (f:Nat→V),(((tR k i cs).map (·.2.2)).map (Opd.ev f)).flatMap cn=[]
 |[],_,_=>rfl
 |c::cs,i,f=>by
  show cn (.lit _)++(((tR k (i+1) cs).map (·.2.2)).map (Opd.ev f)).flatMap cn=[]
  rw [G7 cs (i+1) f];rfl
theorem IA (st:St) (k:IntKind) (m:Nat) (cs:List Int):cA ow (.build (zar k m) (tR k 0 cs)) st.ev h=[]:=by
 show cA ow (.build (zar k m) (tR k 0 cs)) (Opd.ev st.get) h=[]
 rw [Do,BW,G7]
theorem S9 (m b o:Nat) (x:Int):stO (some ⟨m,true,[ar k l]⟩) b 1 0 o 1 (.lit (.int k x)) h=br (decide (o<l.length)) (some (.undef,[(b,⟨m,true,[ar k (l.set o x)]⟩)])) none:=by
 rw [Fm]
 simp only [zL,List.length_cons,List.length_nil,rM,List.all_cons,BT,List.all_nil,Bool.and_true]
 have e0:Nat.beq (0+1) 1=true:=rfl
 rw [e0,Bool.true_and,tr]
 by_cases ho:o<l.length
 ·rw [decide_eq_true (show o+1≤l.length by omega),decide_eq_true ho,bK,bK]
  have:(ar k l).take o++([V.lit (.int k x)]++(ar k l).drop (o+1))=ar k (l.set o x):=by
   rw [List.set_eq_take_append_cons_drop,if_pos ho];simp [ar]
  rw [this]
 ·rw [decide_eq_false (show ¬o+1≤l.length by omega),decide_eq_false ho,aH,aH]
def Wf (m b q:Nat) (x:V) (row:List V) (h:ag):Option (V×Upd):=stO (some ⟨m,true,[row]⟩) b q 0 0 1 x h
theorem PZ (m b q:Nat):stO (some ⟨m,true,[ar k l]⟩) b q 0 0 1 (.agg (ar k l2)) h=br (Nat.beq l2.length q&&Nat.beq l.length q) (some (.undef,[(b,⟨m,true,[ar k l2]⟩)])) (Wf m b q (.agg (ar k l2)) (ar k l) h):=by
 rw [sN,sN]
 by_cases h1:l2.length=q
 ·by_cases h2:l.length=q
  ·rw [decide_eq_true h1,decide_eq_true h2,Bool.and_true,bK,Fm]
   simp only [HR,rM,Gg,Bool.and_true]
   rw [h1,h2,sN,tr,decide_eq_true rfl,decide_eq_true (show 0+q≤q by omega),Bool.and_true,bK]
   rw [List.take_zero,List.nil_append,List.drop_eq_nil_of_le (by rw [rM];omega),List.append_nil]
  ·rw [decide_eq_false h2,Bool.and_false,aH];rfl
 ·rw [decide_eq_false h1,Bool.false_and,aH];rfl
theorem U7 (c:Bool) (x y:Option V) (z:Option (List V)):rs1 (br c x y) z=br c (rs1 x z) (rs1 y z):=by cases c<;>rfl
theorem NC (c:Bool) (v:V) (x y:Option (List V)):rs1 (some v) (br c x y)=br c (rs1 (some v) x) (rs1 (some v) y):=by cases c<;>rfl
theorem NH (keep raw:Bool) (m:Nat) (c:Bool) (x y:Option (List V)):D8 keep raw m h (br c x y)=br c (D8 keep raw m h x) (D8 keep raw m h y):=by cases c<;>rfl
end
end Go.AI
