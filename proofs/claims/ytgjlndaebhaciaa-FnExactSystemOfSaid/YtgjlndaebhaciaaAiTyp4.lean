/- Arrays of whole numbers, as lists: the machine's words on their cells. -/
import Derived.Test.YtgjlndaebhaciaaAiTyp3
set_option linter.unusedVariables false
set_option linter.unusedSimpArgs false
namespace Go.AI
def ar (k:IntKind) (l:List Int):List V:=l.map fun n=> .lit (.int k n)
def nZ (n:Nat):List Int:=List.replicate n 0
def zar (k:IntKind) (n:Nat):List Value:=List.replicate n (.int k 0)
def vk (k:IntKind):Nat→List Int→List (Nat×Nat×Opd)
 |_,[]=>[]
 |i,c::r=>(i,1,.c (.int k c))::vk k (i+1) r
theorem dR (x:Int):UInt8.ofInt (IntKind.u8.wrap x)=UInt8.ofInt x:=by
 have h:=gz (IntKind.u8.wrap x)
 have h2:=gz x
 have h3:IntKind.u8.wrap (IntKind.u8.wrap x)=IntKind.u8.wrap x:=by
  simp [IntKind.wrap,IntKind.bits,IntKind.signed]
 apply UInt8.toNat.inj
 rw [h3] at h
 omega
theorem Do (l:List UInt8) (i:Nat) (a b:Int):cD (rws eU8 l) i [.lit (.int .u8 (rr .u8 a b))]=rws eU8 (l.set i (UInt8.ofInt (rr .u8 a b))):=by
 unfold rr;rw [te,dR]
theorem Ai (l:List UInt8) (a b:Int):bD [.lit (.int .u8 (rr .u8 a b))] (rws eU8 l)=rws eU8 (UInt8.ofInt (rr .u8 a b)::l):=by
 unfold rr;rw [oU,dR]
theorem AD (l:List UInt8) (i:Nat) (a b:Int):cD (rws eU8 l) i [.lit (.int .u8 (pM .u8 a b))]=rws eU8 (l.set i (UInt8.ofInt (pM .u8 a b))):=by
 unfold pM;rw [te,dR]
theorem wB (l:List UInt8) (a b:Int):bD [.lit (.int .u8 (pM .u8 a b))] (rws eU8 l)=rws eU8 (UInt8.ofInt (pM .u8 a b)::l):=by
 unfold pM;rw [oU,dR]
theorem An (l:List UInt8) (i:Nat) (a b:Int):cD (rws eU8 l) i [.lit (.int .u8 (oz .u8 a b))]=rws eU8 (l.set i (UInt8.ofInt (oz .u8 a b))):=by
 unfold oz;rw [te,dR]
theorem yq (l:List UInt8) (a b:Int):bD [.lit (.int .u8 (oz .u8 a b))] (rws eU8 l)=rws eU8 (UInt8.ofInt (oz .u8 a b)::l):=by
 unfold oz;rw [oU,dR]
theorem AR (l:List UInt8) (i:Nat) (a b:Int):cD (rws eU8 l) i [.lit (.int .u8 (cZ .u8 a b))]=rws eU8 (l.set i (UInt8.ofInt (cZ .u8 a b))):=by
 unfold cZ;rw [te,dR]
theorem yD (l:List UInt8) (a b:Int):bD [.lit (.int .u8 (cZ .u8 a b))] (rws eU8 l)=rws eU8 (UInt8.ofInt (cZ .u8 a b)::l):=by
 unfold cZ;rw [oU,dR]
theorem FW {h:ah} {bs:List Nat}:fzK h bs ez=ez:=rfl
theorem DF {α:Type} {l r:List α} {s q:Nat} (hq:l.length=q):(ui l s (min r.length (q-s)) r).length=q:=by
 subst hq
 simp only [ui,List.length_append,List.length_take,List.length_drop]
 omega
theorem AS {α:Type} {l r:List α} {q:Nat} (hq:l.length=q):(ui l 0 (min r.length q) r).length=q:=by
 subst hq
 simp only [ui,List.length_append,List.length_take,List.length_drop]
 omega
section
variable {C:aB} {ow:bf} {ev:Opd→V} {h:ah} {n:Nat} {k:IntKind} {l l2:List Int}
theorem oi:(ar k l).length=l.length:=by simp [ar]
theorem SM:ar k []=[]:=rfl
theorem fD (a:Int):ar k (a::l)= .lit (.int k a)::ar k l:=rfl
theorem Sn:(ar k l).map V.cz=ar k l:=by
 induction l with
 |nil=>rfl
 |cons a l ih=>rw [fD,List.map_cons,ih];rfl
theorem Na (ids:List Nat):(ar k l).map (unV ids)=ar k l:=by
 induction l with
 |nil=>rfl
 |cons a l ih=>rw [fD,List.map_cons,ih];rfl
theorem EE (ids:List Nat):(ar k l).map (dt ids)=ar k l:=by
 induction l with
 |nil=>rfl
 |cons a l ih=>rw [fD,List.map_cons,ih];rfl
theorem P4 (bs:List Nat):(ar k l).map (fzC h bs)=ar k l:=by
 induction l with
 |nil=>rfl
 |cons a l ih=>rw [fD,List.map_cons,ih];rfl
theorem Bi:(ar k l).all V.cell=true:=by
 induction l with
 |nil=>rfl
 |cons a l ih=>rw [fD,List.all_cons,ih];rfl
theorem F4:(ar k l).all eO=true:=by
 induction l with
 |nil=>rfl
 |cons a l ih=>rw [fD,List.all_cons,ih];rfl
theorem KS:(ar k l).flatMap ft=[]:=by
 induction l with
 |nil=>rfl
 |cons a l ih=>rw [fD,List.flatMap_cons,ih];rfl
theorem HU (m:Nat) (kp:List Nat):il h m kp (ar k l)=some (ar k l):=by
 induction l with
 |nil=>rfl
 |cons a l ih=>rw [fD,si,ih];rfl
theorem EY (m:Nat) (kp:List Nat):ji h m kp (ar k l)=some (ar k l):=by
 induction l with
 |nil=>rfl
 |cons a l ih=>rw [fD,iQ,ih];rfl
theorem LW (ids:List Nat):fg h ids (ar k l)=some (ar k l,ids):=by
 induction l with
 |nil=>rfl
 |cons a l ih=>rw [fD,j1,rg,mS,ih];rfl
theorem Pl (own:Bool) (ids:List Nat):bk h own ids (ar k l)=some (ar k l,ids,[]):=by
 induction l with
 |nil=>rfl
 |cons a l ih=>rw [fD,nL,F5,um,ih];rfl
theorem Cw:(V.agg (ar k l)).cells=ar k l:=rfl
theorem JI (i:Nat):part none (ar k l) i=(l[i]?).bind fun x=>some (.lit (.int k x)):=by
 simp only [part,ar,List.getElem?_map]
 cases l[i]? <;>rfl
def QJ (m:Nat) (k:IntKind) (l:List Int):Option V:=part (some m) (ar k l) 0
theorem HE (m:Nat):part (some m) (ar k l) 0=br (Nat.beq l.length m) (some (.agg (ar k l))) (QJ m k l):=by
 rw [p6]
 by_cases hm:l.length=m
 ·subst hm
  simp only [part,oi,decide_true,bI]
  rw [if_pos (by omega),List.drop_zero,List.take_of_length_le (by rw [oi];omega)]
 ·rw [decide_eq_false hm,aZ];rfl
theorem PW (c:Bool) (x y:Option V):ldS (br c x y)=br c (ldS x) (ldS y):=by cases c<;>rfl
theorem FF (k:IntKind) (m q:Nat):ae C ow (.alloc (zar k m)) ev h q=frO (h q) q ⟨m,true,[ar k (nZ m)]⟩ (.ptr q 0 0 1):=by
 rw [B3]
 have h1:(zar k m).all aC=true:=by simp [zar,aC]
 have h2:(zar k m).map V.lit=ar k (nZ m):=by simp [zar,ar,nZ]
 rw [h1,bI,h2]
 simp [zar]
theorem Co (k:IntKind) (m q:Nat):ae C ow (.build (zar k m) []) ev h q=some (.agg (ar k (nZ m)),[]):=by
 rw [v8]
 have h1:(zar k m).all aC=true:=by simp [zar,aC]
 have h2:(zar k m).map V.lit=ar k (nZ m):=by simp [zar,ar,nZ]
 rw [h1,bI,h2];rfl
theorem oP (f:Nat→V): ∀(cs:List Int) (i:Nat),ca (Opd.ev f) (vk k i cs)=(cs.zipIdx i).map fun p=>(p.2,1,.lit (.int k p.1))
 |[],i=>rfl
 |c::cs,i=>by
  show (i,1,_)::ca _ (vk k (i+1) cs)=_
  rw [oP f cs (i+1)];rfl
theorem u6: ∀(cs:List Int) (pre:List Int),nE (ar k (pre++List.replicate cs.length 0)) ((cs.zipIdx pre.length).map fun p=>(p.2,1,.lit (.int k p.1)))=some (ar k (pre++cs))
 |[],pre=>by simp [nE]
 |c::cs,pre=>by
  have ih:=u6 cs (pre++[c])
  simp only [List.zipIdx_cons,List.map_cons,nE]
  rw [if_pos ⟨rfl,by rw [oi,List.length_append,List.length_replicate,List.length_cons];omega,rfl⟩]
  have e1:(ar k (pre++List.replicate (c::cs).length 0)).take pre.length=ar k pre:=by simp [ar]
  have e2:(ar k (pre++List.replicate (c::cs).length 0)).drop (pre.length+1)=ar k (List.replicate cs.length 0):=by
   simp [ar,List.drop_append]
  rw [e1,e2]
  have e3:ar k pre++((V.lit (.int k c)).cells++ar k (List.replicate cs.length 0))=ar k ((pre++[c])++List.replicate cs.length 0):=by simp [ar,V.cells]
  have e4:pre++c::cs=(pre++[c])++cs:=by simp
  rw [e3,e4, ←ih]
  simp
theorem Ep (st:St) (k:IntKind) (m q:Nat) (cs:List Int) (hm:Nat.beq cs.length m=true):ae C ow (.build (zar k m) (vk k 0 cs)) st.ev h q=some (.agg (ar k cs),[]):=by
 show ae C ow (.build (zar k m) (vk k 0 cs)) (Opd.ev st.get) h q=some (.agg (ar k cs),[])
 have hm:=Nat.eq_of_beq_eq_true hm
 subst hm
 have h1:(zar k cs.length).all aC=true:=by simp [zar,aC]
 have h2:(zar k cs.length).map V.lit=ar k (List.replicate cs.length 0):=by simp [zar,ar]
 rw [v8,h1,bI,h2,oP, ←rD]
 have:=u6 (k:=k) cs []
 simp only [List.nil_append,List.length_nil] at this
 rw [this];rfl
theorem BD: ∀(cs:List Int) (i:Nat) (f:Nat→V),(((vk k i cs).map (·.2.2)).map (Opd.ev f)).flatMap bL=[]
 |[],_,_=>rfl
 |c::cs,i,f=>by
  show bL (.lit _)++(((vk k (i+1) cs).map (·.2.2)).map (Opd.ev f)).flatMap bL=[]
  rw [BD cs (i+1) f];rfl
theorem CY (st:St) (k:IntKind) (m:Nat) (cs:List Int):bS ow (.build (zar k m) (vk k 0 cs)) st.ev h=[]:=by
 show bS ow (.build (zar k m) (vk k 0 cs)) (Opd.ev st.get) h=[]
 rw [xh,wQ,BD]
theorem Pn (m b o:Nat) (x:Int):stO (some ⟨m,true,[ar k l]⟩) b 1 0 o 1 (.lit (.int k x)) h=br (decide (o<l.length)) (some (.undef,[(b,⟨m,true,[ar k (l.set o x)]⟩)])) none:=by
 rw [Au]
 simp only [uA,List.length_cons,List.length_nil,oi,List.all_cons,yd,List.all_nil,Bool.and_true]
 have e0:Nat.beq (0+1) 1=true:=rfl
 rw [e0,Bool.true_and,oJ]
 by_cases ho:o<l.length
 ·rw [decide_eq_true (show o+1≤l.length by omega),decide_eq_true ho,bI,bI]
  have:(ar k l).take o++([V.lit (.int k x)]++(ar k l).drop (o+1))=ar k (l.set o x):=by
   rw [List.set_eq_take_append_cons_drop,if_pos ho];simp [ar]
  rw [this]
 ·rw [decide_eq_false (show ¬o+1≤l.length by omega),decide_eq_false ho,aZ,aZ]
def Sw (m b q:Nat) (x:V) (row:List V) (h:ah):Option (V×Upd):=stO (some ⟨m,true,[row]⟩) b q 0 0 1 x h
theorem K6 (m b q:Nat):stO (some ⟨m,true,[ar k l]⟩) b q 0 0 1 (.agg (ar k l2)) h=br (Nat.beq l2.length q&&Nat.beq l.length q) (some (.undef,[(b,⟨m,true,[ar k l2]⟩)])) (Sw m b q (.agg (ar k l2)) (ar k l) h):=by
 rw [p6,p6]
 by_cases h1:l2.length=q
 ·by_cases h2:l.length=q
  ·rw [decide_eq_true h1,decide_eq_true h2,Bool.and_true,bI,Au]
   simp only [Cw,oi,Bi,Bool.and_true]
   rw [h1,h2,p6,oJ,decide_eq_true rfl,decide_eq_true (show 0+q≤q by omega),Bool.and_true,bI]
   rw [List.take_zero,List.nil_append,List.drop_eq_nil_of_le (by rw [oi];omega),List.append_nil]
  ·rw [decide_eq_false h2,Bool.and_false,aZ];rfl
 ·rw [decide_eq_false h1,Bool.false_and,aZ];rfl
theorem Pp (c:Bool) (x y:Option V) (z:Option (List V)):rs1 (br c x y) z=br c (rs1 x z) (rs1 y z):=by cases c<;>rfl
theorem K7 (c:Bool) (v:V) (x y:Option (List V)):rs1 (some v) (br c x y)=br c (rs1 (some v) x) (rs1 (some v) y):=by cases c<;>rfl
theorem Li (keep raw:Bool) (m:Nat) (c:Bool) (x y:Option (List V)):xj keep raw m h (br c x y)=br c (xj keep raw m h x) (xj keep raw m h y):=by cases c<;>rfl
end
end Go.AI
