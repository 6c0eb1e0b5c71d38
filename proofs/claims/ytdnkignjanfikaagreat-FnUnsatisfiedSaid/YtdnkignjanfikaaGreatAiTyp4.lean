/- Arrays of whole numbers, as lists: the machine's words on their cells. -/
import Derived.Test.YtdnkignjanfikaaGreatAiTyp3
set_option linter.unusedVariables false
set_option linter.unusedSimpArgs false
namespace Go.AI
def ar (k:IntKind) (l:List Int):List V:=l.map fun n=> .lit (.int k n)
def nZ (n:Nat):List Int:=List.replicate n 0
def zar (k:IntKind) (n:Nat):List Value:=List.replicate n (.int k 0)
def Jq (k:IntKind):Nat→List Int→List (Nat×Nat×Opd)
 |_,[]=>[]
 |i,c::r=>(i,1,.c (.int k c))::Jq k (i+1) r
theorem kH (x:Int):UInt8.ofInt (IntKind.u8.wrap x)=UInt8.ofInt x:=by
 have h:=rd (IntKind.u8.wrap x)
 have h2:=rd x
 have h3:IntKind.u8.wrap (IntKind.u8.wrap x)=IntKind.u8.wrap x:=by
  simp [IntKind.wrap,IntKind.bits,IntKind.signed]
 apply UInt8.toNat.inj
 rw [h3] at h
 omega
theorem a4L (l:List UInt8) (i:Nat) (a b:Int):dZ (rws eU8 l) i [.lit (.int .u8 (ui .u8 a b))]=rws eU8 (l.set i (UInt8.ofInt (ui .u8 a b))):=by
 unfold ui;rw [P4,kH]
theorem Z9 (l:List UInt8) (a b:Int):bK [.lit (.int .u8 (ui .u8 a b))] (rws eU8 l)=rws eU8 (UInt8.ofInt (ui .u8 a b)::l):=by
 unfold ui;rw [Gg,kH]
theorem Za (l:List UInt8) (i:Nat) (a b:Int):dZ (rws eU8 l) i [.lit (.int .u8 (bo .u8 a b))]=rws eU8 (l.set i (UInt8.ofInt (bo .u8 a b))):=by
 unfold bo;rw [P4,kH]
theorem XJ (l:List UInt8) (a b:Int):bK [.lit (.int .u8 (bo .u8 a b))] (rws eU8 l)=rws eU8 (UInt8.ofInt (bo .u8 a b)::l):=by
 unfold bo;rw [Gg,kH]
theorem a0J (l:List UInt8) (i:Nat) (a b:Int):dZ (rws eU8 l) i [.lit (.int .u8 (io .u8 a b))]=rws eU8 (l.set i (UInt8.ofInt (io .u8 a b))):=by
 unfold io;rw [P4,kH]
theorem X4 (l:List UInt8) (a b:Int):bK [.lit (.int .u8 (io .u8 a b))] (rws eU8 l)=rws eU8 (UInt8.ofInt (io .u8 a b)::l):=by
 unfold io;rw [Gg,kH]
theorem a0Y (l:List UInt8) (i:Nat) (a b:Int):dZ (rws eU8 l) i [.lit (.int .u8 (aP .u8 a b))]=rws eU8 (l.set i (UInt8.ofInt (aP .u8 a b))):=by
 unfold aP;rw [P4,kH]
theorem US (l:List UInt8) (a b:Int):bK [.lit (.int .u8 (aP .u8 a b))] (rws eU8 l)=rws eU8 (UInt8.ofInt (aP .u8 a b)::l):=by
 unfold aP;rw [Gg,kH]
theorem a8p {h:au} {bs:List Nat}:fzK h bs ip=ip:=rfl
theorem a5Z {α:Type} {l r:List α} {s q:Nat} (hq:l.length=q):(tK l s (min r.length (q-s)) r).length=q:=by
 subst hq
 simp only [tK,List.length_append,List.length_take,List.length_drop]
 omega
theorem Z0 {α:Type} {l r:List α} {q:Nat} (hq:l.length=q):(tK l 0 (min r.length q) r).length=q:=by
 subst hq
 simp only [tK,List.length_append,List.length_take,List.length_drop]
 omega
section
variable {C:aY} {ow:cy} {ev:Opd→V} {h:au} {n:Nat} {k:IntKind} {l l2:List Int}
theorem FO:(ar k l).length=l.length:=by simp [ar]
theorem c3C:ar k []=[]:=rfl
theorem oS (a:Int):ar k (a::l)= .lit (.int k a)::ar k l:=rfl
theorem c1B:(ar k l).map V.cz=ar k l:=by
 induction l with
 |nil=>rfl
 |cons a l ih=>rw [oS,List.map_cons,ih];rfl
theorem b9z (ids:List Nat):(ar k l).map (unV ids)=ar k l:=by
 induction l with
 |nil=>rfl
 |cons a l ih=>rw [oS,List.map_cons,ih];rfl
theorem b0V (ids:List Nat):(ar k l).map (jE ids)=ar k l:=by
 induction l with
 |nil=>rfl
 |cons a l ih=>rw [oS,List.map_cons,ih];rfl
theorem b9h (bs:List Nat):(ar k l).map (fzC h bs)=ar k l:=by
 induction l with
 |nil=>rfl
 |cons a l ih=>rw [oS,List.map_cons,ih];rfl
theorem a1p:(ar k l).all V.cell=true:=by
 induction l with
 |nil=>rfl
 |cons a l ih=>rw [oS,List.all_cons,ih];rfl
theorem b1B:(ar k l).all mT=true:=by
 induction l with
 |nil=>rfl
 |cons a l ih=>rw [oS,List.all_cons,ih];rfl
theorem b3w:(ar k l).flatMap oF=[]:=by
 induction l with
 |nil=>rfl
 |cons a l ih=>rw [oS,List.flatMap_cons,ih];rfl
theorem a90 (m:Nat) (kp:List Nat):tV h m kp (ar k l)=some (ar k l):=by
 induction l with
 |nil=>rfl
 |cons a l ih=>rw [oS,OK,ih];rfl
theorem a9C (m:Nat) (kp:List Nat):wI h m kp (ar k l)=some (ar k l):=by
 induction l with
 |nil=>rfl
 |cons a l ih=>rw [oS,vj,ih];rfl
theorem b6u (ids:List Nat):od h ids (ar k l)=some (ar k l,ids):=by
 induction l with
 |nil=>rfl
 |cons a l ih=>rw [oS,w8,NQ,BR,ih];rfl
theorem b7E (own:Bool) (ids:List Nat):cL h own ids (ar k l)=some (ar k l,ids,[]):=by
 induction l with
 |nil=>rfl
 |cons a l ih=>rw [oS,F9,b0A,QY,ih];rfl
theorem a5o:(V.agg (ar k l)).cells=ar k l:=rfl
theorem b3n (i:Nat):part none (ar k l) i=(l[i]?).bind fun x=>some (.lit (.int k x)):=by
 simp only [part,ar,List.getElem?_map]
 cases l[i]? <;>rfl
def c1h (m:Nat) (k:IntKind) (l:List Int):Option V:=part (some m) (ar k l) 0
theorem a8z (m:Nat):part (some m) (ar k l) 0=br (Nat.beq l.length m) (some (.agg (ar k l))) (c1h m k l):=by
 rw [Iq]
 by_cases hm:l.length=m
 ·subst hm
  simp only [part,FO,decide_true,bM]
  rw [if_pos (by omega),List.drop_zero,List.take_of_length_le (by rw [FO];omega)]
 ·rw [decide_eq_false hm,aK];rfl
theorem c0M (c:Bool) (x y:Option V):ldS (br c x y)=br c (ldS x) (ldS y):=by cases c<;>rfl
theorem a8m (k:IntKind) (m q:Nat):aj C ow (.alloc (zar k m)) ev h q=frO (h q) q ⟨m,true,[ar k (nZ m)]⟩ (.ptr q 0 0 1):=by
 rw [a2h]
 have h1:(zar k m).all ba=true:=by simp [zar,ba]
 have h2:(zar k m).map V.lit=ar k (nZ m):=by simp [zar,ar,nZ]
 rw [h1,bM,h2]
 simp [zar]
theorem a4F (k:IntKind) (m q:Nat):aj C ow (.build (zar k m) []) ev h q=some (.agg (ar k (nZ m)),[]):=by
 rw [Up]
 have h1:(zar k m).all ba=true:=by simp [zar,ba]
 have h2:(zar k m).map V.lit=ar k (nZ m):=by simp [zar,ar,nZ]
 rw [h1,bM,h2];rfl
theorem GW (f:Nat→V): ∀(cs:List Int) (i:Nat),fa (Opd.ev f) (Jq k i cs)=(cs.zipIdx i).map fun p=>(p.2,1,.lit (.int k p.1))
 |[],i=>rfl
 |c::cs,i=>by
  show (i,1,_)::fa _ (Jq k (i+1) cs)=_
  rw [GW f cs (i+1)];rfl
theorem QO: ∀(cs:List Int) (pre:List Int),Ej (ar k (pre++List.replicate cs.length 0)) ((cs.zipIdx pre.length).map fun p=>(p.2,1,.lit (.int k p.1)))=some (ar k (pre++cs))
 |[],pre=>by simp [Ej]
 |c::cs,pre=>by
  have ih:=QO cs (pre++[c])
  simp only [List.zipIdx_cons,List.map_cons,Ej]
  rw [if_pos ⟨rfl,by rw [FO,List.length_append,List.length_replicate,List.length_cons];omega,rfl⟩]
  have e1:(ar k (pre++List.replicate (c::cs).length 0)).take pre.length=ar k pre:=by simp [ar]
  have e2:(ar k (pre++List.replicate (c::cs).length 0)).drop (pre.length+1)=ar k (List.replicate cs.length 0):=by
   simp [ar,List.drop_append]
  rw [e1,e2]
  have e3:ar k pre++((V.lit (.int k c)).cells++ar k (List.replicate cs.length 0))=ar k ((pre++[c])++List.replicate cs.length 0):=by simp [ar,V.cells]
  have e4:pre++c::cs=(pre++[c])++cs:=by simp
  rw [e3,e4, ←ih]
  simp
theorem a89 (st:St) (k:IntKind) (m q:Nat) (cs:List Int) (hm:Nat.beq cs.length m=true):aj C ow (.build (zar k m) (Jq k 0 cs)) st.ev h q=some (.agg (ar k cs),[]):=by
 show aj C ow (.build (zar k m) (Jq k 0 cs)) (Opd.ev st.get) h q=some (.agg (ar k cs),[])
 have hm:=Nat.eq_of_beq_eq_true hm
 subst hm
 have h1:(zar k cs.length).all ba=true:=by simp [zar,ba]
 have h2:(zar k cs.length).map V.lit=ar k (List.replicate cs.length 0):=by simp [zar,ar]
 rw [Up,h1,bM,h2,GW, ←MZ]
 have:=QO (k:=k) cs []
 simp only [List.nil_append,List.length_nil] at this
 rw [this];rfl
theorem a2g: ∀(cs:List Int) (i:Nat) (f:Nat→V),(((Jq k i cs).map (·.2.2)).map (Opd.ev f)).flatMap dG=[]
 |[],_,_=>rfl
 |c::cs,i,f=>by
  show dG (.lit _)++(((Jq k (i+1) cs).map (·.2.2)).map (Opd.ev f)).flatMap dG=[]
  rw [a2g cs (i+1) f];rfl
theorem a3k (st:St) (k:IntKind) (m:Nat) (cs:List Int):ec ow (.build (zar k m) (Jq k 0 cs)) st.ev h=[]:=by
 show ec ow (.build (zar k m) (Jq k 0 cs)) (Opd.ev st.get) h=[]
 rw [UH,Vr,a2g]
theorem b7F (m b o:Nat) (x:Int):stO (some ⟨m,true,[ar k l]⟩) b 1 0 o 1 (.lit (.int k x)) h=br (decide (o<l.length)) (some (.undef,[(b,⟨m,true,[ar k (l.set o x)]⟩)])) none:=by
 rw [a0B]
 simp only [QT,List.length_cons,List.length_nil,FO,List.all_cons,V8,List.all_nil,Bool.and_true]
 have e0:Nat.beq (0+1) 1=true:=rfl
 rw [e0,Bool.true_and,Im]
 by_cases ho:o<l.length
 ·rw [decide_eq_true (show o+1≤l.length by omega),decide_eq_true ho,bM,bM]
  have:(ar k l).take o++([V.lit (.int k x)]++(ar k l).drop (o+1))=ar k (l.set o x):=by
   rw [List.set_eq_take_append_cons_drop,if_pos ho];simp [ar]
  rw [this]
 ·rw [decide_eq_false (show ¬o+1≤l.length by omega),decide_eq_false ho,aK,aK]
def c3T (m b q:Nat) (x:V) (row:List V) (h:au):Option (V×Upd):=stO (some ⟨m,true,[row]⟩) b q 0 0 1 x h
theorem b2J (m b q:Nat):stO (some ⟨m,true,[ar k l]⟩) b q 0 0 1 (.agg (ar k l2)) h=br (Nat.beq l2.length q&&Nat.beq l.length q) (some (.undef,[(b,⟨m,true,[ar k l2]⟩)])) (c3T m b q (.agg (ar k l2)) (ar k l) h):=by
 rw [Iq,Iq]
 by_cases h1:l2.length=q
 ·by_cases h2:l.length=q
  ·rw [decide_eq_true h1,decide_eq_true h2,Bool.and_true,bM,a0B]
   simp only [a5o,FO,a1p,Bool.and_true]
   rw [h1,h2,Iq,Im,decide_eq_true rfl,decide_eq_true (show 0+q≤q by omega),Bool.and_true,bM]
   rw [List.take_zero,List.nil_append,List.drop_eq_nil_of_le (by rw [FO];omega),List.append_nil]
  ·rw [decide_eq_false h2,Bool.and_false,aK];rfl
 ·rw [decide_eq_false h1,Bool.false_and,aK];rfl
theorem b7J (c:Bool) (x y:Option V) (z:Option (List V)):rs1 (br c x y) z=br c (rs1 x z) (rs1 y z):=by cases c<;>rfl
theorem b5D (c:Bool) (v:V) (x y:Option (List V)):rs1 (some v) (br c x y)=br c (rs1 (some v) x) (rs1 (some v) y):=by cases c<;>rfl
theorem b3v (keep raw:Bool) (m:Nat) (c:Bool) (x y:Option (List V)):Xe keep raw m h (br c x y)=br c (Xe keep raw m h x) (Xe keep raw m h y):=by cases c<;>rfl
end
end Go.AI
