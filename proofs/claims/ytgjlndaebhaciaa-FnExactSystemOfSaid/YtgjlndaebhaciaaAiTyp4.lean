/- Arrays of whole numbers, as lists: the machine's words on their cells. -/
import Derived.Test.YtgjlndaebhaciaaAiTyp3
set_option linter.unusedVariables false
set_option linter.unusedSimpArgs false
namespace Go.AI
def ar (k:IntKind) (l:List Int):List V:=l.map fun n=> .lit (.int k n)
def nZ (n:Nat):List Int:=List.replicate n 0
def zar (k:IntKind) (n:Nat):List Value:=List.replicate n (.int k 0)
def wg (k:IntKind):Nat→List Int→List (Nat×Nat×Opd)
 |_,[]=>[]
 |i,c::r=>(i,1,.c (.int k c))::wg k (i+1) r
theorem dM (x:Int):UInt8.ofInt (IntKind.u8.wrap x)=UInt8.ofInt x:=by
 have h:=gH (IntKind.u8.wrap x)
 have h2:=gH x
 have h3:IntKind.u8.wrap (IntKind.u8.wrap x)=IntKind.u8.wrap x:=by
  simp [IntKind.wrap,IntKind.bits,IntKind.signed]
 apply UInt8.toNat.inj
 rw [h3] at h
 omega
theorem DS (l:List UInt8) (i:Nat) (a b:Int):cI (rws eU8 l) i [.lit (.int .u8 (rF .u8 a b))]=rws eU8 (l.set i (UInt8.ofInt (rF .u8 a b))):=by
 unfold rF;rw [sB,dM]
theorem zS (l:List UInt8) (a b:Int):bD [.lit (.int .u8 (rF .u8 a b))] (rws eU8 l)=rws eU8 (UInt8.ofInt (rF .u8 a b)::l):=by
 unfold rF;rw [pc,dM]
theorem Ao (l:List UInt8) (i:Nat) (a b:Int):cI (rws eU8 l) i [.lit (.int .u8 (pQ .u8 a b))]=rws eU8 (l.set i (UInt8.ofInt (pQ .u8 a b))):=by
 unfold pQ;rw [sB,dM]
theorem yS (l:List UInt8) (a b:Int):bD [.lit (.int .u8 (pQ .u8 a b))] (rws eU8 l)=rws eU8 (UInt8.ofInt (pQ .u8 a b)::l):=by
 unfold pQ;rw [pc,dM]
theorem AG (l:List UInt8) (i:Nat) (a b:Int):cI (rws eU8 l) i [.lit (.int .u8 (p6 .u8 a b))]=rws eU8 (l.set i (UInt8.ofInt (p6 .u8 a b))):=by
 unfold p6;rw [sB,dM]
theorem yT (l:List UInt8) (a b:Int):bD [.lit (.int .u8 (p6 .u8 a b))] (rws eU8 l)=rws eU8 (UInt8.ofInt (p6 .u8 a b)::l):=by
 unfold p6;rw [pc,dM]
theorem AW (l:List UInt8) (i:Nat) (a b:Int):cI (rws eU8 l) i [.lit (.int .u8 (da .u8 a b))]=rws eU8 (l.set i (UInt8.ofInt (da .u8 a b))):=by
 unfold da;rw [sB,dM]
theorem xf (l:List UInt8) (a b:Int):bD [.lit (.int .u8 (da .u8 a b))] (rws eU8 l)=rws eU8 (UInt8.ofInt (da .u8 a b)::l):=by
 unfold da;rw [pc,dM]
theorem EN {h:ah} {bs:List Nat}:fzK h bs eD=eD:=rfl
theorem Dc {α:Type} {l r:List α} {s q:Nat} (hq:l.length=q):(uz l s (min r.length (q-s)) r).length=q:=by
 subst hq
 simp only [uz,List.length_append,List.length_take,List.length_drop]
 omega
theorem A0 {α:Type} {l r:List α} {q:Nat} (hq:l.length=q):(uz l 0 (min r.length q) r).length=q:=by
 subst hq
 simp only [uz,List.length_append,List.length_take,List.length_drop]
 omega
section
variable {C:aB} {ow:be} {ev:Opd→V} {h:ah} {n:Nat} {k:IntKind} {l l2:List Int}
theorem oh:(ar k l).length=l.length:=by simp [ar]
theorem SR:ar k []=[]:=rfl
theorem fO (a:Int):ar k (a::l)= .lit (.int k a)::ar k l:=rfl
theorem QQ:(ar k l).map V.cz=ar k l:=by
 induction l with
 |nil=>rfl
 |cons a l ih=>rw [fO,List.map_cons,ih];rfl
theorem Q3 (ids:List Nat):(ar k l).map (unV ids)=ar k l:=by
 induction l with
 |nil=>rfl
 |cons a l ih=>rw [fO,List.map_cons,ih];rfl
theorem HT (ids:List Nat):(ar k l).map (dn ids)=ar k l:=by
 induction l with
 |nil=>rfl
 |cons a l ih=>rw [fO,List.map_cons,ih];rfl
theorem Qw (bs:List Nat):(ar k l).map (fzC h bs)=ar k l:=by
 induction l with
 |nil=>rfl
 |cons a l ih=>rw [fO,List.map_cons,ih];rfl
theorem Bz:(ar k l).all V.cell=true:=by
 induction l with
 |nil=>rfl
 |cons a l ih=>rw [fO,List.all_cons,ih];rfl
theorem Hx:(ar k l).all eJ=true:=by
 induction l with
 |nil=>rfl
 |cons a l ih=>rw [fO,List.all_cons,ih];rfl
theorem KU:(ar k l).flatMap fy=[]:=by
 induction l with
 |nil=>rfl
 |cons a l ih=>rw [fO,List.flatMap_cons,ih];rfl
theorem HS (m:Nat) (kp:List Nat):ik h m kp (ar k l)=some (ar k l):=by
 induction l with
 |nil=>rfl
 |cons a l ih=>rw [fO,sv,ih];rfl
theorem Iq (m:Nat) (kp:List Nat):jo h m kp (ar k l)=some (ar k l):=by
 induction l with
 |nil=>rfl
 |cons a l ih=>rw [fO,iJ,ih];rfl
theorem Mc (ids:List Nat):fg h ids (ar k l)=some (ar k l,ids):=by
 induction l with
 |nil=>rfl
 |cons a l ih=>rw [fO,iR,su,lP,ih];rfl
theorem Nu (own:Bool) (ids:List Nat):bm h own ids (ar k l)=some (ar k l,ids,[]):=by
 induction l with
 |nil=>rfl
 |cons a l ih=>rw [fO,nO,Hv,um,ih];rfl
theorem BI:(V.agg (ar k l)).cells=ar k l:=rfl
theorem Kj (i:Nat):part none (ar k l) i=(l[i]?).bind fun x=>some (.lit (.int k x)):=by
 simp only [part,ar,List.getElem?_map]
 cases l[i]? <;>rfl
def Sp (m:Nat) (k:IntKind) (l:List Int):Option V:=part (some m) (ar k l) 0
theorem HZ (m:Nat):part (some m) (ar k l) 0=br (Nat.beq l.length m) (some (.agg (ar k l))) (Sp m k l):=by
 rw [oF]
 by_cases hm:l.length=m
 ·subst hm
  simp only [part,oh,decide_true,bH]
  rw [if_pos (by omega),List.drop_zero,List.take_of_length_le (by rw [oh];omega)]
 ·rw [decide_eq_false hm,aZ];rfl
theorem PG (c:Bool) (x y:Option V):ldS (br c x y)=br c (ldS x) (ldS y):=by cases c<;>rfl
theorem Fq (k:IntKind) (m q:Nat):ae C ow (.alloc (zar k m)) ev h q=frO (h q) q ⟨m,true,[ar k (nZ m)]⟩ (.ptr q 0 0 1):=by
 rw [Bk]
 have h1:(zar k m).all aC=true:=by simp [zar,aC]
 have h2:(zar k m).map V.lit=ar k (nZ m):=by simp [zar,ar,nZ]
 rw [h1,bH,h2]
 simp [zar]
theorem Cu (k:IntKind) (m q:Nat):ae C ow (.build (zar k m) []) ev h q=some (.agg (ar k (nZ m)),[]):=by
 rw [uO]
 have h1:(zar k m).all aC=true:=by simp [zar,aC]
 have h2:(zar k m).map V.lit=ar k (nZ m):=by simp [zar,ar,nZ]
 rw [h1,bH,h2];rfl
theorem pg (f:Nat→V): ∀(cs:List Int) (i:Nat),ca (Opd.ev f) (wg k i cs)=(cs.zipIdx i).map fun p=>(p.2,1,.lit (.int k p.1))
 |[],i=>rfl
 |c::cs,i=>by
  show (i,1,_)::ca _ (wg k (i+1) cs)=_
  rw [pg f cs (i+1)];rfl
theorem u2: ∀(cs:List Int) (pre:List Int),ny (ar k (pre++List.replicate cs.length 0)) ((cs.zipIdx pre.length).map fun p=>(p.2,1,.lit (.int k p.1)))=some (ar k (pre++cs))
 |[],pre=>by simp [ny]
 |c::cs,pre=>by
  have ih:=u2 cs (pre++[c])
  simp only [List.zipIdx_cons,List.map_cons,ny]
  rw [if_pos ⟨rfl,by rw [oh,List.length_append,List.length_replicate,List.length_cons];omega,rfl⟩]
  have e1:(ar k (pre++List.replicate (c::cs).length 0)).take pre.length=ar k pre:=by simp [ar]
  have e2:(ar k (pre++List.replicate (c::cs).length 0)).drop (pre.length+1)=ar k (List.replicate cs.length 0):=by
   simp [ar,List.drop_append]
  rw [e1,e2]
  have e3:ar k pre++((V.lit (.int k c)).cells++ar k (List.replicate cs.length 0))=ar k ((pre++[c])++List.replicate cs.length 0):=by simp [ar,V.cells]
  have e4:pre++c::cs=(pre++[c])++cs:=by simp
  rw [e3,e4, ←ih]
  simp
theorem HF (st:St) (k:IntKind) (m q:Nat) (cs:List Int) (hm:Nat.beq cs.length m=true):ae C ow (.build (zar k m) (wg k 0 cs)) st.ev h q=some (.agg (ar k cs),[]):=by
 show ae C ow (.build (zar k m) (wg k 0 cs)) (Opd.ev st.get) h q=some (.agg (ar k cs),[])
 have hm:=Nat.eq_of_beq_eq_true hm
 subst hm
 have h1:(zar k cs.length).all aC=true:=by simp [zar,aC]
 have h2:(zar k cs.length).map V.lit=ar k (List.replicate cs.length 0):=by simp [zar,ar]
 rw [uO,h1,bH,h2,pg, ←so]
 have:=u2 (k:=k) cs []
 simp only [List.nil_append,List.length_nil] at this
 rw [this];rfl
theorem Bh: ∀(cs:List Int) (i:Nat) (f:Nat→V),(((wg k i cs).map (·.2.2)).map (Opd.ev f)).flatMap bK=[]
 |[],_,_=>rfl
 |c::cs,i,f=>by
  show bK (.lit _)++(((wg k (i+1) cs).map (·.2.2)).map (Opd.ev f)).flatMap bK=[]
  rw [Bh cs (i+1) f];rfl
theorem Cw (st:St) (k:IntKind) (m:Nat) (cs:List Int):bT ow (.build (zar k m) (wg k 0 cs)) st.ev h=[]:=by
 show bT ow (.build (zar k m) (wg k 0 cs)) (Opd.ev st.get) h=[]
 rw [ya,yK,Bh]
theorem NW (m b o:Nat) (x:Int):stO (some ⟨m,true,[ar k l]⟩) b 1 0 o 1 (.lit (.int k x)) h=br (decide (o<l.length)) (some (.undef,[(b,⟨m,true,[ar k (l.set o x)]⟩)])) none:=by
 rw [Ac]
 simp only [ut,List.length_cons,List.length_nil,oh,List.all_cons,yp,List.all_nil,Bool.and_true]
 have e0:Nat.beq (0+1) 1=true:=rfl
 rw [e0,Bool.true_and,ov]
 by_cases ho:o<l.length
 ·rw [decide_eq_true (show o+1≤l.length by omega),decide_eq_true ho,bH,bH]
  have:(ar k l).take o++([V.lit (.int k x)]++(ar k l).drop (o+1))=ar k (l.set o x):=by
   rw [List.set_eq_take_append_cons_drop,if_pos ho];simp [ar]
  rw [this]
 ·rw [decide_eq_false (show ¬o+1≤l.length by omega),decide_eq_false ho,aZ,aZ]
def SL (m b q:Nat) (x:V) (row:List V) (h:ah):Option (V×Upd):=stO (some ⟨m,true,[row]⟩) b q 0 0 1 x h
theorem Mr (m b q:Nat):stO (some ⟨m,true,[ar k l]⟩) b q 0 0 1 (.agg (ar k l2)) h=br (Nat.beq l2.length q&&Nat.beq l.length q) (some (.undef,[(b,⟨m,true,[ar k l2]⟩)])) (SL m b q (.agg (ar k l2)) (ar k l) h):=by
 rw [oF,oF]
 by_cases h1:l2.length=q
 ·by_cases h2:l.length=q
  ·rw [decide_eq_true h1,decide_eq_true h2,Bool.and_true,bH,Ac]
   simp only [BI,oh,Bz,Bool.and_true]
   rw [h1,h2,oF,ov,decide_eq_true rfl,decide_eq_true (show 0+q≤q by omega),Bool.and_true,bH]
   rw [List.take_zero,List.nil_append,List.drop_eq_nil_of_le (by rw [oh];omega),List.append_nil]
  ·rw [decide_eq_false h2,Bool.and_false,aZ];rfl
 ·rw [decide_eq_false h1,Bool.false_and,aZ];rfl
theorem NV (c:Bool) (x y:Option V) (z:Option (List V)):rs1 (br c x y) z=br c (rs1 x z) (rs1 y z):=by cases c<;>rfl
theorem Kl (c:Bool) (v:V) (x y:Option (List V)):rs1 (some v) (br c x y)=br c (rs1 (some v) x) (rs1 (some v) y):=by cases c<;>rfl
theorem Jg (keep raw:Bool) (m:Nat) (c:Bool) (x y:Option (List V)):xz keep raw m h (br c x y)=br c (xz keep raw m h x) (xz keep raw m h y):=by cases c<;>rfl
end
end Go.AI
