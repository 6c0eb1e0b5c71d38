/- Arrays of whole numbers, as lists: the machine's words on their cells. -/
import Derived.Test.YtdmhkkcihecndaaAiTyp3
set_option linter.unusedVariables false
set_option linter.unusedSimpArgs false
namespace Go.AI
def ar (k:IntKind) (l:List Int):List V:=l.map fun n=> .lit (.int k n)
def nZ (n:Nat):List Int:=List.replicate n 0
def zar (k:IntKind) (n:Nat):List Value:=List.replicate n (.int k 0)
def tq (k:IntKind):Nat→List Int→List (Nat×Nat×Opd)
 |_,[]=>[]
 |i,c::r=>(i,1,.c (.int k c))::tq k (i+1) r
theorem dd (x:Int):UInt8.ofInt (IntKind.u8.wrap x)=UInt8.ofInt x:=by
 have h:=fC (IntKind.u8.wrap x)
 have h2:=fC x
 have h3:IntKind.u8.wrap (IntKind.u8.wrap x)=IntKind.u8.wrap x:=by
  simp [IntKind.wrap,IntKind.bits,IntKind.signed]
 apply UInt8.toNat.inj
 rw [h3] at h
 omega
theorem Ag (l:List UInt8) (i:Nat) (a b:Int):cG (rws eU8 l) i [.lit (.int .u8 (qU .u8 a b))]=rws eU8 (l.set i (UInt8.ofInt (qU .u8 a b))):=by
 unfold qU;rw [pH,dd]
theorem xz (l:List UInt8) (a b:Int):b6 [.lit (.int .u8 (qU .u8 a b))] (rws eU8 l)=rws eU8 (UInt8.ofInt (qU .u8 a b)::l):=by
 unfold qU;rw [mz,dd]
theorem yx (l:List UInt8) (i:Nat) (a b:Int):cG (rws eU8 l) i [.lit (.int .u8 (oi .u8 a b))]=rws eU8 (l.set i (UInt8.ofInt (oi .u8 a b))):=by
 unfold oi;rw [pH,dd]
theorem wk (l:List UInt8) (a b:Int):b6 [.lit (.int .u8 (oi .u8 a b))] (rws eU8 l)=rws eU8 (UInt8.ofInt (oi .u8 a b)::l):=by
 unfold oi;rw [mz,dd]
theorem xR (l:List UInt8) (i:Nat) (a b:Int):cG (rws eU8 l) i [.lit (.int .u8 (my .u8 a b))]=rws eU8 (l.set i (UInt8.ofInt (my .u8 a b))):=by
 unfold my;rw [pH,dd]
theorem wX (l:List UInt8) (a b:Int):b6 [.lit (.int .u8 (my .u8 a b))] (rws eU8 l)=rws eU8 (UInt8.ofInt (my .u8 a b)::l):=by
 unfold my;rw [mz,dd]
theorem yA (l:List UInt8) (i:Nat) (a b:Int):cG (rws eU8 l) i [.lit (.int .u8 (aJ .u8 a b))]=rws eU8 (l.set i (UInt8.ofInt (aJ .u8 a b))):=by
 unfold aJ;rw [pH,dd]
theorem wH (l:List UInt8) (a b:Int):b6 [.lit (.int .u8 (aJ .u8 a b))] (rws eU8 l)=rws eU8 (UInt8.ofInt (aJ .u8 a b)::l):=by
 unfold aJ;rw [mz,dd]
theorem CE {h:a8} {bs:List Nat}:fzK h bs dK=dK:=rfl
theorem AM {α:Type} {l r:List α} {s q:Nat} (hq:l.length=q):(sq l s (min r.length (q-s)) r).length=q:=by
 subst hq
 simp only [sq,List.length_append,List.length_take,List.length_drop]
 omega
theorem yN {α:Type} {l r:List α} {q:Nat} (hq:l.length=q):(sq l 0 (min r.length q) r).length=q:=by
 subst hq
 simp only [sq,List.length_append,List.length_take,List.length_drop]
 omega
section
variable {C:am} {ow:bm} {ev:Opd→V} {h:a8} {n:Nat} {k:IntKind} {l l2:List Int}
theorem lW:(ar k l).length=l.length:=by simp [ar]
theorem PU:ar k []=[]:=rfl
theorem ez (a:Int):ar k (a::l)= .lit (.int k a)::ar k l:=rfl
theorem OX:(ar k l).map V.cz=ar k l:=by
 induction l with
 |nil=>rfl
 |cons a l ih=>rw [ez,List.map_cons,ih];rfl
theorem MR (ids:List Nat):(ar k l).map (unV ids)=ar k l:=by
 induction l with
 |nil=>rfl
 |cons a l ih=>rw [ez,List.map_cons,ih];rfl
theorem CV (ids:List Nat):(ar k l).map (dC ids)=ar k l:=by
 induction l with
 |nil=>rfl
 |cons a l ih=>rw [ez,List.map_cons,ih];rfl
theorem KB (bs:List Nat):(ar k l).map (fzC h bs)=ar k l:=by
 induction l with
 |nil=>rfl
 |cons a l ih=>rw [ez,List.map_cons,ih];rfl
theorem zM:(ar k l).all V.cell=true:=by
 induction l with
 |nil=>rfl
 |cons a l ih=>rw [ez,List.all_cons,ih];rfl
theorem G7:(ar k l).all eF=true:=by
 induction l with
 |nil=>rfl
 |cons a l ih=>rw [ez,List.all_cons,ih];rfl
theorem IK:(ar k l).flatMap fW=[]:=by
 induction l with
 |nil=>rfl
 |cons a l ih=>rw [ez,List.flatMap_cons,ih];rfl
theorem DI (m:Nat) (kp:List Nat):fZ h m kp (ar k l)=some (ar k l):=by
 induction l with
 |nil=>rfl
 |cons a l ih=>rw [ez,qE,ih];rfl
theorem Fk (m:Nat) (kp:List Nat):iG h m kp (ar k l)=some (ar k l):=by
 induction l with
 |nil=>rfl
 |cons a l ih=>rw [ez,pZ,ih];rfl
theorem Hi (ids:List Nat):eG h ids (ar k l)=some (ar k l,ids):=by
 induction l with
 |nil=>rfl
 |cons a l ih=>rw [ez,pT,Gb,wL,ih];rfl
theorem KS (own:Bool) (ids:List Nat):aY h own ids (ar k l)=some (ar k l,ids,[]):=by
 induction l with
 |nil=>rfl
 |cons a l ih=>rw [ez,lJ,Gw,sK,ih];rfl
theorem Bp:(V.agg (ar k l)).cells=ar k l:=rfl
theorem Hn (i:Nat):part none (ar k l) i=(l[i]?).bind fun x=>some (.lit (.int k x)):=by
 simp only [part,ar,List.getElem?_map]
 cases l[i]? <;>rfl
def OL (m:Nat) (k:IntKind) (l:List Int):Option V:=part (some m) (ar k l) 0
theorem Fv (m:Nat):part (some m) (ar k l) 0=br (Nat.beq l.length m) (some (.agg (ar k l))) (OL m k l):=by
 rw [nk]
 by_cases hm:l.length=m
 ·subst hm
  simp only [part,lW,decide_true,bF]
  rw [if_pos (by omega),List.drop_zero,List.take_of_length_le (by rw [lW];omega)]
 ·rw [decide_eq_false hm,aA];rfl
theorem LS (c:Bool) (x y:Option V):ldS (br c x y)=br c (ldS x) (ldS y):=by cases c<;>rfl
theorem Et (k:IntKind) (m q:Nat):a6 C ow (.alloc (zar k m)) ev h q=frO (h q) q ⟨m,true,[ar k (nZ m)]⟩ (.ptr q 0 0 1):=by
 rw [zD]
 have h1:(zar k m).all ag=true:=by simp [zar,ag]
 have h2:(zar k m).map V.lit=ar k (nZ m):=by simp [zar,ar,nZ]
 rw [h1,bF,h2]
 simp [zar]
theorem AG (k:IntKind) (m q:Nat):a6 C ow (.build (zar k m) []) ev h q=some (.agg (ar k (nZ m)),[]):=by
 rw [tm]
 have h1:(zar k m).all ag=true:=by simp [zar,ag]
 have h2:(zar k m).map V.lit=ar k (nZ m):=by simp [zar,ar,nZ]
 rw [h1,bF,h2];rfl
theorem n9 (f:Nat→V): ∀(cs:List Int) (i:Nat),bI (Opd.ev f) (tq k i cs)=(cs.zipIdx i).map fun p=>(p.2,1,.lit (.int k p.1))
 |[],i=>rfl
 |c::cs,i=>by
  show (i,1,_)::bI _ (tq k (i+1) cs)=_
  rw [n9 f cs (i+1)];rfl
theorem sC: ∀(cs:List Int) (pre:List Int),lE (ar k (pre++List.replicate cs.length 0)) ((cs.zipIdx pre.length).map fun p=>(p.2,1,.lit (.int k p.1)))=some (ar k (pre++cs))
 |[],pre=>by simp [lE]
 |c::cs,pre=>by
  have ih:=sC cs (pre++[c])
  simp only [List.zipIdx_cons,List.map_cons,lE]
  rw [if_pos ⟨rfl,by rw [lW,List.length_append,List.length_replicate,List.length_cons];omega,rfl⟩]
  have e1:(ar k (pre++List.replicate (c::cs).length 0)).take pre.length=ar k pre:=by simp [ar]
  have e2:(ar k (pre++List.replicate (c::cs).length 0)).drop (pre.length+1)=ar k (List.replicate cs.length 0):=by
   simp [ar,List.drop_append]
  rw [e1,e2]
  have e3:ar k pre++((V.lit (.int k c)).cells++ar k (List.replicate cs.length 0))=ar k ((pre++[c])++List.replicate cs.length 0):=by simp [ar,V.cells]
  have e4:pre++c::cs=(pre++[c])++cs:=by simp
  rw [e3,e4, ←ih]
  simp
theorem FE (st:St) (k:IntKind) (m q:Nat) (cs:List Int) (hm:Nat.beq cs.length m=true):a6 C ow (.build (zar k m) (tq k 0 cs)) st.ev h q=some (.agg (ar k cs),[]):=by
 show a6 C ow (.build (zar k m) (tq k 0 cs)) (Opd.ev st.get) h q=some (.agg (ar k cs),[])
 have hm:=Nat.eq_of_beq_eq_true hm
 subst hm
 have h1:(zar k cs.length).all ag=true:=by simp [zar,ag]
 have h2:(zar k cs.length).map V.lit=ar k (List.replicate cs.length 0):=by simp [zar,ar]
 rw [tm,h1,bF,h2,n9, ←rf]
 have:=sC (k:=k) cs []
 simp only [List.nil_append,List.length_nil] at this
 rw [this];rfl
theorem zT: ∀(cs:List Int) (i:Nat) (f:Nat→V),(((tq k i cs).map (·.2.2)).map (Opd.ev f)).flatMap bE=[]
 |[],_,_=>rfl
 |c::cs,i,f=>by
  show bE (.lit _)++(((tq k (i+1) cs).map (·.2.2)).map (Opd.ev f)).flatMap bE=[]
  rw [zT cs (i+1) f];rfl
theorem Ch (st:St) (k:IntKind) (m:Nat) (cs:List Int):bJ ow (.build (zar k m) (tq k 0 cs)) st.ev h=[]:=by
 show bJ ow (.build (zar k m) (tq k 0 cs)) (Opd.ev st.get) h=[]
 rw [vA,wd,zT]
theorem Nn (m b o:Nat) (x:Int):stO (some ⟨m,true,[ar k l]⟩) b 1 0 o 1 (.lit (.int k x)) h=br (decide (o<l.length)) (some (.undef,[(b,⟨m,true,[ar k (l.set o x)]⟩)])) none:=by
 rw [yY]
 simp only [su,List.length_cons,List.length_nil,lW,List.all_cons,vG,List.all_nil,Bool.and_true]
 have e0:Nat.beq (0+1) 1=true:=rfl
 rw [e0,Bool.true_and,mL]
 by_cases ho:o<l.length
 ·rw [decide_eq_true (show o+1≤l.length by omega),decide_eq_true ho,bF,bF]
  have:(ar k l).take o++([V.lit (.int k x)]++(ar k l).drop (o+1))=ar k (l.set o x):=by
   rw [List.set_eq_take_append_cons_drop,if_pos ho];simp [ar]
  rw [this]
 ·rw [decide_eq_false (show ¬o+1≤l.length by omega),decide_eq_false ho,aA,aA]
def PR (m b q:Nat) (x:V) (row:List V) (h:a8):Option (V×Upd):=stO (some ⟨m,true,[row]⟩) b q 0 0 1 x h
theorem HQ (m b q:Nat):stO (some ⟨m,true,[ar k l]⟩) b q 0 0 1 (.agg (ar k l2)) h=br (Nat.beq l2.length q&&Nat.beq l.length q) (some (.undef,[(b,⟨m,true,[ar k l2]⟩)])) (PR m b q (.agg (ar k l2)) (ar k l) h):=by
 rw [nk,nk]
 by_cases h1:l2.length=q
 ·by_cases h2:l.length=q
  ·rw [decide_eq_true h1,decide_eq_true h2,Bool.and_true,bF,yY]
   simp only [Bp,lW,zM,Bool.and_true]
   rw [h1,h2,nk,mL,decide_eq_true rfl,decide_eq_true (show 0+q≤q by omega),Bool.and_true,bF]
   rw [List.take_zero,List.nil_append,List.drop_eq_nil_of_le (by rw [lW];omega),List.append_nil]
  ·rw [decide_eq_false h2,Bool.and_false,aA];rfl
 ·rw [decide_eq_false h1,Bool.false_and,aA];rfl
theorem Lk (c:Bool) (x y:Option V) (z:Option (List V)):rs1 (br c x y) z=br c (rs1 x z) (rs1 y z):=by cases c<;>rfl
theorem HY (c:Bool) (v:V) (x y:Option (List V)):rs1 (some v) (br c x y)=br c (rs1 (some v) x) (rs1 (some v) y):=by cases c<;>rfl
theorem JP (keep raw:Bool) (m:Nat) (c:Bool) (x y:Option (List V)):wi keep raw m h (br c x y)=br c (wi keep raw m h x) (wi keep raw m h y):=by cases c<;>rfl
end
end Go.AI
