/- Arrays of whole numbers, as lists: the machine's words on their cells. -/
import Derived.Test.YtgjlndaebhaciaaAiTyp3
set_option linter.unusedVariables false
set_option linter.unusedSimpArgs false
namespace Go.AI
def ar (k:IntKind) (l:List Int):List V:=l.map fun n=> .lit (.int k n)
def nZ (n:Nat):List Int:=List.replicate n 0
def zar (k:IntKind) (n:Nat):List Value:=List.replicate n (.int k 0)
def AP (k:IntKind):Nat→List Int→List (Nat×Nat×Opd)
 |_,[]=>[]
 |i,c::r=>(i,1,.c (.int k c))::AP k (i+1) r
theorem fS (x:Int):UInt8.ofInt (IntKind.u8.wrap x)=UInt8.ofInt x:=by
 have h:=jH (IntKind.u8.wrap x)
 have h2:=jH x
 have h3:IntKind.u8.wrap (IntKind.u8.wrap x)=IntKind.u8.wrap x:=by
  simp [IntKind.wrap,IntKind.bits,IntKind.signed]
 apply UInt8.toNat.inj
 rw [h3] at h
 omega
theorem JB (l:List UInt8) (i:Nat) (a b:Int):dS (rws eU8 l) i [.lit (.int .u8 (wZ .u8 a b))]=rws eU8 (l.set i (UInt8.ofInt (wZ .u8 a b))):=by
 unfold wZ;rw [wD,fS]
theorem Fi (l:List UInt8) (a b:Int):co [.lit (.int .u8 (wZ .u8 a b))] (rws eU8 l)=rws eU8 (UInt8.ofInt (wZ .u8 a b)::l):=by
 unfold wZ;rw [u4,fS]
theorem FG (l:List UInt8) (i:Nat) (a b:Int):dS (rws eU8 l) i [.lit (.int .u8 (vi .u8 a b))]=rws eU8 (l.set i (UInt8.ofInt (vi .u8 a b))):=by
 unfold vi;rw [wD,fS]
theorem D1 (l:List UInt8) (a b:Int):co [.lit (.int .u8 (vi .u8 a b))] (rws eU8 l)=rws eU8 (UInt8.ofInt (vi .u8 a b)::l):=by
 unfold vi;rw [u4,fS]
theorem EO (l:List UInt8) (i:Nat) (a b:Int):dS (rws eU8 l) i [.lit (.int .u8 (tS .u8 a b))]=rws eU8 (l.set i (UInt8.ofInt (tS .u8 a b))):=by
 unfold tS;rw [wD,fS]
theorem Ee (l:List UInt8) (a b:Int):co [.lit (.int .u8 (tS .u8 a b))] (rws eU8 l)=rws eU8 (UInt8.ofInt (tS .u8 a b)::l):=by
 unfold tS;rw [u4,fS]
theorem FM (l:List UInt8) (i:Nat) (a b:Int):dS (rws eU8 l) i [.lit (.int .u8 (bc .u8 a b))]=rws eU8 (l.set i (UInt8.ofInt (bc .u8 a b))):=by
 unfold bc;rw [wD,fS]
theorem Eo (l:List UInt8) (a b:Int):co [.lit (.int .u8 (bc .u8 a b))] (rws eU8 l)=rws eU8 (UInt8.ofInt (bc .u8 a b)::l):=by
 unfold bc;rw [u4,fS]
theorem NB {h:ak} {bs:List Nat}:fzK h bs gX=gX:=rfl
theorem Iq {α:Type} {l r:List α} {s q:Nat} (hq:l.length=q):(nW l s (min r.length (q-s)) r).length=q:=by
 subst hq
 simp only [nW,List.length_append,List.length_take,List.length_drop]
 omega
theorem Ga {α:Type} {l r:List α} {q:Nat} (hq:l.length=q):(nW l 0 (min r.length q) r).length=q:=by
 subst hq
 simp only [nW,List.length_append,List.length_take,List.length_drop]
 omega
section
variable {C:aM} {ow:bB} {ev:Opd→V} {h:ak} {n:Nat} {k:IntKind} {l l2:List Int}
theorem sV:(ar k l).length=l.length:=by simp [ar]
theorem Z5:ar k []=[]:=rfl
theorem iJ (a:Int):ar k (a::l)= .lit (.int k a)::ar k l:=rfl
theorem XD:(ar k l).map V.cz=ar k l:=by
 induction l with
 |nil=>rfl
 |cons a l ih=>rw [iJ,List.map_cons,ih];rfl
theorem Tt (ids:List Nat):(ar k l).map (unV ids)=ar k l:=by
 induction l with
 |nil=>rfl
 |cons a l ih=>rw [iJ,List.map_cons,ih];rfl
theorem N8 (ids:List Nat):(ar k l).map (fA ids)=ar k l:=by
 induction l with
 |nil=>rfl
 |cons a l ih=>rw [iJ,List.map_cons,ih];rfl
theorem TO (bs:List Nat):(ar k l).map (fzC h bs)=ar k l:=by
 induction l with
 |nil=>rfl
 |cons a l ih=>rw [iJ,List.map_cons,ih];rfl
theorem H5:(ar k l).all V.cell=true:=by
 induction l with
 |nil=>rfl
 |cons a l ih=>rw [iJ,List.all_cons,ih];rfl
theorem OV:(ar k l).all hJ=true:=by
 induction l with
 |nil=>rfl
 |cons a l ih=>rw [iJ,List.all_cons,ih];rfl
theorem Rl:(ar k l).flatMap iS=[]:=by
 induction l with
 |nil=>rfl
 |cons a l ih=>rw [iJ,List.flatMap_cons,ih];rfl
theorem P7 (m:Nat) (kp:List Nat):kU h m kp (ar k l)=some (ar k l):=by
 induction l with
 |nil=>rfl
 |cons a l ih=>rw [iJ,yr,ih];rfl
theorem Oe (m:Nat) (kp:List Nat):nh h m kp (ar k l)=some (ar k l):=by
 induction l with
 |nil=>rfl
 |cons a l ih=>rw [iJ,lZ,ih];rfl
theorem Ps (ids:List Nat):iz h ids (ar k l)=some (ar k l,ids):=by
 induction l with
 |nil=>rfl
 |cons a l ih=>rw [iJ,md,yh,q6,ih];rfl
theorem Uo (own:Bool) (ids:List Nat):bN h own ids (ar k l)=some (ar k l,ids,[]):=by
 induction l with
 |nil=>rfl
 |cons a l ih=>rw [iJ,sm,MT,zQ,ih];rfl
theorem IX:(V.agg (ar k l)).cells=ar k l:=rfl
theorem PV (i:Nat):part none (ar k l) i=(l[i]?).bind fun x=>some (.lit (.int k x)):=by
 simp only [part,ar,List.getElem?_map]
 cases l[i]? <;>rfl
def Y4 (m:Nat) (k:IntKind) (l:List Int):Option V:=part (some m) (ar k l) 0
theorem LJ (m:Nat):part (some m) (ar k l) 0=br (Nat.beq l.length m) (some (.agg (ar k l))) (Y4 m k l):=by
 rw [tX]
 by_cases hm:l.length=m
 ·subst hm
  simp only [part,sV,decide_true,bC]
  rw [if_pos (by omega),List.drop_zero,List.take_of_length_le (by rw [sV];omega)]
 ·rw [decide_eq_false hm,aC];rfl
theorem Wt (c:Bool) (x y:Option V):ldS (br c x y)=br c (ldS x) (ldS y):=by cases c<;>rfl
theorem Lm (k:IntKind) (m q:Nat):ah C ow (.alloc (zar k m)) ev h q=frO (h q) q ⟨m,true,[ar k (nZ m)]⟩ (.ptr q 0 0 1):=by
 rw [GK]
 have h1:(zar k m).all aN=true:=by simp [zar,aN]
 have h2:(zar k m).map V.lit=ar k (nZ m):=by simp [zar,ar,nZ]
 rw [h1,bC,h2]
 simp [zar]
theorem Jb (k:IntKind) (m q:Nat):ah C ow (.build (zar k m) []) ev h q=some (.agg (ar k (nZ m)),[]):=by
 rw [Bp]
 have h1:(zar k m).all aN=true:=by simp [zar,aN]
 have h2:(zar k m).map V.lit=ar k (nZ m):=by simp [zar,ar,nZ]
 rw [h1,bC,h2];rfl
theorem uo (f:Nat→V): ∀(cs:List Int) (i:Nat),da (Opd.ev f) (AP k i cs)=(cs.zipIdx i).map fun p=>(p.2,1,.lit (.int k p.1))
 |[],i=>rfl
 |c::cs,i=>by
  show (i,1,_)::da _ (AP k (i+1) cs)=_
  rw [uo f cs (i+1)];rfl
theorem zN: ∀(cs:List Int) (pre:List Int),rW (ar k (pre++List.replicate cs.length 0)) ((cs.zipIdx pre.length).map fun p=>(p.2,1,.lit (.int k p.1)))=some (ar k (pre++cs))
 |[],pre=>by simp [rW]
 |c::cs,pre=>by
  have ih:=zN cs (pre++[c])
  simp only [List.zipIdx_cons,List.map_cons,rW]
  rw [if_pos ⟨rfl,by rw [sV,List.length_append,List.length_replicate,List.length_cons];omega,rfl⟩]
  have e1:(ar k (pre++List.replicate (c::cs).length 0)).take pre.length=ar k pre:=by simp [ar]
  have e2:(ar k (pre++List.replicate (c::cs).length 0)).drop (pre.length+1)=ar k (List.replicate cs.length 0):=by
   simp [ar,List.drop_append]
  rw [e1,e2]
  have e3:ar k pre++((V.lit (.int k c)).cells++ar k (List.replicate cs.length 0))=ar k ((pre++[c])++List.replicate cs.length 0):=by simp [ar,V.cells]
  have e4:pre++c::cs=(pre++[c])++cs:=by simp
  rw [e3,e4, ←ih]
  simp
theorem MX (st:St) (k:IntKind) (m q:Nat) (cs:List Int) (hm:Nat.beq cs.length m=true):ah C ow (.build (zar k m) (AP k 0 cs)) st.ev h q=some (.agg (ar k cs),[]):=by
 show ah C ow (.build (zar k m) (AP k 0 cs)) (Opd.ev st.get) h q=some (.agg (ar k cs),[])
 have hm:=Nat.eq_of_beq_eq_true hm
 subst hm
 have h1:(zar k cs.length).all aN=true:=by simp [zar,aN]
 have h2:(zar k cs.length).map V.lit=ar k (List.replicate cs.length 0):=by simp [zar,ar]
 rw [Bp,h1,bC,h2,uo, ←wR]
 have:=zN (k:=k) cs []
 simp only [List.nil_append,List.length_nil] at this
 rw [this];rfl
theorem H3: ∀(cs:List Int) (i:Nat) (f:Nat→V),(((AP k i cs).map (·.2.2)).map (Opd.ev f)).flatMap cw=[]
 |[],_,_=>rfl
 |c::cs,i,f=>by
  show cw (.lit _)++(((AP k (i+1) cs).map (·.2.2)).map (Opd.ev f)).flatMap cw=[]
  rw [H3 cs (i+1) f];rfl
theorem HY (st:St) (k:IntKind) (m:Nat) (cs:List Int):cL ow (.build (zar k m) (AP k 0 cs)) st.ev h=[]:=by
 show cL ow (.build (zar k m) (AP k 0 cs)) (Opd.ev st.get) h=[]
 rw [CV,DV,H3]
theorem TT (m b o:Nat) (x:Int):stO (some ⟨m,true,[ar k l]⟩) b 1 0 o 1 (.lit (.int k x)) h=br (decide (o<l.length)) (some (.undef,[(b,⟨m,true,[ar k (l.set o x)]⟩)])) none:=by
 rw [EW]
 simp only [Ab,List.length_cons,List.length_nil,sV,List.all_cons,Do,List.all_nil,Bool.and_true]
 have e0:Nat.beq (0+1) 1=true:=rfl
 rw [e0,Bool.true_and,u3]
 by_cases ho:o<l.length
 ·rw [decide_eq_true (show o+1≤l.length by omega),decide_eq_true ho,bC,bC]
  have:(ar k l).take o++([V.lit (.int k x)]++(ar k l).drop (o+1))=ar k (l.set o x):=by
   rw [List.set_eq_take_append_cons_drop,if_pos ho];simp [ar]
  rw [this]
 ·rw [decide_eq_false (show ¬o+1≤l.length by omega),decide_eq_false ho,aC,aC]
def YN (m b q:Nat) (x:V) (row:List V) (h:ak):Option (V×Upd):=stO (some ⟨m,true,[row]⟩) b q 0 0 1 x h
theorem Sj (m b q:Nat):stO (some ⟨m,true,[ar k l]⟩) b q 0 0 1 (.agg (ar k l2)) h=br (Nat.beq l2.length q&&Nat.beq l.length q) (some (.undef,[(b,⟨m,true,[ar k l2]⟩)])) (YN m b q (.agg (ar k l2)) (ar k l) h):=by
 rw [tX,tX]
 by_cases h1:l2.length=q
 ·by_cases h2:l.length=q
  ·rw [decide_eq_true h1,decide_eq_true h2,Bool.and_true,bC,EW]
   simp only [IX,sV,H5,Bool.and_true]
   rw [h1,h2,tX,u3,decide_eq_true rfl,decide_eq_true (show 0+q≤q by omega),Bool.and_true,bC]
   rw [List.take_zero,List.nil_append,List.drop_eq_nil_of_le (by rw [sV];omega),List.append_nil]
  ·rw [decide_eq_false h2,Bool.and_false,aC];rfl
 ·rw [decide_eq_false h1,Bool.false_and,aC];rfl
theorem UN (c:Bool) (x y:Option V) (z:Option (List V)):rs1 (br c x y) z=br c (rs1 x z) (rs1 y z):=by cases c<;>rfl
theorem QA (c:Bool) (v:V) (x y:Option (List V)):rs1 (some v) (br c x y)=br c (rs1 (some v) x) (rs1 (some v) y):=by cases c<;>rfl
theorem Sb (keep raw:Bool) (m:Nat) (c:Bool) (x y:Option (List V)):Cz keep raw m h (br c x y)=br c (Cz keep raw m h x) (Cz keep raw m h y):=by cases c<;>rfl
end
end Go.AI
