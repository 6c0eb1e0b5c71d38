/- The machine's operations as words over values; what they come to on values of Lean's own types. -/
import Derived.Test.YtdnkignjanfikaaGreatAiLim
set_option linter.unusedVariables false
set_option linter.unusedSimpArgs false
namespace Go.AI
theorem Pa (a b:Nat):Nat.ble a b=decide (a<=b):=by
 by_cases h0:a<=b
 ·rw [al h0];exact Nat.ble_eq_true_of_le h0
 ·rw [ag h0];cases hb:Nat.ble a b with
  |false=>rfl
  |true=>exact absurd (dl hb) h0
theorem MZ (a b:Nat):Nat.blt a b=decide (a<b):=Pa (a+1) b
theorem TM (a b:Nat):Nat.beq a b=decide (a=b):=by
 by_cases h0:a=b
 ·rw [al h0,h0];exact Nat.beq_refl b
 ·rw [ag h0];cases hb:Nat.beq a b with
  |false=>rfl
  |true=>exact absurd (i5 hb) h0
section
variable {C:cg} {ow:FuncId->List Nat} {ev:Opd->V} {h:aZ} {n:Nat} {α:Type} {e:En α} {l:List α}
theorem c5H (x:Opd):aN C ow (.mv x) ev h n=some (ev x,[]):=rfl
def b4M (c a b:V):Option (V×Upd):=match c with
 | .lit (.bool c)=>br c (some (a,[])) (some (b,[]))
 |_=>none
theorem c1p (c a b:Opd):aN C ow (.pick c a b) ev h n=b4M (ev c) (ev a) (ev b):=by
 simp only [aN]
 unfold b4M
 split
 ·rename_i h;rw [h];rfl
 ·rename_i h;rw [h];rfl
 ·rename_i h1 h2
  split
  ·rename_i c' hc;cases c'
   ·exact absurd hc h2
   ·exact absurd hc h1
  ·rfl
theorem b7x (c:Bool) (a b:V):b4M (.lit (.bool c)) a b=br c (some (a,[])) (some (b,[])):=rfl
def lQ (op:BinOp) (x y:V):Option (V×Upd):=match x,y with
 | .lit a,.lit b=>match gZ op a b with
   |some v=>some (.lit v,[])
   |none=>none
 |_,_=>none
theorem c4Y (op:BinOp) (x y:Opd):aN C ow (.bin op x y) ev h n=lQ op (ev x) (ev y):=rfl
theorem c5w (k:IntKind) (a b:Int):lQ .add (.lit (.int k a)) (.lit (.int k b))=some (.lit (.int k (k.wrap (a+b))),[]):=by simp [lQ,gZ]
theorem c4S (k:IntKind) (a b:Int):lQ .sub (.lit (.int k a)) (.lit (.int k b))=some (.lit (.int k (k.wrap (a-b))),[]):=by simp [lQ,gZ]
theorem c4T (k:IntKind) (a b:Int):lQ .mul (.lit (.int k a)) (.lit (.int k b))=some (.lit (.int k (k.wrap (a*b))),[]):=by simp [lQ,gZ]
def nz (b:Int):Bool:=decide (b≠0)
theorem c58 (k:IntKind) (a b:Int):lQ .quo (.lit (.int k a)) (.lit (.int k b))=br (nz b) (some (.lit (.int k (k.wrap (a.tdiv b))),[])) none:=by
 by_cases hb:b=0<;>simp [lQ,gZ,br,nz,hb]
theorem c4D (k:IntKind) (a b:Int):lQ .rem (.lit (.int k a)) (.lit (.int k b))=br (nz b) (some (.lit (.int k (a.tmod b)),[])) none:=by
 by_cases hb:b=0<;>simp [lQ,gZ,br,nz,hb]
def tm (k:IntKind) (a b:Int):Int:=k.wrap (BitVec.ofInt k.bits a^^^BitVec.ofInt k.bits b).toNat
def dc (k:IntKind) (a b:Int):Int:=k.wrap (BitVec.ofInt k.bits a&&&BitVec.ofInt k.bits b).toNat
def B7 (k:IntKind) (a b:Int):Int:=k.wrap (BitVec.ofInt k.bits a|||BitVec.ofInt k.bits b).toNat
def Ra (k:IntKind) (a b:Int):Int:=k.wrap (BitVec.ofInt k.bits a&&& ~~~ BitVec.ofInt k.bits b).toNat
def bG (k:IntKind) (a b:Int):Int:=k.wrap (a*2^(min b.toNat k.bits))
def bY (k:IntKind) (a b:Int):Int:=a.fdiv (2^(min b.toNat k.bits))
theorem c3Z (k:IntKind) (a b:Int):lQ .and (.lit (.int k a)) (.lit (.int k b))=some (.lit (.int k (dc k a b)),[]):=by simp [lQ,gZ,dc]
theorem c5N (k:IntKind) (a b:Int):lQ .or (.lit (.int k a)) (.lit (.int k b))=some (.lit (.int k (B7 k a b)),[]):=by simp [lQ,gZ,B7]
theorem c4s (k:IntKind) (a b:Int):lQ .xor (.lit (.int k a)) (.lit (.int k b))=some (.lit (.int k (tm k a b)),[]):=by simp [lQ,gZ,tm]
theorem c0S (k:IntKind) (a b:Int):lQ .andNot (.lit (.int k a)) (.lit (.int k b))=some (.lit (.int k (Ra k a b)),[]):=by simp [lQ,gZ,Ra]
def nn (b:Int):Bool:=decide (0<=b)
theorem c4J (k k':IntKind) (a b:Int):lQ .shl (.lit (.int k a)) (.lit (.int k' b))=br (nn b) (some (.lit (.int k (bG k a b)),[])) none:=by
 by_cases hb:0<=b<;>simp [lQ,gZ,br,nn,hb,bG]
theorem c4j (k k':IntKind) (a b:Int):lQ .shr (.lit (.int k a)) (.lit (.int k' b))=br (nn b) (some (.lit (.int k (bY k a b)),[])) none:=by
 by_cases hb:0<=b<;>simp [lQ,gZ,br,nn,hb,bY]
theorem c4n (k:IntKind) (a b:Int):lQ .eql (.lit (.int k a)) (.lit (.int k b))=some (.lit (.bool (a==b)),[]):=by simp [lQ,gZ]
theorem c4B (k:IntKind) (a b:Int):lQ .neq (.lit (.int k a)) (.lit (.int k b))=some (.lit (.bool (a !=b)),[]):=by simp [lQ,gZ]
theorem c5p (k:IntKind) (a b:Int):lQ .lss (.lit (.int k a)) (.lit (.int k b))=some (.lit (.bool (decide (a<b))),[]):=by simp [lQ,gZ]
theorem c4Q (k:IntKind) (a b:Int):lQ .leq (.lit (.int k a)) (.lit (.int k b))=some (.lit (.bool (decide (a<=b))),[]):=by simp [lQ,gZ]
theorem c5n (k:IntKind) (a b:Int):lQ .gtr (.lit (.int k a)) (.lit (.int k b))=some (.lit (.bool (decide (a>b))),[]):=by simp [lQ,gZ]
theorem c4Z (k:IntKind) (a b:Int):lQ .geq (.lit (.int k a)) (.lit (.int k b))=some (.lit (.bool (decide (a>=b))),[]):=by simp [lQ,gZ]
theorem YN (a:List UInt8):(⟨⟨a⟩⟩:ByteArray).size=a.length:=rfl
theorem a3b (d:ByteArray): ∀(k i:Nat) (r:List UInt8),d.size-i=k->ByteArray.toList.loop d i r=r.reverse++d.data.toList.drop i:=by
 intro k
 induction k with
 |zero=>
  intro i r hk
  unfold ByteArray.toList.loop
  have: ¬i<d.size:=by omega
  simp only [this,if_false]
  rw [List.drop_of_length_le]
  ·simp
  ·show d.data.size<=i
   exact (by omega:d.size<=i)
 |succ k ih=>
  intro i r hk
  unfold ByteArray.toList.loop
  have hlt:i<d.size:=by omega
  simp only [hlt,if_true]
  rw [ih (i+1) _ (by omega)]
  have hl:i<d.data.toList.length:=hlt
  rw [List.drop_eq_getElem_cons hl]
  have h3:i<d.data.size:=hlt
  simp only [ByteArray.get!,getElem!_pos,h3,List.reverse_cons,ba,aU,Array.getElem_toList]
theorem Xi (a:List UInt8):(⟨⟨a⟩⟩:ByteArray).toList=a:=by
 unfold ByteArray.toList
 rw [a3b _ _ 0 [] rfl]
 simp
theorem c3D (a b:List UInt8):lQ .add (S a) (S b)=br (cP (a.length+b.length) 1) (some (S (a++b),[])) none:=by
 have:(⟨⟨a⟩⟩:ByteArray)++⟨⟨b⟩⟩=⟨⟨a++b⟩⟩:=by
  apply ByteArray.ext
  simp [ByteArray.data_append]
 by_cases hb:a.length+b.length<=cU<;>simp [lQ,gZ,br,cP,hb,YN,this]
theorem c3m (a b:List UInt8):lQ .eql (S a) (S b)=some (.lit (.bool (a==b)),[]):=by simp [lQ,gZ,Xi]
theorem c1N (a b:List UInt8):lQ .neq (S a) (S b)=some (.lit (.bool (a !=b)),[]):=by simp [lQ,gZ,Xi,bne]
def eqS (neg:Bool) (ks:List Bool) (x y:V):Option (V×Upd):=match x,y with
 | .agg a,.agg b=>match i4 ks a b with
   |some r=>some (.lit (.bool (if neg then !r else r)),[])
   |none=>none
 |_,_=>none
theorem b8e (neg:Bool) (ks:List Bool) (x y:Opd):aN C ow (.eqAgg neg ks x y) ev h n=eqS neg ks (ev x) (ev y):=rfl
def eqN (neg:Bool):Option Bool->Option (V×Upd)
 |some r=>some (.lit (.bool (if neg then !r else r)),[])
 |none=>none
theorem b9e (neg:Bool) (ks:List Bool) (a b:List V):eqS neg ks (.agg a) (.agg b)=eqN neg (i4 ks a b):=by
 unfold eqS eqN;rfl
theorem c4V (r:Bool):eqN true (some r)=some (.lit (.bool !r),[]):=rfl
theorem c2U (neg c:Bool) (x y:Option Bool):eqN neg (br c x y)=br c (eqN neg x) (eqN neg y):=by cases c<;>rfl
theorem b8F:i4 [] [] []=some true:=rfl
theorem c4y (ks:List Bool) (k:IntKind) (a b:Int) (x y:List V):i4 (true::ks) (.lit (.int k a)::x) (.lit (.int k b)::y)=br (a==b) (i4 ks x y) (some false):=by
 by_cases hb:a=b
 ·subst hb;simp [i4,cO]
 ·have:(a==b)=false:=by simpa using hb
  rw [this,bf];simp [i4,hb]
def c4f (neg:Bool) (x y:V):Option (V×Upd):=match x,y with
 | .lit (.bool a),.lit (.bool b)=>some (.lit (.bool (if neg then a !=b else a==b)),[])
 |_,_=>none
theorem c4h (neg:Bool) (x y:Opd):aN C ow (.beq neg x y) ev h n=c4f neg (ev x) (ev y):=rfl
theorem c2h (a b:Bool):c4f true (B a) (B b)=some (.lit (.bool (a !=b)),[]):=rfl
def unS (op:UnOp) (x:V):Option (V×Upd):=match x with
 | .lit a=>match WJ op a with
   |some v=>some (.lit v,[])
   |none=>none
 |_=>none
theorem c5z (op:UnOp) (x:Opd):aN C ow (.un op x) ev h n=unS op (ev x):=rfl
theorem c5c (b:Bool):unS .not (B b)=some (B (!b),[]):=rfl
def dz (k:IntKind) (a:Int):Int:=k.wrap (BitVec.ofInt k.bits (if k.signed then-1 else k.max)^^^BitVec.ofInt k.bits a).toNat
theorem c4A (k:IntKind) (a:Int):unS .xor (.lit (.int k a))=some (.lit (.int k (dz k a)),[]):=rfl
def tiS (k:IntKind) (x:V):Option (V×Upd):=match asI x with
 |some m=>some (.lit (.int k (k.wrap m)),[])
 |none=>none
theorem b6P (k:IntKind) (x:Opd):aN C ow (.toInt k x) ev h n=tiS k (ev x):=rfl
theorem c4o (k k':IntKind) (m:Int):tiS k (.lit (.int k' m))=some (.lit (.int k (k.wrap m)),[]):=rfl
def c63 (x:V):Option (V×Upd):=match x with
 | .lit (.string s)=>some (.lit (.string s),[])
 |_=>none
theorem a6J (f:FuncId) (cs:List Opd):aN C ow (.makeFunc f cs) ev h n=some (.fn f (cs.map ev),[]):=rfl
def b3i (str:Bool) (x:V):Option (V×Upd):=match str,x with
 |true,.lit (.string s)=>some (.lit (.int .i64 s.size),[])
 |false,.lit (.slice _ n _)=>some (.lit (.int .i64 n),[])
 |false,.sl _ _ n=>some (.lit (.int .i64 n),[])
 |false,.imm _ rows=>some (.lit (.int .i64 rows.length),[])
 |_,_=>none
theorem c5h (str:Bool) (x:Opd):aN C ow (.len str x) ev h n=b3i str (ev x):=rfl
theorem b6K:b3i false (sl e l)=some (I (l.length:Nat),[]):=by
 rcases nH e l with ⟨rfl,h⟩|⟨_,h⟩<;>rw [h]<;>simp [b3i,rws]
theorem b2d (b s m:Nat):b3i false (.sl b s m)=some (I (m:Nat),[]):=rfl
theorem b6h (s:List UInt8):b3i true (S s)=some (I (s.length:Nat),[]):=rfl
def inS (neg:Bool) (x:V):Option (V×Upd):=match x with
 | .lit (.slice a _ _)=>some (.lit (.bool (if neg then !a.isNone else a.isNone)),[])
 | .imm _ (_::_)=>some (.lit (.bool neg),[])
 |_=>none
theorem b9V (neg:Bool) (x:Opd):aN C ow (.isNil neg x) ev h n=inS neg (ev x):=by
 simp only [aN];unfold inS;rfl
theorem a7W (neg:Bool) (a:Addr) (m c:Nat):inS neg (.lit (.slice (some a) m c))=some (B neg,[]):=by cases neg<;>rfl
theorem a57 (neg:Bool) (e:En α) (x:α) (l:List α):inS neg (sl e (x::l))=some (B neg,[]):=rfl
def c06 (x:V) (i:Nat):Option (V×Upd):=match x with
 | .tup vs=>match vs[i]? with
   |some v=>some (v,[])
   |none=>none
 |_=>none
theorem c44 (x:Opd) (i:Nat):aN C ow (.ext x i) ev h n=c06 (ev x) i:=rfl
theorem c0x (a:V) (r:List V):c06 (.tup (a::r)) 0=some (a,[]):=rfl
theorem c3r (a:V) (r:List V) (i:Nat):c06 (.tup (a::r)) (i+1)=c06 (.tup r) i:=rfl
def c3S (d:Nat) (x:V):Option (V×Upd):=match x with
 | .ptr b i o n=>some (.ptr b i (o+d) n,[])
 | .iptr r o=>some (.iptr r (o+d),[])
 |_=>none
theorem c3W (d:Nat) (x:Opd):aN C ow (.off d x) ev h n=c3S d (ev x):=rfl
theorem c0P (d b i o m:Nat):c3S d (.ptr b i o m)=some (.ptr b i (o+d) m,[]):=rfl
theorem c1B (d:Nat) (r:List V) (o:Nat):c3S d (.iptr r o)=some (.iptr r (o+d),[]):=rfl
def ldS:Option V->Option (V×Upd)
 |some v=>some (v,[])
 |none=>none
theorem b4n (v:V):ldS (some v)=some (v,[]):=rfl
theorem b5q {β:Type} (x:Option β) (f:β->Option V):ldS (x.bind f)=x.bind (fun a=>ldS (f a)):=by cases x<;>rfl
theorem b7N (a:V) (r:List V):part none (a::r) 0=some a:=rfl
theorem b7s (a:V) (r:List V) (o:Nat):part none (a::r) (o+1)=part none r o:=rfl
theorem c1j (m:Nat) (cs:List V) (o:Nat) (hm:(o+m).ble cs.length=true):part (some m) cs o=some (.agg ((cs.drop o).take m)):=by
 simp only [part]
 rw [ae (dl hm)]
def b3K (d:Nat) (agg:Option Nat) (x:V):Option (V×Upd):=match x with
 | .agg cs=>match part agg cs d with
   |some v=>some (v,[])
   |none=>none
 |_=>none
theorem b8O (d:Nat) (agg:Option Nat) (x:Opd):aN C ow (.field d agg x) ev h n=b3K d agg (ev x):=rfl
theorem b4g (d:Nat) (agg:Option Nat) (cs:List V):b3K d agg (.agg cs)=ldS (part agg cs d):=rfl
def c0J (len esz:Nat) (agg:Option Nat) (x i:V):Option (V×Upd):=match x,asI i with
 | .agg cs,some i=>if 0<=i/\i.toNat<len then (match part agg cs (i.toNat*esz) with
   |some v=>some (v,[])
   |none=>none) else none
 |_,_=>none
theorem b76 (len esz:Nat) (agg:Option Nat) (x i:Opd):aN C ow (.ixAgg len esz agg x i) ev h n=c0J len esz agg (ev x) (ev i):=rfl
theorem c2q (len esz:Nat) (agg:Option Nat) (cs:List V) (k:IntKind) (i:Int):c0J len esz agg (.agg cs) (.lit (.int k i))=br (inb i len) (ldS (part agg cs (i.toNat*esz))) none:=by
 unfold inb
 by_cases h1:0<=i<;>by_cases h2:i.toNat<len<;>simp [c0J,asI,h1,h2,br,ldS]
def b88 (agg:Option Nat) (k:Option Blk) (i o m:Nat):Option V:=match k with
 |some k=>if k.rows.length=m then (match k.rows[i]? with
  |some row=>part agg row o
  |none=>none) else none
 |none=>none
theorem c2u (agg:Option Nat) (a:Opd):aN C ow (.load agg a) ev h n=ldS (yM agg h (ev a)):=rfl
theorem b9b (agg:Option Nat) (b i o m:Nat):yM agg h (.ptr b i o m)=b88 agg (h b) i o m:=rfl
theorem b8v (agg:Option Nat) (r:List V) (o:Nat):yM agg h (.iptr r o)=part agg r o:=rfl
theorem b6V (agg:Option Nat) (m:Nat) (row:List V) (o:Nat):b88 agg (some ⟨m,true,[row]⟩) 0 o 1=part agg row o:=rfl
theorem b7e (agg:Option Nat) (m:Nat) (op:Bool) (i o q:Nat) (hq:l.length=q):b88 agg (some ⟨m,op,rws e l⟩) i o q=(l[i]?).bind (fun x=>part agg (e.enc x) o):=by
 simp only [b88,rws,aM,aV]
 rw [ae hq]
 cases l[i]? <;>rfl
def b3g (k:Option Blk) (m b s q:Nat) (i:Int):Option (V×Upd):=match k with
 |some k=>if 0<k.esz/\k.esz=m/\s+q=k.rows.length/\i.toNat<q then some (.ptr b (s+i.toNat) 0 k.rows.length,[]) else none
 |none=>none
def a3y (m:Nat) (x i:V) (h:aZ):Option (V×Upd):=match asI i with
 |some i=>if 0<=i then (match x with
  | .sl b s q=>b3g (h b) m b s q i
  | .imm e rows=>if e=m then (match rows[i.toNat]? with
    |some row=>some (.iptr row 0,[])
    |none=>none) else none
  |_=>none) else none
 |none=>none
theorem c4k (m:Nat) (x i:Opd):aN C ow (.idx m x i) ev h n=a3y m (ev x) (ev i) h:=by
 simp only [aN,a3y,b3g]
 cases asI (ev i) with
 |none=>rfl
 |some i=>
  dsimp only
  split
  ·cases ev x with
   |sl b s q=>dsimp only;cases h b<;>rfl
   |_=>rfl
  ·rfl
theorem b9d (m:Nat) (hm:e.esz=m) (k:IntKind) (i:Int):a3y m (sl e l) (.lit (.int k i)) h=(atL l i).bind (fun x=>some (.iptr (e.enc x) 0,[])):=by
 subst hm
 unfold atL
 by_cases hi:0<=i
 ·rw [ae hi]
  rcases nH e l with ⟨rfl,hs⟩|⟨_,hs⟩
  ·rw [hs];simp [a3y,asI]
  ·rw [hs]
   simp only [a3y,asI,hi,if_true,rws,aV]
   cases l[i.toNat]? <;>rfl
 ·rw [aa hi];simp [a3y,asI,hi]
theorem b4X (m b s q:Nat) (k:IntKind) (i:Int):a3y m (.sl b s q) (.lit (.int k i)) h=br (nn i) (b3g (h b) m b s q i) none:=by
 unfold nn
 by_cases hi:0<=i<;>simp [a3y,asI,hi,br]
theorem b7i (m:Nat) (op:Bool) (b q:Nat) (i:Int) (h0:Nat.blt 0 m=true) (hq:l.length=q):b3g (some ⟨m,op,rws e l⟩) m b 0 q i=br (decide (i.toNat<q)) (some (.ptr b i.toNat 0 q,[])) none:=by
 have h0:0<m:=by have:=dl h0;omega
 by_cases hi:i.toNat<q<;>simp [b3g,rws,hq,hi,br,h0]
def b4l (len esz:Nat) (x i:V):Option (V×Upd):=match asI i with
 |some i=>if 0<=i/\i.toNat<len then (match x with
  | .ptr b j o n=>some (.ptr b j (o+i.toNat*esz) n,[])
  | .iptr r o=>some (.iptr r (o+i.toNat*esz),[])
  |_=>none) else none
 |none=>none
theorem b4b (len esz:Nat) (x i:Opd):aN C ow (.idxArr len esz x i) ev h n=b4l len esz (ev x) (ev i):=rfl
theorem c08 (len esz b j o m:Nat) (k:IntKind) (i:Int):b4l len esz (.ptr b j o m) (.lit (.int k i))=br (inb i len) (some (.ptr b j (o+i.toNat*esz) m,[])) none:=by
 unfold inb
 by_cases h1:0<=i<;>by_cases h2:i.toNat<len<;>simp [b4l,asI,h1,h2,br]
def b87 (x i:V):Option (V×Upd):=match x,asI i with
 | .lit (.string s),some i=>if 0<=i then (match s.data[i.toNat]? with
   |some b=>some (.lit (.int .u8 b.toNat),[])
   |none=>none) else none
 |_,_=>none
theorem b8n (x i:Opd):aN C ow (.ixStr x i) ev h n=b87 (ev x) (ev i):=rfl
theorem c3e (s:List UInt8) (k:IntKind) (i:Int):b87 (S s) (.lit (.int k i))=(atL s i).bind (fun b=>some (.lit (.int .u8 b.toNat),[])):=by
 unfold atL
 by_cases hi:0<=i
 ·simp only [b87,asI,hi,if_true]
  have:(⟨⟨s⟩⟩:ByteArray).data[i.toNat]? =s[i.toNat]? :=by simp
  rw [this]
  cases s[i.toNat]? <;>rfl
 ·simp [b87,asI,hi]
def frO (k:Option Blk) (n:Nat) (b:Blk) (v:V):Option (V×Upd):=match k with
 |none=>br (Nat.blt 0 b.esz) (some (v,[(n,b)])) none
 |some _=>none
theorem BV (b:Blk) (v:V):ng h n b v=frO (h n) n b v:=by
 unfold ng frO
 cases h n with
 |none=>rw [MZ];by_cases hb:0<b.esz<;>simp [hb,br]
 |some k=>simp
theorem b2U (b:Blk) (v:V):frO none n b v=br (Nat.blt 0 b.esz) (some (v,[(n,b)])) none:=rfl
theorem a8S (zero:List Value):aN C ow (.alloc zero) ev h n=br (zero.all ck) (frO (h n) n ⟨zero.length,true,[zero.map .lit]⟩ (.ptr n 0 0 1)) none:=by
 simp only [aN,BV]
 cases zero.all ck<;>rfl
def c0D (size:Nat) (cs:List V) (h:aZ) (n:Nat):Option (V×Upd):=br (Nat.beq cs.length size&&cs.all V.cell) (frO (h n) n ⟨size,true,[cs]⟩ (.ptr n 0 0 1)) none
theorem c4C (size:Nat) (x:Opd):aN C ow (.box size x) ev h n=c0D size (ev x).cells h n:=by
 simp only [aN,BV,c0D,TM]
 by_cases h1:(ev x).cells.length=size<;>cases h2:(ev x).cells.all V.cell<;>simp [h1,br]
def OH (cells:List V):List (Nat×Nat×V)->Option (List V)
 |[]=>some cells
 | (off,size,v)::r=>br (Nat.beq v.cells.length size&&Nat.ble (off+size) cells.length&&v.cells.all V.cell) (OH (cells.take off++(v.cells++cells.drop (off+size))) r) none
theorem TC: ∀(ps:List (Nat×Nat×V)) (cells:List V),Is cells ps=OH cells ps
 |[],_=>rfl
 | (off,size,v)::r,cells=>by
   simp only [Is,OH,TM,Pa]
   rw [<-TC r]
   by_cases h1:v.cells.length=size<;>by_cases h2:off+size<=cells.length<;>cases h3:v.cells.all V.cell<;>simp [h1,h2,br]
def c3N:Option (List V)->Option (V×Upd)
 |some cs=>some (.agg cs,[])
 |none=>none
theorem a0F (zero:List Value) (ps:List (Nat×Nat×Opd)):aN C ow (.build zero ps) ev h n=br (zero.all ck) (c3N (OH (zero.map .lit) (iE ev ps))) none:=by
 simp only [aN,TC,c3N]
 cases zero.all ck
 ·rfl
 ·simp only [cO,if_true]
  cases OH (zero.map .lit) (iE ev ps)<;>rfl
theorem b1n (cs:List V):c3N (some cs)=some (.agg cs,[]):=rfl
end
end Go.AI
