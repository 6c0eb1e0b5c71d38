/- Part. -/
import Derived.Test.YtdnkignjanfikaaGreatAiLim
set_option linter.unusedVariables false
set_option linter.unusedSimpArgs false
namespace Go.AI
theorem KD (a b:Nat):Nat.ble a b=decide (a<=b):=by
 by_cases h0:a<=b
 ·rw [al h0];exact Nat.ble_eq_true_of_le h0
 ·rw [ag h0];cases c:Nat.ble a b with
  |false=>rfl
  |true=>exact absurd (cD c) h0
theorem EU (a b:Nat):Nat.blt a b=decide (a<b):=KD (a+1) b
theorem LD (a b:Nat):Nat.beq a b=decide (a=b):=by
 by_cases h0:a=b
 ·rw [al h0,h0];exact Nat.beq_refl b
 ·rw [ag h0];cases c:Nat.beq a b with
  |false=>rfl
  |true=>exact absurd (hO c) h0
section
variable {C:ce} {ow:FuncId->List Nat} {ev:Opd->V} {h:b8} {n:Nat} {α:Type} {e:En α} {l:List α}
theorem c8k (x:Opd):aM C ow (.mv x) ev h n=some (ev x,[]):=rfl
def b1H (c a b:V):Option (V×Upd):=match c with
 | .lit (.bool c)=>br c (some (a,[])) (some (b,[]))
 |_=>none
theorem c2O (c a b:Opd):aM C ow (.pick c a b) ev h n=b1H (ev c) (ev a) (ev b):=by
 simp only [aM]
 unfold b1H
 split
 ·rename_i h;rw [h];rfl
 ·rename_i h;rw [h];rfl
 ·rename_i d e
  split
  ·rename_i c' hc;cases c'
   ·exact absurd hc e
   ·exact absurd hc d
  ·rfl
theorem c0q (c:Bool) (a b:V):b1H (.lit (.bool c)) a b=br c (some (a,[])) (some (b,[])):=rfl
def ld (op:BinOp) (x y:V):Option (V×Upd):=match x,y with
 | .lit a,.lit b=>match gX op a b with
   |some v=>some (.lit v,[])
   |none=>none
 |_,_=>none
theorem c7u (op:BinOp) (x y:Opd):aM C ow (.bin op x y) ev h n=ld op (ev x) (ev y):=rfl
theorem c6B (k:IntKind) (a b:Int):ld .add (.lit (.int k a)) (.lit (.int k b))=some (.lit (.int k (k.wrap (a+b))),[]):=by simp [ld,gX]
theorem c7n (k:IntKind) (a b:Int):ld .sub (.lit (.int k a)) (.lit (.int k b))=some (.lit (.int k (k.wrap (a-b))),[]):=by simp [ld,gX]
theorem c8e (k:IntKind) (a b:Int):ld .mul (.lit (.int k a)) (.lit (.int k b))=some (.lit (.int k (k.wrap (a*b))),[]):=by simp [ld,gX]
def nz (b:Int):Bool:=decide (b≠0)
theorem c7l (k:IntKind) (a b:Int):ld .quo (.lit (.int k a)) (.lit (.int k b))=br (nz b) (some (.lit (.int k (k.wrap (a.tdiv b))),[])) none:=by
 by_cases c:b=0<;>simp [ld,gX,br,nz,c]
theorem c74 (k:IntKind) (a b:Int):ld .rem (.lit (.int k a)) (.lit (.int k b))=br (nz b) (some (.lit (.int k (a.tmod b)),[])) none:=by
 by_cases c:b=0<;>simp [ld,gX,br,nz,c]
def nk (k:IntKind) (a b:Int):Int:=k.wrap (BitVec.ofInt k.bits a^^^BitVec.ofInt k.bits b).toNat
def cM (k:IntKind) (a b:Int):Int:=k.wrap (BitVec.ofInt k.bits a&&&BitVec.ofInt k.bits b).toNat
def xz (k:IntKind) (a b:Int):Int:=k.wrap (BitVec.ofInt k.bits a|||BitVec.ofInt k.bits b).toNat
def PQ (k:IntKind) (a b:Int):Int:=k.wrap (BitVec.ofInt k.bits a&&& ~~~ BitVec.ofInt k.bits b).toNat
def bC (k:IntKind) (a b:Int):Int:=k.wrap (a*2^(min b.toNat k.bits))
def bW (k:IntKind) (a b:Int):Int:=a.fdiv (2^(min b.toNat k.bits))
theorem c6x (k:IntKind) (a b:Int):ld .and (.lit (.int k a)) (.lit (.int k b))=some (.lit (.int k (cM k a b)),[]):=by simp [ld,gX,cM]
theorem c8i (k:IntKind) (a b:Int):ld .or (.lit (.int k a)) (.lit (.int k b))=some (.lit (.int k (xz k a b)),[]):=by simp [ld,gX,xz]
theorem c86 (k:IntKind) (a b:Int):ld .xor (.lit (.int k a)) (.lit (.int k b))=some (.lit (.int k (nk k a b)),[]):=by simp [ld,gX,nk]
theorem c3C (k:IntKind) (a b:Int):ld .andNot (.lit (.int k a)) (.lit (.int k b))=some (.lit (.int k (PQ k a b)),[]):=by simp [ld,gX,PQ]
def nn (b:Int):Bool:=decide (0<=b)
theorem c85 (k k':IntKind) (a b:Int):ld .shl (.lit (.int k a)) (.lit (.int k' b))=br (nn b) (some (.lit (.int k (bC k a b)),[])) none:=by
 by_cases c:0<=b<;>simp [ld,gX,br,nn,c,bC]
theorem c7M (k k':IntKind) (a b:Int):ld .shr (.lit (.int k a)) (.lit (.int k' b))=br (nn b) (some (.lit (.int k (bW k a b)),[])) none:=by
 by_cases c:0<=b<;>simp [ld,gX,br,nn,c,bW]
theorem c88 (k:IntKind) (a b:Int):ld .eql (.lit (.int k a)) (.lit (.int k b))=some (.lit (.bool (a==b)),[]):=by simp [ld,gX]
theorem c6A (k:IntKind) (a b:Int):ld .neq (.lit (.int k a)) (.lit (.int k b))=some (.lit (.bool (a !=b)),[]):=by simp [ld,gX]
theorem c6O (k:IntKind) (a b:Int):ld .lss (.lit (.int k a)) (.lit (.int k b))=some (.lit (.bool (decide (a<b))),[]):=by simp [ld,gX]
theorem c7v (k:IntKind) (a b:Int):ld .leq (.lit (.int k a)) (.lit (.int k b))=some (.lit (.bool (decide (a<=b))),[]):=by simp [ld,gX]
theorem c6T (k:IntKind) (a b:Int):ld .gtr (.lit (.int k a)) (.lit (.int k b))=some (.lit (.bool (decide (a>b))),[]):=by simp [ld,gX]
theorem c7A (k:IntKind) (a b:Int):ld .geq (.lit (.int k a)) (.lit (.int k b))=some (.lit (.bool (decide (a>=b))),[]):=by simp [ld,gX]
theorem WO (a:List UInt8):(⟨⟨a⟩⟩:ByteArray).size=a.length:=rfl
theorem a0C (d:ByteArray): ∀(k i:Nat) (r:List UInt8),d.size-i=k->ByteArray.toList.loop d i r=r.reverse++d.data.toList.drop i:=by
 intro k
 induction k with
 |zero=>
  intro i r b
  unfold ByteArray.toList.loop
  have: ¬i<d.size:=by omega
  simp only [this,if_false]
  rw [List.drop_of_length_le]
  ·simp
  ·show d.data.size<=i
   exact (by omega:d.size<=i)
 |succ k ih=>
  intro i r b
  unfold ByteArray.toList.loop
  have a:i<d.size:=by omega
  simp only [a,if_true]
  rw [ih (i+1) _ (by omega)]
  have c:i<d.data.toList.length:=a
  rw [List.drop_eq_getElem_cons c]
  have e:i<d.data.size:=a
  simp only [ByteArray.get!,getElem!_pos,e,List.reverse_cons,aV,aU,Array.getElem_toList]
theorem Vy (a:List UInt8):(⟨⟨a⟩⟩:ByteArray).toList=a:=by
 unfold ByteArray.toList
 rw [a0C _ _ 0 [] rfl]
 simp
theorem c5x (a b:List UInt8):ld .add (S a) (S b)=br (cP (a.length+b.length) 1) (some (S (a++b),[])) none:=by
 have:(⟨⟨a⟩⟩:ByteArray)++⟨⟨b⟩⟩=⟨⟨a++b⟩⟩:=by
  apply ByteArray.ext
  simp [ByteArray.data_append]
 by_cases c:a.length+b.length<=cX<;>simp [ld,gX,br,cP,c,WO,this]
theorem c6n (a b:List UInt8):ld .eql (S a) (S b)=some (.lit (.bool (a==b)),[]):=by simp [ld,gX,Vy]
theorem c56 (a b:List UInt8):ld .neq (S a) (S b)=some (.lit (.bool (a !=b)),[]):=by simp [ld,gX,Vy,bne]
def eqS (neg:Bool) (ks:List Bool) (x y:V):Option (V×Upd):=match x,y with
 | .agg a,.agg b=>match fy ks a b with
   |some r=>some (.lit (.bool (if neg then !r else r)),[])
   |none=>none
 |_,_=>none
theorem c0h (neg:Bool) (ks:List Bool) (x y:Opd):aM C ow (.eqAgg neg ks x y) ev h n=eqS neg ks (ev x) (ev y):=rfl
def eqN (neg:Bool):Option Bool->Option (V×Upd)
 |some r=>some (.lit (.bool (if neg then !r else r)),[])
 |none=>none
theorem c1j (neg:Bool) (ks:List Bool) (a b:List V):eqS neg ks (.agg a) (.agg b)=eqN neg (fy ks a b):=by
 unfold eqS eqN;rfl
theorem c7T (r:Bool):eqN true (some r)=some (.lit (.bool !r),[]):=rfl
theorem c8b (r:Bool):eqN false (some r)=some (.lit (.bool r),[]):=rfl
theorem c3u (neg c:Bool) (x y:Option Bool):eqN neg (br c x y)=br c (eqN neg x) (eqN neg y):=by cases c<;>rfl
theorem b7h:fy [] [] []=some true:=rfl
theorem c8d (ks:List Bool) (k:IntKind) (a b:Int) (x y:List V):fy (true::ks) (.lit (.int k a)::x) (.lit (.int k b)::y)=br (a==b) (fy ks x y) (some false):=by
 by_cases c:a=b
 ·subst c;simp [fy,cK]
 ·have:(a==b)=false:=by simpa using c
  rw [this,ba];simp [fy,c]
theorem c6z (ks:List Bool) (a b:List UInt8) (x y:List V):fy (false::ks) (S a::x) (S b::y)=br (a==b) (fy ks x y) (some false):=by
 by_cases c:a=b
 ·subst c;simp [fy,cK]
 ·have:(a==b)=false:=by simpa using c
  rw [this,ba];simp [fy,c]
def c65 (neg:Bool) (x y:V):Option (V×Upd):=match x,y with
 | .lit (.bool a),.lit (.bool b)=>some (.lit (.bool (if neg then a !=b else a==b)),[])
 |_,_=>none
theorem c7e (neg:Bool) (x y:Opd):aM C ow (.beq neg x y) ev h n=c65 neg (ev x) (ev y):=rfl
theorem c3M (a b:Bool):c65 true (B a) (B b)=some (.lit (.bool (a !=b)),[]):=rfl
theorem c6c (a b:Bool):c65 false (B a) (B b)=some (.lit (.bool (a==b)),[]):=rfl
def unS (op:UnOp) (x:V):Option (V×Upd):=match x with
 | .lit a=>match VD op a with
   |some v=>some (.lit v,[])
   |none=>none
 |_=>none
theorem c8h (op:UnOp) (x:Opd):aM C ow (.un op x) ev h n=unS op (ev x):=rfl
theorem c6V (b:Bool):unS .not (B b)=some (B (!b),[]):=rfl
theorem c79 (k:IntKind) (a:Int):unS .neg (.lit (.int k a))=some (.lit (.int k (k.wrap (0-a))),[]):=rfl
def dz (k:IntKind) (a:Int):Int:=k.wrap (BitVec.ofInt k.bits (if k.signed then-1 else k.max)^^^BitVec.ofInt k.bits a).toNat
theorem c7J (k:IntKind) (a:Int):unS .xor (.lit (.int k a))=some (.lit (.int k (dz k a)),[]):=rfl
def tiS (k:IntKind) (x:V):Option (V×Upd):=match asI x with
 |some m=>some (.lit (.int k (k.wrap m)),[])
 |none=>none
theorem b95 (k:IntKind) (x:Opd):aM C ow (.toInt k x) ev h n=tiS k (ev x):=rfl
theorem c7y (k k':IntKind) (m:Int):tiS k (.lit (.int k' m))=some (.lit (.int k (k.wrap m)),[]):=rfl
def c1Z (x:V):Option (V×Upd):=match x with
 | .lit (.string s)=>some (.lit (.string s),[])
 |_=>none
theorem c51 (x:Opd):aM C ow (.same x) ev h n=c1Z (ev x):=rfl
theorem b9g (s:List UInt8):c1Z (S s)=some (S s,[]):=rfl
theorem a5K (f:FuncId) (cs:List Opd):aM C ow (.makeFunc f cs) ev h n=some (.fn f (cs.map ev),[]):=rfl
def a6m (str:Bool) (x:V):Option (V×Upd):=match str,x with
 |true,.lit (.string s)=>some (.lit (.int .i64 s.size),[])
 |false,.lit (.slice _ n _)=>some (.lit (.int .i64 n),[])
 |false,.sl _ _ n=>some (.lit (.int .i64 n),[])
 |false,.imm _ rows=>some (.lit (.int .i64 rows.length),[])
 |_,_=>none
theorem c7C (str:Bool) (x:Opd):aM C ow (.len str x) ev h n=a6m str (ev x):=rfl
theorem b9F:a6m false (sl e l)=some (I (l.length:Nat),[]):=by
 rcases l6 e l with ⟨rfl,h⟩|⟨_,h⟩<;>rw [h]<;>simp [a6m,rws]
theorem b2y (b s m:Nat):a6m false (.sl b s m)=some (I (m:Nat),[]):=rfl
theorem b2A:a6m false (.lit (.slice none 0 0))=some (I (0:Nat),[]):=rfl
theorem b60:a6m false (.imm 1 [])=some (I (0:Nat),[]):=rfl
theorem b2u (s:List UInt8):a6m true (S s)=some (I (s.length:Nat),[]):=rfl
def inS (neg:Bool) (x:V):Option (V×Upd):=match x with
 | .lit (.slice a _ _)=>some (.lit (.bool (if neg then !a.isNone else a.isNone)),[])
 | .imm _ (_::_)=>some (.lit (.bool neg),[])
 |_=>none
theorem b84 (neg:Bool) (x:Opd):aM C ow (.isNil neg x) ev h n=inS neg (ev x):=by
 simp only [aM];unfold inS;rfl
theorem b8N (neg:Bool) (m c:Nat):inS neg (.lit (.slice none m c))=some (B (!neg),[]):=by cases neg<;>rfl
theorem a7N (neg:Bool) (a:Addr) (m c:Nat):inS neg (.lit (.slice (some a) m c))=some (B neg,[]):=by cases neg<;>rfl
theorem a3k (neg:Bool) (e:En α) (x:α) (l:List α):inS neg (sl e (x::l))=some (B neg,[]):=rfl
theorem b3m (m:Nat) (x:Opd):aM C ow (.lenArr m x) ev h n=some (I (m:Nat),[]):=rfl
def b9v (x:V) (i:Nat):Option (V×Upd):=match x with
 | .tup vs=>match vs[i]? with
   |some v=>some (v,[])
   |none=>none
 |_=>none
theorem c6M (x:Opd) (i:Nat):aM C ow (.ext x i) ev h n=b9v (ev x) i:=rfl
theorem c5R (a:V) (r:List V):b9v (.tup (a::r)) 0=some (a,[]):=rfl
theorem c2X (a:V) (r:List V) (i:Nat):b9v (.tup (a::r)) (i+1)=b9v (.tup r) i:=rfl
def c59 (d:Nat) (x:V):Option (V×Upd):=match x with
 | .ptr b i o n=>some (.ptr b i (o+d) n,[])
 | .iptr r o=>some (.iptr r (o+d),[])
 |_=>none
theorem c6G (d:Nat) (x:Opd):aM C ow (.off d x) ev h n=c59 d (ev x):=rfl
theorem c2H (d b i o m:Nat):c59 d (.ptr b i o m)=some (.ptr b i (o+d) m,[]):=rfl
theorem c2C (d:Nat) (r:List V) (o:Nat):c59 d (.iptr r o)=some (.iptr r (o+d),[]):=rfl
def ldS:Option V->Option (V×Upd)
 |some v=>some (v,[])
 |none=>none
theorem b3h (v:V):ldS (some v)=some (v,[]):=rfl
theorem b3r {β:Type} (x:Option β) (f:β->Option V):ldS (x.bind f)=x.bind (fun a=>ldS (f a)):=by cases x<;>rfl
theorem b98 (a:V) (r:List V):part none (a::r) 0=some a:=rfl
theorem b9o (a:V) (r:List V) (o:Nat):part none (a::r) (o+1)=part none r o:=rfl
theorem c5U (m:Nat) (cs:List V) (o:Nat) (a:(o+m).ble cs.length=true):part (some m) cs o=some (.agg ((cs.drop o).take m)):=by
 simp only [part]
 rw [ae (cD a)]
def b4F (d:Nat) (agg:Option Nat) (x:V):Option (V×Upd):=match x with
 | .agg cs=>match part agg cs d with
   |some v=>some (v,[])
   |none=>none
 |_=>none
theorem c0g (d:Nat) (agg:Option Nat) (x:Opd):aM C ow (.field d agg x) ev h n=b4F d agg (ev x):=rfl
theorem b32 (d:Nat) (agg:Option Nat) (cs:List V):b4F d agg (.agg cs)=ldS (part agg cs d):=rfl
def c5t (len esz:Nat) (agg:Option Nat) (x i:V):Option (V×Upd):=match x,asI i with
 | .agg cs,some i=>if 0<=i/\i.toNat<len then (match part agg cs (i.toNat*esz) with
   |some v=>some (v,[])
   |none=>none) else none
 |_,_=>none
theorem b9i (len esz:Nat) (agg:Option Nat) (x i:Opd):aM C ow (.ixAgg len esz agg x i) ev h n=c5t len esz agg (ev x) (ev i):=rfl
theorem c3d (len esz:Nat) (agg:Option Nat) (cs:List V) (k:IntKind) (i:Int):c5t len esz agg (.agg cs) (.lit (.int k i))=br (inb i len) (ldS (part agg cs (i.toNat*esz))) none:=by
 unfold inb
 by_cases a:0<=i<;>by_cases b:i.toNat<len<;>simp [c5t,asI,a,b,br,ldS]
def a8Z (agg:Option Nat) (k:Option Blk) (i o m:Nat):Option V:=match k with
 |some k=>if k.rows.length=m then (match k.rows[i]? with
  |some row=>part agg row o
  |none=>none) else none
 |none=>none
theorem c2E (agg:Option Nat) (a:Opd):aM C ow (.load agg a) ev h n=ldS (y4 agg h (ev a)):=rfl
theorem b91 (agg:Option Nat) (b i o m:Nat):y4 agg h (.ptr b i o m)=a8Z agg (h b) i o m:=rfl
theorem b97 (agg:Option Nat) (r:List V) (o:Nat):y4 agg h (.iptr r o)=part agg r o:=rfl
theorem b9C (agg:Option Nat) (m:Nat) (row:List V) (o:Nat):a8Z agg (some ⟨m,true,[row]⟩) 0 o 1=part agg row o:=rfl
theorem b90 (agg:Option Nat) (m:Nat) (op:Bool) (i o q:Nat) (a:l.length=q):a8Z agg (some ⟨m,op,rws e l⟩) i o q=(l[i]?).bind (fun x=>part agg (e.enc x) o):=by
 simp only [a8Z,rws,aO,aW]
 rw [ae a]
 cases l[i]? <;>rfl
def WQ (k:Option Blk) (m b s q:Nat) (i:Int):Option (V×Upd):=match k with
 |some k=>if 0<k.esz/\k.esz=m/\s+q=k.rows.length/\i.toNat<q then some (.ptr b (s+i.toNat) 0 k.rows.length,[]) else none
 |none=>none
def a3e (m:Nat) (x i:V) (h:b8):Option (V×Upd):=match asI i with
 |some i=>if 0<=i then (match x with
  | .sl b s q=>WQ (h b) m b s q i
  | .imm e rows=>if e=m then (match rows[i.toNat]? with
    |some row=>some (.iptr row 0,[])
    |none=>none) else none
  |_=>none) else none
 |none=>none
theorem c7G (m:Nat) (x i:Opd):aM C ow (.idx m x i) ev h n=a3e m (ev x) (ev i) h:=by
 simp only [aM,a3e,WQ]
 cases asI (ev i) with
 |none=>rfl
 |some i=>
  dsimp only
  split
  ·cases ev x with
   |sl b s q=>dsimp only;cases h b<;>rfl
   |_=>rfl
  ·rfl
theorem b7w (m:Nat) (b:e.esz=m) (k:IntKind) (i:Int):a3e m (sl e l) (.lit (.int k i)) h=(atL l i).bind (fun x=>some (.iptr (e.enc x) 0,[])):=by
 subst b
 unfold atL
 by_cases hi:0<=i
 ·rw [ae hi]
  rcases l6 e l with ⟨rfl,a⟩|⟨_,a⟩
  ·rw [a];simp [a3e,asI]
  ·rw [a]
   simp only [a3e,asI,hi,if_true,rws,aW]
   cases l[i.toNat]? <;>rfl
 ·rw [aa hi];simp [a3e,asI,hi]
theorem b2U (m b s q:Nat) (k:IntKind) (i:Int):a3e m (.sl b s q) (.lit (.int k i)) h=br (nn i) (WQ (h b) m b s q i) none:=by
 unfold nn
 by_cases hi:0<=i<;>simp [a3e,asI,hi,br]
theorem c0d (m:Nat) (op:Bool) (b q:Nat) (i:Int) (h0:Nat.blt 0 m=true) (a:l.length=q):WQ (some ⟨m,op,rws e l⟩) m b 0 q i=br (decide (i.toNat<q)) (some (.ptr b i.toNat 0 q,[])) none:=by
 have h0:0<m:=by have:=cD h0;omega
 by_cases hi:i.toNat<q<;>simp [WQ,rws,a,hi,br,h0]
theorem b8L (m b:Nat) (row:List V) (i:Int):WQ (some ⟨m,true,[row]⟩) m b 0 1 i=br (Nat.blt 0 m&&decide (i.toNat<1)) (some (.ptr b i.toNat 0 1,[])) none:=by
 rw [EU]
 by_cases h0:0<m<;>by_cases hi:i.toNat<1<;>simp [WQ,hi,br,h0]
def a0L (len esz:Nat) (x i:V):Option (V×Upd):=match asI i with
 |some i=>if 0<=i/\i.toNat<len then (match x with
  | .ptr b j o n=>some (.ptr b j (o+i.toNat*esz) n,[])
  | .iptr r o=>some (.iptr r (o+i.toNat*esz),[])
  |_=>none) else none
 |none=>none
theorem b1D (len esz:Nat) (x i:Opd):aM C ow (.idxArr len esz x i) ev h n=a0L len esz (ev x) (ev i):=rfl
theorem b8D (len esz b j o m:Nat) (k:IntKind) (i:Int):a0L len esz (.ptr b j o m) (.lit (.int k i))=br (inb i len) (some (.ptr b j (o+i.toNat*esz) m,[])) none:=by
 unfold inb
 by_cases a:0<=i<;>by_cases c:i.toNat<len<;>simp [a0L,asI,a,c,br]
theorem b8c (len esz:Nat) (r:List V) (o:Nat) (k:IntKind) (i:Int):a0L len esz (.iptr r o) (.lit (.int k i))=br (inb i len) (some (.iptr r (o+i.toNat*esz),[])) none:=by
 unfold inb
 by_cases a:0<=i<;>by_cases b:i.toNat<len<;>simp [a0L,asI,a,b,br]
def c1g (x i:V):Option (V×Upd):=match x,asI i with
 | .lit (.string s),some i=>if 0<=i then (match s.data[i.toNat]? with
   |some b=>some (.lit (.int .u8 b.toNat),[])
   |none=>none) else none
 |_,_=>none
theorem c0T (x i:Opd):aM C ow (.ixStr x i) ev h n=c1g (ev x) (ev i):=rfl
theorem c5F (s:List UInt8) (k:IntKind) (i:Int):c1g (S s) (.lit (.int k i))=(atL s i).bind (fun b=>some (.lit (.int .u8 b.toNat),[])):=by
 unfold atL
 by_cases hi:0<=i
 ·simp only [c1g,asI,hi,if_true]
  have:(⟨⟨s⟩⟩:ByteArray).data[i.toNat]? =s[i.toNat]? :=by simp
  rw [this]
  cases s[i.toNat]? <;>rfl
 ·simp [c1g,asI,hi]
def frO (k:Option Blk) (n:Nat) (b:Blk) (v:V):Option (V×Upd):=match k with
 |none=>br (Nat.blt 0 b.esz) (some (v,[(n,b)])) none
 |some _=>none
theorem yK (b:Blk) (v:V):mK h n b v=frO (h n) n b v:=by
 unfold mK frO
 cases h n with
 |none=>rw [EU];by_cases a:0<b.esz<;>simp [a,br]
 |some k=>simp
theorem b4B (b:Blk) (v:V):frO none n b v=br (Nat.blt 0 b.esz) (some (v,[(n,b)])) none:=rfl
theorem a6P (zero:List Value):aM C ow (.alloc zero) ev h n=br (zero.all ci) (frO (h n) n ⟨zero.length,true,[zero.map .lit]⟩ (.ptr n 0 0 1)) none:=by
 simp only [aM,yK]
 cases zero.all ci<;>rfl
def c2w (size:Nat) (cs:List V) (h:b8) (n:Nat):Option (V×Upd):=br (Nat.beq cs.length size&&cs.all V.cell) (frO (h n) n ⟨size,true,[cs]⟩ (.ptr n 0 0 1)) none
theorem c7h (size:Nat) (x:Opd):aM C ow (.box size x) ev h n=c2w size (ev x).cells h n:=by
 simp only [aM,yK,c2w,LD]
 by_cases a:(ev x).cells.length=size<;>cases b:(ev x).cells.all V.cell<;>simp [a,br]
def Nk (cells:List V):List (Nat×Nat×V)->Option (List V)
 |[]=>some cells
 | (off,size,v)::r=>br (Nat.beq v.cells.length size&&Nat.ble (off+size) cells.length&&v.cells.all V.cell) (Nk (cells.take off++(v.cells++cells.drop (off+size))) r) none
theorem Ra: ∀(ps:List (Nat×Nat×V)) (cells:List V),J5 cells ps=Nk cells ps
 |[],_=>rfl
 | (off,size,v)::r,cells=>by
   simp only [J5,Nk,LD,KD]
   rw [<-Ra r]
   by_cases a:v.cells.length=size<;>by_cases b:off+size<=cells.length<;>cases c:v.cells.all V.cell<;>simp [a,b,br]
def c60:Option (List V)->Option (V×Upd)
 |some cs=>some (.agg cs,[])
 |none=>none
theorem WP (zero:List Value) (ps:List (Nat×Nat×Opd)):aM C ow (.build zero ps) ev h n=br (zero.all ci) (c60 (Nk (zero.map .lit) (iJ ev ps))) none:=by
 simp only [aM,Ra,c60]
 cases zero.all ci
 ·rfl
 ·simp only [cK,if_true]
  cases Nk (zero.map .lit) (iJ ev ps)<;>rfl
theorem a9i (cs:List V):c60 (some cs)=some (.agg cs,[]):=rfl
end
end Go.AI
