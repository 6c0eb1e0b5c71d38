/- Part. -/
import Derived.Test.YtdnkignjanfikaaGreatAiLim
set_option linter.unusedVariables false
set_option linter.unusedSimpArgs false
namespace Go.AI
theorem Ku (a b:Nat):Nat.ble a b=decide (a<=b):=by
 by_cases h0:a<=b
 ·rw [aj h0];exact Nat.ble_eq_true_of_le h0
 ·rw [ae h0];cases c:Nat.ble a b with
  |false=>rfl
  |true=>exact absurd (dG c) h0
theorem H0 (a b:Nat):Nat.blt a b=decide (a<b):=Ku (a+1) b
theorem KA (a b:Nat):Nat.beq a b=decide (a=b):=by
 by_cases h0:a=b
 ·rw [aj h0,h0];exact Nat.beq_refl b
 ·rw [ae h0];cases c:Nat.beq a b with
  |false=>rfl
  |true=>exact absurd (j1 c) h0
section
variable {C:cr} {ow:FuncId->List Nat} {ev:Opd->V} {h:ba} {n:Nat} {α:Type} {e:En α} {l:List α}
theorem c72 (x:Opd):aK C ow (.mv x) ev h n=some (ev x,[]):=rfl
def b4d (c a b:V):Option (V×Upd):=match c with
 | .lit (.bool c)=>br c (some (a,[])) (some (b,[]))
 |_=>none
theorem c3n (c a b:Opd):aK C ow (.pick c a b) ev h n=b4d (ev c) (ev a) (ev b):=by
 simp only [aK]
 unfold b4d
 split
 ·rename_i h;rw [h];rfl
 ·rename_i h;rw [h];rfl
 ·rename_i d e
  split
  ·rename_i c' hc;cases c'
   ·exact absurd hc e
   ·exact absurd hc d
  ·rfl
theorem b95 (c:Bool) (a b:V):b4d (.lit (.bool c)) a b=br c (some (a,[])) (some (b,[])):=rfl
def ot (op:BinOp) (x y:V):Option (V×Upd):=match x,y with
 | .lit a,.lit b=>match j8 op a b with
   |some v=>some (.lit v,[])
   |none=>none
 |_,_=>none
theorem c68 (op:BinOp) (x y:Opd):aK C ow (.bin op x y) ev h n=ot op (ev x) (ev y):=rfl
theorem c4s (k:IntKind) (a b:Int):ot .add (.lit (.int k a)) (.lit (.int k b))=some (.lit (.int k (k.wrap (a+b))),[]):=by simp [ot,j8]
theorem c6s (k:IntKind) (a b:Int):ot .sub (.lit (.int k a)) (.lit (.int k b))=some (.lit (.int k (k.wrap (a-b))),[]):=by simp [ot,j8]
theorem c67 (k:IntKind) (a b:Int):ot .mul (.lit (.int k a)) (.lit (.int k b))=some (.lit (.int k (k.wrap (a*b))),[]):=by simp [ot,j8]
def nz (b:Int):Bool:=decide (b≠0)
theorem c64 (k:IntKind) (a b:Int):ot .quo (.lit (.int k a)) (.lit (.int k b))=br (nz b) (some (.lit (.int k (k.wrap (a.tdiv b))),[])) none:=by
 by_cases c:b=0<;>simp [ot,j8,br,nz,c]
theorem c6u (k:IntKind) (a b:Int):ot .rem (.lit (.int k a)) (.lit (.int k b))=br (nz b) (some (.lit (.int k (a.tmod b)),[])) none:=by
 by_cases c:b=0<;>simp [ot,j8,br,nz,c]
def sx (k:IntKind) (a b:Int):Int:=k.wrap (BitVec.ofInt k.bits a^^^BitVec.ofInt k.bits b).toNat
def dc (k:IntKind) (a b:Int):Int:=k.wrap (BitVec.ofInt k.bits a&&&BitVec.ofInt k.bits b).toNat
def Cy (k:IntKind) (a b:Int):Int:=k.wrap (BitVec.ofInt k.bits a|||BitVec.ofInt k.bits b).toNat
def RZ (k:IntKind) (a b:Int):Int:=k.wrap (BitVec.ofInt k.bits a&&& ~~~ BitVec.ofInt k.bits b).toNat
def ct (k:IntKind) (a b:Int):Int:=k.wrap (a*2^(min b.toNat k.bits))
def cc (k:IntKind) (a b:Int):Int:=a.fdiv (2^(min b.toNat k.bits))
theorem c5f (k:IntKind) (a b:Int):ot .and (.lit (.int k a)) (.lit (.int k b))=some (.lit (.int k (dc k a b)),[]):=by simp [ot,j8,dc]
theorem c6I (k:IntKind) (a b:Int):ot .or (.lit (.int k a)) (.lit (.int k b))=some (.lit (.int k (Cy k a b)),[]):=by simp [ot,j8,Cy]
theorem c5G (k:IntKind) (a b:Int):ot .xor (.lit (.int k a)) (.lit (.int k b))=some (.lit (.int k (sx k a b)),[]):=by simp [ot,j8,sx]
theorem c2S (k:IntKind) (a b:Int):ot .andNot (.lit (.int k a)) (.lit (.int k b))=some (.lit (.int k (RZ k a b)),[]):=by simp [ot,j8,RZ]
def nn (b:Int):Bool:=decide (0<=b)
theorem c4Z (k k':IntKind) (a b:Int):ot .shl (.lit (.int k a)) (.lit (.int k' b))=br (nn b) (some (.lit (.int k (ct k a b)),[])) none:=by
 by_cases c:0<=b<;>simp [ot,j8,br,nn,c,ct]
theorem c6l (k k':IntKind) (a b:Int):ot .shr (.lit (.int k a)) (.lit (.int k' b))=br (nn b) (some (.lit (.int k (cc k a b)),[])) none:=by
 by_cases c:0<=b<;>simp [ot,j8,br,nn,c,cc]
theorem c4L (k:IntKind) (a b:Int):ot .eql (.lit (.int k a)) (.lit (.int k b))=some (.lit (.bool (a==b)),[]):=by simp [ot,j8]
theorem c6e (k:IntKind) (a b:Int):ot .neq (.lit (.int k a)) (.lit (.int k b))=some (.lit (.bool (a !=b)),[]):=by simp [ot,j8]
theorem c4K (k:IntKind) (a b:Int):ot .lss (.lit (.int k a)) (.lit (.int k b))=some (.lit (.bool (decide (a<b))),[]):=by simp [ot,j8]
theorem c6x (k:IntKind) (a b:Int):ot .leq (.lit (.int k a)) (.lit (.int k b))=some (.lit (.bool (decide (a<=b))),[]):=by simp [ot,j8]
theorem c5X (k:IntKind) (a b:Int):ot .gtr (.lit (.int k a)) (.lit (.int k b))=some (.lit (.bool (decide (a>b))),[]):=by simp [ot,j8]
theorem c5a (k:IntKind) (a b:Int):ot .geq (.lit (.int k a)) (.lit (.int k b))=some (.lit (.bool (decide (a>=b))),[]):=by simp [ot,j8]
theorem Xw (a:List UInt8):(⟨⟨a⟩⟩:ByteArray).size=a.length:=rfl
theorem a0w (d:ByteArray): ∀(k i:Nat) (r:List UInt8),d.size-i=k->ByteArray.toList.loop d i r=r.reverse++d.data.toList.drop i:=by
 intro k
 induction k with
 |zero=>
  intro i r b
  unfold ByteArray.toList.loop
  have: ¬i<d.size:=by omega
  simp only [this,if_false]
  rw [List.drop_of_length_le]
  ·simp
  ·show d.data.size<=i
   exact (by omega:d.size<=i)
 |succ k ih=>
  intro i r b
  unfold ByteArray.toList.loop
  have a:i<d.size:=by omega
  simp only [a,if_true]
  rw [ih (i+1) _ om]
  have c:i<d.data.toList.length:=a
  rw [jr c]
  have e:i<d.data.size:=a
  simp only [ByteArray.get!,getElem!_pos,e,List.reverse_cons,aP,b8,Array.getElem_toList]
theorem a6M (a:List UInt8):(⟨⟨a⟩⟩:ByteArray).toList=a:=by
 unfold ByteArray.toList
 rw [a0w _ _ 0 [] rfl]
 simp
theorem c4a (a b:List UInt8):ot .add (S a) (S b)=br (bj (a.length+b.length) 1) (some (S (a++b),[])) none:=by
 have:(⟨⟨a⟩⟩:ByteArray)++⟨⟨b⟩⟩=⟨⟨a++b⟩⟩:=by
  apply ByteArray.ext
  simp [ByteArray.data_append]
 by_cases c:a.length+b.length<=dz<;>simp [ot,j8,br,bj,c,Xw,this]
theorem c4j (a b:List UInt8):ot .eql (S a) (S b)=some (.lit (.bool (a==b)),[]):=by simp [ot,j8,a6M]
def eqS (neg:Bool) (ks:List Bool) (x y:V):Option (V×Upd):=match x,y with
 | .agg a,.agg b=>match iY ks a b with
   |some r=>some (.lit (.bool (if neg then !r else r)),[])
   |none=>none
 |_,_=>none
theorem b8J (neg:Bool) (ks:List Bool) (x y:Opd):aK C ow (.eqAgg neg ks x y) ev h n=eqS neg ks (ev x) (ev y):=rfl
def eqN (neg:Bool):Option Bool->Option (V×Upd)
 |some r=>some (.lit (.bool (if neg then !r else r)),[])
 |none=>none
theorem b90 (neg:Bool) (ks:List Bool) (a b:List V):eqS neg ks (.agg a) (.agg b)=eqN neg (iY ks a b):=by
 unfold eqS eqN;rfl
theorem c5y (r:Bool):eqN true (some r)=some (.lit (.bool !r),[]):=rfl
theorem c0Z (neg c:Bool) (x y:Option Bool):eqN neg (br c x y)=br c (eqN neg x) (eqN neg y):=by cases c<;>rfl
theorem b8F:iY [] [] []=some true:=rfl
theorem c5v (ks:List Bool) (k:IntKind) (a b:Int) (x y:List V):iY (true::ks) (.lit (.int k a)::x) (.lit (.int k b)::y)=br (a==b) (iY ks x y) (some false):=by
 by_cases c:a=b
 ·subst c;simp [iY,dj]
 ·have:(a==b)=false:=by simpa using c
  rw [this,bu];simp [iY,c]
def c7j (neg:Bool) (x y:V):Option (V×Upd):=match x,y with
 | .lit (.bool a),.lit (.bool b)=>some (.lit (.bool (if neg then a !=b else a==b)),[])
 |_,_=>none
def unS (op:UnOp) (x:V):Option (V×Upd):=match x with
 | .lit a=>match V5 op a with
   |some v=>some (.lit v,[])
   |none=>none
 |_=>none
theorem c6R (op:UnOp) (x:Opd):aK C ow (.un op x) ev h n=unS op (ev x):=rfl
theorem c5H (b:Bool):unS .not (B b)=some (B (!b),[]):=rfl
def dU (k:IntKind) (a:Int):Int:=k.wrap (BitVec.ofInt k.bits (if k.signed then-1 else k.max)^^^BitVec.ofInt k.bits a).toNat
theorem c5k (k:IntKind) (a:Int):unS .xor (.lit (.int k a))=some (.lit (.int k (dU k a)),[]):=rfl
def tiS (k:IntKind) (x:V):Option (V×Upd):=match asI x with
 |some m=>some (.lit (.int k (k.wrap m)),[])
 |none=>none
theorem b8q (k:IntKind) (x:Opd):aK C ow (.toInt k x) ev h n=tiS k (ev x):=rfl
theorem c6y (k k':IntKind) (m:Int):tiS k (.lit (.int k' m))=some (.lit (.int k (k.wrap m)),[]):=rfl
def c7i (x:V):Option (V×Upd):=match x with
 | .lit (.string s)=>some (.lit (.string s),[])
 |_=>none
theorem a3c (f:FuncId) (cs:List Opd):aK C ow (.makeFunc f cs) ev h n=some (.fn f (cs.map ev),[]):=rfl
def b2Y (str:Bool) (x:V):Option (V×Upd):=match str,x with
 |true,.lit (.string s)=>some (.lit (.int .i64 s.size),[])
 |false,.lit (.slice _ n _)=>some (.lit (.int .i64 n),[])
 |false,.sl _ _ n=>some (.lit (.int .i64 n),[])
 |false,.imm _ rows=>some (.lit (.int .i64 rows.length),[])
 |_,_=>none
theorem c4Y (str:Bool) (x:Opd):aK C ow (.len str x) ev h n=b2Y str (ev x):=rfl
theorem b7P:b2Y false (sl e l)=some (I (l.length:Nat),[]):=by
 rcases pi e l with ⟨rfl,h⟩|⟨_,h⟩<;>rw [h]<;>simp [b2Y,rws]
theorem b04 (b s m:Nat):b2Y false (.sl b s m)=some (I (m:Nat),[]):=rfl
theorem b3R (s:List UInt8):b2Y true (S s)=some (I (s.length:Nat),[]):=rfl
def inS (neg:Bool) (x:V):Option (V×Upd):=match x with
 | .lit (.slice a _ _)=>some (.lit (.bool (if neg then !a.isNone else a.isNone)),[])
 | .imm _ (_::_)=>some (.lit (.bool neg),[])
 |_=>none
theorem b8n (neg:Bool) (x:Opd):aK C ow (.isNil neg x) ev h n=inS neg (ev x):=by
 simp only [aK];unfold inS;rfl
theorem a6n (neg:Bool) (a:Addr) (m c:Nat):inS neg (.lit (.slice (some a) m c))=some (B neg,[]):=by cases neg<;>rfl
theorem ZB (neg:Bool) (e:En α) (x:α) (l:List α):inS neg (sl e (x::l))=some (B neg,[]):=rfl
def b8T (x:V) (i:Nat):Option (V×Upd):=match x with
 | .tup vs=>match vs[i]? with
   |some v=>some (v,[])
   |none=>none
 |_=>none
theorem c66 (x:Opd) (i:Nat):aK C ow (.ext x i) ev h n=b8T (ev x) i:=rfl
theorem c3w (a:V) (r:List V):b8T (.tup (a::r)) 0=some (a,[]):=rfl
theorem c0G (a:V) (r:List V) (i:Nat):b8T (.tup (a::r)) (i+1)=b8T (.tup r) i:=rfl
def c2B (d:Nat) (x:V):Option (V×Upd):=match x with
 | .ptr b i o n=>some (.ptr b i (o+d) n,[])
 | .iptr r o=>some (.iptr r (o+d),[])
 |_=>none
theorem c6k (d:Nat) (x:Opd):aK C ow (.off d x) ev h n=c2B d (ev x):=rfl
theorem c1g (d b i o m:Nat):c2B d (.ptr b i o m)=some (.ptr b i (o+d) m,[]):=rfl
theorem c2R (d:Nat) (r:List V) (o:Nat):c2B d (.iptr r o)=some (.iptr r (o+d),[]):=rfl
def ldS:Option V->Option (V×Upd)
 |some v=>some (v,[])
 |none=>none
theorem b2O (v:V):ldS (some v)=some (v,[]):=rfl
theorem b09 {β:Type} (x:Option β) (f:β->Option V):ldS (x.bind f)=x.bind (fun a=>ldS (f a)):=by cases x<;>rfl
theorem b9a (a:V) (r:List V):part none (a::r) 0=some a:=rfl
theorem b9K (a:V) (r:List V) (o:Nat):part none (a::r) (o+1)=part none r o:=rfl
theorem c1y (m:Nat) (cs:List V) (o:Nat) (a:(o+m).ble cs.length=true):part (some m) cs o=some (.agg ((cs.drop o).take m)):=by
 simp only [part]
 rw [aa (dG a)]
def a9Z (d:Nat) (agg:Option Nat) (x:V):Option (V×Upd):=match x with
 | .agg cs=>match part agg cs d with
   |some v=>some (v,[])
   |none=>none
 |_=>none
theorem b6w (d:Nat) (agg:Option Nat) (x:Opd):aK C ow (.field d agg x) ev h n=a9Z d agg (ev x):=rfl
theorem b47 (d:Nat) (agg:Option Nat) (cs:List V):a9Z d agg (.agg cs)=ldS (part agg cs d):=rfl
def c2n (len esz:Nat) (agg:Option Nat) (x i:V):Option (V×Upd):=match x,asI i with
 | .agg cs,some i=>if 0<=i/\i.toNat<len then (match part agg cs (i.toNat*esz) with
   |some v=>some (v,[])
   |none=>none) else none
 |_,_=>none
theorem b5X (len esz:Nat) (agg:Option Nat) (x i:Opd):aK C ow (.ixAgg len esz agg x i) ev h n=c2n len esz agg (ev x) (ev i):=rfl
theorem c1r (len esz:Nat) (agg:Option Nat) (cs:List V) (k:IntKind) (i:Int):c2n len esz agg (.agg cs) (.lit (.int k i))=br (inb i len) (ldS (part agg cs (i.toNat*esz))) none:=by
 unfold inb
 by_cases a:0<=i<;>by_cases b:i.toNat<len<;>simp [c2n,asI,a,b,br,ldS]
def WV (agg:Option Nat) (k:Option Blk) (i o m:Nat):Option V:=match k with
 |some k=>if k.rows.length=m then (match k.rows[i]? with
  |some row=>part agg row o
  |none=>none) else none
 |none=>none
theorem c3M (agg:Option Nat) (a:Opd):aK C ow (.load agg a) ev h n=ldS (AP agg h (ev a)):=rfl
theorem b8v (agg:Option Nat) (b i o m:Nat):AP agg h (.ptr b i o m)=WV agg (h b) i o m:=rfl
theorem b6T (agg:Option Nat) (r:List V) (o:Nat):AP agg h (.iptr r o)=part agg r o:=rfl
theorem b8c (agg:Option Nat) (m:Nat) (row:List V) (o:Nat):WV agg (some ⟨m,true,[row]⟩) 0 o 1=part agg row o:=rfl
theorem b7c (agg:Option Nat) (m:Nat) (op:Bool) (i o q:Nat) (a:l.length=q):WV agg (some ⟨m,op,rws e l⟩) i o q=(l[i]?).bind (fun x=>part agg (e.enc x) o):=by
 simp only [WV,rws,aw,b6]
 rw [aa a]
 cases l[i]? <;>rfl
def a3s (k:Option Blk) (m b s q:Nat) (i:Int):Option (V×Upd):=match k with
 |some k=>if 0<k.esz/\k.esz=m/\s+q=k.rows.length/\i.toNat<q then some (.ptr b (s+i.toNat) 0 k.rows.length,[]) else none
 |none=>none
def ZN (m:Nat) (x i:V) (h:ba):Option (V×Upd):=match asI i with
 |some i=>if 0<=i then (match x with
  | .sl b s q=>a3s (h b) m b s q i
  | .imm e rows=>if e=m then (match rows[i.toNat]? with
    |some row=>some (.iptr row 0,[])
    |none=>none) else none
  |_=>none) else none
 |none=>none
theorem c5O (m:Nat) (x i:Opd):aK C ow (.idx m x i) ev h n=ZN m (ev x) (ev i) h:=by
 simp only [aK,ZN,a3s]
 cases asI (ev i) with
 |none=>rfl
 |some i=>
  dsimp only
  split
  ·cases ev x with
   |sl b s q=>dsimp only;cases h b<;>rfl
   |_=>rfl
  ·rfl
theorem b6X (m:Nat) (b:e.esz=m) (k:IntKind) (i:Int):ZN m (sl e l) (.lit (.int k i)) h=(atL l i).bind (fun x=>some (.iptr (e.enc x) 0,[])):=by
 subst b
 unfold atL
 by_cases hi:0<=i
 ·rw [aa hi]
  rcases pi e l with ⟨rfl,a⟩|⟨_,a⟩
  ·rw [a];simp [ZN,asI]
  ·rw [a]
   simp only [ZN,asI,hi,if_true,rws,b6]
   cases l[i.toNat]? <;>rfl
 ·rw [a7 hi];simp [ZN,asI,hi]
theorem b2Q (m b s q:Nat) (k:IntKind) (i:Int):ZN m (.sl b s q) (.lit (.int k i)) h=br (nn i) (a3s (h b) m b s q i) none:=by
 unfold nn
 by_cases hi:0<=i<;>simp [ZN,asI,hi,br]
theorem b7p (m:Nat) (op:Bool) (b q:Nat) (i:Int) (h0:Nat.blt 0 m=true) (a:l.length=q):a3s (some ⟨m,op,rws e l⟩) m b 0 q i=br (decide (i.toNat<q)) (some (.ptr b i.toNat 0 q,[])) none:=by
 have h0:0<m:=by have:=dG h0;omega
 by_cases hi:i.toNat<q<;>simp [a3s,rws,a,hi,br,h0]
def b4a (len esz:Nat) (x i:V):Option (V×Upd):=match asI i with
 |some i=>if 0<=i/\i.toNat<len then (match x with
  | .ptr b j o n=>some (.ptr b j (o+i.toNat*esz) n,[])
  | .iptr r o=>some (.iptr r (o+i.toNat*esz),[])
  |_=>none) else none
 |none=>none
theorem b0p (len esz:Nat) (x i:Opd):aK C ow (.idxArr len esz x i) ev h n=b4a len esz (ev x) (ev i):=rfl
theorem b5T (len esz b j o m:Nat) (k:IntKind) (i:Int):b4a len esz (.ptr b j o m) (.lit (.int k i))=br (inb i len) (some (.ptr b j (o+i.toNat*esz) m,[])) none:=by
 unfold inb
 by_cases a:0<=i<;>by_cases c:i.toNat<len<;>simp [b4a,asI,a,c,br]
def b5V (x i:V):Option (V×Upd):=match x,asI i with
 | .lit (.string s),some i=>if 0<=i then (match s.data[i.toNat]? with
   |some b=>some (.lit (.int .u8 b.toNat),[])
   |none=>none) else none
 |_,_=>none
theorem b6f (x i:Opd):aK C ow (.ixStr x i) ev h n=b5V (ev x) (ev i):=rfl
theorem c1S (s:List UInt8) (k:IntKind) (i:Int):b5V (S s) (.lit (.int k i))=(atL s i).bind (fun b=>some (.lit (.int .u8 b.toNat),[])):=by
 unfold atL
 by_cases hi:0<=i
 ·simp only [b5V,asI,hi,if_true]
  have:(⟨⟨s⟩⟩:ByteArray).data[i.toNat]? =s[i.toNat]? :=by simp
  rw [this]
  cases s[i.toNat]? <;>rfl
 ·simp [b5V,asI,hi]
def frO (k:Option Blk) (n:Nat) (b:Blk) (v:V):Option (V×Upd):=match k with
 |none=>br (Nat.blt 0 b.esz) (some (v,[(n,b)])) none
 |some _=>none
theorem Al (b:Blk) (v:V):pg h n b v=frO (h n) n b v:=by
 unfold pg frO
 cases h n with
 |none=>rw [H0];by_cases a:0<b.esz<;>simp [a,br]
 |some k=>simp
theorem b0n (b:Blk) (v:V):frO none n b v=br (Nat.blt 0 b.esz) (some (v,[(n,b)])) none:=rfl
theorem a5Z (zero:List Value):aK C ow (.alloc zero) ev h n=br (zero.all cF) (frO (h n) n ⟨zero.length,true,[zero.map .lit]⟩ (.ptr n 0 0 1)) none:=by
 simp only [aK,Al]
 cases zero.all cF<;>rfl
def c1H (size:Nat) (cs:List V) (h:ba) (n:Nat):Option (V×Upd):=br (Nat.beq cs.length size&&cs.all V.cell) (frO (h n) n ⟨size,true,[cs]⟩ (.ptr n 0 0 1)) none
theorem c4y (size:Nat) (x:Opd):aK C ow (.box size x) ev h n=c1H size (ev x).cells h n:=by
 simp only [aK,Al,c1H,KA]
 by_cases a:(ev x).cells.length=size<;>cases b:(ev x).cells.all V.cell<;>simp [a,br]
def OX (cells:List V):List (Nat×Nat×V)->Option (List V)
 |[]=>some cells
 | (off,size,v)::r=>br (Nat.beq v.cells.length size&&Nat.ble (off+size) cells.length&&v.cells.all V.cell) (OX (cells.take off++(v.cells++cells.drop (off+size))) r) none
theorem RS: ∀(ps:List (Nat×Nat×V)) (cells:List V),Ip cells ps=OX cells ps
 |[],_=>rfl
 | (off,size,v)::r,cells=>by
   simp only [Ip,OX,KA,Ku]
   rw [<-RS r]
   by_cases a:v.cells.length=size<;>by_cases b:off+size<=cells.length<;>cases c:v.cells.all V.cell<;>simp [a,b,br]
def c3v:Option (List V)->Option (V×Upd)
 |some cs=>some (.agg cs,[])
 |none=>none
theorem Yp (zero:List Value) (ps:List (Nat×Nat×Opd)):aK C ow (.build zero ps) ev h n=br (zero.all cF) (c3v (OX (zero.map .lit) (jz ev ps))) none:=by
 simp only [aK,RS,c3v]
 cases zero.all cF
 ·rfl
 ·simp only [dj,if_true]
  cases OX (zero.map .lit) (jz ev ps)<;>rfl
theorem a6E (cs:List V):c3v (some cs)=some (.agg cs,[]):=rfl
end
end Go.AI
