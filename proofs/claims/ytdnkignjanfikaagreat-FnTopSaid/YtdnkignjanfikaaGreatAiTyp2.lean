/- Part. -/
import Derived.Test.YtdnkignjanfikaaGreatAiLim
set_option linter.unusedVariables false
set_option linter.unusedSimpArgs false
namespace Go.AI
theorem KX (a b:Nat):Nat.ble a b=decide (a<=b):=by
 by_cases h0:a<=b
 ·rw [aj h0];exact Nat.ble_eq_true_of_le h0
 ·rw [ae h0];cases c:Nat.ble a b with
  |false=>rfl
  |true=>exact absurd (dG c) h0
theorem Gq (a b:Nat):Nat.blt a b=decide (a<b):=KX (a+1) b
theorem L0 (a b:Nat):Nat.beq a b=decide (a=b):=by
 by_cases h0:a=b
 ·rw [aj h0,h0];exact Nat.beq_refl b
 ·rw [ae h0];cases c:Nat.beq a b with
  |false=>rfl
  |true=>exact absurd (iZ c) h0
section
variable {C:cr} {ow:FuncId->List Nat} {ev:Opd->V} {h:ba} {n:Nat} {α:Type} {e:En α} {l:List α}
theorem c6S (x:Opd):aK C ow (.mv x) ev h n=some (ev x,[]):=rfl
def b3i (c a b:V):Option (V×Upd):=match c with
 | .lit (.bool c)=>br c (some (a,[])) (some (b,[]))
 |_=>none
theorem c3P (c a b:Opd):aK C ow (.pick c a b) ev h n=b3i (ev c) (ev a) (ev b):=by
 simp only [aK]
 unfold b3i
 split
 ·rename_i h;rw [h];rfl
 ·rename_i h;rw [h];rfl
 ·rename_i d e
  split
  ·rename_i c' hc;cases c'
   ·exact absurd hc e
   ·exact absurd hc d
  ·rfl
theorem b7o (c:Bool) (a b:V):b3i (.lit (.bool c)) a b=br c (some (a,[])) (some (b,[])):=rfl
def oi (op:BinOp) (x y:V):Option (V×Upd):=match x,y with
 | .lit a,.lit b=>match jb op a b with
   |some v=>some (.lit v,[])
   |none=>none
 |_,_=>none
theorem c4s (op:BinOp) (x y:Opd):aK C ow (.bin op x y) ev h n=oi op (ev x) (ev y):=rfl
theorem c5D (k:IntKind) (a b:Int):oi .add (.lit (.int k a)) (.lit (.int k b))=some (.lit (.int k (k.wrap (a+b))),[]):=by simp [oi,jb]
theorem c5F (k:IntKind) (a b:Int):oi .sub (.lit (.int k a)) (.lit (.int k b))=some (.lit (.int k (k.wrap (a-b))),[]):=by simp [oi,jb]
theorem c4R (k:IntKind) (a b:Int):oi .mul (.lit (.int k a)) (.lit (.int k b))=some (.lit (.int k (k.wrap (a*b))),[]):=by simp [oi,jb]
def nz (b:Int):Bool:=decide (b≠0)
theorem c5f (k:IntKind) (a b:Int):oi .quo (.lit (.int k a)) (.lit (.int k b))=br (nz b) (some (.lit (.int k (k.wrap (a.tdiv b))),[])) none:=by
 by_cases c:b=0<;>simp [oi,jb,br,nz,c]
theorem c4z (k:IntKind) (a b:Int):oi .rem (.lit (.int k a)) (.lit (.int k b))=br (nz b) (some (.lit (.int k (a.tmod b)),[])) none:=by
 by_cases c:b=0<;>simp [oi,jb,br,nz,c]
def sA (k:IntKind) (a b:Int):Int:=k.wrap (BitVec.ofInt k.bits a^^^BitVec.ofInt k.bits b).toNat
def de (k:IntKind) (a b:Int):Int:=k.wrap (BitVec.ofInt k.bits a&&&BitVec.ofInt k.bits b).toNat
def Cp (k:IntKind) (a b:Int):Int:=k.wrap (BitVec.ofInt k.bits a|||BitVec.ofInt k.bits b).toNat
def Q6 (k:IntKind) (a b:Int):Int:=k.wrap (BitVec.ofInt k.bits a&&& ~~~ BitVec.ofInt k.bits b).toNat
def ct (k:IntKind) (a b:Int):Int:=k.wrap (a*2^(min b.toNat k.bits))
def cc (k:IntKind) (a b:Int):Int:=a.fdiv (2^(min b.toNat k.bits))
theorem c6s (k:IntKind) (a b:Int):oi .and (.lit (.int k a)) (.lit (.int k b))=some (.lit (.int k (de k a b)),[]):=by simp [oi,jb,de]
theorem c6U (k:IntKind) (a b:Int):oi .or (.lit (.int k a)) (.lit (.int k b))=some (.lit (.int k (Cp k a b)),[]):=by simp [oi,jb,Cp]
theorem c6g (k:IntKind) (a b:Int):oi .xor (.lit (.int k a)) (.lit (.int k b))=some (.lit (.int k (sA k a b)),[]):=by simp [oi,jb,sA]
theorem c3i (k:IntKind) (a b:Int):oi .andNot (.lit (.int k a)) (.lit (.int k b))=some (.lit (.int k (Q6 k a b)),[]):=by simp [oi,jb,Q6]
def nn (b:Int):Bool:=decide (0<=b)
theorem c5K (k k':IntKind) (a b:Int):oi .shl (.lit (.int k a)) (.lit (.int k' b))=br (nn b) (some (.lit (.int k (ct k a b)),[])) none:=by
 by_cases c:0<=b<;>simp [oi,jb,br,nn,c,ct]
theorem c4y (k k':IntKind) (a b:Int):oi .shr (.lit (.int k a)) (.lit (.int k' b))=br (nn b) (some (.lit (.int k (cc k a b)),[])) none:=by
 by_cases c:0<=b<;>simp [oi,jb,br,nn,c,cc]
theorem c5I (k:IntKind) (a b:Int):oi .eql (.lit (.int k a)) (.lit (.int k b))=some (.lit (.bool (a==b)),[]):=by simp [oi,jb]
theorem c5T (k:IntKind) (a b:Int):oi .neq (.lit (.int k a)) (.lit (.int k b))=some (.lit (.bool (a !=b)),[]):=by simp [oi,jb]
theorem c6x (k:IntKind) (a b:Int):oi .lss (.lit (.int k a)) (.lit (.int k b))=some (.lit (.bool (decide (a<b))),[]):=by simp [oi,jb]
theorem c6l (k:IntKind) (a b:Int):oi .leq (.lit (.int k a)) (.lit (.int k b))=some (.lit (.bool (decide (a<=b))),[]):=by simp [oi,jb]
theorem c4D (k:IntKind) (a b:Int):oi .gtr (.lit (.int k a)) (.lit (.int k b))=some (.lit (.bool (decide (a>b))),[]):=by simp [oi,jb]
theorem c4q (k:IntKind) (a b:Int):oi .geq (.lit (.int k a)) (.lit (.int k b))=some (.lit (.bool (decide (a>=b))),[]):=by simp [oi,jb]
theorem Y9 (a:List UInt8):(⟨⟨a⟩⟩:ByteArray).size=a.length:=rfl
theorem YC (d:ByteArray): ∀(k i:Nat) (r:List UInt8),d.size-i=k->ByteArray.toList.loop d i r=r.reverse++d.data.toList.drop i:=by
 intro k
 induction k with
 |zero=>
  intro i r b
  unfold ByteArray.toList.loop
  have: ¬i<d.size:=by omega
  simp only [this,if_false]
  rw [List.drop_of_length_le]
  ·simp
  ·show d.data.size<=i
   exact (by omega:d.size<=i)
 |succ k ih=>
  intro i r b
  unfold ByteArray.toList.loop
  have a:i<d.size:=by omega
  simp only [a,if_true]
  rw [ih (i+1) _ om]
  have c:i<d.data.toList.length:=a
  rw [jr c]
  have e:i<d.data.size:=a
  simp only [ByteArray.get!,getElem!_pos,e,List.reverse_cons,aP,b8,Array.getElem_toList]
theorem a6N (a:List UInt8):(⟨⟨a⟩⟩:ByteArray).toList=a:=by
 unfold ByteArray.toList
 rw [YC _ _ 0 [] rfl]
 simp
theorem c2K (a b:List UInt8):oi .add (S a) (S b)=br (bj (a.length+b.length) 1) (some (S (a++b),[])) none:=by
 have:(⟨⟨a⟩⟩:ByteArray)++⟨⟨b⟩⟩=⟨⟨a++b⟩⟩:=by
  apply ByteArray.ext
  simp [ByteArray.data_append]
 by_cases c:a.length+b.length<=dz<;>simp [oi,jb,br,bj,c,Y9,this]
theorem c2E (a b:List UInt8):oi .eql (S a) (S b)=some (.lit (.bool (a==b)),[]):=by simp [oi,jb,a6N]
def eqS (neg:Bool) (ks:List Bool) (x y:V):Option (V×Upd):=match x,y with
 | .agg a,.agg b=>match iX ks a b with
   |some r=>some (.lit (.bool (if neg then !r else r)),[])
   |none=>none
 |_,_=>none
theorem b6f (neg:Bool) (ks:List Bool) (x y:Opd):aK C ow (.eqAgg neg ks x y) ev h n=eqS neg ks (ev x) (ev y):=rfl
def eqN (neg:Bool):Option Bool->Option (V×Upd)
 |some r=>some (.lit (.bool (if neg then !r else r)),[])
 |none=>none
theorem b8v (neg:Bool) (ks:List Bool) (a b:List V):eqS neg ks (.agg a) (.agg b)=eqN neg (iX ks a b):=by
 unfold eqS eqN;rfl
theorem c59 (r:Bool):eqN true (some r)=some (.lit (.bool !r),[]):=rfl
theorem c3N (neg c:Bool) (x y:Option Bool):eqN neg (br c x y)=br c (eqN neg x) (eqN neg y):=by cases c<;>rfl
theorem b7n:iX [] [] []=some true:=rfl
theorem c5q (ks:List Bool) (k:IntKind) (a b:Int) (x y:List V):iX (true::ks) (.lit (.int k a)::x) (.lit (.int k b)::y)=br (a==b) (iX ks x y) (some false):=by
 by_cases c:a=b
 ·subst c;simp [iX,dj]
 ·have:(a==b)=false:=by simpa using c
  rw [this,bu];simp [iX,c]
def c7j (neg:Bool) (x y:V):Option (V×Upd):=match x,y with
 | .lit (.bool a),.lit (.bool b)=>some (.lit (.bool (if neg then a !=b else a==b)),[])
 |_,_=>none
def unS (op:UnOp) (x:V):Option (V×Upd):=match x with
 | .lit a=>match Vn op a with
   |some v=>some (.lit v,[])
   |none=>none
 |_=>none
theorem c79 (op:UnOp) (x:Opd):aK C ow (.un op x) ev h n=unS op (ev x):=rfl
theorem c6f (b:Bool):unS .not (B b)=some (B (!b),[]):=rfl
def dT (k:IntKind) (a:Int):Int:=k.wrap (BitVec.ofInt k.bits (if k.signed then-1 else k.max)^^^BitVec.ofInt k.bits a).toNat
theorem c5k (k:IntKind) (a:Int):unS .xor (.lit (.int k a))=some (.lit (.int k (dT k a)),[]):=rfl
def tiS (k:IntKind) (x:V):Option (V×Upd):=match asI x with
 |some m=>some (.lit (.int k (k.wrap m)),[])
 |none=>none
theorem b7E (k:IntKind) (x:Opd):aK C ow (.toInt k x) ev h n=tiS k (ev x):=rfl
theorem c5j (k k':IntKind) (m:Int):tiS k (.lit (.int k' m))=some (.lit (.int k (k.wrap m)),[]):=rfl
def c7i (x:V):Option (V×Upd):=match x with
 | .lit (.string s)=>some (.lit (.string s),[])
 |_=>none
theorem a2u (f:FuncId) (cs:List Opd):aK C ow (.makeFunc f cs) ev h n=some (.fn f (cs.map ev),[]):=rfl
def b0V (str:Bool) (x:V):Option (V×Upd):=match str,x with
 |true,.lit (.string s)=>some (.lit (.int .i64 s.size),[])
 |false,.lit (.slice _ n _)=>some (.lit (.int .i64 n),[])
 |false,.sl _ _ n=>some (.lit (.int .i64 n),[])
 |false,.imm _ rows=>some (.lit (.int .i64 rows.length),[])
 |_,_=>none
theorem c62 (str:Bool) (x:Opd):aK C ow (.len str x) ev h n=b0V str (ev x):=rfl
theorem b8O:b0V false (sl e l)=some (I (l.length:Nat),[]):=by
 rcases oZ e l with ⟨rfl,h⟩|⟨_,h⟩<;>rw [h]<;>simp [b0V,rws]
theorem b0O (b s m:Nat):b0V false (.sl b s m)=some (I (m:Nat),[]):=rfl
theorem b4y (s:List UInt8):b0V true (S s)=some (I (s.length:Nat),[]):=rfl
def inS (neg:Bool) (x:V):Option (V×Upd):=match x with
 | .lit (.slice a _ _)=>some (.lit (.bool (if neg then !a.isNone else a.isNone)),[])
 | .imm _ (_::_)=>some (.lit (.bool neg),[])
 |_=>none
theorem b7j (neg:Bool) (x:Opd):aK C ow (.isNil neg x) ev h n=inS neg (ev x):=by
 simp only [aK];unfold inS;rfl
theorem a5K (neg:Bool) (a:Addr) (m c:Nat):inS neg (.lit (.slice (some a) m c))=some (B neg,[]):=by cases neg<;>rfl
theorem Z4 (neg:Bool) (e:En α) (x:α) (l:List α):inS neg (sl e (x::l))=some (B neg,[]):=rfl
def b9u (x:V) (i:Nat):Option (V×Upd):=match x with
 | .tup vs=>match vs[i]? with
   |some v=>some (v,[])
   |none=>none
 |_=>none
theorem c68 (x:Opd) (i:Nat):aK C ow (.ext x i) ev h n=b9u (ev x) i:=rfl
theorem c4h (a:V) (r:List V):b9u (.tup (a::r)) 0=some (a,[]):=rfl
theorem c2P (a:V) (r:List V) (i:Nat):b9u (.tup (a::r)) (i+1)=b9u (.tup r) i:=rfl
def c3U (d:Nat) (x:V):Option (V×Upd):=match x with
 | .ptr b i o n=>some (.ptr b i (o+d) n,[])
 | .iptr r o=>some (.iptr r (o+d),[])
 |_=>none
theorem c5U (d:Nat) (x:Opd):aK C ow (.off d x) ev h n=c3U d (ev x):=rfl
theorem c1e (d b i o m:Nat):c3U d (.ptr b i o m)=some (.ptr b i (o+d) m,[]):=rfl
theorem c1U (d:Nat) (r:List V) (o:Nat):c3U d (.iptr r o)=some (.iptr r (o+d),[]):=rfl
def ldS:Option V->Option (V×Upd)
 |some v=>some (v,[])
 |none=>none
theorem b3q (v:V):ldS (some v)=some (v,[]):=rfl
theorem b38 {β:Type} (x:Option β) (f:β->Option V):ldS (x.bind f)=x.bind (fun a=>ldS (f a)):=by cases x<;>rfl
theorem b5Y (a:V) (r:List V):part none (a::r) 0=some a:=rfl
theorem b5P (a:V) (r:List V) (o:Nat):part none (a::r) (o+1)=part none r o:=rfl
theorem c1G (m:Nat) (cs:List V) (o:Nat) (a:(o+m).ble cs.length=true):part (some m) cs o=some (.agg ((cs.drop o).take m)):=by
 simp only [part]
 rw [aa (dG a)]
def b0i (d:Nat) (agg:Option Nat) (x:V):Option (V×Upd):=match x with
 | .agg cs=>match part agg cs d with
   |some v=>some (v,[])
   |none=>none
 |_=>none
theorem b7T (d:Nat) (agg:Option Nat) (x:Opd):aK C ow (.field d agg x) ev h n=b0i d agg (ev x):=rfl
theorem b55 (d:Nat) (agg:Option Nat) (cs:List V):b0i d agg (.agg cs)=ldS (part agg cs d):=rfl
def c2x (len esz:Nat) (agg:Option Nat) (x i:V):Option (V×Upd):=match x,asI i with
 | .agg cs,some i=>if 0<=i/\i.toNat<len then (match part agg cs (i.toNat*esz) with
   |some v=>some (v,[])
   |none=>none) else none
 |_,_=>none
theorem b7B (len esz:Nat) (agg:Option Nat) (x i:Opd):aK C ow (.ixAgg len esz agg x i) ev h n=c2x len esz agg (ev x) (ev i):=rfl
theorem c1r (len esz:Nat) (agg:Option Nat) (cs:List V) (k:IntKind) (i:Int):c2x len esz agg (.agg cs) (.lit (.int k i))=br (inb i len) (ldS (part agg cs (i.toNat*esz))) none:=by
 unfold inb
 by_cases a:0<=i<;>by_cases b:i.toNat<len<;>simp [c2x,asI,a,b,br,ldS]
def VY (agg:Option Nat) (k:Option Blk) (i o m:Nat):Option V:=match k with
 |some k=>if k.rows.length=m then (match k.rows[i]? with
  |some row=>part agg row o
  |none=>none) else none
 |none=>none
theorem c3c (agg:Option Nat) (a:Opd):aK C ow (.load agg a) ev h n=ldS (Ac agg h (ev a)):=rfl
theorem b5N (agg:Option Nat) (b i o m:Nat):Ac agg h (.ptr b i o m)=VY agg (h b) i o m:=rfl
theorem b97 (agg:Option Nat) (r:List V) (o:Nat):Ac agg h (.iptr r o)=part agg r o:=rfl
theorem b6Q (agg:Option Nat) (m:Nat) (row:List V) (o:Nat):VY agg (some ⟨m,true,[row]⟩) 0 o 1=part agg row o:=rfl
theorem b9s (agg:Option Nat) (m:Nat) (op:Bool) (i o q:Nat) (a:l.length=q):VY agg (some ⟨m,op,rws e l⟩) i o q=(l[i]?).bind (fun x=>part agg (e.enc x) o):=by
 simp only [VY,rws,aw,b6]
 rw [aa a]
 cases l[i]? <;>rfl
def a41 (k:Option Blk) (m b s q:Nat) (i:Int):Option (V×Upd):=match k with
 |some k=>if 0<k.esz/\k.esz=m/\s+q=k.rows.length/\i.toNat<q then some (.ptr b (s+i.toNat) 0 k.rows.length,[]) else none
 |none=>none
def a0w (m:Nat) (x i:V) (h:ba):Option (V×Upd):=match asI i with
 |some i=>if 0<=i then (match x with
  | .sl b s q=>a41 (h b) m b s q i
  | .imm e rows=>if e=m then (match rows[i.toNat]? with
    |some row=>some (.iptr row 0,[])
    |none=>none) else none
  |_=>none) else none
 |none=>none
theorem c5e (m:Nat) (x i:Opd):aK C ow (.idx m x i) ev h n=a0w m (ev x) (ev i) h:=by
 simp only [aK,a0w,a41]
 cases asI (ev i) with
 |none=>rfl
 |some i=>
  dsimp only
  split
  ·cases ev x with
   |sl b s q=>dsimp only;cases h b<;>rfl
   |_=>rfl
  ·rfl
theorem b8q (m:Nat) (b:e.esz=m) (k:IntKind) (i:Int):a0w m (sl e l) (.lit (.int k i)) h=(atL l i).bind (fun x=>some (.iptr (e.enc x) 0,[])):=by
 subst b
 unfold atL
 by_cases hi:0<=i
 ·rw [aa hi]
  rcases oZ e l with ⟨rfl,a⟩|⟨_,a⟩
  ·rw [a];simp [a0w,asI]
  ·rw [a]
   simp only [a0w,asI,hi,if_true,rws,b6]
   cases l[i.toNat]? <;>rfl
 ·rw [a7 hi];simp [a0w,asI,hi]
theorem b03 (m b s q:Nat) (k:IntKind) (i:Int):a0w m (.sl b s q) (.lit (.int k i)) h=br (nn i) (a41 (h b) m b s q i) none:=by
 unfold nn
 by_cases hi:0<=i<;>simp [a0w,asI,hi,br]
theorem b72 (m:Nat) (op:Bool) (b q:Nat) (i:Int) (h0:Nat.blt 0 m=true) (a:l.length=q):a41 (some ⟨m,op,rws e l⟩) m b 0 q i=br (decide (i.toNat<q)) (some (.ptr b i.toNat 0 q,[])) none:=by
 have h0:0<m:=by have:=dG h0;omega
 by_cases hi:i.toNat<q<;>simp [a41,rws,a,hi,br,h0]
def b1H (len esz:Nat) (x i:V):Option (V×Upd):=match asI i with
 |some i=>if 0<=i/\i.toNat<len then (match x with
  | .ptr b j o n=>some (.ptr b j (o+i.toNat*esz) n,[])
  | .iptr r o=>some (.iptr r (o+i.toNat*esz),[])
  |_=>none) else none
 |none=>none
theorem b2R (len esz:Nat) (x i:Opd):aK C ow (.idxArr len esz x i) ev h n=b1H len esz (ev x) (ev i):=rfl
theorem b9T (len esz b j o m:Nat) (k:IntKind) (i:Int):b1H len esz (.ptr b j o m) (.lit (.int k i))=br (inb i len) (some (.ptr b j (o+i.toNat*esz) m,[])) none:=by
 unfold inb
 by_cases a:0<=i<;>by_cases c:i.toNat<len<;>simp [b1H,asI,a,c,br]
def b5L (x i:V):Option (V×Upd):=match x,asI i with
 | .lit (.string s),some i=>if 0<=i then (match s.data[i.toNat]? with
   |some b=>some (.lit (.int .u8 b.toNat),[])
   |none=>none) else none
 |_,_=>none
theorem b7Z (x i:Opd):aK C ow (.ixStr x i) ev h n=b5L (ev x) (ev i):=rfl
theorem c3E (s:List UInt8) (k:IntKind) (i:Int):b5L (S s) (.lit (.int k i))=(atL s i).bind (fun b=>some (.lit (.int .u8 b.toNat),[])):=by
 unfold atL
 by_cases hi:0<=i
 ·simp only [b5L,asI,hi,if_true]
  have:(⟨⟨s⟩⟩:ByteArray).data[i.toNat]? =s[i.toNat]? :=by simp
  rw [this]
  cases s[i.toNat]? <;>rfl
 ·simp [b5L,asI,hi]
def frO (k:Option Blk) (n:Nat) (b:Blk) (v:V):Option (V×Upd):=match k with
 |none=>br (Nat.blt 0 b.esz) (some (v,[(n,b)])) none
 |some _=>none
theorem A6 (b:Blk) (v:V):pc h n b v=frO (h n) n b v:=by
 unfold pc frO
 cases h n with
 |none=>rw [Gq];by_cases a:0<b.esz<;>simp [a,br]
 |some k=>simp
theorem b5c (b:Blk) (v:V):frO none n b v=br (Nat.blt 0 b.esz) (some (v,[(n,b)])) none:=rfl
theorem a4O (zero:List Value):aK C ow (.alloc zero) ev h n=br (zero.all cD) (frO (h n) n ⟨zero.length,true,[zero.map .lit]⟩ (.ptr n 0 0 1)) none:=by
 simp only [aK,A6]
 cases zero.all cD<;>rfl
def c2m (size:Nat) (cs:List V) (h:ba) (n:Nat):Option (V×Upd):=br (Nat.beq cs.length size&&cs.all V.cell) (frO (h n) n ⟨size,true,[cs]⟩ (.ptr n 0 0 1)) none
theorem c4x (size:Nat) (x:Opd):aK C ow (.box size x) ev h n=c2m size (ev x).cells h n:=by
 simp only [aK,A6,c2m,L0]
 by_cases a:(ev x).cells.length=size<;>cases b:(ev x).cells.all V.cell<;>simp [a,br]
def Ol (cells:List V):List (Nat×Nat×V)->Option (List V)
 |[]=>some cells
 | (off,size,v)::r=>br (Nat.beq v.cells.length size&&Nat.ble (off+size) cells.length&&v.cells.all V.cell) (Ol (cells.take off++(v.cells++cells.drop (off+size))) r) none
theorem SH: ∀(ps:List (Nat×Nat×V)) (cells:List V),Jg cells ps=Ol cells ps
 |[],_=>rfl
 | (off,size,v)::r,cells=>by
   simp only [Jg,Ol,L0,KX]
   rw [<-SH r]
   by_cases a:v.cells.length=size<;>by_cases b:off+size<=cells.length<;>cases c:v.cells.all V.cell<;>simp [a,b,br]
def c1c:Option (List V)->Option (V×Upd)
 |some cs=>some (.agg cs,[])
 |none=>none
theorem XR (zero:List Value) (ps:List (Nat×Nat×Opd)):aK C ow (.build zero ps) ev h n=br (zero.all cD) (c1c (Ol (zero.map .lit) (jH ev ps))) none:=by
 simp only [aK,SH,c1c]
 cases zero.all cD
 ·rfl
 ·simp only [dj,if_true]
  cases Ol (zero.map .lit) (jH ev ps)<;>rfl
theorem a8b (cs:List V):c1c (some cs)=some (.agg cs,[]):=rfl
end
end Go.AI
