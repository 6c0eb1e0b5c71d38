/- Part. -/
import Derived.Test.YtdnkignjanfikaaGreatAiLim
set_option linter.unusedVariables false
set_option linter.unusedSimpArgs false
namespace Go.AI
theorem Ki (a b:Nat):Nat.ble a b=decide (a<=b):=by
 by_cases h0:a<=b
 ·rw [al h0];exact Nat.ble_eq_true_of_le h0
 ·rw [ag h0];cases c:Nat.ble a b with
  |false=>rfl
  |true=>exact absurd (cD c) h0
theorem EV (a b:Nat):Nat.blt a b=decide (a<b):=Ki (a+1) b
theorem LU (a b:Nat):Nat.beq a b=decide (a=b):=by
 by_cases h0:a=b
 ·rw [al h0,h0];exact Nat.beq_refl b
 ·rw [ag h0];cases c:Nat.beq a b with
  |false=>rfl
  |true=>exact absurd (hJ c) h0
section
variable {C:ce} {ow:FuncId->List Nat} {ev:Opd->V} {h:b8} {n:Nat} {α:Type} {e:En α} {l:List α}
theorem c8q (x:Opd):aM C ow (.mv x) ev h n=some (ev x,[]):=rfl
def b2Q (c a b:V):Option (V×Upd):=match c with
 | .lit (.bool c)=>br c (some (a,[])) (some (b,[]))
 |_=>none
theorem c3i (c a b:Opd):aM C ow (.pick c a b) ev h n=b2Q (ev c) (ev a) (ev b):=by
 simp only [aM]
 unfold b2Q
 split
 ·rename_i h;rw [h];rfl
 ·rename_i h;rw [h];rfl
 ·rename_i e f
  split
  ·rename_i c' d;cases c'
   ·exact absurd d f
   ·exact absurd d e
  ·rfl
theorem c0I (c:Bool) (a b:V):b2Q (.lit (.bool c)) a b=br c (some (a,[])) (some (b,[])):=rfl
def lu (op:BinOp) (x y:V):Option (V×Upd):=match x,y with
 | .lit a,.lit b=>match hG op a b with
   |some v=>some (.lit v,[])
   |none=>none
 |_,_=>none
theorem c75 (op:BinOp) (x y:Opd):aM C ow (.bin op x y) ev h n=lu op (ev x) (ev y):=rfl
theorem c82 (k:IntKind) (a b:Int):lu .add (.lit (.int k a)) (.lit (.int k b))=some (.lit (.int k (k.wrap (a+b))),[]):=by simp [lu,hG]
theorem c6R (k:IntKind) (a b:Int):lu .sub (.lit (.int k a)) (.lit (.int k b))=some (.lit (.int k (k.wrap (a-b))),[]):=by simp [lu,hG]
theorem c70 (k:IntKind) (a b:Int):lu .mul (.lit (.int k a)) (.lit (.int k b))=some (.lit (.int k (k.wrap (a*b))),[]):=by simp [lu,hG]
def nz (b:Int):Bool:=decide (b≠0)
theorem c6H (k:IntKind) (a b:Int):lu .quo (.lit (.int k a)) (.lit (.int k b))=br (nz b) (some (.lit (.int k (k.wrap (a.tdiv b))),[])) none:=by
 by_cases c:b=0<;>simp [lu,hG,br,nz,c]
theorem c6K (k:IntKind) (a b:Int):lu .rem (.lit (.int k a)) (.lit (.int k b))=br (nz b) (some (.lit (.int k (a.tmod b)),[])) none:=by
 by_cases c:b=0<;>simp [lu,hG,br,nz,c]
def nh (k:IntKind) (a b:Int):Int:=k.wrap (BitVec.ofInt k.bits a^^^BitVec.ofInt k.bits b).toNat
def cM (k:IntKind) (a b:Int):Int:=k.wrap (BitVec.ofInt k.bits a&&&BitVec.ofInt k.bits b).toNat
def xi (k:IntKind) (a b:Int):Int:=k.wrap (BitVec.ofInt k.bits a|||BitVec.ofInt k.bits b).toNat
def Qw (k:IntKind) (a b:Int):Int:=k.wrap (BitVec.ofInt k.bits a&&& ~~~ BitVec.ofInt k.bits b).toNat
def bC (k:IntKind) (a b:Int):Int:=k.wrap (a*2^(min b.toNat k.bits))
def bW (k:IntKind) (a b:Int):Int:=a.fdiv (2^(min b.toNat k.bits))
theorem c6v (k:IntKind) (a b:Int):lu .and (.lit (.int k a)) (.lit (.int k b))=some (.lit (.int k (cM k a b)),[]):=by simp [lu,hG,cM]
theorem c8G (k:IntKind) (a b:Int):lu .or (.lit (.int k a)) (.lit (.int k b))=some (.lit (.int k (xi k a b)),[]):=by simp [lu,hG,xi]
theorem c7v (k:IntKind) (a b:Int):lu .xor (.lit (.int k a)) (.lit (.int k b))=some (.lit (.int k (nh k a b)),[]):=by simp [lu,hG,nh]
theorem c5c (k:IntKind) (a b:Int):lu .andNot (.lit (.int k a)) (.lit (.int k b))=some (.lit (.int k (Qw k a b)),[]):=by simp [lu,hG,Qw]
def nn (b:Int):Bool:=decide (0<=b)
theorem c6Q (k k':IntKind) (a b:Int):lu .shl (.lit (.int k a)) (.lit (.int k' b))=br (nn b) (some (.lit (.int k (bC k a b)),[])) none:=by
 by_cases c:0<=b<;>simp [lu,hG,br,nn,c,bC]
theorem c89 (k k':IntKind) (a b:Int):lu .shr (.lit (.int k a)) (.lit (.int k' b))=br (nn b) (some (.lit (.int k (bW k a b)),[])) none:=by
 by_cases c:0<=b<;>simp [lu,hG,br,nn,c,bW]
theorem c7M (k:IntKind) (a b:Int):lu .eql (.lit (.int k a)) (.lit (.int k b))=some (.lit (.bool (a==b)),[]):=by simp [lu,hG]
theorem c6z (k:IntKind) (a b:Int):lu .neq (.lit (.int k a)) (.lit (.int k b))=some (.lit (.bool (a !=b)),[]):=by simp [lu,hG]
theorem c7x (k:IntKind) (a b:Int):lu .lss (.lit (.int k a)) (.lit (.int k b))=some (.lit (.bool (decide (a<b))),[]):=by simp [lu,hG]
theorem c7o (k:IntKind) (a b:Int):lu .leq (.lit (.int k a)) (.lit (.int k b))=some (.lit (.bool (decide (a<=b))),[]):=by simp [lu,hG]
theorem c7r (k:IntKind) (a b:Int):lu .gtr (.lit (.int k a)) (.lit (.int k b))=some (.lit (.bool (decide (a>b))),[]):=by simp [lu,hG]
theorem c7k (k:IntKind) (a b:Int):lu .geq (.lit (.int k a)) (.lit (.int k b))=some (.lit (.bool (decide (a>=b))),[]):=by simp [lu,hG]
theorem YD (a:List UInt8):(⟨⟨a⟩⟩:ByteArray).size=a.length:=rfl
theorem a1R (d:ByteArray): ∀(k i:Nat) (r:List UInt8),d.size-i=k->ByteArray.toList.loop d i r=r.reverse++d.data.toList.drop i:=by
 intro k
 induction k with
 |zero=>
  intro i r c
  unfold ByteArray.toList.loop
  a: ¬i<d.size:=by omega
  simp only [this,if_false]
  rw [List.drop_of_length_le]
  ·simp
  ·show d.data.size<=i
   exact (by omega:d.size<=i)
 |succ k ih=>
  intro i r c
  unfold ByteArray.toList.loop
  a b:i<d.size:=by omega
  simp only [b,if_true]
  rw [ih (i+1) _ (by omega)]
  a e:i<d.data.toList.length:=b
  rw [List.drop_eq_getElem_cons e]
  a f:i<d.data.size:=b
  simp only [ByteArray.get!,getElem!_pos,f,List.reverse_cons,aV,aU,Array.getElem_toList]
theorem Vg (a:List UInt8):(⟨⟨a⟩⟩:ByteArray).toList=a:=by
 unfold ByteArray.toList
 rw [a1R _ _ 0 [] rfl]
 simp
theorem c2G (a b:List UInt8):lu .add (S a) (S b)=br (cP (a.length+b.length) 1) (some (S (a++b),[])) none:=by
 c:(⟨⟨a⟩⟩:ByteArray)++⟨⟨b⟩⟩=⟨⟨a++b⟩⟩:=by
  apply ByteArray.ext
  simp [ByteArray.data_append]
 by_cases d:a.length+b.length<=cV<;>simp [lu,hG,br,cP,d,YD,this]
theorem c4F (a b:List UInt8):lu .eql (S a) (S b)=some (.lit (.bool (a==b)),[]):=by simp [lu,hG,Vg]
theorem c2S (a b:List UInt8):lu .neq (S a) (S b)=some (.lit (.bool (a !=b)),[]):=by simp [lu,hG,Vg,bne]
def eqS (neg:Bool) (ks:List Bool) (x y:V):Option (V×Upd):=match x,y with
 | .agg a,.agg b=>match ft ks a b with
   |some r=>some (.lit (.bool (if neg then !r else r)),[])
   |none=>none
 |_,_=>none
theorem c1d (neg:Bool) (ks:List Bool) (x y:Opd):aM C ow (.eqAgg neg ks x y) ev h n=eqS neg ks (ev x) (ev y):=rfl
def eqN (neg:Bool):Option Bool->Option (V×Upd)
 |some r=>some (.lit (.bool (if neg then !r else r)),[])
 |none=>none
theorem b9E (neg:Bool) (ks:List Bool) (a b:List V):eqS neg ks (.agg a) (.agg b)=eqN neg (ft ks a b):=by
 unfold eqS eqN;rfl
theorem c7l (r:Bool):eqN true (some r)=some (.lit (.bool !r),[]):=rfl
theorem c7n (r:Bool):eqN false (some r)=some (.lit (.bool r),[]):=rfl
theorem c5o (neg c:Bool) (x y:Option Bool):eqN neg (br c x y)=br c (eqN neg x) (eqN neg y):=by cases c<;>rfl
theorem b7v:ft [] [] []=some true:=rfl
theorem c6B (ks:List Bool) (k:IntKind) (a b:Int) (x y:List V):ft (true::ks) (.lit (.int k a)::x) (.lit (.int k b)::y)=br (a==b) (ft ks x y) (some false):=by
 by_cases c:a=b
 ·subst c;simp [ft,cL]
 ·d:(a==b)=false:=by simpa using c
  rw [this,ba];simp [ft,c]
theorem c7z (ks:List Bool) (a b:List UInt8) (x y:List V):ft (false::ks) (S a::x) (S b::y)=br (a==b) (ft ks x y) (some false):=by
 by_cases c:a=b
 ·subst c;simp [ft,cL]
 ·d:(a==b)=false:=by simpa using c
  rw [this,ba];simp [ft,c]
def c69 (neg:Bool) (x y:V):Option (V×Upd):=match x,y with
 | .lit (.bool a),.lit (.bool b)=>some (.lit (.bool (if neg then a !=b else a==b)),[])
 |_,_=>none
theorem c7q (neg:Bool) (x y:Opd):aM C ow (.beq neg x y) ev h n=c69 neg (ev x) (ev y):=rfl
theorem c3N (a b:Bool):c69 true (B a) (B b)=some (.lit (.bool (a !=b)),[]):=rfl
theorem c3F (a b:Bool):c69 false (B a) (B b)=some (.lit (.bool (a==b)),[]):=rfl
def unS (op:UnOp) (x:V):Option (V×Upd):=match x with
 | .lit a=>match Vo op a with
   |some v=>some (.lit v,[])
   |none=>none
 |_=>none
theorem c8p (op:UnOp) (x:Opd):aM C ow (.un op x) ev h n=unS op (ev x):=rfl
theorem c7i (b:Bool):unS .not (B b)=some (B (!b),[]):=rfl
theorem c7h (k:IntKind) (a:Int):unS .neg (.lit (.int k a))=some (.lit (.int k (k.wrap (0-a))),[]):=rfl
def dD (k:IntKind) (a:Int):Int:=k.wrap (BitVec.ofInt k.bits (if k.signed then-1 else k.max)^^^BitVec.ofInt k.bits a).toNat
theorem c7C (k:IntKind) (a:Int):unS .xor (.lit (.int k a))=some (.lit (.int k (dD k a)),[]):=rfl
def tiS (k:IntKind) (x:V):Option (V×Upd):=match asI x with
 |some m=>some (.lit (.int k (k.wrap m)),[])
 |none=>none
theorem b9K (k:IntKind) (x:Opd):aM C ow (.toInt k x) ev h n=tiS k (ev x):=rfl
theorem c7y (k k':IntKind) (m:Int):tiS k (.lit (.int k' m))=some (.lit (.int k (k.wrap m)),[]):=rfl
def c1Q (x:V):Option (V×Upd):=match x with
 | .lit (.string s)=>some (.lit (.string s),[])
 |_=>none
theorem c6c (x:Opd):aM C ow (.same x) ev h n=c1Q (ev x):=rfl
theorem b7K (s:List UInt8):c1Q (S s)=some (S s,[]):=rfl
theorem a6j (f:FuncId) (cs:List Opd):aM C ow (.makeFunc f cs) ev h n=some (.fn f (cs.map ev),[]):=rfl
def a40 (str:Bool) (x:V):Option (V×Upd):=match str,x with
 |true,.lit (.string s)=>some (.lit (.int .i64 s.size),[])
 |false,.lit (.slice _ n _)=>some (.lit (.int .i64 n),[])
 |false,.sl _ _ n=>some (.lit (.int .i64 n),[])
 |false,.imm _ rows=>some (.lit (.int .i64 rows.length),[])
 |_,_=>none
theorem c6I (str:Bool) (x:Opd):aM C ow (.len str x) ev h n=a40 str (ev x):=rfl
theorem b87:a40 false (sl e l)=some (I (l.length:Nat),[]):=by
 rcases l9 e l with ⟨rfl,h⟩|⟨_,h⟩<;>rw [h]<;>simp [a40,rws]
theorem b2C (b s m:Nat):a40 false (.sl b s m)=some (I (m:Nat),[]):=rfl
theorem b4V:a40 false (.lit (.slice none 0 0))=some (I (0:Nat),[]):=rfl
theorem b3W:a40 false (.imm 1 [])=some (I (0:Nat),[]):=rfl
theorem b5T (s:List UInt8):a40 true (S s)=some (I (s.length:Nat),[]):=rfl
def inS (neg:Bool) (x:V):Option (V×Upd):=match x with
 | .lit (.slice a _ _)=>some (.lit (.bool (if neg then !a.isNone else a.isNone)),[])
 | .imm _ (_::_)=>some (.lit (.bool neg),[])
 |_=>none
theorem b7D (neg:Bool) (x:Opd):aM C ow (.isNil neg x) ev h n=inS neg (ev x):=by
 simp only [aM];unfold inS;rfl
theorem c0C (neg:Bool) (m c:Nat):inS neg (.lit (.slice none m c))=some (B (!neg),[]):=by cases neg<;>rfl
theorem a6Q (neg:Bool) (a:Addr) (m c:Nat):inS neg (.lit (.slice (some a) m c))=some (B neg,[]):=by cases neg<;>rfl
theorem a31 (neg:Bool) (e:En α) (x:α) (l:List α):inS neg (sl e (x::l))=some (B neg,[]):=rfl
theorem b3w (m:Nat) (x:Opd):aM C ow (.lenArr m x) ev h n=some (I (m:Nat),[]):=rfl
def b9X (x:V) (i:Nat):Option (V×Upd):=match x with
 | .tup vs=>match vs[i]? with
   |some v=>some (v,[])
   |none=>none
 |_=>none
theorem c6V (x:Opd) (i:Nat):aM C ow (.ext x i) ev h n=b9X (ev x) i:=rfl
theorem c2P (a:V) (r:List V):b9X (.tup (a::r)) 0=some (a,[]):=rfl
theorem c3L (a:V) (r:List V) (i:Nat):b9X (.tup (a::r)) (i+1)=b9X (.tup r) i:=rfl
def c3H (d:Nat) (x:V):Option (V×Upd):=match x with
 | .ptr b i o n=>some (.ptr b i (o+d) n,[])
 | .iptr r o=>some (.iptr r (o+d),[])
 |_=>none
theorem c6F (d:Nat) (x:Opd):aM C ow (.off d x) ev h n=c3H d (ev x):=rfl
theorem c4N (d b i o m:Nat):c3H d (.ptr b i o m)=some (.ptr b i (o+d) m,[]):=rfl
theorem c6d (d:Nat) (r:List V) (o:Nat):c3H d (.iptr r o)=some (.iptr r (o+d),[]):=rfl
def ldS:Option V->Option (V×Upd)
 |some v=>some (v,[])
 |none=>none
theorem b1K (v:V):ldS (some v)=some (v,[]):=rfl
theorem b6g {β:Type} (x:Option β) (f:β->Option V):ldS (x.bind f)=x.bind (fun a=>ldS (f a)):=by cases x<;>rfl
theorem c1g (a:V) (r:List V):part none (a::r) 0=some a:=rfl
theorem c04 (a:V) (r:List V) (o:Nat):part none (a::r) (o+1)=part none r o:=rfl
theorem c5s (m:Nat) (cs:List V) (o:Nat) (a:(o+m).ble cs.length=true):part (some m) cs o=some (.agg ((cs.drop o).take m)):=by
 simp only [part]
 rw [ae (cD a)]
def b6G (d:Nat) (agg:Option Nat) (x:V):Option (V×Upd):=match x with
 | .agg cs=>match part agg cs d with
   |some v=>some (v,[])
   |none=>none
 |_=>none
theorem b8H (d:Nat) (agg:Option Nat) (x:Opd):aM C ow (.field d agg x) ev h n=b6G d agg (ev x):=rfl
theorem b3V (d:Nat) (agg:Option Nat) (cs:List V):b6G d agg (.agg cs)=ldS (part agg cs d):=rfl
def c5I (len esz:Nat) (agg:Option Nat) (x i:V):Option (V×Upd):=match x,asI i with
 | .agg cs,some i=>if 0<=i/\i.toNat<len then (match part agg cs (i.toNat*esz) with
   |some v=>some (v,[])
   |none=>none) else none
 |_,_=>none
theorem c05 (len esz:Nat) (agg:Option Nat) (x i:Opd):aM C ow (.ixAgg len esz agg x i) ev h n=c5I len esz agg (ev x) (ev i):=rfl
theorem c5E (len esz:Nat) (agg:Option Nat) (cs:List V) (k:IntKind) (i:Int):c5I len esz agg (.agg cs) (.lit (.int k i))=br (inb i len) (ldS (part agg cs (i.toNat*esz))) none:=by
 unfold inb
 by_cases a:0<=i<;>by_cases b:i.toNat<len<;>simp [c5I,asI,a,b,br,ldS]
def b0K (agg:Option Nat) (k:Option Blk) (i o m:Nat):Option V:=match k with
 |some k=>if k.rows.length=m then (match k.rows[i]? with
  |some row=>part agg row o
  |none=>none) else none
 |none=>none
theorem c5Q (agg:Option Nat) (a:Opd):aM C ow (.load agg a) ev h n=ldS (ym agg h (ev a)):=rfl
theorem b7x (agg:Option Nat) (b i o m:Nat):ym agg h (.ptr b i o m)=b0K agg (h b) i o m:=rfl
theorem c0l (agg:Option Nat) (r:List V) (o:Nat):ym agg h (.iptr r o)=part agg r o:=rfl
theorem c1z (agg:Option Nat) (m:Nat) (row:List V) (o:Nat):b0K agg (some ⟨m,true,[row]⟩) 0 o 1=part agg row o:=rfl
theorem b8I (agg:Option Nat) (m:Nat) (op:Bool) (i o q:Nat) (a:l.length=q):b0K agg (some ⟨m,op,rws e l⟩) i o q=(l[i]?).bind (fun x=>part agg (e.enc x) o):=by
 simp only [b0K,rws,aO,aW]
 rw [ae a]
 cases l[i]? <;>rfl
def Yj (k:Option Blk) (m b s q:Nat) (i:Int):Option (V×Upd):=match k with
 |some k=>if 0<k.esz/\k.esz=m/\s+q=k.rows.length/\i.toNat<q then some (.ptr b (s+i.toNat) 0 k.rows.length,[]) else none
 |none=>none
def a0L (m:Nat) (x i:V) (h:b8):Option (V×Upd):=match asI i with
 |some i=>if 0<=i then (match x with
  | .sl b s q=>Yj (h b) m b s q i
  | .imm e rows=>if e=m then (match rows[i.toNat]? with
    |some row=>some (.iptr row 0,[])
    |none=>none) else none
  |_=>none) else none
 |none=>none
theorem c7J (m:Nat) (x i:Opd):aM C ow (.idx m x i) ev h n=a0L m (ev x) (ev i) h:=by
 simp only [aM,a0L,Yj]
 cases asI (ev i) with
 |none=>rfl
 |some i=>
  dsimp only
  split
  ·cases ev x with
   |sl b s q=>dsimp only;cases h b<;>rfl
   |_=>rfl
  ·rfl
theorem c1q (m:Nat) (b:e.esz=m) (k:IntKind) (i:Int):a0L m (sl e l) (.lit (.int k i)) h=(atL l i).bind (fun x=>some (.iptr (e.enc x) 0,[])):=by
 subst b
 unfold atL
 by_cases hi:0<=i
 ·rw [ae hi]
  rcases l9 e l with ⟨rfl,a⟩|⟨_,a⟩
  ·rw [a];simp [a0L,asI]
  ·rw [a]
   simp only [a0L,asI,hi,if_true,rws,aW]
   cases l[i.toNat]? <;>rfl
 ·rw [aa hi];simp [a0L,asI,hi]
theorem b39 (m b s q:Nat) (k:IntKind) (i:Int):a0L m (.sl b s q) (.lit (.int k i)) h=br (nn i) (Yj (h b) m b s q i) none:=by
 unfold nn
 by_cases hi:0<=i<;>simp [a0L,asI,hi,br]
theorem b9a (m:Nat) (op:Bool) (b q:Nat) (i:Int) (h0:Nat.blt 0 m=true) (c:l.length=q):Yj (some ⟨m,op,rws e l⟩) m b 0 q i=br (decide (i.toNat<q)) (some (.ptr b i.toNat 0 q,[])) none:=by
 a h0:0<m:=by a:=cD h0;omega
 by_cases hi:i.toNat<q<;>simp [Yj,rws,c,hi,br,h0]
theorem c0K (m b:Nat) (row:List V) (i:Int):Yj (some ⟨m,true,[row]⟩) m b 0 1 i=br (Nat.blt 0 m&&decide (i.toNat<1)) (some (.ptr b i.toNat 0 1,[])) none:=by
 rw [EV]
 by_cases h0:0<m<;>by_cases hi:i.toNat<1<;>simp [Yj,hi,br,h0]
def a1C (len esz:Nat) (x i:V):Option (V×Upd):=match asI i with
 |some i=>if 0<=i/\i.toNat<len then (match x with
  | .ptr b j o n=>some (.ptr b j (o+i.toNat*esz) n,[])
  | .iptr r o=>some (.iptr r (o+i.toNat*esz),[])
  |_=>none) else none
 |none=>none
theorem b2e (len esz:Nat) (x i:Opd):aM C ow (.idxArr len esz x i) ev h n=a1C len esz (ev x) (ev i):=rfl
theorem b8S (len esz b j o m:Nat) (k:IntKind) (i:Int):a1C len esz (.ptr b j o m) (.lit (.int k i))=br (inb i len) (some (.ptr b j (o+i.toNat*esz) m,[])) none:=by
 unfold inb
 by_cases a:0<=i<;>by_cases c:i.toNat<len<;>simp [a1C,asI,a,c,br]
theorem b8p (len esz:Nat) (r:List V) (o:Nat) (k:IntKind) (i:Int):a1C len esz (.iptr r o) (.lit (.int k i))=br (inb i len) (some (.iptr r (o+i.toNat*esz),[])) none:=by
 unfold inb
 by_cases a:0<=i<;>by_cases b:i.toNat<len<;>simp [a1C,asI,a,b,br]
def c0i (x i:V):Option (V×Upd):=match x,asI i with
 | .lit (.string s),some i=>if 0<=i then (match s.data[i.toNat]? with
   |some b=>some (.lit (.int .u8 b.toNat),[])
   |none=>none) else none
 |_,_=>none
theorem b7V (x i:Opd):aM C ow (.ixStr x i) ev h n=c0i (ev x) (ev i):=rfl
theorem c2D (s:List UInt8) (k:IntKind) (i:Int):c0i (S s) (.lit (.int k i))=(atL s i).bind (fun b=>some (.lit (.int .u8 b.toNat),[])):=by
 unfold atL
 by_cases hi:0<=i
 ·simp only [c0i,asI,hi,if_true]
  a:(⟨⟨s⟩⟩:ByteArray).data[i.toNat]? =s[i.toNat]? :=by simp
  rw [this]
  cases s[i.toNat]? <;>rfl
 ·simp [c0i,asI,hi]
def frO (k:Option Blk) (n:Nat) (b:Blk) (v:V):Option (V×Upd):=match k with
 |none=>br (Nat.blt 0 b.esz) (some (v,[(n,b)])) none
 |some _=>none
theorem yB (b:Blk) (v:V):mJ h n b v=frO (h n) n b v:=by
 unfold mJ frO
 cases h n with
 |none=>rw [EV];by_cases a:0<b.esz<;>simp [a,br]
 |some k=>simp
theorem b4z (b:Blk) (v:V):frO none n b v=br (Nat.blt 0 b.esz) (some (v,[(n,b)])) none:=rfl
theorem a7x (zero:List Value):aM C ow (.alloc zero) ev h n=br (zero.all ci) (frO (h n) n ⟨zero.length,true,[zero.map .lit]⟩ (.ptr n 0 0 1)) none:=by
 simp only [aM,yB]
 cases zero.all ci<;>rfl
def c5q (size:Nat) (cs:List V) (h:b8) (n:Nat):Option (V×Upd):=br (Nat.beq cs.length size&&cs.all V.cell) (frO (h n) n ⟨size,true,[cs]⟩ (.ptr n 0 0 1)) none
theorem c71 (size:Nat) (x:Opd):aM C ow (.box size x) ev h n=c5q size (ev x).cells h n:=by
 simp only [aM,yB,c5q,LU]
 by_cases a:(ev x).cells.length=size<;>cases b:(ev x).cells.all V.cell<;>simp [a,br]
def Oc (cells:List V):List (Nat×Nat×V)->Option (List V)
 |[]=>some cells
 | (off,size,v)::r=>br (Nat.beq v.cells.length size&&Nat.ble (off+size) cells.length&&v.cells.all V.cell) (Oc (cells.take off++(v.cells++cells.drop (off+size))) r) none
theorem Qh: ∀(ps:List (Nat×Nat×V)) (cells:List V),IX cells ps=Oc cells ps
 |[],_=>rfl
 | (off,size,v)::r,cells=>by
   simp only [IX,Oc,LU,Ki]
   rw [<-Qh r]
   by_cases a:v.cells.length=size<;>by_cases b:off+size<=cells.length<;>cases c:v.cells.all V.cell<;>simp [a,b,br]
def c5R:Option (List V)->Option (V×Upd)
 |some cs=>some (.agg cs,[])
 |none=>none
theorem Yi (zero:List Value) (ps:List (Nat×Nat×Opd)):aM C ow (.build zero ps) ev h n=br (zero.all ci) (c5R (Oc (zero.map .lit) (iG ev ps))) none:=by
 simp only [aM,Qh,c5R]
 cases zero.all ci
 ·rfl
 ·simp only [cL,if_true]
  cases Oc (zero.map .lit) (iG ev ps)<;>rfl
theorem a96 (cs:List V):c5R (some cs)=some (.agg cs,[]):=rfl
end
end Go.AI
