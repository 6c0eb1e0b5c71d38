/- The machine's operations as words over values; what they come to on values of Lean's own types. -/
import Derived.Test.YtdmhkkcihecndaaGreatAiLim
set_option linter.unusedVariables false
set_option linter.unusedSimpArgs false
namespace Go.AI
theorem Mz (a b:Nat):Nat.ble a b=decide (a≤b):=by
 by_cases h0:a≤b
 ·rw [decide_eq_true h0];exact Nat.ble_eq_true_of_le h0
 ·rw [decide_eq_false h0];cases hb:Nat.ble a b with
  |false=>rfl
  |true=>exact absurd (Nat.le_of_ble_eq_true hb) h0
theorem Hm (a b:Nat):Nat.blt a b=decide (a<b):=Mz (a+1) b
theorem Mg (a b:Nat):Nat.beq a b=decide (a=b):=by
 by_cases h0:a=b
 ·rw [decide_eq_true h0,h0];exact Nat.beq_refl b
 ·rw [decide_eq_false h0];cases hb:Nat.beq a b with
  |false=>rfl
  |true=>exact absurd (Nat.eq_of_beq_eq_true hb) h0
section
variable {C:aZ} {ow:FuncId→List Nat} {ev:Opd→V} {h:al} {n:Nat} {α:Type} {e:En α} {l:List α}
theorem c0D (x:Opd):ah C ow (.mv x) ev h n=some (ev x,[]):=rfl
def a9z (c a b:V):Option (V×Upd):=match c with
 | .lit (.bool c)=>br c (some (a,[])) (some (b,[]))
 |_=>none
theorem b8v (c a b:Opd):ah C ow (.pick c a b) ev h n=a9z (ev c) (ev a) (ev b):=by
 simp only [ah]
 unfold a9z
 split
 ·rename_i h;rw [h];rfl
 ·rename_i h;rw [h];rfl
 ·rename_i h1 h2
  split
  ·rename_i c' hc;cases c'
   ·exact absurd hc h2
   ·exact absurd hc h1
  ·rfl
theorem b4k (c:Bool) (a b:V):a9z (.lit (.bool c)) a b=br c (some (a,[])) (some (b,[])):=rfl
def iK (op:BinOp) (x y:V):Option (V×Upd):=match x,y with
 | .lit a,.lit b=>match em op a b with
   |some v=>some (.lit v,[])
   |none=>none
 |_,_=>none
theorem b9B (op:BinOp) (x y:Opd):ah C ow (.bin op x y) ev h n=iK op (ev x) (ev y):=rfl
theorem b9d (k:IntKind) (a b:Int):iK .add (.lit (.int k a)) (.lit (.int k b))=some (.lit (.int k (k.wrap (a+b))),[]):=by simp [iK,em]
theorem b9r (k:IntKind) (a b:Int):iK .sub (.lit (.int k a)) (.lit (.int k b))=some (.lit (.int k (k.wrap (a-b))),[]):=by simp [iK,em]
theorem b8W (k:IntKind) (a b:Int):iK .mul (.lit (.int k a)) (.lit (.int k b))=some (.lit (.int k (k.wrap (a*b))),[]):=by simp [iK,em]
def nz (b:Int):Bool:=decide (b≠0)
theorem b9f (k:IntKind) (a b:Int):iK .quo (.lit (.int k a)) (.lit (.int k b))=br (nz b) (some (.lit (.int k (k.wrap (a.tdiv b))),[])) none:=by
 by_cases hb:b=0<;>simp [iK,em,br,nz,hb]
theorem b9w (k:IntKind) (a b:Int):iK .rem (.lit (.int k a)) (.lit (.int k b))=br (nz b) (some (.lit (.int k (a.tmod b)),[])) none:=by
 by_cases hb:b=0<;>simp [iK,em,br,nz,hb]
def oI (k:IntKind) (a b:Int):Int:=k.wrap (BitVec.ofInt k.bits a^^^BitVec.ofInt k.bits b).toNat
def bw (k:IntKind) (a b:Int):Int:=k.wrap (BitVec.ofInt k.bits a&&&BitVec.ofInt k.bits b).toNat
def wR (k:IntKind) (a b:Int):Int:=k.wrap (BitVec.ofInt k.bits a|||BitVec.ofInt k.bits b).toNat
def Ok (k:IntKind) (a b:Int):Int:=k.wrap (BitVec.ofInt k.bits a&&& ~~~ BitVec.ofInt k.bits b).toNat
def aD (k:IntKind) (a b:Int):Int:=k.wrap (a*2^(min b.toNat k.bits))
def aM (k:IntKind) (a b:Int):Int:=a.fdiv (2^(min b.toNat k.bits))
theorem c0l (k:IntKind) (a b:Int):iK .and (.lit (.int k a)) (.lit (.int k b))=some (.lit (.int k (bw k a b)),[]):=by simp [iK,em,bw]
theorem c0K (k:IntKind) (a b:Int):iK .or (.lit (.int k a)) (.lit (.int k b))=some (.lit (.int k (wR k a b)),[]):=by simp [iK,em,wR]
theorem b9K (k:IntKind) (a b:Int):iK .xor (.lit (.int k a)) (.lit (.int k b))=some (.lit (.int k (oI k a b)),[]):=by simp [iK,em,oI]
theorem b76 (k:IntKind) (a b:Int):iK .andNot (.lit (.int k a)) (.lit (.int k b))=some (.lit (.int k (Ok k a b)),[]):=by simp [iK,em,Ok]
def nn (b:Int):Bool:=decide (0≤b)
theorem b98 (k k':IntKind) (a b:Int):iK .shl (.lit (.int k a)) (.lit (.int k' b))=br (nn b) (some (.lit (.int k (aD k a b)),[])) none:=by
 by_cases hb:0≤b<;>simp [iK,em,br,nn,hb,aD]
theorem b9n (k k':IntKind) (a b:Int):iK .shr (.lit (.int k a)) (.lit (.int k' b))=br (nn b) (some (.lit (.int k (aM k a b)),[])) none:=by
 by_cases hb:0≤b<;>simp [iK,em,br,nn,hb,aM]
theorem b9j (k:IntKind) (a b:Int):iK .eql (.lit (.int k a)) (.lit (.int k b))=some (.lit (.bool (a==b)),[]):=by simp [iK,em]
theorem b9m (k:IntKind) (a b:Int):iK .neq (.lit (.int k a)) (.lit (.int k b))=some (.lit (.bool (a !=b)),[]):=by simp [iK,em]
theorem b9q (k:IntKind) (a b:Int):iK .lss (.lit (.int k a)) (.lit (.int k b))=some (.lit (.bool (decide (a<b))),[]):=by simp [iK,em]
theorem b9H (k:IntKind) (a b:Int):iK .leq (.lit (.int k a)) (.lit (.int k b))=some (.lit (.bool (decide (a≤b))),[]):=by simp [iK,em]
theorem c0o (k:IntKind) (a b:Int):iK .gtr (.lit (.int k a)) (.lit (.int k b))=some (.lit (.bool (decide (a>b))),[]):=by simp [iK,em]
theorem b8X (k:IntKind) (a b:Int):iK .geq (.lit (.int k a)) (.lit (.int k b))=some (.lit (.bool (decide (a≥b))),[]):=by simp [iK,em]
theorem VS (a:List UInt8):(⟨⟨a⟩⟩:ByteArray).size=a.length:=rfl
theorem XH (d:ByteArray): ∀(k i:Nat) (r:List UInt8),d.size-i=k→ByteArray.toList.loop d i r=r.reverse++d.data.toList.drop i:=by
 intro k
 induction k with
 |zero=>
  intro i r hk
  unfold ByteArray.toList.loop
  have: ¬i<d.size:=by omega
  simp only [this,if_false]
  rw [List.drop_of_length_le]
  ·simp
  ·show d.data.size≤i
   exact (by omega:d.size≤i)
 |succ k ih=>
  intro i r hk
  unfold ByteArray.toList.loop
  have hlt:i<d.size:=by omega
  simp only [hlt,if_true]
  rw [ih (i+1) _ (by omega)]
  have hl:i<d.data.toList.length:=hlt
  rw [List.drop_eq_getElem_cons hl]
  have h3:i<d.data.size:=hlt
  simp only [ByteArray.get!,getElem!_pos,h3,List.reverse_cons,List.append_assoc,List.singleton_append,Array.getElem_toList]
theorem Tt (a:List UInt8):(⟨⟨a⟩⟩:ByteArray).toList=a:=by
 unfold ByteArray.toList
 rw [XH _ _ 0 [] rfl]
 simp
theorem b62 (a b:List UInt8):iK .add (S a) (S b)=br (bE (a.length+b.length) 1) (some (S (a++b),[])) none:=by
 have:(⟨⟨a⟩⟩:ByteArray)++⟨⟨b⟩⟩=⟨⟨a++b⟩⟩:=by
  apply ByteArray.ext
  simp [ByteArray.data_append]
 by_cases hb:a.length+b.length≤bx<;>simp [iK,em,br,bE,hb,VS,this]
theorem b7W (a b:List UInt8):iK .eql (S a) (S b)=some (.lit (.bool (a==b)),[]):=by simp [iK,em,Tt]
theorem b8E (a b:List UInt8):iK .neq (S a) (S b)=some (.lit (.bool (a !=b)),[]):=by simp [iK,em,Tt,bne]
def eqS (neg:Bool) (ks:List Bool) (x y:V):Option (V×Upd):=match x,y with
 | .agg a,.agg b=>match er ks a b with
   |some r=>some (.lit (.bool (if neg then !r else r)),[])
   |none=>none
 |_,_=>none
theorem b5c (neg:Bool) (ks:List Bool) (x y:Opd):ah C ow (.eqAgg neg ks x y) ev h n=eqS neg ks (ev x) (ev y):=rfl
def eqN (neg:Bool):Option Bool→Option (V×Upd)
 |some r=>some (.lit (.bool (if neg then !r else r)),[])
 |none=>none
theorem b2E (neg:Bool) (ks:List Bool) (a b:List V):eqS neg ks (.agg a) (.agg b)=eqN neg (er ks a b):=by
 unfold eqS eqN;rfl
theorem b9i (r:Bool):eqN true (some r)=some (.lit (.bool !r),[]):=rfl
theorem b9Y (r:Bool):eqN false (some r)=some (.lit (.bool r),[]):=rfl
theorem b6d (neg c:Bool) (x y:Option Bool):eqN neg (br c x y)=br c (eqN neg x) (eqN neg y):=by cases c<;>rfl
theorem b4X:er [] [] []=some true:=rfl
theorem c09 (ks:List Bool) (k:IntKind) (a b:Int) (x y:List V):er (true::ks) (.lit (.int k a)::x) (.lit (.int k b)::y)=br (a==b) (er ks x y) (some false):=by
 by_cases hb:a=b
 ·subst hb;simp [er,bF]
 ·have:(a==b)=false:=by simpa using hb
  rw [this,aw];simp [er,hb]
def b7K (neg:Bool) (x y:V):Option (V×Upd):=match x,y with
 | .lit (.bool a),.lit (.bool b)=>some (.lit (.bool (if neg then a !=b else a==b)),[])
 |_,_=>none
theorem b9E (neg:Bool) (x y:Opd):ah C ow (.beq neg x y) ev h n=b7K neg (ev x) (ev y):=rfl
theorem b5W (a b:Bool):b7K true (B a) (B b)=some (.lit (.bool (a !=b)),[]):=rfl
theorem b6F (a b:Bool):b7K false (B a) (B b)=some (.lit (.bool (a==b)),[]):=rfl
def unS (op:UnOp) (x:V):Option (V×Upd):=match x with
 | .lit a=>match Tk op a with
   |some v=>some (.lit v,[])
   |none=>none
 |_=>none
theorem c0M (op:UnOp) (x:Opd):ah C ow (.un op x) ev h n=unS op (ev x):=rfl
theorem b91 (b:Bool):unS .not (B b)=some (B (!b),[]):=rfl
theorem b9X (k:IntKind) (a:Int):unS .neg (.lit (.int k a))=some (.lit (.int k (k.wrap (0-a))),[]):=rfl
def bV (k:IntKind) (a:Int):Int:=k.wrap (BitVec.ofInt k.bits (if k.signed then-1 else k.max)^^^BitVec.ofInt k.bits a).toNat
theorem b8Q (k:IntKind) (a:Int):unS .xor (.lit (.int k a))=some (.lit (.int k (bV k a)),[]):=rfl
def tiS (k:IntKind) (x:V):Option (V×Upd):=match asI x with
 |some m=>some (.lit (.int k (k.wrap m)),[])
 |none=>none
theorem b3k (k:IntKind) (x:Opd):ah C ow (.toInt k x) ev h n=tiS k (ev x):=rfl
theorem b8S (k k':IntKind) (m:Int):tiS k (.lit (.int k' m))=some (.lit (.int k (k.wrap m)),[]):=rfl
def b5t (x:V):Option (V×Upd):=match x with
 | .lit (.string s)=>some (.lit (.string s),[])
 |_=>none
theorem b6N (x:Opd):ah C ow (.same x) ev h n=b5t (ev x):=rfl
theorem b4h (s:List UInt8):b5t (S s)=some (S s,[]):=rfl
theorem a0x (f:FuncId) (cs:List Opd):ah C ow (.makeFunc f cs) ev h n=some (.fn f (cs.map ev),[]):=rfl
def a2K (str:Bool) (x:V):Option (V×Upd):=match str,x with
 |true,.lit (.string s)=>some (.lit (.int .i64 s.size),[])
 |false,.lit (.slice _ n _)=>some (.lit (.int .i64 n),[])
 |false,.sl _ _ n=>some (.lit (.int .i64 n),[])
 |false,.imm _ rows=>some (.lit (.int .i64 rows.length),[])
 |_,_=>none
theorem c0s (str:Bool) (x:Opd):ah C ow (.len str x) ev h n=a2K str (ev x):=rfl
theorem b5g:a2K false (sl e l)=some (I (l.length:Nat),[]):=by
 rcases j5 e l with ⟨rfl,h⟩|⟨_,h⟩<;>rw [h]<;>simp [a2K,rws]
theorem a7O (b s m:Nat):a2K false (.sl b s m)=some (I (m:Nat),[]):=rfl
theorem b0u:a2K false (.lit (.slice none 0 0))=some (I (0:Nat),[]):=rfl
theorem b1c:a2K false (.imm 1 [])=some (I (0:Nat),[]):=rfl
theorem a8p (s:List UInt8):a2K true (S s)=some (I (s.length:Nat),[]):=rfl
def inS (neg:Bool) (x:V):Option (V×Upd):=match x with
 | .lit (.slice a _ _)=>some (.lit (.bool (if neg then !a.isNone else a.isNone)),[])
 | .imm _ (_::_)=>some (.lit (.bool neg),[])
 |_=>none
theorem b1U (neg:Bool) (x:Opd):ah C ow (.isNil neg x) ev h n=inS neg (ev x):=by
 simp only [ah];unfold inS;rfl
theorem b50 (neg:Bool) (m c:Nat):inS neg (.lit (.slice none m c))=some (B (!neg),[]):=by cases neg<;>rfl
theorem a3Q (neg:Bool) (a:Addr) (m c:Nat):inS neg (.lit (.slice (some a) m c))=some (B neg,[]):=by cases neg<;>rfl
theorem XL (neg:Bool) (e:En α) (x:α) (l:List α):inS neg (sl e (x::l))=some (B neg,[]):=rfl
theorem a7x (m:Nat) (x:Opd):ah C ow (.lenArr m x) ev h n=some (I (m:Nat),[]):=rfl
def b1O (x:V) (i:Nat):Option (V×Upd):=match x with
 | .tup vs=>match vs[i]? with
   |some v=>some (v,[])
   |none=>none
 |_=>none
theorem c02 (x:Opd) (i:Nat):ah C ow (.ext x i) ev h n=b1O (ev x) i:=rfl
theorem b8j (a:V) (r:List V):b1O (.tup (a::r)) 0=some (a,[]):=rfl
theorem b6Y (a:V) (r:List V) (i:Nat):b1O (.tup (a::r)) (i+1)=b1O (.tup r) i:=rfl
def b78 (d:Nat) (x:V):Option (V×Upd):=match x with
 | .ptr b i o n=>some (.ptr b i (o+d) n,[])
 | .iptr r o=>some (.iptr r (o+d),[])
 |_=>none
theorem c0h (d:Nat) (x:Opd):ah C ow (.off d x) ev h n=b78 d (ev x):=rfl
theorem b80 (d b i o m:Nat):b78 d (.ptr b i o m)=some (.ptr b i (o+d) m,[]):=rfl
theorem b7P (d:Nat) (r:List V) (o:Nat):b78 d (.iptr r o)=some (.iptr r (o+d),[]):=rfl
def ldS:Option V→Option (V×Upd)
 |some v=>some (v,[])
 |none=>none
theorem a8R (v:V):ldS (some v)=some (v,[]):=rfl
theorem b0r {β:Type} (x:Option β) (f:β→Option V):ldS (x.bind f)=x.bind (fun a=>ldS (f a)):=by cases x<;>rfl
theorem b2w (a:V) (r:List V):part none (a::r) 0=some a:=rfl
theorem b3O (a:V) (r:List V) (o:Nat):part none (a::r) (o+1)=part none r o:=rfl
theorem b6r (m:Nat) (cs:List V) (o:Nat) (hm:(o+m).ble cs.length=true):part (some m) cs o=some (.agg ((cs.drop o).take m)):=by
 simp only [part]
 rw [if_pos (Nat.le_of_ble_eq_true hm)]
def a7e (d:Nat) (agg:Option Nat) (x:V):Option (V×Upd):=match x with
 | .agg cs=>match part agg cs d with
   |some v=>some (v,[])
   |none=>none
 |_=>none
theorem b3s (d:Nat) (agg:Option Nat) (x:Opd):ah C ow (.field d agg x) ev h n=a7e d agg (ev x):=rfl
theorem a8g (d:Nat) (agg:Option Nat) (cs:List V):a7e d agg (.agg cs)=ldS (part agg cs d):=rfl
def b61 (len esz:Nat) (agg:Option Nat) (x i:V):Option (V×Upd):=match x,asI i with
 | .agg cs,some i=>if 0≤i∧i.toNat<len then (match part agg cs (i.toNat*esz) with
   |some v=>some (v,[])
   |none=>none) else none
 |_,_=>none
theorem b27 (len esz:Nat) (agg:Option Nat) (x i:Opd):ah C ow (.ixAgg len esz agg x i) ev h n=b61 len esz agg (ev x) (ev i):=rfl
theorem b7j (len esz:Nat) (agg:Option Nat) (cs:List V) (k:IntKind) (i:Int):b61 len esz agg (.agg cs) (.lit (.int k i))=br (inb i len) (ldS (part agg cs (i.toNat*esz))) none:=by
 unfold inb
 by_cases h1:0≤i<;>by_cases h2:i.toNat<len<;>simp [b61,asI,h1,h2,br,ldS]
def b1Q (agg:Option Nat) (k:Option Blk) (i o m:Nat):Option V:=match k with
 |some k=>if k.rows.length=m then (match k.rows[i]? with
  |some row=>part agg row o
  |none=>none) else none
 |none=>none
theorem b7S (agg:Option Nat) (a:Opd):ah C ow (.load agg a) ev h n=ldS (uj agg h (ev a)):=rfl
theorem b3a (agg:Option Nat) (b i o m:Nat):uj agg h (.ptr b i o m)=b1Q agg (h b) i o m:=rfl
theorem b2r (agg:Option Nat) (r:List V) (o:Nat):uj agg h (.iptr r o)=part agg r o:=rfl
theorem b3j (agg:Option Nat) (m:Nat) (row:List V) (o:Nat):b1Q agg (some ⟨m,true,[row]⟩) 0 o 1=part agg row o:=rfl
theorem b4L (agg:Option Nat) (m:Nat) (op:Bool) (i o q:Nat) (hq:l.length=q):b1Q agg (some ⟨m,op,rws e l⟩) i o q=(l[i]?).bind (fun x=>part agg (e.enc x) o):=by
 simp only [b1Q,rws,List.length_map,List.getElem?_map]
 rw [if_pos hq]
 cases l[i]? <;>rfl
def b0G (k:Option Blk) (m b s q:Nat) (i:Int):Option (V×Upd):=match k with
 |some k=>if 0<k.esz∧k.esz=m∧s+q=k.rows.length∧i.toNat<q then some (.ptr b (s+i.toNat) 0 k.rows.length,[]) else none
 |none=>none
def Yx (m:Nat) (x i:V) (h:al):Option (V×Upd):=match asI i with
 |some i=>if 0≤i then (match x with
  | .sl b s q=>b0G (h b) m b s q i
  | .imm e rows=>if e=m then (match rows[i.toNat]? with
    |some row=>some (.iptr row 0,[])
    |none=>none) else none
  |_=>none) else none
 |none=>none
theorem b9p (m:Nat) (x i:Opd):ah C ow (.idx m x i) ev h n=Yx m (ev x) (ev i) h:=by
 simp only [ah,Yx,b0G]
 cases asI (ev i) with
 |none=>rfl
 |some i=>
  dsimp only
  split
  ·cases ev x with
   |sl b s q=>dsimp only;cases h b<;>rfl
   |_=>rfl
  ·rfl
theorem b3I (m:Nat) (hm:e.esz=m) (k:IntKind) (i:Int):Yx m (sl e l) (.lit (.int k i)) h=(atL l i).bind (fun x=>some (.iptr (e.enc x) 0,[])):=by
 subst hm
 unfold atL
 by_cases hi:0≤i
 ·rw [if_pos hi]
  rcases j5 e l with ⟨rfl,hs⟩|⟨_,hs⟩
  ·rw [hs];simp [Yx,asI]
  ·rw [hs]
   simp only [Yx,asI,hi,if_true,rws,List.getElem?_map]
   cases l[i.toNat]? <;>rfl
 ·rw [if_neg hi];simp [Yx,asI,hi]
theorem a7j (m b s q:Nat) (k:IntKind) (i:Int):Yx m (.sl b s q) (.lit (.int k i)) h=br (nn i) (b0G (h b) m b s q i) none:=by
 unfold nn
 by_cases hi:0≤i<;>simp [Yx,asI,hi,br]
theorem b36 (m:Nat) (op:Bool) (b q:Nat) (i:Int) (h0:Nat.blt 0 m=true) (hq:l.length=q):b0G (some ⟨m,op,rws e l⟩) m b 0 q i=br (decide (i.toNat<q)) (some (.ptr b i.toNat 0 q,[])) none:=by
 have h0:0<m:=by have:=Nat.le_of_ble_eq_true h0;omega
 by_cases hi:i.toNat<q<;>simp [b0G,rws,hq,hi,br,h0]
def a72 (len esz:Nat) (x i:V):Option (V×Upd):=match asI i with
 |some i=>if 0≤i∧i.toNat<len then (match x with
  | .ptr b j o n=>some (.ptr b j (o+i.toNat*esz) n,[])
  | .iptr r o=>some (.iptr r (o+i.toNat*esz),[])
  |_=>none) else none
 |none=>none
theorem a8m (len esz:Nat) (x i:Opd):ah C ow (.idxArr len esz x i) ev h n=a72 len esz (ev x) (ev i):=rfl
theorem b3H (len esz b j o m:Nat) (k:IntKind) (i:Int):a72 len esz (.ptr b j o m) (.lit (.int k i))=br (inb i len) (some (.ptr b j (o+i.toNat*esz) m,[])) none:=by
 unfold inb
 by_cases h1:0≤i<;>by_cases h2:i.toNat<len<;>simp [a72,asI,h1,h2,br]
def b25 (x i:V):Option (V×Upd):=match x,asI i with
 | .lit (.string s),some i=>if 0≤i then (match s.data[i.toNat]? with
   |some b=>some (.lit (.int .u8 b.toNat),[])
   |none=>none) else none
 |_,_=>none
theorem b56 (x i:Opd):ah C ow (.ixStr x i) ev h n=b25 (ev x) (ev i):=rfl
theorem b5Y (s:List UInt8) (k:IntKind) (i:Int):b25 (S s) (.lit (.int k i))=(atL s i).bind (fun b=>some (.lit (.int .u8 b.toNat),[])):=by
 unfold atL
 by_cases hi:0≤i
 ·simp only [b25,asI,hi,if_true]
  have:(⟨⟨s⟩⟩:ByteArray).data[i.toNat]? =s[i.toNat]? :=by simp
  rw [this]
  cases s[i.toNat]? <;>rfl
 ·simp [b25,asI,hi]
def frO (k:Option Blk) (n:Nat) (b:Blk) (v:V):Option (V×Upd):=match k with
 |none=>br (Nat.blt 0 b.esz) (some (v,[(n,b)])) none
 |some _=>none
theorem xE (b:Blk) (v:V):ky h n b v=frO (h n) n b v:=by
 unfold ky frO
 cases h n with
 |none=>rw [Hm];by_cases hb:0<b.esz<;>simp [hb,br]
 |some k=>simp
theorem a7U (b:Blk) (v:V):frO none n b v=br (Nat.blt 0 b.esz) (some (v,[(n,b)])) none:=rfl
theorem a3T (zero:List Value):ah C ow (.alloc zero) ev h n=br (zero.all aQ) (frO (h n) n ⟨zero.length,true,[zero.map .lit]⟩ (.ptr n 0 0 1)) none:=by
 simp only [ah,xE]
 cases zero.all aQ<;>rfl
def b8x (size:Nat) (cs:List V) (h:al) (n:Nat):Option (V×Upd):=br (Nat.beq cs.length size&&cs.all V.cell) (frO (h n) n ⟨size,true,[cs]⟩ (.ptr n 0 0 1)) none
theorem c0d (size:Nat) (x:Opd):ah C ow (.box size x) ev h n=b8x size (ev x).cells h n:=by
 simp only [ah,xE,b8x,Mg]
 by_cases h1:(ev x).cells.length=size<;>cases h2:(ev x).cells.all V.cell<;>simp [h1,br]
def LH (cells:List V):List (Nat×Nat×V)→Option (List V)
 |[]=>some cells
 | (off,size,v)::r=>br (Nat.beq v.cells.length size&&Nat.ble (off+size) cells.length&&v.cells.all V.cell) (LH (cells.take off++(v.cells++cells.drop (off+size))) r) none
theorem Qn: ∀(ps:List (Nat×Nat×V)) (cells:List V),ER cells ps=LH cells ps
 |[],_=>rfl
 | (off,size,v)::r,cells=>by
   simp only [ER,LH,Mg,Mz]
   rw [←Qn r]
   by_cases h1:v.cells.length=size<;>by_cases h2:off+size≤cells.length<;>cases h3:v.cells.all V.cell<;>simp [h1,h2,br]
def b6V:Option (List V)→Option (V×Upd)
 |some cs=>some (.agg cs,[])
 |none=>none
theorem W3 (zero:List Value) (ps:List (Nat×Nat×Opd)):ah C ow (.build zero ps) ev h n=br (zero.all aQ) (b6V (LH (zero.map .lit) (fc ev ps))) none:=by
 simp only [ah,Qn,b6V]
 cases zero.all aQ
 ·rfl
 ·simp only [bF,if_true]
  cases LH (zero.map .lit) (fc ev ps)<;>rfl
theorem a5z (cs:List V):b6V (some cs)=some (.agg cs,[]):=rfl
end
end Go.AI
