/- The machine's operations as words over values; what they come to on values of Lean's own types. -/
import Derived.Test.YtdnkignjanfikaaGreatAiLim
set_option linter.unusedVariables false
set_option linter.unusedSimpArgs false
namespace Go.AI
theorem Im (a b:Nat):Nat.ble a b=decide (a≤b):=by
 by_cases h0:a≤b
 ·rw [decide_eq_true h0];exact Nat.ble_eq_true_of_le h0
 ·rw [decide_eq_false h0];cases hb:Nat.ble a b with
  |false=>rfl
  |true=>exact absurd (Nat.le_of_ble_eq_true hb) h0
theorem Bm (a b:Nat):Nat.blt a b=decide (a<b):=Im (a+1) b
theorem Iq (a b:Nat):Nat.beq a b=decide (a=b):=by
 by_cases h0:a=b
 ·rw [decide_eq_true h0,h0];exact Nat.beq_refl b
 ·rw [decide_eq_false h0];cases hb:Nat.beq a b with
  |false=>rfl
  |true=>exact absurd (Nat.eq_of_beq_eq_true hb) h0
section
variable {C:aY} {ow:FuncId→List Nat} {ev:Opd→V} {h:au} {n:Nat} {α:Type} {e:En α} {l:List α}
theorem c3M (x:Opd):aj C ow (.mv x) ev h n=some (ev x,[]):=rfl
def a9g (c a b:V):Option (V×Upd):=match c with
 | .lit (.bool c)=>br c (some (a,[])) (some (b,[]))
 |_=>none
theorem b9u (c a b:Opd):aj C ow (.pick c a b) ev h n=a9g (ev c) (ev a) (ev b):=by
 simp only [aj]
 unfold a9g
 split
 ·rename_i h;rw [h];rfl
 ·rename_i h;rw [h];rfl
 ·rename_i h1 h2
  split
  ·rename_i c' hc;cases c'
   ·exact absurd hc h2
   ·exact absurd hc h1
  ·rfl
theorem b57 (c:Bool) (a b:V):a9g (.lit (.bool c)) a b=br c (some (a,[])) (some (b,[])):=rfl
def iM (op:BinOp) (x y:V):Option (V×Upd):=match x,y with
 | .lit a,.lit b=>match dW op a b with
   |some v=>some (.lit v,[])
   |none=>none
 |_,_=>none
theorem c2l (op:BinOp) (x y:Opd):aj C ow (.bin op x y) ev h n=iM op (ev x) (ev y):=rfl
theorem c2r (k:IntKind) (a b:Int):iM .add (.lit (.int k a)) (.lit (.int k b))=some (.lit (.int k (k.wrap (a+b))),[]):=by simp [iM,dW]
theorem c3q (k:IntKind) (a b:Int):iM .sub (.lit (.int k a)) (.lit (.int k b))=some (.lit (.int k (k.wrap (a-b))),[]):=by simp [iM,dW]
theorem c2S (k:IntKind) (a b:Int):iM .mul (.lit (.int k a)) (.lit (.int k b))=some (.lit (.int k (k.wrap (a*b))),[]):=by simp [iM,dW]
def nz (b:Int):Bool:=decide (b≠0)
theorem c2n (k:IntKind) (a b:Int):iM .quo (.lit (.int k a)) (.lit (.int k b))=br (nz b) (some (.lit (.int k (k.wrap (a.tdiv b))),[])) none:=by
 by_cases hb:b=0<;>simp [iM,dW,br,nz,hb]
theorem c1A (k:IntKind) (a b:Int):iM .rem (.lit (.int k a)) (.lit (.int k b))=br (nz b) (some (.lit (.int k (a.tmod b)),[])) none:=by
 by_cases hb:b=0<;>simp [iM,dW,br,nz,hb]
def io (k:IntKind) (a b:Int):Int:=k.wrap (BitVec.ofInt k.bits a^^^BitVec.ofInt k.bits b).toNat
def bo (k:IntKind) (a b:Int):Int:=k.wrap (BitVec.ofInt k.bits a&&&BitVec.ofInt k.bits b).toNat
def ui (k:IntKind) (a b:Int):Int:=k.wrap (BitVec.ofInt k.bits a|||BitVec.ofInt k.bits b).toNat
def Pb (k:IntKind) (a b:Int):Int:=k.wrap (BitVec.ofInt k.bits a&&& ~~~ BitVec.ofInt k.bits b).toNat
def aP (k:IntKind) (a b:Int):Int:=k.wrap (a*2^(min b.toNat k.bits))
def bA (k:IntKind) (a b:Int):Int:=a.fdiv (2^(min b.toNat k.bits))
theorem c1I (k:IntKind) (a b:Int):iM .and (.lit (.int k a)) (.lit (.int k b))=some (.lit (.int k (bo k a b)),[]):=by simp [iM,dW,bo]
theorem c3X (k:IntKind) (a b:Int):iM .or (.lit (.int k a)) (.lit (.int k b))=some (.lit (.int k (ui k a b)),[]):=by simp [iM,dW,ui]
theorem c2e (k:IntKind) (a b:Int):iM .xor (.lit (.int k a)) (.lit (.int k b))=some (.lit (.int k (io k a b)),[]):=by simp [iM,dW,io]
theorem c0k (k:IntKind) (a b:Int):iM .andNot (.lit (.int k a)) (.lit (.int k b))=some (.lit (.int k (Pb k a b)),[]):=by simp [iM,dW,Pb]
def nn (b:Int):Bool:=decide (0≤b)
theorem c3h (k k':IntKind) (a b:Int):iM .shl (.lit (.int k a)) (.lit (.int k' b))=br (nn b) (some (.lit (.int k (aP k a b)),[])) none:=by
 by_cases hb:0≤b<;>simp [iM,dW,br,nn,hb,aP]
theorem c2H (k k':IntKind) (a b:Int):iM .shr (.lit (.int k a)) (.lit (.int k' b))=br (nn b) (some (.lit (.int k (bA k a b)),[])) none:=by
 by_cases hb:0≤b<;>simp [iM,dW,br,nn,hb,bA]
theorem c2C (k:IntKind) (a b:Int):iM .eql (.lit (.int k a)) (.lit (.int k b))=some (.lit (.bool (a==b)),[]):=by simp [iM,dW]
theorem c2G (k:IntKind) (a b:Int):iM .neq (.lit (.int k a)) (.lit (.int k b))=some (.lit (.bool (a !=b)),[]):=by simp [iM,dW]
theorem c1E (k:IntKind) (a b:Int):iM .lss (.lit (.int k a)) (.lit (.int k b))=some (.lit (.bool (decide (a<b))),[]):=by simp [iM,dW]
theorem c3d (k:IntKind) (a b:Int):iM .leq (.lit (.int k a)) (.lit (.int k b))=some (.lit (.bool (decide (a≤b))),[]):=by simp [iM,dW]
theorem c2Y (k:IntKind) (a b:Int):iM .gtr (.lit (.int k a)) (.lit (.int k b))=some (.lit (.bool (decide (a>b))),[]):=by simp [iM,dW]
theorem c1N (k:IntKind) (a b:Int):iM .geq (.lit (.int k a)) (.lit (.int k b))=some (.lit (.bool (decide (a≥b))),[]):=by simp [iM,dW]
theorem To (a:List UInt8):(⟨⟨a⟩⟩:ByteArray).size=a.length:=rfl
theorem Yb (d:ByteArray): ∀(k i:Nat) (r:List UInt8),d.size-i=k→ByteArray.toList.loop d i r=r.reverse++d.data.toList.drop i:=by
 intro k
 induction k with
 |zero=>
  intro i r hk
  unfold ByteArray.toList.loop
  have: ¬i<d.size:=by omega
  simp only [this,if_false]
  rw [List.drop_of_length_le]
  ·simp
  ·show d.data.size≤i
   exact (by omega:d.size≤i)
 |succ k ih=>
  intro i r hk
  unfold ByteArray.toList.loop
  have hlt:i<d.size:=by omega
  simp only [hlt,if_true]
  rw [ih (i+1) _ (by omega)]
  have hl:i<d.data.toList.length:=hlt
  rw [List.drop_eq_getElem_cons hl]
  have h3:i<d.data.size:=hlt
  simp only [ByteArray.get!,getElem!_pos,h3,List.reverse_cons,List.append_assoc,List.singleton_append,Array.getElem_toList]
theorem QL (a:List UInt8):(⟨⟨a⟩⟩:ByteArray).toList=a:=by
 unfold ByteArray.toList
 rw [Yb _ _ 0 [] rfl]
 simp
theorem b7w (a b:List UInt8):iM .add (S a) (S b)=br (aB (a.length+b.length) 1) (some (S (a++b),[])) none:=by
 have:(⟨⟨a⟩⟩:ByteArray)++⟨⟨b⟩⟩=⟨⟨a++b⟩⟩:=by
  apply ByteArray.ext
  simp [ByteArray.data_append]
 by_cases hb:a.length+b.length≤bH<;>simp [iM,dW,br,aB,hb,To,this]
theorem b8U (a b:List UInt8):iM .eql (S a) (S b)=some (.lit (.bool (a==b)),[]):=by simp [iM,dW,QL]
theorem b7Y (a b:List UInt8):iM .neq (S a) (S b)=some (.lit (.bool (a !=b)),[]):=by simp [iM,dW,QL,bne]
def eqS (neg:Bool) (ks:List Bool) (x y:V):Option (V×Upd):=match x,y with
 | .agg a,.agg b=>match db ks a b with
   |some r=>some (.lit (.bool (if neg then !r else r)),[])
   |none=>none
 |_,_=>none
theorem b4P (neg:Bool) (ks:List Bool) (x y:Opd):aj C ow (.eqAgg neg ks x y) ev h n=eqS neg ks (ev x) (ev y):=rfl
def eqN (neg:Bool):Option Bool→Option (V×Upd)
 |some r=>some (.lit (.bool (if neg then !r else r)),[])
 |none=>none
theorem b4Z (neg:Bool) (ks:List Bool) (a b:List V):eqS neg ks (.agg a) (.agg b)=eqN neg (db ks a b):=by
 unfold eqS eqN;rfl
theorem c1t (r:Bool):eqN true (some r)=some (.lit (.bool !r),[]):=rfl
theorem c2T (r:Bool):eqN false (some r)=some (.lit (.bool r),[]):=rfl
theorem b9C (neg c:Bool) (x y:Option Bool):eqN neg (br c x y)=br c (eqN neg x) (eqN neg y):=by cases c<;>rfl
theorem b2V:db [] [] []=some true:=rfl
theorem c2E (ks:List Bool) (k:IntKind) (a b:Int) (x y:List V):db (true::ks) (.lit (.int k a)::x) (.lit (.int k b)::y)=br (a==b) (db ks x y) (some false):=by
 by_cases hb:a=b
 ·subst hb;simp [db,bM]
 ·have:(a==b)=false:=by simpa using hb
  rw [this,aK];simp [db,hb]
theorem c2z (ks:List Bool) (a b:List UInt8) (x y:List V):db (false::ks) (S a::x) (S b::y)=br (a==b) (db ks x y) (some false):=by
 by_cases hb:a=b
 ·subst hb;simp [db,bM]
 ·have:(a==b)=false:=by simpa using hb
  rw [this,aK];simp [db,hb]
def b7j (neg:Bool) (x y:V):Option (V×Upd):=match x,y with
 | .lit (.bool a),.lit (.bool b)=>some (.lit (.bool (if neg then a !=b else a==b)),[])
 |_,_=>none
theorem c2P (neg:Bool) (x y:Opd):aj C ow (.beq neg x y) ev h n=b7j neg (ev x) (ev y):=rfl
theorem b7O (a b:Bool):b7j true (B a) (B b)=some (.lit (.bool (a !=b)),[]):=rfl
theorem b9S (a b:Bool):b7j false (B a) (B b)=some (.lit (.bool (a==b)),[]):=rfl
def unS (op:UnOp) (x:V):Option (V×Upd):=match x with
 | .lit a=>match QR op a with
   |some v=>some (.lit v,[])
   |none=>none
 |_=>none
theorem c3R (op:UnOp) (x:Opd):aj C ow (.un op x) ev h n=unS op (ev x):=rfl
theorem c2p (b:Bool):unS .not (B b)=some (B (!b),[]):=rfl
theorem c1D (k:IntKind) (a:Int):unS .neg (.lit (.int k a))=some (.lit (.int k (k.wrap (0-a))),[]):=rfl
def bW (k:IntKind) (a:Int):Int:=k.wrap (BitVec.ofInt k.bits (if k.signed then-1 else k.max)^^^BitVec.ofInt k.bits a).toNat
theorem c3a (k:IntKind) (a:Int):unS .xor (.lit (.int k a))=some (.lit (.int k (bW k a)),[]):=rfl
def tiS (k:IntKind) (x:V):Option (V×Upd):=match asI x with
 |some m=>some (.lit (.int k (k.wrap m)),[])
 |none=>none
theorem b45 (k:IntKind) (x:Opd):aj C ow (.toInt k x) ev h n=tiS k (ev x):=rfl
theorem c2i (k k':IntKind) (m:Int):tiS k (.lit (.int k' m))=some (.lit (.int k (k.wrap m)),[]):=rfl
def b6P (x:V):Option (V×Upd):=match x with
 | .lit (.string s)=>some (.lit (.string s),[])
 |_=>none
theorem b9s (x:Opd):aj C ow (.same x) ev h n=b6P (ev x):=rfl
theorem b5i (s:List UInt8):b6P (S s)=some (S s,[]):=rfl
theorem a0k (f:FuncId) (cs:List Opd):aj C ow (.makeFunc f cs) ev h n=some (.fn f (cs.map ev),[]):=rfl
def a0H (str:Bool) (x:V):Option (V×Upd):=match str,x with
 |true,.lit (.string s)=>some (.lit (.int .i64 s.size),[])
 |false,.lit (.slice _ n _)=>some (.lit (.int .i64 n),[])
 |false,.sl _ _ n=>some (.lit (.int .i64 n),[])
 |false,.imm _ rows=>some (.lit (.int .i64 rows.length),[])
 |_,_=>none
theorem c37 (str:Bool) (x:Opd):aj C ow (.len str x) ev h n=a0H str (ev x):=rfl
theorem b2s:a0H false (sl e l)=some (I (l.length:Nat),[]):=by
 rcases iN e l with ⟨rfl,h⟩|⟨_,h⟩<;>rw [h]<;>simp [a0H,rws]
theorem a93 (b s m:Nat):a0H false (.sl b s m)=some (I (m:Nat),[]):=rfl
theorem a71:a0H false (.lit (.slice none 0 0))=some (I (0:Nat),[]):=rfl
theorem b0N:a0H false (.imm 1 [])=some (I (0:Nat),[]):=rfl
theorem b0T (s:List UInt8):a0H true (S s)=some (I (s.length:Nat),[]):=rfl
def inS (neg:Bool) (x:V):Option (V×Upd):=match x with
 | .lit (.slice a _ _)=>some (.lit (.bool (if neg then !a.isNone else a.isNone)),[])
 | .imm _ (_::_)=>some (.lit (.bool neg),[])
 |_=>none
theorem b6N (neg:Bool) (x:Opd):aj C ow (.isNil neg x) ev h n=inS neg (ev x):=by
 simp only [aj];unfold inS;rfl
theorem b5k (neg:Bool) (m c:Nat):inS neg (.lit (.slice none m c))=some (B (!neg),[]):=by cases neg<;>rfl
theorem a1v (neg:Bool) (a:Addr) (m c:Nat):inS neg (.lit (.slice (some a) m c))=some (B neg,[]):=by cases neg<;>rfl
theorem Vx (neg:Bool) (e:En α) (x:α) (l:List α):inS neg (sl e (x::l))=some (B neg,[]):=rfl
theorem b03 (m:Nat) (x:Opd):aj C ow (.lenArr m x) ev h n=some (I (m:Nat),[]):=rfl
def b4H (x:V) (i:Nat):Option (V×Upd):=match x with
 | .tup vs=>match vs[i]? with
   |some v=>some (v,[])
   |none=>none
 |_=>none
theorem c1C (x:Opd) (i:Nat):aj C ow (.ext x i) ev h n=b4H (ev x) i:=rfl
theorem c0p (a:V) (r:List V):b4H (.tup (a::r)) 0=some (a,[]):=rfl
theorem c0m (a:V) (r:List V) (i:Nat):b4H (.tup (a::r)) (i+1)=b4H (.tup r) i:=rfl
def b8o (d:Nat) (x:V):Option (V×Upd):=match x with
 | .ptr b i o n=>some (.ptr b i (o+d) n,[])
 | .iptr r o=>some (.iptr r (o+d),[])
 |_=>none
theorem c1X (d:Nat) (x:Opd):aj C ow (.off d x) ev h n=b8o d (ev x):=rfl
theorem b9L (d b i o m:Nat):b8o d (.ptr b i o m)=some (.ptr b i (o+d) m,[]):=rfl
theorem b94 (d:Nat) (r:List V) (o:Nat):b8o d (.iptr r o)=some (.iptr r (o+d),[]):=rfl
def ldS:Option V→Option (V×Upd)
 |some v=>some (v,[])
 |none=>none
theorem a6O (v:V):ldS (some v)=some (v,[]):=rfl
theorem a79 {β:Type} (x:Option β) (f:β→Option V):ldS (x.bind f)=x.bind (fun a=>ldS (f a)):=by cases x<;>rfl
theorem b5l (a:V) (r:List V):part none (a::r) 0=some a:=rfl
theorem b5G (a:V) (r:List V) (o:Nat):part none (a::r) (o+1)=part none r o:=rfl
theorem b7S (m:Nat) (cs:List V) (o:Nat) (hm:(o+m).ble cs.length=true):part (some m) cs o=some (.agg ((cs.drop o).take m)):=by
 simp only [part]
 rw [if_pos (Nat.le_of_ble_eq_true hm)]
def a8l (d:Nat) (agg:Option Nat) (x:V):Option (V×Upd):=match x with
 | .agg cs=>match part agg cs d with
   |some v=>some (v,[])
   |none=>none
 |_=>none
theorem b3I (d:Nat) (agg:Option Nat) (x:Opd):aj C ow (.field d agg x) ev h n=a8l d agg (ev x):=rfl
theorem b1b (d:Nat) (agg:Option Nat) (cs:List V):a8l d agg (.agg cs)=ldS (part agg cs d):=rfl
def b9T (len esz:Nat) (agg:Option Nat) (x i:V):Option (V×Upd):=match x,asI i with
 | .agg cs,some i=>if 0≤i∧i.toNat<len then (match part agg cs (i.toNat*esz) with
   |some v=>some (v,[])
   |none=>none) else none
 |_,_=>none
theorem b4Y (len esz:Nat) (agg:Option Nat) (x i:Opd):aj C ow (.ixAgg len esz agg x i) ev h n=b9T len esz agg (ev x) (ev i):=rfl
theorem b7U (len esz:Nat) (agg:Option Nat) (cs:List V) (k:IntKind) (i:Int):b9T len esz agg (.agg cs) (.lit (.int k i))=br (inb i len) (ldS (part agg cs (i.toNat*esz))) none:=by
 unfold inb
 by_cases h1:0≤i<;>by_cases h2:i.toNat<len<;>simp [b9T,asI,h1,h2,br,ldS]
def O8 (agg:Option Nat) (k:Option Blk) (i o m:Nat):Option V:=match k with
 |some k=>if k.rows.length=m then (match k.rows[i]? with
  |some row=>part agg row o
  |none=>none) else none
 |none=>none
theorem c1b (agg:Option Nat) (a:Opd):aj C ow (.load agg a) ev h n=ldS (vZ agg h (ev a)):=rfl
theorem b3j (agg:Option Nat) (b i o m:Nat):vZ agg h (.ptr b i o m)=O8 agg (h b) i o m:=rfl
theorem b5J (agg:Option Nat) (r:List V) (o:Nat):vZ agg h (.iptr r o)=part agg r o:=rfl
theorem b4J (agg:Option Nat) (m:Nat) (row:List V) (o:Nat):O8 agg (some ⟨m,true,[row]⟩) 0 o 1=part agg row o:=rfl
theorem b5R (agg:Option Nat) (m:Nat) (op:Bool) (i o q:Nat) (hq:l.length=q):O8 agg (some ⟨m,op,rws e l⟩) i o q=(l[i]?).bind (fun x=>part agg (e.enc x) o):=by
 simp only [O8,rws,List.length_map,List.getElem?_map]
 rw [if_pos hq]
 cases l[i]? <;>rfl
def Tg (k:Option Blk) (m b s q:Nat) (i:Int):Option (V×Upd):=match k with
 |some k=>if 0<k.esz∧k.esz=m∧s+q=k.rows.length∧i.toNat<q then some (.ptr b (s+i.toNat) 0 k.rows.length,[]) else none
 |none=>none
def Wn (m:Nat) (x i:V) (h:au):Option (V×Upd):=match asI i with
 |some i=>if 0≤i then (match x with
  | .sl b s q=>Tg (h b) m b s q i
  | .imm e rows=>if e=m then (match rows[i.toNat]? with
    |some row=>some (.iptr row 0,[])
    |none=>none) else none
  |_=>none) else none
 |none=>none
theorem c1H (m:Nat) (x i:Opd):aj C ow (.idx m x i) ev h n=Wn m (ev x) (ev i) h:=by
 simp only [aj,Wn,Tg]
 cases asI (ev i) with
 |none=>rfl
 |some i=>
  dsimp only
  split
  ·cases ev x with
   |sl b s q=>dsimp only;cases h b<;>rfl
   |_=>rfl
  ·rfl
theorem b6G (m:Nat) (hm:e.esz=m) (k:IntKind) (i:Int):Wn m (sl e l) (.lit (.int k i)) h=(atL l i).bind (fun x=>some (.iptr (e.enc x) 0,[])):=by
 subst hm
 unfold atL
 by_cases hi:0≤i
 ·rw [if_pos hi]
  rcases iN e l with ⟨rfl,hs⟩|⟨_,hs⟩
  ·rw [hs];simp [Wn,asI]
  ·rw [hs]
   simp only [Wn,asI,hi,if_true,rws,List.getElem?_map]
   cases l[i.toNat]? <;>rfl
 ·rw [if_neg hi];simp [Wn,asI,hi]
theorem a8c (m b s q:Nat) (k:IntKind) (i:Int):Wn m (.sl b s q) (.lit (.int k i)) h=br (nn i) (Tg (h b) m b s q i) none:=by
 unfold nn
 by_cases hi:0≤i<;>simp [Wn,asI,hi,br]
theorem b5K (m:Nat) (op:Bool) (b q:Nat) (i:Int) (h0:Nat.blt 0 m=true) (hq:l.length=q):Tg (some ⟨m,op,rws e l⟩) m b 0 q i=br (decide (i.toNat<q)) (some (.ptr b i.toNat 0 q,[])) none:=by
 have h0:0<m:=by have:=Nat.le_of_ble_eq_true h0;omega
 by_cases hi:i.toNat<q<;>simp [Tg,rws,hq,hi,br,h0]
theorem b2g (m b:Nat) (row:List V) (i:Int):Tg (some ⟨m,true,[row]⟩) m b 0 1 i=br (Nat.blt 0 m&&decide (i.toNat<1)) (some (.ptr b i.toNat 0 1,[])) none:=by
 rw [Bm]
 by_cases h0:0<m<;>by_cases hi:i.toNat<1<;>simp [Tg,hi,br,h0]
def Wl (len esz:Nat) (x i:V):Option (V×Upd):=match asI i with
 |some i=>if 0≤i∧i.toNat<len then (match x with
  | .ptr b j o n=>some (.ptr b j (o+i.toNat*esz) n,[])
  | .iptr r o=>some (.iptr r (o+i.toNat*esz),[])
  |_=>none) else none
 |none=>none
theorem a9E (len esz:Nat) (x i:Opd):aj C ow (.idxArr len esz x i) ev h n=Wl len esz (ev x) (ev i):=rfl
theorem b4k (len esz b j o m:Nat) (k:IntKind) (i:Int):Wl len esz (.ptr b j o m) (.lit (.int k i))=br (inb i len) (some (.ptr b j (o+i.toNat*esz) m,[])) none:=by
 unfold inb
 by_cases h1:0≤i<;>by_cases h2:i.toNat<len<;>simp [Wl,asI,h1,h2,br]
theorem b4s (len esz:Nat) (r:List V) (o:Nat) (k:IntKind) (i:Int):Wl len esz (.iptr r o) (.lit (.int k i))=br (inb i len) (some (.iptr r (o+i.toNat*esz),[])) none:=by
 unfold inb
 by_cases h1:0≤i<;>by_cases h2:i.toNat<len<;>simp [Wl,asI,h1,h2,br]
def b6m (x i:V):Option (V×Upd):=match x,asI i with
 | .lit (.string s),some i=>if 0≤i then (match s.data[i.toNat]? with
   |some b=>some (.lit (.int .u8 b.toNat),[])
   |none=>none) else none
 |_,_=>none
theorem b2d (x i:Opd):aj C ow (.ixStr x i) ev h n=b6m (ev x) (ev i):=rfl
theorem c0v (s:List UInt8) (k:IntKind) (i:Int):b6m (S s) (.lit (.int k i))=(atL s i).bind (fun b=>some (.lit (.int .u8 b.toNat),[])):=by
 unfold atL
 by_cases hi:0≤i
 ·simp only [b6m,asI,hi,if_true]
  have:(⟨⟨s⟩⟩:ByteArray).data[i.toNat]? =s[i.toNat]? :=by simp
  rw [this]
  cases s[i.toNat]? <;>rfl
 ·simp [b6m,asI,hi]
def frO (k:Option Blk) (n:Nat) (b:Blk) (v:V):Option (V×Upd):=match k with
 |none=>br (Nat.blt 0 b.esz) (some (v,[(n,b)])) none
 |some _=>none
theorem vy (b:Blk) (v:V):jH h n b v=frO (h n) n b v:=by
 unfold jH frO
 cases h n with
 |none=>rw [Bm];by_cases hb:0<b.esz<;>simp [hb,br]
 |some k=>simp
theorem b1v (b:Blk) (v:V):frO none n b v=br (Nat.blt 0 b.esz) (some (v,[(n,b)])) none:=rfl
theorem a2h (zero:List Value):aj C ow (.alloc zero) ev h n=br (zero.all ba) (frO (h n) n ⟨zero.length,true,[zero.map .lit]⟩ (.ptr n 0 0 1)) none:=by
 simp only [aj,vy]
 cases zero.all ba<;>rfl
def b8K (size:Nat) (cs:List V) (h:au) (n:Nat):Option (V×Upd):=br (Nat.beq cs.length size&&cs.all V.cell) (frO (h n) n ⟨size,true,[cs]⟩ (.ptr n 0 0 1)) none
theorem c2y (size:Nat) (x:Opd):aj C ow (.box size x) ev h n=b8K size (ev x).cells h n:=by
 simp only [aj,vy,b8K,Iq]
 by_cases h1:(ev x).cells.length=size<;>cases h2:(ev x).cells.all V.cell<;>simp [h1,br]
def Kx (cells:List V):List (Nat×Nat×V)→Option (List V)
 |[]=>some cells
 | (off,size,v)::r=>br (Nat.beq v.cells.length size&&Nat.ble (off+size) cells.length&&v.cells.all V.cell) (Kx (cells.take off++(v.cells++cells.drop (off+size))) r) none
theorem MZ: ∀(ps:List (Nat×Nat×V)) (cells:List V),Ej cells ps=Kx cells ps
 |[],_=>rfl
 | (off,size,v)::r,cells=>by
   simp only [Ej,Kx,Iq,Im]
   rw [←MZ r]
   by_cases h1:v.cells.length=size<;>by_cases h2:off+size≤cells.length<;>cases h3:v.cells.all V.cell<;>simp [h1,h2,br]
def b8d:Option (List V)→Option (V×Upd)
 |some cs=>some (.agg cs,[])
 |none=>none
theorem Up (zero:List Value) (ps:List (Nat×Nat×Opd)):aj C ow (.build zero ps) ev h n=br (zero.all ba) (b8d (Kx (zero.map .lit) (fa ev ps))) none:=by
 simp only [aj,MZ,b8d]
 cases zero.all ba
 ·rfl
 ·simp only [bM,if_true]
  cases Kx (zero.map .lit) (fa ev ps)<;>rfl
theorem a4V (cs:List V):b8d (some cs)=some (.agg cs,[]):=rfl
end
end Go.AI
