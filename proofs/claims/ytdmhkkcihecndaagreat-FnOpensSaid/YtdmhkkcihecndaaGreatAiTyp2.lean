/- The machine's operations as words over values; what they come to on values of Lean's own types. -/
import Derived.Test.YtdmhkkcihecndaaGreatAiTyp
set_option linter.unusedVariables false
set_option linter.unusedSimpArgs false
namespace Go.AI
theorem IF (a b:Nat):Nat.ble a b=decide (a≤b):=by
 by_cases h0:a≤b
 ·rw [decide_eq_true h0];exact Nat.ble_eq_true_of_le h0
 ·rw [decide_eq_false h0];cases hb:Nat.ble a b with
  |false=>rfl
  |true=>exact absurd (Nat.le_of_ble_eq_true hb) h0
theorem Iz (a b:Nat):Nat.blt a b=decide (a<b):=IF (a+1) b
theorem L5 (a b:Nat):Nat.beq a b=decide (a=b):=by
 by_cases h0:a=b
 ·rw [decide_eq_true h0,h0];exact Nat.beq_refl b
 ·rw [decide_eq_false h0];cases hb:Nat.beq a b with
  |false=>rfl
  |true=>exact absurd (Nat.eq_of_beq_eq_true hb) h0
section
variable {C:aY} {ow:FuncId→List Nat} {ev:Opd→V} {h:au} {n:Nat} {α:Type} {e:En α} {l:List α}
def a4q (c a b:V):Option (V×Upd):=match c with
 | .lit (.bool c)=>br c (some (a,[])) (some (b,[]))
 |_=>none
theorem a51 (c a b:Opd):an C ow (.pick c a b) ev h n=a4q (ev c) (ev a) (ev b):=by
 simp only [an]
 unfold a4q
 split
 ·rename_i h;rw [h];rfl
 ·rename_i h;rw [h];rfl
 ·rename_i h1 h2
  split
  ·rename_i c' hc;cases c'
   ·exact absurd hc h2
   ·exact absurd hc h1
  ·rfl
def gW (op:BinOp) (x y:V):Option (V×Upd):=match x,y with
 | .lit a,.lit b=>match dA op a b with
   |some v=>some (.lit v,[])
   |none=>none
 |_,_=>none
theorem a7w (k:IntKind) (a b:Int):gW .add (.lit (.int k a)) (.lit (.int k b))=some (.lit (.int k (k.wrap (a+b))),[]):=by simp [gW,dA]
theorem a7q (k:IntKind) (a b:Int):gW .sub (.lit (.int k a)) (.lit (.int k b))=some (.lit (.int k (k.wrap (a-b))),[]):=by simp [gW,dA]
theorem a78 (k:IntKind) (a b:Int):gW .mul (.lit (.int k a)) (.lit (.int k b))=some (.lit (.int k (k.wrap (a*b))),[]):=by simp [gW,dA]
def nz (b:Int):Bool:=decide (b≠0)
theorem a7F (k:IntKind) (a b:Int):gW .quo (.lit (.int k a)) (.lit (.int k b))=br (nz b) (some (.lit (.int k (k.wrap (a.tdiv b))),[])) none:=by
 by_cases hb:b=0<;>simp [gW,dA,br,nz,hb]
theorem a75 (k:IntKind) (a b:Int):gW .rem (.lit (.int k a)) (.lit (.int k b))=br (nz b) (some (.lit (.int k (a.tmod b)),[])) none:=by
 by_cases hb:b=0<;>simp [gW,dA,br,nz,hb]
def fT (k:IntKind) (a b:Int):Int:=k.wrap (BitVec.ofInt k.bits a^^^BitVec.ofInt k.bits b).toNat
def bk (k:IntKind) (a b:Int):Int:=k.wrap (BitVec.ofInt k.bits a&&&BitVec.ofInt k.bits b).toNat
def uq (k:IntKind) (a b:Int):Int:=k.wrap (BitVec.ofInt k.bits a|||BitVec.ofInt k.bits b).toNat
def M9 (k:IntKind) (a b:Int):Int:=k.wrap (BitVec.ofInt k.bits a&&& ~~~ BitVec.ofInt k.bits b).toNat
def bW (k:IntKind) (a b:Int):Int:=k.wrap (a*2^(min b.toNat k.bits))
def aL (k:IntKind) (a b:Int):Int:=a.fdiv (2^(min b.toNat k.bits))
theorem a6U (k:IntKind) (a b:Int):gW .and (.lit (.int k a)) (.lit (.int k b))=some (.lit (.int k (bk k a b)),[]):=by simp [gW,dA,bk]
theorem a82 (k:IntKind) (a b:Int):gW .or (.lit (.int k a)) (.lit (.int k b))=some (.lit (.int k (uq k a b)),[]):=by simp [gW,dA,uq]
theorem a6x (k:IntKind) (a b:Int):gW .xor (.lit (.int k a)) (.lit (.int k b))=some (.lit (.int k (fT k a b)),[]):=by simp [gW,dA,fT]
theorem a5m (k:IntKind) (a b:Int):gW .andNot (.lit (.int k a)) (.lit (.int k b))=some (.lit (.int k (M9 k a b)),[]):=by simp [gW,dA,M9]
def nn (b:Int):Bool:=decide (0≤b)
theorem a7r (k k':IntKind) (a b:Int):gW .shl (.lit (.int k a)) (.lit (.int k' b))=br (nn b) (some (.lit (.int k (bW k a b)),[])) none:=by
 by_cases hb:0≤b<;>simp [gW,dA,br,nn,hb,bW]
theorem a7a (k k':IntKind) (a b:Int):gW .shr (.lit (.int k a)) (.lit (.int k' b))=br (nn b) (some (.lit (.int k (aL k a b)),[])) none:=by
 by_cases hb:0≤b<;>simp [gW,dA,br,nn,hb,aL]
theorem a7b (k:IntKind) (a b:Int):gW .eql (.lit (.int k a)) (.lit (.int k b))=some (.lit (.bool (a==b)),[]):=by simp [gW,dA]
theorem a6V (k:IntKind) (a b:Int):gW .neq (.lit (.int k a)) (.lit (.int k b))=some (.lit (.bool (a !=b)),[]):=by simp [gW,dA]
theorem a7d (k:IntKind) (a b:Int):gW .lss (.lit (.int k a)) (.lit (.int k b))=some (.lit (.bool (decide (a<b))),[]):=by simp [gW,dA]
theorem a7y (k:IntKind) (a b:Int):gW .leq (.lit (.int k a)) (.lit (.int k b))=some (.lit (.bool (decide (a≤b))),[]):=by simp [gW,dA]
theorem a6J (k:IntKind) (a b:Int):gW .gtr (.lit (.int k a)) (.lit (.int k b))=some (.lit (.bool (decide (a>b))),[]):=by simp [gW,dA]
theorem a6j (k:IntKind) (a b:Int):gW .geq (.lit (.int k a)) (.lit (.int k b))=some (.lit (.bool (decide (a≥b))),[]):=by simp [gW,dA]
theorem Qm (a:List UInt8):(⟨⟨a⟩⟩:ByteArray).size=a.length:=rfl
theorem S6 (d:ByteArray): ∀(k i:Nat) (r:List UInt8),d.size-i=k→ByteArray.toList.loop d i r=r.reverse++d.data.toList.drop i:=by
 intro k
 induction k with
 |zero=>
  intro i r hk
  unfold ByteArray.toList.loop
  have: ¬i<d.size:=by omega
  simp only [this,if_false]
  rw [List.drop_of_length_le]
  ·simp
  ·show d.data.size≤i
   exact (by omega:d.size≤i)
 |succ k ih=>
  intro i r hk
  unfold ByteArray.toList.loop
  have hlt:i<d.size:=by omega
  simp only [hlt,if_true]
  rw [ih (i+1) _ (by omega)]
  have hl:i<d.data.toList.length:=hlt
  rw [List.drop_eq_getElem_cons hl]
  have h3:i<d.data.size:=hlt
  simp only [ByteArray.get!,getElem!_pos,h3,List.reverse_cons,List.append_assoc,List.singleton_append,Array.getElem_toList]
theorem NX (a:List UInt8):(⟨⟨a⟩⟩:ByteArray).toList=a:=by
 unfold ByteArray.toList
 rw [S6 _ _ 0 [] rfl]
 simp
theorem a5n (a b:List UInt8):gW .add (S a) (S b)=br (aZ (a.length+b.length) 1) (some (S (a++b),[])) none:=by
 have:(⟨⟨a⟩⟩:ByteArray)++⟨⟨b⟩⟩=⟨⟨a++b⟩⟩:=by
  apply ByteArray.ext
  simp [ByteArray.data_append]
 by_cases hb:a.length+b.length≤bB<;>simp [gW,dA,br,aZ,hb,Qm,this]
theorem a5v (a b:List UInt8):gW .eql (S a) (S b)=some (.lit (.bool (a==b)),[]):=by simp [gW,dA,NX]
theorem a53 (a b:List UInt8):gW .neq (S a) (S b)=some (.lit (.bool (a !=b)),[]):=by simp [gW,dA,NX,bne]
def eqS (neg:Bool) (ks:List Bool) (x y:V):Option (V×Upd):=match x,y with
 | .agg a,.agg b=>match dN ks a b with
   |some r=>some (.lit (.bool (if neg then !r else r)),[])
   |none=>none
 |_,_=>none
def eqN (neg:Bool):Option Bool→Option (V×Upd)
 |some r=>some (.lit (.bool (if neg then !r else r)),[])
 |none=>none
theorem a3O (neg:Bool) (ks:List Bool) (a b:List V):eqS neg ks (.agg a) (.agg b)=eqN neg (dN ks a b):=by
 unfold eqS eqN;rfl
theorem a4t (neg c:Bool) (x y:Option Bool):eqN neg (br c x y)=br c (eqN neg x) (eqN neg y):=by cases c<;>rfl
theorem a7B (ks:List Bool) (k:IntKind) (a b:Int) (x y:List V):dN (true::ks) (.lit (.int k a)::x) (.lit (.int k b)::y)=br (a==b) (dN ks x y) (some false):=by
 by_cases hb:a=b
 ·subst hb;simp [dN,aQ]
 ·have:(a==b)=false:=by simpa using hb
  rw [this,aj];simp [dN,hb]
def a8j (neg:Bool) (x y:V):Option (V×Upd):=match x,y with
 | .lit (.bool a),.lit (.bool b)=>some (.lit (.bool (if neg then a !=b else a==b)),[])
 |_,_=>none
def unS (op:UnOp) (x:V):Option (V×Upd):=match x with
 | .lit a=>match OG op a with
   |some v=>some (.lit v,[])
   |none=>none
 |_=>none
def bO (k:IntKind) (a:Int):Int:=k.wrap (BitVec.ofInt k.bits (if k.signed then-1 else k.max)^^^BitVec.ofInt k.bits a).toNat
def tiS (k:IntKind) (x:V):Option (V×Upd):=match asI x with
 |some m=>some (.lit (.int k (k.wrap m)),[])
 |none=>none
def a8g (x:V):Option (V×Upd):=match x with
 | .lit (.string s)=>some (.lit (.string s),[])
 |_=>none
def a73 (str:Bool) (x:V):Option (V×Upd):=match str,x with
 |true,.lit (.string s)=>some (.lit (.int .i64 s.size),[])
 |false,.lit (.slice _ n _)=>some (.lit (.int .i64 n),[])
 |false,.sl _ _ n=>some (.lit (.int .i64 n),[])
 |false,.imm _ rows=>some (.lit (.int .i64 rows.length),[])
 |_,_=>none
theorem a2N:a73 false (sl e l)=some (I (l.length:Nat),[]):=by
 rcases iY e l with ⟨rfl,h⟩|⟨_,h⟩<;>rw [h]<;>simp [a73,rws]
def inS (neg:Bool) (x:V):Option (V×Upd):=match x with
 | .lit (.slice a _ _)=>some (.lit (.bool (if neg then !a.isNone else a.isNone)),[])
 | .imm _ (_::_)=>some (.lit (.bool neg),[])
 |_=>none
theorem a1T (neg:Bool) (x:Opd):an C ow (.isNil neg x) ev h n=inS neg (ev x):=by
 simp only [an];unfold inS;rfl
theorem Wj (neg:Bool) (a:Addr) (m c:Nat):inS neg (.lit (.slice (some a) m c))=some (B neg,[]):=by cases neg<;>rfl
theorem RH (neg:Bool) (e:En α) (x:α) (l:List α):inS neg (sl e (x::l))=some (B neg,[]):=rfl
def a8l (x:V) (i:Nat):Option (V×Upd):=match x with
 | .tup vs=>match vs[i]? with
   |some v=>some (v,[])
   |none=>none
 |_=>none
def a8o (d:Nat) (x:V):Option (V×Upd):=match x with
 | .ptr b i o n=>some (.ptr b i (o+d) n,[])
 | .iptr r o=>some (.iptr r (o+d),[])
 |_=>none
def ldS:Option V→Option (V×Upd)
 |some v=>some (v,[])
 |none=>none
theorem Ze {β:Type} (x:Option β) (f:β→Option V):ldS (x.bind f)=x.bind (fun a=>ldS (f a)):=by cases x<;>rfl
theorem a50 (m:Nat) (cs:List V) (o:Nat) (hm:(o+m).ble cs.length=true):part (some m) cs o=some (.agg ((cs.drop o).take m)):=by
 simp only [part]
 rw [if_pos (Nat.le_of_ble_eq_true hm)]
def a81 (d:Nat) (agg:Option Nat) (x:V):Option (V×Upd):=match x with
 | .agg cs=>match part agg cs d with
   |some v=>some (v,[])
   |none=>none
 |_=>none
def a6p (len esz:Nat) (agg:Option Nat) (x i:V):Option (V×Upd):=match x,asI i with
 | .agg cs,some i=>if 0≤i∧i.toNat<len then (match part agg cs (i.toNat*esz) with
   |some v=>some (v,[])
   |none=>none) else none
 |_,_=>none
theorem a4P (len esz:Nat) (agg:Option Nat) (cs:List V) (k:IntKind) (i:Int):a6p len esz agg (.agg cs) (.lit (.int k i))=br (inb i len) (ldS (part agg cs (i.toNat*esz))) none:=by
 unfold inb
 by_cases h1:0≤i<;>by_cases h2:i.toNat<len<;>simp [a6p,asI,h1,h2,br,ldS]
def a7E (agg:Option Nat) (k:Option Blk) (i o m:Nat):Option V:=match k with
 |some k=>if k.rows.length=m then (match k.rows[i]? with
  |some row=>part agg row o
  |none=>none) else none
 |none=>none
theorem a2u (agg:Option Nat) (m:Nat) (op:Bool) (i o q:Nat) (hq:l.length=q):a7E agg (some ⟨m,op,rws e l⟩) i o q=(l[i]?).bind (fun x=>part agg (e.enc x) o):=by
 simp only [a7E,rws,List.length_map,List.getElem?_map]
 rw [if_pos hq]
 cases l[i]? <;>rfl
def Z6 (k:Option Blk) (m b s q:Nat) (i:Int):Option (V×Upd):=match k with
 |some k=>if 0<k.esz∧k.esz=m∧s+q=k.rows.length∧i.toNat<q then some (.ptr b (s+i.toNat) 0 k.rows.length,[]) else none
 |none=>none
def Tm (m:Nat) (x i:V) (h:au):Option (V×Upd):=match asI i with
 |some i=>if 0≤i then (match x with
  | .sl b s q=>Z6 (h b) m b s q i
  | .imm e rows=>if e=m then (match rows[i.toNat]? with
    |some row=>some (.iptr row 0,[])
    |none=>none) else none
  |_=>none) else none
 |none=>none
theorem a7v (m:Nat) (x i:Opd):an C ow (.idx m x i) ev h n=Tm m (ev x) (ev i) h:=by
 simp only [an,Tm,Z6]
 cases asI (ev i) with
 |none=>rfl
 |some i=>
  dsimp only
  split
  ·cases ev x with
   |sl b s q=>dsimp only;cases h b<;>rfl
   |_=>rfl
  ·rfl
theorem a3l (m:Nat) (hm:e.esz=m) (k:IntKind) (i:Int):Tm m (sl e l) (.lit (.int k i)) h=(atL l i).bind (fun x=>some (.iptr (e.enc x) 0,[])):=by
 subst hm
 unfold atL
 by_cases hi:0≤i
 ·rw [if_pos hi]
  rcases iY e l with ⟨rfl,hs⟩|⟨_,hs⟩
  ·rw [hs];simp [Tm,asI]
  ·rw [hs]
   simp only [Tm,asI,hi,if_true,rws,List.getElem?_map]
   cases l[i.toNat]? <;>rfl
 ·rw [if_neg hi];simp [Tm,asI,hi]
theorem a1v (m b s q:Nat) (k:IntKind) (i:Int):Tm m (.sl b s q) (.lit (.int k i)) h=br (nn i) (Z6 (h b) m b s q i) none:=by
 unfold nn
 by_cases hi:0≤i<;>simp [Tm,asI,hi,br]
theorem a2L (m:Nat) (op:Bool) (b q:Nat) (i:Int) (h0:Nat.blt 0 m=true) (hq:l.length=q):Z6 (some ⟨m,op,rws e l⟩) m b 0 q i=br (decide (i.toNat<q)) (some (.ptr b i.toNat 0 q,[])) none:=by
 have h0:0<m:=by have:=Nat.le_of_ble_eq_true h0;omega
 by_cases hi:i.toNat<q<;>simp [Z6,rws,hq,hi,br,h0]
def a4c (len esz:Nat) (x i:V):Option (V×Upd):=match asI i with
 |some i=>if 0≤i∧i.toNat<len then (match x with
  | .ptr b j o n=>some (.ptr b j (o+i.toNat*esz) n,[])
  | .iptr r o=>some (.iptr r (o+i.toNat*esz),[])
  |_=>none) else none
 |none=>none
theorem a2k (len esz b j o m:Nat) (k:IntKind) (i:Int):a4c len esz (.ptr b j o m) (.lit (.int k i))=br (inb i len) (some (.ptr b j (o+i.toNat*esz) m,[])) none:=by
 unfold inb
 by_cases h1:0≤i<;>by_cases h2:i.toNat<len<;>simp [a4c,asI,h1,h2,br]
def a5J (x i:V):Option (V×Upd):=match x,asI i with
 | .lit (.string s),some i=>if 0≤i then (match s.data[i.toNat]? with
   |some b=>some (.lit (.int .u8 b.toNat),[])
   |none=>none) else none
 |_,_=>none
theorem a5h (s:List UInt8) (k:IntKind) (i:Int):a5J (S s) (.lit (.int k i))=(atL s i).bind (fun b=>some (.lit (.int .u8 b.toNat),[])):=by
 unfold atL
 by_cases hi:0≤i
 ·simp only [a5J,asI,hi,if_true]
  have:(⟨⟨s⟩⟩:ByteArray).data[i.toNat]? =s[i.toNat]? :=by simp
  rw [this]
  cases s[i.toNat]? <;>rfl
 ·simp [a5J,asI,hi]
def frO (k:Option Blk) (n:Nat) (b:Blk) (v:V):Option (V×Upd):=match k with
 |none=>br (Nat.blt 0 b.esz) (some (v,[(n,b)])) none
 |some _=>none
theorem vE (b:Blk) (v:V):jf h n b v=frO (h n) n b v:=by
 unfold jf frO
 cases h n with
 |none=>rw [Iz];by_cases hb:0<b.esz<;>simp [hb,br]
 |some k=>simp
theorem Wp (zero:List Value):an C ow (.alloc zero) ev h n=br (zero.all bf) (frO (h n) n ⟨zero.length,true,[zero.map .lit]⟩ (.ptr n 0 0 1)) none:=by
 simp only [an,vE]
 cases zero.all bf<;>rfl
def a6I (size:Nat) (cs:List V) (h:au) (n:Nat):Option (V×Upd):=br (Nat.beq cs.length size&&cs.all V.cell) (frO (h n) n ⟨size,true,[cs]⟩ (.ptr n 0 0 1)) none
theorem a6R (size:Nat) (x:Opd):an C ow (.box size x) ev h n=a6I size (ev x).cells h n:=by
 simp only [an,vE,a6I,L5]
 by_cases h1:(ev x).cells.length=size<;>cases h2:(ev x).cells.all V.cell<;>simp [h1,br]
def TX (cells:List V):List (Nat×Nat×V)→Option (List V)
 |[]=>some cells
 | (off,size,v)::r=>br (Nat.beq v.cells.length size&&Nat.ble (off+size) cells.length&&v.cells.all V.cell) (TX (cells.take off++(v.cells++cells.drop (off+size))) r) none
theorem Lv: ∀(ps:List (Nat×Nat×V)) (cells:List V),C7 cells ps=TX cells ps
 |[],_=>rfl
 | (off,size,v)::r,cells=>by
   simp only [C7,TX,L5,IF]
   rw [←Lv r]
   by_cases h1:v.cells.length=size<;>by_cases h2:off+size≤cells.length<;>cases h3:v.cells.all V.cell<;>simp [h1,h2,br]
def a7D:Option (List V)→Option (V×Upd)
 |some cs=>some (.agg cs,[])
 |none=>none
theorem PV (zero:List Value) (ps:List (Nat×Nat×Opd)):an C ow (.build zero ps) ev h n=br (zero.all bf) (a7D (TX (zero.map .lit) (fR ev ps))) none:=by
 simp only [an,Lv,a7D]
 cases zero.all bf
 ·rfl
 ·simp only [aQ,if_true]
  cases TX (zero.map .lit) (fR ev ps)<;>rfl
end
end Go.AI
