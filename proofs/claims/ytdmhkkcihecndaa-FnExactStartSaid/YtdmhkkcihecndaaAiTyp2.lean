/- The machine's operations as words over values; what they come to on values of Lean's own types. -/
import Derived.Test.YtdmhkkcihecndaaAiLim
set_option linter.unusedVariables false
set_option linter.unusedSimpArgs false
namespace Go.AI
theorem tr (a b:Nat):Nat.ble a b=decide (a≤b):=by
 by_cases h0:a≤b
 ·rw [decide_eq_true h0];exact Nat.ble_eq_true_of_le h0
 ·rw [decide_eq_false h0];cases hb:Nat.ble a b with
  |false=>rfl
  |true=>exact absurd (Nat.le_of_ble_eq_true hb) h0
theorem p5 (a b:Nat):Nat.blt a b=decide (a<b):=tr (a+1) b
theorem sN (a b:Nat):Nat.beq a b=decide (a=b):=by
 by_cases h0:a=b
 ·rw [decide_eq_true h0,h0];exact Nat.beq_refl b
 ·rw [decide_eq_false h0];cases hb:Nat.beq a b with
  |false=>rfl
  |true=>exact absurd (Nat.eq_of_beq_eq_true hb) h0
section
variable {C:aA} {ow:FuncId→List Nat} {ev:Opd→V} {h:ag} {n:Nat} {α:Type} {e:En α} {l:List α}
theorem Wl (x:Opd):aa C ow (.mv x) ev h n=some (ev x,[]):=rfl
def ML (c a b:V):Option (V×Upd):=match c with
 | .lit (.bool c)=>br c (some (a,[])) (some (b,[]))
 |_=>none
theorem Tt (c a b:Opd):aa C ow (.pick c a b) ev h n=ML (ev c) (ev a) (ev b):=by
 simp only [aa]
 unfold ML
 split
 ·rename_i h;rw [h];rfl
 ·rename_i h;rw [h];rfl
 ·rename_i h1 h2
  split
  ·rename_i c' hc;cases c'
   ·exact absurd hc h2
   ·exact absurd hc h1
  ·rfl
theorem Nq (c:Bool) (a b:V):ML (.lit (.bool c)) a b=br c (some (a,[])) (some (b,[])):=rfl
def dL (op:BinOp) (x y:V):Option (V×Upd):=match x,y with
 | .lit a,.lit b=>match bZ op a b with
   |some v=>some (.lit v,[])
   |none=>none
 |_,_=>none
theorem VB (op:BinOp) (x y:Opd):aa C ow (.bin op x y) ev h n=dL op (ev x) (ev y):=rfl
theorem UK (k:IntKind) (a b:Int):dL .add (.lit (.int k a)) (.lit (.int k b))=some (.lit (.int k (k.wrap (a+b))),[]):=by simp [dL,bZ]
theorem Vw (k:IntKind) (a b:Int):dL .sub (.lit (.int k a)) (.lit (.int k b))=some (.lit (.int k (k.wrap (a-b))),[]):=by simp [dL,bZ]
theorem UI (k:IntKind) (a b:Int):dL .mul (.lit (.int k a)) (.lit (.int k b))=some (.lit (.int k (k.wrap (a*b))),[]):=by simp [dL,bZ]
def nz (b:Int):Bool:=decide (b≠0)
theorem VC (k:IntKind) (a b:Int):dL .quo (.lit (.int k a)) (.lit (.int k b))=br (nz b) (some (.lit (.int k (k.wrap (a.tdiv b))),[])) none:=by
 by_cases hb:b=0<;>simp [dL,bZ,br,nz,hb]
theorem VF (k:IntKind) (a b:Int):dL .rem (.lit (.int k a)) (.lit (.int k b))=br (nz b) (some (.lit (.int k (a.tmod b)),[])) none:=by
 by_cases hb:b=0<;>simp [dL,bZ,br,nz,hb]
def eJ (k:IntKind) (a b:Int):Int:=k.wrap (BitVec.ofInt k.bits a^^^BitVec.ofInt k.bits b).toNat
def aK (k:IntKind) (a b:Int):Int:=k.wrap (BitVec.ofInt k.bits a&&&BitVec.ofInt k.bits b).toNat
def ov (k:IntKind) (a b:Int):Int:=k.wrap (BitVec.ofInt k.bits a|||BitVec.ofInt k.bits b).toNat
def xS (k:IntKind) (a b:Int):Int:=k.wrap (BitVec.ofInt k.bits a&&& ~~~ BitVec.ofInt k.bits b).toNat
def bf (k:IntKind) (a b:Int):Int:=k.wrap (a*2^(min b.toNat k.bits))
def bD (k:IntKind) (a b:Int):Int:=a.fdiv (2^(min b.toNat k.bits))
theorem VA (k:IntKind) (a b:Int):dL .and (.lit (.int k a)) (.lit (.int k b))=some (.lit (.int k (aK k a b)),[]):=by simp [dL,bZ,aK]
theorem W7 (k:IntKind) (a b:Int):dL .or (.lit (.int k a)) (.lit (.int k b))=some (.lit (.int k (ov k a b)),[]):=by simp [dL,bZ,ov]
theorem Uo (k:IntKind) (a b:Int):dL .xor (.lit (.int k a)) (.lit (.int k b))=some (.lit (.int k (eJ k a b)),[]):=by simp [dL,bZ,eJ]
theorem Tf (k:IntKind) (a b:Int):dL .andNot (.lit (.int k a)) (.lit (.int k b))=some (.lit (.int k (xS k a b)),[]):=by simp [dL,bZ,xS]
def nn (b:Int):Bool:=decide (0≤b)
theorem UM (k k':IntKind) (a b:Int):dL .shl (.lit (.int k a)) (.lit (.int k' b))=br (nn b) (some (.lit (.int k (bf k a b)),[])) none:=by
 by_cases hb:0≤b<;>simp [dL,bZ,br,nn,hb,bf]
theorem Us (k k':IntKind) (a b:Int):dL .shr (.lit (.int k a)) (.lit (.int k' b))=br (nn b) (some (.lit (.int k (bD k a b)),[])) none:=by
 by_cases hb:0≤b<;>simp [dL,bZ,br,nn,hb,bD]
theorem Vd (k:IntKind) (a b:Int):dL .eql (.lit (.int k a)) (.lit (.int k b))=some (.lit (.bool (a==b)),[]):=by simp [dL,bZ]
theorem Vq (k:IntKind) (a b:Int):dL .neq (.lit (.int k a)) (.lit (.int k b))=some (.lit (.bool (a !=b)),[]):=by simp [dL,bZ]
theorem Vo (k:IntKind) (a b:Int):dL .lss (.lit (.int k a)) (.lit (.int k b))=some (.lit (.bool (decide (a<b))),[]):=by simp [dL,bZ]
theorem VG (k:IntKind) (a b:Int):dL .leq (.lit (.int k a)) (.lit (.int k b))=some (.lit (.bool (decide (a≤b))),[]):=by simp [dL,bZ]
theorem UP (k:IntKind) (a b:Int):dL .gtr (.lit (.int k a)) (.lit (.int k b))=some (.lit (.bool (decide (a>b))),[]):=by simp [dL,bZ]
theorem Un (k:IntKind) (a b:Int):dL .geq (.lit (.int k a)) (.lit (.int k b))=some (.lit (.bool (decide (a≥b))),[]):=by simp [dL,bZ]
theorem AD (a:List UInt8):(⟨⟨a⟩⟩:ByteArray).size=a.length:=rfl
theorem CH (d:ByteArray): ∀(k i:Nat) (r:List UInt8),d.size-i=k→ByteArray.toList.loop d i r=r.reverse++d.data.toList.drop i:=by
 intro k
 induction k with
 |zero=>
  intro i r hk
  unfold ByteArray.toList.loop
  have: ¬i<d.size:=by omega
  simp only [this,if_false]
  rw [List.drop_of_length_le]
  ·simp
  ·show d.data.size≤i
   exact (by omega:d.size≤i)
 |succ k ih=>
  intro i r hk
  unfold ByteArray.toList.loop
  have hlt:i<d.size:=by omega
  simp only [hlt,if_true]
  rw [ih (i+1) _ (by omega)]
  have hl:i<d.data.toList.length:=hlt
  rw [List.drop_eq_getElem_cons hl]
  have h3:i<d.data.size:=hlt
  simp only [ByteArray.get!,getElem!_pos,h3,List.reverse_cons,List.append_assoc,List.singleton_append,Array.getElem_toList]
theorem zz (a:List UInt8):(⟨⟨a⟩⟩:ByteArray).toList=a:=by
 unfold ByteArray.toList
 rw [CH _ _ 0 [] rfl]
 simp
theorem Ta (a b:List UInt8):dL .add (S a) (S b)=br (dC (a.length+b.length) 1) (some (S (a++b),[])) none:=by
 have:(⟨⟨a⟩⟩:ByteArray)++⟨⟨b⟩⟩=⟨⟨a++b⟩⟩:=by
  apply ByteArray.ext
  simp [ByteArray.data_append]
 by_cases hb:a.length+b.length≤aM<;>simp [dL,bZ,br,dC,hb,AD,this]
theorem S5 (a b:List UInt8):dL .eql (S a) (S b)=some (.lit (.bool (a==b)),[]):=by simp [dL,bZ,zz]
theorem Sk (a b:List UInt8):dL .neq (S a) (S b)=some (.lit (.bool (a !=b)),[]):=by simp [dL,bZ,zz,bne]
def eqS (neg:Bool) (ks:List Bool) (x y:V):Option (V×Upd):=match x,y with
 | .agg a,.agg b=>match bF ks a b with
   |some r=>some (.lit (.bool (if neg then !r else r)),[])
   |none=>none
 |_,_=>none
theorem Nu (neg:Bool) (ks:List Bool) (x y:Opd):aa C ow (.eqAgg neg ks x y) ev h n=eqS neg ks (ev x) (ev y):=rfl
def eqN (neg:Bool):Option Bool→Option (V×Upd)
 |some r=>some (.lit (.bool (if neg then !r else r)),[])
 |none=>none
theorem O0 (neg:Bool) (ks:List Bool) (a b:List V):eqS neg ks (.agg a) (.agg b)=eqN neg (bF ks a b):=by
 unfold eqS eqN;rfl
theorem UU (r:Bool):eqN true (some r)=some (.lit (.bool !r),[]):=rfl
theorem Vl (r:Bool):eqN false (some r)=some (.lit (.bool r),[]):=rfl
theorem T3 (neg c:Bool) (x y:Option Bool):eqN neg (br c x y)=br c (eqN neg x) (eqN neg y):=by cases c<;>rfl
theorem PL:bF [] [] []=some true:=rfl
theorem VN (ks:List Bool) (k:IntKind) (a b:Int) (x y:List V):bF (true::ks) (.lit (.int k a)::x) (.lit (.int k b)::y)=br (a==b) (bF ks x y) (some false):=by
 by_cases hb:a=b
 ·subst hb;simp [bF,bK]
 ·have:(a==b)=false:=by simpa using hb
  rw [this,aH];simp [bF,hb]
theorem VK (ks:List Bool) (a b:List UInt8) (x y:List V):bF (false::ks) (S a::x) (S b::y)=br (a==b) (bF ks x y) (some false):=by
 by_cases hb:a=b
 ·subst hb;simp [bF,bK]
 ·have:(a==b)=false:=by simpa using hb
  rw [this,aH];simp [bF,hb]
def U6 (neg:Bool) (x y:V):Option (V×Upd):=match x,y with
 | .lit (.bool a),.lit (.bool b)=>some (.lit (.bool (if neg then a !=b else a==b)),[])
 |_,_=>none
theorem VU (neg:Bool) (x y:Opd):aa C ow (.beq neg x y) ev h n=U6 neg (ev x) (ev y):=rfl
theorem S0 (a b:Bool):U6 true (B a) (B b)=some (.lit (.bool (a !=b)),[]):=rfl
theorem Sl (a b:Bool):U6 false (B a) (B b)=some (.lit (.bool (a==b)),[]):=rfl
def unS (op:UnOp) (x:V):Option (V×Upd):=match x with
 | .lit a=>match zJ op a with
   |some v=>some (.lit v,[])
   |none=>none
 |_=>none
theorem Wa (op:UnOp) (x:Opd):aa C ow (.un op x) ev h n=unS op (ev x):=rfl
theorem UH (b:Bool):unS .not (B b)=some (B (!b),[]):=rfl
theorem UF (k:IntKind) (a:Int):unS .neg (.lit (.int k a))=some (.lit (.int k (k.wrap (0-a))),[]):=rfl
def aW (k:IntKind) (a:Int):Int:=k.wrap (BitVec.ofInt k.bits (if k.signed then-1 else k.max)^^^BitVec.ofInt k.bits a).toNat
theorem Uv (k:IntKind) (a:Int):unS .xor (.lit (.int k a))=some (.lit (.int k (aW k a)),[]):=rfl
def tiS (k:IntKind) (x:V):Option (V×Upd):=match asI x with
 |some m=>some (.lit (.int k (k.wrap m)),[])
 |none=>none
theorem PR (k:IntKind) (x:Opd):aa C ow (.toInt k x) ev h n=tiS k (ev x):=rfl
theorem Uw (k k':IntKind) (m:Int):tiS k (.lit (.int k' m))=some (.lit (.int k (k.wrap m)),[]):=rfl
def R2 (x:V):Option (V×Upd):=match x with
 | .lit (.string s)=>some (.lit (.string s),[])
 |_=>none
theorem Tq (x:Opd):aa C ow (.same x) ev h n=R2 (ev x):=rfl
theorem P3 (s:List UInt8):R2 (S s)=some (S s,[]):=rfl
theorem EA (f:FuncId) (cs:List Opd):aa C ow (.makeFunc f cs) ev h n=some (.fn f (cs.map ev),[]):=rfl
def EN (str:Bool) (x:V):Option (V×Upd):=match str,x with
 |true,.lit (.string s)=>some (.lit (.int .i64 s.size),[])
 |false,.lit (.slice _ n _)=>some (.lit (.int .i64 n),[])
 |false,.sl _ _ n=>some (.lit (.int .i64 n),[])
 |false,.imm _ rows=>some (.lit (.int .i64 rows.length),[])
 |_,_=>none
theorem UO (str:Bool) (x:Opd):aa C ow (.len str x) ev h n=EN str (ev x):=rfl
theorem OL:EN false (sl e l)=some (I (l.length:Nat),[]):=by
 rcases dQ e l with ⟨rfl,h⟩|⟨_,h⟩<;>rw [h]<;>simp [EN,rws]
theorem Jj (b s m:Nat):EN false (.sl b s m)=some (I (m:Nat),[]):=rfl
theorem MA:EN false (.lit (.slice none 0 0))=some (I (0:Nat),[]):=rfl
theorem N9:EN false (.imm 1 [])=some (I (0:Nat),[]):=rfl
theorem Ls (s:List UInt8):EN true (S s)=some (I (s.length:Nat),[]):=rfl
def inS (neg:Bool) (x:V):Option (V×Upd):=match x with
 | .lit (.slice a _ _)=>some (.lit (.bool (if neg then !a.isNone else a.isNone)),[])
 | .imm _ (_::_)=>some (.lit (.bool neg),[])
 |_=>none
theorem Ob (neg:Bool) (x:Opd):aa C ow (.isNil neg x) ev h n=inS neg (ev x):=by
 simp only [aa];unfold inS;rfl
theorem Ps (neg:Bool) (m c:Nat):inS neg (.lit (.slice none m c))=some (B (!neg),[]):=by cases neg<;>rfl
theorem GD (neg:Bool) (a:Addr) (m c:Nat):inS neg (.lit (.slice (some a) m c))=some (B neg,[]):=by cases neg<;>rfl
theorem DQ (neg:Bool) (e:En α) (x:α) (l:List α):inS neg (sl e (x::l))=some (B neg,[]):=rfl
theorem Kc (m:Nat) (x:Opd):aa C ow (.lenArr m x) ev h n=some (I (m:Nat),[]):=rfl
def Pr (x:V) (i:Nat):Option (V×Upd):=match x with
 | .tup vs=>match vs[i]? with
   |some v=>some (v,[])
   |none=>none
 |_=>none
theorem V4 (x:Opd) (i:Nat):aa C ow (.ext x i) ev h n=Pr (ev x) i:=rfl
theorem Rw (a:V) (r:List V):Pr (.tup (a::r)) 0=some (a,[]):=rfl
theorem T1 (a:V) (r:List V) (i:Nat):Pr (.tup (a::r)) (i+1)=Pr (.tup r) i:=rfl
def Re (d:Nat) (x:V):Option (V×Upd):=match x with
 | .ptr b i o n=>some (.ptr b i (o+d) n,[])
 | .iptr r o=>some (.iptr r (o+d),[])
 |_=>none
theorem VT (d:Nat) (x:Opd):aa C ow (.off d x) ev h n=Re d (ev x):=rfl
theorem Ug (d b i o m:Nat):Re d (.ptr b i o m)=some (.ptr b i (o+d) m,[]):=rfl
theorem RX (d:Nat) (r:List V) (o:Nat):Re d (.iptr r o)=some (.iptr r (o+d),[]):=rfl
def ldS:Option V→Option (V×Upd)
 |some v=>some (v,[])
 |none=>none
theorem L0 (v:V):ldS (some v)=some (v,[]):=rfl
theorem L9 {β:Type} (x:Option β) (f:β→Option V):ldS (x.bind f)=x.bind (fun a=>ldS (f a)):=by cases x<;>rfl
theorem Q6 (a:V) (r:List V):part none (a::r) 0=some a:=rfl
theorem P7 (a:V) (r:List V) (o:Nat):part none (a::r) (o+1)=part none r o:=rfl
theorem SF (m:Nat) (cs:List V) (o:Nat) (hm:(o+m).ble cs.length=true):part (some m) cs o=some (.agg ((cs.drop o).take m)):=by
 simp only [part]
 rw [if_pos (Nat.le_of_ble_eq_true hm)]
def MS (d:Nat) (agg:Option Nat) (x:V):Option (V×Upd):=match x with
 | .agg cs=>match part agg cs d with
   |some v=>some (v,[])
   |none=>none
 |_=>none
theorem NQ (d:Nat) (agg:Option Nat) (x:Opd):aa C ow (.field d agg x) ev h n=MS d agg (ev x):=rfl
theorem N4 (d:Nat) (agg:Option Nat) (cs:List V):MS d agg (.agg cs)=ldS (part agg cs d):=rfl
def Sx (len esz:Nat) (agg:Option Nat) (x i:V):Option (V×Upd):=match x,asI i with
 | .agg cs,some i=>if 0≤i∧i.toNat<len then (match part agg cs (i.toNat*esz) with
   |some v=>some (v,[])
   |none=>none) else none
 |_,_=>none
theorem Oi (len esz:Nat) (agg:Option Nat) (x i:Opd):aa C ow (.ixAgg len esz agg x i) ev h n=Sx len esz agg (ev x) (ev i):=rfl
theorem Td (len esz:Nat) (agg:Option Nat) (cs:List V) (k:IntKind) (i:Int):Sx len esz agg (.agg cs) (.lit (.int k i))=br (inb i len) (ldS (part agg cs (i.toNat*esz))) none:=by
 unfold inb
 by_cases h1:0≤i<;>by_cases h2:i.toNat<len<;>simp [Sx,asI,h1,h2,br,ldS]
def Io (agg:Option Nat) (k:Option Blk) (i o m:Nat):Option V:=match k with
 |some k=>if k.rows.length=m then (match k.rows[i]? with
  |some row=>part agg row o
  |none=>none) else none
 |none=>none
theorem Rm (agg:Option Nat) (a:Opd):aa C ow (.load agg a) ev h n=ldS (kV agg h (ev a)):=rfl
theorem QO (agg:Option Nat) (b i o m:Nat):kV agg h (.ptr b i o m)=Io agg (h b) i o m:=rfl
theorem Ql (agg:Option Nat) (r:List V) (o:Nat):kV agg h (.iptr r o)=part agg r o:=rfl
theorem QM (agg:Option Nat) (m:Nat) (row:List V) (o:Nat):Io agg (some ⟨m,true,[row]⟩) 0 o 1=part agg row o:=rfl
theorem Pq (agg:Option Nat) (m:Nat) (op:Bool) (i o q:Nat) (hq:l.length=q):Io agg (some ⟨m,op,rws e l⟩) i o q=(l[i]?).bind (fun x=>part agg (e.enc x) o):=by
 simp only [Io,rws,List.length_map,List.getElem?_map]
 rw [if_pos hq]
 cases l[i]? <;>rfl
def B1 (k:Option Blk) (m b s q:Nat) (i:Int):Option (V×Upd):=match k with
 |some k=>if 0<k.esz∧k.esz=m∧s+q=k.rows.length∧i.toNat<q then some (.ptr b (s+i.toNat) 0 k.rows.length,[]) else none
 |none=>none
def CC (m:Nat) (x i:V) (h:ag):Option (V×Upd):=match asI i with
 |some i=>if 0≤i then (match x with
  | .sl b s q=>B1 (h b) m b s q i
  | .imm e rows=>if e=m then (match rows[i.toNat]? with
    |some row=>some (.iptr row 0,[])
    |none=>none) else none
  |_=>none) else none
 |none=>none
theorem UL (m:Nat) (x i:Opd):aa C ow (.idx m x i) ev h n=CC m (ev x) (ev i) h:=by
 simp only [aa,CC,B1]
 cases asI (ev i) with
 |none=>rfl
 |some i=>
  dsimp only
  split
  ·cases ev x with
   |sl b s q=>dsimp only;cases h b<;>rfl
   |_=>rfl
  ·rfl
theorem OY (m:Nat) (hm:e.esz=m) (k:IntKind) (i:Int):CC m (sl e l) (.lit (.int k i)) h=(atL l i).bind (fun x=>some (.iptr (e.enc x) 0,[])):=by
 subst hm
 unfold atL
 by_cases hi:0≤i
 ·rw [if_pos hi]
  rcases dQ e l with ⟨rfl,hs⟩|⟨_,hs⟩
  ·rw [hs];simp [CC,asI]
  ·rw [hs]
   simp only [CC,asI,hi,if_true,rws,List.getElem?_map]
   cases l[i.toNat]? <;>rfl
 ·rw [if_neg hi];simp [CC,asI,hi]
theorem L7 (m b s q:Nat) (k:IntKind) (i:Int):CC m (.sl b s q) (.lit (.int k i)) h=br (nn i) (B1 (h b) m b s q i) none:=by
 unfold nn
 by_cases hi:0≤i<;>simp [CC,asI,hi,br]
theorem NM (m:Nat) (op:Bool) (b q:Nat) (i:Int) (h0:Nat.blt 0 m=true) (hq:l.length=q):B1 (some ⟨m,op,rws e l⟩) m b 0 q i=br (decide (i.toNat<q)) (some (.ptr b i.toNat 0 q,[])) none:=by
 have h0:0<m:=by have:=Nat.le_of_ble_eq_true h0;omega
 by_cases hi:i.toNat<q<;>simp [B1,rws,hq,hi,br,h0]
theorem Np (m b:Nat) (row:List V) (i:Int):B1 (some ⟨m,true,[row]⟩) m b 0 1 i=br (Nat.blt 0 m&&decide (i.toNat<1)) (some (.ptr b i.toNat 0 1,[])) none:=by
 rw [p5]
 by_cases h0:0<m<;>by_cases hi:i.toNat<1<;>simp [B1,hi,br,h0]
def CR (len esz:Nat) (x i:V):Option (V×Upd):=match asI i with
 |some i=>if 0≤i∧i.toNat<len then (match x with
  | .ptr b j o n=>some (.ptr b j (o+i.toNat*esz) n,[])
  | .iptr r o=>some (.iptr r (o+i.toNat*esz),[])
  |_=>none) else none
 |none=>none
theorem JW (len esz:Nat) (x i:Opd):aa C ow (.idxArr len esz x i) ev h n=CR len esz (ev x) (ev i):=rfl
theorem Ny (len esz b j o m:Nat) (k:IntKind) (i:Int):CR len esz (.ptr b j o m) (.lit (.int k i))=br (inb i len) (some (.ptr b j (o+i.toNat*esz) m,[])) none:=by
 unfold inb
 by_cases h1:0≤i<;>by_cases h2:i.toNat<len<;>simp [CR,asI,h1,h2,br]
theorem Qr (len esz:Nat) (r:List V) (o:Nat) (k:IntKind) (i:Int):CR len esz (.iptr r o) (.lit (.int k i))=br (inb i len) (some (.iptr r (o+i.toNat*esz),[])) none:=by
 unfold inb
 by_cases h1:0≤i<;>by_cases h2:i.toNat<len<;>simp [CR,asI,h1,h2,br]
def ND (x i:V):Option (V×Upd):=match x,asI i with
 | .lit (.string s),some i=>if 0≤i then (match s.data[i.toNat]? with
   |some b=>some (.lit (.int .u8 b.toNat),[])
   |none=>none) else none
 |_,_=>none
theorem Oe (x i:Opd):aa C ow (.ixStr x i) ev h n=ND (ev x) (ev i):=rfl
theorem Th (s:List UInt8) (k:IntKind) (i:Int):ND (S s) (.lit (.int k i))=(atL s i).bind (fun b=>some (.lit (.int .u8 b.toNat),[])):=by
 unfold atL
 by_cases hi:0≤i
 ·simp only [ND,asI,hi,if_true]
  have:(⟨⟨s⟩⟩:ByteArray).data[i.toNat]? =s[i.toNat]? :=by simp
  rw [this]
  cases s[i.toNat]? <;>rfl
 ·simp [ND,asI,hi]
def frO (k:Option Blk) (n:Nat) (b:Blk) (v:V):Option (V×Upd):=match k with
 |none=>br (Nat.blt 0 b.esz) (some (v,[(n,b)])) none
 |some _=>none
theorem kD (b:Blk) (v:V):er h n b v=frO (h n) n b v:=by
 unfold er frO
 cases h n with
 |none=>rw [p5];by_cases hb:0<b.esz<;>simp [hb,br]
 |some k=>simp
theorem MH (b:Blk) (v:V):frO none n b v=br (Nat.blt 0 b.esz) (some (v,[(n,b)])) none:=rfl
theorem Gr (zero:List Value):aa C ow (.alloc zero) ev h n=br (zero.all aq) (frO (h n) n ⟨zero.length,true,[zero.map .lit]⟩ (.ptr n 0 0 1)) none:=by
 simp only [aa,kD]
 cases zero.all aq<;>rfl
def TJ (size:Nat) (cs:List V) (h:ag) (n:Nat):Option (V×Upd):=br (Nat.beq cs.length size&&cs.all V.cell) (frO (h n) n ⟨size,true,[cs]⟩ (.ptr n 0 0 1)) none
theorem UW (size:Nat) (x:Opd):aa C ow (.box size x) ev h n=TJ size (ev x).cells h n:=by
 simp only [aa,kD,TJ,sN]
 by_cases h1:(ev x).cells.length=size<;>cases h2:(ev x).cells.all V.cell<;>simp [h1,br]
def ut (cells:List V):List (Nat×Nat×V)→Option (List V)
 |[]=>some cells
 | (off,size,v)::r=>br (Nat.beq v.cells.length size&&Nat.ble (off+size) cells.length&&v.cells.all V.cell) (ut (cells.take off++(v.cells++cells.drop (off+size))) r) none
theorem xK: ∀(ps:List (Nat×Nat×V)) (cells:List V),rm cells ps=ut cells ps
 |[],_=>rfl
 | (off,size,v)::r,cells=>by
   simp only [rm,ut,sN,tr]
   rw [←xK r]
   by_cases h1:v.cells.length=size<;>by_cases h2:off+size≤cells.length<;>cases h3:v.cells.all V.cell<;>simp [h1,h2,br]
def Sz:Option (List V)→Option (V×Upd)
 |some cs=>some (.agg cs,[])
 |none=>none
theorem Bf (zero:List Value) (ps:List (Nat×Nat×Opd)):aa C ow (.build zero ps) ev h n=br (zero.all aq) (Sz (ut (zero.map .lit) (cx ev ps))) none:=by
 simp only [aa,xK,Sz]
 cases zero.all aq
 ·rfl
 ·simp only [bK,if_true]
  cases ut (zero.map .lit) (cx ev ps)<;>rfl
theorem H3 (cs:List V):Sz (some cs)=some (.agg cs,[]):=rfl
end
end Go.AI
