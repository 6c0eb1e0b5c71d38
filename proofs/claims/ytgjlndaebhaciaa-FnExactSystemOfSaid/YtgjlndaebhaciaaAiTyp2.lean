/- The machine's operations as words over values; what they come to on values of Lean's own types. -/
import Derived.Test.YtgjlndaebhaciaaAiLim
set_option linter.unusedVariables false
set_option linter.unusedSimpArgs false
namespace Go.AI
theorem oJ (a b:Nat):Nat.ble a b=decide (a≤b):=by
 by_cases h0:a≤b
 ·rw [decide_eq_true h0];exact Nat.ble_eq_true_of_le h0
 ·rw [decide_eq_false h0];cases hb:Nat.ble a b with
  |false=>rfl
  |true=>exact absurd (Nat.le_of_ble_eq_true hb) h0
theorem lH (a b:Nat):Nat.blt a b=decide (a<b):=oJ (a+1) b
theorem p6 (a b:Nat):Nat.beq a b=decide (a=b):=by
 by_cases h0:a=b
 ·rw [decide_eq_true h0,h0];exact Nat.beq_refl b
 ·rw [decide_eq_false h0];cases hb:Nat.beq a b with
  |false=>rfl
  |true=>exact absurd (Nat.eq_of_beq_eq_true hb) h0
section
variable {C:aB} {ow:FuncId→List Nat} {ev:Opd→V} {h:ah} {n:Nat} {α:Type} {e:En α} {l:List α}
theorem SI (x:Opd):ae C ow (.mv x) ev h n=some (ev x,[]):=rfl
def IR (c a b:V):Option (V×Upd):=match c with
 | .lit (.bool c)=>br c (some (a,[])) (some (b,[]))
 |_=>none
theorem NO (c a b:Opd):ae C ow (.pick c a b) ev h n=IR (ev c) (ev a) (ev b):=by
 simp only [ae]
 unfold IR
 split
 ·rename_i h;rw [h];rfl
 ·rename_i h;rw [h];rfl
 ·rename_i h1 h2
  split
  ·rename_i c' hc;cases c'
   ·exact absurd hc h2
   ·exact absurd hc h1
  ·rfl
theorem JU (c:Bool) (a b:V):IR (.lit (.bool c)) a b=br c (some (a,[])) (some (b,[])):=rfl
def cS (op:BinOp) (x y:V):Option (V×Upd):=match x,y with
 | .lit a,.lit b=>match bQ op a b with
   |some v=>some (.lit v,[])
   |none=>none
 |_,_=>none
theorem RF (op:BinOp) (x y:Opd):ae C ow (.bin op x y) ev h n=cS op (ev x) (ev y):=rfl
theorem S5 (k:IntKind) (a b:Int):cS .add (.lit (.int k a)) (.lit (.int k b))=some (.lit (.int k (k.wrap (a+b))),[]):=by simp [cS,bQ]
theorem RD (k:IntKind) (a b:Int):cS .sub (.lit (.int k a)) (.lit (.int k b))=some (.lit (.int k (k.wrap (a-b))),[]):=by simp [cS,bQ]
theorem Ru (k:IntKind) (a b:Int):cS .mul (.lit (.int k a)) (.lit (.int k b))=some (.lit (.int k (k.wrap (a*b))),[]):=by simp [cS,bQ]
def nz (b:Int):Bool:=decide (b≠0)
theorem Rp (k:IntKind) (a b:Int):cS .quo (.lit (.int k a)) (.lit (.int k b))=br (nz b) (some (.lit (.int k (k.wrap (a.tdiv b))),[])) none:=by
 by_cases hb:b=0<;>simp [cS,bQ,br,nz,hb]
theorem Se (k:IntKind) (a b:Int):cS .rem (.lit (.int k a)) (.lit (.int k b))=br (nz b) (some (.lit (.int k (a.tmod b)),[])) none:=by
 by_cases hb:b=0<;>simp [cS,bQ,br,nz,hb]
def oz (k:IntKind) (a b:Int):Int:=k.wrap (BitVec.ofInt k.bits a^^^BitVec.ofInt k.bits b).toNat
def pM (k:IntKind) (a b:Int):Int:=k.wrap (BitVec.ofInt k.bits a&&&BitVec.ofInt k.bits b).toNat
def rr (k:IntKind) (a b:Int):Int:=k.wrap (BitVec.ofInt k.bits a|||BitVec.ofInt k.bits b).toNat
def zR (k:IntKind) (a b:Int):Int:=k.wrap (BitVec.ofInt k.bits a&&& ~~~ BitVec.ofInt k.bits b).toNat
def cZ (k:IntKind) (a b:Int):Int:=k.wrap (a*2^(min b.toNat k.bits))
def tl (k:IntKind) (a b:Int):Int:=a.fdiv (2^(min b.toNat k.bits))
theorem Rz (k:IntKind) (a b:Int):cS .and (.lit (.int k a)) (.lit (.int k b))=some (.lit (.int k (pM k a b)),[]):=by simp [cS,bQ,pM]
theorem SE (k:IntKind) (a b:Int):cS .or (.lit (.int k a)) (.lit (.int k b))=some (.lit (.int k (rr k a b)),[]):=by simp [cS,bQ,rr]
theorem Rc (k:IntKind) (a b:Int):cS .xor (.lit (.int k a)) (.lit (.int k b))=some (.lit (.int k (oz k a b)),[]):=by simp [cS,bQ,oz]
theorem Ol (k:IntKind) (a b:Int):cS .andNot (.lit (.int k a)) (.lit (.int k b))=some (.lit (.int k (zR k a b)),[]):=by simp [cS,bQ,zR]
def nn (b:Int):Bool:=decide (0≤b)
theorem RL (k k':IntKind) (a b:Int):cS .shl (.lit (.int k a)) (.lit (.int k' b))=br (nn b) (some (.lit (.int k (cZ k a b)),[])) none:=by
 by_cases hb:0≤b<;>simp [cS,bQ,br,nn,hb,cZ]
theorem S7 (k k':IntKind) (a b:Int):cS .shr (.lit (.int k a)) (.lit (.int k' b))=br (nn b) (some (.lit (.int k (tl k a b)),[])) none:=by
 by_cases hb:0≤b<;>simp [cS,bQ,br,nn,hb,tl]
theorem QS (k:IntKind) (a b:Int):cS .eql (.lit (.int k a)) (.lit (.int k b))=some (.lit (.bool (a==b)),[]):=by simp [cS,bQ]
theorem Sg (k:IntKind) (a b:Int):cS .neq (.lit (.int k a)) (.lit (.int k b))=some (.lit (.bool (a !=b)),[]):=by simp [cS,bQ]
theorem QY (k:IntKind) (a b:Int):cS .lss (.lit (.int k a)) (.lit (.int k b))=some (.lit (.bool (decide (a<b))),[]):=by simp [cS,bQ]
theorem QK (k:IntKind) (a b:Int):cS .leq (.lit (.int k a)) (.lit (.int k b))=some (.lit (.bool (decide (a≤b))),[]):=by simp [cS,bQ]
theorem Rq (k:IntKind) (a b:Int):cS .gtr (.lit (.int k a)) (.lit (.int k b))=some (.lit (.bool (decide (a>b))),[]):=by simp [cS,bQ]
theorem Rk (k:IntKind) (a b:Int):cS .geq (.lit (.int k a)) (.lit (.int k b))=some (.lit (.bool (decide (a≥b))),[]):=by simp [cS,bQ]
theorem vT (a:List UInt8):(⟨⟨a⟩⟩:ByteArray).size=a.length:=rfl
theorem xk (d:ByteArray): ∀(k i:Nat) (r:List UInt8),d.size-i=k→ByteArray.toList.loop d i r=r.reverse++d.data.toList.drop i:=by
 intro k
 induction k with
 |zero=>
  intro i r hk
  unfold ByteArray.toList.loop
  have: ¬i<d.size:=by omega
  simp only [this,if_false]
  rw [List.drop_of_length_le]
  ·simp
  ·show d.data.size≤i
   exact (by omega:d.size≤i)
 |succ k ih=>
  intro i r hk
  unfold ByteArray.toList.loop
  have hlt:i<d.size:=by omega
  simp only [hlt,if_true]
  rw [ih (i+1) _ (by omega)]
  have hl:i<d.data.toList.length:=hlt
  rw [List.drop_eq_getElem_cons hl]
  have h3:i<d.data.size:=hlt
  simp only [ByteArray.get!,getElem!_pos,h3,List.reverse_cons,List.append_assoc,List.singleton_append,Array.getElem_toList]
theorem ux (a:List UInt8):(⟨⟨a⟩⟩:ByteArray).toList=a:=by
 unfold ByteArray.toList
 rw [xk _ _ 0 [] rfl]
 simp
theorem PI (a b:List UInt8):cS .add (S a) (S b)=br (dM (a.length+b.length) 1) (some (S (a++b),[])) none:=by
 have:(⟨⟨a⟩⟩:ByteArray)++⟨⟨b⟩⟩=⟨⟨a++b⟩⟩:=by
  apply ByteArray.ext
  simp [ByteArray.data_append]
 by_cases hb:a.length+b.length≤aK<;>simp [cS,bQ,br,dM,hb,vT,this]
theorem PY (a b:List UInt8):cS .eql (S a) (S b)=some (.lit (.bool (a==b)),[]):=by simp [cS,bQ,ux]
theorem P8 (a b:List UInt8):cS .neq (S a) (S b)=some (.lit (.bool (a !=b)),[]):=by simp [cS,bQ,ux,bne]
def eqS (neg:Bool) (ks:List Bool) (x y:V):Option (V×Upd):=match x,y with
 | .agg a,.agg b=>match bt ks a b with
   |some r=>some (.lit (.bool (if neg then !r else r)),[])
   |none=>none
 |_,_=>none
theorem Ka (neg:Bool) (ks:List Bool) (x y:Opd):ae C ow (.eqAgg neg ks x y) ev h n=eqS neg ks (ev x) (ev y):=rfl
def eqN (neg:Bool):Option Bool→Option (V×Upd)
 |some r=>some (.lit (.bool (if neg then !r else r)),[])
 |none=>none
theorem KY (neg:Bool) (ks:List Bool) (a b:List V):eqS neg ks (.agg a) (.agg b)=eqN neg (bt ks a b):=by
 unfold eqS eqN;rfl
theorem Ro (r:Bool):eqN true (some r)=some (.lit (.bool !r),[]):=rfl
theorem Ri (r:Bool):eqN false (some r)=some (.lit (.bool r),[]):=rfl
theorem NG (neg c:Bool) (x y:Option Bool):eqN neg (br c x y)=br c (eqN neg x) (eqN neg y):=by cases c<;>rfl
theorem LM:bt [] [] []=some true:=rfl
theorem Rl (ks:List Bool) (k:IntKind) (a b:Int) (x y:List V):bt (true::ks) (.lit (.int k a)::x) (.lit (.int k b)::y)=br (a==b) (bt ks x y) (some false):=by
 by_cases hb:a=b
 ·subst hb;simp [bt,bI]
 ·have:(a==b)=false:=by simpa using hb
  rw [this,aZ];simp [bt,hb]
theorem RV (ks:List Bool) (a b:List UInt8) (x y:List V):bt (false::ks) (S a::x) (S b::y)=br (a==b) (bt ks x y) (some false):=by
 by_cases hb:a=b
 ·subst hb;simp [bt,bI]
 ·have:(a==b)=false:=by simpa using hb
  rw [this,aZ];simp [bt,hb]
def OX (neg:Bool) (x y:V):Option (V×Upd):=match x,y with
 | .lit (.bool a),.lit (.bool b)=>some (.lit (.bool (if neg then a !=b else a==b)),[])
 |_,_=>none
theorem QF (neg:Bool) (x y:Opd):ae C ow (.beq neg x y) ev h n=OX neg (ev x) (ev y):=rfl
theorem NL (a b:Bool):OX true (B a) (B b)=some (.lit (.bool (a !=b)),[]):=rfl
theorem O6 (a b:Bool):OX false (B a) (B b)=some (.lit (.bool (a==b)),[]):=rfl
def unS (op:UnOp) (x:V):Option (V×Upd):=match x with
 | .lit a=>match uk op a with
   |some v=>some (.lit v,[])
   |none=>none
 |_=>none
theorem SZ (op:UnOp) (x:Opd):ae C ow (.un op x) ev h n=unS op (ev x):=rfl
theorem Sm (b:Bool):unS .not (B b)=some (B (!b),[]):=rfl
theorem RB (k:IntKind) (a:Int):unS .neg (.lit (.int k a))=some (.lit (.int k (k.wrap (0-a))),[]):=rfl
def QI (k:IntKind) (a:Int):Int:=k.wrap (BitVec.ofInt k.bits (if k.signed then-1 else k.max)^^^BitVec.ofInt k.bits a).toNat
theorem RZ (k:IntKind) (a:Int):unS .xor (.lit (.int k a))=some (.lit (.int k (QI k a)),[]):=rfl
def tiS (k:IntKind) (x:V):Option (V×Upd):=match asI x with
 |some m=>some (.lit (.int k (k.wrap m)),[])
 |none=>none
theorem Kx (k:IntKind) (x:Opd):ae C ow (.toInt k x) ev h n=tiS k (ev x):=rfl
theorem QW (k k':IntKind) (m:Int):tiS k (.lit (.int k' m))=some (.lit (.int k (k.wrap m)),[]):=rfl
def MV (x:V):Option (V×Upd):=match x with
 | .lit (.string s)=>some (.lit (.string s),[])
 |_=>none
theorem Pw (x:Opd):ae C ow (.same x) ev h n=MV (ev x):=rfl
theorem Mv (s:List UInt8):MV (S s)=some (S s,[]):=rfl
theorem zy (f:FuncId) (cs:List Opd):ae C ow (.makeFunc f cs) ev h n=some (.fn f (cs.map ev),[]):=rfl
def AB (str:Bool) (x:V):Option (V×Upd):=match str,x with
 |true,.lit (.string s)=>some (.lit (.int .i64 s.size),[])
 |false,.lit (.slice _ n _)=>some (.lit (.int .i64 n),[])
 |false,.sl _ _ n=>some (.lit (.int .i64 n),[])
 |false,.imm _ rows=>some (.lit (.int .i64 rows.length),[])
 |_,_=>none
theorem RH (str:Bool) (x:Opd):ae C ow (.len str x) ev h n=AB str (ev x):=rfl
theorem Jg:AB false (sl e l)=some (I (l.length:Nat),[]):=by
 rcases cQ e l with ⟨rfl,h⟩|⟨_,h⟩<;>rw [h]<;>simp [AB,rws]
theorem It (b s m:Nat):AB false (.sl b s m)=some (I (m:Nat),[]):=rfl
theorem Ff:AB false (.lit (.slice none 0 0))=some (I (0:Nat),[]):=rfl
theorem FO:AB false (.imm 1 [])=some (I (0:Nat),[]):=rfl
theorem ER (s:List UInt8):AB true (S s)=some (I (s.length:Nat),[]):=rfl
def inS (neg:Bool) (x:V):Option (V×Upd):=match x with
 | .lit (.slice a _ _)=>some (.lit (.bool (if neg then !a.isNone else a.isNone)),[])
 | .imm _ (_::_)=>some (.lit (.bool neg),[])
 |_=>none
theorem Ld (neg:Bool) (x:Opd):ae C ow (.isNil neg x) ev h n=inS neg (ev x):=by
 simp only [ae];unfold inS;rfl
theorem Ms (neg:Bool) (m c:Nat):inS neg (.lit (.slice none m c))=some (B (!neg),[]):=by cases neg<;>rfl
theorem Kz (neg:Bool) (a:Addr) (m c:Nat):inS neg (.lit (.slice (some a) m c))=some (B neg,[]):=by cases neg<;>rfl
theorem ET (neg:Bool) (e:En α) (x:α) (l:List α):inS neg (sl e (x::l))=some (B neg,[]):=rfl
theorem Gh (m:Nat) (x:Opd):ae C ow (.lenArr m x) ev h n=some (I (m:Nat),[]):=rfl
def JD (x:V) (i:Nat):Option (V×Upd):=match x with
 | .tup vs=>match vs[i]? with
   |some v=>some (v,[])
   |none=>none
 |_=>none
theorem Qy (x:Opd) (i:Nat):ae C ow (.ext x i) ev h n=JD (ev x) i:=rfl
theorem Oa (a:V) (r:List V):JD (.tup (a::r)) 0=some (a,[]):=rfl
theorem OB (a:V) (r:List V) (i:Nat):JD (.tup (a::r)) (i+1)=JD (.tup r) i:=rfl
def Pf (d:Nat) (x:V):Option (V×Upd):=match x with
 | .ptr b i o n=>some (.ptr b i (o+d) n,[])
 | .iptr r o=>some (.iptr r (o+d),[])
 |_=>none
theorem QB (d:Nat) (x:Opd):ae C ow (.off d x) ev h n=Pf d (ev x):=rfl
theorem Nu (d b i o m:Nat):Pf d (.ptr b i o m)=some (.ptr b i (o+d) m,[]):=rfl
theorem Pq (d:Nat) (r:List V) (o:Nat):Pf d (.iptr r o)=some (.iptr r (o+d),[]):=rfl
def ldS:Option V→Option (V×Upd)
 |some v=>some (v,[])
 |none=>none
theorem FY (v:V):ldS (some v)=some (v,[]):=rfl
theorem J1 {β:Type} (x:Option β) (f:β→Option V):ldS (x.bind f)=x.bind (fun a=>ldS (f a)):=by cases x<;>rfl
theorem Mp (a:V) (r:List V):part none (a::r) 0=some a:=rfl
theorem Ma (a:V) (r:List V) (o:Nat):part none (a::r) (o+1)=part none r o:=rfl
theorem OV (m:Nat) (cs:List V) (o:Nat) (hm:(o+m).ble cs.length=true):part (some m) cs o=some (.agg ((cs.drop o).take m)):=by
 simp only [part]
 rw [if_pos (Nat.le_of_ble_eq_true hm)]
def EJ (d:Nat) (agg:Option Nat) (x:V):Option (V×Upd):=match x with
 | .agg cs=>match part agg cs d with
   |some v=>some (v,[])
   |none=>none
 |_=>none
theorem LY (d:Nat) (agg:Option Nat) (x:Opd):ae C ow (.field d agg x) ev h n=EJ d agg (ev x):=rfl
theorem Ey (d:Nat) (agg:Option Nat) (cs:List V):EJ d agg (.agg cs)=ldS (part agg cs d):=rfl
def Pj (len esz:Nat) (agg:Option Nat) (x i:V):Option (V×Upd):=match x,asI i with
 | .agg cs,some i=>if 0≤i∧i.toNat<len then (match part agg cs (i.toNat*esz) with
   |some v=>some (v,[])
   |none=>none) else none
 |_,_=>none
theorem LA (len esz:Nat) (agg:Option Nat) (x i:Opd):ae C ow (.ixAgg len esz agg x i) ev h n=Pj len esz agg (ev x) (ev i):=rfl
theorem OD (len esz:Nat) (agg:Option Nat) (cs:List V) (k:IntKind) (i:Int):Pj len esz agg (.agg cs) (.lit (.int k i))=br (inb i len) (ldS (part agg cs (i.toNat*esz))) none:=by
 unfold inb
 by_cases h1:0≤i<;>by_cases h2:i.toNat<len<;>simp [Pj,asI,h1,h2,br,ldS]
def Dn (agg:Option Nat) (k:Option Blk) (i o m:Nat):Option V:=match k with
 |some k=>if k.rows.length=m then (match k.rows[i]? with
  |some row=>part agg row o
  |none=>none) else none
 |none=>none
theorem Qd (agg:Option Nat) (a:Opd):ae C ow (.load agg a) ev h n=ldS (j4 agg h (ev a)):=rfl
theorem L2 (agg:Option Nat) (b i o m:Nat):j4 agg h (.ptr b i o m)=Dn agg (h b) i o m:=rfl
theorem KE (agg:Option Nat) (r:List V) (o:Nat):j4 agg h (.iptr r o)=part agg r o:=rfl
theorem Jk (agg:Option Nat) (m:Nat) (row:List V) (o:Nat):Dn agg (some ⟨m,true,[row]⟩) 0 o 1=part agg row o:=rfl
theorem KR (agg:Option Nat) (m:Nat) (op:Bool) (i o q:Nat) (hq:l.length=q):Dn agg (some ⟨m,op,rws e l⟩) i o q=(l[i]?).bind (fun x=>part agg (e.enc x) o):=by
 simp only [Dn,rws,List.length_map,List.getElem?_map]
 rw [if_pos hq]
 cases l[i]? <;>rfl
def vn (k:Option Blk) (m b s q:Nat) (i:Int):Option (V×Upd):=match k with
 |some k=>if 0<k.esz∧k.esz=m∧s+q=k.rows.length∧i.toNat<q then some (.ptr b (s+i.toNat) 0 k.rows.length,[]) else none
 |none=>none
def yI (m:Nat) (x i:V) (h:ah):Option (V×Upd):=match asI i with
 |some i=>if 0≤i then (match x with
  | .sl b s q=>vn (h b) m b s q i
  | .imm e rows=>if e=m then (match rows[i.toNat]? with
    |some row=>some (.iptr row 0,[])
    |none=>none) else none
  |_=>none) else none
 |none=>none
theorem Rd (m:Nat) (x i:Opd):ae C ow (.idx m x i) ev h n=yI m (ev x) (ev i) h:=by
 simp only [ae,yI,vn]
 cases asI (ev i) with
 |none=>rfl
 |some i=>
  dsimp only
  split
  ·cases ev x with
   |sl b s q=>dsimp only;cases h b<;>rfl
   |_=>rfl
  ·rfl
theorem JE (m:Nat) (hm:e.esz=m) (k:IntKind) (i:Int):yI m (sl e l) (.lit (.int k i)) h=(atL l i).bind (fun x=>some (.iptr (e.enc x) 0,[])):=by
 subst hm
 unfold atL
 by_cases hi:0≤i
 ·rw [if_pos hi]
  rcases cQ e l with ⟨rfl,hs⟩|⟨_,hs⟩
  ·rw [hs];simp [yI,asI]
  ·rw [hs]
   simp only [yI,asI,hi,if_true,rws,List.getElem?_map]
   cases l[i.toNat]? <;>rfl
 ·rw [if_neg hi];simp [yI,asI,hi]
theorem Fk (m b s q:Nat) (k:IntKind) (i:Int):yI m (.sl b s q) (.lit (.int k i)) h=br (nn i) (vn (h b) m b s q i) none:=by
 unfold nn
 by_cases hi:0≤i<;>simp [yI,asI,hi,br]
theorem Mc (m:Nat) (op:Bool) (b q:Nat) (i:Int) (h0:Nat.blt 0 m=true) (hq:l.length=q):vn (some ⟨m,op,rws e l⟩) m b 0 q i=br (decide (i.toNat<q)) (some (.ptr b i.toNat 0 q,[])) none:=by
 have h0:0<m:=by have:=Nat.le_of_ble_eq_true h0;omega
 by_cases hi:i.toNat<q<;>simp [vn,rws,hq,hi,br,h0]
theorem KP (m b:Nat) (row:List V) (i:Int):vn (some ⟨m,true,[row]⟩) m b 0 1 i=br (Nat.blt 0 m&&decide (i.toNat<1)) (some (.ptr b i.toNat 0 1,[])) none:=by
 rw [lH]
 by_cases h0:0<m<;>by_cases hi:i.toNat<1<;>simp [vn,hi,br,h0]
def xz (len esz:Nat) (x i:V):Option (V×Upd):=match asI i with
 |some i=>if 0≤i∧i.toNat<len then (match x with
  | .ptr b j o n=>some (.ptr b j (o+i.toNat*esz) n,[])
  | .iptr r o=>some (.iptr r (o+i.toNat*esz),[])
  |_=>none) else none
 |none=>none
theorem Ic (len esz:Nat) (x i:Opd):ae C ow (.idxArr len esz x i) ev h n=xz len esz (ev x) (ev i):=rfl
theorem Kv (len esz b j o m:Nat) (k:IntKind) (i:Int):xz len esz (.ptr b j o m) (.lit (.int k i))=br (inb i len) (some (.ptr b j (o+i.toNat*esz) m,[])) none:=by
 unfold inb
 by_cases h1:0≤i<;>by_cases h2:i.toNat<len<;>simp [xz,asI,h1,h2,br]
theorem Jt (len esz:Nat) (r:List V) (o:Nat) (k:IntKind) (i:Int):xz len esz (.iptr r o) (.lit (.int k i))=br (inb i len) (some (.iptr r (o+i.toNat*esz),[])) none:=by
 unfold inb
 by_cases h1:0≤i<;>by_cases h2:i.toNat<len<;>simp [xz,asI,h1,h2,br]
def LG (x i:V):Option (V×Upd):=match x,asI i with
 | .lit (.string s),some i=>if 0≤i then (match s.data[i.toNat]? with
   |some b=>some (.lit (.int .u8 b.toNat),[])
   |none=>none) else none
 |_,_=>none
theorem L9 (x i:Opd):ae C ow (.ixStr x i) ev h n=LG (ev x) (ev i):=rfl
theorem PJ (s:List UInt8) (k:IntKind) (i:Int):LG (S s) (.lit (.int k i))=(atL s i).bind (fun b=>some (.lit (.int .u8 b.toNat),[])):=by
 unfold atL
 by_cases hi:0≤i
 ·simp only [LG,asI,hi,if_true]
  have:(⟨⟨s⟩⟩:ByteArray).data[i.toNat]? =s[i.toNat]? :=by simp
  rw [this]
  cases s[i.toNat]? <;>rfl
 ·simp [LG,asI,hi]
def frO (k:Option Blk) (n:Nat) (b:Blk) (v:V):Option (V×Upd):=match k with
 |none=>br (Nat.blt 0 b.esz) (some (v,[(n,b)])) none
 |some _=>none
theorem iX (b:Blk) (v:V):dq h n b v=frO (h n) n b v:=by
 unfold dq frO
 cases h n with
 |none=>rw [lH];by_cases hb:0<b.esz<;>simp [hb,br]
 |some k=>simp
theorem Iw (b:Blk) (v:V):frO none n b v=br (Nat.blt 0 b.esz) (some (v,[(n,b)])) none:=rfl
theorem B3 (zero:List Value):ae C ow (.alloc zero) ev h n=br (zero.all aC) (frO (h n) n ⟨zero.length,true,[zero.map .lit]⟩ (.ptr n 0 0 1)) none:=by
 simp only [ae,iX]
 cases zero.all aC<;>rfl
def Nm (size:Nat) (cs:List V) (h:ah) (n:Nat):Option (V×Upd):=br (Nat.beq cs.length size&&cs.all V.cell) (frO (h n) n ⟨size,true,[cs]⟩ (.ptr n 0 0 1)) none
theorem Sl (size:Nat) (x:Opd):ae C ow (.box size x) ev h n=Nm size (ev x).cells h n:=by
 simp only [ae,iX,Nm,p6]
 by_cases h1:(ev x).cells.length=size<;>cases h2:(ev x).cells.all V.cell<;>simp [h1,br]
def pW (cells:List V):List (Nat×Nat×V)→Option (List V)
 |[]=>some cells
 | (off,size,v)::r=>br (Nat.beq v.cells.length size&&Nat.ble (off+size) cells.length&&v.cells.all V.cell) (pW (cells.take off++(v.cells++cells.drop (off+size))) r) none
theorem rD: ∀(ps:List (Nat×Nat×V)) (cells:List V),nE cells ps=pW cells ps
 |[],_=>rfl
 | (off,size,v)::r,cells=>by
   simp only [nE,pW,p6,oJ]
   rw [←rD r]
   by_cases h1:v.cells.length=size<;>by_cases h2:off+size≤cells.length<;>cases h3:v.cells.all V.cell<;>simp [h1,h2,br]
def NB:Option (List V)→Option (V×Upd)
 |some cs=>some (.agg cs,[])
 |none=>none
theorem v8 (zero:List Value) (ps:List (Nat×Nat×Opd)):ae C ow (.build zero ps) ev h n=br (zero.all aC) (NB (pW (zero.map .lit) (ca ev ps))) none:=by
 simp only [ae,rD,NB]
 cases zero.all aC
 ·rfl
 ·simp only [bI,if_true]
  cases pW (zero.map .lit) (ca ev ps)<;>rfl
theorem CV (cs:List V):NB (some cs)=some (.agg cs,[]):=rfl
end
end Go.AI
