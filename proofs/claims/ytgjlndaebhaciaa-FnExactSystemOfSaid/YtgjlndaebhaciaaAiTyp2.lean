/- The machine's operations as words over values; what they come to on values of Lean's own types. -/
import Derived.Test.YtgjlndaebhaciaaAiLim
set_option linter.unusedVariables false
set_option linter.unusedSimpArgs false
namespace Go.AI
theorem oY (a b:Nat):Nat.ble a b=decide (a≤b):=by
 by_cases h0:a≤b
 ·rw [decide_eq_true h0];exact Nat.ble_eq_true_of_le h0
 ·rw [decide_eq_false h0];cases hb:Nat.ble a b with
  |false=>rfl
  |true=>exact absurd (Nat.le_of_ble_eq_true hb) h0
theorem lI (a b:Nat):Nat.blt a b=decide (a<b):=oY (a+1) b
theorem oQ (a b:Nat):Nat.beq a b=decide (a=b):=by
 by_cases h0:a=b
 ·rw [decide_eq_true h0,h0];exact Nat.beq_refl b
 ·rw [decide_eq_false h0];cases hb:Nat.beq a b with
  |false=>rfl
  |true=>exact absurd (Nat.eq_of_beq_eq_true hb) h0
section
variable {C:aB} {ow:FuncId→List Nat} {ev:Opd→V} {h:ah} {n:Nat} {α:Type} {e:En α} {l:List α}
theorem SK (x:Opd):ae C ow (.mv x) ev h n=some (ev x,[]):=rfl
def Hz (c a b:V):Option (V×Upd):=match c with
 | .lit (.bool c)=>br c (some (a,[])) (some (b,[]))
 |_=>none
theorem Ns (c a b:Opd):ae C ow (.pick c a b) ev h n=Hz (ev c) (ev a) (ev b):=by
 simp only [ae]
 unfold Hz
 split
 ·rename_i h;rw [h];rfl
 ·rename_i h;rw [h];rfl
 ·rename_i h1 h2
  split
  ·rename_i c' hc;cases c'
   ·exact absurd hc h2
   ·exact absurd hc h1
  ·rfl
theorem JP (c:Bool) (a b:V):Hz (.lit (.bool c)) a b=br c (some (a,[])) (some (b,[])):=rfl
def cW (op:BinOp) (x y:V):Option (V×Upd):=match x,y with
 | .lit a,.lit b=>match bR op a b with
   |some v=>some (.lit v,[])
   |none=>none
 |_,_=>none
theorem R9 (op:BinOp) (x y:Opd):ae C ow (.bin op x y) ev h n=cW op (ev x) (ev y):=rfl
theorem RT (k:IntKind) (a b:Int):cW .add (.lit (.int k a)) (.lit (.int k b))=some (.lit (.int k (k.wrap (a+b))),[]):=by simp [cW,bR]
theorem Ri (k:IntKind) (a b:Int):cW .sub (.lit (.int k a)) (.lit (.int k b))=some (.lit (.int k (k.wrap (a-b))),[]):=by simp [cW,bR]
theorem QN (k:IntKind) (a b:Int):cW .mul (.lit (.int k a)) (.lit (.int k b))=some (.lit (.int k (k.wrap (a*b))),[]):=by simp [cW,bR]
def nz (b:Int):Bool:=decide (b≠0)
theorem R4 (k:IntKind) (a b:Int):cW .quo (.lit (.int k a)) (.lit (.int k b))=br (nz b) (some (.lit (.int k (k.wrap (a.tdiv b))),[])) none:=by
 by_cases hb:b=0<;>simp [cW,bR,br,nz,hb]
theorem S6 (k:IntKind) (a b:Int):cW .rem (.lit (.int k a)) (.lit (.int k b))=br (nz b) (some (.lit (.int k (a.tmod b)),[])) none:=by
 by_cases hb:b=0<;>simp [cW,bR,br,nz,hb]
def pc (k:IntKind) (a b:Int):Int:=k.wrap (BitVec.ofInt k.bits a^^^BitVec.ofInt k.bits b).toNat
def qp (k:IntKind) (a b:Int):Int:=k.wrap (BitVec.ofInt k.bits a&&&BitVec.ofInt k.bits b).toNat
def sA (k:IntKind) (a b:Int):Int:=k.wrap (BitVec.ofInt k.bits a|||BitVec.ofInt k.bits b).toNat
def AO (k:IntKind) (a b:Int):Int:=k.wrap (BitVec.ofInt k.bits a&&& ~~~ BitVec.ofInt k.bits b).toNat
def da (k:IntKind) (a b:Int):Int:=k.wrap (a*2^(min b.toNat k.bits))
def sv (k:IntKind) (a b:Int):Int:=a.fdiv (2^(min b.toNat k.bits))
theorem QH (k:IntKind) (a b:Int):cW .and (.lit (.int k a)) (.lit (.int k b))=some (.lit (.int k (qp k a b)),[]):=by simp [cW,bR,qp]
theorem SF (k:IntKind) (a b:Int):cW .or (.lit (.int k a)) (.lit (.int k b))=some (.lit (.int k (sA k a b)),[]):=by simp [cW,bR,sA]
theorem R2 (k:IntKind) (a b:Int):cW .xor (.lit (.int k a)) (.lit (.int k b))=some (.lit (.int k (pc k a b)),[]):=by simp [cW,bR,pc]
theorem OP (k:IntKind) (a b:Int):cW .andNot (.lit (.int k a)) (.lit (.int k b))=some (.lit (.int k (AO k a b)),[]):=by simp [cW,bR,AO]
def nn (b:Int):Bool:=decide (0≤b)
theorem RI (k k':IntKind) (a b:Int):cW .shl (.lit (.int k a)) (.lit (.int k' b))=br (nn b) (some (.lit (.int k (da k a b)),[])) none:=by
 by_cases hb:0≤b<;>simp [cW,bR,br,nn,hb,da]
theorem QI (k k':IntKind) (a b:Int):cW .shr (.lit (.int k a)) (.lit (.int k' b))=br (nn b) (some (.lit (.int k (sv k a b)),[])) none:=by
 by_cases hb:0≤b<;>simp [cW,bR,br,nn,hb,sv]
theorem RQ (k:IntKind) (a b:Int):cW .eql (.lit (.int k a)) (.lit (.int k b))=some (.lit (.bool (a==b)),[]):=by simp [cW,bR]
theorem QJ (k:IntKind) (a b:Int):cW .neq (.lit (.int k a)) (.lit (.int k b))=some (.lit (.bool (a !=b)),[]):=by simp [cW,bR]
theorem R5 (k:IntKind) (a b:Int):cW .lss (.lit (.int k a)) (.lit (.int k b))=some (.lit (.bool (decide (a<b))),[]):=by simp [cW,bR]
theorem Sn (k:IntKind) (a b:Int):cW .leq (.lit (.int k a)) (.lit (.int k b))=some (.lit (.bool (decide (a≤b))),[]):=by simp [cW,bR]
theorem RF (k:IntKind) (a b:Int):cW .gtr (.lit (.int k a)) (.lit (.int k b))=some (.lit (.bool (decide (a>b))),[]):=by simp [cW,bR]
theorem QR (k:IntKind) (a b:Int):cW .geq (.lit (.int k a)) (.lit (.int k b))=some (.lit (.bool (decide (a≥b))),[]):=by simp [cW,bR]
theorem vz (a:List UInt8):(⟨⟨a⟩⟩:ByteArray).size=a.length:=rfl
theorem xD (d:ByteArray): ∀(k i:Nat) (r:List UInt8),d.size-i=k→ByteArray.toList.loop d i r=r.reverse++d.data.toList.drop i:=by
 intro k
 induction k with
 |zero=>
  intro i r hk
  unfold ByteArray.toList.loop
  have: ¬i<d.size:=by omega
  simp only [this,if_false]
  rw [List.drop_of_length_le]
  ·simp
  ·show d.data.size≤i
   exact (by omega:d.size≤i)
 |succ k ih=>
  intro i r hk
  unfold ByteArray.toList.loop
  have hlt:i<d.size:=by omega
  simp only [hlt,if_true]
  rw [ih (i+1) _ (by omega)]
  have hl:i<d.data.toList.length:=hlt
  rw [List.drop_eq_getElem_cons hl]
  have h3:i<d.data.size:=hlt
  simp only [ByteArray.get!,getElem!_pos,h3,List.reverse_cons,List.append_assoc,List.singleton_append,Array.getElem_toList]
theorem uu (a:List UInt8):(⟨⟨a⟩⟩:ByteArray).toList=a:=by
 unfold ByteArray.toList
 rw [xD _ _ 0 [] rfl]
 simp
theorem Oj (a b:List UInt8):cW .add (S a) (S b)=br (dP (a.length+b.length) 1) (some (S (a++b),[])) none:=by
 have:(⟨⟨a⟩⟩:ByteArray)++⟨⟨b⟩⟩=⟨⟨a++b⟩⟩:=by
  apply ByteArray.ext
  simp [ByteArray.data_append]
 by_cases hb:a.length+b.length≤aK<;>simp [cW,bR,br,dP,hb,vz,this]
theorem Pt (a b:List UInt8):cW .eql (S a) (S b)=some (.lit (.bool (a==b)),[]):=by simp [cW,bR,uu]
theorem Nh (a b:List UInt8):cW .neq (S a) (S b)=some (.lit (.bool (a !=b)),[]):=by simp [cW,bR,uu,bne]
def eqS (neg:Bool) (ks:List Bool) (x y:V):Option (V×Upd):=match x,y with
 | .agg a,.agg b=>match bu ks a b with
   |some r=>some (.lit (.bool (if neg then !r else r)),[])
   |none=>none
 |_,_=>none
theorem LC (neg:Bool) (ks:List Bool) (x y:Opd):ae C ow (.eqAgg neg ks x y) ev h n=eqS neg ks (ev x) (ev y):=rfl
def eqN (neg:Bool):Option Bool→Option (V×Upd)
 |some r=>some (.lit (.bool (if neg then !r else r)),[])
 |none=>none
theorem La (neg:Bool) (ks:List Bool) (a b:List V):eqS neg ks (.agg a) (.agg b)=eqN neg (bu ks a b):=by
 unfold eqS eqN;rfl
theorem Ry (r:Bool):eqN true (some r)=some (.lit (.bool !r),[]):=rfl
theorem Sq (r:Bool):eqN false (some r)=some (.lit (.bool r),[]):=rfl
theorem N9 (neg c:Bool) (x y:Option Bool):eqN neg (br c x y)=br c (eqN neg x) (eqN neg y):=by cases c<;>rfl
theorem Lm:bu [] [] []=some true:=rfl
theorem Rr (ks:List Bool) (k:IntKind) (a b:Int) (x y:List V):bu (true::ks) (.lit (.int k a)::x) (.lit (.int k b)::y)=br (a==b) (bu ks x y) (some false):=by
 by_cases hb:a=b
 ·subst hb;simp [bu,bH]
 ·have:(a==b)=false:=by simpa using hb
  rw [this,aX];simp [bu,hb]
theorem Sh (ks:List Bool) (a b:List UInt8) (x y:List V):bu (false::ks) (S a::x) (S b::y)=br (a==b) (bu ks x y) (some false):=by
 by_cases hb:a=b
 ·subst hb;simp [bu,bH]
 ·have:(a==b)=false:=by simpa using hb
  rw [this,aX];simp [bu,hb]
def PP (neg:Bool) (x y:V):Option (V×Upd):=match x,y with
 | .lit (.bool a),.lit (.bool b)=>some (.lit (.bool (if neg then a !=b else a==b)),[])
 |_,_=>none
theorem Rj (neg:Bool) (x y:Opd):ae C ow (.beq neg x y) ev h n=PP neg (ev x) (ev y):=rfl
theorem NB (a b:Bool):PP true (B a) (B b)=some (.lit (.bool (a !=b)),[]):=rfl
theorem Q2 (a b:Bool):PP false (B a) (B b)=some (.lit (.bool (a==b)),[]):=rfl
def unS (op:UnOp) (x:V):Option (V×Upd):=match x with
 | .lit a=>match uh op a with
   |some v=>some (.lit v,[])
   |none=>none
 |_=>none
theorem SH (op:UnOp) (x:Opd):ae C ow (.un op x) ev h n=unS op (ev x):=rfl
theorem QD (b:Bool):unS .not (B b)=some (B (!b),[]):=rfl
theorem R8 (k:IntKind) (a:Int):unS .neg (.lit (.int k a))=some (.lit (.int k (k.wrap (0-a))),[]):=rfl
def Sa (k:IntKind) (a:Int):Int:=k.wrap (BitVec.ofInt k.bits (if k.signed then-1 else k.max)^^^BitVec.ofInt k.bits a).toNat
theorem RP (k:IntKind) (a:Int):unS .xor (.lit (.int k a))=some (.lit (.int k (Sa k a)),[]):=rfl
def tiS (k:IntKind) (x:V):Option (V×Upd):=match asI x with
 |some m=>some (.lit (.int k (k.wrap m)),[])
 |none=>none
theorem LQ (k:IntKind) (x:Opd):ae C ow (.toInt k x) ev h n=tiS k (ev x):=rfl
theorem QX (k k':IntKind) (m:Int):tiS k (.lit (.int k' m))=some (.lit (.int k (k.wrap m)),[]):=rfl
def MU (x:V):Option (V×Upd):=match x with
 | .lit (.string s)=>some (.lit (.string s),[])
 |_=>none
theorem PC (x:Opd):ae C ow (.same x) ev h n=MU (ev x):=rfl
theorem MA (s:List UInt8):MU (S s)=some (S s,[]):=rfl
theorem zL (f:FuncId) (cs:List Opd):ae C ow (.makeFunc f cs) ev h n=some (.fn f (cs.map ev),[]):=rfl
def Ar (str:Bool) (x:V):Option (V×Upd):=match str,x with
 |true,.lit (.string s)=>some (.lit (.int .i64 s.size),[])
 |false,.lit (.slice _ n _)=>some (.lit (.int .i64 n),[])
 |false,.sl _ _ n=>some (.lit (.int .i64 n),[])
 |false,.imm _ rows=>some (.lit (.int .i64 rows.length),[])
 |_,_=>none
theorem RY (str:Bool) (x:Opd):ae C ow (.len str x) ev h n=Ar str (ev x):=rfl
theorem Lq:Ar false (sl e l)=some (I (l.length:Nat),[]):=by
 rcases cX e l with ⟨rfl,h⟩|⟨_,h⟩<;>rw [h]<;>simp [Ar,rws]
theorem GY (b s m:Nat):Ar false (.sl b s m)=some (I (m:Nat),[]):=rfl
theorem Hk:Ar false (.lit (.slice none 0 0))=some (I (0:Nat),[]):=rfl
theorem FS:Ar false (.imm 1 [])=some (I (0:Nat),[]):=rfl
theorem EK (s:List UInt8):Ar true (S s)=some (I (s.length:Nat),[]):=rfl
def inS (neg:Bool) (x:V):Option (V×Upd):=match x with
 | .lit (.slice a _ _)=>some (.lit (.bool (if neg then !a.isNone else a.isNone)),[])
 | .imm _ (_::_)=>some (.lit (.bool neg),[])
 |_=>none
theorem JK (neg:Bool) (x:Opd):ae C ow (.isNil neg x) ev h n=inS neg (ev x):=by
 simp only [ae];unfold inS;rfl
theorem Lx (neg:Bool) (m c:Nat):inS neg (.lit (.slice none m c))=some (B (!neg),[]):=by cases neg<;>rfl
theorem MD (neg:Bool) (a:Addr) (m c:Nat):inS neg (.lit (.slice (some a) m c))=some (B neg,[]):=by cases neg<;>rfl
theorem IJ (neg:Bool) (e:En α) (x:α) (l:List α):inS neg (sl e (x::l))=some (B neg,[]):=rfl
theorem Gn (m:Nat) (x:Opd):ae C ow (.lenArr m x) ev h n=some (I (m:Nat),[]):=rfl
def Lu (x:V) (i:Nat):Option (V×Upd):=match x with
 | .tup vs=>match vs[i]? with
   |some v=>some (v,[])
   |none=>none
 |_=>none
theorem RW (x:Opd) (i:Nat):ae C ow (.ext x i) ev h n=Lu (ev x) i:=rfl
theorem Ou (a:V) (r:List V):Lu (.tup (a::r)) 0=some (a,[]):=rfl
theorem PA (a:V) (r:List V) (i:Nat):Lu (.tup (a::r)) (i+1)=Lu (.tup r) i:=rfl
def Pd (d:Nat) (x:V):Option (V×Upd):=match x with
 | .ptr b i o n=>some (.ptr b i (o+d) n,[])
 | .iptr r o=>some (.iptr r (o+d),[])
 |_=>none
theorem Rg (d:Nat) (x:Opd):ae C ow (.off d x) ev h n=Pd d (ev x):=rfl
theorem PN (d b i o m:Nat):Pd d (.ptr b i o m)=some (.ptr b i (o+d) m,[]):=rfl
theorem OW (d:Nat) (r:List V) (o:Nat):Pd d (.iptr r o)=some (.iptr r (o+d),[]):=rfl
def ldS:Option V→Option (V×Upd)
 |some v=>some (v,[])
 |none=>none
theorem IG (v:V):ldS (some v)=some (v,[]):=rfl
theorem HX {β:Type} (x:Option β) (f:β→Option V):ldS (x.bind f)=x.bind (fun a=>ldS (f a)):=by cases x<;>rfl
theorem Ll (a:V) (r:List V):part none (a::r) 0=some a:=rfl
theorem Kq (a:V) (r:List V) (o:Nat):part none (a::r) (o+1)=part none r o:=rfl
theorem Nr (m:Nat) (cs:List V) (o:Nat) (hm:(o+m).ble cs.length=true):part (some m) cs o=some (.agg ((cs.drop o).take m)):=by
 simp only [part]
 rw [if_pos (Nat.le_of_ble_eq_true hm)]
def Gs (d:Nat) (agg:Option Nat) (x:V):Option (V×Upd):=match x with
 | .agg cs=>match part agg cs d with
   |some v=>some (v,[])
   |none=>none
 |_=>none
theorem JV (d:Nat) (agg:Option Nat) (x:Opd):ae C ow (.field d agg x) ev h n=Gs d agg (ev x):=rfl
theorem IA (d:Nat) (agg:Option Nat) (cs:List V):Gs d agg (.agg cs)=ldS (part agg cs d):=rfl
def Q5 (len esz:Nat) (agg:Option Nat) (x i:V):Option (V×Upd):=match x,asI i with
 | .agg cs,some i=>if 0≤i∧i.toNat<len then (match part agg cs (i.toNat*esz) with
   |some v=>some (v,[])
   |none=>none) else none
 |_,_=>none
theorem Mj (len esz:Nat) (agg:Option Nat) (x i:Opd):ae C ow (.ixAgg len esz agg x i) ev h n=Q5 len esz agg (ev x) (ev i):=rfl
theorem Ql (len esz:Nat) (agg:Option Nat) (cs:List V) (k:IntKind) (i:Int):Q5 len esz agg (.agg cs) (.lit (.int k i))=br (inb i len) (ldS (part agg cs (i.toNat*esz))) none:=by
 unfold inb
 by_cases h1:0≤i<;>by_cases h2:i.toNat<len<;>simp [Q5,asI,h1,h2,br,ldS]
def DR (agg:Option Nat) (k:Option Blk) (i o m:Nat):Option V:=match k with
 |some k=>if k.rows.length=m then (match k.rows[i]? with
  |some row=>part agg row o
  |none=>none) else none
 |none=>none
theorem P7 (agg:Option Nat) (a:Opd):ae C ow (.load agg a) ev h n=ldS (iY agg h (ev a)):=rfl
theorem MO (agg:Option Nat) (b i o m:Nat):iY agg h (.ptr b i o m)=DR agg (h b) i o m:=rfl
theorem Ma (agg:Option Nat) (r:List V) (o:Nat):iY agg h (.iptr r o)=part agg r o:=rfl
theorem KK (agg:Option Nat) (m:Nat) (row:List V) (o:Nat):DR agg (some ⟨m,true,[row]⟩) 0 o 1=part agg row o:=rfl
theorem Lb (agg:Option Nat) (m:Nat) (op:Bool) (i o q:Nat) (hq:l.length=q):DR agg (some ⟨m,op,rws e l⟩) i o q=(l[i]?).bind (fun x=>part agg (e.enc x) o):=by
 simp only [DR,rws,List.length_map,List.getElem?_map]
 rw [if_pos hq]
 cases l[i]? <;>rfl
def wj (k:Option Blk) (m b s q:Nat) (i:Int):Option (V×Upd):=match k with
 |some k=>if 0<k.esz∧k.esz=m∧s+q=k.rows.length∧i.toNat<q then some (.ptr b (s+i.toNat) 0 k.rows.length,[]) else none
 |none=>none
def xV (m:Nat) (x i:V) (h:ah):Option (V×Upd):=match asI i with
 |some i=>if 0≤i then (match x with
  | .sl b s q=>wj (h b) m b s q i
  | .imm e rows=>if e=m then (match rows[i.toNat]? with
    |some row=>some (.iptr row 0,[])
    |none=>none) else none
  |_=>none) else none
 |none=>none
theorem S7 (m:Nat) (x i:Opd):ae C ow (.idx m x i) ev h n=xV m (ev x) (ev i) h:=by
 simp only [ae,xV,wj]
 cases asI (ev i) with
 |none=>rfl
 |some i=>
  dsimp only
  split
  ·cases ev x with
   |sl b s q=>dsimp only;cases h b<;>rfl
   |_=>rfl
  ·rfl
theorem LF (m:Nat) (hm:e.esz=m) (k:IntKind) (i:Int):xV m (sl e l) (.lit (.int k i)) h=(atL l i).bind (fun x=>some (.iptr (e.enc x) 0,[])):=by
 subst hm
 unfold atL
 by_cases hi:0≤i
 ·rw [if_pos hi]
  rcases cX e l with ⟨rfl,hs⟩|⟨_,hs⟩
  ·rw [hs];simp [xV,asI]
  ·rw [hs]
   simp only [xV,asI,hi,if_true,rws,List.getElem?_map]
   cases l[i.toNat]? <;>rfl
 ·rw [if_neg hi];simp [xV,asI,hi]
theorem GA (m b s q:Nat) (k:IntKind) (i:Int):xV m (.sl b s q) (.lit (.int k i)) h=br (nn i) (wj (h b) m b s q i) none:=by
 unfold nn
 by_cases hi:0≤i<;>simp [xV,asI,hi,br]
theorem JI (m:Nat) (op:Bool) (b q:Nat) (i:Int) (h0:Nat.blt 0 m=true) (hq:l.length=q):wj (some ⟨m,op,rws e l⟩) m b 0 q i=br (decide (i.toNat<q)) (some (.ptr b i.toNat 0 q,[])) none:=by
 have h0:0<m:=by have:=Nat.le_of_ble_eq_true h0;omega
 by_cases hi:i.toNat<q<;>simp [wj,rws,hq,hi,br,h0]
theorem JH (m b:Nat) (row:List V) (i:Int):wj (some ⟨m,true,[row]⟩) m b 0 1 i=br (Nat.blt 0 m&&decide (i.toNat<1)) (some (.ptr b i.toNat 0 1,[])) none:=by
 rw [lI]
 by_cases h0:0<m<;>by_cases hi:i.toNat<1<;>simp [wj,hi,br,h0]
def ye (len esz:Nat) (x i:V):Option (V×Upd):=match asI i with
 |some i=>if 0≤i∧i.toNat<len then (match x with
  | .ptr b j o n=>some (.ptr b j (o+i.toNat*esz) n,[])
  | .iptr r o=>some (.iptr r (o+i.toNat*esz),[])
  |_=>none) else none
 |none=>none
theorem EW (len esz:Nat) (x i:Opd):ae C ow (.idxArr len esz x i) ev h n=ye len esz (ev x) (ev i):=rfl
theorem Mx (len esz b j o m:Nat) (k:IntKind) (i:Int):ye len esz (.ptr b j o m) (.lit (.int k i))=br (inb i len) (some (.ptr b j (o+i.toNat*esz) m,[])) none:=by
 unfold inb
 by_cases h1:0≤i<;>by_cases h2:i.toNat<len<;>simp [ye,asI,h1,h2,br]
theorem LZ (len esz:Nat) (r:List V) (o:Nat) (k:IntKind) (i:Int):ye len esz (.iptr r o) (.lit (.int k i))=br (inb i len) (some (.iptr r (o+i.toNat*esz),[])) none:=by
 unfold inb
 by_cases h1:0≤i<;>by_cases h2:i.toNat<len<;>simp [ye,asI,h1,h2,br]
def Kd (x i:V):Option (V×Upd):=match x,asI i with
 | .lit (.string s),some i=>if 0≤i then (match s.data[i.toNat]? with
   |some b=>some (.lit (.int .u8 b.toNat),[])
   |none=>none) else none
 |_,_=>none
theorem J9 (x i:Opd):ae C ow (.ixStr x i) ev h n=Kd (ev x) (ev i):=rfl
theorem PE (s:List UInt8) (k:IntKind) (i:Int):Kd (S s) (.lit (.int k i))=(atL s i).bind (fun b=>some (.lit (.int .u8 b.toNat),[])):=by
 unfold atL
 by_cases hi:0≤i
 ·simp only [Kd,asI,hi,if_true]
  have:(⟨⟨s⟩⟩:ByteArray).data[i.toNat]? =s[i.toNat]? :=by simp
  rw [this]
  cases s[i.toNat]? <;>rfl
 ·simp [Kd,asI,hi]
def frO (k:Option Blk) (n:Nat) (b:Blk) (v:V):Option (V×Upd):=match k with
 |none=>br (Nat.blt 0 b.esz) (some (v,[(n,b)])) none
 |some _=>none
theorem iV (b:Blk) (v:V):dn h n b v=frO (h n) n b v:=by
 unfold dn frO
 cases h n with
 |none=>rw [lI];by_cases hb:0<b.esz<;>simp [hb,br]
 |some k=>simp
theorem HZ (b:Blk) (v:V):frO none n b v=br (Nat.blt 0 b.esz) (some (v,[(n,b)])) none:=rfl
theorem Bs (zero:List Value):ae C ow (.alloc zero) ev h n=br (zero.all aC) (frO (h n) n ⟨zero.length,true,[zero.map .lit]⟩ (.ptr n 0 0 1)) none:=by
 simp only [ae,iV]
 cases zero.all aC<;>rfl
def Nt (size:Nat) (cs:List V) (h:ah) (n:Nat):Option (V×Upd):=br (Nat.beq cs.length size&&cs.all V.cell) (frO (h n) n ⟨size,true,[cs]⟩ (.ptr n 0 0 1)) none
theorem S9 (size:Nat) (x:Opd):ae C ow (.box size x) ev h n=Nt size (ev x).cells h n:=by
 simp only [ae,iV,Nt,oQ]
 by_cases h1:(ev x).cells.length=size<;>cases h2:(ev x).cells.all V.cell<;>simp [h1,br]
def pQ (cells:List V):List (Nat×Nat×V)→Option (List V)
 |[]=>some cells
 | (off,size,v)::r=>br (Nat.beq v.cells.length size&&Nat.ble (off+size) cells.length&&v.cells.all V.cell) (pQ (cells.take off++(v.cells++cells.drop (off+size))) r) none
theorem s7: ∀(ps:List (Nat×Nat×V)) (cells:List V),ny cells ps=pQ cells ps
 |[],_=>rfl
 | (off,size,v)::r,cells=>by
   simp only [ny,pQ,oQ,oY]
   rw [←s7 r]
   by_cases h1:v.cells.length=size<;>by_cases h2:off+size≤cells.length<;>cases h3:v.cells.all V.cell<;>simp [h1,h2,br]
def Nv:Option (List V)→Option (V×Upd)
 |some cs=>some (.agg cs,[])
 |none=>none
theorem uQ (zero:List Value) (ps:List (Nat×Nat×Opd)):ae C ow (.build zero ps) ev h n=br (zero.all aC) (Nv (pQ (zero.map .lit) (ca ev ps))) none:=by
 simp only [ae,s7,Nv]
 cases zero.all aC
 ·rfl
 ·simp only [bH,if_true]
  cases pQ (zero.map .lit) (ca ev ps)<;>rfl
theorem E4 (cs:List V):Nv (some cs)=some (.agg cs,[]):=rfl
end
end Go.AI
