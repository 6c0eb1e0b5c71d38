/- The machine's operations as words over values; what they come to on values of Lean's own types. -/
import Derived.Test.YtgjlndaebhaciaaAiLim
set_option linter.unusedVariables false
set_option linter.unusedSimpArgs false
namespace Go.AI
theorem oB (a b:Nat):Nat.ble a b=decide (a≤b):=by
 by_cases h0:a≤b
 ·rw [decide_eq_true h0];exact Nat.ble_eq_true_of_le h0
 ·rw [decide_eq_false h0];cases hb:Nat.ble a b with
  |false=>rfl
  |true=>exact absurd (Nat.le_of_ble_eq_true hb) h0
theorem lK (a b:Nat):Nat.blt a b=decide (a<b):=oB (a+1) b
theorem oI (a b:Nat):Nat.beq a b=decide (a=b):=by
 by_cases h0:a=b
 ·rw [decide_eq_true h0,h0];exact Nat.beq_refl b
 ·rw [decide_eq_false h0];cases hb:Nat.beq a b with
  |false=>rfl
  |true=>exact absurd (Nat.eq_of_beq_eq_true hb) h0
section
variable {C:aB} {ow:FuncId→List Nat} {ev:Opd→V} {h:ah} {n:Nat} {α:Type} {e:En α} {l:List α}
theorem SJ (x:Opd):ae C ow (.mv x) ev h n=some (ev x,[]):=rfl
def FQ (c a b:V):Option (V×Upd):=match c with
 | .lit (.bool c)=>br c (some (a,[])) (some (b,[]))
 |_=>none
theorem OI (c a b:Opd):ae C ow (.pick c a b) ev h n=FQ (ev c) (ev a) (ev b):=by
 simp only [ae]
 unfold FQ
 split
 ·rename_i h;rw [h];rfl
 ·rename_i h;rw [h];rfl
 ·rename_i h1 h2
  split
  ·rename_i c' hc;cases c'
   ·exact absurd hc h2
   ·exact absurd hc h1
  ·rfl
theorem Lu (c:Bool) (a b:V):FQ (.lit (.bool c)) a b=br c (some (a,[])) (some (b,[])):=rfl
def cV (op:BinOp) (x y:V):Option (V×Upd):=match x,y with
 | .lit a,.lit b=>match bR op a b with
   |some v=>some (.lit v,[])
   |none=>none
 |_,_=>none
theorem QR (op:BinOp) (x y:Opd):ae C ow (.bin op x y) ev h n=cV op (ev x) (ev y):=rfl
theorem QQ (k:IntKind) (a b:Int):cV .add (.lit (.int k a)) (.lit (.int k b))=some (.lit (.int k (k.wrap (a+b))),[]):=by simp [cV,bR]
theorem R5 (k:IntKind) (a b:Int):cV .sub (.lit (.int k a)) (.lit (.int k b))=some (.lit (.int k (k.wrap (a-b))),[]):=by simp [cV,bR]
theorem QY (k:IntKind) (a b:Int):cV .mul (.lit (.int k a)) (.lit (.int k b))=some (.lit (.int k (k.wrap (a*b))),[]):=by simp [cV,bR]
def nz (b:Int):Bool:=decide (b≠0)
theorem RF (k:IntKind) (a b:Int):cV .quo (.lit (.int k a)) (.lit (.int k b))=br (nz b) (some (.lit (.int k (k.wrap (a.tdiv b))),[])) none:=by
 by_cases hb:b=0<;>simp [cV,bR,br,nz,hb]
theorem Sj (k:IntKind) (a b:Int):cV .rem (.lit (.int k a)) (.lit (.int k b))=br (nz b) (some (.lit (.int k (a.tmod b)),[])) none:=by
 by_cases hb:b=0<;>simp [cV,bR,br,nz,hb]
def ox (k:IntKind) (a b:Int):Int:=k.wrap (BitVec.ofInt k.bits a^^^BitVec.ofInt k.bits b).toNat
def pK (k:IntKind) (a b:Int):Int:=k.wrap (BitVec.ofInt k.bits a&&&BitVec.ofInt k.bits b).toNat
def sc (k:IntKind) (a b:Int):Int:=k.wrap (BitVec.ofInt k.bits a|||BitVec.ofInt k.bits b).toNat
def zR (k:IntKind) (a b:Int):Int:=k.wrap (BitVec.ofInt k.bits a&&& ~~~ BitVec.ofInt k.bits b).toNat
def cZ (k:IntKind) (a b:Int):Int:=k.wrap (a*2^(min b.toNat k.bits))
def sj (k:IntKind) (a b:Int):Int:=a.fdiv (2^(min b.toNat k.bits))
theorem Rh (k:IntKind) (a b:Int):cV .and (.lit (.int k a)) (.lit (.int k b))=some (.lit (.int k (pK k a b)),[]):=by simp [cV,bR,pK]
theorem SQ (k:IntKind) (a b:Int):cV .or (.lit (.int k a)) (.lit (.int k b))=some (.lit (.int k (sc k a b)),[]):=by simp [cV,bR,sc]
theorem R4 (k:IntKind) (a b:Int):cV .xor (.lit (.int k a)) (.lit (.int k b))=some (.lit (.int k (ox k a b)),[]):=by simp [cV,bR,ox]
theorem Pl (k:IntKind) (a b:Int):cV .andNot (.lit (.int k a)) (.lit (.int k b))=some (.lit (.int k (zR k a b)),[]):=by simp [cV,bR,zR]
def nn (b:Int):Bool:=decide (0≤b)
theorem Se (k k':IntKind) (a b:Int):cV .shl (.lit (.int k a)) (.lit (.int k' b))=br (nn b) (some (.lit (.int k (cZ k a b)),[])) none:=by
 by_cases hb:0≤b<;>simp [cV,bR,br,nn,hb,cZ]
theorem RY (k k':IntKind) (a b:Int):cV .shr (.lit (.int k a)) (.lit (.int k' b))=br (nn b) (some (.lit (.int k (sj k a b)),[])) none:=by
 by_cases hb:0≤b<;>simp [cV,bR,br,nn,hb,sj]
theorem Ra (k:IntKind) (a b:Int):cV .eql (.lit (.int k a)) (.lit (.int k b))=some (.lit (.bool (a==b)),[]):=by simp [cV,bR]
theorem Ro (k:IntKind) (a b:Int):cV .neq (.lit (.int k a)) (.lit (.int k b))=some (.lit (.bool (a !=b)),[]):=by simp [cV,bR]
theorem S8 (k:IntKind) (a b:Int):cV .lss (.lit (.int k a)) (.lit (.int k b))=some (.lit (.bool (decide (a<b))),[]):=by simp [cV,bR]
theorem R1 (k:IntKind) (a b:Int):cV .leq (.lit (.int k a)) (.lit (.int k b))=some (.lit (.bool (decide (a≤b))),[]):=by simp [cV,bR]
theorem Sc (k:IntKind) (a b:Int):cV .gtr (.lit (.int k a)) (.lit (.int k b))=some (.lit (.bool (decide (a>b))),[]):=by simp [cV,bR]
theorem RL (k:IntKind) (a b:Int):cV .geq (.lit (.int k a)) (.lit (.int k b))=some (.lit (.bool (decide (a≥b))),[]):=by simp [cV,bR]
theorem vZ (a:List UInt8):(⟨⟨a⟩⟩:ByteArray).size=a.length:=rfl
theorem xG (d:ByteArray): ∀(k i:Nat) (r:List UInt8),d.size-i=k→ByteArray.toList.loop d i r=r.reverse++d.data.toList.drop i:=by
 intro k
 induction k with
 |zero=>
  intro i r hk
  unfold ByteArray.toList.loop
  have: ¬i<d.size:=by omega
  simp only [this,if_false]
  rw [List.drop_of_length_le]
  ·simp
  ·show d.data.size≤i
   exact (by omega:d.size≤i)
 |succ k ih=>
  intro i r hk
  unfold ByteArray.toList.loop
  have hlt:i<d.size:=by omega
  simp only [hlt,if_true]
  rw [ih (i+1) _ (by omega)]
  have hl:i<d.data.toList.length:=hlt
  rw [List.drop_eq_getElem_cons hl]
  have h3:i<d.data.size:=hlt
  simp only [ByteArray.get!,getElem!_pos,h3,List.reverse_cons,List.append_assoc,List.singleton_append,Array.getElem_toList]
theorem ut (a:List UInt8):(⟨⟨a⟩⟩:ByteArray).toList=a:=by
 unfold ByteArray.toList
 rw [xG _ _ 0 [] rfl]
 simp
theorem Pf (a b:List UInt8):cV .add (S a) (S b)=br (dM (a.length+b.length) 1) (some (S (a++b),[])) none:=by
 have:(⟨⟨a⟩⟩:ByteArray)++⟨⟨b⟩⟩=⟨⟨a++b⟩⟩:=by
  apply ByteArray.ext
  simp [ByteArray.data_append]
 by_cases hb:a.length+b.length≤aK<;>simp [cV,bR,br,dM,hb,vZ,this]
theorem Q8 (a b:List UInt8):cV .eql (S a) (S b)=some (.lit (.bool (a==b)),[]):=by simp [cV,bR,ut]
theorem Oa (a b:List UInt8):cV .neq (S a) (S b)=some (.lit (.bool (a !=b)),[]):=by simp [cV,bR,ut,bne]
def eqS (neg:Bool) (ks:List Bool) (x y:V):Option (V×Upd):=match x,y with
 | .agg a,.agg b=>match bu ks a b with
   |some r=>some (.lit (.bool (if neg then !r else r)),[])
   |none=>none
 |_,_=>none
theorem Mn (neg:Bool) (ks:List Bool) (x y:Opd):ae C ow (.eqAgg neg ks x y) ev h n=eqS neg ks (ev x) (ev y):=rfl
def eqN (neg:Bool):Option Bool→Option (V×Upd)
 |some r=>some (.lit (.bool (if neg then !r else r)),[])
 |none=>none
theorem Jz (neg:Bool) (ks:List Bool) (a b:List V):eqS neg ks (.agg a) (.agg b)=eqN neg (bu ks a b):=by
 unfold eqS eqN;rfl
theorem QN (r:Bool):eqN true (some r)=some (.lit (.bool !r),[]):=rfl
theorem RS (r:Bool):eqN false (some r)=some (.lit (.bool r),[]):=rfl
theorem Q7 (neg c:Bool) (x y:Option Bool):eqN neg (br c x y)=br c (eqN neg x) (eqN neg y):=by cases c<;>rfl
theorem MK:bu [] [] []=some true:=rfl
theorem Sd (ks:List Bool) (k:IntKind) (a b:Int) (x y:List V):bu (true::ks) (.lit (.int k a)::x) (.lit (.int k b)::y)=br (a==b) (bu ks x y) (some false):=by
 by_cases hb:a=b
 ·subst hb;simp [bu,bG]
 ·have:(a==b)=false:=by simpa using hb
  rw [this,b6];simp [bu,hb]
theorem R0 (ks:List Bool) (a b:List UInt8) (x y:List V):bu (false::ks) (S a::x) (S b::y)=br (a==b) (bu ks x y) (some false):=by
 by_cases hb:a=b
 ·subst hb;simp [bu,bG]
 ·have:(a==b)=false:=by simpa using hb
  rw [this,b6];simp [bu,hb]
def Nx (neg:Bool) (x y:V):Option (V×Upd):=match x,y with
 | .lit (.bool a),.lit (.bool b)=>some (.lit (.bool (if neg then a !=b else a==b)),[])
 |_,_=>none
theorem QJ (neg:Bool) (x y:Opd):ae C ow (.beq neg x y) ev h n=Nx neg (ev x) (ev y):=rfl
theorem PW (a b:Bool):Nx true (B a) (B b)=some (.lit (.bool (a !=b)),[]):=rfl
theorem Pp (a b:Bool):Nx false (B a) (B b)=some (.lit (.bool (a==b)),[]):=rfl
def unS (op:UnOp) (x:V):Option (V×Upd):=match x with
 | .lit a=>match uo op a with
   |some v=>some (.lit v,[])
   |none=>none
 |_=>none
theorem SL (op:UnOp) (x:Opd):ae C ow (.un op x) ev h n=unS op (ev x):=rfl
theorem QB (b:Bool):unS .not (B b)=some (B (!b),[]):=rfl
theorem Rz (k:IntKind) (a:Int):unS .neg (.lit (.int k a))=some (.lit (.int k (k.wrap (0-a))),[]):=rfl
def Sp (k:IntKind) (a:Int):Int:=k.wrap (BitVec.ofInt k.bits (if k.signed then-1 else k.max)^^^BitVec.ofInt k.bits a).toNat
theorem QO (k:IntKind) (a:Int):unS .xor (.lit (.int k a))=some (.lit (.int k (Sp k a)),[]):=rfl
def tiS (k:IntKind) (x:V):Option (V×Upd):=match asI x with
 |some m=>some (.lit (.int k (k.wrap m)),[])
 |none=>none
theorem LG (k:IntKind) (x:Opd):ae C ow (.toInt k x) ev h n=tiS k (ev x):=rfl
theorem Rj (k k':IntKind) (m:Int):tiS k (.lit (.int k' m))=some (.lit (.int k (k.wrap m)),[]):=rfl
def MW (x:V):Option (V×Upd):=match x with
 | .lit (.string s)=>some (.lit (.string s),[])
 |_=>none
theorem N3 (x:Opd):ae C ow (.same x) ev h n=MW (ev x):=rfl
theorem JG (s:List UInt8):MW (S s)=some (S s,[]):=rfl
theorem Ad (f:FuncId) (cs:List Opd):ae C ow (.makeFunc f cs) ev h n=some (.fn f (cs.map ev),[]):=rfl
def A0 (str:Bool) (x:V):Option (V×Upd):=match str,x with
 |true,.lit (.string s)=>some (.lit (.int .i64 s.size),[])
 |false,.lit (.slice _ n _)=>some (.lit (.int .i64 n),[])
 |false,.sl _ _ n=>some (.lit (.int .i64 n),[])
 |false,.imm _ rows=>some (.lit (.int .i64 rows.length),[])
 |_,_=>none
theorem S6 (str:Bool) (x:Opd):ae C ow (.len str x) ev h n=A0 str (ev x):=rfl
theorem MC:A0 false (sl e l)=some (I (l.length:Nat),[]):=by
 rcases cW e l with ⟨rfl,h⟩|⟨_,h⟩<;>rw [h]<;>simp [A0,rws]
theorem Gh (b s m:Nat):A0 false (.sl b s m)=some (I (m:Nat),[]):=rfl
theorem EI:A0 false (.lit (.slice none 0 0))=some (I (0:Nat),[]):=rfl
theorem Hb:A0 false (.imm 1 [])=some (I (0:Nat),[]):=rfl
theorem Hy (s:List UInt8):A0 true (S s)=some (I (s.length:Nat),[]):=rfl
def inS (neg:Bool) (x:V):Option (V×Upd):=match x with
 | .lit (.slice a _ _)=>some (.lit (.bool (if neg then !a.isNone else a.isNone)),[])
 | .imm _ (_::_)=>some (.lit (.bool neg),[])
 |_=>none
theorem Mj (neg:Bool) (x:Opd):ae C ow (.isNil neg x) ev h n=inS neg (ev x):=by
 simp only [ae];unfold inS;rfl
theorem Mc (neg:Bool) (m c:Nat):inS neg (.lit (.slice none m c))=some (B (!neg),[]):=by cases neg<;>rfl
theorem KL (neg:Bool) (a:Addr) (m c:Nat):inS neg (.lit (.slice (some a) m c))=some (B neg,[]):=by cases neg<;>rfl
theorem EZ (neg:Bool) (e:En α) (x:α) (l:List α):inS neg (sl e (x::l))=some (B neg,[]):=rfl
theorem ET (m:Nat) (x:Opd):ae C ow (.lenArr m x) ev h n=some (I (m:Nat),[]):=rfl
def JT (x:V) (i:Nat):Option (V×Upd):=match x with
 | .tup vs=>match vs[i]? with
   |some v=>some (v,[])
   |none=>none
 |_=>none
theorem QF (x:Opd) (i:Nat):ae C ow (.ext x i) ev h n=JT (ev x) i:=rfl
theorem Np (a:V) (r:List V):JT (.tup (a::r)) 0=some (a,[]):=rfl
theorem Qr (a:V) (r:List V) (i:Nat):JT (.tup (a::r)) (i+1)=JT (.tup r) i:=rfl
def P2 (d:Nat) (x:V):Option (V×Upd):=match x with
 | .ptr b i o n=>some (.ptr b i (o+d) n,[])
 | .iptr r o=>some (.iptr r (o+d),[])
 |_=>none
theorem RT (d:Nat) (x:Opd):ae C ow (.off d x) ev h n=P2 d (ev x):=rfl
theorem Ot (d b i o m:Nat):P2 d (.ptr b i o m)=some (.ptr b i (o+d) m,[]):=rfl
theorem Q3 (d:Nat) (r:List V) (o:Nat):P2 d (.iptr r o)=some (.iptr r (o+d),[]):=rfl
def ldS:Option V→Option (V×Upd)
 |some v=>some (v,[])
 |none=>none
theorem Fy (v:V):ldS (some v)=some (v,[]):=rfl
theorem Ir {β:Type} (x:Option β) (f:β→Option V):ldS (x.bind f)=x.bind (fun a=>ldS (f a)):=by cases x<;>rfl
theorem Mg (a:V) (r:List V):part none (a::r) 0=some a:=rfl
theorem M2 (a:V) (r:List V) (o:Nat):part none (a::r) (o+1)=part none r o:=rfl
theorem Qo (m:Nat) (cs:List V) (o:Nat) (hm:(o+m).ble cs.length=true):part (some m) cs o=some (.agg ((cs.drop o).take m)):=by
 simp only [part]
 rw [if_pos (Nat.le_of_ble_eq_true hm)]
def IJ (d:Nat) (agg:Option Nat) (x:V):Option (V×Upd):=match x with
 | .agg cs=>match part agg cs d with
   |some v=>some (v,[])
   |none=>none
 |_=>none
theorem M0 (d:Nat) (agg:Option Nat) (x:Opd):ae C ow (.field d agg x) ev h n=IJ d agg (ev x):=rfl
theorem FS (d:Nat) (agg:Option Nat) (cs:List V):IJ d agg (.agg cs)=ldS (part agg cs d):=rfl
def Qp (len esz:Nat) (agg:Option Nat) (x i:V):Option (V×Upd):=match x,asI i with
 | .agg cs,some i=>if 0≤i∧i.toNat<len then (match part agg cs (i.toNat*esz) with
   |some v=>some (v,[])
   |none=>none) else none
 |_,_=>none
theorem Js (len esz:Nat) (agg:Option Nat) (x i:Opd):ae C ow (.ixAgg len esz agg x i) ev h n=Qp len esz agg (ev x) (ev i):=rfl
theorem Ny (len esz:Nat) (agg:Option Nat) (cs:List V) (k:IntKind) (i:Int):Qp len esz agg (.agg cs) (.lit (.int k i))=br (inb i len) (ldS (part agg cs (i.toNat*esz))) none:=by
 unfold inb
 by_cases h1:0≤i<;>by_cases h2:i.toNat<len<;>simp [Qp,asI,h1,h2,br,ldS]
def DK (agg:Option Nat) (k:Option Blk) (i o m:Nat):Option V:=match k with
 |some k=>if k.rows.length=m then (match k.rows[i]? with
  |some row=>part agg row o
  |none=>none) else none
 |none=>none
theorem O8 (agg:Option Nat) (a:Opd):ae C ow (.load agg a) ev h n=ldS (iQ agg h (ev a)):=rfl
theorem LW (agg:Option Nat) (b i o m:Nat):iQ agg h (.ptr b i o m)=DK agg (h b) i o m:=rfl
theorem JI (agg:Option Nat) (r:List V) (o:Nat):iQ agg h (.iptr r o)=part agg r o:=rfl
theorem Kh (agg:Option Nat) (m:Nat) (row:List V) (o:Nat):DK agg (some ⟨m,true,[row]⟩) 0 o 1=part agg row o:=rfl
theorem Ka (agg:Option Nat) (m:Nat) (op:Bool) (i o q:Nat) (hq:l.length=q):DK agg (some ⟨m,op,rws e l⟩) i o q=(l[i]?).bind (fun x=>part agg (e.enc x) o):=by
 simp only [DK,rws,List.length_map,List.getElem?_map]
 rw [if_pos hq]
 cases l[i]? <;>rfl
def uU (k:Option Blk) (m b s q:Nat) (i:Int):Option (V×Upd):=match k with
 |some k=>if 0<k.esz∧k.esz=m∧s+q=k.rows.length∧i.toNat<q then some (.ptr b (s+i.toNat) 0 k.rows.length,[]) else none
 |none=>none
def xN (m:Nat) (x i:V) (h:ah):Option (V×Upd):=match asI i with
 |some i=>if 0≤i then (match x with
  | .sl b s q=>uU (h b) m b s q i
  | .imm e rows=>if e=m then (match rows[i.toNat]? with
    |some row=>some (.iptr row 0,[])
    |none=>none) else none
  |_=>none) else none
 |none=>none
theorem Sh (m:Nat) (x i:Opd):ae C ow (.idx m x i) ev h n=xN m (ev x) (ev i) h:=by
 simp only [ae,xN,uU]
 cases asI (ev i) with
 |none=>rfl
 |some i=>
  dsimp only
  split
  ·cases ev x with
   |sl b s q=>dsimp only;cases h b<;>rfl
   |_=>rfl
  ·rfl
theorem Kb (m:Nat) (hm:e.esz=m) (k:IntKind) (i:Int):xN m (sl e l) (.lit (.int k i)) h=(atL l i).bind (fun x=>some (.iptr (e.enc x) 0,[])):=by
 subst hm
 unfold atL
 by_cases hi:0≤i
 ·rw [if_pos hi]
  rcases cW e l with ⟨rfl,hs⟩|⟨_,hs⟩
  ·rw [hs];simp [xN,asI]
  ·rw [hs]
   simp only [xN,asI,hi,if_true,rws,List.getElem?_map]
   cases l[i.toNat]? <;>rfl
 ·rw [if_neg hi];simp [xN,asI,hi]
theorem F5 (m b s q:Nat) (k:IntKind) (i:Int):xN m (.sl b s q) (.lit (.int k i)) h=br (nn i) (uU (h b) m b s q i) none:=by
 unfold nn
 by_cases hi:0≤i<;>simp [xN,asI,hi,br]
theorem Jd (m:Nat) (op:Bool) (b q:Nat) (i:Int) (h0:Nat.blt 0 m=true) (hq:l.length=q):uU (some ⟨m,op,rws e l⟩) m b 0 q i=br (decide (i.toNat<q)) (some (.ptr b i.toNat 0 q,[])) none:=by
 have h0:0<m:=by have:=Nat.le_of_ble_eq_true h0;omega
 by_cases hi:i.toNat<q<;>simp [uU,rws,hq,hi,br,h0]
theorem Lh (m b:Nat) (row:List V) (i:Int):uU (some ⟨m,true,[row]⟩) m b 0 1 i=br (Nat.blt 0 m&&decide (i.toNat<1)) (some (.ptr b i.toNat 0 1,[])) none:=by
 rw [lK]
 by_cases h0:0<m<;>by_cases hi:i.toNat<1<;>simp [uU,hi,br,h0]
def ym (len esz:Nat) (x i:V):Option (V×Upd):=match asI i with
 |some i=>if 0≤i∧i.toNat<len then (match x with
  | .ptr b j o n=>some (.ptr b j (o+i.toNat*esz) n,[])
  | .iptr r o=>some (.iptr r (o+i.toNat*esz),[])
  |_=>none) else none
 |none=>none
theorem ED (len esz:Nat) (x i:Opd):ae C ow (.idxArr len esz x i) ev h n=ym len esz (ev x) (ev i):=rfl
theorem Ju (len esz b j o m:Nat) (k:IntKind) (i:Int):ym len esz (.ptr b j o m) (.lit (.int k i))=br (inb i len) (some (.ptr b j (o+i.toNat*esz) m,[])) none:=by
 unfold inb
 by_cases h1:0≤i<;>by_cases h2:i.toNat<len<;>simp [ym,asI,h1,h2,br]
theorem Jm (len esz:Nat) (r:List V) (o:Nat) (k:IntKind) (i:Int):ym len esz (.iptr r o) (.lit (.int k i))=br (inb i len) (some (.iptr r (o+i.toNat*esz),[])) none:=by
 unfold inb
 by_cases h1:0≤i<;>by_cases h2:i.toNat<len<;>simp [ym,asI,h1,h2,br]
def K8 (x i:V):Option (V×Upd):=match x,asI i with
 | .lit (.string s),some i=>if 0≤i then (match s.data[i.toNat]? with
   |some b=>some (.lit (.int .u8 b.toNat),[])
   |none=>none) else none
 |_,_=>none
theorem LJ (x i:Opd):ae C ow (.ixStr x i) ev h n=K8 (ev x) (ev i):=rfl
theorem N9 (s:List UInt8) (k:IntKind) (i:Int):K8 (S s) (.lit (.int k i))=(atL s i).bind (fun b=>some (.lit (.int .u8 b.toNat),[])):=by
 unfold atL
 by_cases hi:0≤i
 ·simp only [K8,asI,hi,if_true]
  have:(⟨⟨s⟩⟩:ByteArray).data[i.toNat]? =s[i.toNat]? :=by simp
  rw [this]
  cases s[i.toNat]? <;>rfl
 ·simp [K8,asI,hi]
def frO (k:Option Blk) (n:Nat) (b:Blk) (v:V):Option (V×Upd):=match k with
 |none=>br (Nat.blt 0 b.esz) (some (v,[(n,b)])) none
 |some _=>none
theorem iZ (b:Blk) (v:V):du h n b v=frO (h n) n b v:=by
 unfold du frO
 cases h n with
 |none=>rw [lK];by_cases hb:0<b.esz<;>simp [hb,br]
 |some k=>simp
theorem Ig (b:Blk) (v:V):frO none n b v=br (Nat.blt 0 b.esz) (some (v,[(n,b)])) none:=rfl
theorem B8 (zero:List Value):ae C ow (.alloc zero) ev h n=br (zero.all aC) (frO (h n) n ⟨zero.length,true,[zero.map .lit]⟩ (.ptr n 0 0 1)) none:=by
 simp only [ae,iZ]
 cases zero.all aC<;>rfl
def NJ (size:Nat) (cs:List V) (h:ah) (n:Nat):Option (V×Upd):=br (Nat.beq cs.length size&&cs.all V.cell) (frO (h n) n ⟨size,true,[cs]⟩ (.ptr n 0 0 1)) none
theorem Sm (size:Nat) (x:Opd):ae C ow (.box size x) ev h n=NJ size (ev x).cells h n:=by
 simp only [ae,iZ,NJ,oI]
 by_cases h1:(ev x).cells.length=size<;>cases h2:(ev x).cells.all V.cell<;>simp [h1,br]
def pT (cells:List V):List (Nat×Nat×V)→Option (List V)
 |[]=>some cells
 | (off,size,v)::r=>br (Nat.beq v.cells.length size&&Nat.ble (off+size) cells.length&&v.cells.all V.cell) (pT (cells.take off++(v.cells++cells.drop (off+size))) r) none
theorem rj: ∀(ps:List (Nat×Nat×V)) (cells:List V),nP cells ps=pT cells ps
 |[],_=>rfl
 | (off,size,v)::r,cells=>by
   simp only [nP,pT,oI,oB]
   rw [←rj r]
   by_cases h1:v.cells.length=size<;>by_cases h2:off+size≤cells.length<;>cases h3:v.cells.all V.cell<;>simp [h1,h2,br]
def Nu:Option (List V)→Option (V×Upd)
 |some cs=>some (.agg cs,[])
 |none=>none
theorem vz (zero:List Value) (ps:List (Nat×Nat×Opd)):ae C ow (.build zero ps) ev h n=br (zero.all aC) (Nu (pT (zero.map .lit) (ca ev ps))) none:=by
 simp only [ae,rj,Nu]
 cases zero.all aC
 ·rfl
 ·simp only [bG,if_true]
  cases pT (zero.map .lit) (ca ev ps)<;>rfl
theorem Cg (cs:List V):Nu (some cs)=some (.agg cs,[]):=rfl
end
end Go.AI
