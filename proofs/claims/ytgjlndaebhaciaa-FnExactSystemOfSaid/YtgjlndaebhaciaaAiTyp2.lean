/- The machine's operations as words over values; what they come to on values of Lean's own types. -/
import Derived.Test.YtgjlndaebhaciaaAiLim
set_option linter.unusedVariables false
set_option linter.unusedSimpArgs false
namespace Go.AI
theorem ov (a b:Nat):Nat.ble a b=decide (a≤b):=by
 by_cases h0:a≤b
 ·rw [decide_eq_true h0];exact Nat.ble_eq_true_of_le h0
 ·rw [decide_eq_false h0];cases hb:Nat.ble a b with
  |false=>rfl
  |true=>exact absurd (Nat.le_of_ble_eq_true hb) h0
theorem lK (a b:Nat):Nat.blt a b=decide (a<b):=ov (a+1) b
theorem oF (a b:Nat):Nat.beq a b=decide (a=b):=by
 by_cases h0:a=b
 ·rw [decide_eq_true h0,h0];exact Nat.beq_refl b
 ·rw [decide_eq_false h0];cases hb:Nat.beq a b with
  |false=>rfl
  |true=>exact absurd (Nat.eq_of_beq_eq_true hb) h0
section
variable {C:aB} {ow:FuncId→List Nat} {ev:Opd→V} {h:ah} {n:Nat} {α:Type} {e:En α} {l:List α}
theorem SP (x:Opd):ae C ow (.mv x) ev h n=some (ev x,[]):=rfl
def Hn (c a b:V):Option (V×Upd):=match c with
 | .lit (.bool c)=>br c (some (a,[])) (some (b,[]))
 |_=>none
theorem NA (c a b:Opd):ae C ow (.pick c a b) ev h n=Hn (ev c) (ev a) (ev b):=by
 simp only [ae]
 unfold Hn
 split
 ·rename_i h;rw [h];rfl
 ·rename_i h;rw [h];rfl
 ·rename_i h1 h2
  split
  ·rename_i c' hc;cases c'
   ·exact absurd hc h2
   ·exact absurd hc h1
  ·rfl
theorem Jv (c:Bool) (a b:V):Hn (.lit (.bool c)) a b=br c (some (a,[])) (some (b,[])):=rfl
def cP (op:BinOp) (x y:V):Option (V×Upd):=match x,y with
 | .lit a,.lit b=>match bQ op a b with
   |some v=>some (.lit v,[])
   |none=>none
 |_,_=>none
theorem Ri (op:BinOp) (x y:Opd):ae C ow (.bin op x y) ev h n=cP op (ev x) (ev y):=rfl
theorem Ra (k:IntKind) (a b:Int):cP .add (.lit (.int k a)) (.lit (.int k b))=some (.lit (.int k (k.wrap (a+b))),[]):=by simp [cP,bQ]
theorem QR (k:IntKind) (a b:Int):cP .sub (.lit (.int k a)) (.lit (.int k b))=some (.lit (.int k (k.wrap (a-b))),[]):=by simp [cP,bQ]
theorem Ru (k:IntKind) (a b:Int):cP .mul (.lit (.int k a)) (.lit (.int k b))=some (.lit (.int k (k.wrap (a*b))),[]):=by simp [cP,bQ]
def nz (b:Int):Bool:=decide (b≠0)
theorem QE (k:IntKind) (a b:Int):cP .quo (.lit (.int k a)) (.lit (.int k b))=br (nz b) (some (.lit (.int k (k.wrap (a.tdiv b))),[])) none:=by
 by_cases hb:b=0<;>simp [cP,bQ,br,nz,hb]
theorem Sa (k:IntKind) (a b:Int):cP .rem (.lit (.int k a)) (.lit (.int k b))=br (nz b) (some (.lit (.int k (a.tmod b)),[])) none:=by
 by_cases hb:b=0<;>simp [cP,bQ,br,nz,hb]
def p6 (k:IntKind) (a b:Int):Int:=k.wrap (BitVec.ofInt k.bits a^^^BitVec.ofInt k.bits b).toNat
def pQ (k:IntKind) (a b:Int):Int:=k.wrap (BitVec.ofInt k.bits a&&&BitVec.ofInt k.bits b).toNat
def rF (k:IntKind) (a b:Int):Int:=k.wrap (BitVec.ofInt k.bits a|||BitVec.ofInt k.bits b).toNat
def AY (k:IntKind) (a b:Int):Int:=k.wrap (BitVec.ofInt k.bits a&&& ~~~ BitVec.ofInt k.bits b).toNat
def da (k:IntKind) (a b:Int):Int:=k.wrap (a*2^(min b.toNat k.bits))
def s8 (k:IntKind) (a b:Int):Int:=a.fdiv (2^(min b.toNat k.bits))
theorem R2 (k:IntKind) (a b:Int):cP .and (.lit (.int k a)) (.lit (.int k b))=some (.lit (.int k (pQ k a b)),[]):=by simp [cP,bQ,pQ]
theorem Sv (k:IntKind) (a b:Int):cP .or (.lit (.int k a)) (.lit (.int k b))=some (.lit (.int k (rF k a b)),[]):=by simp [cP,bQ,rF]
theorem Sk (k:IntKind) (a b:Int):cP .xor (.lit (.int k a)) (.lit (.int k b))=some (.lit (.int k (p6 k a b)),[]):=by simp [cP,bQ,p6]
theorem Qo (k:IntKind) (a b:Int):cP .andNot (.lit (.int k a)) (.lit (.int k b))=some (.lit (.int k (AY k a b)),[]):=by simp [cP,bQ,AY]
def nn (b:Int):Bool:=decide (0≤b)
theorem RE (k k':IntKind) (a b:Int):cP .shl (.lit (.int k a)) (.lit (.int k' b))=br (nn b) (some (.lit (.int k (da k a b)),[])) none:=by
 by_cases hb:0≤b<;>simp [cP,bQ,br,nn,hb,da]
theorem RH (k k':IntKind) (a b:Int):cP .shr (.lit (.int k a)) (.lit (.int k' b))=br (nn b) (some (.lit (.int k (s8 k a b)),[])) none:=by
 by_cases hb:0≤b<;>simp [cP,bQ,br,nn,hb,s8]
theorem R5 (k:IntKind) (a b:Int):cP .eql (.lit (.int k a)) (.lit (.int k b))=some (.lit (.bool (a==b)),[]):=by simp [cP,bQ]
theorem RS (k:IntKind) (a b:Int):cP .neq (.lit (.int k a)) (.lit (.int k b))=some (.lit (.bool (a !=b)),[]):=by simp [cP,bQ]
theorem Rs (k:IntKind) (a b:Int):cP .lss (.lit (.int k a)) (.lit (.int k b))=some (.lit (.bool (decide (a<b))),[]):=by simp [cP,bQ]
theorem Sm (k:IntKind) (a b:Int):cP .leq (.lit (.int k a)) (.lit (.int k b))=some (.lit (.bool (decide (a≤b))),[]):=by simp [cP,bQ]
theorem Rd (k:IntKind) (a b:Int):cP .gtr (.lit (.int k a)) (.lit (.int k b))=some (.lit (.bool (decide (a>b))),[]):=by simp [cP,bQ]
theorem S5 (k:IntKind) (a b:Int):cP .geq (.lit (.int k a)) (.lit (.int k b))=some (.lit (.bool (decide (a≥b))),[]):=by simp [cP,bQ]
theorem vR (a:List UInt8):(⟨⟨a⟩⟩:ByteArray).size=a.length:=rfl
theorem yq (d:ByteArray): ∀(k i:Nat) (r:List UInt8),d.size-i=k→ByteArray.toList.loop d i r=r.reverse++d.data.toList.drop i:=by
 intro k
 induction k with
 |zero=>
  intro i r hk
  unfold ByteArray.toList.loop
  have: ¬i<d.size:=by omega
  simp only [this,if_false]
  rw [List.drop_of_length_le]
  ·simp
  ·show d.data.size≤i
   exact (by omega:d.size≤i)
 |succ k ih=>
  intro i r hk
  unfold ByteArray.toList.loop
  have hlt:i<d.size:=by omega
  simp only [hlt,if_true]
  rw [ih (i+1) _ (by omega)]
  have hl:i<d.data.toList.length:=hlt
  rw [List.drop_eq_getElem_cons hl]
  have h3:i<d.data.size:=hlt
  simp only [ByteArray.get!,getElem!_pos,h3,List.reverse_cons,List.append_assoc,List.singleton_append,Array.getElem_toList]
theorem uv (a:List UInt8):(⟨⟨a⟩⟩:ByteArray).toList=a:=by
 unfold ByteArray.toList
 rw [yq _ _ 0 [] rfl]
 simp
theorem Ng (a b:List UInt8):cP .add (S a) (S b)=br (dN (a.length+b.length) 1) (some (S (a++b),[])) none:=by
 have:(⟨⟨a⟩⟩:ByteArray)++⟨⟨b⟩⟩=⟨⟨a++b⟩⟩:=by
  apply ByteArray.ext
  simp [ByteArray.data_append]
 by_cases hb:a.length+b.length≤aK<;>simp [cP,bQ,br,dN,hb,vR,this]
theorem NU (a b:List UInt8):cP .eql (S a) (S b)=some (.lit (.bool (a==b)),[]):=by simp [cP,bQ,uv]
theorem Q9 (a b:List UInt8):cP .neq (S a) (S b)=some (.lit (.bool (a !=b)),[]):=by simp [cP,bQ,uv,bne]
def eqS (neg:Bool) (ks:List Bool) (x y:V):Option (V×Upd):=match x,y with
 | .agg a,.agg b=>match bt ks a b with
   |some r=>some (.lit (.bool (if neg then !r else r)),[])
   |none=>none
 |_,_=>none
theorem KZ (neg:Bool) (ks:List Bool) (x y:Opd):ae C ow (.eqAgg neg ks x y) ev h n=eqS neg ks (ev x) (ev y):=rfl
def eqN (neg:Bool):Option Bool→Option (V×Upd)
 |some r=>some (.lit (.bool (if neg then !r else r)),[])
 |none=>none
theorem Lu (neg:Bool) (ks:List Bool) (a b:List V):eqS neg ks (.agg a) (.agg b)=eqN neg (bt ks a b):=by
 unfold eqS eqN;rfl
theorem Rq (r:Bool):eqN true (some r)=some (.lit (.bool !r),[]):=rfl
theorem R1 (r:Bool):eqN false (some r)=some (.lit (.bool r),[]):=rfl
theorem On (neg c:Bool) (x y:Option Bool):eqN neg (br c x y)=br c (eqN neg x) (eqN neg y):=by cases c<;>rfl
theorem KH:bt [] [] []=some true:=rfl
theorem Rz (ks:List Bool) (k:IntKind) (a b:Int) (x y:List V):bt (true::ks) (.lit (.int k a)::x) (.lit (.int k b)::y)=br (a==b) (bt ks x y) (some false):=by
 by_cases hb:a=b
 ·subst hb;simp [bt,bH]
 ·have:(a==b)=false:=by simpa using hb
  rw [this,aZ];simp [bt,hb]
theorem Re (ks:List Bool) (a b:List UInt8) (x y:List V):bt (false::ks) (S a::x) (S b::y)=br (a==b) (bt ks x y) (some false):=by
 by_cases hb:a=b
 ·subst hb;simp [bt,bH]
 ·have:(a==b)=false:=by simpa using hb
  rw [this,aZ];simp [bt,hb]
def Pn (neg:Bool) (x y:V):Option (V×Upd):=match x,y with
 | .lit (.bool a),.lit (.bool b)=>some (.lit (.bool (if neg then a !=b else a==b)),[])
 |_,_=>none
theorem Rg (neg:Bool) (x y:Opd):ae C ow (.beq neg x y) ev h n=Pn neg (ev x) (ev y):=rfl
theorem Nk (a b:Bool):Pn true (B a) (B b)=some (.lit (.bool (a !=b)),[]):=rfl
theorem NJ (a b:Bool):Pn false (B a) (B b)=some (.lit (.bool (a==b)),[]):=rfl
def unS (op:UnOp) (x:V):Option (V×Upd):=match x with
 | .lit a=>match u3 op a with
   |some v=>some (.lit v,[])
   |none=>none
 |_=>none
theorem SN (op:UnOp) (x:Opd):ae C ow (.un op x) ev h n=unS op (ev x):=rfl
theorem Rh (b:Bool):unS .not (B b)=some (B (!b),[]):=rfl
theorem Sc (k:IntKind) (a:Int):unS .neg (.lit (.int k a))=some (.lit (.int k (k.wrap (0-a))),[]):=rfl
def RK (k:IntKind) (a:Int):Int:=k.wrap (BitVec.ofInt k.bits (if k.signed then-1 else k.max)^^^BitVec.ofInt k.bits a).toNat
theorem QV (k:IntKind) (a:Int):unS .xor (.lit (.int k a))=some (.lit (.int k (RK k a)),[]):=rfl
def tiS (k:IntKind) (x:V):Option (V×Upd):=match asI x with
 |some m=>some (.lit (.int k (k.wrap m)),[])
 |none=>none
theorem Ly (k:IntKind) (x:Opd):ae C ow (.toInt k x) ev h n=tiS k (ev x):=rfl
theorem QT (k k':IntKind) (m:Int):tiS k (.lit (.int k' m))=some (.lit (.int k (k.wrap m)),[]):=rfl
def MR (x:V):Option (V×Upd):=match x with
 | .lit (.string s)=>some (.lit (.string s),[])
 |_=>none
theorem Q1 (x:Opd):ae C ow (.same x) ev h n=MR (ev x):=rfl
theorem LB (s:List UInt8):MR (S s)=some (S s,[]):=rfl
theorem Aw (f:FuncId) (cs:List Opd):ae C ow (.makeFunc f cs) ev h n=some (.fn f (cs.map ev),[]):=rfl
def zK (str:Bool) (x:V):Option (V×Upd):=match str,x with
 |true,.lit (.string s)=>some (.lit (.int .i64 s.size),[])
 |false,.lit (.slice _ n _)=>some (.lit (.int .i64 n),[])
 |false,.sl _ _ n=>some (.lit (.int .i64 n),[])
 |false,.imm _ rows=>some (.lit (.int .i64 rows.length),[])
 |_,_=>none
theorem QU (str:Bool) (x:Opd):ae C ow (.len str x) ev h n=zK str (ev x):=rfl
theorem JK:zK false (sl e l)=some (I (l.length:Nat),[]):=by
 rcases cW e l with ⟨rfl,h⟩|⟨_,h⟩<;>rw [h]<;>simp [zK,rws]
theorem Hr (b s m:Nat):zK false (.sl b s m)=some (I (m:Nat),[]):=rfl
theorem G9:zK false (.lit (.slice none 0 0))=some (I (0:Nat),[]):=rfl
theorem Fa:zK false (.imm 1 [])=some (I (0:Nat),[]):=rfl
theorem J6 (s:List UInt8):zK true (S s)=some (I (s.length:Nat),[]):=rfl
def inS (neg:Bool) (x:V):Option (V×Upd):=match x with
 | .lit (.slice a _ _)=>some (.lit (.bool (if neg then !a.isNone else a.isNone)),[])
 | .imm _ (_::_)=>some (.lit (.bool neg),[])
 |_=>none
theorem LV (neg:Bool) (x:Opd):ae C ow (.isNil neg x) ev h n=inS neg (ev x):=by
 simp only [ae];unfold inS;rfl
theorem KI (neg:Bool) (m c:Nat):inS neg (.lit (.slice none m c))=some (B (!neg),[]):=by cases neg<;>rfl
theorem Me (neg:Bool) (a:Addr) (m c:Nat):inS neg (.lit (.slice (some a) m c))=some (B neg,[]):=by cases neg<;>rfl
theorem FO (neg:Bool) (e:En α) (x:α) (l:List α):inS neg (sl e (x::l))=some (B neg,[]):=rfl
theorem GU (m:Nat) (x:Opd):ae C ow (.lenArr m x) ev h n=some (I (m:Nat),[]):=rfl
def KV (x:V) (i:Nat):Option (V×Upd):=match x with
 | .tup vs=>match vs[i]? with
   |some v=>some (v,[])
   |none=>none
 |_=>none
theorem RQ (x:Opd) (i:Nat):ae C ow (.ext x i) ev h n=KV (ev x) i:=rfl
theorem Qr (a:V) (r:List V):KV (.tup (a::r)) 0=some (a,[]):=rfl
theorem OP (a:V) (r:List V) (i:Nat):KV (.tup (a::r)) (i+1)=KV (.tup r) i:=rfl
def Og (d:Nat) (x:V):Option (V×Upd):=match x with
 | .ptr b i o n=>some (.ptr b i (o+d) n,[])
 | .iptr r o=>some (.iptr r (o+d),[])
 |_=>none
theorem Rv (d:Nat) (x:Opd):ae C ow (.off d x) ev h n=Og d (ev x):=rfl
theorem Pm (d b i o m:Nat):Og d (.ptr b i o m)=some (.ptr b i (o+d) m,[]):=rfl
theorem Ny (d:Nat) (r:List V) (o:Nat):Og d (.iptr r o)=some (.iptr r (o+d),[]):=rfl
def ldS:Option V→Option (V×Upd)
 |some v=>some (v,[])
 |none=>none
theorem Hs (v:V):ldS (some v)=some (v,[]):=rfl
theorem Io {β:Type} (x:Option β) (f:β→Option V):ldS (x.bind f)=x.bind (fun a=>ldS (f a)):=by cases x<;>rfl
theorem KS (a:V) (r:List V):part none (a::r) 0=some a:=rfl
theorem JH (a:V) (r:List V) (o:Nat):part none (a::r) (o+1)=part none r o:=rfl
theorem PM (m:Nat) (cs:List V) (o:Nat) (hm:(o+m).ble cs.length=true):part (some m) cs o=some (.agg ((cs.drop o).take m)):=by
 simp only [part]
 rw [if_pos (Nat.le_of_ble_eq_true hm)]
def FM (d:Nat) (agg:Option Nat) (x:V):Option (V×Upd):=match x with
 | .agg cs=>match part agg cs d with
   |some v=>some (v,[])
   |none=>none
 |_=>none
theorem M0 (d:Nat) (agg:Option Nat) (x:Opd):ae C ow (.field d agg x) ev h n=FM d agg (ev x):=rfl
theorem HW (d:Nat) (agg:Option Nat) (cs:List V):FM d agg (.agg cs)=ldS (part agg cs d):=rfl
def Q5 (len esz:Nat) (agg:Option Nat) (x i:V):Option (V×Upd):=match x,asI i with
 | .agg cs,some i=>if 0≤i∧i.toNat<len then (match part agg cs (i.toNat*esz) with
   |some v=>some (v,[])
   |none=>none) else none
 |_,_=>none
theorem KM (len esz:Nat) (agg:Option Nat) (x i:Opd):ae C ow (.ixAgg len esz agg x i) ev h n=Q5 len esz agg (ev x) (ev i):=rfl
theorem OA (len esz:Nat) (agg:Option Nat) (cs:List V) (k:IntKind) (i:Int):Q5 len esz agg (.agg cs) (.lit (.int k i))=br (inb i len) (ldS (part agg cs (i.toNat*esz))) none:=by
 unfold inb
 by_cases h1:0≤i<;>by_cases h2:i.toNat<len<;>simp [Q5,asI,h1,h2,br,ldS]
def DU (agg:Option Nat) (k:Option Blk) (i o m:Nat):Option V:=match k with
 |some k=>if k.rows.length=m then (match k.rows[i]? with
  |some row=>part agg row o
  |none=>none) else none
 |none=>none
theorem Od (agg:Option Nat) (a:Opd):ae C ow (.load agg a) ev h n=ldS (j5 agg h (ev a)):=rfl
theorem Ln (agg:Option Nat) (b i o m:Nat):j5 agg h (.ptr b i o m)=DU agg (h b) i o m:=rfl
theorem MK (agg:Option Nat) (r:List V) (o:Nat):j5 agg h (.iptr r o)=part agg r o:=rfl
theorem Js (agg:Option Nat) (m:Nat) (row:List V) (o:Nat):DU agg (some ⟨m,true,[row]⟩) 0 o 1=part agg row o:=rfl
theorem Kn (agg:Option Nat) (m:Nat) (op:Bool) (i o q:Nat) (hq:l.length=q):DU agg (some ⟨m,op,rws e l⟩) i o q=(l[i]?).bind (fun x=>part agg (e.enc x) o):=by
 simp only [DU,rws,List.length_map,List.getElem?_map]
 rw [if_pos hq]
 cases l[i]? <;>rfl
def vv (k:Option Blk) (m b s q:Nat) (i:Int):Option (V×Upd):=match k with
 |some k=>if 0<k.esz∧k.esz=m∧s+q=k.rows.length∧i.toNat<q then some (.ptr b (s+i.toNat) 0 k.rows.length,[]) else none
 |none=>none
def yo (m:Nat) (x i:V) (h:ah):Option (V×Upd):=match asI i with
 |some i=>if 0≤i then (match x with
  | .sl b s q=>vv (h b) m b s q i
  | .imm e rows=>if e=m then (match rows[i.toNat]? with
    |some row=>some (.iptr row 0,[])
    |none=>none) else none
  |_=>none) else none
 |none=>none
theorem RN (m:Nat) (x i:Opd):ae C ow (.idx m x i) ev h n=yo m (ev x) (ev i) h:=by
 simp only [ae,yo,vv]
 cases asI (ev i) with
 |none=>rfl
 |some i=>
  dsimp only
  split
  ·cases ev x with
   |sl b s q=>dsimp only;cases h b<;>rfl
   |_=>rfl
  ·rfl
theorem JB (m:Nat) (hm:e.esz=m) (k:IntKind) (i:Int):yo m (sl e l) (.lit (.int k i)) h=(atL l i).bind (fun x=>some (.iptr (e.enc x) 0,[])):=by
 subst hm
 unfold atL
 by_cases hi:0≤i
 ·rw [if_pos hi]
  rcases cW e l with ⟨rfl,hs⟩|⟨_,hs⟩
  ·rw [hs];simp [yo,asI]
  ·rw [hs]
   simp only [yo,asI,hi,if_true,rws,List.getElem?_map]
   cases l[i.toNat]? <;>rfl
 ·rw [if_neg hi];simp [yo,asI,hi]
theorem EA (m b s q:Nat) (k:IntKind) (i:Int):yo m (.sl b s q) (.lit (.int k i)) h=br (nn i) (vv (h b) m b s q i) none:=by
 unfold nn
 by_cases hi:0≤i<;>simp [yo,asI,hi,br]
theorem Lg (m:Nat) (op:Bool) (b q:Nat) (i:Int) (h0:Nat.blt 0 m=true) (hq:l.length=q):vv (some ⟨m,op,rws e l⟩) m b 0 q i=br (decide (i.toNat<q)) (some (.ptr b i.toNat 0 q,[])) none:=by
 have h0:0<m:=by have:=Nat.le_of_ble_eq_true h0;omega
 by_cases hi:i.toNat<q<;>simp [vv,rws,hq,hi,br,h0]
theorem Kt (m b:Nat) (row:List V) (i:Int):vv (some ⟨m,true,[row]⟩) m b 0 1 i=br (Nat.blt 0 m&&decide (i.toNat<1)) (some (.ptr b i.toNat 0 1,[])) none:=by
 rw [lK]
 by_cases h0:0<m<;>by_cases hi:i.toNat<1<;>simp [vv,hi,br,h0]
def yI (len esz:Nat) (x i:V):Option (V×Upd):=match asI i with
 |some i=>if 0≤i∧i.toNat<len then (match x with
  | .ptr b j o n=>some (.ptr b j (o+i.toNat*esz) n,[])
  | .iptr r o=>some (.iptr r (o+i.toNat*esz),[])
  |_=>none) else none
 |none=>none
theorem GN (len esz:Nat) (x i:Opd):ae C ow (.idxArr len esz x i) ev h n=yI len esz (ev x) (ev i):=rfl
theorem Kc (len esz b j o m:Nat) (k:IntKind) (i:Int):yI len esz (.ptr b j o m) (.lit (.int k i))=br (inb i len) (some (.ptr b j (o+i.toNat*esz) m,[])) none:=by
 unfold inb
 by_cases h1:0≤i<;>by_cases h2:i.toNat<len<;>simp [yI,asI,h1,h2,br]
theorem La (len esz:Nat) (r:List V) (o:Nat) (k:IntKind) (i:Int):yI len esz (.iptr r o) (.lit (.int k i))=br (inb i len) (some (.iptr r (o+i.toNat*esz),[])) none:=by
 unfold inb
 by_cases h1:0≤i<;>by_cases h2:i.toNat<len<;>simp [yI,asI,h1,h2,br]
def LP (x i:V):Option (V×Upd):=match x,asI i with
 | .lit (.string s),some i=>if 0≤i then (match s.data[i.toNat]? with
   |some b=>some (.lit (.int .u8 b.toNat),[])
   |none=>none) else none
 |_,_=>none
theorem LR (x i:Opd):ae C ow (.ixStr x i) ev h n=LP (ev x) (ev i):=rfl
theorem NX (s:List UInt8) (k:IntKind) (i:Int):LP (S s) (.lit (.int k i))=(atL s i).bind (fun b=>some (.lit (.int .u8 b.toNat),[])):=by
 unfold atL
 by_cases hi:0≤i
 ·simp only [LP,asI,hi,if_true]
  have:(⟨⟨s⟩⟩:ByteArray).data[i.toNat]? =s[i.toNat]? :=by simp
  rw [this]
  cases s[i.toNat]? <;>rfl
 ·simp [LP,asI,hi]
def frO (k:Option Blk) (n:Nat) (b:Blk) (v:V):Option (V×Upd):=match k with
 |none=>br (Nat.blt 0 b.esz) (some (v,[(n,b)])) none
 |some _=>none
theorem iM (b:Blk) (v:V):dp h n b v=frO (h n) n b v:=by
 unfold dp frO
 cases h n with
 |none=>rw [lK];by_cases hb:0<b.esz<;>simp [hb,br]
 |some k=>simp
theorem GA (b:Blk) (v:V):frO none n b v=br (Nat.blt 0 b.esz) (some (v,[(n,b)])) none:=rfl
theorem Bk (zero:List Value):ae C ow (.alloc zero) ev h n=br (zero.all aC) (frO (h n) n ⟨zero.length,true,[zero.map .lit]⟩ (.ptr n 0 0 1)) none:=by
 simp only [ae,iM]
 cases zero.all aC<;>rfl
def Nr (size:Nat) (cs:List V) (h:ah) (n:Nat):Option (V×Upd):=br (Nat.beq cs.length size&&cs.all V.cell) (frO (h n) n ⟨size,true,[cs]⟩ (.ptr n 0 0 1)) none
theorem Sf (size:Nat) (x:Opd):ae C ow (.box size x) ev h n=Nr size (ev x).cells h n:=by
 simp only [ae,iM,Nr,oF]
 by_cases h1:(ev x).cells.length=size<;>cases h2:(ev x).cells.all V.cell<;>simp [h1,br]
def pO (cells:List V):List (Nat×Nat×V)→Option (List V)
 |[]=>some cells
 | (off,size,v)::r=>br (Nat.beq v.cells.length size&&Nat.ble (off+size) cells.length&&v.cells.all V.cell) (pO (cells.take off++(v.cells++cells.drop (off+size))) r) none
theorem so: ∀(ps:List (Nat×Nat×V)) (cells:List V),ny cells ps=pO cells ps
 |[],_=>rfl
 | (off,size,v)::r,cells=>by
   simp only [ny,pO,oF,ov]
   rw [←so r]
   by_cases h1:v.cells.length=size<;>by_cases h2:off+size≤cells.length<;>cases h3:v.cells.all V.cell<;>simp [h1,h2,br]
def OF:Option (List V)→Option (V×Upd)
 |some cs=>some (.agg cs,[])
 |none=>none
theorem uO (zero:List Value) (ps:List (Nat×Nat×Opd)):ae C ow (.build zero ps) ev h n=br (zero.all aC) (OF (pO (zero.map .lit) (ca ev ps))) none:=by
 simp only [ae,so,OF]
 cases zero.all aC
 ·rfl
 ·simp only [bH,if_true]
  cases pO (zero.map .lit) (ca ev ps)<;>rfl
theorem DV (cs:List V):OF (some cs)=some (.agg cs,[]):=rfl
end
end Go.AI
