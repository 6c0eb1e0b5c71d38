/- The machine's operations as words over values; what they come to on values of Lean's own types. -/
import Derived.Test.YtgjlndaebhaciaaAiLim
set_option linter.unusedVariables false
set_option linter.unusedSimpArgs false
namespace Go.AI
theorem u3 (a b:Nat):Nat.ble a b=decide (a≤b):=by
 by_cases h0:a≤b
 ·rw [decide_eq_true h0];exact Nat.ble_eq_true_of_le h0
 ·rw [decide_eq_false h0];cases hb:Nat.ble a b with
  |false=>rfl
  |true=>exact absurd (Nat.le_of_ble_eq_true hb) h0
theorem pE (a b:Nat):Nat.blt a b=decide (a<b):=u3 (a+1) b
theorem tX (a b:Nat):Nat.beq a b=decide (a=b):=by
 by_cases h0:a=b
 ·rw [decide_eq_true h0,h0];exact Nat.beq_refl b
 ·rw [decide_eq_false h0];cases hb:Nat.beq a b with
  |false=>rfl
  |true=>exact absurd (Nat.eq_of_beq_eq_true hb) h0
section
variable {C:aM} {ow:FuncId→List Nat} {ev:Opd→V} {h:ak} {n:Nat} {α:Type} {e:En α} {l:List α}
theorem YO (x:Opd):ah C ow (.mv x) ev h n=some (ev x,[]):=rfl
def LN (c a b:V):Option (V×Upd):=match c with
 | .lit (.bool c)=>br c (some (a,[])) (some (b,[]))
 |_=>none
theorem TU (c a b:Opd):ah C ow (.pick c a b) ev h n=LN (ev c) (ev a) (ev b):=by
 simp only [ah]
 unfold LN
 split
 ·rename_i h;rw [h];rfl
 ·rename_i h;rw [h];rfl
 ·rename_i h1 h2
  split
  ·rename_i c' hc;cases c'
   ·exact absurd hc h2
   ·exact absurd hc h1
  ·rfl
theorem Pn (c:Bool) (a b:V):LN (.lit (.bool c)) a b=br c (some (a,[])) (some (b,[])):=rfl
def eH (op:BinOp) (x y:V):Option (V×Upd):=match x,y with
 | .lit a,.lit b=>match cJ op a b with
   |some v=>some (.lit v,[])
   |none=>none
 |_,_=>none
theorem Xq (op:BinOp) (x y:Opd):ah C ow (.bin op x y) ev h n=eH op (ev x) (ev y):=rfl
theorem XG (k:IntKind) (a b:Int):eH .add (.lit (.int k a)) (.lit (.int k b))=some (.lit (.int k (k.wrap (a+b))),[]):=by simp [eH,cJ]
theorem XO (k:IntKind) (a b:Int):eH .sub (.lit (.int k a)) (.lit (.int k b))=some (.lit (.int k (k.wrap (a-b))),[]):=by simp [eH,cJ]
theorem Xk (k:IntKind) (a b:Int):eH .mul (.lit (.int k a)) (.lit (.int k b))=some (.lit (.int k (k.wrap (a*b))),[]):=by simp [eH,cJ]
def nz (b:Int):Bool:=decide (b≠0)
theorem Yi (k:IntKind) (a b:Int):eH .quo (.lit (.int k a)) (.lit (.int k b))=br (nz b) (some (.lit (.int k (k.wrap (a.tdiv b))),[])) none:=by
 by_cases hb:b=0<;>simp [eH,cJ,br,nz,hb]
theorem Yw (k:IntKind) (a b:Int):eH .rem (.lit (.int k a)) (.lit (.int k b))=br (nz b) (some (.lit (.int k (a.tmod b)),[])) none:=by
 by_cases hb:b=0<;>simp [eH,cJ,br,nz,hb]
def tS (k:IntKind) (a b:Int):Int:=k.wrap (BitVec.ofInt k.bits a^^^BitVec.ofInt k.bits b).toNat
def vi (k:IntKind) (a b:Int):Int:=k.wrap (BitVec.ofInt k.bits a&&&BitVec.ofInt k.bits b).toNat
def wZ (k:IntKind) (a b:Int):Int:=k.wrap (BitVec.ofInt k.bits a|||BitVec.ofInt k.bits b).toNat
def FN (k:IntKind) (a b:Int):Int:=k.wrap (BitVec.ofInt k.bits a&&& ~~~ BitVec.ofInt k.bits b).toNat
def bc (k:IntKind) (a b:Int):Int:=k.wrap (a*2^(min b.toNat k.bits))
def wI (k:IntKind) (a b:Int):Int:=a.fdiv (2^(min b.toNat k.bits))
theorem XX (k:IntKind) (a b:Int):eH .and (.lit (.int k a)) (.lit (.int k b))=some (.lit (.int k (vi k a b)),[]):=by simp [eH,cJ,vi]
theorem YP (k:IntKind) (a b:Int):eH .or (.lit (.int k a)) (.lit (.int k b))=some (.lit (.int k (wZ k a b)),[]):=by simp [eH,cJ,wZ]
theorem WW (k:IntKind) (a b:Int):eH .xor (.lit (.int k a)) (.lit (.int k b))=some (.lit (.int k (tS k a b)),[]):=by simp [eH,cJ,tS]
theorem V8 (k:IntKind) (a b:Int):eH .andNot (.lit (.int k a)) (.lit (.int k b))=some (.lit (.int k (FN k a b)),[]):=by simp [eH,cJ,FN]
def nn (b:Int):Bool:=decide (0≤b)
theorem X7 (k k':IntKind) (a b:Int):eH .shl (.lit (.int k a)) (.lit (.int k' b))=br (nn b) (some (.lit (.int k (bc k a b)),[])) none:=by
 by_cases hb:0≤b<;>simp [eH,cJ,br,nn,hb,bc]
theorem XU (k k':IntKind) (a b:Int):eH .shr (.lit (.int k a)) (.lit (.int k' b))=br (nn b) (some (.lit (.int k (wI k a b)),[])) none:=by
 by_cases hb:0≤b<;>simp [eH,cJ,br,nn,hb,wI]
theorem Yq (k:IntKind) (a b:Int):eH .eql (.lit (.int k a)) (.lit (.int k b))=some (.lit (.bool (a==b)),[]):=by simp [eH,cJ]
theorem XW (k:IntKind) (a b:Int):eH .neq (.lit (.int k a)) (.lit (.int k b))=some (.lit (.bool (a !=b)),[]):=by simp [eH,cJ]
theorem X6 (k:IntKind) (a b:Int):eH .lss (.lit (.int k a)) (.lit (.int k b))=some (.lit (.bool (decide (a<b))),[]):=by simp [eH,cJ]
theorem XE (k:IntKind) (a b:Int):eH .leq (.lit (.int k a)) (.lit (.int k b))=some (.lit (.bool (decide (a≤b))),[]):=by simp [eH,cJ]
theorem Xz (k:IntKind) (a b:Int):eH .gtr (.lit (.int k a)) (.lit (.int k b))=some (.lit (.bool (decide (a>b))),[]):=by simp [eH,cJ]
theorem Ys (k:IntKind) (a b:Int):eH .geq (.lit (.int k a)) (.lit (.int k b))=some (.lit (.bool (decide (a≥b))),[]):=by simp [eH,cJ]
theorem AM (a:List UInt8):(⟨⟨a⟩⟩:ByteArray).size=a.length:=rfl
theorem CZ (d:ByteArray): ∀(k i:Nat) (r:List UInt8),d.size-i=k→ByteArray.toList.loop d i r=r.reverse++d.data.toList.drop i:=by
 intro k
 induction k with
 |zero=>
  intro i r hk
  unfold ByteArray.toList.loop
  have: ¬i<d.size:=by omega
  simp only [this,if_false]
  rw [List.drop_of_length_le]
  ·simp
  ·show d.data.size≤i
   exact (by omega:d.size≤i)
 |succ k ih=>
  intro i r hk
  unfold ByteArray.toList.loop
  have hlt:i<d.size:=by omega
  simp only [hlt,if_true]
  rw [ih (i+1) _ (by omega)]
  have hl:i<d.data.toList.length:=hlt
  rw [List.drop_eq_getElem_cons hl]
  have h3:i<d.data.size:=hlt
  simp only [ByteArray.get!,getElem!_pos,h3,List.reverse_cons,List.append_assoc,List.singleton_append,Array.getElem_toList]
theorem zK (a:List UInt8):(⟨⟨a⟩⟩:ByteArray).toList=a:=by
 unfold ByteArray.toList
 rw [CZ _ _ 0 [] rfl]
 simp
theorem U3 (a b:List UInt8):eH .add (S a) (S b)=br (aK (a.length+b.length) 1) (some (S (a++b),[])) none:=by
 have:(⟨⟨a⟩⟩:ByteArray)++⟨⟨b⟩⟩=⟨⟨a++b⟩⟩:=by
  apply ByteArray.ext
  simp [ByteArray.data_append]
 by_cases hb:a.length+b.length≤b9<;>simp [eH,cJ,br,aK,hb,AM,this]
theorem Uj (a b:List UInt8):eH .eql (S a) (S b)=some (.lit (.bool (a==b)),[]):=by simp [eH,cJ,zK]
theorem TH (a b:List UInt8):eH .neq (S a) (S b)=some (.lit (.bool (a !=b)),[]):=by simp [eH,cJ,zK,bne]
def eqS (neg:Bool) (ks:List Bool) (x y:V):Option (V×Upd):=match x,y with
 | .agg a,.agg b=>match bU ks a b with
   |some r=>some (.lit (.bool (if neg then !r else r)),[])
   |none=>none
 |_,_=>none
theorem Su (neg:Bool) (ks:List Bool) (x y:Opd):ah C ow (.eqAgg neg ks x y) ev h n=eqS neg ks (ev x) (ev y):=rfl
def eqN (neg:Bool):Option Bool→Option (V×Upd)
 |some r=>some (.lit (.bool (if neg then !r else r)),[])
 |none=>none
theorem Rs (neg:Bool) (ks:List Bool) (a b:List V):eqS neg ks (.agg a) (.agg b)=eqN neg (bU ks a b):=by
 unfold eqS eqN;rfl
theorem YF (r:Bool):eqN true (some r)=some (.lit (.bool !r),[]):=rfl
theorem Yc (r:Bool):eqN false (some r)=some (.lit (.bool r),[]):=rfl
theorem Vp (neg c:Bool) (x y:Option Bool):eqN neg (br c x y)=br c (eqN neg x) (eqN neg y):=by cases c<;>rfl
theorem Qt:bU [] [] []=some true:=rfl
theorem XL (ks:List Bool) (k:IntKind) (a b:Int) (x y:List V):bU (true::ks) (.lit (.int k a)::x) (.lit (.int k b)::y)=br (a==b) (bU ks x y) (some false):=by
 by_cases hb:a=b
 ·subst hb;simp [bU,bC]
 ·have:(a==b)=false:=by simpa using hb
  rw [this,aC];simp [bU,hb]
theorem XA (ks:List Bool) (a b:List UInt8) (x y:List V):bU (false::ks) (S a::x) (S b::y)=br (a==b) (bU ks x y) (some false):=by
 by_cases hb:a=b
 ·subst hb;simp [bU,bC]
 ·have:(a==b)=false:=by simpa using hb
  rw [this,aC];simp [bU,hb]
def Vy (neg:Bool) (x y:V):Option (V×Upd):=match x,y with
 | .lit (.bool a),.lit (.bool b)=>some (.lit (.bool (if neg then a !=b else a==b)),[])
 |_,_=>none
theorem Yr (neg:Bool) (x y:Opd):ah C ow (.beq neg x y) ev h n=Vy neg (ev x) (ev y):=rfl
theorem U0 (a b:Bool):Vy true (B a) (B b)=some (.lit (.bool (a !=b)),[]):=rfl
theorem TF (a b:Bool):Vy false (B a) (B b)=some (.lit (.bool (a==b)),[]):=rfl
def unS (op:UnOp) (x:V):Option (V×Upd):=match x with
 | .lit a=>match zG op a with
   |some v=>some (.lit v,[])
   |none=>none
 |_=>none
theorem Za (op:UnOp) (x:Opd):ah C ow (.un op x) ev h n=unS op (ev x):=rfl
theorem XC (b:Bool):unS .not (B b)=some (B (!b),[]):=rfl
theorem Xx (k:IntKind) (a:Int):unS .neg (.lit (.int k a))=some (.lit (.int k (k.wrap (0-a))),[]):=rfl
def Yu (k:IntKind) (a:Int):Int:=k.wrap (BitVec.ofInt k.bits (if k.signed then-1 else k.max)^^^BitVec.ofInt k.bits a).toNat
theorem Yf (k:IntKind) (a:Int):unS .xor (.lit (.int k a))=some (.lit (.int k (Yu k a)),[]):=rfl
def tiS (k:IntKind) (x:V):Option (V×Upd):=match asI x with
 |some m=>some (.lit (.int k (k.wrap m)),[])
 |none=>none
theorem R1 (k:IntKind) (x:Opd):ah C ow (.toInt k x) ev h n=tiS k (ev x):=rfl
theorem Yo (k k':IntKind) (m:Int):tiS k (.lit (.int k' m))=some (.lit (.int k (k.wrap m)),[]):=rfl
def Tj (x:V):Option (V×Upd):=match x with
 | .lit (.string s)=>some (.lit (.string s),[])
 |_=>none
theorem Ul (x:Opd):ah C ow (.same x) ev h n=Tj (ev x):=rfl
theorem Qh (s:List UInt8):Tj (S s)=some (S s,[]):=rfl
theorem Gm (f:FuncId) (cs:List Opd):ah C ow (.makeFunc f cs) ev h n=some (.fn f (cs.map ev),[]):=rfl
def Gf (str:Bool) (x:V):Option (V×Upd):=match str,x with
 |true,.lit (.string s)=>some (.lit (.int .i64 s.size),[])
 |false,.lit (.slice _ n _)=>some (.lit (.int .i64 n),[])
 |false,.sl _ _ n=>some (.lit (.int .i64 n),[])
 |false,.imm _ rows=>some (.lit (.int .i64 rows.length),[])
 |_,_=>none
theorem X9 (str:Bool) (x:Opd):ah C ow (.len str x) ev h n=Gf str (ev x):=rfl
theorem RE:Gf false (sl e l)=some (I (l.length:Nat),[]):=by
 rcases eK e l with ⟨rfl,h⟩|⟨_,h⟩<;>rw [h]<;>simp [Gf,rws]
theorem KI (b s m:Nat):Gf false (.sl b s m)=some (I (m:Nat),[]):=rfl
theorem OM:Gf false (.lit (.slice none 0 0))=some (I (0:Nat),[]):=rfl
theorem MS:Gf false (.imm 1 [])=some (I (0:Nat),[]):=rfl
theorem O1 (s:List UInt8):Gf true (S s)=some (I (s.length:Nat),[]):=rfl
def inS (neg:Bool) (x:V):Option (V×Upd):=match x with
 | .lit (.slice a _ _)=>some (.lit (.bool (if neg then !a.isNone else a.isNone)),[])
 | .imm _ (_::_)=>some (.lit (.bool neg),[])
 |_=>none
theorem QJ (neg:Bool) (x:Opd):ah C ow (.isNil neg x) ev h n=inS neg (ev x):=by
 simp only [ah];unfold inS;rfl
theorem GZ (neg:Bool) (m c:Nat):inS neg (.lit (.slice none m c))=some (B (!neg),[]):=by cases neg<;>rfl
theorem GI (neg:Bool) (a:Addr) (m c:Nat):inS neg (.lit (.slice (some a) m c))=some (B neg,[]):=by cases neg<;>rfl
theorem CE (neg:Bool) (e:En α) (x:α) (l:List α):inS neg (sl e (x::l))=some (B neg,[]):=rfl
theorem P0 (m:Nat) (x:Opd):ah C ow (.lenArr m x) ev h n=some (I (m:Nat),[]):=rfl
def Sk (x:V) (i:Nat):Option (V×Upd):=match x with
 | .tup vs=>match vs[i]? with
   |some v=>some (v,[])
   |none=>none
 |_=>none
theorem Xo (x:Opd) (i:Nat):ah C ow (.ext x i) ev h n=Sk (ev x) i:=rfl
theorem Vc (a:V) (r:List V):Sk (.tup (a::r)) 0=some (a,[]):=rfl
theorem Vr (a:V) (r:List V) (i:Nat):Sk (.tup (a::r)) (i+1)=Sk (.tup r) i:=rfl
def Vh (d:Nat) (x:V):Option (V×Upd):=match x with
 | .ptr b i o n=>some (.ptr b i (o+d) n,[])
 | .iptr r o=>some (.iptr r (o+d),[])
 |_=>none
theorem Yy (d:Nat) (x:Opd):ah C ow (.off d x) ev h n=Vh d (ev x):=rfl
theorem Ud (d b i o m:Nat):Vh d (.ptr b i o m)=some (.ptr b i (o+d) m,[]):=rfl
theorem VF (d:Nat) (r:List V) (o:Nat):Vh d (.iptr r o)=some (.iptr r (o+d),[]):=rfl
def ldS:Option V→Option (V×Upd)
 |some v=>some (v,[])
 |none=>none
theorem Na (v:V):ldS (some v)=some (v,[]):=rfl
theorem M7 {β:Type} (x:Option β) (f:β→Option V):ldS (x.bind f)=x.bind (fun a=>ldS (f a)):=by cases x<;>rfl
theorem Sg (a:V) (r:List V):part none (a::r) 0=some a:=rfl
theorem T5 (a:V) (r:List V) (o:Nat):part none (a::r) (o+1)=part none r o:=rfl
theorem Vb (m:Nat) (cs:List V) (o:Nat) (hm:(o+m).ble cs.length=true):part (some m) cs o=some (.agg ((cs.drop o).take m)):=by
 simp only [part]
 rw [if_pos (Nat.le_of_ble_eq_true hm)]
def LV (d:Nat) (agg:Option Nat) (x:V):Option (V×Upd):=match x with
 | .agg cs=>match part agg cs d with
   |some v=>some (v,[])
   |none=>none
 |_=>none
theorem SO (d:Nat) (agg:Option Nat) (x:Opd):ah C ow (.field d agg x) ev h n=LV d agg (ev x):=rfl
theorem NY (d:Nat) (agg:Option Nat) (cs:List V):LV d agg (.agg cs)=ldS (part agg cs d):=rfl
def WF (len esz:Nat) (agg:Option Nat) (x i:V):Option (V×Upd):=match x,asI i with
 | .agg cs,some i=>if 0≤i∧i.toNat<len then (match part agg cs (i.toNat*esz) with
   |some v=>some (v,[])
   |none=>none) else none
 |_,_=>none
theorem PX (len esz:Nat) (agg:Option Nat) (x i:Opd):ah C ow (.ixAgg len esz agg x i) ev h n=WF len esz agg (ev x) (ev i):=rfl
theorem Wa (len esz:Nat) (agg:Option Nat) (cs:List V) (k:IntKind) (i:Int):WF len esz agg (.agg cs) (.lit (.int k i))=br (inb i len) (ldS (part agg cs (i.toNat*esz))) none:=by
 unfold inb
 by_cases h1:0≤i<;>by_cases h2:i.toNat<len<;>simp [WF,asI,h1,h2,br,ldS]
def w6 (agg:Option Nat) (k:Option Blk) (i o m:Nat):Option V:=match k with
 |some k=>if k.rows.length=m then (match k.rows[i]? with
  |some row=>part agg row o
  |none=>none) else none
 |none=>none
theorem WG (agg:Option Nat) (a:Opd):ah C ow (.load agg a) ev h n=ldS (mo agg h (ev a)):=rfl
theorem Pw (agg:Option Nat) (b i o m:Nat):mo agg h (.ptr b i o m)=w6 agg (h b) i o m:=rfl
theorem QS (agg:Option Nat) (r:List V) (o:Nat):mo agg h (.iptr r o)=part agg r o:=rfl
theorem SJ (agg:Option Nat) (m:Nat) (row:List V) (o:Nat):w6 agg (some ⟨m,true,[row]⟩) 0 o 1=part agg row o:=rfl
theorem RN (agg:Option Nat) (m:Nat) (op:Bool) (i o q:Nat) (hq:l.length=q):w6 agg (some ⟨m,op,rws e l⟩) i o q=(l[i]?).bind (fun x=>part agg (e.enc x) o):=by
 simp only [w6,rws,List.length_map,List.getElem?_map]
 rw [if_pos hq]
 cases l[i]? <;>rfl
def AQ (k:Option Blk) (m b s q:Nat) (i:Int):Option (V×Upd):=match k with
 |some k=>if 0<k.esz∧k.esz=m∧s+q=k.rows.length∧i.toNat<q then some (.ptr b (s+i.toNat) 0 k.rows.length,[]) else none
 |none=>none
def E0 (m:Nat) (x i:V) (h:ak):Option (V×Upd):=match asI i with
 |some i=>if 0≤i then (match x with
  | .sl b s q=>AQ (h b) m b s q i
  | .imm e rows=>if e=m then (match rows[i.toNat]? with
    |some row=>some (.iptr row 0,[])
    |none=>none) else none
  |_=>none) else none
 |none=>none
theorem XB (m:Nat) (x i:Opd):ah C ow (.idx m x i) ev h n=E0 m (ev x) (ev i) h:=by
 simp only [ah,E0,AQ]
 cases asI (ev i) with
 |none=>rfl
 |some i=>
  dsimp only
  split
  ·cases ev x with
   |sl b s q=>dsimp only;cases h b<;>rfl
   |_=>rfl
  ·rfl
theorem QN (m:Nat) (hm:e.esz=m) (k:IntKind) (i:Int):E0 m (sl e l) (.lit (.int k i)) h=(atL l i).bind (fun x=>some (.iptr (e.enc x) 0,[])):=by
 subst hm
 unfold atL
 by_cases hi:0≤i
 ·rw [if_pos hi]
  rcases eK e l with ⟨rfl,hs⟩|⟨_,hs⟩
  ·rw [hs];simp [E0,asI]
  ·rw [hs]
   simp only [E0,asI,hi,if_true,rws,List.getElem?_map]
   cases l[i.toNat]? <;>rfl
 ·rw [if_neg hi];simp [E0,asI,hi]
theorem Ox (m b s q:Nat) (k:IntKind) (i:Int):E0 m (.sl b s q) (.lit (.int k i)) h=br (nn i) (AQ (h b) m b s q i) none:=by
 unfold nn
 by_cases hi:0≤i<;>simp [E0,asI,hi,br]
theorem Sw (m:Nat) (op:Bool) (b q:Nat) (i:Int) (h0:Nat.blt 0 m=true) (hq:l.length=q):AQ (some ⟨m,op,rws e l⟩) m b 0 q i=br (decide (i.toNat<q)) (some (.ptr b i.toNat 0 q,[])) none:=by
 have h0:0<m:=by have:=Nat.le_of_ble_eq_true h0;omega
 by_cases hi:i.toNat<q<;>simp [AQ,rws,hq,hi,br,h0]
theorem RV (m b:Nat) (row:List V) (i:Int):AQ (some ⟨m,true,[row]⟩) m b 0 1 i=br (Nat.blt 0 m&&decide (i.toNat<1)) (some (.ptr b i.toNat 0 1,[])) none:=by
 rw [pE]
 by_cases h0:0<m<;>by_cases hi:i.toNat<1<;>simp [AQ,hi,br,h0]
def Ex (len esz:Nat) (x i:V):Option (V×Upd):=match asI i with
 |some i=>if 0≤i∧i.toNat<len then (match x with
  | .ptr b j o n=>some (.ptr b j (o+i.toNat*esz) n,[])
  | .iptr r o=>some (.iptr r (o+i.toNat*esz),[])
  |_=>none) else none
 |none=>none
theorem Nm (len esz:Nat) (x i:Opd):ah C ow (.idxArr len esz x i) ev h n=Ex len esz (ev x) (ev i):=rfl
theorem PH (len esz b j o m:Nat) (k:IntKind) (i:Int):Ex len esz (.ptr b j o m) (.lit (.int k i))=br (inb i len) (some (.ptr b j (o+i.toNat*esz) m,[])) none:=by
 unfold inb
 by_cases h1:0≤i<;>by_cases h2:i.toNat<len<;>simp [Ex,asI,h1,h2,br]
theorem QW (len esz:Nat) (r:List V) (o:Nat) (k:IntKind) (i:Int):Ex len esz (.iptr r o) (.lit (.int k i))=br (inb i len) (some (.iptr r (o+i.toNat*esz),[])) none:=by
 unfold inb
 by_cases h1:0≤i<;>by_cases h2:i.toNat<len<;>simp [Ex,asI,h1,h2,br]
def Pd (x i:V):Option (V×Upd):=match x,asI i with
 | .lit (.string s),some i=>if 0≤i then (match s.data[i.toNat]? with
   |some b=>some (.lit (.int .u8 b.toNat),[])
   |none=>none) else none
 |_,_=>none
theorem T8 (x i:Opd):ah C ow (.ixStr x i) ev h n=Pd (ev x) (ev i):=rfl
theorem VW (s:List UInt8) (k:IntKind) (i:Int):Pd (S s) (.lit (.int k i))=(atL s i).bind (fun b=>some (.lit (.int .u8 b.toNat),[])):=by
 unfold atL
 by_cases hi:0≤i
 ·simp only [Pd,asI,hi,if_true]
  have:(⟨⟨s⟩⟩:ByteArray).data[i.toNat]? =s[i.toNat]? :=by simp
  rw [this]
  cases s[i.toNat]? <;>rfl
 ·simp [Pd,asI,hi]
def frO (k:Option Blk) (n:Nat) (b:Blk) (v:V):Option (V×Upd):=match k with
 |none=>br (Nat.blt 0 b.esz) (some (v,[(n,b)])) none
 |some _=>none
theorem lQ (b:Blk) (v:V):fE h n b v=frO (h n) n b v:=by
 unfold fE frO
 cases h n with
 |none=>rw [pE];by_cases hb:0<b.esz<;>simp [hb,br]
 |some k=>simp
theorem L3 (b:Blk) (v:V):frO none n b v=br (Nat.blt 0 b.esz) (some (v,[(n,b)])) none:=rfl
theorem GK (zero:List Value):ah C ow (.alloc zero) ev h n=br (zero.all aN) (frO (h n) n ⟨zero.length,true,[zero.map .lit]⟩ (.ptr n 0 0 1)) none:=by
 simp only [ah,lQ]
 cases zero.all aN<;>rfl
def Wf (size:Nat) (cs:List V) (h:ak) (n:Nat):Option (V×Upd):=br (Nat.beq cs.length size&&cs.all V.cell) (frO (h n) n ⟨size,true,[cs]⟩ (.ptr n 0 0 1)) none
theorem Y6 (size:Nat) (x:Opd):ah C ow (.box size x) ev h n=Wf size (ev x).cells h n:=by
 simp only [ah,lQ,Wf,tX]
 by_cases h1:(ev x).cells.length=size<;>cases h2:(ev x).cells.all V.cell<;>simp [h1,br]
def vH (cells:List V):List (Nat×Nat×V)→Option (List V)
 |[]=>some cells
 | (off,size,v)::r=>br (Nat.beq v.cells.length size&&Nat.ble (off+size) cells.length&&v.cells.all V.cell) (vH (cells.take off++(v.cells++cells.drop (off+size))) r) none
theorem wR: ∀(ps:List (Nat×Nat×V)) (cells:List V),rW cells ps=vH cells ps
 |[],_=>rfl
 | (off,size,v)::r,cells=>by
   simp only [rW,vH,tX,u3]
   rw [←wR r]
   by_cases h1:v.cells.length=size<;>by_cases h2:off+size≤cells.length<;>cases h3:v.cells.all V.cell<;>simp [h1,h2,br]
def UE:Option (List V)→Option (V×Upd)
 |some cs=>some (.agg cs,[])
 |none=>none
theorem Bp (zero:List Value) (ps:List (Nat×Nat×Opd)):ah C ow (.build zero ps) ev h n=br (zero.all aN) (UE (vH (zero.map .lit) (da ev ps))) none:=by
 simp only [ah,wR,UE]
 cases zero.all aN
 ·rfl
 ·simp only [bC,if_true]
  cases vH (zero.map .lit) (da ev ps)<;>rfl
theorem Ib (cs:List V):UE (some cs)=some (.agg cs,[]):=rfl
end
end Go.AI
