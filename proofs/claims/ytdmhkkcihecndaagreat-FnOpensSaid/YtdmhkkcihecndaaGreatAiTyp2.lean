/- The machine's operations as words over values; what they come to on values of Lean's own types. -/
import Derived.Test.YtdmhkkcihecndaaGreatAiTyp
set_option linter.unusedVariables false
set_option linter.unusedSimpArgs false
namespace Go.AI
theorem KE (a b:Nat):Nat.ble a b=decide (a≤b):=by
 by_cases h0:a≤b
 ·rw [decide_eq_true h0];exact Nat.ble_eq_true_of_le h0
 ·rw [decide_eq_false h0];cases hb:Nat.ble a b with
  |false=>rfl
  |true=>exact absurd (Nat.le_of_ble_eq_true hb) h0
theorem KM (a b:Nat):Nat.blt a b=decide (a<b):=KE (a+1) b
theorem Ns (a b:Nat):Nat.beq a b=decide (a=b):=by
 by_cases h0:a=b
 ·rw [decide_eq_true h0,h0];exact Nat.beq_refl b
 ·rw [decide_eq_false h0];cases hb:Nat.beq a b with
  |false=>rfl
  |true=>exact absurd (Nat.eq_of_beq_eq_true hb) h0
section
variable {C:ba} {ow:FuncId→List Nat} {ev:Opd→V} {h:aw} {n:Nat} {α:Type} {e:En α} {l:List α}
theorem b7e (x:Opd):aj C ow (.mv x) ev h n=some (ev x,[]):=rfl
def a85 (c a b:V):Option (V×Upd):=match c with
 | .lit (.bool c)=>br c (some (a,[])) (some (b,[]))
 |_=>none
theorem b4F (c a b:Opd):aj C ow (.pick c a b) ev h n=a85 (ev c) (ev a) (ev b):=by
 simp only [aj]
 unfold a85
 split
 ·rename_i h;rw [h];rfl
 ·rename_i h;rw [h];rfl
 ·rename_i h1 h2
  split
  ·rename_i c' hc;cases c'
   ·exact absurd hc h2
   ·exact absurd hc h1
  ·rfl
theorem a94 (c:Bool) (a b:V):a85 (.lit (.bool c)) a b=br c (some (a,[])) (some (b,[])):=rfl
def gM (op:BinOp) (x y:V):Option (V×Upd):=match x,y with
 | .lit a,.lit b=>match dI op a b with
   |some v=>some (.lit v,[])
   |none=>none
 |_,_=>none
theorem b6K (op:BinOp) (x y:Opd):aj C ow (.bin op x y) ev h n=gM op (ev x) (ev y):=rfl
theorem b6Q (k:IntKind) (a b:Int):gM .add (.lit (.int k a)) (.lit (.int k b))=some (.lit (.int k (k.wrap (a+b))),[]):=by simp [gM,dI]
theorem b5R (k:IntKind) (a b:Int):gM .sub (.lit (.int k a)) (.lit (.int k b))=some (.lit (.int k (k.wrap (a-b))),[]):=by simp [gM,dI]
theorem b70 (k:IntKind) (a b:Int):gM .mul (.lit (.int k a)) (.lit (.int k b))=some (.lit (.int k (k.wrap (a*b))),[]):=by simp [gM,dI]
def nz (b:Int):Bool:=decide (b≠0)
theorem b5M (k:IntKind) (a b:Int):gM .quo (.lit (.int k a)) (.lit (.int k b))=br (nz b) (some (.lit (.int k (k.wrap (a.tdiv b))),[])) none:=by
 by_cases hb:b=0<;>simp [gM,dI,br,nz,hb]
theorem b75 (k:IntKind) (a b:Int):gM .rem (.lit (.int k a)) (.lit (.int k b))=br (nz b) (some (.lit (.int k (a.tmod b)),[])) none:=by
 by_cases hb:b=0<;>simp [gM,dI,br,nz,hb]
def ga (k:IntKind) (a b:Int):Int:=k.wrap (BitVec.ofInt k.bits a^^^BitVec.ofInt k.bits b).toNat
def bm (k:IntKind) (a b:Int):Int:=k.wrap (BitVec.ofInt k.bits a&&&BitVec.ofInt k.bits b).toNat
def vX (k:IntKind) (a b:Int):Int:=k.wrap (BitVec.ofInt k.bits a|||BitVec.ofInt k.bits b).toNat
def NL (k:IntKind) (a b:Int):Int:=k.wrap (BitVec.ofInt k.bits a&&& ~~~ BitVec.ofInt k.bits b).toNat
def bX (k:IntKind) (a b:Int):Int:=k.wrap (a*2^(min b.toNat k.bits))
def aM (k:IntKind) (a b:Int):Int:=a.fdiv (2^(min b.toNat k.bits))
theorem b5J (k:IntKind) (a b:Int):gM .and (.lit (.int k a)) (.lit (.int k b))=some (.lit (.int k (bm k a b)),[]):=by simp [gM,dI,bm]
theorem b7J (k:IntKind) (a b:Int):gM .or (.lit (.int k a)) (.lit (.int k b))=some (.lit (.int k (vX k a b)),[]):=by simp [gM,dI,vX]
theorem b6C (k:IntKind) (a b:Int):gM .xor (.lit (.int k a)) (.lit (.int k b))=some (.lit (.int k (ga k a b)),[]):=by simp [gM,dI,ga]
theorem b3A (k:IntKind) (a b:Int):gM .andNot (.lit (.int k a)) (.lit (.int k b))=some (.lit (.int k (NL k a b)),[]):=by simp [gM,dI,NL]
def nn (b:Int):Bool:=decide (0≤b)
theorem b6t (k k':IntKind) (a b:Int):gM .shl (.lit (.int k a)) (.lit (.int k' b))=br (nn b) (some (.lit (.int k (bX k a b)),[])) none:=by
 by_cases hb:0≤b<;>simp [gM,dI,br,nn,hb,bX]
theorem b76 (k k':IntKind) (a b:Int):gM .shr (.lit (.int k a)) (.lit (.int k' b))=br (nn b) (some (.lit (.int k (aM k a b)),[])) none:=by
 by_cases hb:0≤b<;>simp [gM,dI,br,nn,hb,aM]
theorem b6L (k:IntKind) (a b:Int):gM .eql (.lit (.int k a)) (.lit (.int k b))=some (.lit (.bool (a==b)),[]):=by simp [gM,dI]
theorem b6Y (k:IntKind) (a b:Int):gM .neq (.lit (.int k a)) (.lit (.int k b))=some (.lit (.bool (a !=b)),[]):=by simp [gM,dI]
theorem b6h (k:IntKind) (a b:Int):gM .lss (.lit (.int k a)) (.lit (.int k b))=some (.lit (.bool (decide (a<b))),[]):=by simp [gM,dI]
theorem b5w (k:IntKind) (a b:Int):gM .leq (.lit (.int k a)) (.lit (.int k b))=some (.lit (.bool (decide (a≤b))),[]):=by simp [gM,dI]
theorem b72 (k:IntKind) (a b:Int):gM .gtr (.lit (.int k a)) (.lit (.int k b))=some (.lit (.bool (decide (a>b))),[]):=by simp [gM,dI]
theorem b5I (k:IntKind) (a b:Int):gM .geq (.lit (.int k a)) (.lit (.int k b))=some (.lit (.bool (decide (a≥b))),[]):=by simp [gM,dI]
theorem Sf (a:List UInt8):(⟨⟨a⟩⟩:ByteArray).size=a.length:=rfl
theorem Wz (d:ByteArray): ∀(k i:Nat) (r:List UInt8),d.size-i=k→ByteArray.toList.loop d i r=r.reverse++d.data.toList.drop i:=by
 intro k
 induction k with
 |zero=>
  intro i r hk
  unfold ByteArray.toList.loop
  have: ¬i<d.size:=by omega
  simp only [this,if_false]
  rw [List.drop_of_length_le]
  ·simp
  ·show d.data.size≤i
   exact (by omega:d.size≤i)
 |succ k ih=>
  intro i r hk
  unfold ByteArray.toList.loop
  have hlt:i<d.size:=by omega
  simp only [hlt,if_true]
  rw [ih (i+1) _ (by omega)]
  have hl:i<d.data.toList.length:=hlt
  rw [List.drop_eq_getElem_cons hl]
  have h3:i<d.data.size:=hlt
  simp only [ByteArray.get!,getElem!_pos,h3,List.reverse_cons,List.append_assoc,List.singleton_append,Array.getElem_toList]
theorem Rl (a:List UInt8):(⟨⟨a⟩⟩:ByteArray).toList=a:=by
 unfold ByteArray.toList
 rw [Wz _ _ 0 [] rfl]
 simp
theorem b4k (a b:List UInt8):gM .add (S a) (S b)=br (bc (a.length+b.length) 1) (some (S (a++b),[])) none:=by
 have:(⟨⟨a⟩⟩:ByteArray)++⟨⟨b⟩⟩=⟨⟨a++b⟩⟩:=by
  apply ByteArray.ext
  simp [ByteArray.data_append]
 by_cases hb:a.length+b.length≤bC<;>simp [gM,dI,br,bc,hb,Sf,this]
theorem b4S (a b:List UInt8):gM .eql (S a) (S b)=some (.lit (.bool (a==b)),[]):=by simp [gM,dI,Rl]
theorem b3O (a b:List UInt8):gM .neq (S a) (S b)=some (.lit (.bool (a !=b)),[]):=by simp [gM,dI,Rl,bne]
def eqS (neg:Bool) (ks:List Bool) (x y:V):Option (V×Upd):=match x,y with
 | .agg a,.agg b=>match dK ks a b with
   |some r=>some (.lit (.bool (if neg then !r else r)),[])
   |none=>none
 |_,_=>none
theorem a8F (neg:Bool) (ks:List Bool) (x y:Opd):aj C ow (.eqAgg neg ks x y) ev h n=eqS neg ks (ev x) (ev y):=rfl
def eqN (neg:Bool):Option Bool→Option (V×Upd)
 |some r=>some (.lit (.bool (if neg then !r else r)),[])
 |none=>none
theorem a9y (neg:Bool) (ks:List Bool) (a b:List V):eqS neg ks (.agg a) (.agg b)=eqN neg (dK ks a b):=by
 unfold eqS eqN;rfl
theorem b6F (r:Bool):eqN true (some r)=some (.lit (.bool !r),[]):=rfl
theorem b4g (neg c:Bool) (x y:Option Bool):eqN neg (br c x y)=br c (eqN neg x) (eqN neg y):=by cases c<;>rfl
theorem b1w:dK [] [] []=some true:=rfl
theorem b6x (ks:List Bool) (k:IntKind) (a b:Int) (x y:List V):dK (true::ks) (.lit (.int k a)::x) (.lit (.int k b)::y)=br (a==b) (dK ks x y) (some false):=by
 by_cases hb:a=b
 ·subst hb;simp [dK,aR]
 ·have:(a==b)=false:=by simpa using hb
  rw [this,ak];simp [dK,hb]
def b6O (neg:Bool) (x y:V):Option (V×Upd):=match x,y with
 | .lit (.bool a),.lit (.bool b)=>some (.lit (.bool (if neg then a !=b else a==b)),[])
 |_,_=>none
theorem b63 (neg:Bool) (x y:Opd):aj C ow (.beq neg x y) ev h n=b6O neg (ev x) (ev y):=rfl
theorem b3e (a b:Bool):b6O true (B a) (B b)=some (.lit (.bool (a !=b)),[]):=rfl
def unS (op:UnOp) (x:V):Option (V×Upd):=match x with
 | .lit a=>match Ru op a with
   |some v=>some (.lit v,[])
   |none=>none
 |_=>none
theorem b7n (op:UnOp) (x:Opd):aj C ow (.un op x) ev h n=unS op (ev x):=rfl
theorem b5s (b:Bool):unS .not (B b)=some (B (!b),[]):=rfl
def bQ (k:IntKind) (a:Int):Int:=k.wrap (BitVec.ofInt k.bits (if k.signed then-1 else k.max)^^^BitVec.ofInt k.bits a).toNat
theorem b6V (k:IntKind) (a:Int):unS .xor (.lit (.int k a))=some (.lit (.int k (bQ k a)),[]):=rfl
def tiS (k:IntKind) (x:V):Option (V×Upd):=match asI x with
 |some m=>some (.lit (.int k (k.wrap m)),[])
 |none=>none
theorem a93 (k:IntKind) (x:Opd):aj C ow (.toInt k x) ev h n=tiS k (ev x):=rfl
theorem b65 (k k':IntKind) (m:Int):tiS k (.lit (.int k' m))=some (.lit (.int k (k.wrap m)),[]):=rfl
def b7L (x:V):Option (V×Upd):=match x with
 | .lit (.string s)=>some (.lit (.string s),[])
 |_=>none
theorem Z0 (f:FuncId) (cs:List Opd):aj C ow (.makeFunc f cs) ev h n=some (.fn f (cs.map ev),[]):=rfl
def a4G (str:Bool) (x:V):Option (V×Upd):=match str,x with
 |true,.lit (.string s)=>some (.lit (.int .i64 s.size),[])
 |false,.lit (.slice _ n _)=>some (.lit (.int .i64 n),[])
 |false,.sl _ _ n=>some (.lit (.int .i64 n),[])
 |false,.imm _ rows=>some (.lit (.int .i64 rows.length),[])
 |_,_=>none
theorem b67 (str:Bool) (x:Opd):aj C ow (.len str x) ev h n=a4G str (ev x):=rfl
theorem b0K:a4G false (sl e l)=some (I (l.length:Nat),[]):=by
 rcases jm e l with ⟨rfl,h⟩|⟨_,h⟩<;>rw [h]<;>simp [a4G,rws]
theorem a8v (b s m:Nat):a4G false (.sl b s m)=some (I (m:Nat),[]):=rfl
theorem a5G (s:List UInt8):a4G true (S s)=some (I (s.length:Nat),[]):=rfl
def inS (neg:Bool) (x:V):Option (V×Upd):=match x with
 | .lit (.slice a _ _)=>some (.lit (.bool (if neg then !a.isNone else a.isNone)),[])
 | .imm _ (_::_)=>some (.lit (.bool neg),[])
 |_=>none
theorem a9g (neg:Bool) (x:Opd):aj C ow (.isNil neg x) ev h n=inS neg (ev x):=by
 simp only [aj];unfold inS;rfl
theorem a0D (neg:Bool) (a:Addr) (m c:Nat):inS neg (.lit (.slice (some a) m c))=some (B neg,[]):=by cases neg<;>rfl
theorem We (neg:Bool) (e:En α) (x:α) (l:List α):inS neg (sl e (x::l))=some (B neg,[]):=rfl
def a9S (x:V) (i:Nat):Option (V×Upd):=match x with
 | .tup vs=>match vs[i]? with
   |some v=>some (v,[])
   |none=>none
 |_=>none
theorem b6M (x:Opd) (i:Nat):aj C ow (.ext x i) ev h n=a9S (ev x) i:=rfl
theorem b3Z (a:V) (r:List V):a9S (.tup (a::r)) 0=some (a,[]):=rfl
theorem b4x (a:V) (r:List V) (i:Nat):a9S (.tup (a::r)) (i+1)=a9S (.tup r) i:=rfl
def b4a (d:Nat) (x:V):Option (V×Upd):=match x with
 | .ptr b i o n=>some (.ptr b i (o+d) n,[])
 | .iptr r o=>some (.iptr r (o+d),[])
 |_=>none
theorem b6o (d:Nat) (x:Opd):aj C ow (.off d x) ev h n=b4a d (ev x):=rfl
theorem b5h (d b i o m:Nat):b4a d (.ptr b i o m)=some (.ptr b i (o+d) m,[]):=rfl
theorem b38 (d:Nat) (r:List V) (o:Nat):b4a d (.iptr r o)=some (.iptr r (o+d),[]):=rfl
def ldS:Option V→Option (V×Upd)
 |some v=>some (v,[])
 |none=>none
theorem a8f (v:V):ldS (some v)=some (v,[]):=rfl
theorem a4l {β:Type} (x:Option β) (f:β→Option V):ldS (x.bind f)=x.bind (fun a=>ldS (f a)):=by cases x<;>rfl
theorem b0U (a:V) (r:List V):part none (a::r) 0=some a:=rfl
theorem a8M (a:V) (r:List V) (o:Nat):part none (a::r) (o+1)=part none r o:=rfl
theorem b41 (m:Nat) (cs:List V) (o:Nat) (hm:(o+m).ble cs.length=true):part (some m) cs o=some (.agg ((cs.drop o).take m)):=by
 simp only [part]
 rw [if_pos (Nat.le_of_ble_eq_true hm)]
def a7F (d:Nat) (agg:Option Nat) (x:V):Option (V×Upd):=match x with
 | .agg cs=>match part agg cs d with
   |some v=>some (v,[])
   |none=>none
 |_=>none
theorem b1Q (d:Nat) (agg:Option Nat) (x:Opd):aj C ow (.field d agg x) ev h n=a7F d agg (ev x):=rfl
theorem a5Z (d:Nat) (agg:Option Nat) (cs:List V):a7F d agg (.agg cs)=ldS (part agg cs d):=rfl
def b3U (len esz:Nat) (agg:Option Nat) (x i:V):Option (V×Upd):=match x,asI i with
 | .agg cs,some i=>if 0≤i∧i.toNat<len then (match part agg cs (i.toNat*esz) with
   |some v=>some (v,[])
   |none=>none) else none
 |_,_=>none
theorem b1C (len esz:Nat) (agg:Option Nat) (x i:Opd):aj C ow (.ixAgg len esz agg x i) ev h n=b3U len esz agg (ev x) (ev i):=rfl
theorem b3I (len esz:Nat) (agg:Option Nat) (cs:List V) (k:IntKind) (i:Int):b3U len esz agg (.agg cs) (.lit (.int k i))=br (inb i len) (ldS (part agg cs (i.toNat*esz))) none:=by
 unfold inb
 by_cases h1:0≤i<;>by_cases h2:i.toNat<len<;>simp [b3U,asI,h1,h2,br,ldS]
def a9o (agg:Option Nat) (k:Option Blk) (i o m:Nat):Option V:=match k with
 |some k=>if k.rows.length=m then (match k.rows[i]? with
  |some row=>part agg row o
  |none=>none) else none
 |none=>none
theorem b55 (agg:Option Nat) (a:Opd):aj C ow (.load agg a) ev h n=ldS (sX agg h (ev a)):=rfl
theorem b1x (agg:Option Nat) (b i o m:Nat):sX agg h (.ptr b i o m)=a9o agg (h b) i o m:=rfl
theorem b1R (agg:Option Nat) (r:List V) (o:Nat):sX agg h (.iptr r o)=part agg r o:=rfl
theorem a9h (agg:Option Nat) (m:Nat) (row:List V) (o:Nat):a9o agg (some ⟨m,true,[row]⟩) 0 o 1=part agg row o:=rfl
theorem b1P (agg:Option Nat) (m:Nat) (op:Bool) (i o q:Nat) (hq:l.length=q):a9o agg (some ⟨m,op,rws e l⟩) i o q=(l[i]?).bind (fun x=>part agg (e.enc x) o):=by
 simp only [a9o,rws,List.length_map,List.getElem?_map]
 rw [if_pos hq]
 cases l[i]? <;>rfl
def a8q (k:Option Blk) (m b s q:Nat) (i:Int):Option (V×Upd):=match k with
 |some k=>if 0<k.esz∧k.esz=m∧s+q=k.rows.length∧i.toNat<q then some (.ptr b (s+i.toNat) 0 k.rows.length,[]) else none
 |none=>none
def Wc (m:Nat) (x i:V) (h:aw):Option (V×Upd):=match asI i with
 |some i=>if 0≤i then (match x with
  | .sl b s q=>a8q (h b) m b s q i
  | .imm e rows=>if e=m then (match rows[i.toNat]? with
    |some row=>some (.iptr row 0,[])
    |none=>none) else none
  |_=>none) else none
 |none=>none
theorem b74 (m:Nat) (x i:Opd):aj C ow (.idx m x i) ev h n=Wc m (ev x) (ev i) h:=by
 simp only [aj,Wc,a8q]
 cases asI (ev i) with
 |none=>rfl
 |some i=>
  dsimp only
  split
  ·cases ev x with
   |sl b s q=>dsimp only;cases h b<;>rfl
   |_=>rfl
  ·rfl
theorem b1O (m:Nat) (hm:e.esz=m) (k:IntKind) (i:Int):Wc m (sl e l) (.lit (.int k i)) h=(atL l i).bind (fun x=>some (.iptr (e.enc x) 0,[])):=by
 subst hm
 unfold atL
 by_cases hi:0≤i
 ·rw [if_pos hi]
  rcases jm e l with ⟨rfl,hs⟩|⟨_,hs⟩
  ·rw [hs];simp [Wc,asI]
  ·rw [hs]
   simp only [Wc,asI,hi,if_true,rws,List.getElem?_map]
   cases l[i.toNat]? <;>rfl
 ·rw [if_neg hi];simp [Wc,asI,hi]
theorem a4J (m b s q:Nat) (k:IntKind) (i:Int):Wc m (.sl b s q) (.lit (.int k i)) h=br (nn i) (a8q (h b) m b s q i) none:=by
 unfold nn
 by_cases hi:0≤i<;>simp [Wc,asI,hi,br]
theorem b0y (m:Nat) (op:Bool) (b q:Nat) (i:Int) (h0:Nat.blt 0 m=true) (hq:l.length=q):a8q (some ⟨m,op,rws e l⟩) m b 0 q i=br (decide (i.toNat<q)) (some (.ptr b i.toNat 0 q,[])) none:=by
 have h0:0<m:=by have:=Nat.le_of_ble_eq_true h0;omega
 by_cases hi:i.toNat<q<;>simp [a8q,rws,hq,hi,br,h0]
def a7L (len esz:Nat) (x i:V):Option (V×Upd):=match asI i with
 |some i=>if 0≤i∧i.toNat<len then (match x with
  | .ptr b j o n=>some (.ptr b j (o+i.toNat*esz) n,[])
  | .iptr r o=>some (.iptr r (o+i.toNat*esz),[])
  |_=>none) else none
 |none=>none
theorem a4L (len esz:Nat) (x i:Opd):aj C ow (.idxArr len esz x i) ev h n=a7L len esz (ev x) (ev i):=rfl
theorem a9s (len esz b j o m:Nat) (k:IntKind) (i:Int):a7L len esz (.ptr b j o m) (.lit (.int k i))=br (inb i len) (some (.ptr b j (o+i.toNat*esz) m,[])) none:=by
 unfold inb
 by_cases h1:0≤i<;>by_cases h2:i.toNat<len<;>simp [a7L,asI,h1,h2,br]
def b1W (x i:V):Option (V×Upd):=match x,asI i with
 | .lit (.string s),some i=>if 0≤i then (match s.data[i.toNat]? with
   |some b=>some (.lit (.int .u8 b.toNat),[])
   |none=>none) else none
 |_,_=>none
theorem b0p (x i:Opd):aj C ow (.ixStr x i) ev h n=b1W (ev x) (ev i):=rfl
theorem b3z (s:List UInt8) (k:IntKind) (i:Int):b1W (S s) (.lit (.int k i))=(atL s i).bind (fun b=>some (.lit (.int .u8 b.toNat),[])):=by
 unfold atL
 by_cases hi:0≤i
 ·simp only [b1W,asI,hi,if_true]
  have:(⟨⟨s⟩⟩:ByteArray).data[i.toNat]? =s[i.toNat]? :=by simp
  rw [this]
  cases s[i.toNat]? <;>rfl
 ·simp [b1W,asI,hi]
def frO (k:Option Blk) (n:Nat) (b:Blk) (v:V):Option (V×Upd):=match k with
 |none=>br (Nat.blt 0 b.esz) (some (v,[(n,b)])) none
 |some _=>none
theorem wv (b:Blk) (v:V):jH h n b v=frO (h n) n b v:=by
 unfold jH frO
 cases h n with
 |none=>rw [KM];by_cases hb:0<b.esz<;>simp [hb,br]
 |some k=>simp
theorem a4I (b:Blk) (v:V):frO none n b v=br (Nat.blt 0 b.esz) (some (v,[(n,b)])) none:=rfl
theorem a0U (zero:List Value):aj C ow (.alloc zero) ev h n=br (zero.all aS) (frO (h n) n ⟨zero.length,true,[zero.map .lit]⟩ (.ptr n 0 0 1)) none:=by
 simp only [aj,wv]
 cases zero.all aS<;>rfl
def b3g (size:Nat) (cs:List V) (h:aw) (n:Nat):Option (V×Upd):=br (Nat.beq cs.length size&&cs.all V.cell) (frO (h n) n ⟨size,true,[cs]⟩ (.ptr n 0 0 1)) none
theorem b5K (size:Nat) (x:Opd):aj C ow (.box size x) ev h n=b3g size (ev x).cells h n:=by
 simp only [aj,wv,b3g,Ns]
 by_cases h1:(ev x).cells.length=size<;>cases h2:(ev x).cells.all V.cell<;>simp [h1,br]
def JY (cells:List V):List (Nat×Nat×V)→Option (List V)
 |[]=>some cells
 | (off,size,v)::r=>br (Nat.beq v.cells.length size&&Nat.ble (off+size) cells.length&&v.cells.all V.cell) (JY (cells.take off++(v.cells++cells.drop (off+size))) r) none
theorem OA: ∀(ps:List (Nat×Nat×V)) (cells:List V),D1 cells ps=JY cells ps
 |[],_=>rfl
 | (off,size,v)::r,cells=>by
   simp only [D1,JY,Ns,KE]
   rw [←OA r]
   by_cases h1:v.cells.length=size<;>by_cases h2:off+size≤cells.length<;>cases h3:v.cells.all V.cell<;>simp [h1,h2,br]
def b5n:Option (List V)→Option (V×Upd)
 |some cs=>some (.agg cs,[])
 |none=>none
theorem U5 (zero:List Value) (ps:List (Nat×Nat×Opd)):aj C ow (.build zero ps) ev h n=br (zero.all aS) (b5n (JY (zero.map .lit) (en ev ps))) none:=by
 simp only [aj,OA,b5n]
 cases zero.all aS
 ·rfl
 ·simp only [aR,if_true]
  cases JY (zero.map .lit) (en ev ps)<;>rfl
theorem a3k (cs:List V):b5n (some cs)=some (.agg cs,[]):=rfl
end
end Go.AI
