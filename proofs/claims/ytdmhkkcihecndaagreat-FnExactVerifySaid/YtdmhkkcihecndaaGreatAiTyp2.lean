/- The machine's operations as words over values; what they come to on values of Lean's own types. -/
import Derived.Test.YtdmhkkcihecndaaGreatAiTyp
set_option linter.unusedVariables false
set_option linter.unusedSimpArgs false
namespace Go.AI
theorem JM (a b:Nat):Nat.ble a b=decide (a≤b):=by
 by_cases h0:a≤b
 ·rw [decide_eq_true h0];exact Nat.ble_eq_true_of_le h0
 ·rw [decide_eq_false h0];cases hb:Nat.ble a b with
  |false=>rfl
  |true=>exact absurd (Nat.le_of_ble_eq_true hb) h0
theorem Dz (a b:Nat):Nat.blt a b=decide (a<b):=JM (a+1) b
theorem J5 (a b:Nat):Nat.beq a b=decide (a=b):=by
 by_cases h0:a=b
 ·rw [decide_eq_true h0,h0];exact Nat.beq_refl b
 ·rw [decide_eq_false h0];cases hb:Nat.beq a b with
  |false=>rfl
  |true=>exact absurd (Nat.eq_of_beq_eq_true hb) h0
section
variable {C:aU} {ow:FuncId→List Nat} {ev:Opd→V} {h:ak} {n:Nat} {α:Type} {e:En α} {l:List α}
theorem b6O (x:Opd):ai C ow (.mv x) ev h n=some (ev x,[]):=rfl
def a7l (c a b:V):Option (V×Upd):=match c with
 | .lit (.bool c)=>br c (some (a,[])) (some (b,[]))
 |_=>none
theorem b3C (c a b:Opd):ai C ow (.pick c a b) ev h n=a7l (ev c) (ev a) (ev b):=by
 simp only [ai]
 unfold a7l
 split
 ·rename_i h;rw [h];rfl
 ·rename_i h;rw [h];rfl
 ·rename_i h1 h2
  split
  ·rename_i c' hc;cases c'
   ·exact absurd hc h2
   ·exact absurd hc h1
  ·rfl
theorem a9K (c:Bool) (a b:V):a7l (.lit (.bool c)) a b=br c (some (a,[])) (some (b,[])):=rfl
def gD (op:BinOp) (x y:V):Option (V×Upd):=match x,y with
 | .lit a,.lit b=>match dG op a b with
   |some v=>some (.lit v,[])
   |none=>none
 |_,_=>none
theorem b5o (op:BinOp) (x y:Opd):ai C ow (.bin op x y) ev h n=gD op (ev x) (ev y):=rfl
theorem b5F (k:IntKind) (a b:Int):gD .add (.lit (.int k a)) (.lit (.int k b))=some (.lit (.int k (k.wrap (a+b))),[]):=by simp [gD,dG]
theorem b5O (k:IntKind) (a b:Int):gD .sub (.lit (.int k a)) (.lit (.int k b))=some (.lit (.int k (k.wrap (a-b))),[]):=by simp [gD,dG]
theorem b5k (k:IntKind) (a b:Int):gD .mul (.lit (.int k a)) (.lit (.int k b))=some (.lit (.int k (k.wrap (a*b))),[]):=by simp [gD,dG]
def nz (b:Int):Bool:=decide (b≠0)
theorem b5d (k:IntKind) (a b:Int):gD .quo (.lit (.int k a)) (.lit (.int k b))=br (nz b) (some (.lit (.int k (k.wrap (a.tdiv b))),[])) none:=by
 by_cases hb:b=0<;>simp [gD,dG,br,nz,hb]
theorem b5b (k:IntKind) (a b:Int):gD .rem (.lit (.int k a)) (.lit (.int k b))=br (nz b) (some (.lit (.int k (a.tmod b)),[])) none:=by
 by_cases hb:b=0<;>simp [gD,dG,br,nz,hb]
def mp (k:IntKind) (a b:Int):Int:=k.wrap (BitVec.ofInt k.bits a^^^BitVec.ofInt k.bits b).toNat
def bp (k:IntKind) (a b:Int):Int:=k.wrap (BitVec.ofInt k.bits a&&&BitVec.ofInt k.bits b).toNat
def vh (k:IntKind) (a b:Int):Int:=k.wrap (BitVec.ofInt k.bits a|||BitVec.ofInt k.bits b).toNat
def La (k:IntKind) (a b:Int):Int:=k.wrap (BitVec.ofInt k.bits a&&& ~~~ BitVec.ofInt k.bits b).toNat
def aB (k:IntKind) (a b:Int):Int:=k.wrap (a*2^(min b.toNat k.bits))
def aJ (k:IntKind) (a b:Int):Int:=a.fdiv (2^(min b.toNat k.bits))
theorem b5D (k:IntKind) (a b:Int):gD .and (.lit (.int k a)) (.lit (.int k b))=some (.lit (.int k (bp k a b)),[]):=by simp [gD,dG,bp]
theorem b6H (k:IntKind) (a b:Int):gD .or (.lit (.int k a)) (.lit (.int k b))=some (.lit (.int k (vh k a b)),[]):=by simp [gD,dG,vh]
theorem b55 (k:IntKind) (a b:Int):gD .xor (.lit (.int k a)) (.lit (.int k b))=some (.lit (.int k (mp k a b)),[]):=by simp [gD,dG,mp]
theorem b1X (k:IntKind) (a b:Int):gD .andNot (.lit (.int k a)) (.lit (.int k b))=some (.lit (.int k (La k a b)),[]):=by simp [gD,dG,La]
def nn (b:Int):Bool:=decide (0≤b)
theorem b6x (k k':IntKind) (a b:Int):gD .shl (.lit (.int k a)) (.lit (.int k' b))=br (nn b) (some (.lit (.int k (aB k a b)),[])) none:=by
 by_cases hb:0≤b<;>simp [gD,dG,br,nn,hb,aB]
theorem b56 (k k':IntKind) (a b:Int):gD .shr (.lit (.int k a)) (.lit (.int k' b))=br (nn b) (some (.lit (.int k (aJ k a b)),[])) none:=by
 by_cases hb:0≤b<;>simp [gD,dG,br,nn,hb,aJ]
theorem b5x (k:IntKind) (a b:Int):gD .eql (.lit (.int k a)) (.lit (.int k b))=some (.lit (.bool (a==b)),[]):=by simp [gD,dG]
theorem b5y (k:IntKind) (a b:Int):gD .neq (.lit (.int k a)) (.lit (.int k b))=some (.lit (.bool (a !=b)),[]):=by simp [gD,dG]
theorem b6d (k:IntKind) (a b:Int):gD .lss (.lit (.int k a)) (.lit (.int k b))=some (.lit (.bool (decide (a<b))),[]):=by simp [gD,dG]
theorem b5c (k:IntKind) (a b:Int):gD .leq (.lit (.int k a)) (.lit (.int k b))=some (.lit (.bool (decide (a≤b))),[]):=by simp [gD,dG]
theorem b6u (k:IntKind) (a b:Int):gD .gtr (.lit (.int k a)) (.lit (.int k b))=some (.lit (.bool (decide (a>b))),[]):=by simp [gD,dG]
theorem b61 (k:IntKind) (a b:Int):gD .geq (.lit (.int k a)) (.lit (.int k b))=some (.lit (.bool (decide (a≥b))),[]):=by simp [gD,dG]
theorem RK (a:List UInt8):(⟨⟨a⟩⟩:ByteArray).size=a.length:=rfl
theorem Xa (d:ByteArray): ∀(k i:Nat) (r:List UInt8),d.size-i=k→ByteArray.toList.loop d i r=r.reverse++d.data.toList.drop i:=by
 intro k
 induction k with
 |zero=>
  intro i r hk
  unfold ByteArray.toList.loop
  have: ¬i<d.size:=by omega
  simp only [this,if_false]
  rw [List.drop_of_length_le]
  ·simp
  ·show d.data.size≤i
   exact (by omega:d.size≤i)
 |succ k ih=>
  intro i r hk
  unfold ByteArray.toList.loop
  have hlt:i<d.size:=by omega
  simp only [hlt,if_true]
  rw [ih (i+1) _ (by omega)]
  have hl:i<d.data.toList.length:=hlt
  rw [List.drop_eq_getElem_cons hl]
  have h3:i<d.data.size:=hlt
  simp only [ByteArray.get!,getElem!_pos,h3,List.reverse_cons,List.append_assoc,List.singleton_append,Array.getElem_toList]
theorem QA (a:List UInt8):(⟨⟨a⟩⟩:ByteArray).toList=a:=by
 unfold ByteArray.toList
 rw [Xa _ _ 0 [] rfl]
 simp
theorem b4Y (a b:List UInt8):gD .add (S a) (S b)=br (bW (a.length+b.length) 1) (some (S (a++b),[])) none:=by
 have:(⟨⟨a⟩⟩:ByteArray)++⟨⟨b⟩⟩=⟨⟨a++b⟩⟩:=by
  apply ByteArray.ext
  simp [ByteArray.data_append]
 by_cases hb:a.length+b.length≤bq<;>simp [gD,dG,br,bW,hb,RK,this]
theorem b2d (a b:List UInt8):gD .eql (S a) (S b)=some (.lit (.bool (a==b)),[]):=by simp [gD,dG,QA]
theorem b3a (a b:List UInt8):gD .neq (S a) (S b)=some (.lit (.bool (a !=b)),[]):=by simp [gD,dG,QA,bne]
def eqS (neg:Bool) (ks:List Bool) (x y:V):Option (V×Upd):=match x,y with
 | .agg a,.agg b=>match dI ks a b with
   |some r=>some (.lit (.bool (if neg then !r else r)),[])
   |none=>none
 |_,_=>none
theorem a7Z (neg:Bool) (ks:List Bool) (x y:Opd):ai C ow (.eqAgg neg ks x y) ev h n=eqS neg ks (ev x) (ev y):=rfl
def eqN (neg:Bool):Option Bool→Option (V×Upd)
 |some r=>some (.lit (.bool (if neg then !r else r)),[])
 |none=>none
theorem b0t (neg:Bool) (ks:List Bool) (a b:List V):eqS neg ks (.agg a) (.agg b)=eqN neg (dI ks a b):=by
 unfold eqS eqN;rfl
theorem b6f (r:Bool):eqN true (some r)=some (.lit (.bool !r),[]):=rfl
theorem b5G (r:Bool):eqN false (some r)=some (.lit (.bool r),[]):=rfl
theorem b2l (neg c:Bool) (x y:Option Bool):eqN neg (br c x y)=br c (eqN neg x) (eqN neg y):=by cases c<;>rfl
theorem b03:dI [] [] []=some true:=rfl
theorem b6w (ks:List Bool) (k:IntKind) (a b:Int) (x y:List V):dI (true::ks) (.lit (.int k a)::x) (.lit (.int k b)::y)=br (a==b) (dI ks x y) (some false):=by
 by_cases hb:a=b
 ·subst hb;simp [dI,bz]
 ·have:(a==b)=false:=by simpa using hb
  rw [this,an];simp [dI,hb]
def b4M (neg:Bool) (x y:V):Option (V×Upd):=match x,y with
 | .lit (.bool a),.lit (.bool b)=>some (.lit (.bool (if neg then a !=b else a==b)),[])
 |_,_=>none
theorem b5S (neg:Bool) (x y:Opd):ai C ow (.beq neg x y) ev h n=b4M neg (ev x) (ev y):=rfl
theorem b3T (a b:Bool):b4M true (B a) (B b)=some (.lit (.bool (a !=b)),[]):=rfl
theorem b4a (a b:Bool):b4M false (B a) (B b)=some (.lit (.bool (a==b)),[]):=rfl
def unS (op:UnOp) (x:V):Option (V×Upd):=match x with
 | .lit a=>match PL op a with
   |some v=>some (.lit v,[])
   |none=>none
 |_=>none
theorem b6I (op:UnOp) (x:Opd):ai C ow (.un op x) ev h n=unS op (ev x):=rfl
theorem b6j (b:Bool):unS .not (B b)=some (B (!b),[]):=rfl
theorem b60 (k:IntKind) (a:Int):unS .neg (.lit (.int k a))=some (.lit (.int k (k.wrap (0-a))),[]):=rfl
def bM (k:IntKind) (a:Int):Int:=k.wrap (BitVec.ofInt k.bits (if k.signed then-1 else k.max)^^^BitVec.ofInt k.bits a).toNat
theorem b6t (k:IntKind) (a:Int):unS .xor (.lit (.int k a))=some (.lit (.int k (bM k a)),[]):=rfl
def tiS (k:IntKind) (x:V):Option (V×Upd):=match asI x with
 |some m=>some (.lit (.int k (k.wrap m)),[])
 |none=>none
theorem a9G (k:IntKind) (x:Opd):ai C ow (.toInt k x) ev h n=tiS k (ev x):=rfl
theorem b5Q (k k':IntKind) (m:Int):tiS k (.lit (.int k' m))=some (.lit (.int k (k.wrap m)),[]):=rfl
def b1D (x:V):Option (V×Upd):=match x with
 | .lit (.string s)=>some (.lit (.string s),[])
 |_=>none
theorem b3U (x:Opd):ai C ow (.same x) ev h n=b1D (ev x):=rfl
theorem b0s (s:List UInt8):b1D (S s)=some (S s,[]):=rfl
theorem Z7 (f:FuncId) (cs:List Opd):ai C ow (.makeFunc f cs) ev h n=some (.fn f (cs.map ev),[]):=rfl
def Yw (str:Bool) (x:V):Option (V×Upd):=match str,x with
 |true,.lit (.string s)=>some (.lit (.int .i64 s.size),[])
 |false,.lit (.slice _ n _)=>some (.lit (.int .i64 n),[])
 |false,.sl _ _ n=>some (.lit (.int .i64 n),[])
 |false,.imm _ rows=>some (.lit (.int .i64 rows.length),[])
 |_,_=>none
theorem b57 (str:Bool) (x:Opd):ai C ow (.len str x) ev h n=Yw str (ev x):=rfl
theorem a9v:Yw false (sl e l)=some (I (l.length:Nat),[]):=by
 rcases gw e l with ⟨rfl,h⟩|⟨_,h⟩<;>rw [h]<;>simp [Yw,rws]
theorem a6C (b s m:Nat):Yw false (.sl b s m)=some (I (m:Nat),[]):=rfl
theorem a3M:Yw false (.lit (.slice none 0 0))=some (I (0:Nat),[]):=rfl
theorem a4V:Yw false (.imm 1 [])=some (I (0:Nat),[]):=rfl
theorem a5G (s:List UInt8):Yw true (S s)=some (I (s.length:Nat),[]):=rfl
def inS (neg:Bool) (x:V):Option (V×Upd):=match x with
 | .lit (.slice a _ _)=>some (.lit (.bool (if neg then !a.isNone else a.isNone)),[])
 | .imm _ (_::_)=>some (.lit (.bool neg),[])
 |_=>none
theorem a8N (neg:Bool) (x:Opd):ai C ow (.isNil neg x) ev h n=inS neg (ev x):=by
 simp only [ai];unfold inS;rfl
theorem a8V (neg:Bool) (m c:Nat):inS neg (.lit (.slice none m c))=some (B (!neg),[]):=by cases neg<;>rfl
theorem a00 (neg:Bool) (a:Addr) (m c:Nat):inS neg (.lit (.slice (some a) m c))=some (B neg,[]):=by cases neg<;>rfl
theorem Wl (neg:Bool) (e:En α) (x:α) (l:List α):inS neg (sl e (x::l))=some (B neg,[]):=rfl
theorem a5a (m:Nat) (x:Opd):ai C ow (.lenArr m x) ev h n=some (I (m:Nat),[]):=rfl
def b1n (x:V) (i:Nat):Option (V×Upd):=match x with
 | .tup vs=>match vs[i]? with
   |some v=>some (v,[])
   |none=>none
 |_=>none
theorem b5f (x:Opd) (i:Nat):ai C ow (.ext x i) ev h n=b1n (ev x) i:=rfl
theorem b2m (a:V) (r:List V):b1n (.tup (a::r)) 0=some (a,[]):=rfl
theorem b3c (a:V) (r:List V) (i:Nat):b1n (.tup (a::r)) (i+1)=b1n (.tup r) i:=rfl
def b2X (d:Nat) (x:V):Option (V×Upd):=match x with
 | .ptr b i o n=>some (.ptr b i (o+d) n,[])
 | .iptr r o=>some (.iptr r (o+d),[])
 |_=>none
theorem b5s (d:Nat) (x:Opd):ai C ow (.off d x) ev h n=b2X d (ev x):=rfl
theorem b4c (d b i o m:Nat):b2X d (.ptr b i o m)=some (.ptr b i (o+d) m,[]):=rfl
theorem b4W (d:Nat) (r:List V) (o:Nat):b2X d (.iptr r o)=some (.iptr r (o+d),[]):=rfl
def ldS:Option V→Option (V×Upd)
 |some v=>some (v,[])
 |none=>none
theorem a61 (v:V):ldS (some v)=some (v,[]):=rfl
theorem a4v {β:Type} (x:Option β) (f:β→Option V):ldS (x.bind f)=x.bind (fun a=>ldS (f a)):=by cases x<;>rfl
theorem b1b (a:V) (r:List V):part none (a::r) 0=some a:=rfl
theorem a7R (a:V) (r:List V) (o:Nat):part none (a::r) (o+1)=part none r o:=rfl
theorem b2J (m:Nat) (cs:List V) (o:Nat) (hm:(o+m).ble cs.length=true):part (some m) cs o=some (.agg ((cs.drop o).take m)):=by
 simp only [part]
 rw [if_pos (Nat.le_of_ble_eq_true hm)]
def a4k (d:Nat) (agg:Option Nat) (x:V):Option (V×Upd):=match x with
 | .agg cs=>match part agg cs d with
   |some v=>some (v,[])
   |none=>none
 |_=>none
theorem b0H (d:Nat) (agg:Option Nat) (x:Opd):ai C ow (.field d agg x) ev h n=a4k d agg (ev x):=rfl
theorem a7n (d:Nat) (agg:Option Nat) (cs:List V):a4k d agg (.agg cs)=ldS (part agg cs d):=rfl
def b3X (len esz:Nat) (agg:Option Nat) (x i:V):Option (V×Upd):=match x,asI i with
 | .agg cs,some i=>if 0≤i∧i.toNat<len then (match part agg cs (i.toNat*esz) with
   |some v=>some (v,[])
   |none=>none) else none
 |_,_=>none
theorem a8F (len esz:Nat) (agg:Option Nat) (x i:Opd):ai C ow (.ixAgg len esz agg x i) ev h n=b3X len esz agg (ev x) (ev i):=rfl
theorem b2w (len esz:Nat) (agg:Option Nat) (cs:List V) (k:IntKind) (i:Int):b3X len esz agg (.agg cs) (.lit (.int k i))=br (inb i len) (ldS (part agg cs (i.toNat*esz))) none:=by
 unfold inb
 by_cases h1:0≤i<;>by_cases h2:i.toNat<len<;>simp [b3X,asI,h1,h2,br,ldS]
def a9q (agg:Option Nat) (k:Option Blk) (i o m:Nat):Option V:=match k with
 |some k=>if k.rows.length=m then (match k.rows[i]? with
  |some row=>part agg row o
  |none=>none) else none
 |none=>none
theorem b2e (agg:Option Nat) (a:Opd):ai C ow (.load agg a) ev h n=ldS (sn agg h (ev a)):=rfl
theorem b0x (agg:Option Nat) (b i o m:Nat):sn agg h (.ptr b i o m)=a9q agg (h b) i o m:=rfl
theorem a82 (agg:Option Nat) (r:List V) (o:Nat):sn agg h (.iptr r o)=part agg r o:=rfl
theorem b1d (agg:Option Nat) (m:Nat) (row:List V) (o:Nat):a9q agg (some ⟨m,true,[row]⟩) 0 o 1=part agg row o:=rfl
theorem a8b (agg:Option Nat) (m:Nat) (op:Bool) (i o q:Nat) (hq:l.length=q):a9q agg (some ⟨m,op,rws e l⟩) i o q=(l[i]?).bind (fun x=>part agg (e.enc x) o):=by
 simp only [a9q,rws,List.length_map,List.getElem?_map]
 rw [if_pos hq]
 cases l[i]? <;>rfl
def a4g (k:Option Blk) (m b s q:Nat) (i:Int):Option (V×Upd):=match k with
 |some k=>if 0<k.esz∧k.esz=m∧s+q=k.rows.length∧i.toNat<q then some (.ptr b (s+i.toNat) 0 k.rows.length,[]) else none
 |none=>none
def W8 (m:Nat) (x i:V) (h:ak):Option (V×Upd):=match asI i with
 |some i=>if 0≤i then (match x with
  | .sl b s q=>a4g (h b) m b s q i
  | .imm e rows=>if e=m then (match rows[i.toNat]? with
    |some row=>some (.iptr row 0,[])
    |none=>none) else none
  |_=>none) else none
 |none=>none
theorem b6o (m:Nat) (x i:Opd):ai C ow (.idx m x i) ev h n=W8 m (ev x) (ev i) h:=by
 simp only [ai,W8,a4g]
 cases asI (ev i) with
 |none=>rfl
 |some i=>
  dsimp only
  split
  ·cases ev x with
   |sl b s q=>dsimp only;cases h b<;>rfl
   |_=>rfl
  ·rfl
theorem a9b (m:Nat) (hm:e.esz=m) (k:IntKind) (i:Int):W8 m (sl e l) (.lit (.int k i)) h=(atL l i).bind (fun x=>some (.iptr (e.enc x) 0,[])):=by
 subst hm
 unfold atL
 by_cases hi:0≤i
 ·rw [if_pos hi]
  rcases gw e l with ⟨rfl,hs⟩|⟨_,hs⟩
  ·rw [hs];simp [W8,asI]
  ·rw [hs]
   simp only [W8,asI,hi,if_true,rws,List.getElem?_map]
   cases l[i.toNat]? <;>rfl
 ·rw [if_neg hi];simp [W8,asI,hi]
theorem a43 (m b s q:Nat) (k:IntKind) (i:Int):W8 m (.sl b s q) (.lit (.int k i)) h=br (nn i) (a4g (h b) m b s q i) none:=by
 unfold nn
 by_cases hi:0≤i<;>simp [W8,asI,hi,br]
theorem b0c (m:Nat) (op:Bool) (b q:Nat) (i:Int) (h0:Nat.blt 0 m=true) (hq:l.length=q):a4g (some ⟨m,op,rws e l⟩) m b 0 q i=br (decide (i.toNat<q)) (some (.ptr b i.toNat 0 q,[])) none:=by
 have h0:0<m:=by have:=Nat.le_of_ble_eq_true h0;omega
 by_cases hi:i.toNat<q<;>simp [a4g,rws,hq,hi,br,h0]
def a6B (len esz:Nat) (x i:V):Option (V×Upd):=match asI i with
 |some i=>if 0≤i∧i.toNat<len then (match x with
  | .ptr b j o n=>some (.ptr b j (o+i.toNat*esz) n,[])
  | .iptr r o=>some (.iptr r (o+i.toNat*esz),[])
  |_=>none) else none
 |none=>none
theorem a3D (len esz:Nat) (x i:Opd):ai C ow (.idxArr len esz x i) ev h n=a6B len esz (ev x) (ev i):=rfl
theorem a8M (len esz b j o m:Nat) (k:IntKind) (i:Int):a6B len esz (.ptr b j o m) (.lit (.int k i))=br (inb i len) (some (.ptr b j (o+i.toNat*esz) m,[])) none:=by
 unfold inb
 by_cases h1:0≤i<;>by_cases h2:i.toNat<len<;>simp [a6B,asI,h1,h2,br]
def a9j (x i:V):Option (V×Upd):=match x,asI i with
 | .lit (.string s),some i=>if 0≤i then (match s.data[i.toNat]? with
   |some b=>some (.lit (.int .u8 b.toNat),[])
   |none=>none) else none
 |_,_=>none
theorem b02 (x i:Opd):ai C ow (.ixStr x i) ev h n=a9j (ev x) (ev i):=rfl
theorem b2y (s:List UInt8) (k:IntKind) (i:Int):a9j (S s) (.lit (.int k i))=(atL s i).bind (fun b=>some (.lit (.int .u8 b.toNat),[])):=by
 unfold atL
 by_cases hi:0≤i
 ·simp only [a9j,asI,hi,if_true]
  have:(⟨⟨s⟩⟩:ByteArray).data[i.toNat]? =s[i.toNat]? :=by simp
  rw [this]
  cases s[i.toNat]? <;>rfl
 ·simp [a9j,asI,hi]
def frO (k:Option Blk) (n:Nat) (b:Blk) (v:V):Option (V×Upd):=match k with
 |none=>br (Nat.blt 0 b.esz) (some (v,[(n,b)])) none
 |some _=>none
theorem w6 (b:Blk) (v:V):iW h n b v=frO (h n) n b v:=by
 unfold iW frO
 cases h n with
 |none=>rw [Dz];by_cases hb:0<b.esz<;>simp [hb,br]
 |some k=>simp
theorem a3H (b:Blk) (v:V):frO none n b v=br (Nat.blt 0 b.esz) (some (v,[(n,b)])) none:=rfl
theorem ZU (zero:List Value):ai C ow (.alloc zero) ev h n=br (zero.all aN) (frO (h n) n ⟨zero.length,true,[zero.map .lit]⟩ (.ptr n 0 0 1)) none:=by
 simp only [ai,w6]
 cases zero.all aN<;>rfl
def b3L (size:Nat) (cs:List V) (h:ak) (n:Nat):Option (V×Upd):=br (Nat.beq cs.length size&&cs.all V.cell) (frO (h n) n ⟨size,true,[cs]⟩ (.ptr n 0 0 1)) none
theorem b5U (size:Nat) (x:Opd):ai C ow (.box size x) ev h n=b3L size (ev x).cells h n:=by
 simp only [ai,w6,b3L,J5]
 by_cases h1:(ev x).cells.length=size<;>cases h2:(ev x).cells.all V.cell<;>simp [h1,br]
def I6 (cells:List V):List (Nat×Nat×V)→Option (List V)
 |[]=>some cells
 | (off,size,v)::r=>br (Nat.beq v.cells.length size&&Nat.ble (off+size) cells.length&&v.cells.all V.cell) (I6 (cells.take off++(v.cells++cells.drop (off+size))) r) none
theorem MT: ∀(ps:List (Nat×Nat×V)) (cells:List V),Da cells ps=I6 cells ps
 |[],_=>rfl
 | (off,size,v)::r,cells=>by
   simp only [Da,I6,J5,JM]
   rw [←MT r]
   by_cases h1:v.cells.length=size<;>by_cases h2:off+size≤cells.length<;>cases h3:v.cells.all V.cell<;>simp [h1,h2,br]
def b2E:Option (List V)→Option (V×Upd)
 |some cs=>some (.agg cs,[])
 |none=>none
theorem SD (zero:List Value) (ps:List (Nat×Nat×Opd)):ai C ow (.build zero ps) ev h n=br (zero.all aN) (b2E (I6 (zero.map .lit) (ej ev ps))) none:=by
 simp only [ai,MT,b2E]
 cases zero.all aN
 ·rfl
 ·simp only [bz,if_true]
  cases I6 (zero.map .lit) (ej ev ps)<;>rfl
theorem a1u (cs:List V):b2E (some cs)=some (.agg cs,[]):=rfl
end
end Go.AI
