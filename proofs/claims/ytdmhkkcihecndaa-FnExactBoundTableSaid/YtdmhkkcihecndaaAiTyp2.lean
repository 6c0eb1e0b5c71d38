/- The machine's operations as words over values; what they come to on values of Lean's own types. -/
import Derived.Test.YtdmhkkcihecndaaAiLim
set_option linter.unusedVariables false
set_option linter.unusedSimpArgs false
namespace Go.AI
theorem mL (a b:Nat):Nat.ble a b=decide (a≤b):=by
 by_cases h0:a≤b
 ·rw [decide_eq_true h0];exact Nat.ble_eq_true_of_le h0
 ·rw [decide_eq_false h0];cases hb:Nat.ble a b with
  |false=>rfl
  |true=>exact absurd (Nat.le_of_ble_eq_true hb) h0
theorem kI (a b:Nat):Nat.blt a b=decide (a<b):=mL (a+1) b
theorem nk (a b:Nat):Nat.beq a b=decide (a=b):=by
 by_cases h0:a=b
 ·rw [decide_eq_true h0,h0];exact Nat.beq_refl b
 ·rw [decide_eq_false h0];cases hb:Nat.beq a b with
  |false=>rfl
  |true=>exact absurd (Nat.eq_of_beq_eq_true hb) h0
section
variable {C:am} {ow:FuncId→List Nat} {ev:Opd→V} {h:a8} {n:Nat} {α:Type} {e:En α} {l:List α}
theorem PN (x:Opd):a6 C ow (.mv x) ev h n=some (ev x,[]):=rfl
def E4 (c a b:V):Option (V×Upd):=match c with
 | .lit (.bool c)=>br c (some (a,[])) (some (b,[]))
 |_=>none
theorem L6 (c a b:Opd):a6 C ow (.pick c a b) ev h n=E4 (ev c) (ev a) (ev b):=by
 simp only [a6]
 unfold E4
 split
 ·rename_i h;rw [h];rfl
 ·rename_i h;rw [h];rfl
 ·rename_i h1 h2
  split
  ·rename_i c' hc;cases c'
   ·exact absurd hc h2
   ·exact absurd hc h1
  ·rfl
theorem HM (c:Bool) (a b:V):E4 (.lit (.bool c)) a b=br c (some (a,[])) (some (b,[])):=rfl
def cD (op:BinOp) (x y:V):Option (V×Upd):=match x,y with
 | .lit a,.lit b=>match bx op a b with
   |some v=>some (.lit v,[])
   |none=>none
 |_,_=>none
theorem Ob (op:BinOp) (x y:Opd):a6 C ow (.bin op x y) ev h n=cD op (ev x) (ev y):=rfl
theorem P8 (k:IntKind) (a b:Int):cD .add (.lit (.int k a)) (.lit (.int k b))=some (.lit (.int k (k.wrap (a+b))),[]):=by simp [cD,bx]
theorem Ow (k:IntKind) (a b:Int):cD .sub (.lit (.int k a)) (.lit (.int k b))=some (.lit (.int k (k.wrap (a-b))),[]):=by simp [cD,bx]
theorem P7 (k:IntKind) (a b:Int):cD .mul (.lit (.int k a)) (.lit (.int k b))=some (.lit (.int k (k.wrap (a*b))),[]):=by simp [cD,bx]
def nz (b:Int):Bool:=decide (b≠0)
theorem Oc (k:IntKind) (a b:Int):cD .quo (.lit (.int k a)) (.lit (.int k b))=br (nz b) (some (.lit (.int k (k.wrap (a.tdiv b))),[])) none:=by
 by_cases hb:b=0<;>simp [cD,bx,br,nz,hb]
theorem NO (k:IntKind) (a b:Int):cD .rem (.lit (.int k a)) (.lit (.int k b))=br (nz b) (some (.lit (.int k (a.tmod b)),[])) none:=by
 by_cases hb:b=0<;>simp [cD,bx,br,nz,hb]
def my (k:IntKind) (a b:Int):Int:=k.wrap (BitVec.ofInt k.bits a^^^BitVec.ofInt k.bits b).toNat
def oi (k:IntKind) (a b:Int):Int:=k.wrap (BitVec.ofInt k.bits a&&&BitVec.ofInt k.bits b).toNat
def qU (k:IntKind) (a b:Int):Int:=k.wrap (BitVec.ofInt k.bits a|||BitVec.ofInt k.bits b).toNat
def xO (k:IntKind) (a b:Int):Int:=k.wrap (BitVec.ofInt k.bits a&&& ~~~ BitVec.ofInt k.bits b).toNat
def aJ (k:IntKind) (a b:Int):Int:=k.wrap (a*2^(min b.toNat k.bits))
def px (k:IntKind) (a b:Int):Int:=a.fdiv (2^(min b.toNat k.bits))
theorem OC (k:IntKind) (a b:Int):cD .and (.lit (.int k a)) (.lit (.int k b))=some (.lit (.int k (oi k a b)),[]):=by simp [cD,bx,oi]
theorem PP (k:IntKind) (a b:Int):cD .or (.lit (.int k a)) (.lit (.int k b))=some (.lit (.int k (qU k a b)),[]):=by simp [cD,bx,qU]
theorem P4 (k:IntKind) (a b:Int):cD .xor (.lit (.int k a)) (.lit (.int k b))=some (.lit (.int k (my k a b)),[]):=by simp [cD,bx,my]
theorem Ml (k:IntKind) (a b:Int):cD .andNot (.lit (.int k a)) (.lit (.int k b))=some (.lit (.int k (xO k a b)),[]):=by simp [cD,bx,xO]
def nn (b:Int):Bool:=decide (0≤b)
theorem O7 (k k':IntKind) (a b:Int):cD .shl (.lit (.int k a)) (.lit (.int k' b))=br (nn b) (some (.lit (.int k (aJ k a b)),[])) none:=by
 by_cases hb:0≤b<;>simp [cD,bx,br,nn,hb,aJ]
theorem OU (k k':IntKind) (a b:Int):cD .shr (.lit (.int k a)) (.lit (.int k' b))=br (nn b) (some (.lit (.int k (px k a b)),[])) none:=by
 by_cases hb:0≤b<;>simp [cD,bx,br,nn,hb,px]
theorem Oz (k:IntKind) (a b:Int):cD .eql (.lit (.int k a)) (.lit (.int k b))=some (.lit (.bool (a==b)),[]):=by simp [cD,bx]
theorem Oq (k:IntKind) (a b:Int):cD .neq (.lit (.int k a)) (.lit (.int k b))=some (.lit (.bool (a !=b)),[]):=by simp [cD,bx]
theorem On (k:IntKind) (a b:Int):cD .lss (.lit (.int k a)) (.lit (.int k b))=some (.lit (.bool (decide (a<b))),[]):=by simp [cD,bx]
theorem OT (k:IntKind) (a b:Int):cD .leq (.lit (.int k a)) (.lit (.int k b))=some (.lit (.bool (decide (a≤b))),[]):=by simp [cD,bx]
theorem OR (k:IntKind) (a b:Int):cD .gtr (.lit (.int k a)) (.lit (.int k b))=some (.lit (.bool (decide (a>b))),[]):=by simp [cD,bx]
theorem Oe (k:IntKind) (a b:Int):cD .geq (.lit (.int k a)) (.lit (.int k b))=some (.lit (.bool (decide (a≥b))),[]):=by simp [cD,bx]
theorem tu (a:List UInt8):(⟨⟨a⟩⟩:ByteArray).size=a.length:=rfl
theorem vP (d:ByteArray): ∀(k i:Nat) (r:List UInt8),d.size-i=k→ByteArray.toList.loop d i r=r.reverse++d.data.toList.drop i:=by
 intro k
 induction k with
 |zero=>
  intro i r hk
  unfold ByteArray.toList.loop
  have: ¬i<d.size:=by omega
  simp only [this,if_false]
  rw [List.drop_of_length_le]
  ·simp
  ·show d.data.size≤i
   exact (by omega:d.size≤i)
 |succ k ih=>
  intro i r hk
  unfold ByteArray.toList.loop
  have hlt:i<d.size:=by omega
  simp only [hlt,if_true]
  rw [ih (i+1) _ (by omega)]
  have hl:i<d.data.toList.length:=hlt
  rw [List.drop_eq_getElem_cons hl]
  have h3:i<d.data.size:=hlt
  simp only [ByteArray.get!,getElem!_pos,h3,List.reverse_cons,List.append_assoc,List.singleton_append,Array.getElem_toList]
theorem sN (a:List UInt8):(⟨⟨a⟩⟩:ByteArray).toList=a:=by
 unfold ByteArray.toList
 rw [vP _ _ 0 [] rfl]
 simp
theorem KP (a b:List UInt8):cD .add (S a) (S b)=br (mH (a.length+b.length) 1) (some (S (a++b),[])) none:=by
 have:(⟨⟨a⟩⟩:ByteArray)++⟨⟨b⟩⟩=⟨⟨a++b⟩⟩:=by
  apply ByteArray.ext
  simp [ByteArray.data_append]
 by_cases hb:a.length+b.length≤aC<;>simp [cD,bx,br,mH,hb,tu,this]
theorem M9 (a b:List UInt8):cD .eql (S a) (S b)=some (.lit (.bool (a==b)),[]):=by simp [cD,bx,sN]
theorem NE (a b:List UInt8):cD .neq (S a) (S b)=some (.lit (.bool (a !=b)),[]):=by simp [cD,bx,sN,bne]
def eqS (neg:Bool) (ks:List Bool) (x y:V):Option (V×Upd):=match x,y with
 | .agg a,.agg b=>match b9 ks a b with
   |some r=>some (.lit (.bool (if neg then !r else r)),[])
   |none=>none
 |_,_=>none
theorem HS (neg:Bool) (ks:List Bool) (x y:Opd):a6 C ow (.eqAgg neg ks x y) ev h n=eqS neg ks (ev x) (ev y):=rfl
def eqN (neg:Bool):Option Bool→Option (V×Upd)
 |some r=>some (.lit (.bool (if neg then !r else r)),[])
 |none=>none
theorem Hm (neg:Bool) (ks:List Bool) (a b:List V):eqS neg ks (.agg a) (.agg b)=eqN neg (b9 ks a b):=by
 unfold eqS eqN;rfl
theorem Ol (r:Bool):eqN true (some r)=some (.lit (.bool !r),[]):=rfl
theorem O5 (r:Bool):eqN false (some r)=some (.lit (.bool r),[]):=rfl
theorem N4 (neg c:Bool) (x y:Option Bool):eqN neg (br c x y)=br c (eqN neg x) (eqN neg y):=by cases c<;>rfl
theorem JX:b9 [] [] []=some true:=rfl
theorem P3 (ks:List Bool) (k:IntKind) (a b:Int) (x y:List V):b9 (true::ks) (.lit (.int k a)::x) (.lit (.int k b)::y)=br (a==b) (b9 ks x y) (some false):=by
 by_cases hb:a=b
 ·subst hb;simp [b9,bF]
 ·have:(a==b)=false:=by simpa using hb
  rw [this,aA];simp [b9,hb]
theorem O6 (ks:List Bool) (a b:List UInt8) (x y:List V):b9 (false::ks) (S a::x) (S b::y)=br (a==b) (b9 ks x y) (some false):=by
 by_cases hb:a=b
 ·subst hb;simp [b9,bF]
 ·have:(a==b)=false:=by simpa using hb
  rw [this,aA];simp [b9,hb]
def MQ (neg:Bool) (x y:V):Option (V×Upd):=match x,y with
 | .lit (.bool a),.lit (.bool b)=>some (.lit (.bool (if neg then a !=b else a==b)),[])
 |_,_=>none
theorem O1 (neg:Bool) (x y:Opd):a6 C ow (.beq neg x y) ev h n=MQ neg (ev x) (ev y):=rfl
theorem L4 (a b:Bool):MQ true (B a) (B b)=some (.lit (.bool (a !=b)),[]):=rfl
theorem LX (a b:Bool):MQ false (B a) (B b)=some (.lit (.bool (a==b)),[]):=rfl
def unS (op:UnOp) (x:V):Option (V×Upd):=match x with
 | .lit a=>match sr op a with
   |some v=>some (.lit v,[])
   |none=>none
 |_=>none
theorem PQ (op:UnOp) (x:Opd):a6 C ow (.un op x) ev h n=unS op (ev x):=rfl
theorem Oh (b:Bool):unS .not (B b)=some (B (!b),[]):=rfl
theorem Pg (k:IntKind) (a:Int):unS .neg (.lit (.int k a))=some (.lit (.int k (k.wrap (0-a))),[]):=rfl
def NU (k:IntKind) (a:Int):Int:=k.wrap (BitVec.ofInt k.bits (if k.signed then-1 else k.max)^^^BitVec.ofInt k.bits a).toNat
theorem P1 (k:IntKind) (a:Int):unS .xor (.lit (.int k a))=some (.lit (.int k (NU k a)),[]):=rfl
def tiS (k:IntKind) (x:V):Option (V×Upd):=match asI x with
 |some m=>some (.lit (.int k (k.wrap m)),[])
 |none=>none
theorem Jt (k:IntKind) (x:Opd):a6 C ow (.toInt k x) ev h n=tiS k (ev x):=rfl
theorem Om (k k':IntKind) (m:Int):tiS k (.lit (.int k' m))=some (.lit (.int k (k.wrap m)),[]):=rfl
def Kc (x:V):Option (V×Upd):=match x with
 | .lit (.string s)=>some (.lit (.string s),[])
 |_=>none
theorem KZ (x:Opd):a6 C ow (.same x) ev h n=Kc (ev x):=rfl
theorem Jy (s:List UInt8):Kc (S s)=some (S s,[]):=rfl
theorem xN (f:FuncId) (cs:List Opd):a6 C ow (.makeFunc f cs) ev h n=some (.fn f (cs.map ev),[]):=rfl
def yH (str:Bool) (x:V):Option (V×Upd):=match str,x with
 |true,.lit (.string s)=>some (.lit (.int .i64 s.size),[])
 |false,.lit (.slice _ n _)=>some (.lit (.int .i64 n),[])
 |false,.sl _ _ n=>some (.lit (.int .i64 n),[])
 |false,.imm _ rows=>some (.lit (.int .i64 rows.length),[])
 |_,_=>none
theorem Pr (str:Bool) (x:Opd):a6 C ow (.len str x) ev h n=yH str (ev x):=rfl
theorem Jh:yH false (sl e l)=some (I (l.length:Nat),[]):=by
 rcases cF e l with ⟨rfl,h⟩|⟨_,h⟩<;>rw [h]<;>simp [yH,rws]
theorem Fq (b s m:Nat):yH false (.sl b s m)=some (I (m:Nat),[]):=rfl
theorem CA:yH false (.lit (.slice none 0 0))=some (I (0:Nat),[]):=rfl
theorem DW:yH false (.imm 1 [])=some (I (0:Nat),[]):=rfl
theorem Di (s:List UInt8):yH true (S s)=some (I (s.length:Nat),[]):=rfl
def inS (neg:Bool) (x:V):Option (V×Upd):=match x with
 | .lit (.slice a _ _)=>some (.lit (.bool (if neg then !a.isNone else a.isNone)),[])
 | .imm _ (_::_)=>some (.lit (.bool neg),[])
 |_=>none
theorem Hw (neg:Bool) (x:Opd):a6 C ow (.isNil neg x) ev h n=inS neg (ev x):=by
 simp only [a6];unfold inS;rfl
theorem K6 (neg:Bool) (m c:Nat):inS neg (.lit (.slice none m c))=some (B (!neg),[]):=by cases neg<;>rfl
theorem IZ (neg:Bool) (a:Addr) (m c:Nat):inS neg (.lit (.slice (some a) m c))=some (B neg,[]):=by cases neg<;>rfl
theorem GD (neg:Bool) (e:En α) (x:α) (l:List α):inS neg (sl e (x::l))=some (B neg,[]):=rfl
theorem Db (m:Nat) (x:Opd):a6 C ow (.lenArr m x) ev h n=some (I (m:Nat),[]):=rfl
def GN (x:V) (i:Nat):Option (V×Upd):=match x with
 | .tup vs=>match vs[i]? with
   |some v=>some (v,[])
   |none=>none
 |_=>none
theorem NV (x:Opd) (i:Nat):a6 C ow (.ext x i) ev h n=GN (ev x) i:=rfl
theorem Mk (a:V) (r:List V):GN (.tup (a::r)) 0=some (a,[]):=rfl
theorem KR (a:V) (r:List V) (i:Nat):GN (.tup (a::r)) (i+1)=GN (.tup r) i:=rfl
def KU (d:Nat) (x:V):Option (V×Upd):=match x with
 | .ptr b i o n=>some (.ptr b i (o+d) n,[])
 | .iptr r o=>some (.iptr r (o+d),[])
 |_=>none
theorem OI (d:Nat) (x:Opd):a6 C ow (.off d x) ev h n=KU d (ev x):=rfl
theorem Md (d b i o m:Nat):KU d (.ptr b i o m)=some (.ptr b i (o+d) m,[]):=rfl
theorem LZ (d:Nat) (r:List V) (o:Nat):KU d (.iptr r o)=some (.iptr r (o+d),[]):=rfl
def ldS:Option V→Option (V×Upd)
 |some v=>some (v,[])
 |none=>none
theorem CO (v:V):ldS (some v)=some (v,[]):=rfl
theorem FD {β:Type} (x:Option β) (f:β→Option V):ldS (x.bind f)=x.bind (fun a=>ldS (f a)):=by cases x<;>rfl
theorem HR (a:V) (r:List V):part none (a::r) 0=some a:=rfl
theorem Ix (a:V) (r:List V) (o:Nat):part none (a::r) (o+1)=part none r o:=rfl
theorem MT (m:Nat) (cs:List V) (o:Nat) (hm:(o+m).ble cs.length=true):part (some m) cs o=some (.agg ((cs.drop o).take m)):=by
 simp only [part]
 rw [if_pos (Nat.le_of_ble_eq_true hm)]
def F7 (d:Nat) (agg:Option Nat) (x:V):Option (V×Upd):=match x with
 | .agg cs=>match part agg cs d with
   |some v=>some (v,[])
   |none=>none
 |_=>none
theorem IP (d:Nat) (agg:Option Nat) (x:Opd):a6 C ow (.field d agg x) ev h n=F7 d agg (ev x):=rfl
theorem EP (d:Nat) (agg:Option Nat) (cs:List V):F7 d agg (.agg cs)=ldS (part agg cs d):=rfl
def N0 (len esz:Nat) (agg:Option Nat) (x i:V):Option (V×Upd):=match x,asI i with
 | .agg cs,some i=>if 0≤i∧i.toNat<len then (match part agg cs (i.toNat*esz) with
   |some v=>some (v,[])
   |none=>none) else none
 |_,_=>none
theorem K0 (len esz:Nat) (agg:Option Nat) (x i:Opd):a6 C ow (.ixAgg len esz agg x i) ev h n=N0 len esz agg (ev x) (ev i):=rfl
theorem KL (len esz:Nat) (agg:Option Nat) (cs:List V) (k:IntKind) (i:Int):N0 len esz agg (.agg cs) (.lit (.int k i))=br (inb i len) (ldS (part agg cs (i.toNat*esz))) none:=by
 unfold inb
 by_cases h1:0≤i<;>by_cases h2:i.toNat<len<;>simp [N0,asI,h1,h2,br,ldS]
def AF (agg:Option Nat) (k:Option Blk) (i o m:Nat):Option V:=match k with
 |some k=>if k.rows.length=m then (match k.rows[i]? with
  |some row=>part agg row o
  |none=>none) else none
 |none=>none
theorem KH (agg:Option Nat) (a:Opd):a6 C ow (.load agg a) ev h n=ldS (hI agg h (ev a)):=rfl
theorem Jb (agg:Option Nat) (b i o m:Nat):hI agg h (.ptr b i o m)=AF agg (h b) i o m:=rfl
theorem GT (agg:Option Nat) (r:List V) (o:Nat):hI agg h (.iptr r o)=part agg r o:=rfl
theorem HN (agg:Option Nat) (m:Nat) (row:List V) (o:Nat):AF agg (some ⟨m,true,[row]⟩) 0 o 1=part agg row o:=rfl
theorem Js (agg:Option Nat) (m:Nat) (op:Bool) (i o q:Nat) (hq:l.length=q):AF agg (some ⟨m,op,rws e l⟩) i o q=(l[i]?).bind (fun x=>part agg (e.enc x) o):=by
 simp only [AF,rws,List.length_map,List.getElem?_map]
 rw [if_pos hq]
 cases l[i]? <;>rfl
def uh (k:Option Blk) (m b s q:Nat) (i:Int):Option (V×Upd):=match k with
 |some k=>if 0<k.esz∧k.esz=m∧s+q=k.rows.length∧i.toNat<q then some (.ptr b (s+i.toNat) 0 k.rows.length,[]) else none
 |none=>none
def v9 (m:Nat) (x i:V) (h:a8):Option (V×Upd):=match asI i with
 |some i=>if 0≤i then (match x with
  | .sl b s q=>uh (h b) m b s q i
  | .imm e rows=>if e=m then (match rows[i.toNat]? with
    |some row=>some (.iptr row 0,[])
    |none=>none) else none
  |_=>none) else none
 |none=>none
theorem P6 (m:Nat) (x i:Opd):a6 C ow (.idx m x i) ev h n=v9 m (ev x) (ev i) h:=by
 simp only [a6,v9,uh]
 cases asI (ev i) with
 |none=>rfl
 |some i=>
  dsimp only
  split
  ·cases ev x with
   |sl b s q=>dsimp only;cases h b<;>rfl
   |_=>rfl
  ·rfl
theorem J6 (m:Nat) (hm:e.esz=m) (k:IntKind) (i:Int):v9 m (sl e l) (.lit (.int k i)) h=(atL l i).bind (fun x=>some (.iptr (e.enc x) 0,[])):=by
 subst hm
 unfold atL
 by_cases hi:0≤i
 ·rw [if_pos hi]
  rcases cF e l with ⟨rfl,hs⟩|⟨_,hs⟩
  ·rw [hs];simp [v9,asI]
  ·rw [hs]
   simp only [v9,asI,hi,if_true,rws,List.getElem?_map]
   cases l[i.toNat]? <;>rfl
 ·rw [if_neg hi];simp [v9,asI,hi]
theorem GB (m b s q:Nat) (k:IntKind) (i:Int):v9 m (.sl b s q) (.lit (.int k i)) h=br (nn i) (uh (h b) m b s q i) none:=by
 unfold nn
 by_cases hi:0≤i<;>simp [v9,asI,hi,br]
theorem J3 (m:Nat) (op:Bool) (b q:Nat) (i:Int) (h0:Nat.blt 0 m=true) (hq:l.length=q):uh (some ⟨m,op,rws e l⟩) m b 0 q i=br (decide (i.toNat<q)) (some (.ptr b i.toNat 0 q,[])) none:=by
 have h0:0<m:=by have:=Nat.le_of_ble_eq_true h0;omega
 by_cases hi:i.toNat<q<;>simp [uh,rws,hq,hi,br,h0]
theorem Ig (m b:Nat) (row:List V) (i:Int):uh (some ⟨m,true,[row]⟩) m b 0 1 i=br (Nat.blt 0 m&&decide (i.toNat<1)) (some (.ptr b i.toNat 0 1,[])) none:=by
 rw [kI]
 by_cases h0:0<m<;>by_cases hi:i.toNat<1<;>simp [uh,hi,br,h0]
def wM (len esz:Nat) (x i:V):Option (V×Upd):=match asI i with
 |some i=>if 0≤i∧i.toNat<len then (match x with
  | .ptr b j o n=>some (.ptr b j (o+i.toNat*esz) n,[])
  | .iptr r o=>some (.iptr r (o+i.toNat*esz),[])
  |_=>none) else none
 |none=>none
theorem EH (len esz:Nat) (x i:Opd):a6 C ow (.idxArr len esz x i) ev h n=wM len esz (ev x) (ev i):=rfl
theorem Jw (len esz b j o m:Nat) (k:IntKind) (i:Int):wM len esz (.ptr b j o m) (.lit (.int k i))=br (inb i len) (some (.ptr b j (o+i.toNat*esz) m,[])) none:=by
 unfold inb
 by_cases h1:0≤i<;>by_cases h2:i.toNat<len<;>simp [wM,asI,h1,h2,br]
theorem GU (len esz:Nat) (r:List V) (o:Nat) (k:IntKind) (i:Int):wM len esz (.iptr r o) (.lit (.int k i))=br (inb i len) (some (.iptr r (o+i.toNat*esz),[])) none:=by
 unfold inb
 by_cases h1:0≤i<;>by_cases h2:i.toNat<len<;>simp [wM,asI,h1,h2,br]
def I8 (x i:V):Option (V×Upd):=match x,asI i with
 | .lit (.string s),some i=>if 0≤i then (match s.data[i.toNat]? with
   |some b=>some (.lit (.int .u8 b.toNat),[])
   |none=>none) else none
 |_,_=>none
theorem Jp (x i:Opd):a6 C ow (.ixStr x i) ev h n=I8 (ev x) (ev i):=rfl
theorem Ly (s:List UInt8) (k:IntKind) (i:Int):I8 (S s) (.lit (.int k i))=(atL s i).bind (fun b=>some (.lit (.int .u8 b.toNat),[])):=by
 unfold atL
 by_cases hi:0≤i
 ·simp only [I8,asI,hi,if_true]
  have:(⟨⟨s⟩⟩:ByteArray).data[i.toNat]? =s[i.toNat]? :=by simp
  rw [this]
  cases s[i.toNat]? <;>rfl
 ·simp [I8,asI,hi]
def frO (k:Option Blk) (n:Nat) (b:Blk) (v:V):Option (V×Upd):=match k with
 |none=>br (Nat.blt 0 b.esz) (some (v,[(n,b)])) none
 |some _=>none
theorem gY (b:Blk) (v:V):cQ h n b v=frO (h n) n b v:=by
 unfold cQ frO
 cases h n with
 |none=>rw [kI];by_cases hb:0<b.esz<;>simp [hb,br]
 |some k=>simp
theorem Gq (b:Blk) (v:V):frO none n b v=br (Nat.blt 0 b.esz) (some (v,[(n,b)])) none:=rfl
theorem zD (zero:List Value):a6 C ow (.alloc zero) ev h n=br (zero.all ag) (frO (h n) n ⟨zero.length,true,[zero.map .lit]⟩ (.ptr n 0 0 1)) none:=by
 simp only [a6,gY]
 cases zero.all ag<;>rfl
def MP (size:Nat) (cs:List V) (h:a8) (n:Nat):Option (V×Upd):=br (Nat.beq cs.length size&&cs.all V.cell) (frO (h n) n ⟨size,true,[cs]⟩ (.ptr n 0 0 1)) none
theorem NT (size:Nat) (x:Opd):a6 C ow (.box size x) ev h n=MP size (ev x).cells h n:=by
 simp only [a6,gY,MP,nk]
 by_cases h1:(ev x).cells.length=size<;>cases h2:(ev x).cells.all V.cell<;>simp [h1,br]
def oh (cells:List V):List (Nat×Nat×V)→Option (List V)
 |[]=>some cells
 | (off,size,v)::r=>br (Nat.beq v.cells.length size&&Nat.ble (off+size) cells.length&&v.cells.all V.cell) (oh (cells.take off++(v.cells++cells.drop (off+size))) r) none
theorem rf: ∀(ps:List (Nat×Nat×V)) (cells:List V),lE cells ps=oh cells ps
 |[],_=>rfl
 | (off,size,v)::r,cells=>by
   simp only [lE,oh,nk,mL]
   rw [←rf r]
   by_cases h1:v.cells.length=size<;>by_cases h2:off+size≤cells.length<;>cases h3:v.cells.all V.cell<;>simp [h1,h2,br]
def LP:Option (List V)→Option (V×Upd)
 |some cs=>some (.agg cs,[])
 |none=>none
theorem tm (zero:List Value) (ps:List (Nat×Nat×Opd)):a6 C ow (.build zero ps) ev h n=br (zero.all ag) (LP (oh (zero.map .lit) (bI ev ps))) none:=by
 simp only [a6,rf,LP]
 cases zero.all ag
 ·rfl
 ·simp only [bF,if_true]
  cases oh (zero.map .lit) (bI ev ps)<;>rfl
theorem Cm (cs:List V):LP (some cs)=some (.agg cs,[]):=rfl
end
end Go.AI
