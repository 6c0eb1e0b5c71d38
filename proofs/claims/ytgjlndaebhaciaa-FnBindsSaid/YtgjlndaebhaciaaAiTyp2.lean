/- The machine's operations as words over values; what they come to on values of Lean's own types. -/
import Derived.Test.YtgjlndaebhaciaaAiLim
set_option linter.unusedVariables false
set_option linter.unusedSimpArgs false
namespace Go.AI
theorem w7 (a b:Nat):Nat.ble a b=decide (a≤b):=by
 by_cases h0:a≤b
 ·rw [decide_eq_true h0];exact Nat.ble_eq_true_of_le h0
 ·rw [decide_eq_false h0];cases hb:Nat.ble a b with
  |false=>rfl
  |true=>exact absurd (Nat.le_of_ble_eq_true hb) h0
theorem ru (a b:Nat):Nat.blt a b=decide (a<b):=w7 (a+1) b
theorem vV (a b:Nat):Nat.beq a b=decide (a=b):=by
 by_cases h0:a=b
 ·rw [decide_eq_true h0,h0];exact Nat.beq_refl b
 ·rw [decide_eq_false h0];cases hb:Nat.beq a b with
  |false=>rfl
  |true=>exact absurd (Nat.eq_of_beq_eq_true hb) h0
section
variable {C:aM} {ow:FuncId→List Nat} {ev:Opd→V} {h:ak} {n:Nat} {α:Type} {e:En α} {l:List α}
theorem a26 (x:Opd):ag C ow (.mv x) ev h n=some (ev x,[]):=rfl
def Qj (c a b:V):Option (V×Upd):=match c with
 | .lit (.bool c)=>br c (some (a,[])) (some (b,[]))
 |_=>none
theorem XN (c a b:Opd):ag C ow (.pick c a b) ev h n=Qj (ev c) (ev a) (ev b):=by
 simp only [ag]
 unfold Qj
 split
 ·rename_i h;rw [h];rfl
 ·rename_i h;rw [h];rfl
 ·rename_i h1 h2
  split
  ·rename_i c' hc;cases c'
   ·exact absurd hc h2
   ·exact absurd hc h1
  ·rfl
theorem U2 (c:Bool) (a b:V):Qj (.lit (.bool c)) a b=br c (some (a,[])) (some (b,[])):=rfl
def fc (op:BinOp) (x y:V):Option (V×Upd):=match x,y with
 | .lit a,.lit b=>match cP op a b with
   |some v=>some (.lit v,[])
   |none=>none
 |_,_=>none
theorem ZZ (op:BinOp) (x y:Opd):ag C ow (.bin op x y) ev h n=fc op (ev x) (ev y):=rfl
theorem a0F (k:IntKind) (a b:Int):fc .add (.lit (.int k a)) (.lit (.int k b))=some (.lit (.int k (k.wrap (a+b))),[]):=by simp [fc,cP]
theorem a1i (k:IntKind) (a b:Int):fc .sub (.lit (.int k a)) (.lit (.int k b))=some (.lit (.int k (k.wrap (a-b))),[]):=by simp [fc,cP]
theorem a1D (k:IntKind) (a b:Int):fc .mul (.lit (.int k a)) (.lit (.int k b))=some (.lit (.int k (k.wrap (a*b))),[]):=by simp [fc,cP]
def nz (b:Int):Bool:=decide (b≠0)
theorem a1L (k:IntKind) (a b:Int):fc .quo (.lit (.int k a)) (.lit (.int k b))=br (nz b) (some (.lit (.int k (k.wrap (a.tdiv b))),[])) none:=by
 by_cases hb:b=0<;>simp [fc,cP,br,nz,hb]
theorem a1J (k:IntKind) (a b:Int):fc .rem (.lit (.int k a)) (.lit (.int k b))=br (nz b) (some (.lit (.int k (a.tmod b)),[])) none:=by
 by_cases hb:b=0<;>simp [fc,cP,br,nz,hb]
def jD (k:IntKind) (a b:Int):Int:=k.wrap (BitVec.ofInt k.bits a^^^BitVec.ofInt k.bits b).toNat
def bi (k:IntKind) (a b:Int):Int:=k.wrap (BitVec.ofInt k.bits a&&&BitVec.ofInt k.bits b).toNat
def vp (k:IntKind) (a b:Int):Int:=k.wrap (BitVec.ofInt k.bits a|||BitVec.ofInt k.bits b).toNat
def Cu (k:IntKind) (a b:Int):Int:=k.wrap (BitVec.ofInt k.bits a&&& ~~~ BitVec.ofInt k.bits b).toNat
def bo (k:IntKind) (a b:Int):Int:=k.wrap (a*2^(min b.toNat k.bits))
def eG (k:IntKind) (a b:Int):Int:=a.fdiv (2^(min b.toNat k.bits))
theorem a1o (k:IntKind) (a b:Int):fc .and (.lit (.int k a)) (.lit (.int k b))=some (.lit (.int k (bi k a b)),[]):=by simp [fc,cP,bi]
theorem a2j (k:IntKind) (a b:Int):fc .or (.lit (.int k a)) (.lit (.int k b))=some (.lit (.int k (vp k a b)),[]):=by simp [fc,cP,vp]
theorem a1r (k:IntKind) (a b:Int):fc .xor (.lit (.int k a)) (.lit (.int k b))=some (.lit (.int k (jD k a b)),[]):=by simp [fc,cP,jD]
theorem XF (k:IntKind) (a b:Int):fc .andNot (.lit (.int k a)) (.lit (.int k b))=some (.lit (.int k (Cu k a b)),[]):=by simp [fc,cP,Cu]
def nn (b:Int):Bool:=decide (0≤b)
theorem a0G (k k':IntKind) (a b:Int):fc .shl (.lit (.int k a)) (.lit (.int k' b))=br (nn b) (some (.lit (.int k (bo k a b)),[])) none:=by
 by_cases hb:0≤b<;>simp [fc,cP,br,nn,hb,bo]
theorem a1m (k k':IntKind) (a b:Int):fc .shr (.lit (.int k a)) (.lit (.int k' b))=br (nn b) (some (.lit (.int k (eG k a b)),[])) none:=by
 by_cases hb:0≤b<;>simp [fc,cP,br,nn,hb,eG]
theorem a09 (k:IntKind) (a b:Int):fc .eql (.lit (.int k a)) (.lit (.int k b))=some (.lit (.bool (a==b)),[]):=by simp [fc,cP]
theorem a08 (k:IntKind) (a b:Int):fc .neq (.lit (.int k a)) (.lit (.int k b))=some (.lit (.bool (a !=b)),[]):=by simp [fc,cP]
theorem a0r (k:IntKind) (a b:Int):fc .lss (.lit (.int k a)) (.lit (.int k b))=some (.lit (.bool (decide (a<b))),[]):=by simp [fc,cP]
theorem a0m (k:IntKind) (a b:Int):fc .leq (.lit (.int k a)) (.lit (.int k b))=some (.lit (.bool (decide (a≤b))),[]):=by simp [fc,cP]
theorem a1u (k:IntKind) (a b:Int):fc .gtr (.lit (.int k a)) (.lit (.int k b))=some (.lit (.bool (decide (a>b))),[]):=by simp [fc,cP]
theorem a1t (k:IntKind) (a b:Int):fc .geq (.lit (.int k a)) (.lit (.int k b))=some (.lit (.bool (decide (a≥b))),[]):=by simp [fc,cP]
theorem D6 (a:List UInt8):(⟨⟨a⟩⟩:ByteArray).size=a.length:=rfl
theorem EM (d:ByteArray): ∀(k i:Nat) (r:List UInt8),d.size-i=k→ByteArray.toList.loop d i r=r.reverse++d.data.toList.drop i:=by
 intro k
 induction k with
 |zero=>
  intro i r hk
  unfold ByteArray.toList.loop
  have: ¬i<d.size:=by omega
  simp only [this,if_false]
  rw [List.drop_of_length_le]
  ·simp
  ·show d.data.size≤i
   exact (by omega:d.size≤i)
 |succ k ih=>
  intro i r hk
  unfold ByteArray.toList.loop
  have hlt:i<d.size:=by omega
  simp only [hlt,if_true]
  rw [ih (i+1) _ (by omega)]
  have hl:i<d.data.toList.length:=hlt
  rw [List.drop_eq_getElem_cons hl]
  have h3:i<d.data.size:=hlt
  simp only [ByteArray.get!,getElem!_pos,h3,List.reverse_cons,List.append_assoc,List.singleton_append,Array.getElem_toList]
theorem Bb (a:List UInt8):(⟨⟨a⟩⟩:ByteArray).toList=a:=by
 unfold ByteArray.toList
 rw [EM _ _ 0 [] rfl]
 simp
theorem XS (a b:List UInt8):fc .add (S a) (S b)=br (aK (a.length+b.length) 1) (some (S (a++b),[])) none:=by
 have:(⟨⟨a⟩⟩:ByteArray)++⟨⟨b⟩⟩=⟨⟨a++b⟩⟩:=by
  apply ByteArray.ext
  simp [ByteArray.data_append]
 by_cases hb:a.length+b.length≤bf<;>simp [fc,cP,br,aK,hb,D6,this]
theorem Yq (a b:List UInt8):fc .eql (S a) (S b)=some (.lit (.bool (a==b)),[]):=by simp [fc,cP,Bb]
theorem Xs (a b:List UInt8):fc .neq (S a) (S b)=some (.lit (.bool (a !=b)),[]):=by simp [fc,cP,Bb,bne]
def eqS (neg:Bool) (ks:List Bool) (x y:V):Option (V×Upd):=match x,y with
 | .agg a,.agg b=>match ce ks a b with
   |some r=>some (.lit (.bool (if neg then !r else r)),[])
   |none=>none
 |_,_=>none
theorem RU (neg:Bool) (ks:List Bool) (x y:Opd):ag C ow (.eqAgg neg ks x y) ev h n=eqS neg ks (ev x) (ev y):=rfl
def eqN (neg:Bool):Option Bool→Option (V×Upd)
 |some r=>some (.lit (.bool (if neg then !r else r)),[])
 |none=>none
theorem Tm (neg:Bool) (ks:List Bool) (a b:List V):eqS neg ks (.agg a) (.agg b)=eqN neg (ce ks a b):=by
 unfold eqS eqN;rfl
theorem a0g (r:Bool):eqN true (some r)=some (.lit (.bool !r),[]):=rfl
theorem a1G (r:Bool):eqN false (some r)=some (.lit (.bool r),[]):=rfl
theorem Y7 (neg c:Bool) (x y:Option Bool):eqN neg (br c x y)=br c (eqN neg x) (eqN neg y):=by cases c<;>rfl
theorem TR:ce [] [] []=some true:=rfl
theorem ZY (ks:List Bool) (k:IntKind) (a b:Int) (x y:List V):ce (true::ks) (.lit (.int k a)::x) (.lit (.int k b)::y)=br (a==b) (ce ks x y) (some false):=by
 by_cases hb:a=b
 ·subst hb;simp [ce,bR]
 ·have:(a==b)=false:=by simpa using hb
  rw [this,aO];simp [ce,hb]
theorem a0O (ks:List Bool) (a b:List UInt8) (x y:List V):ce (false::ks) (S a::x) (S b::y)=br (a==b) (ce ks x y) (some false):=by
 by_cases hb:a=b
 ·subst hb;simp [ce,bR]
 ·have:(a==b)=false:=by simpa using hb
  rw [this,aO];simp [ce,hb]
def YV (neg:Bool) (x y:V):Option (V×Upd):=match x,y with
 | .lit (.bool a),.lit (.bool b)=>some (.lit (.bool (if neg then a !=b else a==b)),[])
 |_,_=>none
theorem a0o (neg:Bool) (x y:Opd):ag C ow (.beq neg x y) ev h n=YV neg (ev x) (ev y):=rfl
theorem Yb (a b:Bool):YV true (B a) (B b)=some (.lit (.bool (a !=b)),[]):=rfl
theorem Y3 (a b:Bool):YV false (B a) (B b)=some (.lit (.bool (a==b)),[]):=rfl
def unS (op:UnOp) (x:V):Option (V×Upd):=match x with
 | .lit a=>match BK op a with
   |some v=>some (.lit v,[])
   |none=>none
 |_=>none
theorem a2d (op:UnOp) (x:Opd):ag C ow (.un op x) ev h n=unS op (ev x):=rfl
theorem a0Z (b:Bool):unS .not (B b)=some (B (!b),[]):=rfl
theorem a0S (k:IntKind) (a:Int):unS .neg (.lit (.int k a))=some (.lit (.int k (k.wrap (0-a))),[]):=rfl
def bu (k:IntKind) (a:Int):Int:=k.wrap (BitVec.ofInt k.bits (if k.signed then-1 else k.max)^^^BitVec.ofInt k.bits a).toNat
theorem a0w (k:IntKind) (a:Int):unS .xor (.lit (.int k a))=some (.lit (.int k (bu k a)),[]):=rfl
def tiS (k:IntKind) (x:V):Option (V×Upd):=match asI x with
 |some m=>some (.lit (.int k (k.wrap m)),[])
 |none=>none
theorem VJ (k:IntKind) (x:Opd):ag C ow (.toInt k x) ev h n=tiS k (ev x):=rfl
theorem a0W (k k':IntKind) (m:Int):tiS k (.lit (.int k' m))=some (.lit (.int k (k.wrap m)),[]):=rfl
def W3 (x:V):Option (V×Upd):=match x with
 | .lit (.string s)=>some (.lit (.string s),[])
 |_=>none
theorem WA (x:Opd):ag C ow (.same x) ev h n=W3 (ev x):=rfl
theorem Uj (s:List UInt8):W3 (S s)=some (S s,[]):=rfl
theorem GK (f:FuncId) (cs:List Opd):ag C ow (.makeFunc f cs) ev h n=some (.fn f (cs.map ev),[]):=rfl
def HT (str:Bool) (x:V):Option (V×Upd):=match str,x with
 |true,.lit (.string s)=>some (.lit (.int .i64 s.size),[])
 |false,.lit (.slice _ n _)=>some (.lit (.int .i64 n),[])
 |false,.sl _ _ n=>some (.lit (.int .i64 n),[])
 |false,.imm _ rows=>some (.lit (.int .i64 rows.length),[])
 |_,_=>none
theorem a0T (str:Bool) (x:Opd):ag C ow (.len str x) ev h n=HT str (ev x):=rfl
theorem VV:HT false (sl e l)=some (I (l.length:Nat),[]):=by
 rcases ff e l with ⟨rfl,h⟩|⟨_,h⟩<;>rw [h]<;>simp [HT,rws]
theorem PJ (b s m:Nat):HT false (.sl b s m)=some (I (m:Nat),[]):=rfl
theorem OF:HT false (.lit (.slice none 0 0))=some (I (0:Nat),[]):=rfl
theorem Oq:HT false (.imm 1 [])=some (I (0:Nat),[]):=rfl
theorem RC (s:List UInt8):HT true (S s)=some (I (s.length:Nat),[]):=rfl
def inS (neg:Bool) (x:V):Option (V×Upd):=match x with
 | .lit (.slice a _ _)=>some (.lit (.bool (if neg then !a.isNone else a.isNone)),[])
 | .imm _ (_::_)=>some (.lit (.bool neg),[])
 |_=>none
theorem Uo (neg:Bool) (x:Opd):ag C ow (.isNil neg x) ev h n=inS neg (ev x):=by
 simp only [ag];unfold inS;rfl
theorem Jz (neg:Bool) (m c:Nat):inS neg (.lit (.slice none m c))=some (B (!neg),[]):=by cases neg<;>rfl
theorem IP (neg:Bool) (a:Addr) (m c:Nat):inS neg (.lit (.slice (some a) m c))=some (B neg,[]):=by cases neg<;>rfl
theorem DW (neg:Bool) (e:En α) (x:α) (l:List α):inS neg (sl e (x::l))=some (B neg,[]):=rfl
theorem O0 (m:Nat) (x:Opd):ag C ow (.lenArr m x) ev h n=some (I (m:Nat),[]):=rfl
def VD (x:V) (i:Nat):Option (V×Upd):=match x with
 | .tup vs=>match vs[i]? with
   |some v=>some (v,[])
   |none=>none
 |_=>none
theorem a1n (x:Opd) (i:Nat):ag C ow (.ext x i) ev h n=VD (ev x) i:=rfl
theorem ZL (a:V) (r:List V):VD (.tup (a::r)) 0=some (a,[]):=rfl
theorem Wn (a:V) (r:List V) (i:Nat):VD (.tup (a::r)) (i+1)=VD (.tup r) i:=rfl
def Yt (d:Nat) (x:V):Option (V×Upd):=match x with
 | .ptr b i o n=>some (.ptr b i (o+d) n,[])
 | .iptr r o=>some (.iptr r (o+d),[])
 |_=>none
theorem a0j (d:Nat) (x:Opd):ag C ow (.off d x) ev h n=Yt d (ev x):=rfl
theorem Xm (d b i o m:Nat):Yt d (.ptr b i o m)=some (.ptr b i (o+d) m,[]):=rfl
theorem Zf (d:Nat) (r:List V) (o:Nat):Yt d (.iptr r o)=some (.iptr r (o+d),[]):=rfl
def ldS:Option V→Option (V×Upd)
 |some v=>some (v,[])
 |none=>none
theorem MN (v:V):ldS (some v)=some (v,[]):=rfl
theorem No {β:Type} (x:Option β) (f:β→Option V):ldS (x.bind f)=x.bind (fun a=>ldS (f a)):=by cases x<;>rfl
theorem Vd (a:V) (r:List V):part none (a::r) 0=some a:=rfl
theorem VR (a:V) (r:List V) (o:Nat):part none (a::r) (o+1)=part none r o:=rfl
theorem Wx (m:Nat) (cs:List V) (o:Nat) (hm:(o+m).ble cs.length=true):part (some m) cs o=some (.agg ((cs.drop o).take m)):=by
 simp only [part]
 rw [if_pos (Nat.le_of_ble_eq_true hm)]
def Oh (d:Nat) (agg:Option Nat) (x:V):Option (V×Upd):=match x with
 | .agg cs=>match part agg cs d with
   |some v=>some (v,[])
   |none=>none
 |_=>none
theorem TS (d:Nat) (agg:Option Nat) (x:Opd):ag C ow (.field d agg x) ev h n=Oh d agg (ev x):=rfl
theorem QZ (d:Nat) (agg:Option Nat) (cs:List V):Oh d agg (.agg cs)=ldS (part agg cs d):=rfl
def Wo (len esz:Nat) (agg:Option Nat) (x i:V):Option (V×Upd):=match x,asI i with
 | .agg cs,some i=>if 0≤i∧i.toNat<len then (match part agg cs (i.toNat*esz) with
   |some v=>some (v,[])
   |none=>none) else none
 |_,_=>none
theorem T6 (len esz:Nat) (agg:Option Nat) (x i:Opd):ag C ow (.ixAgg len esz agg x i) ev h n=Wo len esz agg (ev x) (ev i):=rfl
theorem Xe (len esz:Nat) (agg:Option Nat) (cs:List V) (k:IntKind) (i:Int):Wo len esz agg (.agg cs) (.lit (.int k i))=br (inb i len) (ldS (part agg cs (i.toNat*esz))) none:=by
 unfold inb
 by_cases h1:0≤i<;>by_cases h2:i.toNat<len<;>simp [Wo,asI,h1,h2,br,ldS]
def xX (agg:Option Nat) (k:Option Blk) (i o m:Nat):Option V:=match k with
 |some k=>if k.rows.length=m then (match k.rows[i]? with
  |some row=>part agg row o
  |none=>none) else none
 |none=>none
theorem X5 (agg:Option Nat) (a:Opd):ag C ow (.load agg a) ev h n=ldS (ny agg h (ev a)):=rfl
theorem SR (agg:Option Nat) (b i o m:Nat):ny agg h (.ptr b i o m)=xX agg (h b) i o m:=rfl
theorem SP (agg:Option Nat) (r:List V) (o:Nat):ny agg h (.iptr r o)=part agg r o:=rfl
theorem SH (agg:Option Nat) (m:Nat) (row:List V) (o:Nat):xX agg (some ⟨m,true,[row]⟩) 0 o 1=part agg row o:=rfl
theorem Uh (agg:Option Nat) (m:Nat) (op:Bool) (i o q:Nat) (hq:l.length=q):xX agg (some ⟨m,op,rws e l⟩) i o q=(l[i]?).bind (fun x=>part agg (e.enc x) o):=by
 simp only [xX,rws,List.length_map,List.getElem?_map]
 rw [if_pos hq]
 cases l[i]? <;>rfl
def Df (k:Option Blk) (m b s q:Nat) (i:Int):Option (V×Upd):=match k with
 |some k=>if 0<k.esz∧k.esz=m∧s+q=k.rows.length∧i.toNat<q then some (.ptr b (s+i.toNat) 0 k.rows.length,[]) else none
 |none=>none
def Ey (m:Nat) (x i:V) (h:ak):Option (V×Upd):=match asI i with
 |some i=>if 0≤i then (match x with
  | .sl b s q=>Df (h b) m b s q i
  | .imm e rows=>if e=m then (match rows[i.toNat]? with
    |some row=>some (.iptr row 0,[])
    |none=>none) else none
  |_=>none) else none
 |none=>none
theorem a0X (m:Nat) (x i:Opd):ag C ow (.idx m x i) ev h n=Ey m (ev x) (ev i) h:=by
 simp only [ag,Ey,Df]
 cases asI (ev i) with
 |none=>rfl
 |some i=>
  dsimp only
  split
  ·cases ev x with
   |sl b s q=>dsimp only;cases h b<;>rfl
   |_=>rfl
  ·rfl
theorem UQ (m:Nat) (hm:e.esz=m) (k:IntKind) (i:Int):Ey m (sl e l) (.lit (.int k i)) h=(atL l i).bind (fun x=>some (.iptr (e.enc x) 0,[])):=by
 subst hm
 unfold atL
 by_cases hi:0≤i
 ·rw [if_pos hi]
  rcases ff e l with ⟨rfl,hs⟩|⟨_,hs⟩
  ·rw [hs];simp [Ey,asI]
  ·rw [hs]
   simp only [Ey,asI,hi,if_true,rws,List.getElem?_map]
   cases l[i.toNat]? <;>rfl
 ·rw [if_neg hi];simp [Ey,asI,hi]
theorem P9 (m b s q:Nat) (k:IntKind) (i:Int):Ey m (.sl b s q) (.lit (.int k i)) h=br (nn i) (Df (h b) m b s q i) none:=by
 unfold nn
 by_cases hi:0≤i<;>simp [Ey,asI,hi,br]
theorem VB (m:Nat) (op:Bool) (b q:Nat) (i:Int) (h0:Nat.blt 0 m=true) (hq:l.length=q):Df (some ⟨m,op,rws e l⟩) m b 0 q i=br (decide (i.toNat<q)) (some (.ptr b i.toNat 0 q,[])) none:=by
 have h0:0<m:=by have:=Nat.le_of_ble_eq_true h0;omega
 by_cases hi:i.toNat<q<;>simp [Df,rws,hq,hi,br,h0]
theorem S5 (m b:Nat) (row:List V) (i:Int):Df (some ⟨m,true,[row]⟩) m b 0 1 i=br (Nat.blt 0 m&&decide (i.toNat<1)) (some (.ptr b i.toNat 0 1,[])) none:=by
 rw [ru]
 by_cases h0:0<m<;>by_cases hi:i.toNat<1<;>simp [Df,hi,br,h0]
def Gl (len esz:Nat) (x i:V):Option (V×Upd):=match asI i with
 |some i=>if 0≤i∧i.toNat<len then (match x with
  | .ptr b j o n=>some (.ptr b j (o+i.toNat*esz) n,[])
  | .iptr r o=>some (.iptr r (o+i.toNat*esz),[])
  |_=>none) else none
 |none=>none
theorem Nm (len esz:Nat) (x i:Opd):ag C ow (.idxArr len esz x i) ev h n=Gl len esz (ev x) (ev i):=rfl
theorem V7 (len esz b j o m:Nat) (k:IntKind) (i:Int):Gl len esz (.ptr b j o m) (.lit (.int k i))=br (inb i len) (some (.ptr b j (o+i.toNat*esz) m,[])) none:=by
 unfold inb
 by_cases h1:0≤i<;>by_cases h2:i.toNat<len<;>simp [Gl,asI,h1,h2,br]
theorem Vr (len esz:Nat) (r:List V) (o:Nat) (k:IntKind) (i:Int):Gl len esz (.iptr r o) (.lit (.int k i))=br (inb i len) (some (.iptr r (o+i.toNat*esz),[])) none:=by
 unfold inb
 by_cases h1:0≤i<;>by_cases h2:i.toNat<len<;>simp [Gl,asI,h1,h2,br]
def UY (x i:V):Option (V×Upd):=match x,asI i with
 | .lit (.string s),some i=>if 0≤i then (match s.data[i.toNat]? with
   |some b=>some (.lit (.int .u8 b.toNat),[])
   |none=>none) else none
 |_,_=>none
theorem UX (x i:Opd):ag C ow (.ixStr x i) ev h n=UY (ev x) (ev i):=rfl
theorem Xf (s:List UInt8) (k:IntKind) (i:Int):UY (S s) (.lit (.int k i))=(atL s i).bind (fun b=>some (.lit (.int .u8 b.toNat),[])):=by
 unfold atL
 by_cases hi:0≤i
 ·simp only [UY,asI,hi,if_true]
  have:(⟨⟨s⟩⟩:ByteArray).data[i.toNat]? =s[i.toNat]? :=by simp
  rw [this]
  cases s[i.toNat]? <;>rfl
 ·simp [UY,asI,hi]
def frO (k:Option Blk) (n:Nat) (b:Blk) (v:V):Option (V×Upd):=match k with
 |none=>br (Nat.blt 0 b.esz) (some (v,[(n,b)])) none
 |some _=>none
theorem nK (b:Blk) (v:V):fK h n b v=frO (h n) n b v:=by
 unfold fK frO
 cases h n with
 |none=>rw [ru];by_cases hb:0<b.esz<;>simp [hb,br]
 |some k=>simp
theorem Rt (b:Blk) (v:V):frO none n b v=br (Nat.blt 0 b.esz) (some (v,[(n,b)])) none:=rfl
theorem JA (zero:List Value):ag C ow (.alloc zero) ev h n=br (zero.all aN) (frO (h n) n ⟨zero.length,true,[zero.map .lit]⟩ (.ptr n 0 0 1)) none:=by
 simp only [ag,nK]
 cases zero.all aN<;>rfl
def YQ (size:Nat) (cs:List V) (h:ak) (n:Nat):Option (V×Upd):=br (Nat.beq cs.length size&&cs.all V.cell) (frO (h n) n ⟨size,true,[cs]⟩ (.ptr n 0 0 1)) none
theorem a0p (size:Nat) (x:Opd):ag C ow (.box size x) ev h n=YQ size (ev x).cells h n:=by
 simp only [ag,nK,YQ,vV]
 by_cases h1:(ev x).cells.length=size<;>cases h2:(ev x).cells.all V.cell<;>simp [h1,br]
def xx (cells:List V):List (Nat×Nat×V)→Option (List V)
 |[]=>some cells
 | (off,size,v)::r=>br (Nat.beq v.cells.length size&&Nat.ble (off+size) cells.length&&v.cells.all V.cell) (xx (cells.take off++(v.cells++cells.drop (off+size))) r) none
theorem zT: ∀(ps:List (Nat×Nat×V)) (cells:List V),tI cells ps=xx cells ps
 |[],_=>rfl
 | (off,size,v)::r,cells=>by
   simp only [tI,xx,vV,w7]
   rw [←zT r]
   by_cases h1:v.cells.length=size<;>by_cases h2:off+size≤cells.length<;>cases h3:v.cells.all V.cell<;>simp [h1,h2,br]
def ZB:Option (List V)→Option (V×Upd)
 |some cs=>some (.agg cs,[])
 |none=>none
theorem DN (zero:List Value) (ps:List (Nat×Nat×Opd)):ag C ow (.build zero ps) ev h n=br (zero.all aN) (ZB (xx (zero.map .lit) (di ev ps))) none:=by
 simp only [ag,zT,ZB]
 cases zero.all aN
 ·rfl
 ·simp only [bR,if_true]
  cases xx (zero.map .lit) (di ev ps)<;>rfl
theorem Kg (cs:List V):ZB (some cs)=some (.agg cs,[]):=rfl
end
end Go.AI
