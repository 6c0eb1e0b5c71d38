/- Lean's own values as the machine's; the machine's operations on these, one by one. -/
import Derived.Test.YtdmhkkcihecndaaGreatAiCps
set_option linter.unusedVariables false
set_option linter.unusedSimpArgs false
namespace Go.AI
abbrev I (n:Int):V:= .lit (.int .i64 n)
abbrev B (b:Bool):V:= .lit (.bool b)
abbrev S (s:List UInt8):V:= .lit (.string ⟨⟨s⟩⟩)
structure En (α:Type) where
 esz:Nat
 enc:α→List V
def rws {α:Type} (e:En α) (l:List α):List (List V):=l.map e.enc
def sl {α:Type} (e:En α) (l:List α):V:=(V.imm e.esz (rws e l)).cz
theorem b45 {α:Type} (e:En α):sl e []= .imm 1 []:=rfl
def eI:En Int:=⟨1,fun n=>[I n]⟩
def eU8:En UInt8:=⟨1,fun b=>[.lit (.int .u8 b.toNat)]⟩
def b7O:En Int:=⟨1,fun n=>[.lit (.int .u64 n)]⟩
def eB:En Bool:=⟨1,fun b=>[B b]⟩
def eS:En (List UInt8):=⟨1,fun s=>[S s]⟩
def eL {α:Type} (e:En α):En (List α):=⟨1,fun l=>[sl e l]⟩
theorem b4t:eI.esz=1:=by decide
theorem b53 (n:Int):eI.enc n=[I n]:=rfl
theorem b0r:eU8.esz=1:=by decide
theorem a9H (n:UInt8):eU8.enc n=[.lit (.int .u8 n.toNat)]:=rfl
theorem b3m:eS.esz=1:=by decide
theorem b31 (n:List UInt8):eS.enc n=[S n]:=rfl
theorem b4h {α:Type} (e:En α):(eL e).esz=1:=of_decide_eq_true rfl
theorem b5f {α:Type} (e:En α) (l:List α):(eL e).enc l=[sl e l]:=rfl
def atL {α:Type} (l:List α) (i:Int):Option α:=if 0≤i then l[i.toNat]? else none
def rL {α:Type} (l:List α) (a b:Int):Option (List α):=if 0≤a∧a≤b∧b≤l.length then some ((l.take b.toNat).drop a.toNat) else none
def inb (i:Int) (n:Nat):Bool:=decide (0≤i)&&decide (i.toNat<n)
def bc (n bytes:Nat):Bool:=decide (n*bytes≤bC)
def KS (l c:Int) (bytes:Nat):Bool:=decide (0≤l)&&decide (l≤c)&&decide (c*bytes≤bC)
def mx (a b:Int):Int:=if b>a then b else a
def mn (a b:Int):Int:=if b<a then b else a
def a0A (r:List (List V)):Nat:=r.length
def app (r q:List (List V)):List (List V):=r++q
def mkR (n:Nat) (r:List (List V)):List (List V):=r
def CJ (row:List V) (r:List (List V)):List (List V):=row::r
def KZ (n k:Nat) (row:List V):List (List V):=List.replicate k row
def vz (r:List (List V)) (i:Nat) (row:List V):List (List V):=r.set i row
section
variable {α:Type} {e:En α} {l l2:List α}
theorem a2t:a0A (rws e l)=l.length:=by simp [a0A,rws]
theorem mk0 (e:En α) (n:Nat):mkR n []=rws e []:=rfl
theorem a65 (n:Nat) (row:List V) (r:List (List V)):mkR n (row::r)=CJ row (mkR n r):=rfl
theorem b73 (a:Int) (l:List Int):CJ [I a] (rws eI l)=rws eI (a::l):=rfl
theorem b6H (a:List UInt8) (l:List (List UInt8)):CJ [S a] (rws eS l)=rws eS (a::l):=rfl
theorem b5z (a:List α) (l:List (List α)):CJ [sl e a] (rws (eL e) l)=rws (eL e) (a::l):=rfl
theorem a6d (b:UInt8) (l:List UInt8):CJ [.lit (.int .u8 b.toNat)] (rws eU8 l)=rws eU8 (b::l):=rfl
theorem oz (x:Int):((UInt8.ofInt x).toNat:Int)=IntKind.u8.wrap x:=by
 simp [UInt8.ofInt,IntKind.wrap,IntKind.bits,IntKind.signed]
 omega
theorem b1r (x:Int) (l:List UInt8):CJ [.lit (.int .u8 (IntKind.u8.wrap x))] (rws eU8 l)=rws eU8 (UInt8.ofInt x::l):=by
 rw [←oz];rfl
theorem a8G (n:Nat) (h:Nat.ble n 255=true) (l:List UInt8):CJ [.lit (.int .u8 (no_index (OfNat.ofNat n:Int)))] (rws eU8 l)=rws eU8 ((OfNat.ofNat n:UInt8)::l):=by
 have h':=Nat.le_of_ble_eq_true h
 have:((OfNat.ofNat n:UInt8).toNat:Int)=(OfNat.ofNat n:Int):=by
  show ((UInt8.ofNat n).toNat:Int)=(n:Int)
  simp;omega
 rw [←a6d,this]
theorem b7w (l:List Int) (i:Nat) (a:Int):vz (rws eI l) i [I a]=rws eI (l.set i a):=by simp [vz,rws,eI]
theorem setB (l:List Bool) (i:Nat) (a:Bool):vz (rws eB l) i [B a]=rws eB (l.set i a):=by simp [vz,rws,eB]
theorem b5a (l:List (List UInt8)) (i:Nat) (a:List UInt8):vz (rws eS l) i [S a]=rws eS (l.set i a):=by simp [vz,rws,eS]
theorem b7h (l:List (List α)) (i:Nat) (a:List α):vz (rws (eL e) l) i [sl e a]=rws (eL e) (l.set i a):=by simp [vz,rws,eL]
theorem b2w (l:List UInt8) (i:Nat) (a:UInt8):vz (rws eU8 l) i [.lit (.int .u8 a.toNat)]=rws eU8 (l.set i a):=by simp [vz,rws,eU8]
theorem a8k (l:List UInt8) (i:Nat) (x:Int):vz (rws eU8 l) i [.lit (.int .u8 (IntKind.u8.wrap x))]=rws eU8 (l.set i (UInt8.ofInt x)):=by
 rw [←oz,b2w]
theorem a4X (e:En α) (x:α) (n k:Nat):KZ n k (e.enc x)=rws e (List.replicate k x):=by simp [KZ,rws]
theorem b2R (m:Nat) (h:e.esz=m):V.cz (.imm m (rws e l))=sl e l:=by subst h;rfl
theorem jm (e:En α) (l:List α):(l=[]∧sl e l= .imm 1 [])∨(l≠[]∧sl e l= .imm e.esz (rws e l)):=by
 cases l with
 |nil=>exact .inl ⟨rfl,rfl⟩
 |cons x l=>exact .inr ⟨by simp,rfl⟩
theorem b5F:(sl e l).cz=sl e l:=by
 cases l with
 |nil=>rfl
 |cons x l=>rfl
theorem b3X:(sl e l).czA=sl e l:=by
 cases l with
 |nil=>rfl
 |cons x l=>rfl
theorem b59:(sl e l).czR=sl e l:=by
 cases l with
 |nil=>rfl
 |cons x l=>rfl
theorem a92:(sl e l).cell=true:=by
 rcases jm e l with ⟨_,h⟩|⟨_,h⟩<;>rw [h]<;>rfl
theorem a6m:(sl e l).cells=[sl e l]:=by
 rcases jm e l with ⟨_,h⟩|⟨_,h⟩<;>rw [h]<;>rfl
theorem a9G:md (sl e l)=[]:=by
 rcases jm e l with ⟨_,h⟩|⟨_,h⟩<;>rw [h]<;>rfl
theorem b1L:A9 (sl e l)=[]:=by
 rcases jm e l with ⟨_,h⟩|⟨_,h⟩<;>rw [h]<;>rfl
theorem a9c {h:aw}:nu h (sl e l)=some (sl e l,[]):=by
 rcases jm e l with ⟨_,h⟩|⟨_,h⟩<;>rw [h]<;>rfl
theorem Yy {h:aw} {own:Bool} {ids:List Nat}:cF h own ids (sl e l)=some (sl e l,ids,[]):=by
 rcases jm e l with ⟨_,h⟩|⟨_,h⟩<;>rw [h]<;>rfl
theorem a2f {h:aw} {own:Bool} {ids:List Nat}:de h own ids (sl e l)=some (sl e l,ids,[]):=by
 rcases jm e l with ⟨_,h⟩|⟨_,h⟩<;>rw [h]<;>rfl
theorem b3l {ids:List Nat}:unV ids (sl e l)=sl e l:=by
 rcases jm e l with ⟨_,h⟩|⟨_,h⟩<;>rw [h]<;>rfl
theorem a8t {ids:List Nat}:mm ids (sl e l)=sl e l:=by
 rcases jm e l with ⟨_,h⟩|⟨_,h⟩<;>rw [h]<;>rfl
theorem a4U {ids:List Nat}:DF ids (sl e l)=sl e l:=by
 rcases jm e l with ⟨_,h⟩|⟨_,h⟩<;>rw [h]<;>rfl
theorem a58:py (sl e l)=false:=by
 rcases jm e l with ⟨_,h⟩|⟨_,h⟩<;>rw [h]<;>rfl
theorem a8o:Mg (sl e l)=false:=by
 rcases jm e l with ⟨_,h⟩|⟨_,h⟩<;>rw [h]<;>rfl
theorem a4n:uD (sl e l)=false:=by
 rcases jm e l with ⟨_,h⟩|⟨_,h⟩<;>rw [h]<;>rfl
theorem b2N {h:aw} {bs:List Nat}:fzC h bs (sl e l)=sl e l:=by
 rcases jm e l with ⟨_,h⟩|⟨_,h⟩<;>rw [h]<;>rfl
theorem b2F {h:aw} {bs:List Nat}:fzA h bs (sl e l)=sl e l:=by
 rcases jm e l with ⟨_,h⟩|⟨_,h⟩<;>rw [h]<;>rfl
theorem a9r {h:aw} {m:Nat} {kp:List Nat}:rA h m kp (sl e l)=some (sl e l):=by
 rcases jm e l with ⟨_,h⟩|⟨_,h⟩<;>rw [h]<;>rfl
theorem a91 {h:aw} {m:Nat} {kp:List Nat}:KK h m kp (sl e l)=some (sl e l):=by
 rcases jm e l with ⟨_,h⟩|⟨_,h⟩<;>rw [h]<;>rfl
theorem b0B {h:aw} {m:Nat} {kp:List Nat}:KU h m kp (sl e l)=some (sl e l):=by
 rcases jm e l with ⟨_,h⟩|⟨_,h⟩<;>rw [h]<;>rfl
theorem Rk {h:aw} (m:Nat) (hm:e.esz=m):co h m (sl e l)=some (rws e l):=by
 subst hm
 rcases jm e l with ⟨rfl,h⟩|⟨hl,h⟩
 ·rw [h];simp [co,rws]
 ·rw [h];simp [co]
theorem Wm:a0E (sl e l)=false:=by
 rcases jm e l with ⟨_,h⟩|⟨_,h⟩<;>rw [h]<;>rfl
end
end Go.AI
