/- Lean's own values as the machine's; the machine's operations on these, one by one. -/
import Derived.Test.YtdmhkkcihecndaaGreatAiCps
set_option linter.unusedVariables false
set_option linter.unusedSimpArgs false
namespace Go.AI
abbrev I (n:Int):V:= .lit (.int .i64 n)
abbrev B (b:Bool):V:= .lit (.bool b)
abbrev S (s:List UInt8):V:= .lit (.string ⟨⟨s⟩⟩)
structure En (α:Type) where
 esz:Nat
 enc:α→List V
def rws {α:Type} (e:En α) (l:List α):List (List V):=l.map e.enc
def sl {α:Type} (e:En α) (l:List α):V:=(V.imm e.esz (rws e l)).cz
theorem a5Y {α:Type} (e:En α):sl e []= .imm 1 []:=rfl
def eI:En Int:=⟨1,fun n=>[I n]⟩
def eU8:En UInt8:=⟨1,fun b=>[.lit (.int .u8 b.toNat)]⟩
def a8i:En Int:=⟨1,fun n=>[.lit (.int .u64 n)]⟩
def eB:En Bool:=⟨1,fun b=>[B b]⟩
def eS:En (List UInt8):=⟨1,fun s=>[S s]⟩
def eL {α:Type} (e:En α):En (List α):=⟨1,fun l=>[sl e l]⟩
theorem a4G:eI.esz=1:=by decide
theorem a3g:eU8.esz=1:=by decide
theorem a5o:eS.esz=1:=by decide
theorem a54 {α:Type} (e:En α):(eL e).esz=1:=of_decide_eq_true rfl
def atL {α:Type} (l:List α) (i:Int):Option α:=if 0≤i then l[i.toNat]? else none
def sK {α:Type} (l:List α) (a b:Int):Option (List α):=if 0≤a∧a≤b∧b≤l.length then some ((l.take b.toNat).drop a.toNat) else none
def inb (i:Int) (n:Nat):Bool:=decide (0≤i)&&decide (i.toNat<n)
def aZ (n bytes:Nat):Bool:=decide (n*bytes≤bB)
def J8 (l c:Int) (bytes:Nat):Bool:=decide (0≤l)&&decide (l≤c)&&decide (c*bytes≤bB)
def mx (a b:Int):Int:=if b>a then b else a
def mn (a b:Int):Int:=if b<a then b else a
def Wt (r:List (List V)):Nat:=r.length
def app (r q:List (List V)):List (List V):=r++q
def mkR (n:Nat) (r:List (List V)):List (List V):=r
def Zi (row:List V) (r:List (List V)):List (List V):=row::r
def J3 (n k:Nat) (row:List V):List (List V):=List.replicate k row
def KU (r:List (List V)) (i:Nat) (row:List V):List (List V):=r.set i row
section
variable {α:Type} {e:En α} {l l2:List α}
theorem YD:Wt (rws e l)=l.length:=by simp [Wt,rws]
theorem mk0 (e:En α) (n:Nat):mkR n []=rws e []:=rfl
theorem a0M (b:UInt8) (l:List UInt8):Zi [.lit (.int .u8 b.toNat)] (rws eU8 l)=rws eU8 (b::l):=rfl
theorem nD (x:Int):((UInt8.ofInt x).toNat:Int)=IntKind.u8.wrap x:=by
 simp [UInt8.ofInt,IntKind.wrap,IntKind.bits,IntKind.signed]
 omega
theorem a28 (x:Int) (l:List UInt8):Zi [.lit (.int .u8 (IntKind.u8.wrap x))] (rws eU8 l)=rws eU8 (UInt8.ofInt x::l):=by
 rw [←nD];rfl
theorem a2g (n:Nat) (h:Nat.ble n 255=true) (l:List UInt8):Zi [.lit (.int .u8 (no_index (OfNat.ofNat n:Int)))] (rws eU8 l)=rws eU8 ((OfNat.ofNat n:UInt8)::l):=by
 have h':=Nat.le_of_ble_eq_true h
 have:((OfNat.ofNat n:UInt8).toNat:Int)=(OfNat.ofNat n:Int):=by
  show ((UInt8.ofNat n).toNat:Int)=(n:Int)
  simp;omega
 rw [←a0M,this]
theorem setB (l:List Bool) (i:Nat) (a:Bool):KU (rws eB l) i [B a]=rws eB (l.set i a):=by simp [KU,rws,eB]
theorem a4m (l:List UInt8) (i:Nat) (a:UInt8):KU (rws eU8 l) i [.lit (.int .u8 a.toNat)]=rws eU8 (l.set i a):=by simp [KU,rws,eU8]
theorem Zu (l:List UInt8) (i:Nat) (x:Int):KU (rws eU8 l) i [.lit (.int .u8 (IntKind.u8.wrap x))]=rws eU8 (l.set i (UInt8.ofInt x)):=by
 rw [←nD,a4m]
theorem a1l (e:En α) (x:α) (n k:Nat):J3 n k (e.enc x)=rws e (List.replicate k x):=by simp [J3,rws]
theorem a5P (m:Nat) (h:e.esz=m):V.cz (.imm m (rws e l))=sl e l:=by subst h;rfl
theorem iY (e:En α) (l:List α):(l=[]∧sl e l= .imm 1 [])∨(l≠[]∧sl e l= .imm e.esz (rws e l)):=by
 cases l with
 |nil=>exact .inl ⟨rfl,rfl⟩
 |cons x l=>exact .inr ⟨by simp,rfl⟩
theorem a6h:(sl e l).cz=sl e l:=by
 cases l with
 |nil=>rfl
 |cons x l=>rfl
theorem a5r:(sl e l).czA=sl e l:=by
 cases l with
 |nil=>rfl
 |cons x l=>rfl
theorem a4N:(sl e l).czR=sl e l:=by
 cases l with
 |nil=>rfl
 |cons x l=>rfl
theorem a34:(sl e l).cell=true:=by
 rcases iY e l with ⟨_,h⟩|⟨_,h⟩<;>rw [h]<;>rfl
theorem a1b:(sl e l).cells=[sl e l]:=by
 rcases iY e l with ⟨_,h⟩|⟨_,h⟩<;>rw [h]<;>rfl
theorem a1X:a0L (sl e l)=[]:=by
 rcases iY e l with ⟨_,h⟩|⟨_,h⟩<;>rw [h]<;>rfl
theorem a29:FB (sl e l)=[]:=by
 rcases iY e l with ⟨_,h⟩|⟨_,h⟩<;>rw [h]<;>rfl
theorem a2E {h:au}:pL h (sl e l)=some (sl e l,[]):=by
 rcases iY e l with ⟨_,h⟩|⟨_,h⟩<;>rw [h]<;>rfl
theorem V3 {h:au} {own:Bool} {ids:List Nat}:cN h own ids (sl e l)=some (sl e l,ids,[]):=by
 rcases iY e l with ⟨_,h⟩|⟨_,h⟩<;>rw [h]<;>rfl
theorem XK {h:au} {own:Bool} {ids:List Nat}:dB h own ids (sl e l)=some (sl e l,ids,[]):=by
 rcases iY e l with ⟨_,h⟩|⟨_,h⟩<;>rw [h]<;>rfl
theorem a5D {ids:List Nat}:unV ids (sl e l)=sl e l:=by
 rcases iY e l with ⟨_,h⟩|⟨_,h⟩<;>rw [h]<;>rfl
theorem Z9 {ids:List Nat}:w9 ids (sl e l)=sl e l:=by
 rcases iY e l with ⟨_,h⟩|⟨_,h⟩<;>rw [h]<;>rfl
theorem ZA {ids:List Nat}:Xb ids (sl e l)=sl e l:=by
 rcases iY e l with ⟨_,h⟩|⟨_,h⟩<;>rw [h]<;>rfl
theorem a0n:zb (sl e l)=false:=by
 rcases iY e l with ⟨_,h⟩|⟨_,h⟩<;>rw [h]<;>rfl
theorem ZO:WE (sl e l)=false:=by
 rcases iY e l with ⟨_,h⟩|⟨_,h⟩<;>rw [h]<;>rfl
theorem a0c:GW (sl e l)=false:=by
 rcases iY e l with ⟨_,h⟩|⟨_,h⟩<;>rw [h]<;>rfl
theorem a5E {h:au} {bs:List Nat}:fzC h bs (sl e l)=sl e l:=by
 rcases iY e l with ⟨_,h⟩|⟨_,h⟩<;>rw [h]<;>rfl
theorem a5H {h:au} {bs:List Nat}:fzA h bs (sl e l)=sl e l:=by
 rcases iY e l with ⟨_,h⟩|⟨_,h⟩<;>rw [h]<;>rfl
theorem a1L {h:au} {m:Nat} {kp:List Nat}:rU h m kp (sl e l)=some (sl e l):=by
 rcases iY e l with ⟨_,h⟩|⟨_,h⟩<;>rw [h]<;>rfl
theorem a2Y {h:au} {m:Nat} {kp:List Nat}:LH h m kp (sl e l)=some (sl e l):=by
 rcases iY e l with ⟨_,h⟩|⟨_,h⟩<;>rw [h]<;>rfl
theorem a3H {h:au} {m:Nat} {kp:List Nat}:NJ h m kp (sl e l)=some (sl e l):=by
 rcases iY e l with ⟨_,h⟩|⟨_,h⟩<;>rw [h]<;>rfl
theorem OZ {h:au} (m:Nat) (hm:e.esz=m):cv h m (sl e l)=some (rws e l):=by
 subst hm
 rcases iY e l with ⟨rfl,h⟩|⟨hl,h⟩
 ·rw [h];simp [cv,rws]
 ·rw [h];simp [cv]
theorem SV:Wm (sl e l)=false:=by
 rcases iY e l with ⟨_,h⟩|⟨_,h⟩<;>rw [h]<;>rfl
end
end Go.AI
