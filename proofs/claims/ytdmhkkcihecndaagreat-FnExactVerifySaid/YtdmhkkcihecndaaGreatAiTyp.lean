/- Lean's own values as the machine's; the machine's operations on these, one by one. -/
import Derived.Test.YtdmhkkcihecndaaGreatAiCps
set_option linter.unusedVariables false
set_option linter.unusedSimpArgs false
namespace Go.AI
abbrev I (n:Int):V:= .lit (.int .i64 n)
abbrev B (b:Bool):V:= .lit (.bool b)
abbrev S (s:List UInt8):V:= .lit (.string ⟨⟨s⟩⟩)
structure En (α:Type) where
 esz:Nat
 enc:α→List V
def rws {α:Type} (e:En α) (l:List α):List (List V):=l.map e.enc
def sl {α:Type} (e:En α) (l:List α):V:=(V.imm e.esz (rws e l)).cz
theorem b2k {α:Type} (e:En α):sl e []= .imm 1 []:=rfl
def eI:En Int:=⟨1,fun n=>[I n]⟩
def eU8:En UInt8:=⟨1,fun b=>[.lit (.int .u8 b.toNat)]⟩
def b3m:En Int:=⟨1,fun n=>[.lit (.int .u64 n)]⟩
def eB:En Bool:=⟨1,fun b=>[B b]⟩
def eS:En (List UInt8):=⟨1,fun s=>[S s]⟩
def eL {α:Type} (e:En α):En (List α):=⟨1,fun l=>[sl e l]⟩
theorem b4U:eI.esz=1:=by decide
theorem b44 (n:Int):eI.enc n=[I n]:=rfl
theorem a9U:eU8.esz=1:=by decide
theorem a8D (n:UInt8):eU8.enc n=[.lit (.int .u8 n.toNat)]:=rfl
theorem a7K (n:Int):b3m.enc n=[.lit (.int .u64 n)]:=rfl
theorem b4k (n:Bool):eB.enc n=[B n]:=rfl
theorem b2W:eS.esz=1:=by decide
theorem b2i (n:List UInt8):eS.enc n=[S n]:=rfl
theorem b4K {α:Type} (e:En α):(eL e).esz=1:=of_decide_eq_true rfl
theorem b48 {α:Type} (e:En α) (l:List α):(eL e).enc l=[sl e l]:=rfl
def atL {α:Type} (l:List α) (i:Int):Option α:=if 0≤i then l[i.toNat]? else none
def ny {α:Type} (l:List α) (a b:Int):Option (List α):=if 0≤a∧a≤b∧b≤l.length then some ((l.take b.toNat).drop a.toNat) else none
def inb (i:Int) (n:Nat):Bool:=decide (0≤i)&&decide (i.toNat<n)
def bW (n bytes:Nat):Bool:=decide (n*bytes≤bq)
def tF (l c:Int) (bytes:Nat):Bool:=decide (0≤l)&&decide (l≤c)&&decide (c*bytes≤bq)
def mx (a b:Int):Int:=if b>a then b else a
def mn (a b:Int):Int:=if b<a then b else a
def a09 (r:List (List V)):Nat:=r.length
def app (r q:List (List V)):List (List V):=r++q
def mkR (n:Nat) (r:List (List V)):List (List V):=r
def co (row:List V) (r:List (List V)):List (List V):=row::r
def wi (n k:Nat) (row:List V):List (List V):=List.replicate k row
def vk (r:List (List V)) (i:Nat) (row:List V):List (List V):=r.set i row
section
variable {α:Type} {e:En α} {l l2:List α}
theorem a0Z:a09 (rws e l)=l.length:=by simp [a09,rws]
theorem mk0 (e:En α) (n:Nat):mkR n []=rws e []:=rfl
theorem a4S (n:Nat) (row:List V) (r:List (List V)):mkR n (row::r)=co row (mkR n r):=rfl
theorem b5A (a:Int) (l:List Int):co [I a] (rws eI l)=rws eI (a::l):=rfl
theorem b5X (a:List UInt8) (l:List (List UInt8)):co [S a] (rws eS l)=rws eS (a::l):=rfl
theorem b66 (a:List α) (l:List (List α)):co [sl e a] (rws (eL e) l)=rws (eL e) (a::l):=rfl
theorem b4X (l:List (List α)):co [.imm 1 []] (rws (eL e) l)=rws (eL e) ([]::l):=rfl
theorem b5q (b:Bool) (l:List Bool):co [B b] (rws eB l)=rws eB (b::l):=rfl
theorem a8m (a:Int) (l:List Int):co [.lit (.int .u64 a)] (rws b3m l)=rws b3m (a::l):=rfl
theorem a7j (b:UInt8) (l:List UInt8):co [.lit (.int .u8 b.toNat)] (rws eU8 l)=rws eU8 (b::l):=rfl
theorem of (x:Int):((UInt8.ofInt x).toNat:Int)=IntKind.u8.wrap x:=by
 simp [UInt8.ofInt,IntKind.wrap,IntKind.bits,IntKind.signed]
 omega
theorem b0F (x:Int) (l:List UInt8):co [.lit (.int .u8 (IntKind.u8.wrap x))] (rws eU8 l)=rws eU8 (UInt8.ofInt x::l):=by
 rw [←of];rfl
theorem a8g (n:Nat) (h:Nat.ble n 255=true) (l:List UInt8):co [.lit (.int .u8 (no_index (OfNat.ofNat n:Int)))] (rws eU8 l)=rws eU8 ((OfNat.ofNat n:UInt8)::l):=by
 have h':=Nat.le_of_ble_eq_true h
 have:((OfNat.ofNat n:UInt8).toNat:Int)=(OfNat.ofNat n:Int):=by
  show ((UInt8.ofNat n).toNat:Int)=(n:Int)
  simp;omega
 rw [←a7j,this]
theorem b6C (l:List Int) (i:Nat) (a:Int):vk (rws eI l) i [I a]=rws eI (l.set i a):=by simp [vk,rws,eI]
theorem setB (l:List Bool) (i:Nat) (a:Bool):vk (rws eB l) i [B a]=rws eB (l.set i a):=by simp [vk,rws,eB]
theorem b1S (l:List (List UInt8)) (i:Nat) (a:List UInt8):vk (rws eS l) i [S a]=rws eS (l.set i a):=by simp [vk,rws,eS]
theorem b6T (l:List (List α)) (i:Nat) (a:List α):vk (rws (eL e) l) i [sl e a]=rws (eL e) (l.set i a):=by simp [vk,rws,eL]
theorem b1A (l:List UInt8) (i:Nat) (a:UInt8):vk (rws eU8 l) i [.lit (.int .u8 a.toNat)]=rws eU8 (l.set i a):=by simp [vk,rws,eU8]
theorem a5I (l:List UInt8) (i:Nat) (x:Int):vk (rws eU8 l) i [.lit (.int .u8 (IntKind.u8.wrap x))]=rws eU8 (l.set i (UInt8.ofInt x)):=by
 rw [←of,b1A]
theorem H4 (e:En α) (x:α) (n k:Nat):wi n k (e.enc x)=rws e (List.replicate k x):=by simp [wi,rws]
theorem b4u (m:Nat) (h:e.esz=m):V.cz (.imm m (rws e l))=sl e l:=by subst h;rfl
theorem b6s (r:List (List V)):r.drop 0=r:=rfl
theorem gw (e:En α) (l:List α):(l=[]∧sl e l= .imm 1 [])∨(l≠[]∧sl e l= .imm e.esz (rws e l)):=by
 cases l with
 |nil=>exact .inl ⟨rfl,rfl⟩
 |cons x l=>exact .inr ⟨by simp,rfl⟩
theorem b6k:(sl e l).cz=sl e l:=by
 cases l with
 |nil=>rfl
 |cons x l=>rfl
theorem b2S:(sl e l).czA=sl e l:=by
 cases l with
 |nil=>rfl
 |cons x l=>rfl
theorem b4j:(sl e l).czR=sl e l:=by
 cases l with
 |nil=>rfl
 |cons x l=>rfl
theorem a9f:(sl e l).cell=true:=by
 rcases gw e l with ⟨_,h⟩|⟨_,h⟩<;>rw [h]<;>rfl
theorem b5V:(sl e l).cl=true:=by
 rcases gw e l with ⟨_,h⟩|⟨_,h⟩<;>rw [h]<;>rfl
theorem a3T:(sl e l).cells=[sl e l]:=by
 rcases gw e l with ⟨_,h⟩|⟨_,h⟩<;>rw [h]<;>rfl
theorem a9X:fa (sl e l)=[]:=by
 rcases gw e l with ⟨_,h⟩|⟨_,h⟩<;>rw [h]<;>rfl
theorem b06:pp (sl e l)=[]:=by
 rcases gw e l with ⟨_,h⟩|⟨_,h⟩<;>rw [h]<;>rfl
theorem ZA {h:ak}:kP h (sl e l)=some (sl e l,[]):=by
 rcases gw e l with ⟨_,h⟩|⟨_,h⟩<;>rw [h]<;>rfl
theorem Zl {h:ak} {own:Bool} {ids:List Nat}:bY h own ids (sl e l)=some (sl e l,ids,[]):=by
 rcases gw e l with ⟨_,h⟩|⟨_,h⟩<;>rw [h]<;>rfl
theorem a2Q {h:ak} {own:Bool} {ids:List Nat}:cW h own ids (sl e l)=some (sl e l,ids,[]):=by
 rcases gw e l with ⟨_,h⟩|⟨_,h⟩<;>rw [h]<;>rfl
theorem b4d {ids:List Nat}:unV ids (sl e l)=sl e l:=by
 rcases gw e l with ⟨_,h⟩|⟨_,h⟩<;>rw [h]<;>rfl
theorem a6I {ids:List Nat}:k9 ids (sl e l)=sl e l:=by
 rcases gw e l with ⟨_,h⟩|⟨_,h⟩<;>rw [h]<;>rfl
theorem a6W {ids:List Nat}:yG ids (sl e l)=sl e l:=by
 rcases gw e l with ⟨_,h⟩|⟨_,h⟩<;>rw [h]<;>rfl
theorem a69:mu (sl e l)=false:=by
 rcases gw e l with ⟨_,h⟩|⟨_,h⟩<;>rw [h]<;>rfl
theorem a4X:B4 (sl e l)=false:=by
 rcases gw e l with ⟨_,h⟩|⟨_,h⟩<;>rw [h]<;>rfl
theorem a3N:oQ (sl e l)=false:=by
 rcases gw e l with ⟨_,h⟩|⟨_,h⟩<;>rw [h]<;>rfl
theorem b3S {h:ak} {bs:List Nat}:fzC h bs (sl e l)=sl e l:=by
 rcases gw e l with ⟨_,h⟩|⟨_,h⟩<;>rw [h]<;>rfl
theorem b3K {h:ak} {bs:List Nat}:fzA h bs (sl e l)=sl e l:=by
 rcases gw e l with ⟨_,h⟩|⟨_,h⟩<;>rw [h]<;>rfl
theorem a9J {h:ak} {m:Nat} {kp:List Nat}:ni h m kp (sl e l)=some (sl e l):=by
 rcases gw e l with ⟨_,h⟩|⟨_,h⟩<;>rw [h]<;>rfl
theorem a8B {h:ak} {m:Nat} {kp:List Nat}:Du h m kp (sl e l)=some (sl e l):=by
 rcases gw e l with ⟨_,h⟩|⟨_,h⟩<;>rw [h]<;>rfl
theorem b0D {h:ak} {m:Nat} {kp:List Nat}:DG h m kp (sl e l)=some (sl e l):=by
 rcases gw e l with ⟨_,h⟩|⟨_,h⟩<;>rw [h]<;>rfl
theorem b1U:okC (sl e l)=true:=by
 rcases gw e l with ⟨_,h⟩|⟨_,h⟩<;>rw [h]<;>rfl
theorem Qv {h:ak} (m:Nat) (hm:e.esz=m):ck h m (sl e l)=some (rws e l):=by
 subst hm
 rcases gw e l with ⟨rfl,h⟩|⟨hl,h⟩
 ·rw [h];simp [ck,rws]
 ·rw [h];simp [ck]
theorem Vc:a0t (sl e l)=false:=by
 rcases gw e l with ⟨_,h⟩|⟨_,h⟩<;>rw [h]<;>rfl
end
end Go.AI
