/- Part. -/
import Derived.Test.YtdnkignjanfikaaGreatAiW
set_option linter.unusedVariables false
set_option linter.unusedSimpArgs false
namespace Go.AI
def a1c {α:Type}:List α->Option (α×α×α)
 |a::b::c::_=>some (a,b,c)
 |_=>none
def arS (m:Nat) (h:ba) (v:V):Option (V×Upd):=match uO h v with
 |some (.imm _ rows,bs)=>if 0<m/\m<=rows.length then some (.iptr rows.flatten 0,ka bs) else none
 |_=>none
section
variable {C:cr} {ow:ff} {ev:Opd->V} {h:ba} {n:Nat} {α:Type} {e:En α} {l:List α}
theorem b7p (m:Nat) (x:Opd):aK C ow (.arrOf m x) ev h n=arS m h (ev x):=rfl
theorem c1y (m:Nat) (h0:Nat.blt 0 m=true):arS m h (sl e l)=br (decide (m<=l.length)) (some (.iptr (rws e l).flatten 0,[])) none:=by
 rw [Gq,aA] at h0
 rw [arS,a51]
 rcases oZ e l with ⟨rfl,a⟩|⟨b,a⟩
 ·rw [a]
  have: ¬m<=0:=by omega
  simp [br,this]
 ·rw [a]
  by_cases c:m<=l.length<;>simp [br,rws,c,h0,ka]
theorem b4I (a: ∀x,(e.enc x).length=e.esz): ∀l:List α,(rws e l).flatten.length=l.length*e.esz
 |[]=>by simp [rws]
 |x::l=>by
  have:=b4I a l
  simp only [rws,aM,pH,a8,a,ab] at*
  rw [this,Nat.succ_mul];omega
theorem b3y (m:Nat) (f: ∀x,(e.enc x).length=e.esz) (i:Nat.beq (3*e.esz) m=true) (h0:Nat.blt 0 m=true):
 part (some m) (rws e l).flatten 0=(a1c l).bind fun x=>some (.agg (e.enc x.1++(e.enc x.2.1++e.enc x.2.2))):=by
 rw [L0,aA] at i
 rw [Gq,aA] at h0
 subst i
 have d:=b4I f l
 have none3: ∀k,k<=2-> ¬0+3*e.esz<=k*e.esz:=fun k o h=>by
  have:k*e.esz<=2*e.esz:=bg _ o
  omega
 match l,d with
 |[],d=>simp only [part,a1c,Option.bind_none];rw [a7 (by rw [d];exact none3 0 om)]
 |[_],d=>simp only [part,a1c,Option.bind_none];rw [a7 (by rw [d];exact none3 1 om)]
 |[_,_],d=>simp only [part,a1c,Option.bind_none];rw [a7 (by rw [d];exact none3 2 om)]
 |a::b::c::r,d=>
  have j:=f a
  have n:=f b
  have hc:=f c
  simp only [part,a1c,qP]
  rw [aa (by rw [d];simp only [ab];rw [ce];exact bg _ om),hK]
  congr 2
  simp only [rws,aM,pH]
  rw [<-aP, <-aP,List.take_append_of_le_length (by simp [j,n,hc];omega),aX (by simp [j,n,hc];omega),aP]
def b2S (h:ba) (n:Nat) (x y:V):Option (V×Upd):=br (x.cell&&y.cell) (frO (h n) n ⟨1,true,[[x],[y]]⟩ (.sl n 0 2)) none
theorem a3M (x y:Opd):aK C ow (.buildTwo x y) ev h n=b2S h n (ev x) (ev y):=by
 simp only [aK,A6,b2S]
 cases (ev x).cell<;>cases (ev y).cell<;>rfl
theorem c1N (x y:V):b2S h n x y=br (x.cell&&y.cell) (frO (h n) n ⟨1,true,[[x],[y]]⟩ (.sl n 0 2)) none:=rfl
theorem b8G (agg:Option Nat) (m:Nat) (a b:List V) (o:Nat):VY agg (some ⟨m,true,[a,b]⟩) 0 o 2=part agg a o:=rfl
theorem b7g (agg:Option Nat) (m:Nat) (b a:List V) (o:Nat):VY agg (some ⟨m,true,[b,a]⟩) 1 o 2=part agg a o:=rfl
theorem c1f (m b:Nat) (a c:List V) (i:Int):a41 (some ⟨m,true,[a,c]⟩) m b 0 2 i=br (Nat.blt 0 m&&decide (i.toNat<2)) (some (.ptr b i.toNat 0 2,[])) none:=by
 rw [Gq]
 by_cases h0:0<m<;>by_cases hi:i.toNat<2<;>simp [a41,hi,br,h0]
theorem c3j (m b size o:Nat) (a c:List V) (x:V):stO (some ⟨m,true,[a,c]⟩) b size 0 o 2 x h=
 br (Nat.beq x.cells.length size&&(Nat.ble (o+size) a.length&&x.cells.all V.cell)) (some (.undef,[(b,⟨m,true,[a.take o++(x.cells++a.drop (o+size)),c]⟩)])) none:=by
 rw [L0,KX]
 by_cases d:x.cells.length=size<;>by_cases e:o+size<=a.length<;>cases f:x.cells.all V.cell<;>simp [stO,d,e,f,br]
theorem c4f (m b size o:Nat) (c a:List V) (x:V):stO (some ⟨m,true,[c,a]⟩) b size 1 o 2 x h=
 br (Nat.beq x.cells.length size&&(Nat.ble (o+size) a.length&&x.cells.all V.cell)) (some (.undef,[(b,⟨m,true,[c,a.take o++(x.cells++a.drop (o+size))]⟩)])) none:=by
 rw [L0,KX]
 by_cases d:x.cells.length=size<;>by_cases e:o+size<=a.length<;>cases f:x.cells.all V.cell<;>simp [stO,d,e,f,br]
theorem c5a {bs:List Nat} (m:Nat) (a b:List V):fzK h bs ⟨m,true,[a,b]⟩=br ((a.map (fzC h bs)).all V.cell&&(b.map (fzC h bs)).all V.cell) ⟨m,true,[a.map (fzC h bs),b.map (fzC h bs)]⟩ kf:=by
 simp only [fzK,aM,eu,cC,List.all_nil,dO,if_true]
 cases (a.map (fzC h bs)).all V.cell<;>cases (b.map (fzC h bs)).all V.cell<;>rfl
end
attribute [go_sem] b7p c1y b3y implies_true a3M c1N b8G b7g c1f c3j c4f c5a
section
variable {C:cr} {ow:ff} {h:ba} {n:Nat} {α:Type} {e:En α} {l:List α}
end
end Go.AI
