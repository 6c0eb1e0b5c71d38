/- Part. -/
import Derived.Test.YtdnkignjanfikaaGreatAiW
set_option linter.unusedVariables false
set_option linter.unusedSimpArgs false
namespace Go.AI
theorem obs {α β:Type} (a:α) (f:α->Option β):(some a).bind f=f a:=rfl
theorem om {P:Prop} (p:P:=by omega):P:=p
def a64 {α:Type}:List α->Option (α×α×α)
 |a::b::c::_=>some (a,b,c)
 |_=>none
def arS (m:Nat) (h:b8) (v:V):Option (V×Upd):=match pu h v with
 |some (.imm _ rows,bs)=>if 0<m/\m<=rows.length then some (.iptr rows.flatten 0,iS bs) else none
 |_=>none
section
variable {C:ce} {ow:ec} {ev:Opd->V} {h:b8} {n:Nat} {α:Type} {e:En α} {l:List α}
theorem b9U (m:Nat) (x:Opd):aM C ow (.arrOf m x) ev h n=arS m h (ev x):=rfl
theorem c2q (m:Nat) (h0:Nat.blt 0 m=true):arS m h (sl e l)=br (decide (m<=l.length)) (some (.iptr (rws e l).flatten 0,[])) none:=by
 rw [EV,aC] at h0
 rw [arS,a7j]
 rcases l9 e l with ⟨rfl,a⟩|⟨c,a⟩
 ·rw [a]
  b: ¬m<=0:=by omega
  simp [br,this]
 ·rw [a]
  by_cases d:m<=l.length<;>simp [br,rws,d,h0,iS]
theorem b6u (a: ∀x,(e.enc x).length=e.esz): ∀l:List α,(rws e l).flatten.length=l.length*e.esz
 |[]=>by simp [rws]
 |x::l=>by
  b:=b6u a l
  simp only [rws,aP,n5,ab,a,ah] at*
  rw [this,Nat.succ_mul];omega
theorem b4R (m:Nat) (i: ∀x,(e.enc x).length=e.esz) (j:Nat.beq (3*e.esz) m=true) (h0:Nat.blt 0 m=true):
 part (some m) (rws e l).flatten 0=(a64 l).bind fun x=>some (.agg (e.enc x.1++(e.enc x.2.1++e.enc x.2.2))):=by
 rw [LU,aC] at j
 rw [EV,aC] at h0
 subst j
 d f:=b6u i l
 d none3: ∀k,k<=2-> ¬0+3*e.esz<=k*e.esz:=fun k q h=>by
   d:k*e.esz<=2*e.esz:=bi _ q
   omega
 match l,f with
 |[],f=>simp only [part,a64,Option.bind_none];rw [aa (by rw [f];exact none3 0 (by omega))]
 |[_],f=>simp only [part,a64,Option.bind_none];rw [aa (by rw [f];exact none3 1 (by omega))]
 |[_,_],f=>simp only [part,a64,Option.bind_none];rw [aa (by rw [f];exact none3 2 (by omega))]
 |a::b::c::r,f=>
  d n:=i a
  d o:=i b
  d p:=i c
  simp only [part,a64,nY]
  rw [ae (by rw [f];simp only [ah];rw [cy];exact bi _ (by omega)),fR]
  congr 2
  simp only [rws,aP,n5]
  rw [<-aV, <-aV,List.take_append_of_le_length (by simp [n,o,p];omega),bZ (by simp [n,o,p];omega),aV]
def b2S (h:b8) (n:Nat) (x y:V):Option (V×Upd):=br (x.cell&&y.cell) (frO (h n) n ⟨1,true,[[x],[y]]⟩ (.sl n 0 2)) none
theorem a4N (x y:Opd):aM C ow (.buildTwo x y) ev h n=b2S h n (ev x) (ev y):=by
 simp only [aM,yB,b2S]
 cases (ev x).cell<;>cases (ev y).cell<;>rfl
theorem c4M (x y:V):b2S h n x y=br (x.cell&&y.cell) (frO (h n) n ⟨1,true,[[x],[y]]⟩ (.sl n 0 2)) none:=rfl
theorem a1V (x y:Opd):ij ow (.buildTwo x y) ev h=((AOp.buildTwo x y).opds.map ev).flatMap gN:=rfl
theorem a2q (x y:Opd):(AOp.buildTwo x y).opds=[x,y]:=rfl
theorem c0k (agg:Option Nat) (m:Nat) (a b:List V) (o:Nat):b0K agg (some ⟨m,true,[a,b]⟩) 0 o 2=part agg a o:=rfl
theorem c1r (agg:Option Nat) (m:Nat) (b a:List V) (o:Nat):b0K agg (some ⟨m,true,[b,a]⟩) 1 o 2=part agg a o:=rfl
theorem c4O (m b:Nat) (a c:List V) (i:Int):Yj (some ⟨m,true,[a,c]⟩) m b 0 2 i=br (Nat.blt 0 m&&decide (i.toNat<2)) (some (.ptr b i.toNat 0 2,[])) none:=by
 rw [EV]
 by_cases h0:0<m<;>by_cases hi:i.toNat<2<;>simp [Yj,hi,br,h0]
theorem c2n (m b size o:Nat) (a c:List V) (x:V):stO (some ⟨m,true,[a,c]⟩) b size 0 o 2 x h=
 br (Nat.beq x.cells.length size&&(Nat.ble (o+size) a.length&&x.cells.all V.cell)) (some (.undef,[(b,⟨m,true,[a.take o++(x.cells++a.drop (o+size)),c]⟩)])) none:=by
 rw [LU,Ki]
 by_cases d:x.cells.length=size<;>by_cases e:o+size<=a.length<;>cases f:x.cells.all V.cell<;>simp [stO,d,e,f,br]
theorem c2y (m b size o:Nat) (c a:List V) (x:V):stO (some ⟨m,true,[c,a]⟩) b size 1 o 2 x h=
 br (Nat.beq x.cells.length size&&(Nat.ble (o+size) a.length&&x.cells.all V.cell)) (some (.undef,[(b,⟨m,true,[c,a.take o++(x.cells++a.drop (o+size))]⟩)])) none:=by
 rw [LU,Ki]
 by_cases d:x.cells.length=size<;>by_cases e:o+size<=a.length<;>cases f:x.cells.all V.cell<;>simp [stO,d,e,f,br]
theorem c7R {bs:List Nat} (m:Nat) (a b:List V):fzK h bs ⟨m,true,[a,b]⟩=br ((a.map (fzC h bs)).all V.cell&&(b.map (fzC h bs)).all V.cell) ⟨m,true,[a.map (fzC h bs),b.map (fzC h bs)]⟩ my:=by
 simp only [fzK,aP,dL,cj,ox,fy,if_true]
 cases (a.map (fzC h bs)).all V.cell<;>cases (b.map (fzC h bs)).all V.cell<;>rfl
theorem c5Y (m:Nat) (a b:List V):a4z (some ⟨m,true,[a,b]⟩)=a.flatMap gN++b.flatMap gN:=by simp [a4z]
end
attribute [go_sem] b9U c2q b4R implies_true a4N c4M a1V a2q c0k c1r c4O c2n c2y c7R c5Y
section
variable {C:ce} {ow:ec} {h:b8} {n:Nat} {α:Type} {e:En α} {l:List α}
theorem c3V (owns:List Nat) (j:Nat) (r:List V) (c:Bool) (x:Option (V×List Nat×List Nat)):la1 h owns j r (br c x none)=br c (la1 h owns j r x) none:=by cases c<;>rfl
theorem c2m (v':V) (bs:List Nat) (c:Bool) (x:Option (List V×List Nat×List Nat)):la2 v' bs (br c x none)=br c (la2 v' bs x) none:=by cases c<;>rfl
theorem c4u (mk:List V->V) (c:Bool) (x:Option (List V×List Nat×List Nat)):lcA mk (br c x none)=br c (lcA mk x) none:=by cases c<;>rfl
theorem b7m (own:Bool) (r:List V) (c:Bool) (x:Option (V×List Nat×List Nat)):b53 h own r (br c x none)=br c (b53 h own r x) none:=by cases c<;>rfl
theorem b4N (c:Bool) (x:Option (List V×List Nat×List Nat)):a1Y h (br c x none)=br c (a1Y h x) none:=by cases c<;>rfl
end
attribute [go_sem] c3V c2m c4u b7m b4N
end Go.AI
