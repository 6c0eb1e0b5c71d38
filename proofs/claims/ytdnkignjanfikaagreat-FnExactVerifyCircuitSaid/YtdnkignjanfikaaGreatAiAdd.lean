/- Part. -/
import Derived.Test.YtdnkignjanfikaaGreatAiW
set_option linter.unusedVariables false
set_option linter.unusedSimpArgs false
namespace Go.AI
theorem obs {α β:Type} (a:α) (f:α->Option β):(some a).bind f=f a:=rfl
theorem om {P:Prop} (p:P:=by omega):P:=p
def a5o {α:Type}:List α->Option (α×α×α)
 |a::b::c::_=>some (a,b,c)
 |_=>none
def arS (m:Nat) (h:b8) (v:V):Option (V×Upd):=match pi h v with
 |some (.imm _ rows,bs)=>if 0<m/\m<=rows.length then some (.iptr rows.flatten 0,iZ bs) else none
 |_=>none
section
variable {C:ce} {ow:ec} {ev:Opd->V} {h:b8} {n:Nat} {α:Type} {e:En α} {l:List α}
theorem b8t (m:Nat) (x:Opd):aM C ow (.arrOf m x) ev h n=arS m h (ev x):=rfl
theorem c41 (m:Nat) (h0:Nat.blt 0 m=true):arS m h (sl e l)=br (decide (m<=l.length)) (some (.iptr (rws e l).flatten 0,[])) none:=by
 rw [EU,aC] at h0
 rw [arS,a6A]
 rcases l6 e l with ⟨rfl,a⟩|⟨b,a⟩
 ·rw [a]
  have: ¬m<=0:=by omega
  simp [br,this]
 ·rw [a]
  by_cases c:m<=l.length<;>simp [br,rws,c,h0,iZ]
theorem b4U (a: ∀x,(e.enc x).length=e.esz): ∀l:List α,(rws e l).flatten.length=l.length*e.esz
 |[]=>by simp [rws]
 |x::l=>by
  have:=b4U a l
  simp only [rws,aP,n5,ab,a,ah] at*
  rw [this,Nat.succ_mul];omega
theorem b56 (m:Nat) (f: ∀x,(e.enc x).length=e.esz) (i:Nat.beq (3*e.esz) m=true) (h0:Nat.blt 0 m=true):
 part (some m) (rws e l).flatten 0=(a5o l).bind fun x=>some (.agg (e.enc x.1++(e.enc x.2.1++e.enc x.2.2))):=by
 rw [LD,aC] at i
 rw [EU,aC] at h0
 subst i
 have d:=b4U f l
 have none3: ∀k,k<=2-> ¬0+3*e.esz<=k*e.esz:=fun k o h=>by
  have:k*e.esz<=2*e.esz:=bj _ o
  omega
 match l,d with
 |[],d=>simp only [part,a5o,Option.bind_none];rw [aa (by rw [d];exact none3 0 (by omega))]
 |[_],d=>simp only [part,a5o,Option.bind_none];rw [aa (by rw [d];exact none3 1 (by omega))]
 |[_,_],d=>simp only [part,a5o,Option.bind_none];rw [aa (by rw [d];exact none3 2 (by omega))]
 |a::b::c::r,d=>
  have j:=f a
  have n:=f b
  have hc:=f c
  simp only [part,a5o,nI]
  rw [ae (by rw [d];simp only [ah];rw [cy];exact bj _ (by omega)),fP]
  congr 2
  simp only [rws,aP,n5]
  rw [<-aV, <-aV,List.take_append_of_le_length (by simp [j,n,hc];omega),ca (by simp [j,n,hc];omega),aV]
def b2S (h:b8) (n:Nat) (x y:V):Option (V×Upd):=br (x.cell&&y.cell) (frO (h n) n ⟨1,true,[[x],[y]]⟩ (.sl n 0 2)) none
theorem a3S (x y:Opd):aM C ow (.buildTwo x y) ev h n=b2S h n (ev x) (ev y):=by
 simp only [aM,yK,b2S]
 cases (ev x).cell<;>cases (ev y).cell<;>rfl
theorem c2V (x y:V):b2S h n x y=br (x.cell&&y.cell) (frO (h n) n ⟨1,true,[[x],[y]]⟩ (.sl n 0 2)) none:=rfl
theorem a1o (x y:Opd):im ow (.buildTwo x y) ev h=((AOp.buildTwo x y).opds.map ev).flatMap gN:=rfl
theorem a3F (x y:Opd):(AOp.buildTwo x y).opds=[x,y]:=rfl
theorem c01 (agg:Option Nat) (m:Nat) (a b:List V) (o:Nat):a8Z agg (some ⟨m,true,[a,b]⟩) 0 o 2=part agg a o:=rfl
theorem c0X (agg:Option Nat) (m:Nat) (b a:List V) (o:Nat):a8Z agg (some ⟨m,true,[b,a]⟩) 1 o 2=part agg a o:=rfl
theorem c6l (m b:Nat) (a c:List V) (i:Int):WQ (some ⟨m,true,[a,c]⟩) m b 0 2 i=br (Nat.blt 0 m&&decide (i.toNat<2)) (some (.ptr b i.toNat 0 2,[])) none:=by
 rw [EU]
 by_cases h0:0<m<;>by_cases hi:i.toNat<2<;>simp [WQ,hi,br,h0]
theorem c3F (m b size o:Nat) (a c:List V) (x:V):stO (some ⟨m,true,[a,c]⟩) b size 0 o 2 x h=
 br (Nat.beq x.cells.length size&&(Nat.ble (o+size) a.length&&x.cells.all V.cell)) (some (.undef,[(b,⟨m,true,[a.take o++(x.cells++a.drop (o+size)),c]⟩)])) none:=by
 rw [LD,KD]
 by_cases d:x.cells.length=size<;>by_cases e:o+size<=a.length<;>cases f:x.cells.all V.cell<;>simp [stO,d,e,f,br]
theorem c2G (m b size o:Nat) (c a:List V) (x:V):stO (some ⟨m,true,[c,a]⟩) b size 1 o 2 x h=
 br (Nat.beq x.cells.length size&&(Nat.ble (o+size) a.length&&x.cells.all V.cell)) (some (.undef,[(b,⟨m,true,[c,a.take o++(x.cells++a.drop (o+size))]⟩)])) none:=by
 rw [LD,KD]
 by_cases d:x.cells.length=size<;>by_cases e:o+size<=a.length<;>cases f:x.cells.all V.cell<;>simp [stO,d,e,f,br]
theorem c7Z {bs:List Nat} (m:Nat) (a b:List V):fzK h bs ⟨m,true,[a,b]⟩=br ((a.map (fzC h bs)).all V.cell&&(b.map (fzC h bs)).all V.cell) ⟨m,true,[a.map (fzC h bs),b.map (fzC h bs)]⟩ mO:=by
 simp only [fzK,aP,dM,cj,oC,fx,if_true]
 cases (a.map (fzC h bs)).all V.cell<;>cases (b.map (fzC h bs)).all V.cell<;>rfl
theorem c5u (m:Nat) (a b:List V):a5B (some ⟨m,true,[a,b]⟩)=a.flatMap gN++b.flatMap gN:=by simp [a5B]
end
attribute [go_sem] b8t c41 b56 implies_true a3S c2V a1o a3F c01 c0X c6l c3F c2G c7Z c5u
section
variable {C:ce} {ow:ec} {h:b8} {n:Nat} {α:Type} {e:En α} {l:List α}
theorem c3T (owns:List Nat) (j:Nat) (r:List V) (c:Bool) (x:Option (V×List Nat×List Nat)):la1 h owns j r (br c x none)=br c (la1 h owns j r x) none:=by cases c<;>rfl
theorem c3K (v':V) (bs:List Nat) (c:Bool) (x:Option (List V×List Nat×List Nat)):la2 v' bs (br c x none)=br c (la2 v' bs x) none:=by cases c<;>rfl
theorem c4H (mk:List V->V) (c:Bool) (x:Option (List V×List Nat×List Nat)):lcA mk (br c x none)=br c (lcA mk x) none:=by cases c<;>rfl
theorem c1t (own:Bool) (r:List V) (c:Bool) (x:Option (V×List Nat×List Nat)):b6F h own r (br c x none)=br c (b6F h own r x) none:=by cases c<;>rfl
theorem b2K (c:Bool) (x:Option (List V×List Nat×List Nat)):a2F h (br c x none)=br c (a2F h x) none:=by cases c<;>rfl
end
attribute [go_sem] c3T c3K c4H c1t b2K
end Go.AI
