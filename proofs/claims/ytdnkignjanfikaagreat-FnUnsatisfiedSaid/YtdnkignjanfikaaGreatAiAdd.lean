/- Arrays out of slices: the machine's word on lists. -/
import Derived.Test.YtdnkignjanfikaaGreatAiW
set_option linter.unusedVariables false
set_option linter.unusedSimpArgs false
namespace Go.AI
theorem obs {α β:Type} (a:α) (f:α→Option β):(some a).bind f=f a:=rfl
theorem om {P:Prop} (p:P:=by omega):P:=p
def a3B {α:Type}:List α→Option (α×α×α)
 |a::b::c::_=>some (a,b,c)
 |_=>none
def arS (m:Nat) (h:au) (v:V):Option (V×Upd):=match ma h v with
 |some (.imm _ rows,bs)=>if 0<m∧m≤rows.length then some (.iptr rows.flatten 0,fm bs) else none
 |_=>none
section
variable {C:aY} {ow:cy} {ev:Opd→V} {h:au} {n:Nat} {α:Type} {e:En α} {l:List α}
theorem b4d (m:Nat) (x:Opd):aj C ow (.arrOf m x) ev h n=arS m h (ev x):=rfl
theorem b9y (m:Nat) (h0:Nat.blt 0 m=true):arS m h (sl e l)=br (decide (m≤l.length)) (some (.iptr (rws e l).flatten 0,[])) none:=by
 rw [Bm,decide_eq_true_eq] at h0
 rw [arS,a1S]
 rcases iN e l with ⟨rfl,hs⟩|⟨hne,hs⟩
 ·rw [hs]
  have: ¬m≤0:=by omega
  simp [br,this]
 ·rw [hs]
  by_cases hm:m≤l.length<;>simp [br,rws,hm,h0,fm]
theorem b0J (hl: ∀x,(e.enc x).length=e.esz): ∀l:List α,(rws e l).flatten.length=l.length*e.esz
 |[]=>by simp [rws]
 |x::l=>by
  have:=b0J hl l
  simp only [rws,List.map_cons,List.flatten_cons,List.length_append,hl,List.length_cons] at*
  rw [this,Nat.succ_mul];omega
theorem b1n (m:Nat) (hl: ∀x,(e.enc x).length=e.esz) (hm:Nat.beq (3*e.esz) m=true) (h0:Nat.blt 0 m=true):
 part (some m) (rws e l).flatten 0=(a3B l).bind fun x=>some (.agg (e.enc x.1++(e.enc x.2.1++e.enc x.2.2))):=by
 rw [Iq,decide_eq_true_eq] at hm
 rw [Bm,decide_eq_true_eq] at h0
 subst hm
 have hf:=b0J hl l
 have none3: ∀k,k≤2→ ¬0+3*e.esz≤k*e.esz:=fun k hk h=>by
  have:k*e.esz≤2*e.esz:=Nat.mul_le_mul_right _ hk
  omega
 match l,hf with
 |[],hf=>simp only [part,a3B,Option.bind_none];rw [if_neg (by rw [hf];exact none3 0 (by omega))]
 |[_],hf=>simp only [part,a3B,Option.bind_none];rw [if_neg (by rw [hf];exact none3 1 (by omega))]
 |[_,_],hf=>simp only [part,a3B,Option.bind_none];rw [if_neg (by rw [hf];exact none3 2 (by omega))]
 |a::b::c::r,hf=>
  have ha:=hl a
  have hb:=hl b
  have hc:=hl c
  simp only [part,a3B,Option.bind_some]
  rw [if_pos (by rw [hf];simp only [List.length_cons];rw [Nat.zero_add];exact Nat.mul_le_mul_right _ (by omega)),List.drop_zero]
  congr 2
  simp only [rws,List.map_cons,List.flatten_cons]
  rw [←List.append_assoc, ←List.append_assoc,List.take_append_of_le_length (by simp [ha,hb,hc];omega),List.take_of_length_le (by simp [ha,hb,hc];omega),List.append_assoc]
def b2S (h:au) (n:Nat) (x y:V):Option (V×Upd):=br (x.cell&&y.cell) (frO (h n) n ⟨1,true,[[x],[y]]⟩ (.sl n 0 2)) none
theorem a0P (x y:Opd):aj C ow (.buildTwo x y) ev h n=b2S h n (ev x) (ev y):=by
 simp only [aj,vy,b2S]
 cases (ev x).cell<;>cases (ev y).cell<;>rfl
theorem b9v (x y:V):b2S h n x y=br (x.cell&&y.cell) (frO (h n) n ⟨1,true,[[x],[y]]⟩ (.sl n 0 2)) none:=rfl
theorem VL (x y:Opd):ec ow (.buildTwo x y) ev h=((AOp.buildTwo x y).opds.map ev).flatMap dG:=rfl
theorem WJ (x y:Opd):(AOp.buildTwo x y).opds=[x,y]:=rfl
theorem b2n (agg:Option Nat) (m:Nat) (r0 r1:List V) (o:Nat):O8 agg (some ⟨m,true,[r0,r1]⟩) 0 o 2=part agg r0 o:=rfl
theorem b5C (agg:Option Nat) (m:Nat) (r0 r1:List V) (o:Nat):O8 agg (some ⟨m,true,[r0,r1]⟩) 1 o 2=part agg r1 o:=rfl
theorem c1e (m b:Nat) (r0 r1:List V) (i:Int):Tg (some ⟨m,true,[r0,r1]⟩) m b 0 2 i=br (Nat.blt 0 m&&decide (i.toNat<2)) (some (.ptr b i.toNat 0 2,[])) none:=by
 rw [Bm]
 by_cases h0:0<m<;>by_cases hi:i.toNat<2<;>simp [Tg,hi,br,h0]
theorem b8M (m b size o:Nat) (r0 r1:List V) (x:V):stO (some ⟨m,true,[r0,r1]⟩) b size 0 o 2 x h=
 br (Nat.beq x.cells.length size&&(Nat.ble (o+size) r0.length&&x.cells.all V.cell)) (some (.undef,[(b,⟨m,true,[r0.take o++(x.cells++r0.drop (o+size)),r1]⟩)])) none:=by
 rw [Iq,Im]
 by_cases h1:x.cells.length=size<;>by_cases h2:o+size≤r0.length<;>cases h3:x.cells.all V.cell<;>simp [stO,h1,h2,h3,br]
theorem b8G (m b size o:Nat) (r0 r1:List V) (x:V):stO (some ⟨m,true,[r0,r1]⟩) b size 1 o 2 x h=
 br (Nat.beq x.cells.length size&&(Nat.ble (o+size) r1.length&&x.cells.all V.cell)) (some (.undef,[(b,⟨m,true,[r0,r1.take o++(x.cells++r1.drop (o+size))]⟩)])) none:=by
 rw [Iq,Im]
 by_cases h1:x.cells.length=size<;>by_cases h2:o+size≤r1.length<;>cases h3:x.cells.all V.cell<;>simp [stO,h1,h2,h3,br]
theorem c2U {bs:List Nat} (m:Nat) (r0 r1:List V):fzK h bs ⟨m,true,[r0,r1]⟩=br ((r0.map (fzC h bs)).all V.cell&&(r1.map (fzC h bs)).all V.cell) ⟨m,true,[r0.map (fzC h bs),r1.map (fzC h bs)]⟩ ip:=by
 simp only [fzK,List.map_cons,List.map_nil,List.all_cons,List.all_nil,Bool.and_true,if_true]
 cases (r0.map (fzC h bs)).all V.cell<;>cases (r1.map (fzC h bs)).all V.cell<;>rfl
theorem b9M (m:Nat) (r0 r1:List V):Zu (some ⟨m,true,[r0,r1]⟩)=r0.flatMap dG++r1.flatMap dG:=by simp [Zu]
end
attribute [go_sem] b4d b9y b1n implies_true a0P b9v VL WJ b2n b5C c1e b8M b8G c2U b9M
section
variable {C:aY} {ow:cy} {h:au} {n:Nat} {α:Type} {e:En α} {l:List α}
theorem c0y (m:Nat) (ids:List Nat) (b q:Nat) (h0:Nat.blt 0 m=true):lcO (some ⟨m,false,rws e l⟩) false ids b 0 q=br (decide (l.length=q)) (some (.imm m (rws e l),ids,[b])) none:=by
 by_cases hq:l.length=q
 ·rw [b75 m ids b q h0 hq,decide_eq_true hq];rfl
 ·rw [decide_eq_false hq]
  have: ¬(q=l.length):=fun hx=>hq hx.symm
  simp [lcO,rws,this,br]
theorem b8s (owns:List Nat) (j:Nat) (r:List V) (c:Bool) (x:Option (V×List Nat×List Nat)):la1 h owns j r (br c x none)=br c (la1 h owns j r x) none:=by cases c<;>rfl
theorem c08 (v':V) (bs:List Nat) (c:Bool) (x:Option (List V×List Nat×List Nat)):la2 v' bs (br c x none)=br c (la2 v' bs x) none:=by cases c<;>rfl
theorem b90 (mk:List V→V) (c:Bool) (x:Option (List V×List Nat×List Nat)):lcA mk (br c x none)=br c (lcA mk x) none:=by cases c<;>rfl
theorem b2B (own:Bool) (r:List V) (c:Bool) (x:Option (V×List Nat×List Nat)):a7T h own r (br c x none)=br c (a7T h own r x) none:=by cases c<;>rfl
theorem a9T (c:Bool) (x:Option (List V×List Nat×List Nat)):UK h (br c x none)=br c (UK h x) none:=by cases c<;>rfl
end
attribute [go_sem low] c0y
attribute [go_sem] b8s c08 b90 b2B a9T
end Go.AI
