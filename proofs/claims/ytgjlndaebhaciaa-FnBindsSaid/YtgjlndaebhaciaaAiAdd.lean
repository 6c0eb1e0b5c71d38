/- Arrays out of slices: the machine's word on lists. -/
import Derived.Test.YtgjlndaebhaciaaAiW
set_option linter.unusedVariables false
set_option linter.unusedSimpArgs false
namespace Go.AI
theorem obs {α β:Type} (a:α) (f:α→Option β):(some a).bind f=f a:=rfl
theorem om {P:Prop} (p:P:=by omega):P:=p
def Oi {α:Type}:List α→Option (α×α×α)
 |a::b::c::_=>some (a,b,c)
 |_=>none
def arS (m:Nat) (h:ak) (v:V):Option (V×Upd):=match ic h v with
 |some (.imm _ rows,bs)=>if 0<m∧m≤rows.length then some (.iptr rows.flatten 0,dm bs) else none
 |_=>none
section
variable {C:aM} {ow:bK} {ev:Opd→V} {h:ak} {n:Nat} {α:Type} {e:En α} {l:List α}
theorem UK (m:Nat) (x:Opd):ag C ow (.arrOf m x) ev h n=arS m h (ev x):=rfl
theorem Yf (m:Nat) (h0:Nat.blt 0 m=true):arS m h (sl e l)=br (decide (m≤l.length)) (some (.iptr (rws e l).flatten 0,[])) none:=by
 rw [ru,decide_eq_true_eq] at h0
 rw [arS,IU]
 rcases ff e l with ⟨rfl,hs⟩|⟨hne,hs⟩
 ·rw [hs]
  have: ¬m≤0:=by omega
  simp [br,this]
 ·rw [hs]
  by_cases hm:m≤l.length<;>simp [br,rws,hm,h0,dm]
theorem QY (hl: ∀x,(e.enc x).length=e.esz): ∀l:List α,(rws e l).flatten.length=l.length*e.esz
 |[]=>by simp [rws]
 |x::l=>by
  have:=QY hl l
  simp only [rws,List.map_cons,List.flatten_cons,List.length_append,hl,List.length_cons] at*
  rw [this,Nat.succ_mul];omega
theorem OO (m:Nat) (hl: ∀x,(e.enc x).length=e.esz) (hm:Nat.beq (3*e.esz) m=true) (h0:Nat.blt 0 m=true):
 part (some m) (rws e l).flatten 0=(Oi l).bind fun x=>some (.agg (e.enc x.1++(e.enc x.2.1++e.enc x.2.2))):=by
 rw [vV,decide_eq_true_eq] at hm
 rw [ru,decide_eq_true_eq] at h0
 subst hm
 have hf:=QY hl l
 have none3: ∀k,k≤2→ ¬0+3*e.esz≤k*e.esz:=fun k hk h=>by
  have:k*e.esz≤2*e.esz:=Nat.mul_le_mul_right _ hk
  omega
 match l,hf with
 |[],hf=>simp only [part,Oi,Option.bind_none];rw [if_neg (by rw [hf];exact none3 0 (by omega))]
 |[_],hf=>simp only [part,Oi,Option.bind_none];rw [if_neg (by rw [hf];exact none3 1 (by omega))]
 |[_,_],hf=>simp only [part,Oi,Option.bind_none];rw [if_neg (by rw [hf];exact none3 2 (by omega))]
 |a::b::c::r,hf=>
  have ha:=hl a
  have hb:=hl b
  have hc:=hl c
  simp only [part,Oi,Option.bind_some]
  rw [if_pos (by rw [hf];simp only [List.length_cons];rw [Nat.zero_add];exact Nat.mul_le_mul_right _ (by omega)),List.drop_zero]
  congr 2
  simp only [rws,List.map_cons,List.flatten_cons]
  rw [←List.append_assoc, ←List.append_assoc,List.take_append_of_le_length (by simp [ha,hb,hc];omega),List.take_of_length_le (by simp [ha,hb,hc];omega),List.append_assoc]
def b2S (h:ak) (n:Nat) (x y:V):Option (V×Upd):=br (x.cell&&y.cell) (frO (h n) n ⟨1,true,[[x],[y]]⟩ (.sl n 0 2)) none
theorem HF (x y:Opd):ag C ow (.buildTwo x y) ev h n=b2S h n (ev x) (ev y):=by
 simp only [ag,nK,b2S]
 cases (ev x).cell<;>cases (ev y).cell<;>rfl
theorem Za (x y:V):b2S h n x y=br (x.cell&&y.cell) (frO (h n) n ⟨1,true,[[x],[y]]⟩ (.sl n 0 2)) none:=rfl
theorem FE (x y:Opd):cU ow (.buildTwo x y) ev h=((AOp.buildTwo x y).opds.map ev).flatMap cH:=rfl
theorem Gh (x y:Opd):(AOp.buildTwo x y).opds=[x,y]:=rfl
theorem VO (agg:Option Nat) (m:Nat) (r0 r1:List V) (o:Nat):xX agg (some ⟨m,true,[r0,r1]⟩) 0 o 2=part agg r0 o:=rfl
theorem Th (agg:Option Nat) (m:Nat) (r0 r1:List V) (o:Nat):xX agg (some ⟨m,true,[r0,r1]⟩) 1 o 2=part agg r1 o:=rfl
theorem ZS (m b:Nat) (r0 r1:List V) (i:Int):Df (some ⟨m,true,[r0,r1]⟩) m b 0 2 i=br (Nat.blt 0 m&&decide (i.toNat<2)) (some (.ptr b i.toNat 0 2,[])) none:=by
 rw [ru]
 by_cases h0:0<m<;>by_cases hi:i.toNat<2<;>simp [Df,hi,br,h0]
theorem Xy (m b size o:Nat) (r0 r1:List V) (x:V):stO (some ⟨m,true,[r0,r1]⟩) b size 0 o 2 x h=
 br (Nat.beq x.cells.length size&&(Nat.ble (o+size) r0.length&&x.cells.all V.cell)) (some (.undef,[(b,⟨m,true,[r0.take o++(x.cells++r0.drop (o+size)),r1]⟩)])) none:=by
 rw [vV,w7]
 by_cases h1:x.cells.length=size<;>by_cases h2:o+size≤r0.length<;>cases h3:x.cells.all V.cell<;>simp [stO,h1,h2,h3,br]
theorem Z5 (m b size o:Nat) (r0 r1:List V) (x:V):stO (some ⟨m,true,[r0,r1]⟩) b size 1 o 2 x h=
 br (Nat.beq x.cells.length size&&(Nat.ble (o+size) r1.length&&x.cells.all V.cell)) (some (.undef,[(b,⟨m,true,[r0,r1.take o++(x.cells++r1.drop (o+size))]⟩)])) none:=by
 rw [vV,w7]
 by_cases h1:x.cells.length=size<;>by_cases h2:o+size≤r1.length<;>cases h3:x.cells.all V.cell<;>simp [stO,h1,h2,h3,br]
theorem a05 {bs:List Nat} (m:Nat) (r0 r1:List V):fzK h bs ⟨m,true,[r0,r1]⟩=br ((r0.map (fzC h bs)).all V.cell&&(r1.map (fzC h bs)).all V.cell) ⟨m,true,[r0.map (fzC h bs),r1.map (fzC h bs)]⟩ gu:=by
 simp only [fzK,List.map_cons,List.map_nil,List.all_cons,List.all_nil,Bool.and_true,if_true]
 cases (r0.map (fzC h bs)).all V.cell<;>cases (r1.map (fzC h bs)).all V.cell<;>rfl
theorem XQ (m:Nat) (r0 r1:List V):IF (some ⟨m,true,[r0,r1]⟩)=r0.flatMap cH++r1.flatMap cH:=by simp [IF]
end
attribute [go_sem] UK Yf OO implies_true HF Za FE Gh VO Th ZS Xy Z5 a05 XQ
section
variable {C:aM} {ow:bK} {h:ak} {n:Nat} {α:Type} {e:En α} {l:List α}
theorem WY (m:Nat) (ids:List Nat) (b q:Nat) (h0:Nat.blt 0 m=true):lcO (some ⟨m,false,rws e l⟩) false ids b 0 q=br (decide (l.length=q)) (some (.imm m (rws e l),ids,[b])) none:=by
 by_cases hq:l.length=q
 ·rw [W8 m ids b q h0 hq,decide_eq_true hq];rfl
 ·rw [decide_eq_false hq]
  have: ¬(q=l.length):=fun hx=>hq hx.symm
  simp [lcO,rws,this,br]
theorem XZ (owns:List Nat) (j:Nat) (r:List V) (c:Bool) (x:Option (V×List Nat×List Nat)):la1 h owns j r (br c x none)=br c (la1 h owns j r x) none:=by cases c<;>rfl
theorem WQ (v':V) (bs:List Nat) (c:Bool) (x:Option (List V×List Nat×List Nat)):la2 v' bs (br c x none)=br c (la2 v' bs x) none:=by cases c<;>rfl
theorem X4 (mk:List V→V) (c:Bool) (x:Option (List V×List Nat×List Nat)):lcA mk (br c x none)=br c (lcA mk x) none:=by cases c<;>rfl
theorem TD (own:Bool) (r:List V) (c:Bool) (x:Option (V×List Nat×List Nat)):Q0 h own r (br c x none)=br c (Q0 h own r x) none:=by cases c<;>rfl
theorem QR (c:Bool) (x:Option (List V×List Nat×List Nat)):Gt h (br c x none)=br c (Gt h x) none:=by cases c<;>rfl
end
attribute [go_sem low] WY
attribute [go_sem] XZ WQ X4 TD QR
end Go.AI
