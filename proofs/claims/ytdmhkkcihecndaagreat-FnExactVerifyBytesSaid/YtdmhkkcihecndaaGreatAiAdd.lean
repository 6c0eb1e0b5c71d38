/- Arrays out of slices: the machine's word on lists. -/
import Derived.Test.YtdmhkkcihecndaaGreatAiW
set_option linter.unusedVariables false
set_option linter.unusedSimpArgs false
namespace Go.AI
theorem obs {α β:Type} (a:α) (f:α→Option β):(some a).bind f=f a:=rfl
theorem om {P:Prop} (p:P:=by omega):P:=p
def a1I {α:Type}:List α→Option (α×α×α)
 |a::b::c::_=>some (a,b,c)
 |_=>none
def arS (m:Nat) (h:al) (v:V):Option (V×Upd):=match nf h v with
 |some (.imm _ rows,bs)=>if 0<m∧m≤rows.length then some (.iptr rows.flatten 0,fE bs) else none
 |_=>none
section
variable {C:aZ} {ow:dI} {ev:Opd→V} {h:al} {n:Nat} {α:Type} {e:En α} {l:List α}
theorem b4e (m:Nat) (x:Opd):ah C ow (.arrOf m x) ev h n=arS m h (ev x):=rfl
theorem b5U (m:Nat) (h0:Nat.blt 0 m=true):arS m h (sl e l)=br (decide (m≤l.length)) (some (.iptr (rws e l).flatten 0,[])) none:=by
 rw [Hm,decide_eq_true_eq] at h0
 rw [arS,a3c]
 rcases j5 e l with ⟨rfl,hs⟩|⟨hne,hs⟩
 ·rw [hs]
  have: ¬m≤0:=by omega
  simp [br,this]
 ·rw [hs]
  by_cases hm:m≤l.length<;>simp [br,rws,hm,h0,fE]
theorem b1b (hl: ∀x,(e.enc x).length=e.esz): ∀l:List α,(rws e l).flatten.length=l.length*e.esz
 |[]=>by simp [rws]
 |x::l=>by
  have:=b1b hl l
  simp only [rws,List.map_cons,List.flatten_cons,List.length_append,hl,List.length_cons] at*
  rw [this,Nat.succ_mul];omega
theorem a9k (m:Nat) (hl: ∀x,(e.enc x).length=e.esz) (hm:Nat.beq (3*e.esz) m=true) (h0:Nat.blt 0 m=true):
 part (some m) (rws e l).flatten 0=(a1I l).bind fun x=>some (.agg (e.enc x.1++(e.enc x.2.1++e.enc x.2.2))):=by
 rw [Mg,decide_eq_true_eq] at hm
 rw [Hm,decide_eq_true_eq] at h0
 subst hm
 have hf:=b1b hl l
 have none3: ∀k,k≤2→ ¬0+3*e.esz≤k*e.esz:=fun k hk h=>by
  have:k*e.esz≤2*e.esz:=Nat.mul_le_mul_right _ hk
  omega
 match l,hf with
 |[],hf=>simp only [part,a1I,Option.bind_none];rw [if_neg (by rw [hf];exact none3 0 (by omega))]
 |[_],hf=>simp only [part,a1I,Option.bind_none];rw [if_neg (by rw [hf];exact none3 1 (by omega))]
 |[_,_],hf=>simp only [part,a1I,Option.bind_none];rw [if_neg (by rw [hf];exact none3 2 (by omega))]
 |a::b::c::r,hf=>
  have ha:=hl a
  have hb:=hl b
  have hc:=hl c
  simp only [part,a1I,Option.bind_some]
  rw [if_pos (by rw [hf];simp only [List.length_cons];rw [Nat.zero_add];exact Nat.mul_le_mul_right _ (by omega)),List.drop_zero]
  congr 2
  simp only [rws,List.map_cons,List.flatten_cons]
  rw [←List.append_assoc, ←List.append_assoc,List.take_append_of_le_length (by simp [ha,hb,hc];omega),List.take_of_length_le (by simp [ha,hb,hc];omega),List.append_assoc]
end
attribute [go_sem] b4e b5U a9k implies_true
end Go.AI
