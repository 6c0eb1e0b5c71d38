/- Rows of three numbers in order: what a sort by the first two of them makes, if no two rows are alike in these. -/
import Derived.Test.YtdnkignjanfikaaGreatAiDefs
namespace Go.AI
def i6 (t:Tri):List V:=[.lit (.int .i64 t.1),.lit (.int .i64 t.2.1),.lit (.int .i64 t.2.2)]
def vO (x y:Tri):Bool:=decide (x.1<y.1∨x.1=y.1∧x.2.1<y.2.1)
def CM (x y:Tri):Bool:=decide (x.1=y.1∧x.2.1=y.2.1)
def j5:List Tri→Bool
 |[]=>true
 |x::r=>r.all (fun y=> !CM x y)&&j5 r
def cK (L:List Tri):List Tri:=L.mergeSort (fun x y=> !vO y x)
def mcf (x y:Tri):Int:=if x.1<y.1 then-1 else if y.1<x.1 then 1 else if x.2.1<y.2.1 then-1 else if y.2.1<x.2.1 then 1 else 0
theorem c0i (x y:Tri):decide (mcf x y<0)=vO x y:=by
 unfold mcf vO
 by_cases h1:x.1<y.1
 ·simp [h1]
 ·by_cases h2:y.1<x.1
  ·simp [h1,h2];omega
  ·have h3:x.1=y.1:=by omega
   by_cases h4:x.2.1<y.2.1
   ·simp [h4,h3]
   ·by_cases h5:y.2.1<x.2.1<;>simp [h3,h4,h5]
theorem a4v {x y:Tri}:vO x y=true↔x.1<y.1∨x.1=y.1∧x.2.1<y.2.1:=by simp [vO]
theorem wT {x y:Tri}:vO x y=false↔ ¬(x.1<y.1∨x.1=y.1∧x.2.1<y.2.1):=by simp [vO]
theorem nQ: ∀{L:List Tri},j5 L=true→L.Pairwise (fun x y=>CM x y=false)
 |[],_=>List.Pairwise.nil
 |x::r,h=>by
  simp only [j5,Bool.and_eq_true,List.all_eq_true,Bool.not_eq_true'] at h
  exact List.pairwise_cons.2 ⟨h.1,nQ h.2⟩
theorem qd: ∀{L:List Tri},L.Pairwise (fun x y=>CM x y=false)→j5 L=true
 |[],_=>rfl
 |x::r,h=>by
  obtain ⟨h1,h2⟩:=List.pairwise_cons.1 h
  simp only [j5,Bool.and_eq_true,List.all_eq_true,Bool.not_eq_true']
  exact ⟨h1,qd h2⟩
theorem Mm {x y:Tri}:CM x y=CM y x:=by
 unfold CM;congr 1;apply propext;constructor<;>rintro ⟨h1,h2⟩<;>exact ⟨h1.symm,h2.symm⟩
theorem a3S {L:List Tri} (h:j5 L=true) {x y:Tri} (hx:x∈L) (hy:y∈L) (he:CM x y=true):x=y:=by
 have hp:=nQ h
 induction L with
 |nil=>cases hx
 |cons z r ih=>
  obtain ⟨h1,h2⟩:=List.pairwise_cons.1 hp
  rcases List.mem_cons.1 hx with e1|hx1
  ·rcases List.mem_cons.1 hy with e2|hy1
   ·rw [e1,e2]
   ·rw [e1,h1 y hy1] at he;cases he
  ·rcases List.mem_cons.1 hy with e2|hy1
   ·rw [Mm,e2,h1 x hx1] at he;cases he
   ·exact ih (qd h2) hx1 hy1 h2
theorem a0o {L L':List Tri} (hp:L.Perm L') (h:j5 L=true):j5 L'=true:=
 qd (hp.pairwise (nQ h) (fun {x y} h=>by rw [Mm];exact h))
theorem j9 (L:List Tri):(cK L).Perm L:=List.mergeSort_perm _ _
theorem zW (L:List Tri):(cK L).Pairwise (fun x y=>vO y x=false):=by
 have:=List.pairwise_mergeSort (le:=fun x y:Tri=> !vO y x) (fun a b c h1 h2=>by
  simp only [Bool.not_eq_true',wT] at*;omega) (fun a b=>by
  simp only [Bool.or_eq_true,Bool.not_eq_true',wT];omega) L
 refine this.imp (fun h=> ?_)
 simpa using h
theorem A9 {L D:List Tri} (hk:j5 L=true) (hp:D.Perm L) (hs:D.Pairwise (fun x y=>vO y x=false)):D=cK L:=by
 refine List.Perm.eq_of_pairwise (le:=fun x y=>vO y x=false) (fun a b ha hb h1 h2=> ?_) hs (zW L) (hp.trans (j9 L).symm)
 refine a3S hk (hp.mem_iff.1 ha) ((j9 L).mem_iff.1 hb) ?_
 rw [wT] at h1 h2
 simp only [CM,decide_eq_true_eq]
 omega
theorem Wx {L L':List Tri} (hk:j5 L=true) (hp:L'.Perm L):cK L'=cK L:=A9 hk ((j9 L').trans hp) (zW L')
end Go.AI
