/- Rows of three numbers in order: what a sort by the first two of them makes, if no two rows are alike in these. -/
import Derived.Test.YtgjlndaebhaciaaAiDefs
namespace Go.AI
def cG (t:Tri):List V:=[.lit (.int .i64 t.1),.lit (.int .i64 t.2.1),.lit (.int .i64 t.2.2)]
def iY (x y:Tri):Bool:=decide (x.1<y.1∨x.1=y.1∧x.2.1<y.2.1)
def mJ (x y:Tri):Bool:=decide (x.1=y.1∧x.2.1=y.2.1)
def db:List Tri→Bool
 |[]=>true
 |x::r=>r.all (fun y=> !mJ x y)&&db r
def bk (L:List Tri):List Tri:=L.mergeSort (fun x y=> !iY y x)
def mcf (x y:Tri):Int:=if x.1<y.1 then-1 else if y.1<x.1 then 1 else if x.2.1<y.2.1 then-1 else if y.2.1<x.2.1 then 1 else 0
theorem Q2 (x y:Tri):decide (mcf x y<0)=iY x y:=by
 unfold mcf iY
 by_cases h1:x.1<y.1
 ·simp [h1]
 ·by_cases h2:y.1<x.1
  ·simp [h1,h2];omega
  ·have h3:x.1=y.1:=by omega
   by_cases h4:x.2.1<y.2.1
   ·simp [h4,h3]
   ·by_cases h5:y.2.1<x.2.1<;>simp [h3,h4,h5]
theorem CZ {x y:Tri}:iY x y=true↔x.1<y.1∨x.1=y.1∧x.2.1<y.2.1:=by simp [iY]
theorem jh {x y:Tri}:iY x y=false↔ ¬(x.1<y.1∨x.1=y.1∧x.2.1<y.2.1):=by simp [iY]
theorem fc: ∀{L:List Tri},db L=true→L.Pairwise (fun x y=>mJ x y=false)
 |[],_=>List.Pairwise.nil
 |x::r,h=>by
  simp only [db,Bool.and_eq_true,List.all_eq_true,Bool.not_eq_true'] at h
  exact List.pairwise_cons.2 ⟨h.1,fc h.2⟩
theorem gr: ∀{L:List Tri},L.Pairwise (fun x y=>mJ x y=false)→db L=true
 |[],_=>rfl
 |x::r,h=>by
  obtain ⟨h1,h2⟩:=List.pairwise_cons.1 h
  simp only [db,Bool.and_eq_true,List.all_eq_true,Bool.not_eq_true']
  exact ⟨h1,gr h2⟩
theorem rg {x y:Tri}:mJ x y=mJ y x:=by
 unfold mJ;congr 1;apply propext;constructor<;>rintro ⟨h1,h2⟩<;>exact ⟨h1.symm,h2.symm⟩
theorem Cn {L:List Tri} (h:db L=true) {x y:Tri} (hx:x∈L) (hy:y∈L) (he:mJ x y=true):x=y:=by
 have hp:=fc h
 induction L with
 |nil=>cases hx
 |cons z r ih=>
  obtain ⟨h1,h2⟩:=List.pairwise_cons.1 hp
  rcases List.mem_cons.1 hx with e1|hx1
  ·rcases List.mem_cons.1 hy with e2|hy1
   ·rw [e1,e2]
   ·rw [e1,h1 y hy1] at he;cases he
  ·rcases List.mem_cons.1 hy with e2|hy1
   ·rw [rg,e2,h1 x hx1] at he;cases he
   ·exact ih (gr h2) hx1 hy1 h2
theorem AK {L L':List Tri} (hp:L.Perm L') (h:db L=true):db L'=true:=
 gr (hp.pairwise (fc h) (fun {x y} h=>by rw [rg];exact h))
theorem dj (L:List Tri):(bk L).Perm L:=List.mergeSort_perm _ _
theorem kx (L:List Tri):(bk L).Pairwise (fun x y=>iY y x=false):=by
 have:=List.pairwise_mergeSort (le:=fun x y:Tri=> !iY y x) (fun a b c h1 h2=>by
  simp only [Bool.not_eq_true',jh] at*;omega) (fun a b=>by
  simp only [Bool.or_eq_true,Bool.not_eq_true',jh];omega) L
 refine this.imp (fun h=> ?_)
 simpa using h
theorem kD {L D:List Tri} (hk:db L=true) (hp:D.Perm L) (hs:D.Pairwise (fun x y=>iY y x=false)):D=bk L:=by
 refine List.Perm.eq_of_pairwise (le:=fun x y=>iY y x=false) (fun a b ha hb h1 h2=> ?_) hs (kx L) (hp.trans (dj L).symm)
 refine Cn hk (hp.mem_iff.1 ha) ((dj L).mem_iff.1 hb) ?_
 rw [jh] at h1 h2
 simp only [mJ,decide_eq_true_eq]
 omega
theorem yA {L L':List Tri} (hk:db L=true) (hp:L'.Perm L):bk L'=bk L:=kD hk ((dj L').trans hp) (kx L')
end Go.AI
