/- Rows of three numbers in order: what a sort by the first two of them makes, if no two rows are alike in these. -/
import Derived.Test.YtgjlndaebhaciaaAiDefs
namespace Go.AI
def cH (t:Tri):List V:=[.lit (.int .i64 t.1),.lit (.int .i64 t.2.1),.lit (.int .i64 t.2.2)]
def iR (x y:Tri):Bool:=decide (x.1<y.1∨x.1=y.1∧x.2.1<y.2.1)
def mO (x y:Tri):Bool:=decide (x.1=y.1∧x.2.1=y.2.1)
def db:List Tri→Bool
 |[]=>true
 |x::r=>r.all (fun y=> !mO x y)&&db r
def bk (L:List Tri):List Tri:=L.mergeSort (fun x y=> !iR y x)
def mcf (x y:Tri):Int:=if x.1<y.1 then-1 else if y.1<x.1 then 1 else if x.2.1<y.2.1 then-1 else if y.2.1<x.2.1 then 1 else 0
theorem Ob (x y:Tri):decide (mcf x y<0)=iR x y:=by
 unfold mcf iR
 by_cases h1:x.1<y.1
 ·simp [h1]
 ·by_cases h2:y.1<x.1
  ·simp [h1,h2];omega
  ·have h3:x.1=y.1:=by omega
   by_cases h4:x.2.1<y.2.1
   ·simp [h4,h3]
   ·by_cases h5:y.2.1<x.2.1<;>simp [h3,h4,h5]
theorem C7 {x y:Tri}:iR x y=true↔x.1<y.1∨x.1=y.1∧x.2.1<y.2.1:=by simp [iR]
theorem jb {x y:Tri}:iR x y=false↔ ¬(x.1<y.1∨x.1=y.1∧x.2.1<y.2.1):=by simp [iR]
theorem fc: ∀{L:List Tri},db L=true→L.Pairwise (fun x y=>mO x y=false)
 |[],_=>List.Pairwise.nil
 |x::r,h=>by
  simp only [db,Bool.and_eq_true,List.all_eq_true,Bool.not_eq_true'] at h
  exact List.pairwise_cons.2 ⟨h.1,fc h.2⟩
theorem gu: ∀{L:List Tri},L.Pairwise (fun x y=>mO x y=false)→db L=true
 |[],_=>rfl
 |x::r,h=>by
  obtain ⟨h1,h2⟩:=List.pairwise_cons.1 h
  simp only [db,Bool.and_eq_true,List.all_eq_true,Bool.not_eq_true']
  exact ⟨h1,gu h2⟩
theorem sG {x y:Tri}:mO x y=mO y x:=by
 unfold mO;congr 1;apply propext;constructor<;>rintro ⟨h1,h2⟩<;>exact ⟨h1.symm,h2.symm⟩
theorem Ee {L:List Tri} (h:db L=true) {x y:Tri} (hx:x∈L) (hy:y∈L) (he:mO x y=true):x=y:=by
 have hp:=fc h
 induction L with
 |nil=>cases hx
 |cons z r ih=>
  obtain ⟨h1,h2⟩:=List.pairwise_cons.1 hp
  rcases List.mem_cons.1 hx with e1|hx1
  ·rcases List.mem_cons.1 hy with e2|hy1
   ·rw [e1,e2]
   ·rw [e1,h1 y hy1] at he;cases he
  ·rcases List.mem_cons.1 hy with e2|hy1
   ·rw [sG,e2,h1 x hx1] at he;cases he
   ·exact ih (gu h2) hx1 hy1 h2
theorem zP {L L':List Tri} (hp:L.Perm L') (h:db L=true):db L'=true:=
 gu (hp.pairwise (fc h) (fun {x y} h=>by rw [sG];exact h))
theorem dc (L:List Tri):(bk L).Perm L:=List.mergeSort_perm _ _
theorem kF (L:List Tri):(bk L).Pairwise (fun x y=>iR y x=false):=by
 have:=List.pairwise_mergeSort (le:=fun x y:Tri=> !iR y x) (fun a b c h1 h2=>by
  simp only [Bool.not_eq_true',jb] at*;omega) (fun a b=>by
  simp only [Bool.or_eq_true,Bool.not_eq_true',jb];omega) L
 refine this.imp (fun h=> ?_)
 simpa using h
theorem kH {L D:List Tri} (hk:db L=true) (hp:D.Perm L) (hs:D.Pairwise (fun x y=>iR y x=false)):D=bk L:=by
 refine List.Perm.eq_of_pairwise (le:=fun x y=>iR y x=false) (fun a b ha hb h1 h2=> ?_) hs (kF L) (hp.trans (dc L).symm)
 refine Ee hk (hp.mem_iff.1 ha) ((dc L).mem_iff.1 hb) ?_
 rw [jb] at h1 h2
 simp only [mO,decide_eq_true_eq]
 omega
theorem yJ {L L':List Tri} (hk:db L=true) (hp:L'.Perm L):bk L'=bk L:=kH hk ((dc L').trans hp) (kF L')
end Go.AI
