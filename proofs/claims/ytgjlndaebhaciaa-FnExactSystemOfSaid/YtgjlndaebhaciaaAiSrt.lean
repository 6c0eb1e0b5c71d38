/- Rows of three numbers in order: what a sort by the first two of them makes, if no two rows are alike in these. -/
import Derived.Test.YtgjlndaebhaciaaAiDefs
namespace Go.AI
def cH (t:Tri):List V:=[.lit (.int .i64 t.1),.lit (.int .i64 t.2.1),.lit (.int .i64 t.2.2)]
def j4 (x y:Tri):Bool:=decide (x.1<y.1∨x.1=y.1∧x.2.1<y.2.1)
def mI (x y:Tri):Bool:=decide (x.1=y.1∧x.2.1=y.2.1)
def db:List Tri→Bool
 |[]=>true
 |x::r=>r.all (fun y=> !mI x y)&&db r
def bk (L:List Tri):List Tri:=L.mergeSort (fun x y=> !j4 y x)
def mcf (x y:Tri):Int:=if x.1<y.1 then-1 else if y.1<x.1 then 1 else if x.2.1<y.2.1 then-1 else if y.2.1<x.2.1 then 1 else 0
theorem NY (x y:Tri):decide (mcf x y<0)=j4 x y:=by
 unfold mcf j4
 by_cases h1:x.1<y.1
 ·simp [h1]
 ·by_cases h2:y.1<x.1
  ·simp [h1,h2];omega
  ·have h3:x.1=y.1:=by omega
   by_cases h4:x.2.1<y.2.1
   ·simp [h4,h3]
   ·by_cases h5:y.2.1<x.2.1<;>simp [h3,h4,h5]
theorem Ea {x y:Tri}:j4 x y=true↔x.1<y.1∨x.1=y.1∧x.2.1<y.2.1:=by simp [j4]
theorem jd {x y:Tri}:j4 x y=false↔ ¬(x.1<y.1∨x.1=y.1∧x.2.1<y.2.1):=by simp [j4]
theorem eZ: ∀{L:List Tri},db L=true→L.Pairwise (fun x y=>mI x y=false)
 |[],_=>List.Pairwise.nil
 |x::r,h=>by
  simp only [db,Bool.and_eq_true,List.all_eq_true,Bool.not_eq_true'] at h
  exact List.pairwise_cons.2 ⟨h.1,eZ h.2⟩
theorem gy: ∀{L:List Tri},L.Pairwise (fun x y=>mI x y=false)→db L=true
 |[],_=>rfl
 |x::r,h=>by
  obtain ⟨h1,h2⟩:=List.pairwise_cons.1 h
  simp only [db,Bool.and_eq_true,List.all_eq_true,Bool.not_eq_true']
  exact ⟨h1,gy h2⟩
theorem rz {x y:Tri}:mI x y=mI y x:=by
 unfold mI;congr 1;apply propext;constructor<;>rintro ⟨h1,h2⟩<;>exact ⟨h1.symm,h2.symm⟩
theorem BT {L:List Tri} (h:db L=true) {x y:Tri} (hx:x∈L) (hy:y∈L) (he:mI x y=true):x=y:=by
 have hp:=eZ h
 induction L with
 |nil=>cases hx
 |cons z r ih=>
  obtain ⟨h1,h2⟩:=List.pairwise_cons.1 hp
  rcases List.mem_cons.1 hx with e1|hx1
  ·rcases List.mem_cons.1 hy with e2|hy1
   ·rw [e1,e2]
   ·rw [e1,h1 y hy1] at he;cases he
  ·rcases List.mem_cons.1 hy with e2|hy1
   ·rw [rz,e2,h1 x hx1] at he;cases he
   ·exact ih (gy h2) hx1 hy1 h2
theorem Aw {L L':List Tri} (hp:L.Perm L') (h:db L=true):db L'=true:=
 gy (hp.pairwise (eZ h) (fun {x y} h=>by rw [rz];exact h))
theorem dl (L:List Tri):(bk L).Perm L:=List.mergeSort_perm _ _
theorem kq (L:List Tri):(bk L).Pairwise (fun x y=>j4 y x=false):=by
 have:=List.pairwise_mergeSort (le:=fun x y:Tri=> !j4 y x) (fun a b c h1 h2=>by
  simp only [Bool.not_eq_true',jd] at*;omega) (fun a b=>by
  simp only [Bool.or_eq_true,Bool.not_eq_true',jd];omega) L
 refine this.imp (fun h=> ?_)
 simpa using h
theorem kE {L D:List Tri} (hk:db L=true) (hp:D.Perm L) (hs:D.Pairwise (fun x y=>j4 y x=false)):D=bk L:=by
 refine List.Perm.eq_of_pairwise (le:=fun x y=>j4 y x=false) (fun a b ha hb h1 h2=> ?_) hs (kq L) (hp.trans (dl L).symm)
 refine BT hk (hp.mem_iff.1 ha) ((dl L).mem_iff.1 hb) ?_
 rw [jd] at h1 h2
 simp only [mI,decide_eq_true_eq]
 omega
theorem wL {L L':List Tri} (hk:db L=true) (hp:L'.Perm L):bk L'=bk L:=kE hk ((dl L').trans hp) (kq L')
end Go.AI
