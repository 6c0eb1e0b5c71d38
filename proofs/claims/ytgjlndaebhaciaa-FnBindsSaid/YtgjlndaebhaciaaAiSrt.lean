/- Rows of three numbers in order: what a sort by the first two of them makes, if no two rows are alike in these. -/
import Derived.Test.YtgjlndaebhaciaaAiDefs
namespace Go.AI
def er (t:Tri):List V:=[.lit (.int .i64 t.1),.lit (.int .i64 t.2.1),.lit (.int .i64 t.2.2)]
def nm (x y:Tri):Bool:=decide (x.1<y.1∨x.1=y.1∧x.2.1<y.2.1)
def rz (x y:Tri):Bool:=decide (x.1=y.1∧x.2.1=y.2.1)
def ft:List Tri→Bool
 |[]=>true
 |x::r=>r.all (fun y=> !rz x y)&&ft r
def bU (L:List Tri):List Tri:=L.mergeSort (fun x y=> !nm y x)
def mcf (x y:Tri):Int:=if x.1<y.1 then-1 else if y.1<x.1 then 1 else if x.2.1<y.2.1 then-1 else if y.2.1<x.2.1 then 1 else 0
theorem Yu (x y:Tri):decide (mcf x y<0)=nm x y:=by
 unfold mcf nm
 by_cases h1:x.1<y.1
 ·simp [h1]
 ·by_cases h2:y.1<x.1
  ·simp [h1,h2];omega
  ·have h3:x.1=y.1:=by omega
   by_cases h4:x.2.1<y.2.1
   ·simp [h4,h3]
   ·by_cases h5:y.2.1<x.2.1<;>simp [h3,h4,h5]
theorem Mx {x y:Tri}:nm x y=true↔x.1<y.1∨x.1=y.1∧x.2.1<y.2.1:=by simp [nm]
theorem o0 {x y:Tri}:nm x y=false↔ ¬(x.1<y.1∨x.1=y.1∧x.2.1<y.2.1):=by simp [nm]
theorem iM: ∀{L:List Tri},ft L=true→L.Pairwise (fun x y=>rz x y=false)
 |[],_=>List.Pairwise.nil
 |x::r,h=>by
  simp only [ft,Bool.and_eq_true,List.all_eq_true,Bool.not_eq_true'] at h
  exact List.pairwise_cons.2 ⟨h.1,iM h.2⟩
theorem kj: ∀{L:List Tri},L.Pairwise (fun x y=>rz x y=false)→ft L=true
 |[],_=>rfl
 |x::r,h=>by
  obtain ⟨h1,h2⟩:=List.pairwise_cons.1 h
  simp only [ft,Bool.and_eq_true,List.all_eq_true,Bool.not_eq_true']
  exact ⟨h1,kj h2⟩
theorem yD {x y:Tri}:rz x y=rz y x:=by
 unfold rz;congr 1;apply propext;constructor<;>rintro ⟨h1,h2⟩<;>exact ⟨h1.symm,h2.symm⟩
theorem Ks {L:List Tri} (h:ft L=true) {x y:Tri} (hx:x∈L) (hy:y∈L) (he:rz x y=true):x=y:=by
 have hp:=iM h
 induction L with
 |nil=>cases hx
 |cons z r ih=>
  obtain ⟨h1,h2⟩:=List.pairwise_cons.1 hp
  rcases List.mem_cons.1 hx with e1|hx1
  ·rcases List.mem_cons.1 hy with e2|hy1
   ·rw [e1,e2]
   ·rw [e1,h1 y hy1] at he;cases he
  ·rcases List.mem_cons.1 hy with e2|hy1
   ·rw [yD,e2,h1 x hx1] at he;cases he
   ·exact ih (kj h2) hx1 hy1 h2
theorem Ha {L L':List Tri} (hp:L.Perm L') (h:ft L=true):ft L'=true:=
 kj (hp.pairwise (iM h) (fun {x y} h=>by rw [yD];exact h))
theorem fD (L:List Tri):(bU L).Perm L:=List.mergeSort_perm _ _
theorem qd (L:List Tri):(bU L).Pairwise (fun x y=>nm y x=false):=by
 have:=List.pairwise_mergeSort (le:=fun x y:Tri=> !nm y x) (fun a b c h1 h2=>by
  simp only [Bool.not_eq_true',o0] at*;omega) (fun a b=>by
  simp only [Bool.or_eq_true,Bool.not_eq_true',o0];omega) L
 refine this.imp (fun h=> ?_)
 simpa using h
theorem qv {L D:List Tri} (hk:ft L=true) (hp:D.Perm L) (hs:D.Pairwise (fun x y=>nm y x=false)):D=bU L:=by
 refine List.Perm.eq_of_pairwise (le:=fun x y=>nm y x=false) (fun a b ha hb h1 h2=> ?_) hs (qd L) (hp.trans (fD L).symm)
 refine Ks hk (hp.mem_iff.1 ha) ((fD L).mem_iff.1 hb) ?_
 rw [o0] at h1 h2
 simp only [rz,decide_eq_true_eq]
 omega
theorem EZ {L L':List Tri} (hk:ft L=true) (hp:L'.Perm L):bU L'=bU L:=qv hk ((fD L').trans hp) (qd L')
end Go.AI
