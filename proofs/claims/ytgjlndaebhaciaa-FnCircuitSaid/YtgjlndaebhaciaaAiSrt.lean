/- Rows of three numbers in order: what a sort by the first two of them makes, if no two rows are alike in these. -/
import Derived.Test.YtgjlndaebhaciaaAiDefs
namespace Go.AI
def dR (t:Tri):List V:=[.lit (.int .i64 t.1),.lit (.int .i64 t.2.1),.lit (.int .i64 t.2.2)]
def lL (x y:Tri):Bool:=decide (x.1<y.1∨x.1=y.1∧x.2.1<y.2.1)
def qM (x y:Tri):Bool:=decide (x.1=y.1∧x.2.1=y.2.1)
def eX:List Tri→Bool
 |[]=>true
 |x::r=>r.all (fun y=> !qM x y)&&eX r
def bK (L:List Tri):List Tri:=L.mergeSort (fun x y=> !lL y x)
def mcf (x y:Tri):Int:=if x.1<y.1 then-1 else if y.1<x.1 then 1 else if x.2.1<y.2.1 then-1 else if y.2.1<x.2.1 then 1 else 0
theorem VB (x y:Tri):decide (mcf x y<0)=lL x y:=by
 unfold mcf lL
 by_cases h1:x.1<y.1
 ·simp [h1]
 ·by_cases h2:y.1<x.1
  ·simp [h1,h2];omega
  ·have h3:x.1=y.1:=by omega
   by_cases h4:x.2.1<y.2.1
   ·simp [h4,h3]
   ·by_cases h5:y.2.1<x.2.1<;>simp [h3,h4,h5]
theorem K2 {x y:Tri}:lL x y=true↔x.1<y.1∨x.1=y.1∧x.2.1<y.2.1:=by simp [lL]
theorem mQ {x y:Tri}:lL x y=false↔ ¬(x.1<y.1∨x.1=y.1∧x.2.1<y.2.1):=by simp [lL]
theorem il: ∀{L:List Tri},eX L=true→L.Pairwise (fun x y=>qM x y=false)
 |[],_=>List.Pairwise.nil
 |x::r,h=>by
  simp only [eX,Bool.and_eq_true,List.all_eq_true,Bool.not_eq_true'] at h
  exact List.pairwise_cons.2 ⟨h.1,il h.2⟩
theorem ji: ∀{L:List Tri},L.Pairwise (fun x y=>qM x y=false)→eX L=true
 |[],_=>rfl
 |x::r,h=>by
  obtain ⟨h1,h2⟩:=List.pairwise_cons.1 h
  simp only [eX,Bool.and_eq_true,List.all_eq_true,Bool.not_eq_true']
  exact ⟨h1,ji h2⟩
theorem xt {x y:Tri}:qM x y=qM y x:=by
 unfold qM;congr 1;apply propext;constructor<;>rintro ⟨h1,h2⟩<;>exact ⟨h1.symm,h2.symm⟩
theorem HF {L:List Tri} (h:eX L=true) {x y:Tri} (hx:x∈L) (hy:y∈L) (he:qM x y=true):x=y:=by
 have hp:=il h
 induction L with
 |nil=>cases hx
 |cons z r ih=>
  obtain ⟨h1,h2⟩:=List.pairwise_cons.1 hp
  rcases List.mem_cons.1 hx with e1|hx1
  ·rcases List.mem_cons.1 hy with e2|hy1
   ·rw [e1,e2]
   ·rw [e1,h1 y hy1] at he;cases he
  ·rcases List.mem_cons.1 hy with e2|hy1
   ·rw [xt,e2,h1 x hx1] at he;cases he
   ·exact ih (ji h2) hx1 hy1 h2
theorem Gp {L L':List Tri} (hp:L.Perm L') (h:eX L=true):eX L'=true:=
 ji (hp.pairwise (il h) (fun {x y} h=>by rw [xt];exact h))
theorem fj (L:List Tri):(bK L).Perm L:=List.mergeSort_perm _ _
theorem oQ (L:List Tri):(bK L).Pairwise (fun x y=>lL y x=false):=by
 have:=List.pairwise_mergeSort (le:=fun x y:Tri=> !lL y x) (fun a b c h1 h2=>by
  simp only [Bool.not_eq_true',mQ] at*;omega) (fun a b=>by
  simp only [Bool.or_eq_true,Bool.not_eq_true',mQ];omega) L
 refine this.imp (fun h=> ?_)
 simpa using h
theorem oA {L D:List Tri} (hk:eX L=true) (hp:D.Perm L) (hs:D.Pairwise (fun x y=>lL y x=false)):D=bK L:=by
 refine List.Perm.eq_of_pairwise (le:=fun x y=>lL y x=false) (fun a b ha hb h1 h2=> ?_) hs (oQ L) (hp.trans (fj L).symm)
 refine HF hk (hp.mem_iff.1 ha) ((fj L).mem_iff.1 hb) ?_
 rw [mQ] at h1 h2
 simp only [qM,decide_eq_true_eq]
 omega
theorem Er {L L':List Tri} (hk:eX L=true) (hp:L'.Perm L):bK L'=bK L:=oA hk ((fj L').trans hp) (oQ L')
end Go.AI
