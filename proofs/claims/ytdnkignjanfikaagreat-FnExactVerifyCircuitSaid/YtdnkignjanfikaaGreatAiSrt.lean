/- Rows of three numbers in order: what a sort by the first two of them makes, if no two rows are alike in these. -/
import Derived.Test.YtdnkignjanfikaaGreatAiDefs
namespace Go.AI
def kZ (t:Tri):List V:=[.lit (.int .i64 t.1),.lit (.int .i64 t.2.1),.lit (.int .i64 t.2.2)]
def zl (x y:Tri):Bool:=decide (x.1<y.1\/x.1=y.1/\x.2.1<y.2.1)
def FW (x y:Tri):Bool:=decide (x.1=y.1/\x.2.1=y.2.1)
def mW:List Tri->Bool
 |[]=>true
 |x::r=>r.all (fun y=> !FW x y)&&mW r
def fV (L:List Tri):List Tri:=L.mergeSort (fun x y=> !zl y x)
def mcf (x y:Tri):Int:=if x.1<y.1 then-1 else if y.1<x.1 then 1 else if x.2.1<y.2.1 then-1 else if y.2.1<x.2.1 then 1 else 0
theorem c1n (x y:Tri):decide (mcf x y<0)=zl x y:=by
 unfold mcf zl
 by_cases h1:x.1<y.1
 ·simp [h1]
 ·by_cases h2:y.1<x.1
  ·simp [h1,h2];omega
  ·have h3:x.1=y.1:=by omega
   by_cases h4:x.2.1<y.2.1
   ·simp [h4,h3]
   ·by_cases h5:y.2.1<x.2.1<;>simp [h3,h4,h5]
theorem b1x {x y:Tri}:zl x y=true↔x.1<y.1\/x.1=y.1/\x.2.1<y.2.1:=by simp [zl]
theorem Ar {x y:Tri}:zl x y=false↔ ¬(x.1<y.1\/x.1=y.1/\x.2.1<y.2.1):=by simp [zl]
theorem rk: ∀{L:List Tri},mW L=true->L.Pairwise (fun x y=>FW x y=false)
 |[],_=>List.Pairwise.nil
 |x::r,h=>by
  simp only [mW,aC,aB,ic] at h
  exact gw.2 ⟨h.1,rk h.2⟩
theorem tW: ∀{L:List Tri},L.Pairwise (fun x y=>FW x y=false)->mW L=true
 |[],_=>rfl
 |x::r,h=>by
  obtain ⟨h1,h2⟩:=gw.1 h
  simp only [mW,aC,aB,ic]
  exact ⟨h1,tW h2⟩
theorem QD {x y:Tri}:FW x y=FW y x:=by
 unfold FW;congr 1;apply propext;constructor<;>rintro ⟨h1,h2⟩<;>exact ⟨h1.symm,h2.symm⟩
theorem b1z {L:List Tri} (h:mW L=true) {x y:Tri} (hx:x∈L) (hy:y∈L) (he:FW x y=true):x=y:=by
 have hp:=rk h
 induction L with
 |nil=>cases hx
 |cons z r ih=>
  obtain ⟨h1,h2⟩:=gw.1 hp
  rcases bc.1 hx with e1|hx1
  ·rcases bc.1 hy with e2|hy1
   ·rw [e1,e2]
   ·rw [e1,h1 y hy1] at he;cases he
  ·rcases bc.1 hy with e2|hy1
   ·rw [QD,e2,h1 x hx1] at he;cases he
   ·exact ih (tW h2) hx1 hy1 h2
theorem a5z {L L':List Tri} (hp:L.Perm L') (h:mW L=true):mW L'=true:=
 tW (hp.pairwise (rk h) (fun {x y} h=>by rw [QD];exact h))
theorem my (L:List Tri):(fV L).Perm L:=List.mergeSort_perm _ _
theorem DH (L:List Tri):(fV L).Pairwise (fun x y=>zl y x=false):=by
 have:=List.pairwise_mergeSort (le:=fun x y:Tri=> !zl y x) (fun a b c h1 h2=>by
  simp only [ic,Ar] at*;omega) (fun a b=>by
  simp only [da,ic,Ar];omega) L
 refine this.imp (fun h=> ?_)
 simpa using h
theorem DZ {L D:List Tri} (hk:mW L=true) (hp:D.Perm L) (hs:D.Pairwise (fun x y=>zl y x=false)):D=fV L:=by
 refine List.Perm.eq_of_pairwise (le:=fun x y=>zl y x=false) (fun a b ha hb h1 h2=> ?_) hs (DH L) (hp.trans (my L).symm)
 refine b1z hk (hp.mem_iff.1 ha) ((my L).mem_iff.1 hb) ?_
 rw [Ar] at h1 h2
 simp only [FW,aG]
 omega
theorem a4D {L L':List Tri} (hk:mW L=true) (hp:L'.Perm L):fV L'=fV L:=DZ hk ((my L').trans hp) (DH L')
end Go.AI
