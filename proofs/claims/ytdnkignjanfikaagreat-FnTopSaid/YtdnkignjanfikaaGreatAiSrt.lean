/- Part. -/
import Derived.Test.YtdnkignjanfikaaGreatAiDefs
namespace Go.AI
def n7 (t:Tri):List V:=[.lit (.int .i64 t.1),.lit (.int .i64 t.2.1),.lit (.int .i64 t.2.2)]
def Af (x y:Tri):Bool:=decide (x.1<y.1\/x.1=y.1/\x.2.1<y.2.1)
def FJ (x y:Tri):Bool:=decide (x.1=y.1/\x.2.1=y.2.1)
def pa:List Tri->Bool
 |[]=>true
 |x::r=>r.all (fun y=> !FJ x y)&&pa r
def i0 (L:List Tri):List Tri:=L.mergeSort (fun x y=> !Af y x)
def mcf (x y:Tri):Int:=if x.1<y.1 then-1 else if y.1<x.1 then 1 else if x.2.1<y.2.1 then-1 else if y.2.1<x.2.1 then 1 else 0
theorem c2w (x y:Tri):decide (mcf x y<0)=Af x y:=by
 unfold mcf Af
 by_cases a:x.1<y.1
 ·simp [a]
 ·by_cases d:y.1<x.1
  ·simp [a,d];omega
  ·have b:x.1=y.1:=by omega
   by_cases c:x.2.1<y.2.1
   ·simp [c,b]
   ·by_cases e:y.2.1<x.2.1<;>simp [b,c,e]
theorem a8O {x y:Tri}:Af x y=true↔x.1<y.1\/x.1=y.1/\x.2.1<y.2.1:=by simp [Af]
theorem BS {x y:Tri}:Af x y=false↔ ¬(x.1<y.1\/x.1=y.1/\x.2.1<y.2.1):=by simp [Af]
theorem uk: ∀{L:List Tri},pa L=true->L.Pairwise (fun x y=>FJ x y=false)
 |[],_=>List.Pairwise.nil
 |x::r,h=>by
  simp only [pa,aB,an,j3] at h
  exact iD.2 ⟨h.1,uk h.2⟩
theorem wV: ∀{L:List Tri},L.Pairwise (fun x y=>FJ x y=false)->pa L=true
 |[],_=>rfl
 |x::r,h=>by
  obtain ⟨a,b⟩:=iD.1 h
  simp only [pa,aB,an,j3]
  exact ⟨a,wV b⟩
theorem SV {x y:Tri}:FJ x y=FJ y x:=by
 unfold FJ;congr 1;apply propext;constructor<;>rintro ⟨a,b⟩<;>exact ⟨a.symm,b.symm⟩
theorem a8w {L:List Tri} (h:pa L=true) {x y:Tri} (d:x∈L) (e:y∈L) (c:FJ x y=true):x=y:=by
 have j:=uk h
 induction L with
 |nil=>cases d
 |cons z r ih=>
  obtain ⟨f,i⟩:=iD.1 j
  rcases aW.1 d with e1|b
  ·rcases aW.1 e with e2|a
   ·rw [e1,e2]
   ·rw [e1,f y a] at c;cases c
  ·rcases aW.1 e with e2|a
   ·rw [SV,e2,f x b] at c;cases c
   ·exact ih (wV i) b a i
theorem a3n {L L':List Tri} (a:L.Perm L') (h:pa L=true):pa L'=true:=
 wV (a.pairwise (uk h) (fun {x y} h=>by rw [SV];exact h))
theorem oD (L:List Tri):(i0 L).Perm L:=List.mergeSort_perm _ _
theorem Ex (L:List Tri):(i0 L).Pairwise (fun x y=>Af y x=false):=by
 have:=List.pairwise_mergeSort (le:=fun x y:Tri=> !Af y x) (fun a b c d e=>by
  simp only [j3,BS] at*;omega) (fun a b=>by
  simp only [dZ,j3,BS];omega) L
 refine this.imp (fun h=> ?_)
 simpa using h
theorem ES {L D:List Tri} (d:pa L=true) (c:D.Perm L) (e:D.Pairwise (fun x y=>Af y x=false)):D=i0 L:=by
 refine List.Perm.eq_of_pairwise (le:=fun x y=>Af y x=false) (fun a b f h i j=> ?_) e (Ex L) (c.trans (oD L).symm)
 refine a8w d (c.mem_iff.1 f) ((oD L).mem_iff.1 h) ?_
 rw [BS] at i j
 simp only [FJ,aA]
 omega
theorem ZU {L L':List Tri} (a:pa L=true) (b:L'.Perm L):i0 L'=i0 L:=ES a ((oD L').trans b) (Ex L')
end Go.AI
