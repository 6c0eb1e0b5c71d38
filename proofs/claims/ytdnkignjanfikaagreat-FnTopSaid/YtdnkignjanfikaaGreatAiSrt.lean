/- Part. -/
import Derived.Test.YtdnkignjanfikaaGreatAiDefs
namespace Go.AI
def n5 (t:Tri):List V:=[.lit (.int .i64 t.1),.lit (.int .i64 t.2.1),.lit (.int .i64 t.2.2)]
def AZ (x y:Tri):Bool:=decide (x.1<y.1\/x.1=y.1/\x.2.1<y.2.1)
def Hg (x y:Tri):Bool:=decide (x.1=y.1/\x.2.1=y.2.1)
def p8:List Tri->Bool
 |[]=>true
 |x::r=>r.all (fun y=> !Hg x y)&&p8 r
def hU (L:List Tri):List Tri:=L.mergeSort (fun x y=> !AZ y x)
def mcf (x y:Tri):Int:=if x.1<y.1 then-1 else if y.1<x.1 then 1 else if x.2.1<y.2.1 then-1 else if y.2.1<x.2.1 then 1 else 0
theorem c48 (x y:Tri):decide (mcf x y<0)=AZ x y:=by
 unfold mcf AZ
 by_cases a:x.1<y.1
 ·simp [a]
 ·by_cases d:y.1<x.1
  ·simp [a,d];omega
  ·have b:x.1=y.1:=by omega
   by_cases c:x.2.1<y.2.1
   ·simp [c,b]
   ·by_cases e:y.2.1<x.2.1<;>simp [b,c,e]
theorem a7K {x y:Tri}:AZ x y=true↔x.1<y.1\/x.1=y.1/\x.2.1<y.2.1:=by simp [AZ]
theorem BJ {x y:Tri}:AZ x y=false↔ ¬(x.1<y.1\/x.1=y.1/\x.2.1<y.2.1):=by simp [AZ]
theorem ue: ∀{L:List Tri},p8 L=true->L.Pairwise (fun x y=>Hg x y=false)
 |[],_=>List.Pairwise.nil
 |x::r,h=>by
  simp only [p8,aB,an,j7] at h
  exact iA.2 ⟨h.1,ue h.2⟩
theorem wS: ∀{L:List Tri},L.Pairwise (fun x y=>Hg x y=false)->p8 L=true
 |[],_=>rfl
 |x::r,h=>by
  obtain ⟨a,b⟩:=iA.1 h
  simp only [p8,aB,an,j7]
  exact ⟨a,wS b⟩
theorem R8 {x y:Tri}:Hg x y=Hg y x:=by
 unfold Hg;congr 1;apply propext;constructor<;>rintro ⟨a,b⟩<;>exact ⟨a.symm,b.symm⟩
theorem a7N {L:List Tri} (h:p8 L=true) {x y:Tri} (d:x∈L) (e:y∈L) (c:Hg x y=true):x=y:=by
 have j:=ue h
 induction L with
 |nil=>cases d
 |cons z r ih=>
  obtain ⟨f,i⟩:=iA.1 j
  rcases aW.1 d with e1|b
  ·rcases aW.1 e with e2|a
   ·rw [e1,e2]
   ·rw [e1,f y a] at c;cases c
  ·rcases aW.1 e with e2|a
   ·rw [R8,e2,f x b] at c;cases c
   ·exact ih (wS i) b a i
theorem a3L {L L':List Tri} (a:L.Perm L') (h:p8 L=true):p8 L'=true:=
 wS (a.pairwise (ue h) (fun {x y} h=>by rw [R8];exact h))
theorem oc (L:List Tri):(hU L).Perm L:=List.mergeSort_perm _ _
theorem ES (L:List Tri):(hU L).Pairwise (fun x y=>AZ y x=false):=by
 have:=List.pairwise_mergeSort (le:=fun x y:Tri=> !AZ y x) (fun a b c d e=>by
  simp only [j7,BJ] at*;omega) (fun a b=>by
  simp only [dZ,j7,BJ];omega) L
 refine this.imp (fun h=> ?_)
 simpa using h
theorem DZ {L D:List Tri} (d:p8 L=true) (c:D.Perm L) (e:D.Pairwise (fun x y=>AZ y x=false)):D=hU L:=by
 refine List.Perm.eq_of_pairwise (le:=fun x y=>AZ y x=false) (fun a b f h i j=> ?_) e (ES L) (c.trans (oc L).symm)
 refine a7N d (c.mem_iff.1 f) ((oc L).mem_iff.1 h) ?_
 rw [BJ] at i j
 simp only [Hg,aA]
 omega
theorem a04 {L L':List Tri} (a:p8 L=true) (b:L'.Perm L):hU L'=hU L:=DZ a ((oc L').trans b) (ES L')
end Go.AI
