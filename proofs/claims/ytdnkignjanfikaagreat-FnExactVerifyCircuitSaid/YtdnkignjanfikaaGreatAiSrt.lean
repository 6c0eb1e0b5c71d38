/- Part. -/
import Derived.Test.YtdnkignjanfikaaGreatAiDefs
namespace Go.AI
def kQ (t:Tri):List V:=[.lit (.int .i64 t.1),.lit (.int .i64 t.2.1),.lit (.int .i64 t.2.2)]
def yR (x y:Tri):Bool:=decide (x.1<y.1\/x.1=y.1/\x.2.1<y.2.1)
def G6 (x y:Tri):Bool:=decide (x.1=y.1/\x.2.1=y.2.1)
def mH:List Tri->Bool
 |[]=>true
 |x::r=>r.all (fun y=> !G6 x y)&&mH r
def fW (L:List Tri):List Tri:=L.mergeSort (fun x y=> !yR y x)
def mcf (x y:Tri):Int:=if x.1<y.1 then-1 else if y.1<x.1 then 1 else if x.2.1<y.2.1 then-1 else if y.2.1<x.2.1 then 1 else 0
theorem c2Y (x y:Tri):decide (mcf x y<0)=yR x y:=by
 unfold mcf yR
 by_cases a:x.1<y.1
 ·simp [a]
 ·by_cases d:y.1<x.1
  ·simp [a,d];omega
  ·have b:x.1=y.1:=by omega
   by_cases c:x.2.1<y.2.1
   ·simp [c,b]
   ·by_cases e:y.2.1<x.2.1<;>simp [b,c,e]
theorem a9m {x y:Tri}:yR x y=true↔x.1<y.1\/x.1=y.1/\x.2.1<y.2.1:=by simp [yR]
theorem zu {x y:Tri}:yR x y=false↔ ¬(x.1<y.1\/x.1=y.1/\x.2.1<y.2.1):=by simp [yR]
theorem qK: ∀{L:List Tri},mH L=true->L.Pairwise (fun x y=>G6 x y=false)
 |[],_=>List.Pairwise.nil
 |x::r,h=>by
  simp only [mH,aD,aB,hZ] at h
  exact gw.2 ⟨h.1,qK h.2⟩
theorem tl: ∀{L:List Tri},L.Pairwise (fun x y=>G6 x y=false)->mH L=true
 |[],_=>rfl
 |x::r,h=>by
  obtain ⟨a,b⟩:=gw.1 h
  simp only [mH,aD,aB,hZ]
  exact ⟨a,tl b⟩
theorem Ql {x y:Tri}:G6 x y=G6 y x:=by
 unfold G6;congr 1;apply propext;constructor<;>rintro ⟨a,b⟩<;>exact ⟨a.symm,b.symm⟩
theorem b0Y {L:List Tri} (h:mH L=true) {x y:Tri} (d:x∈L) (e:y∈L) (c:G6 x y=true):x=y:=by
 have j:=qK h
 induction L with
 |nil=>cases d
 |cons z r ih=>
  obtain ⟨f,i⟩:=gw.1 j
  rcases b9.1 d with e1|b
  ·rcases b9.1 e with e2|a
   ·rw [e1,e2]
   ·rw [e1,f y a] at c;cases c
  ·rcases b9.1 e with e2|a
   ·rw [Ql,e2,f x b] at c;cases c
   ·exact ih (tl i) b a i
theorem a4r {L L':List Tri} (a:L.Perm L') (h:mH L=true):mH L'=true:=
 tl (a.pairwise (qK h) (fun {x y} h=>by rw [Ql];exact h))
theorem m9 (L:List Tri):(fW L).Perm L:=List.mergeSort_perm _ _
theorem Da (L:List Tri):(fW L).Pairwise (fun x y=>yR y x=false):=by
 have:=List.pairwise_mergeSort (le:=fun x y:Tri=> !yR y x) (fun a b c d e=>by
  simp only [hZ,zu] at*;omega) (fun a b=>by
  simp only [cY,hZ,zu];omega) L
 refine this.imp (fun h=> ?_)
 simpa using h
theorem DQ {L D:List Tri} (d:mH L=true) (c:D.Perm L) (e:D.Pairwise (fun x y=>yR y x=false)):D=fW L:=by
 refine List.Perm.eq_of_pairwise (le:=fun x y=>yR y x=false) (fun a b f h i j=> ?_) e (Da L) (c.trans (m9 L).symm)
 refine b0Y d (c.mem_iff.1 f) ((m9 L).mem_iff.1 h) ?_
 rw [zu] at i j
 simp only [G6,aC]
 omega
theorem a3v {L L':List Tri} (a:mH L=true) (b:L'.Perm L):fW L'=fW L:=DQ a ((m9 L').trans b) (Da L')
end Go.AI
