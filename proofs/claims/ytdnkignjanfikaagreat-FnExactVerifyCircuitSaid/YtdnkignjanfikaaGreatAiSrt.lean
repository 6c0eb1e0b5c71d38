/- Part. -/
import Derived.Test.YtdnkignjanfikaaGreatAiDefs
namespace Go.AI
def kO (t:Tri):List V:=[.lit (.int .i64 t.1),.lit (.int .i64 t.2.1),.lit (.int .i64 t.2.2)]
def zd (x y:Tri):Bool:=decide (x.1<y.1\/x.1=y.1/\x.2.1<y.2.1)
def GI (x y:Tri):Bool:=decide (x.1=y.1/\x.2.1=y.2.1)
def ms:List Tri->Bool
 |[]=>true
 |x::r=>r.all (fun y=> !GI x y)&&ms r
def fV (L:List Tri):List Tri:=L.mergeSort (fun x y=> !zd y x)
def mcf (x y:Tri):Int:=if x.1<y.1 then-1 else if y.1<x.1 then 1 else if x.2.1<y.2.1 then-1 else if y.2.1<x.2.1 then 1 else 0
theorem c3n (x y:Tri):decide (mcf x y<0)=zd x y:=by
 unfold mcf zd
 by_cases a:x.1<y.1
 ·simp [a]
 ·by_cases e:y.1<x.1
  ·simp [a,e];omega
  ·b c:x.1=y.1:=by omega
   by_cases d:x.2.1<y.2.1
   ·simp [d,c]
   ·by_cases f:y.2.1<x.2.1<;>simp [c,d,f]
theorem a98 {x y:Tri}:zd x y=true↔x.1<y.1\/x.1=y.1/\x.2.1<y.2.1:=by simp [zd]
theorem zD {x y:Tri}:zd x y=false↔ ¬(x.1<y.1\/x.1=y.1/\x.2.1<y.2.1):=by simp [zd]
theorem qM: ∀{L:List Tri},ms L=true->L.Pairwise (fun x y=>GI x y=false)
 |[],_=>List.Pairwise.nil
 |x::r,h=>by
  simp only [ms,aD,aB,hS] at h
  exact gz.2 ⟨h.1,qM h.2⟩
theorem tm: ∀{L:List Tri},L.Pairwise (fun x y=>GI x y=false)->ms L=true
 |[],_=>rfl
 |x::r,h=>by
  obtain ⟨a,b⟩:=gz.1 h
  simp only [ms,aD,aB,hS]
  exact ⟨a,tm b⟩
theorem PH {x y:Tri}:GI x y=GI y x:=by
 unfold GI;congr 1;apply propext;constructor<;>rintro ⟨a,b⟩<;>exact ⟨a.symm,b.symm⟩
theorem a9A {L:List Tri} (h:ms L=true) {x y:Tri} (d:x∈L) (e:y∈L) (c:GI x y=true):x=y:=by
 f k:=qM h
 induction L with
 |nil=>cases d
 |cons z r ih=>
  obtain ⟨i,j⟩:=gz.1 k
  rcases b9.1 d with e1|b
  ·rcases b9.1 e with e2|a
   ·rw [e1,e2]
   ·rw [e1,i y a] at c;cases c
  ·rcases b9.1 e with e2|a
   ·rw [PH,e2,i x b] at c;cases c
   ·exact ih (tm j) b a j
theorem a60 {L L':List Tri} (a:L.Perm L') (h:ms L=true):ms L'=true:=
 tm (a.pairwise (qM h) (fun {x y} h=>by rw [PH];exact h))
theorem m8 (L:List Tri):(fV L).Perm L:=List.mergeSort_perm _ _
theorem Dv (L:List Tri):(fV L).Pairwise (fun x y=>zd y x=false):=by
 d:=List.pairwise_mergeSort (le:=fun x y:Tri=> !zd y x) (fun a b c e f=>by
  simp only [hS,zD] at*;omega) (fun a b=>by
  simp only [da,hS,zD];omega) L
 refine this.imp (fun h=> ?_)
 simpa using h
theorem D3 {L D:List Tri} (d:ms L=true) (c:D.Perm L) (e:D.Pairwise (fun x y=>zd y x=false)):D=fV L:=by
 refine List.Perm.eq_of_pairwise (le:=fun x y=>zd y x=false) (fun a b f h i j=> ?_) e (Dv L) (c.trans (m8 L).symm)
 refine a9A d (c.mem_iff.1 f) ((m8 L).mem_iff.1 h) ?_
 rw [zD] at i j
 simp only [GI,aC]
 omega
theorem a2l {L L':List Tri} (a:ms L=true) (b:L'.Perm L):fV L'=fV L:=D3 a ((m8 L').trans b) (Dv L')
end Go.AI
