/- Part. -/
import Derived.Test.YtdnkignjanfikaaGreatAiTop
import Derived.Sort.Grow
import Derived.Deep.Draws
set_option linter.unusedVariables false
namespace Go.AI
open Go.Sort
@[reducible] def Yf (w:World):Frame:=⟨fun c=>c<w.heap.size⟩
theorem a5D (w:World): @bB (Yf w) Cl (bJ []) w:=
 @bB.mk (Yf w) Cl (bJ []) w (fun b b' c h=>by cases h) (fun b c h=>by cases h) (fun b k h=>by simp [bJ] at h) (fun b k h=>by simp [bJ] at h) (fun b c h=>by cases h) (fun c h=>h)
theorem b5a {w w':World} (b:w'.os=w.os) (d:w'.tape=w.tape) (e:w'.output=w.output) (l:w.heap.size<=w'.heap.size) (h:w.drawn<=w'.drawn) (j: ∀c,c<w.heap.size->w'.heap[c]? =w.heap[c]?):
 ∃q os',w'=grow (w.drewN q) os':=by
 refine ⟨w'.drawn-w.drawn,w'.heap.extract w.heap.size w'.heap.size, ?_⟩
 have f:w'.heap=w.heap++w'.heap.extract w.heap.size w'.heap.size:=by
  apply fe
  intro i
  rw [oW]
  split
  ·rename_i hi;exact j i hi
  ·rename_i hi
   rw [Array.getElem?_extract]
   by_cases k:i<w'.heap.size
   ·rw [ae (by omega),show w.heap.size+(i-w.heap.size)=i by omega]
   ·rw [aa (by omega),eK (by omega)]
 obtain ⟨heap,tape,drawn,os,output⟩:=w
 obtain ⟨a,tape',drawn',os',output'⟩:=w'
 simp only at b d e h f
 subst b d e
 simp only [grow,World.drewN,World.mk.injEq,true_and,and_true]
 exact ⟨f,by omega⟩
theorem b5L {P:Program} {T:Tab} {ow:ec} (d:zY P T) {f:FuncId} {args:List V} {v:Value} (hc:Call T ow f args []=some (.lit v,[])) (eg: ∀args w,(callFunc f args).run P w= .ok (.enter f args) w)
 {xs:Array Value} (j:xs.size=args.length) (k: ∀(F:Frame) (μ:Mu) (h:b8) (w:World) (i:Nat) (u:V),args[i]? =some u-> @aY F μ h w u (xs.getD i undef)) (w:World):
 Calls P f xs w fun e w'=>e= .returned v/\ ∃q os',w'=grow (w.drewN q) os':=by
 have h:=CP (ow:=ow) d f args [] _ _ hc (Yf w) Cl w xs (a5D w) j (fun i u hi=>k _ _ _ _ i u hi)
 rcases h with ⟨x,w',a,_⟩|⟨_,l⟩
 ·rw [eg] at a;cases a
 ·refine l.mono (fun e w' b=> ?_)
  cases e with
  |returned x=>
   obtain ⟨μ',H1,C1,V1,_,_⟩:=b
   have m:= @dd _ _ _ (Yf w) _ _ V1
   subst m
   have ev:=MI C1
   exact ⟨rfl,b5a (c4u ev) (a5l ev) (b5q ev) (Wz ev) (a7K ev) (fun c hc=>WN ev c hc)⟩
  |_=>exact b.elim
end Go.AI
