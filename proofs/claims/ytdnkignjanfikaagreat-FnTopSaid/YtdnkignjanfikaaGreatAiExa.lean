/- Part. -/
import Derived.Test.YtdnkignjanfikaaGreatAiTop
import Derived.Sort.Grow
import Derived.Deep.Draws
set_option linter.unusedVariables false
namespace Go.AI
open Go.Sort
@[reducible] def Xy (w:World):Frame:=⟨fun c=>c<w.heap.size⟩
theorem a4s (w:World): @bG (Xy w) CQ (bT []) w:=
 @bG.mk (Xy w) CQ (bT []) w (fun b b' c h=>by cases h) (fun b c h=>by cases h) (fun b k h=>by simp [bT] at h) (fun b k h=>by simp [bT] at h) (fun b c h=>by cases h) (fun c h=>h)
theorem a9V {w w':World} (b:w'.os=w.os) (d:w'.tape=w.tape) (e:w'.output=w.output) (l:w.heap.size<=w'.heap.size) (h:w.drawn<=w'.drawn) (j: ∀c,c<w.heap.size->w'.heap[c]? =w.heap[c]?):
 ∃q os',w'=grow (w.drewN q) os':=by
 refine ⟨w'.drawn-w.drawn,w'.heap.extract w.heap.size w'.heap.size, ?_⟩
 have f:w'.heap=w.heap++w'.heap.extract w.heap.size w'.heap.size:=by
  apply fS
  intro i
  rw [sG]
  split
  ·rename_i hi;exact j i hi
  ·rename_i hi
   rw [Array.getElem?_extract]
   by_cases k:i<w'.heap.size
   ·rw [aa om,show w.heap.size+(i-w.heap.size)=i by omega]
   ·rw [a7 om,fG om]
 obtain ⟨heap,tape,drawn,os,output⟩:=w
 obtain ⟨a,tape',drawn',os',output'⟩:=w'
 simp only at b d e h f
 subst b d e
 simp only [grow,World.drewN,World.mk.injEq,true_and,and_true]
 exact ⟨f,by omega⟩
theorem a9N {P:Program} {T:Tab} {ow:ff} (d:Bn P T) {f:FuncId} {args:List V} {v:Value} (hc:Call T ow f args []=some (.lit v,[])) (eg: ∀args w,(callFunc f args).run P w= .ok (.enter f args) w)
 {xs:Array Value} (j:xs.size=args.length) (k: ∀(F:Frame) (μ:Mu) (h:ba) (w:World) (i:Nat) (u:V),args[i]? =some u-> @b7 F μ h w u (xs.getD i undef)) (w:World):
 Calls P f xs w fun e w'=>e= .returned v/\ ∃q os',w'=grow (w.drewN q) os':=by
 have h:=DQ (ow:=ow) d f args [] _ _ hc (Xy w) CQ w xs (a4s w) j (fun i u hi=>k _ _ _ _ i u hi)
 rcases h with ⟨x,w',a,_⟩|⟨_,l⟩
 ·rw [eg] at a;cases a
 ·refine l.mono (fun e w' b=> ?_)
  cases e with
  |returned x=>
   obtain ⟨μ',H1,C1,V1,_,_⟩:=b
   have m:= @dw _ _ _ (Xy w) _ _ V1
   subst m
   have ev:=NS C1
   exact ⟨rfl,a9V (c1K ev) (a1T ev) (b1q ev) (VT ev) (a5N ev) (fun c hc=>WE ev c hc)⟩
  |_=>exact b.elim
end Go.AI
