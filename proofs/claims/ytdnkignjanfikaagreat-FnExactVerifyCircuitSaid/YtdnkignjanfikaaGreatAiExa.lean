/- A call that is handed no block: nothing that was there is turned by it. -/
import Derived.Test.YtdnkignjanfikaaGreatAiTop
import Derived.Sort.Grow
import Derived.Deep.Draws
set_option linter.unusedVariables false
namespace Go.AI
open Go.Sort
@[reducible] def Y6 (w:World):Frame:=⟨fun c=>c<w.heap.size⟩
theorem a6Z (w:World): @bD (Y6 w) Co (bL []) w:=
 @bD.mk (Y6 w) Co (bL []) w (fun b b' c h=>by cases h) (fun b c h=>by cases h) (fun b k h=>by simp [bL] at h) (fun b k h=>by simp [bL] at h) (fun b c h=>by cases h) (fun c h=>h)
theorem b3x {w w':World} (h1:w'.os=w.os) (h2:w'.tape=w.tape) (h3:w'.output=w.output) (h4:w.heap.size<=w'.heap.size) (h5:w.drawn<=w'.drawn) (h6: ∀c,c<w.heap.size->w'.heap[c]? =w.heap[c]?):
 ∃q os',w'=grow (w.drewN q) os':=by
 refine ⟨w'.drawn-w.drawn,w'.heap.extract w.heap.size w'.heap.size, ?_⟩
 have hh:w'.heap=w.heap++w'.heap.extract w.heap.size w'.heap.size:=by
  apply fh
  intro i
  rw [pu]
  split
  ·rename_i hi;exact h6 i hi
  ·rename_i hi
   rw [Array.getElem?_extract]
   by_cases hi2:i<w'.heap.size
   ·rw [ae (by omega),show w.heap.size+(i-w.heap.size)=i by omega]
   ·rw [aa (by omega),eK (by omega)]
 obtain ⟨heap,tape,drawn,os,output⟩:=w
 obtain ⟨heap',tape',drawn',os',output'⟩:=w'
 simp only at h1 h2 h3 h5 hh
 subst h1 h2 h3
 simp only [grow,World.drewN,World.mk.injEq,true_and,and_true]
 exact ⟨hh,by omega⟩
theorem b5j {P:Program} {T:Tab} {ow:en} (hT:A9 P T) {f:FuncId} {args:List V} {v:Value} (hc:Call T ow f args []=some (.lit v,[])) (eg: ∀args w,(callFunc f args).run P w= .ok (.enter f args) w)
 {xs:Array Value} (hl:xs.size=args.length) (hv: ∀(F:Frame) (μ:Mu) (h:aZ) (w:World) (i:Nat) (u:V),args[i]? =some u-> @aX F μ h w u (xs.getD i undef)) (w:World):
 Calls P f xs w fun e w'=>e= .returned v/\ ∃q os',w'=grow (w.drewN q) os':=by
 have h:=DV (ow:=ow) hT f args [] _ _ hc (Y6 w) Co w xs (a6Z w) hl (fun i u hi=>hv _ _ _ _ i u hi)
 rcases h with ⟨x,w',h1,_⟩|⟨_,h2⟩
 ·rw [eg] at h1;cases h1
 ·refine h2.mono (fun e w' he=> ?_)
  cases e with
  |returned x=>
   obtain ⟨μ',H1,C1,V1,_,_⟩:=he
   have hx:= @de _ _ _ (Y6 w) _ _ V1
   subst hx
   have ev:=Nl C1
   exact ⟨rfl,b3x (c2E ev) (a6C ev) (b6v ev) (YY ev) (a8b ev) (fun c hc=>Yh ev c hc)⟩
  |_=>exact he.elim
end Go.AI
