/- Part. -/
import Derived.Test.YtdnkignjanfikaaGreatAiTop
import Derived.Sort.Grow
import Derived.Deep.Draws
set_option linter.unusedVariables false
namespace Go.AI
open Go.Sort
@[reducible] def YF (w:World):Frame:=⟨fun c=>c<w.heap.size⟩
theorem a5l (w:World): @bB (YF w) Cg (bJ []) w:=
 @bB.mk (YF w) Cg (bJ []) w (fun b b' c h=>by cases h) (fun b c h=>by cases h) (fun b k h=>by simp [bJ] at h) (fun b k h=>by simp [bJ] at h) (fun b c h=>by cases h) (fun c h=>h)
theorem b1p {w w':World} (b:w'.os=w.os) (d:w'.tape=w.tape) (e:w'.output=w.output) (m:w.heap.size<=w'.heap.size) (j:w.drawn<=w'.drawn) (k: ∀c,c<w.heap.size->w'.heap[c]? =w.heap[c]?):
 ∃q os',w'=grow (w.drewN q) os':=by
 refine ⟨w'.drawn-w.drawn,w'.heap.extract w.heap.size w'.heap.size, ?_⟩
 f h:w'.heap=w.heap++w'.heap.extract w.heap.size w'.heap.size:=by
   apply fb
   intro i
   rw [oY]
   split
   ·rename_i hi;exact k i hi
   ·rename_i hi
    rw [Array.getElem?_extract]
    by_cases l:i<w'.heap.size
    ·rw [ae (by omega),show w.heap.size+(i-w.heap.size)=i by omega]
    ·rw [aa (by omega),eQ (by omega)]
 obtain ⟨heap,tape,drawn,os,output⟩:=w
 obtain ⟨a,tape',drawn',os',output'⟩:=w'
 simp only at b d e j h
 subst b d e
 simp only [grow,World.drewN,World.mk.injEq,true_and,and_true]
 exact ⟨h,by omega⟩
theorem b4P {P:Program} {T:Tab} {ow:ec} (k:Ad P T) {f:FuncId} {args:List V} {v:Value} (b:Call T ow f args []=some (.lit v,[])) (eg: ∀args w,(callFunc f args).run P w= .ok (.enter f args) w)
 {xs:Array Value} (l:xs.size=args.length) (m: ∀(F:Frame) (μ:Mu) (h:b8) (w:World) (i:Nat) (u:V),args[i]? =some u-> @aY F μ h w u (xs.getD i undef)) (w:World):
 Calls P f xs w fun e w'=>e= .returned v/\ ∃q os',w'=grow (w.drewN q) os':=by
 a h:=Db (ow:=ow) k f args [] _ _ b (YF w) Cg w xs (a5l w) l (fun i u hi=>m _ _ _ _ i u hi)
 rcases h with ⟨x,w',d,_⟩|⟨_,n⟩
 ·rw [eg] at d;cases d
 ·refine n.mono (fun e w' j=> ?_)
  cases e with
  |returned x=>
   obtain ⟨μ',H1,C1,V1,_,_⟩:=j
   a o:= @de _ _ _ (YF w) _ _ V1
   subst o
   a ev:=Mh C1
   exact ⟨rfl,b1p (c64 ev) (a5Z ev) (b6f ev) (XY ev) (a7f ev) (fun c b=>Xw ev c b)⟩
  |_=>exact j.elim
end Go.AI
