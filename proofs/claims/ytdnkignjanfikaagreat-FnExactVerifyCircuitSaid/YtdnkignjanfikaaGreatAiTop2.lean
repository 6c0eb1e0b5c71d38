/- Part. -/
import Derived.Test.YtdnkignjanfikaaGreatAiTop
set_option linter.unusedVariables false
namespace Go.AI
section
variable {H:Type} {P:Program}
theorem b0J {n:Nat} {t:TypeId} {d:DataW H} {vs:List V} {k:IntKind} (a:P.underlying t=some (.int k)) (h:dE P (n+1) t d=some vs): ∃m,vs=[.lit (.int k m)]/\(Lit.int k m).wf=true/\d= .lit (.int k m):=by
 cases d with
 |lit l=>
  cases l with
  |int k' m=>
   simp [dE,a] at h
   obtain ⟨⟨rfl,b⟩,rfl⟩:=h
   exact ⟨m,rfl,b,rfl⟩
  |_=>simp [dE,a] at h
 |_=>simp [dE,a] at h
theorem lV {g:TypeId->DataW H->Option (List V)} {ds:List (DataW H)} {vs:List V} (h:qh g [] ds=some vs):ds=[]/\vs=[]:=by
 cases ds with
 |nil=>simp [qh] at h;exact ⟨rfl,h⟩
 |cons a b=>simp [qh] at h
theorem bL {g:TypeId->DataW H->Option (List V)} {f:Field} {fs:List Field} {ds:List (DataW H)} {vs:List V} (h:qh g (f::fs) ds=some vs):
 ∃d ds' a b,ds=d::ds'/\g f.type d=some a/\qh g fs ds'=some b/\vs=a++b:=by
 cases ds with
 |nil=>simp [qh] at h
 |cons d ds'=>
  simp only [qh] at h
  split at h
  ·rename_i a b c e
   cases h
   exact ⟨d,ds',a,b,rfl,c,e,rfl⟩
  ·cases h
theorem km {n:Nat} {t:TypeId} {d:DataW H} {vs:List V} {fs:Array Field} (a:P.underlying t=some (.struct fs)) (h:dE P (n+1) t d=some vs): ∃ps,d= .agg ps/\qh (dE P n) fs.toList ps=some vs:=by
 cases d with
 |agg ps=>
  simp [dE,a] at h
  exact ⟨ps,rfl,h⟩
 |_=>simp [dE,a] at h
theorem a2w {n:Nat} {t:TypeId} {d:DataW H} {v:V} {fs:Array Field} (a:P.underlying t=some (.struct fs)) (h:Xm P n t d=some v): ∃vs,v= .agg vs/\dE P n t d=some vs:=by
 unfold Xm at h
 split at h
 ·rename_i vs b
  rw [a] at h
  cases h
  exact ⟨vs,rfl,b⟩
 ·cases h
theorem a8p {n:Nat} {ds:List (DataW H)} {vs:List V} (h:El P n [] ds=some vs):ds=[]/\vs=[]:=by
 cases ds with
 |nil=>simp [El] at h;exact ⟨rfl,h⟩
 |cons a b=>simp [El] at h
theorem yn {n:Nat} {t:TypeId} {ts:List TypeId} {ds:List (DataW H)} {vs:List V} (h:El P n (t::ts) ds=some vs):
 ∃d ds' a b,ds=d::ds'/\Xm P n t d=some a/\El P n ts ds'=some b/\vs=a::b:=by
 cases ds with
 |nil=>simp [El] at h
 |cons d ds'=>
  simp only [El] at h
  split at h
  ·rename_i a b c e
   cases h
   exact ⟨d,ds',a,b,rfl,c,e,rfl⟩
  ·cases h
end
end Go.AI
