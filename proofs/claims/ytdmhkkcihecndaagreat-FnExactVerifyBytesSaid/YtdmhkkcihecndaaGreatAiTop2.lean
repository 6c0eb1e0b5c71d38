/- What an argument can be, told by its type. -/
import Derived.Test.YtdmhkkcihecndaaGreatAiTop
set_option linter.unusedVariables false
namespace Go.AI
section
variable {H:Type} {P:Program}
theorem SY {n:Nat} {t:TypeId} {d:DataW H} {vs:List V} {k:IntKind} (hu:P.underlying t=some (.int k)) (h:bG P (n+1) t d=some vs): ∃m,vs=[.lit (.int k m)]∧(Lit.int k m).wf=true∧d= .lit (.int k m):=by
 cases d with
 |lit l=>
  cases l with
  |int k' m=>
   simp [bG,hu] at h
   obtain ⟨⟨rfl,hw⟩,rfl⟩:=h
   exact ⟨m,rfl,hw,rfl⟩
  |_=>simp [bG,hu] at h
 |_=>simp [bG,hu] at h
theorem qP {g:TypeId→DataW H→Option (List V)} {ds:List (DataW H)} {vs:List V} (h:mX g [] ds=some vs):ds=[]∧vs=[]:=by
 cases ds with
 |nil=>simp [mX] at h;exact ⟨rfl,h⟩
 |cons a b=>simp [mX] at h
theorem bH {g:TypeId→DataW H→Option (List V)} {f:Field} {fs:List Field} {ds:List (DataW H)} {vs:List V} (h:mX g (f::fs) ds=some vs):
 ∃d ds' a b,ds=d::ds'∧g f.type d=some a∧mX g fs ds'=some b∧vs=a++b:=by
 cases ds with
 |nil=>simp [mX] at h
 |cons d ds'=>
  simp only [mX] at h
  split at h
  ·rename_i a b h1 h2
   cases h
   exact ⟨d,ds',a,b,rfl,h1,h2,rfl⟩
  ·cases h
theorem o0 {n:Nat} {t:TypeId} {d:DataW H} {vs:List V} {fs:Array Field} (hu:P.underlying t=some (.struct fs)) (h:bG P (n+1) t d=some vs): ∃ps,d= .agg ps∧mX (bG P n) fs.toList ps=some vs:=by
 cases d with
 |agg ps=>
  simp [bG,hu] at h
  exact ⟨ps,rfl,h⟩
 |_=>simp [bG,hu] at h
theorem Zf {n:Nat} {t:TypeId} {d:DataW H} {v:V} {fs:Array Field} (hu:P.underlying t=some (.struct fs)) (h:NN P n t d=some v): ∃vs,v= .agg vs∧bG P n t d=some vs:=by
 unfold NN at h
 split at h
 ·rename_i vs hd
  rw [hu] at h
  cases h
  exact ⟨vs,rfl,hd⟩
 ·cases h
theorem a5K {n:Nat} {ds:List (DataW H)} {vs:List V} (h:Ah P n [] ds=some vs):ds=[]∧vs=[]:=by
 cases ds with
 |nil=>simp [Ah] at h;exact ⟨rfl,h⟩
 |cons a b=>simp [Ah] at h
theorem uE {n:Nat} {t:TypeId} {ts:List TypeId} {ds:List (DataW H)} {vs:List V} (h:Ah P n (t::ts) ds=some vs):
 ∃d ds' a b,ds=d::ds'∧NN P n t d=some a∧Ah P n ts ds'=some b∧vs=a::b:=by
 cases ds with
 |nil=>simp [Ah] at h
 |cons d ds'=>
  simp only [Ah] at h
  split at h
  ·rename_i a b h1 h2
   cases h
   exact ⟨d,ds',a,b,rfl,h1,h2,rfl⟩
  ·cases h
end
end Go.AI
