/- What an argument can be, told by its type. -/
import Derived.Test.YtgjlndaebhaciaaAiTop
set_option linter.unusedVariables false
namespace Go.AI
section
variable {H:Type} {P:Program}
theorem pl {n:Nat} {t:TypeId} {d:DataW H} {vs:List V} {k:IntKind} (hu:P.underlying t=some (.int k)) (h:aY P (n+1) t d=some vs): ∃m,vs=[.lit (.int k m)]∧(Lit.int k m).wf=true∧d= .lit (.int k m):=by
 cases d with
 |lit l=>
  cases l with
  |int k' m=>
   simp [aY,hu] at h
   obtain ⟨⟨rfl,hw⟩,rfl⟩:=h
   exact ⟨m,rfl,hw,rfl⟩
  |_=>simp [aY,hu] at h
 |_=>simp [aY,hu] at h
theorem qh {g:TypeId→DataW H→Option (List V)} {ds:List (DataW H)} {vs:List V} (h:eR g [] ds=some vs):ds=[]∧vs=[]:=by
 cases ds with
 |nil=>simp [eR] at h;exact ⟨rfl,h⟩
 |cons a b=>simp [eR] at h
theorem fS {g:TypeId→DataW H→Option (List V)} {f:Field} {fs:List Field} {ds:List (DataW H)} {vs:List V} (h:eR g (f::fs) ds=some vs):
 ∃d ds' a b,ds=d::ds'∧g f.type d=some a∧eR g fs ds'=some b∧vs=a++b:=by
 cases ds with
 |nil=>simp [eR] at h
 |cons d ds'=>
  simp only [eR] at h
  split at h
  ·rename_i a b h1 h2
   cases h
   exact ⟨d,ds',a,b,rfl,h1,h2,rfl⟩
  ·cases h
theorem oO {n:Nat} {t:TypeId} {d:DataW H} {vs:List V} {fs:Array Field} (hu:P.underlying t=some (.struct fs)) (h:aY P (n+1) t d=some vs): ∃ps,d= .agg ps∧eR (aY P n) fs.toList ps=some vs:=by
 cases d with
 |agg ps=>
  simp [aY,hu] at h
  exact ⟨ps,rfl,h⟩
 |_=>simp [aY,hu] at h
theorem yk {n:Nat} {t:TypeId} {d:DataW H} {v:V} {fs:Array Field} (hu:P.underlying t=some (.struct fs)) (h:pz P n t d=some v): ∃vs,v= .agg vs∧aY P n t d=some vs:=by
 unfold pz at h
 split at h
 ·rename_i vs hd
  rw [hu] at h
  cases h
  exact ⟨vs,rfl,hd⟩
 ·cases h
theorem Se {n:Nat} {t:TypeId} {d:DataW H} {v:V} {k:IntKind} (hu:P.underlying t=some (.int k)) (h:pz P (n+1) t d=some v): ∃m,v= .lit (.int k m)∧(Lit.int k m).wf=true∧d= .lit (.int k m):=by
 unfold pz at h
 split at h
 ·rename_i vs hd
  rw [hu] at h
  obtain ⟨m,rfl,h1,h2⟩:=pl hu hd
  cases h
  exact ⟨m,rfl,h1,h2⟩
 ·cases h
theorem DZ {n:Nat} {ds:List (DataW H)} {vs:List V} (h:lw P n [] ds=some vs):ds=[]∧vs=[]:=by
 cases ds with
 |nil=>simp [lw] at h;exact ⟨rfl,h⟩
 |cons a b=>simp [lw] at h
theorem B1 {n:Nat} {t:TypeId} {ts:List TypeId} {ds:List (DataW H)} {vs:List V} (h:lw P n (t::ts) ds=some vs):
 ∃d ds' a b,ds=d::ds'∧pz P n t d=some a∧lw P n ts ds'=some b∧vs=a::b:=by
 cases ds with
 |nil=>simp [lw] at h
 |cons d ds'=>
  simp only [lw] at h
  split at h
  ·rename_i a b h1 h2
   cases h
   exact ⟨d,ds',a,b,rfl,h1,h2,rfl⟩
  ·cases h
end
end Go.AI
