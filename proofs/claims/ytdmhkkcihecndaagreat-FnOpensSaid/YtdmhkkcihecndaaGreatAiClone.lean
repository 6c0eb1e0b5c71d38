/- A function that returns a copy of a slice, nil for nil: told by its runs at nil, at an empty slice and at a slice with elements. -/
import Derived.Test.YtdmhkkcihecndaaGreatAiTop
set_option linter.unusedVariables false
namespace Go.AI
def KX (k:FuncId) (a:ah):Tab:=fun f=>if f=k then some (.code a) else none
def Oi:dg:=fun _=>[]
theorem Ia (k:FuncId) (a:ah):KX k a k=some (.code a):=by simp [KX]
theorem TC {P:Program} {k:FuncId} {a:ah} (h: ∃fn hn,P.funcs[k]? =some fn∧(fn.name== "runtime.NumGoroutine")=false∧tk P fn hn=some a):QV P (KX k a):=by
 refine ⟨fun f af hf=> ?_,fun f g hf=> ?_⟩
 ·unfold KX at hf
  split at hf
  ·rename_i e;cases hf;subst e;exact h
  ·cases hf
 ·unfold KX at hf
  split at hf
  ·cases hf
  ·cases hf
theorem a5z {T:Tab} {ow:dg} {f:FuncId} {g:List V→List Blk→Option (V×List Blk)} (hT:T f=some (.ext g)) (a:List V) (b:List Blk):Call T ow f a b=g a b:=by
 rw [a1y,hT]
def b2t (P:Program) (f:FuncId) (g:List V→List Blk→Option (V×List Blk)):Prop:=
 ∀args blks r blks',g args blks=some (r,blks')→ ∀(F:Frame) (μ:Mu) (w:World) (xs:Array Value), @aI F μ (bn blks) w→xs.size=args.length→
  (∀(i:Nat) (v:V),args[i]? =some v→ @au F μ (bn blks) w v (xs.getD i undef))→Reach P f xs w (jp F μ (bn blks) w r blks')
noncomputable def b7t (k:FuncId) (a:ah):List V→List Blk→Option (V×List Blk)
 |[.imm _ []],[]=>some (.imm 1 [],[])
 |[.imm e (r::rs)],[]=>Call (KX k a) Oi k [.imm e (r::rs)] []
 |_,_=>none
end Go.AI
namespace Go.AI
noncomputable def U6 (k:FuncId) (a:ah) (m:Nat):List V→List Blk→Option (V×List Blk)
 |[.imm _ []],[]=>some (.sl 0 0 0,[⟨m,false,[]⟩])
 |[.imm e (r::rs)],[]=>Call (KX k a) Oi k [.imm e (r::rs)] []
 |_,_=>none
theorem a2D {P:Program} {k:FuncId} {a:ah} {m:Nat} (h: ∃fn hn,P.funcs[k]? =some fn∧(fn.name== "runtime.NumGoroutine")=false∧tk P fn hn=some a)
 (hn: ∀cap, ∃n,kM a 0 (bE (cJ (KX k a) Oi n) Oi n a.body (start [.lit (.slice none 0 cap)] []))=some (.lit (.slice none 0 0),[]))
 (he: ∀ad cap,Call (KX k a) Oi k [.lit (.slice (some ad) 0 cap)] []=some (.sl 0 0 0,[⟨m,false,[]⟩])):
 ∀args blks r blks',U6 k a m args blks=some (r,blks')→ ∀(F:Frame) (μ:Mu) (w:World) (xs:Array Value), @aI F μ (bn blks) w→xs.size=args.length→
 (∀(i:Nat) (v:V),args[i]? =some v→ @au F μ (bn blks) w v (xs.getD i undef))→Reach P k xs w (jp F μ (bn blks) w r blks'):=by
 intro args blks r blks' hg F μ w xs H hl hv
 have hs:=N2 (ow:=Oi) (TC h)
 unfold U6 at hg
 split at hg
 ·cases hg
  have h0:=hv 0 _ rfl
  generalize hX:xs.getD 0 undef=X at h0
  have hlit: ∃ad cap,X= .slice ad 0 cap:=by
   cases h0 with
   |emp ad=>exact ⟨ad,0,rfl⟩
   |imm0 _ ad cap=>exact ⟨ad,cap,rfl⟩
   |imm _ _ _ _ _ _ _ hr=>exact absurd rfl hr
  obtain ⟨ad,cap,rfl⟩:=hlit
  have hv': ∀(i:Nat) (v:V),([.lit (.slice ad 0 cap)]:List V)[i]? =some v→ @au F μ (bn []) w v (xs.getD i undef):=by
   intro i v hi
   cases i with
   |zero=>simp at hi;subst hi;rw [hX];exact @au.lit F _ _ _ _
   |succ i=>simp at hi
  cases ad with
  |some ad=>exact hs k [.lit (.slice (some ad) 0 cap)] [] _ _ (he ad cap) F μ w xs H hl hv'
  |none=>
   obtain ⟨n,hn⟩:=hn cap
   have hp:=MW (ow:=Oi) (TC h) (Bp (TC h) n) (Ia k a) hn H hl hv'
   refine hp.mono (fun x w' hp=> ?_)
   obtain ⟨μ',H1,C1,V1,_,_⟩:=hp
   have hx:=cn V1
   subst hx
   have hb:bn [(⟨m,false,[]⟩:Blk)]=bt (bn []) 0 ⟨m,false,[]⟩:=by
    funext i
    unfold bt
    cases i<;>rfl
   obtain ⟨q1,q2⟩:= @aI.newNil F _ _ _ H1 0 m rfl
   refine ⟨μ',by rw [hb];exact q1,by rw [hb];exact @Chg.trans _ _ _ F _ _ _ _ _ _ C1 q2, ?_,rfl,fun k hk=>by simp at hk;subst hk;exact fun h=>by cases h⟩
   exact @au.sl F _ _ _ 0 0 0 _ ⟨m,false,[]⟩ rfl (.inr (Nat.le_refl _)) ⟨_,_,rfl⟩ (fun _ _=>⟨_,_,rfl,.inl ⟨rfl,rfl⟩⟩)
 ·exact hs k _ _ _ _ hg F μ w xs H hl hv
 ·cases hg
end Go.AI
