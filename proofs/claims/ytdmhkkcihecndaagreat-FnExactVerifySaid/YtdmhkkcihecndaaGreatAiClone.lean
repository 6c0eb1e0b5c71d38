/- A function that returns a copy of a slice, nil for nil: told by its runs at nil, at an empty slice and at a slice with elements. -/
import Derived.Test.YtdmhkkcihecndaaGreatAiTop
set_option linter.unusedVariables false
namespace Go.AI
def JG (k:FuncId) (a:ag):Tab:=fun f=>if f=k then some (.code a) else none
def KS:dl:=fun _=>[]
theorem H6 (k:FuncId) (a:ag):JG k a k=some (.code a):=by simp [JG]
theorem Sp {P:Program} {k:FuncId} {a:ag} (h: ∃fn hn,P.funcs[k]? =some fn∧(fn.name== "runtime.NumGoroutine")=false∧sJ P fn hn=some a):Qj P (JG k a):=by
 refine ⟨fun f af hf=> ?_,fun f g hf=> ?_⟩
 ·unfold JG at hf
  split at hf
  ·rename_i e;cases hf;subst e;exact h
  ·cases hf
 ·unfold JG at hf
  split at hf
  ·cases hf
  ·cases hf
theorem a3V {T:Tab} {ow:dl} {f:FuncId} {g:List V→List Blk→Option (V×List Blk)} (hT:T f=some (.ext g)) (a:List V) (b:List Blk):Call T ow f a b=g a b:=by
 rw [a0s,hT]
def b1M (P:Program) (f:FuncId) (g:List V→List Blk→Option (V×List Blk)):Prop:=
 ∀args blks r blks',g args blks=some (r,blks')→ ∀(F:Frame) (μ:Mu) (w:World) (xs:Array Value), @aE F μ (bf blks) w→xs.size=args.length→
  (∀(i:Nat) (v:V),args[i]? =some v→ @aj F μ (bf blks) w v (xs.getD i undef))→Reach P f xs w (ja F μ (bf blks) w r blks')
noncomputable def b6N (k:FuncId) (a:ag):List V→List Blk→Option (V×List Blk)
 |[.imm _ []],[]=>some (.imm 1 [],[])
 |[.imm e (r::rs)],[]=>Call (JG k a) KS k [.imm e (r::rs)] []
 |_,_=>none
end Go.AI
namespace Go.AI
noncomputable def SQ (k:FuncId) (a:ag) (m:Nat):List V→List Blk→Option (V×List Blk)
 |[.imm _ []],[]=>some (.sl 0 0 0,[⟨m,false,[]⟩])
 |[.imm e (r::rs)],[]=>Call (JG k a) KS k [.imm e (r::rs)] []
 |_,_=>none
theorem a2L {P:Program} {k:FuncId} {a:ag} {m:Nat} (h: ∃fn hn,P.funcs[k]? =some fn∧(fn.name== "runtime.NumGoroutine")=false∧sJ P fn hn=some a)
 (hn: ∀cap, ∃n,jN a 0 (bA (cJ (JG k a) KS n) KS n a.body (start [.lit (.slice none 0 cap)] []))=some (.lit (.slice none 0 0),[]))
 (he: ∀ad cap,Call (JG k a) KS k [.lit (.slice (some ad) 0 cap)] []=some (.sl 0 0 0,[⟨m,false,[]⟩])):
 ∀args blks r blks',SQ k a m args blks=some (r,blks')→ ∀(F:Frame) (μ:Mu) (w:World) (xs:Array Value), @aE F μ (bf blks) w→xs.size=args.length→
 (∀(i:Nat) (v:V),args[i]? =some v→ @aj F μ (bf blks) w v (xs.getD i undef))→Reach P k xs w (ja F μ (bf blks) w r blks'):=by
 intro args blks r blks' hg F μ w xs H hl hv
 have hs:=Km (ow:=KS) (Sp h)
 unfold SQ at hg
 split at hg
 ·cases hg
  have h0:=hv 0 _ rfl
  generalize hX:xs.getD 0 undef=X at h0
  have hlit: ∃ad cap,X= .slice ad 0 cap:=by
   cases h0 with
   |emp ad=>exact ⟨ad,0,rfl⟩
   |imm0 _ ad cap=>exact ⟨ad,cap,rfl⟩
   |imm _ _ _ _ _ _ _ hr=>exact absurd rfl hr
  obtain ⟨ad,cap,rfl⟩:=hlit
  have hv': ∀(i:Nat) (v:V),([.lit (.slice ad 0 cap)]:List V)[i]? =some v→ @aj F μ (bf []) w v (xs.getD i undef):=by
   intro i v hi
   cases i with
   |zero=>simp at hi;subst hi;rw [hX];exact @aj.lit F _ _ _ _
   |succ i=>simp at hi
  cases ad with
  |some ad=>exact hs k [.lit (.slice (some ad) 0 cap)] [] _ _ (he ad cap) F μ w xs H hl hv'
  |none=>
   obtain ⟨n,hn⟩:=hn cap
   have hp:=KA (ow:=KS) (Sp h) (AP (Sp h) n) (H6 k a) hn H hl hv'
   refine hp.mono (fun x w' hp=> ?_)
   obtain ⟨μ',H1,C1,V1,_,_⟩:=hp
   have hx:=cn V1
   subst hx
   have hb:bf [(⟨m,false,[]⟩:Blk)]=bj (bf []) 0 ⟨m,false,[]⟩:=by
    funext i
    unfold bj
    cases i<;>rfl
   obtain ⟨q1,q2⟩:= @aE.newNil F _ _ _ H1 0 m rfl
   refine ⟨μ',by rw [hb];exact q1,by rw [hb];exact @Chg.trans _ _ _ F _ _ _ _ _ _ C1 q2, ?_,rfl,fun k hk=>by simp at hk;subst hk;exact fun h=>by cases h⟩
   exact @aj.sl F _ _ _ 0 0 0 _ ⟨m,false,[]⟩ rfl (.inr (Nat.le_refl _)) ⟨_,_,rfl⟩ (fun _ _=>⟨_,_,rfl,.inl ⟨rfl,rfl⟩⟩)
 ·exact hs k _ _ _ _ hg F μ w xs H hl hv
 ·cases hg
end Go.AI
