/- A function that returns a copy of a slice, nil for nil: told by its runs at nil, at an empty slice and at a slice with elements. -/
import Derived.Test.YtdmhkkcihecndaaGreatAiTop
set_option linter.unusedVariables false
namespace Go.AI
def IQ (k:FuncId) (a:ah):Tab:=fun f=>if f=k then some (.code a) else none
def KR:cY:=fun _=>[]
theorem FO (k:FuncId) (a:ah):IQ k a k=some (.code a):=by simp [IQ]
theorem PB {P:Program} {k:FuncId} {a:ah} (h: ∃fn hn,P.funcs[k]? =some fn∧(fn.name== "runtime.NumGoroutine")=false∧sD P fn hn=some a):OY P (IQ k a):=by
 refine ⟨fun f af hf=> ?_,fun f g hf=> ?_⟩
 ·unfold IQ at hf
  split at hf
  ·rename_i e;cases hf;subst e;exact h
  ·cases hf
 ·unfold IQ at hf
  split at hf
  ·cases hf
  ·cases hf
theorem Z7 {T:Tab} {ow:cY} {f:FuncId} {g:List V→List Blk→Option (V×List Blk)} (hT:T f=some (.ext g)) (a:List V) (b:List Blk):Call T ow f a b=g a b:=by
 rw [Wl,hT]
def a4e (P:Program) (f:FuncId) (g:List V→List Blk→Option (V×List Blk)):Prop:=
 ∀args blks r blks',g args blks=some (r,blks')→ ∀(F:Frame) (μ:Mu) (w:World) (xs:Array Value), @aH F μ (bm blks) w→xs.size=args.length→
  (∀(i:Nat) (v:V),args[i]? =some v→ @aq F μ (bm blks) w v (xs.getD i undef))→Reach P f xs w (jr F μ (bm blks) w r blks')
noncomputable def a8e (k:FuncId) (a:ah):List V→List Blk→Option (V×List Blk)
 |[.imm _ []],[]=>some (.imm 1 [],[])
 |[.imm e (r::rs)],[]=>Call (IQ k a) KR k [.imm e (r::rs)] []
 |_,_=>none
end Go.AI
namespace Go.AI
noncomputable def QU (k:FuncId) (a:ah) (m:Nat):List V→List Blk→Option (V×List Blk)
 |[.imm _ []],[]=>some (.sl 0 0 0,[⟨m,false,[]⟩])
 |[.imm e (r::rs)],[]=>Call (IQ k a) KR k [.imm e (r::rs)] []
 |_,_=>none
theorem YC {P:Program} {k:FuncId} {a:ah} {m:Nat} (h: ∃fn hn,P.funcs[k]? =some fn∧(fn.name== "runtime.NumGoroutine")=false∧sD P fn hn=some a)
 (hn: ∀cap, ∃n,kh a 0 (bD (cG (IQ k a) KR n) KR n a.body (start [.lit (.slice none 0 cap)] []))=some (.lit (.slice none 0 0),[]))
 (he: ∀ad cap,Call (IQ k a) KR k [.lit (.slice (some ad) 0 cap)] []=some (.sl 0 0 0,[⟨m,false,[]⟩])):
 ∀args blks r blks',QU k a m args blks=some (r,blks')→ ∀(F:Frame) (μ:Mu) (w:World) (xs:Array Value), @aH F μ (bm blks) w→xs.size=args.length→
 (∀(i:Nat) (v:V),args[i]? =some v→ @aq F μ (bm blks) w v (xs.getD i undef))→Reach P k xs w (jr F μ (bm blks) w r blks'):=by
 intro args blks r blks' hg F μ w xs H hl hv
 have hs:=Ku (ow:=KR) (PB h)
 unfold QU at hg
 split at hg
 ·cases hg
  have h0:=hv 0 _ rfl
  generalize hX:xs.getD 0 undef=X at h0
  have hlit: ∃ad cap,X= .slice ad 0 cap:=by
   cases h0 with
   |emp ad=>exact ⟨ad,0,rfl⟩
   |imm0 _ ad cap=>exact ⟨ad,cap,rfl⟩
   |imm _ _ _ _ _ _ _ hr=>exact absurd rfl hr
  obtain ⟨ad,cap,rfl⟩:=hlit
  have hv': ∀(i:Nat) (v:V),([.lit (.slice ad 0 cap)]:List V)[i]? =some v→ @aq F μ (bm []) w v (xs.getD i undef):=by
   intro i v hi
   cases i with
   |zero=>simp at hi;subst hi;rw [hX];exact @aq.lit F _ _ _ _
   |succ i=>simp at hi
  cases ad with
  |some ad=>exact hs k [.lit (.slice (some ad) 0 cap)] [] _ _ (he ad cap) F μ w xs H hl hv'
  |none=>
   obtain ⟨n,hn⟩:=hn cap
   have hp:=Kv (ow:=KR) (PB h) (yZ (PB h) n) (FO k a) hn H hl hv'
   refine hp.mono (fun x w' hp=> ?_)
   obtain ⟨μ',H1,C1,V1,_,_⟩:=hp
   have hx:=ck V1
   subst hx
   have hb:bm [(⟨m,false,[]⟩:Blk)]=bq (bm []) 0 ⟨m,false,[]⟩:=by
    funext i
    unfold bq
    cases i<;>rfl
   obtain ⟨q1,q2⟩:= @aH.newNil F _ _ _ H1 0 m rfl
   refine ⟨μ',by rw [hb];exact q1,by rw [hb];exact @Chg.trans _ _ _ F _ _ _ _ _ _ C1 q2, ?_,rfl,fun k hk=>by simp at hk;subst hk;exact fun h=>by cases h⟩
   exact @aq.sl F _ _ _ 0 0 0 _ ⟨m,false,[]⟩ rfl (.inr (Nat.le_refl _)) ⟨_,_,rfl⟩ (fun _ _=>⟨_,_,rfl,.inl ⟨rfl,rfl⟩⟩)
 ·exact hs k _ _ _ _ hg F μ w xs H hl hv
 ·cases hg
end Go.AI
