/- A function that returns a copy of a slice, nil for nil: told by its runs at nil, at an empty slice and at a slice with elements. -/
import Derived.Test.YtnfkfhedladdaaaAiTop
set_option linter.unusedVariables false
namespace Go.AI

/-- The table of one function alone. -/
def oneT (k : FuncId) (a : AFunc) : Tab := fun f => if f = k then some (.code a) else none
def noOw : Owns := fun _ => []
theorem oneT_self (k : FuncId) (a : AFunc) : oneT k a k = some (.code a) := by simp [oneT]
theorem oneT_ok {P : Program} {k : FuncId} {a : AFunc} (h : ∃ fn hn, P.funcs[k]? = some fn ∧ (fn.name == "runtime.NumGoroutine") = false ∧ compFunc P fn hn = some a) : TabOK P (oneT k a) := by
  refine ⟨fun f af hf => ?_, fun f g hf => ?_⟩
  · unfold oneT at hf
    split at hf
    · rename_i e; cases hf; subst e; exact h
    · cases hf
  · unfold oneT at hf
    split at hf
    · cases hf
    · cases hf

theorem Call_ext {T : Tab} {ow : Owns} {f : FuncId} {g : List V → List Blk → Option (V × List Blk)} (hT : T f = some (.ext g)) (a : List V) (b : List Blk) : Call T ow f a b = g a b := by
  rw [Call_eq, hT]

/-- What a word of the machine's own must be. -/
def ExtOK (P : Program) (f : FuncId) (g : List V → List Blk → Option (V × List Blk)) : Prop :=
  ∀ args blks r blks', g args blks = some (r, blks') → ∀ (F : Frame) (μ : Mu) (w : World) (xs : Array Value), @HRel F μ (bheap blks) w → xs.size = args.length →
    (∀ (i : Nat) (v : V), args[i]? = some v → @VRel F μ (bheap blks) w v (xs.getD i undef)) → Reach P f xs w (PostOK F μ (bheap blks) w r blks')

/-- The copy, as a word of the machine. -/
noncomputable def cloneG (k : FuncId) (a : AFunc) : List V → List Blk → Option (V × List Blk)
  | [.imm _ []], [] => some (.imm 1 [], [])
  | [.imm e (r :: rs)], [] => Call (oneT k a) noOw k [.imm e (r :: rs)] []
  | _, _ => none

theorem clone_ok {P : Program} {k : FuncId} {a : AFunc} (h : ∃ fn hn, P.funcs[k]? = some fn ∧ (fn.name == "runtime.NumGoroutine") = false ∧ compFunc P fn hn = some a)
    (he : ∀ ad cap, Call (oneT k a) noOw k [.lit (.slice ad 0 cap)] [] = some (.imm 1 [], [])) :
    ∀ args blks r blks', cloneG k a args blks = some (r, blks') → ∀ (F : Frame) (μ : Mu) (w : World) (xs : Array Value), @HRel F μ (bheap blks) w → xs.size = args.length →
    (∀ (i : Nat) (v : V), args[i]? = some v → @VRel F μ (bheap blks) w v (xs.getD i undef)) → Reach P k xs w (PostOK F μ (bheap blks) w r blks') := by
  intro args blks r blks' hg F μ w xs H hl hv
  have hs := Call_sound (ow := noOw) (oneT_ok h)
  unfold cloneG at hg
  split at hg
  · cases hg
    have h0 := hv 0 _ rfl
    generalize hX : xs.getD 0 undef = X at h0
    have hlit : ∃ ad cap, X = .slice ad 0 cap := by
      cases h0 with
      | emp ad => exact ⟨ad, 0, rfl⟩
      | imm0 _ ad cap => exact ⟨ad, cap, rfl⟩
      | imm _ _ _ _ _ _ _ hr => exact absurd rfl hr
    obtain ⟨ad, cap, rfl⟩ := hlit
    refine hs k [.lit (.slice ad 0 cap)] [] _ _ (he ad cap) F μ w xs H hl (fun i v hi => ?_)
    cases i with
    | zero => simp at hi; subst hi; rw [hX]; exact @VRel.lit F _ _ _ _
    | succ i => simp at hi
  · exact hs k _ _ _ _ hg F μ w xs H hl hv
  · cases hg
end Go.AI
namespace Go.AI
/-- The copy, as a slice of the callers' own. -/
noncomputable def cloneO (k : FuncId) (a : AFunc) (m : Nat) : List V → List Blk → Option (V × List Blk)
  | [.imm _ []], [] => some (.sl 0 0 0, [⟨m, false, []⟩])
  | [.imm e (r :: rs)], [] => Call (oneT k a) noOw k [.imm e (r :: rs)] []
  | _, _ => none

theorem cloneO_ok {P : Program} {k : FuncId} {a : AFunc} {m : Nat} (h : ∃ fn hn, P.funcs[k]? = some fn ∧ (fn.name == "runtime.NumGoroutine") = false ∧ compFunc P fn hn = some a)
    (hn : ∀ cap, ∃ n, finish a 0 (exec (callN (oneT k a) noOw n) noOw n a.body (start [.lit (.slice none 0 cap)] [])) = some (.lit (.slice none 0 0), []))
    (he : ∀ ad cap, Call (oneT k a) noOw k [.lit (.slice (some ad) 0 cap)] [] = some (.sl 0 0 0, [⟨m, false, []⟩])) :
    ∀ args blks r blks', cloneO k a m args blks = some (r, blks') → ∀ (F : Frame) (μ : Mu) (w : World) (xs : Array Value), @HRel F μ (bheap blks) w → xs.size = args.length →
    (∀ (i : Nat) (v : V), args[i]? = some v → @VRel F μ (bheap blks) w v (xs.getD i undef)) → Reach P k xs w (PostOK F μ (bheap blks) w r blks') := by
  intro args blks r blks' hg F μ w xs H hl hv
  have hs := Call_sound (ow := noOw) (oneT_ok h)
  unfold cloneO at hg
  split at hg
  · cases hg
    have h0 := hv 0 _ rfl
    generalize hX : xs.getD 0 undef = X at h0
    have hlit : ∃ ad cap, X = .slice ad 0 cap := by
      cases h0 with
      | emp ad => exact ⟨ad, 0, rfl⟩
      | imm0 _ ad cap => exact ⟨ad, cap, rfl⟩
      | imm _ _ _ _ _ _ _ hr => exact absurd rfl hr
    obtain ⟨ad, cap, rfl⟩ := hlit
    have hv' : ∀ (i : Nat) (v : V), ([.lit (.slice ad 0 cap)] : List V)[i]? = some v → @VRel F μ (bheap []) w v (xs.getD i undef) := by
      intro i v hi
      cases i with
      | zero => simp at hi; subst hi; rw [hX]; exact @VRel.lit F _ _ _ _
      | succ i => simp at hi
    cases ad with
    | some ad => exact hs k [.lit (.slice (some ad) 0 cap)] [] _ _ (he ad cap) F μ w xs H hl hv'
    | none =>
      obtain ⟨n, hn⟩ := hn cap
      have hp := callN_core (ow := noOw) (oneT_ok h) (callN_sound (oneT_ok h) n) (oneT_self k a) hn H hl hv'
      refine hp.mono (fun x w' hp => ?_)
      obtain ⟨μ', H1, C1, V1, _, _⟩ := hp
      have hx := lit_inv V1
      subst hx
      have hb : bheap [(⟨m, false, []⟩ : Blk)] = hset (bheap []) 0 ⟨m, false, []⟩ := by
        funext i
        unfold hset
        cases i <;> rfl
      obtain ⟨q1, q2⟩ := @HRel.newNil F _ _ _ H1 0 m rfl
      refine ⟨μ', by rw [hb]; exact q1, by rw [hb]; exact @Chg.trans _ _ _ F _ _ _ _ _ _ C1 q2, ?_, rfl, fun k hk => by simp at hk; subst hk; exact fun h => by cases h⟩
      exact @VRel.sl F _ _ _ 0 0 0 _ ⟨m, false, []⟩ rfl (.inr (Nat.le_refl _)) ⟨_, _, rfl⟩ (fun _ _ => ⟨_, _, rfl, .inl ⟨rfl, rfl⟩⟩)
  · exact hs k _ _ _ _ hg F μ w xs H hl hv
  · cases hg
end Go.AI
