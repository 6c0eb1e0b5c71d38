/- A call among operations; and any operation, as the model steps through it. -/
import Derived.Test.YtjeihkabobjlbaaAiCall3
set_option linter.unusedVariables false
set_option linter.unusedSimpArgs false
namespace Go.AI

/-- What a callee must bring about. -/
def PostOK (F : Frame) (μ : Mu) (h : Heap) (w : World) (r : V) (blks' : List Blk) (x : Value) (w' : World) : Prop :=
  ∃ μ', @HRel F μ' (bheap blks') w' ∧ @Chg F μ h w μ' (bheap blks') w' ∧ @VRel F μ' (bheap blks') w' r x ∧ okR r = true ∧ ∀ k ∈ blks', okB k

def Reach (P : Program) (f : FuncId) (xs : Array Value) (w : World) (R : Value → World → Prop) : Prop :=
  (∃ x w', (callFunc f xs).run P w = .ok (.value x) w' ∧ R x w') ∨
  ((callFunc f xs).run P w = .ok (.enter f xs) w ∧ Calls P f xs w (fun | .returned v, w' => R v w' | _, _ => False))

theorem Reach.mono {P : Program} {f : FuncId} {xs : Array Value} {w : World} {R R' : Value → World → Prop} (h : Reach P f xs w R) (hr : ∀ x w', R x w' → R' x w') : Reach P f xs w R' := by
  rcases h with ⟨x, w', h1, h2⟩ | ⟨h1, h2⟩
  · exact .inl ⟨x, w', h1, hr _ _ h2⟩
  · refine .inr ⟨h1, h2.mono (fun e w' he => ?_)⟩
    cases e with
    | returned v => exact hr _ _ he
    | _ => exact he

def CallSound (P : Program) (C : CallS) : Prop := ∀ (f : FuncId) (args : List V) (blks : List Blk) (r : V) (blks' : List Blk), C f args blks = some (r, blks') →
  ∀ (F : Frame) (μ : Mu) (w : World) (xs : Array Value), @HRel F μ (bheap blks) w → xs.size = args.length → (∀ (i : Nat) (v : V), args[i]? = some v → @VRel F μ (bheap blks) w v (xs.getD i undef)) →
  Reach P f xs w (PostOK F μ (bheap blks) w r blks')

section
variable {F : Frame} {P : Program} {C : CallS} {μ : Mu} {h : Heap} {w : World}

theorem callOp_sound (hC : CallSound P C) {owns : FuncId → List Nat} {new : Nat} {f : FuncId} {args : List V} {v : V} {u : Upd} {xs : Array Value} (H : @HRel F μ h w) (hl : xs.size = args.length)
    (hv : ∀ (i : Nat) (v : V), args[i]? = some v → @VRel F μ h w v (xs.getD i undef)) (hs : callOp C owns h new f args = some (v, u)) :
    Reach P f xs w (fun x w' => ∃ μ', @HRel F μ' (happ h u) w' ∧ @Chg F μ h w μ' (happ h u) w' ∧ @VRel F μ' (happ h u) w' v x) := by
  unfold callOp at hs
  split at hs
  · cases hs
  · rename_i args' blks ids bor hp
    split at hs
    · cases hs
    · rename_i r blks' hc
      obtain ⟨W, hal, hloc⟩ := prep_way hp
      refine (hC f args' blks r blks' hc (frIn F μ ids bor) (muIn μ ids) w xs (hrel_in W H) (by omega) (fun i v' hi => ?_)).mono (fun x w' hpost => ?_)
      · obtain ⟨v0, h0⟩ := getL_some (l := args) (i := i) (by rw [← hal]; exact getL_lt hi)
        exact locA_in W H (hloc i v0 v' h0 hi) (hv i v0 h0)
      · obtain ⟨μ1, H1, C1, V1, ho, hok⟩ := hpost
        exact post_back W H hs H1 C1 V1 ho hok
end

section
variable {P : Program} {C : CallS} {μ : Mu} {h : Heap} {w : World} {f : Nat → V} {a : Act}

theorem opds_rel [Frame] (E : ERel μ h w f a) : ∀ {l : List Operand} {l' : List Opd}, opdsOf l = some l' → l'.length = l.length ∧ ∀ (i : Nat) (v : V), (l'.map (Opd.ev f))[i]? = some v → VRel μ h w v ((l.map a.eval).getD i undef)
  | [], l', hl => by
    simp [opdsOf] at hl; subst hl
    exact ⟨rfl, fun i v hi => by simp at hi⟩
  | x :: r, l', hl => by
    simp only [opdsOf] at hl
    split at hl
    · rename_i y r' h1 h2
      cases hl
      obtain ⟨i1, i2⟩ := opds_rel E h2
      refine ⟨by simp [i1], fun i v hi => ?_⟩
      cases i with
      | zero => simp at hi; subst hi; exact ev_rel E h1
      | succ i => exact i2 i v (by simpa using hi)
    · cases hl

theorem wp_reach {o : Oper} {g : FuncId} {xs : Array Value} {next : Act → World → Prop} {Q : Exit → Act → World → Prop} (hrun : (execOp a.eval o).run P w = (callFunc g xs).run P w)
    (hr : Reach P g xs w (fun x w' => next (a.put o.dst x) w')) : o.wp P a w next Q := by
  unfold Oper.wp
  rw [hrun]
  rcases hr with ⟨x, w', h1, h2⟩ | ⟨h1, h2⟩
  · rw [h1]; exact h2
  · rw [h1, Oper.upon_enter]
    refine h2.mono (fun e w' he => ?_)
    cases e with
    | returned v => exact he
    | panicked c => exact he.elim
    | outgrown => exact he.elim

/-- Any operation of the abstract machine's is sound. -/
theorem oper_sound [Frame] (hC : CallSound P C) (H : HRel μ h w) (E : ERel μ h w f a) {ow : FuncId → List Nat} {o : Oper} {ao : AOp} (hc : compOp P o.op = some ao) {new : Nat} {v : V} {u : Upd}
    (hs : opSem C ow ao (Opd.ev f) h new = some (v, u)) {next : Act → World → Prop} {Q : Exit → Act → World → Prop}
    (K : ∀ x w' μ', HRel μ' (happ h u) w' → Chg μ h w μ' (happ h u) w' → VRel μ' (happ h u) w' v x → next (a.put o.dst x) w') : o.wp P a w next Q := by
  cases hn : isCallOp ao with
  | false =>
    obtain ⟨x, w', μ', hr, H', C', V'⟩ := op_sound H E hc hn hs
    unfold Oper.wp
    rcases hr with hr | ⟨hr, rfl⟩
    · rw [hr, Oper.upon_value]; exact K x w' μ' H' C' V'
    · rw [hr, Oper.upon_skip]; exact K undef w' μ' H' C' V'
  | true =>
    generalize hop : o.op = op at hc
    cases op with
    | call c =>
      have key : ∀ (g : FuncId) (args : List Opd) (caps : List V) (xs : Array Value), opdsOf c.args.toList = some args → (execOp a.eval o).run P w = (callFunc g (c.args.map a.eval ++ xs)).run P w → xs.size = caps.length →
          (∀ (i : Nat) (v : V), caps[i]? = some v → VRel μ h w v (xs.getD i undef)) → callOp C ow h new g (args.map (Opd.ev f) ++ caps) = some (v, u) → o.wp P a w next Q := by
        intro g args caps xs hargs hrun hxs hcaps hcall
        obtain ⟨i1, i2⟩ := opds_rel E hargs
        refine wp_reach hrun ((callOp_sound hC H (by simp [i1, hxs]) (fun i v hi => ?_) hcall).mono (fun x w' ⟨μ', H', C', V'⟩ => K x w' μ' H' C' V'))
        rcases Nat.lt_or_ge i args.length with hlt | hge
        · rw [List.getElem?_append_left (by simpa using hlt)] at hi
          have := i2 i v hi
          rw [List.getD_eq_getElem?_getD] at this
          rw [Array.getD_eq_getD_getElem?, Array.getElem?_append_left (by simpa [i1] using hlt), ← Array.getElem?_toList]
          simpa using this
        · rw [List.getElem?_append_right (by simpa using hge)] at hi
          rw [Array.getD_eq_getD_getElem?, Array.getElem?_append_right (by simpa [i1] using hge), ← Array.getD_eq_getD_getElem?]
          simp only [List.length_map, Array.size_map] at hi ⊢
          have := hcaps _ v hi
          rw [i1, Array.length_toList] at this
          exact this
      have hcc := hc
      simp only [compOp] at hc
      split at hc
      · rename_i g args hca hargs
        cases hc
        simp only [opSem] at hs
        refine key g args [] #[] hargs ?_ rfl (fun i v hi => by simp at hi) (by simpa using hs)
        simp [execOp, hop, resolve, hca, Deferred.ofValue, invoke, Act.eval]
      · rename_i fv args hnf hca hargs
        split at hc
        · rename_i fo hfo
          cases hc
          have hvf := ev_rel E hfo
          simp only [opSem] at hs
          split at hs
          · rename_i g caps hev
            rw [hev] at hvf
            obtain ⟨xs, hx, hxl, hxv⟩ := fn_inv hvf
            refine key g args caps xs hargs ?_ hxl hxv hs
            simp [execOp, hop, resolve, hca, hx, Deferred.ofValue, invoke]
          · cases hs
        · cases hc
      · exfalso
        repeat' (first | contradiction | (cases hc; simp [isCallOp] at hn; done) | (split at hc))
      · exfalso
        repeat' (first | contradiction | (cases hc; simp [isCallOp] at hn; done) | (split at hc))
      · exfalso
        repeat' (first | contradiction | (cases hc; simp [isCallOp] at hn; done) | (split at hc))
      · cases hc; simp [isCallOp] at hn
      · cases hc; simp [isCallOp] at hn
      · cases hc
    | _ =>
      exfalso
      simp only [compOp] at hc
      repeat' (first | contradiction | (obtain ⟨_, _, rfl⟩ := map_some hc; simp [isCallOp] at hn; done) | (cases hc; simp [isCallOp] at hn; done) | (split at hc))

end
end Go.AI
