/- The limit of the abstract machine's runs: more rounds tell the same; the equations of the limit. -/
import Derived.Test.YtnfkfhedladdaaaAiExec
namespace Go.AI

theorem callOp_mono {C C' : CallS} (hC : ∀ f a b r, C f a b = some r → C' f a b = some r) {ow : Owns} {h : Heap} {new : Nat} {f : FuncId} {args : List V} {r : V × Upd}
    (hr : callOp C ow h new f args = some r) : callOp C' ow h new f args = some r := by
  unfold callOp at hr ⊢
  cases hp : callPrep ow h f args with
  | none => rw [hp] at hr; cases hr
  | some p =>
    obtain ⟨args', blks, ids, bor⟩ := p
    rw [hp] at hr
    dsimp only at hr ⊢
    cases hc : C f (canArgs (ow f) args') (canBlks (ow f) blks) with
    | none => rw [hc] at hr; cases hr
    | some q => rw [hC _ _ _ _ hc]; rw [hc] at hr; exact hr

theorem opSem_mono {C C' : CallS} (hC : ∀ f a b r, C f a b = some r → C' f a b = some r) {ow : Owns} {o : AOp} {ev : Opd → V} {h : Heap} {new : Nat} {r : V × Upd}
    (hr : opSem C ow o ev h new = some r) : opSem C' ow o ev h new = some r := by
  cases o
  case call f args => simp only [opSem] at hr ⊢; exact callOp_mono hC hr
  case dyn f args =>
    simp only [opSem] at hr ⊢
    split at hr
    · exact callOp_mono hC hr
    · cases hr
  all_goals exact hr

theorem opSem_fin {C : Nat → CallS} {D : CallS} (hD : ∀ f a b r, D f a b = some r → ∃ n, C n f a b = some r) (n0 : Nat) {ow : Owns} {o : AOp} {ev : Opd → V} {h : Heap} {new : Nat} {r : V × Upd}
    (hr : opSem D ow o ev h new = some r) : ∃ n, opSem (C n) ow o ev h new = some r := by
  have key : ∀ f args, callOp D ow h new f args = some r → ∃ n, callOp (C n) ow h new f args = some r := by
    intro f args hr
    unfold callOp at hr
    cases hp : callPrep ow h f args with
    | none => rw [hp] at hr; cases hr
    | some p =>
      obtain ⟨args', blks, ids, bor⟩ := p
      rw [hp] at hr
      dsimp only at hr
      cases hc : D f (canArgs (ow f) args') (canBlks (ow f) blks) with
      | none => rw [hc] at hr; cases hr
      | some q =>
        rw [hc] at hr
        obtain ⟨n, hn⟩ := hD _ _ _ _ hc
        refine ⟨n, ?_⟩
        unfold callOp
        rw [hp]
        dsimp only
        rw [hn]
        exact hr
  cases o
  case call f args => simp only [opSem] at hr ⊢; exact key _ _ hr
  case dyn f args =>
    simp only [opSem] at hr ⊢
    split at hr
    · exact key _ _ hr
    · cases hr
  all_goals exact ⟨n0, hr⟩

theorem stepA_mono {C C' : CallS} (hC : ∀ f a b r, C f a b = some r → C' f a b = some r) {ow : Owns} {st : St} {s : AStep} {n : Nat} {r : St}
    (hr : stepA C ow st s n = some r) : stepA C' ow st s n = some r := by
  unfold stepA at hr ⊢
  split at hr
  · cases hr
  · exact hr
  · split at hr
    · rename_i v u ho; rw [opSem_mono hC ho]; exact hr
    · cases hr

theorem stepsA_mono {C C' : CallS} (hC : ∀ f a b r, C f a b = some r → C' f a b = some r) {ow : Owns} : ∀ {l : List AStep} {n : Nat} {st : St} {r : St},
    stepsA C ow l n st = some r → stepsA C' ow l n st = some r
  | [], _, _, _, hr => hr
  | s :: l, n, st, r, hr => by
    simp only [stepsA] at hr ⊢
    split at hr
    · rename_i st' h; rw [stepA_mono hC h]; exact stepsA_mono hC hr
    · cases hr

theorem stepD_mono {C C' : CallS} (hC : ∀ f a b r, C f a b = some r → C' f a b = some r) {ow : Owns} {st : St} {s : AStep} {i n : Nat} {r : St × Rec}
    (hr : stepD C ow st s i n = some r) : stepD C' ow st s i n = some r := by
  unfold stepD at hr ⊢
  split at hr
  · cases hr
  · exact hr
  · split at hr
    · rename_i v u ho; rw [opSem_mono hC ho]; exact hr
    · cases hr

theorem stepsD_mono {C C' : CallS} (hC : ∀ f a b r, C f a b = some r → C' f a b = some r) {ow : Owns} {base : Nat} : ∀ {l : List AStep} {n : Nat} {st : St} {r : St × List Rec},
    stepsD C ow base l n st = some r → stepsD C' ow base l n st = some r
  | [], _, _, _, hr => hr
  | s :: l, n, st, r, hr => by
    simp only [stepsD] at hr ⊢
    split at hr
    · rename_i st' rc h
      rw [stepD_mono hC h]
      dsimp only
      split at hr
      · rename_i st2 rs h2; rw [stepsD_mono hC h2]; exact hr
      · cases hr
    · cases hr

theorem exec_mono {C C' : CallS} (hC : ∀ f a b r, C f a b = some r → C' f a b = some r) {ow : Owns} : ∀ (n m : Nat), n ≤ m → ∀ {c : ACode} {st : St} {r : AExit × St},
    exec C ow n c st = some r → exec C' ow m c st = some r
  | 0, _, _, _, _, _, hr => by simp [exec] at hr
  | n + 1, 0, h, _, _, _, _ => absurd h (by omega)
  | n + 1, m + 1, h, c, st, r, hr => by
    have ih := fun {c st r} => exec_mono hC (ow := ow) n m (by omega) (c := c) (st := st) (r := r)
    cases c with
    | skip => exact hr
    | region base steps live =>
      simp only [exec, regionA] at hr ⊢
      split at hr
      · rename_i st' h; rw [stepsA_mono hC h]; exact hr
      · cases hr
    | drawn base steps deps live =>
      simp only [exec, drawnA] at hr ⊢
      split at hr
      · rename_i st' rs h; rw [stepsD_mono hC h]; exact hr
      · cases hr
    | seq a b =>
      simp only [exec] at hr ⊢
      cases ha : exec C ow n a st with
      | none => rw [ha] at hr; cases hr
      | some p =>
        obtain ⟨e, st'⟩ := p
        rw [ih ha]
        rw [ha] at hr
        cases e with
        | normal => exact ih hr
        | exit id => exact hr
        | ret => exact hr
    | cond c a b =>
      simp only [exec] at hr ⊢
      split at hr
      · exact ih hr
      · exact ih hr
      · cases hr
    | block id c =>
      simp only [exec] at hr ⊢
      cases ha : exec C ow n c st with
      | none => rw [ha] at hr; cases hr
      | some p => rw [ih ha]; rw [ha] at hr; exact hr
    | loop c =>
      simp only [exec] at hr ⊢
      cases ha : exec C ow n c st with
      | none => rw [ha] at hr; cases hr
      | some p =>
        obtain ⟨e, st'⟩ := p
        rw [ih ha]
        rw [ha] at hr
        cases e with
        | normal => exact ih hr
        | exit id => exact hr
        | ret => exact hr
    | exit id => exact hr
    | ret => exact hr
    | ghost g c =>
      simp only [exec] at hr ⊢
      split at hr
      · exact ih hr
      · cases hr

theorem callN_step (T : Tab) (ow : Owns) : ∀ (n : Nat) f a b r, callN T ow n f a b = some r → callN T ow (n + 1) f a b = some r
  | 0, _, _, _, _, h => by simp [callN] at h
  | n + 1, f, a, b, r, h => by
    simp only [callN] at h ⊢
    split at h
    · cases h
    rotate_left
    · exact h
    · rename_i af haf
      cases he : exec (callN T ow n) ow n af.body (start a b) with
      | none => rw [he] at h; simp [finish, fini] at h
      | some p =>
        have := exec_mono (callN_step T ow n) (ow := ow) n (n + 1) (by omega) he
        simp only [callN] at this
        rw [this]
        rw [he] at h
        exact h

theorem callN_mono (T : Tab) (ow : Owns) {n m : Nat} (h : n ≤ m) : ∀ f a b r, callN T ow n f a b = some r → callN T ow m f a b = some r := by
  induction h with
  | refl => exact fun _ _ _ _ h => h
  | step _ ih => exact fun f a b r h => callN_step T ow _ f a b r (ih f a b r h)

open Classical in
/-- What a run that goes on long enough comes to. -/
noncomputable def lim {α : Type} (g : Nat → Option α) : Option α := if h : ∃ n r, g n = some r then g h.choose else none

theorem lim_of {α : Type} {g : Nat → Option α} (hm : ∀ n m r, n ≤ m → g n = some r → g m = some r) {n : Nat} {r : α} (h : g n = some r) : lim g = some r := by
  have hx : ∃ n r, g n = some r := ⟨n, r, h⟩
  unfold lim
  rw [dif_pos hx]
  obtain ⟨r', hr'⟩ := hx.choose_spec
  have h1 := hm _ (max n hx.choose) _ (Nat.le_max_left _ _) h
  have h2 := hm _ (max n hx.choose) _ (Nat.le_max_right _ _) hr'
  rw [h1] at h2
  rw [hr', ← h2]

theorem of_lim {α : Type} {g : Nat → Option α} {r : α} (h : lim g = some r) : ∃ n, g n = some r := by
  unfold lim at h
  split at h
  · exact ⟨_, h⟩
  · cases h

noncomputable def Call (T : Tab) (ow : Owns) : CallS := fun f a b => lim fun n => callN T ow n f a b
noncomputable def Exec (T : Tab) (ow : Owns) (c : ACode) (st : St) : Option (AExit × St) := lim fun n => exec (callN T ow n) ow n c st

section
variable {T : Tab} {ow : Owns}

theorem exec_up {n m : Nat} (h : n ≤ m) {c : ACode} {st : St} {r : AExit × St} (hr : exec (callN T ow n) ow n c st = some r) : exec (callN T ow m) ow m c st = some r :=
  exec_mono (callN_mono T ow h) n m h hr

theorem Exec_of {n : Nat} {c : ACode} {st : St} {r : AExit × St} (h : exec (callN T ow n) ow n c st = some r) : Exec T ow c st = some r :=
  lim_of (g := fun n => exec (callN T ow n) ow n c st) (fun _ _ _ hnm h => exec_up hnm h) h
theorem of_Exec {c : ACode} {st : St} {r : AExit × St} (h : Exec T ow c st = some r) : ∃ n, exec (callN T ow n) ow n c st = some r := of_lim h
theorem Call_of {n : Nat} {f : FuncId} {a : List V} {b : List Blk} {r : V × List Blk} (h : callN T ow n f a b = some r) : Call T ow f a b = some r :=
  lim_of (g := fun n => callN T ow n f a b) (fun _ _ _ hnm h => callN_mono T ow hnm _ _ _ _ h) h
theorem of_Call {f : FuncId} {a : List V} {b : List Blk} {r : V × List Blk} (h : Call T ow f a b = some r) : ∃ n, callN T ow n f a b = some r := of_lim h

theorem opt_ext {α : Type} {a b : Option α} (h1 : ∀ r, a = some r → b = some r) (h2 : ∀ r, b = some r → a = some r) : a = b := by
  cases a with
  | none => cases b with
    | none => rfl
    | some r => exact absurd (h2 r rfl) (by simp)
  | some r => exact (h1 r rfl).symm

theorem stepsA_fin : ∀ {l : List AStep} {n : Nat} {st : St} {r : St}, stepsA (Call T ow) ow l n st = some r → ∃ k, stepsA (callN T ow k) ow l n st = some r
  | [], _, _, _, h => ⟨0, h⟩
  | s :: l, n, st, r, h => by
    simp only [stepsA] at h
    cases h1 : stepA (Call T ow) ow st s n with
    | none => rw [h1] at h; cases h
    | some st' =>
      rw [h1] at h
      obtain ⟨k2, hk2⟩ := stepsA_fin h
      have : ∃ k, stepA (callN T ow k) ow st s n = some st' := by
        unfold stepA at h1 ⊢
        split at h1
        · cases h1
        · exact ⟨0, h1⟩
        · split at h1
          · rename_i v u ho
            obtain ⟨k, hk⟩ := opSem_fin (C := callN T ow) (D := Call T ow) (fun _ _ _ _ h => of_Call h) 0 ho
            exact ⟨k, by rw [hk]; exact h1⟩
          · cases h1
      obtain ⟨k1, hk1⟩ := this
      refine ⟨max k1 k2, ?_⟩
      simp only [stepsA]
      rw [stepA_mono (callN_mono T ow (Nat.le_max_left k1 k2)) hk1]
      exact stepsA_mono (callN_mono T ow (Nat.le_max_right k1 k2)) hk2

theorem stepsD_fin {base : Nat} : ∀ {l : List AStep} {n : Nat} {st : St} {r : St × List Rec}, stepsD (Call T ow) ow base l n st = some r → ∃ k, stepsD (callN T ow k) ow base l n st = some r
  | [], _, _, _, h => ⟨0, h⟩
  | s :: l, n, st, r, h => by
    simp only [stepsD] at h
    cases h1 : stepD (Call T ow) ow st s n (base + n) with
    | none => rw [h1] at h; cases h
    | some p =>
      obtain ⟨st', rc⟩ := p
      rw [h1] at h
      dsimp only at h
      cases h2 : stepsD (Call T ow) ow base l (n + 1) st' with
      | none => rw [h2] at h; cases h
      | some q =>
        obtain ⟨st2, rs⟩ := q
        rw [h2] at h
        obtain ⟨k2, hk2⟩ := stepsD_fin h2
        have : ∃ k, stepD (callN T ow k) ow st s n (base + n) = some (st', rc) := by
          unfold stepD at h1 ⊢
          split at h1
          · cases h1
          · exact ⟨0, h1⟩
          · split at h1
            · rename_i v u ho
              obtain ⟨k, hk⟩ := opSem_fin (C := callN T ow) (D := Call T ow) (fun _ _ _ _ h => of_Call h) 0 ho
              exact ⟨k, by rw [hk]; exact h1⟩
            · cases h1
        obtain ⟨k1, hk1⟩ := this
        refine ⟨max k1 k2, ?_⟩
        simp only [stepsD]
        rw [stepD_mono (callN_mono T ow (Nat.le_max_left k1 k2)) hk1]
        dsimp only
        rw [stepsD_mono (callN_mono T ow (Nat.le_max_right k1 k2)) hk2]
        exact h

theorem callN_Call (k : Nat) : ∀ f a b r, callN T ow k f a b = some r → Call T ow f a b = some r := fun _ _ _ _ h => Call_of h

theorem Exec_skip (st : St) : Exec T ow .skip st = some (.normal, st) := Exec_of (n := 1) rfl
theorem Exec_exit (id : Nat) (st : St) : Exec T ow (.exit id) st = some (.exit id, st) := Exec_of (n := 1) rfl
theorem Exec_ret (st : St) : Exec T ow .ret st = some (.ret, st) := Exec_of (n := 1) rfl

theorem Exec_region (base : Nat) (steps : List AStep) (live : List Nat) (st : St) : Exec T ow (.region base steps live) st = regionA (Call T ow) ow base steps live st := by
  refine opt_ext (fun r h => ?_) (fun r h => ?_)
  · obtain ⟨n, hn⟩ := of_Exec h
    cases n with
    | zero => simp [exec] at hn
    | succ n =>
      simp only [exec, regionA] at hn ⊢
      split at hn
      · rename_i st' h'; rw [stepsA_mono (callN_Call (n + 1)) h']; exact hn
      · cases hn
  · unfold regionA at h
    split at h
    · rename_i st' h'
      obtain ⟨k, hk⟩ := stepsA_fin h'
      refine Exec_of (n := k + 1) ?_
      simp only [exec, regionA]
      rw [stepsA_mono (callN_mono T ow (Nat.le_succ k)) hk]
      exact h
    · cases h

theorem Exec_drawn (base : Nat) (steps : List AStep) (deps : List (List Nat)) (live : List Nat) (st : St) :
    Exec T ow (.drawn base steps deps live) st = drawnA (Call T ow) ow base steps deps live st := by
  refine opt_ext (fun r h => ?_) (fun r h => ?_)
  · obtain ⟨n, hn⟩ := of_Exec h
    cases n with
    | zero => simp [exec] at hn
    | succ n =>
      simp only [exec, drawnA] at hn ⊢
      split at hn
      · rename_i st' rs h'; rw [stepsD_mono (callN_Call (n + 1)) h']; exact hn
      · cases hn
  · unfold drawnA at h
    split at h
    · rename_i st' rs h'
      obtain ⟨k, hk⟩ := stepsD_fin h'
      refine Exec_of (n := k + 1) ?_
      simp only [exec, drawnA]
      rw [stepsD_mono (callN_mono T ow (Nat.le_succ k)) hk]
      exact h
    · cases h

theorem Exec_seq (a b : ACode) (st : St) : Exec T ow (.seq a b) st = (match Exec T ow a st with
    | some (.normal, st') => Exec T ow b st'
    | r => r) := by
  refine opt_ext (fun r h => ?_) (fun r h => ?_)
  · obtain ⟨n, hn⟩ := of_Exec h
    cases n with
    | zero => simp [exec] at hn
    | succ n =>
      simp only [exec] at hn
      cases ha : exec (callN T ow (n + 1)) ow n a st with
      | none => rw [ha] at hn; cases hn
      | some p =>
        obtain ⟨e, st'⟩ := p
        rw [Exec_of (exec_mono (fun _ _ _ _ h => h) n (n + 1) (by omega) ha)]
        rw [ha] at hn
        cases e with
        | normal => exact Exec_of (exec_mono (fun _ _ _ _ h => h) n (n + 1) (by omega) hn)
        | exit id => exact hn
        | ret => exact hn
  · cases ha : Exec T ow a st with
    | none => rw [ha] at h; cases h
    | some p =>
      obtain ⟨e, st'⟩ := p
      rw [ha] at h
      obtain ⟨n, hn⟩ := of_Exec ha
      cases e with
      | normal =>
        obtain ⟨m, hm⟩ := of_Exec (show Exec T ow b st' = some r from h)
        refine Exec_of (n := max n m + 1) ?_
        simp only [exec]
        rw [exec_mono (callN_mono T ow (by omega)) n (max n m) (by omega) hn]
        exact exec_mono (callN_mono T ow (by omega)) m (max n m) (by omega) hm
      | exit id =>
        refine Exec_of (n := n + 1) ?_
        simp only [exec]
        rw [exec_mono (callN_mono T ow (by omega)) n n (by omega) hn]
        exact h
      | ret =>
        refine Exec_of (n := n + 1) ?_
        simp only [exec]
        rw [exec_mono (callN_mono T ow (by omega)) n n (by omega) hn]
        exact h

theorem Exec_cond (c : Opd) (a b : ACode) (st : St) : Exec T ow (.cond c a b) st = (match st.ev c with
    | .lit (.bool true) => Exec T ow a st
    | .lit (.bool false) => Exec T ow b st
    | _ => none) := by
  refine opt_ext (fun r h => ?_) (fun r h => ?_)
  · obtain ⟨n, hn⟩ := of_Exec h
    cases n with
    | zero => simp [exec] at hn
    | succ n =>
      simp only [exec] at hn
      split at hn
      · rename_i hc; simp only [hc]; exact Exec_of (exec_mono (fun _ _ _ _ h => h) n (n + 1) (by omega) hn)
      · rename_i hc; simp only [hc]; exact Exec_of (exec_mono (fun _ _ _ _ h => h) n (n + 1) (by omega) hn)
      · cases hn
  · split at h
    · rename_i hc
      obtain ⟨n, hn⟩ := of_Exec h
      refine Exec_of (n := n + 1) ?_
      simp only [exec, hc]
      exact exec_mono (callN_mono T ow (by omega)) n n (by omega) hn
    · rename_i hc
      obtain ⟨n, hn⟩ := of_Exec h
      refine Exec_of (n := n + 1) ?_
      simp only [exec, hc]
      exact exec_mono (callN_mono T ow (by omega)) n n (by omega) hn
    · cases h

theorem Exec_block (id : Nat) (c : ACode) (st : St) : Exec T ow (.block id c) st = (match Exec T ow c st with
    | some (.exit id', st') => if id' = id then some (.normal, st') else some (.exit id', st')
    | r => r) := by
  refine opt_ext (fun r h => ?_) (fun r h => ?_)
  · obtain ⟨n, hn⟩ := of_Exec h
    cases n with
    | zero => simp [exec] at hn
    | succ n =>
      simp only [exec] at hn
      cases ha : exec (callN T ow (n + 1)) ow n c st with
      | none => rw [ha] at hn; cases hn
      | some p =>
        rw [Exec_of (exec_mono (fun _ _ _ _ h => h) n (n + 1) (by omega) ha)]
        rw [ha] at hn
        exact hn
  · cases ha : Exec T ow c st with
    | none => rw [ha] at h; cases h
    | some p =>
      obtain ⟨n, hn⟩ := of_Exec ha
      refine Exec_of (n := n + 1) ?_
      simp only [exec]
      rw [exec_mono (callN_mono T ow (by omega)) n n (by omega) hn]
      rw [ha] at h
      exact h

theorem Exec_loop (c : ACode) (st : St) : Exec T ow (.loop c) st = (match Exec T ow c st with
    | some (.normal, st') => Exec T ow (.loop c) st'
    | r => r) := by
  refine opt_ext (fun r h => ?_) (fun r h => ?_)
  · obtain ⟨n, hn⟩ := of_Exec h
    cases n with
    | zero => simp [exec] at hn
    | succ n =>
      simp only [exec] at hn
      cases ha : exec (callN T ow (n + 1)) ow n c st with
      | none => rw [ha] at hn; cases hn
      | some p =>
        obtain ⟨e, st'⟩ := p
        rw [Exec_of (exec_mono (fun _ _ _ _ h => h) n (n + 1) (by omega) ha)]
        rw [ha] at hn
        cases e with
        | normal => exact Exec_of (exec_mono (fun _ _ _ _ h => h) n (n + 1) (by omega) hn)
        | exit id => exact hn
        | ret => exact hn
  · cases ha : Exec T ow c st with
    | none => rw [ha] at h; cases h
    | some p =>
      obtain ⟨e, st'⟩ := p
      rw [ha] at h
      obtain ⟨n, hn⟩ := of_Exec ha
      cases e with
      | normal =>
        obtain ⟨m, hm⟩ := of_Exec (show Exec T ow (.loop c) st' = some r from h)
        refine Exec_of (n := max n m + 1) ?_
        simp only [exec]
        rw [exec_mono (callN_mono T ow (by omega)) n (max n m) (by omega) hn]
        exact exec_mono (callN_mono T ow (by omega)) m (max n m) (by omega) hm
      | exit id =>
        refine Exec_of (n := n + 1) ?_
        simp only [exec]
        rw [exec_mono (callN_mono T ow (by omega)) n n (by omega) hn]
        exact h
      | ret =>
        refine Exec_of (n := n + 1) ?_
        simp only [exec]
        rw [exec_mono (callN_mono T ow (by omega)) n n (by omega) hn]
        exact h

theorem Exec_ghost (g : Ghost) (c : ACode) (st : St) : Exec T ow (.ghost g c) st = (match doGhost st g with
    | some st' => Exec T ow c st'
    | none => none) := by
  refine opt_ext (fun r h => ?_) (fun r h => ?_)
  · obtain ⟨n, hn⟩ := of_Exec h
    cases n with
    | zero => simp [exec] at hn
    | succ n =>
      simp only [exec] at hn
      split at hn
      · rename_i st' hg; simp only [hg]; exact Exec_of (exec_mono (fun _ _ _ _ h => h) n (n + 1) (by omega) hn)
      · cases hn
  · split at h
    · rename_i st' hg
      obtain ⟨n, hn⟩ := of_Exec h
      refine Exec_of (n := n + 1) ?_
      simp only [exec, hg]
      exact exec_mono (callN_mono T ow (by omega)) n n (by omega) hn
    · cases h

/-- A call is its callee's body, with the way in and out. -/
theorem Call_eq (f : FuncId) (a : List V) (b : List Blk) : Call T ow f a b = (match T f with
    | none => none
    | some (.code af) => fini af (finish af b.length (Exec T ow af.body (start a b)))
    | some (.ext g) => g a b) := by
  refine opt_ext (fun r h => ?_) (fun r h => ?_)
  · obtain ⟨n, hn⟩ := of_Call h
    cases n with
    | zero => simp [callN] at hn
    | succ n =>
      simp only [callN] at hn
      split at hn
      · cases hn
      rotate_left
      · rename_i g hg; simp only [hg]; exact hn
      · rename_i af haf
        cases he : exec (callN T ow n) ow n af.body (start a b) with
        | none => rw [he] at hn; simp [finish, fini] at hn
        | some p => simp only [haf]; rw [Exec_of he]; rw [he] at hn; exact hn
  · split at h
    · cases h
    rotate_left
    · rename_i g hg
      refine Call_of (n := 1) ?_
      simp only [callN, hg]
      exact h
    · rename_i af haf
      cases he : Exec T ow af.body (start a b) with
      | none => rw [he] at h; simp [finish, fini] at h
      | some p =>
        obtain ⟨n, hn⟩ := of_Exec he
        refine Call_of (n := n + 1) ?_
        simp only [callN, haf]
        rw [hn]
        rw [he] at h
        exact h

end
end Go.AI
