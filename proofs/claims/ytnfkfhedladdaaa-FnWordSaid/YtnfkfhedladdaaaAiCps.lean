/- Runs told from the front: a list of what is still to be done, and what stands at its end. -/
import Derived.Test.YtnfkfhedladdaaaAiLim
set_option linter.unusedVariables false
set_option linter.unusedSimpArgs false
namespace Go.AI

def br {α : Type} (c : Bool) (x y : α) : α := match c with
  | true => x
  | false => y
theorem br_true {α : Type} (x y : α) : br true x y = x := rfl
theorem br_false {α : Type} (x y : α) : br false x y = y := rfl
theorem br_not {α : Type} (c : Bool) (x y : α) : br (!c) x y = br c y x := by cases c <;> rfl
theorem br_t {α : Type} {c : Bool} {x y r : α} (h : c = true) (hx : x = r) : br c x y = r := by subst h; exact hx
theorem br_f {α : Type} {c : Bool} {x y r : α} (h : c = false) (hy : y = r) : br c x y = r := by subst h; exact hy
theorem brc {α : Type} {c : Bool} {x y r : α} (h : br c x y = r) : (c = true ∧ x = r) ∨ (c = false ∧ y = r) := by
  cases c
  · exact .inr ⟨rfl, h⟩
  · exact .inl ⟨rfl, h⟩
theorem brg {α : Type} {c : Bool} {x : Option α} {r : α} (h : br c x none = some r) : c = true ∧ x = some r := by
  cases c
  · cases h
  · exact ⟨rfl, h⟩
theorem bd {α β : Type} {x : Option α} {g : α → Option β} {r : β} (h : x.bind g = some r) : ∃ a, x = some a ∧ g a = some r := by
  cases x with
  | none => cases h
  | some a => exact ⟨a, rfl, h⟩

inductive Fr where
  | code (c : ACode)
  | steps (n : Nat) (ss : List AStep) (live : List Nat)
  | dr (base i : Nat) (ss : List AStep) (deps : List (List Nat)) (live : List Nat) (rs : List Rec)
  | blk (id : Nat)

section
variable {R : Type}

noncomputable def RunX (T : Tab) (ow : Owns) (k : AExit → St → Option R) : List Fr → Option Nat → St → Option R
  | [], none, st => k .normal st
  | [], some id, st => k (.exit id) st
  | .blk id' :: K, some id, st => if id' = id then RunX T ow k K none st else RunX T ow k K (some id) st
  | _ :: K, some id, st => RunX T ow k K (some id) st
  | .blk _ :: K, none, st => RunX T ow k K none st
  | .code c :: K, none, st => match Exec T ow c st with
    | some (.normal, st') => RunX T ow k K none st'
    | some (.exit id, st') => RunX T ow k K (some id) st'
    | some (.ret, st') => k .ret st'
    | none => none
  | .steps n ss live :: K, none, st => match stepsA (Call T ow) ow ss n st with
    | some st' => RunX T ow k K none (trim live st')
    | none => none
  | .dr base i ss deps live rs :: K, none, st => match stepsD (Call T ow) ow base ss i st with
    | some (st', rs') => br (pairsOK deps (rs ++ rs'.filter Rec.loud)) (RunX T ow k K none (trim live st')) none
    | none => none

noncomputable def Rn (T : Tab) (ow : Owns) (k : AExit → St → Option R) (K : List Fr) (st : St) : Option R := RunX T ow k K none st
noncomputable def Unw (T : Tab) (ow : Owns) (k : AExit → St → Option R) (id : Nat) (K : List Fr) (st : St) : Option R := RunX T ow k K (some id) st

/-- Behind a piece of code. -/
noncomputable def goR (T : Tab) (ow : Owns) (k : AExit → St → Option R) (K : List Fr) : Option (AExit × St) → Option R
  | some (.normal, st') => Rn T ow k K st'
  | some (.exit id, st') => Unw T ow k id K st'
  | some (.ret, st') => k .ret st'
  | none => none

variable {T : Tab} {ow : Owns} {k : AExit → St → Option R}

theorem Run_code (c : ACode) (K : List Fr) (st : St) : Rn T ow k (.code c :: K) st = goR T ow k K (Exec T ow c st) := by
  unfold Rn RunX goR
  cases Exec T ow c st with
  | none => rfl
  | some p => obtain ⟨e, st'⟩ := p; cases e <;> rfl

theorem Run_nil (st : St) : Rn T ow k [] st = k .normal st := rfl
theorem Run_blk (id : Nat) (K : List Fr) (st : St) : Rn T ow k (.blk id :: K) st = Rn T ow k K st := rfl
theorem Run_skip (K : List Fr) (st : St) : Rn T ow k (.code .skip :: K) st = Rn T ow k K st := by rw [Run_code, Exec_skip]; rfl
theorem Run_exit (id : Nat) (K : List Fr) (st : St) : Rn T ow k (.code (.exit id) :: K) st = Unw T ow k id K st := by rw [Run_code, Exec_exit]; rfl
theorem Run_ret (K : List Fr) (st : St) : Rn T ow k (.code .ret :: K) st = k .ret st := by rw [Run_code, Exec_ret]; rfl
theorem Run_seq (a b : ACode) (K : List Fr) (st : St) : Rn T ow k (.code (.seq a b) :: K) st = Rn T ow k (.code a :: .code b :: K) st := by
  rw [Run_code, Exec_seq, Run_code]
  cases Exec T ow a st with
  | none => rfl
  | some p =>
    obtain ⟨e, st'⟩ := p
    cases e with
    | normal => simp only [goR]; rw [Run_code]; rfl
    | exit id => rfl
    | ret => rfl
theorem Run_block (id : Nat) (c : ACode) (K : List Fr) (st : St) : Rn T ow k (.code (.block id c) :: K) st = Rn T ow k (.code c :: .blk id :: K) st := by
  rw [Run_code, Exec_block, Run_code]
  cases Exec T ow c st with
  | none => rfl
  | some p =>
    obtain ⟨e, st'⟩ := p
    cases e with
    | normal => rfl
    | exit id' =>
      simp only [goR, Unw, Rn, RunX]
      by_cases h : id' = id
      · subst h; simp
      · rw [if_neg h, if_neg (fun e => h e.symm)]
    | ret => rfl

noncomputable def condR (T : Tab) (ow : Owns) (k : AExit → St → Option R) (a b : ACode) (K : List Fr) (st : St) : V → Option R
  | .lit (.bool c) => br c (Rn T ow k (.code a :: K) st) (Rn T ow k (.code b :: K) st)
  | _ => none
theorem Run_cond (c : Opd) (a b : ACode) (K : List Fr) (st : St) : Rn T ow k (.code (.cond c a b) :: K) st = condR T ow k a b K st (st.ev c) := by
  rw [Run_code, Exec_cond]
  unfold condR
  split
  · rename_i h; rw [h]; exact (Run_code _ _ _).symm
  · rename_i h; rw [h]; exact (Run_code _ _ _).symm
  · rename_i h1 h2
    split
    · rename_i c' h; cases c'
      · exact absurd h h2
      · exact absurd h h1
    · rfl
theorem condR_bool (a b : ACode) (K : List Fr) (st : St) (c : Bool) : condR T ow k a b K st (.lit (.bool c)) = br c (Rn T ow k (.code a :: K) st) (Rn T ow k (.code b :: K) st) := rfl

noncomputable def ghR (T : Tab) (ow : Owns) (k : AExit → St → Option R) (c : ACode) (K : List Fr) : Option St → Option R
  | some st' => Rn T ow k (.code c :: K) st'
  | none => none
theorem Run_ghost (g : Ghost) (c : ACode) (K : List Fr) (st : St) : Rn T ow k (.code (.ghost g c) :: K) st = ghR T ow k c K (doGhost st g) := by
  rw [Run_code, Exec_ghost]
  cases doGhost st g with
  | none => rfl
  | some st' => simp only [ghR]; rw [Run_code]
theorem ghR_some (c : ACode) (K : List Fr) (st : St) : ghR T ow k c K (some st) = Rn T ow k (.code c :: K) st := rfl

theorem Run_loop (c : ACode) (K : List Fr) (st : St) : Rn T ow k (.code (.loop c) :: K) st = goR T ow k K (Exec T ow (.loop c) st) := Run_code _ _ _
theorem goR_normal (K : List Fr) (st : St) : goR T ow k K (some (.normal, st)) = Rn T ow k K st := rfl
theorem goR_exit (id : Nat) (K : List Fr) (st : St) : goR T ow k K (some (.exit id, st)) = Unw T ow k id K st := rfl
theorem goR_ret (K : List Fr) (st : St) : goR T ow k K (some (.ret, st)) = k .ret st := rfl

theorem Unw_nil (id : Nat) (st : St) : Unw T ow k id [] st = k (.exit id) st := rfl
theorem Unw_code (id : Nat) (c : ACode) (K : List Fr) (st : St) : Unw T ow k id (.code c :: K) st = Unw T ow k id K st := rfl
theorem Unw_blk (id id' : Nat) (K : List Fr) (st : St) : Unw T ow k id (.blk id' :: K) st = if id' = id then Rn T ow k K st else Unw T ow k id K st := rfl

/-! ### regions -/

theorem Run_region (n : Nat) (ss : List AStep) (live : List Nat) (K : List Fr) (st : St) : Rn T ow k (.code (.region n ss live) :: K) st = Rn T ow k (.steps n ss live :: K) st := by
  rw [Run_code, Exec_region]
  unfold regionA
  simp only [Rn, RunX]
  cases stepsA (Call T ow) ow ss n st <;> rfl
theorem Run_drawn (n : Nat) (ss : List AStep) (deps : List (List Nat)) (live : List Nat) (K : List Fr) (st : St) : Rn T ow k (.code (.drawn n ss deps live) :: K) st = Rn T ow k (.dr n 0 ss deps live [] :: K) st := by
  rw [Run_code, Exec_drawn]
  unfold drawnA
  simp only [Rn, RunX]
  cases stepsD (Call T ow) ow n ss 0 st with
  | none => rfl
  | some p =>
    obtain ⟨st', rs⟩ := p
    simp only [List.nil_append]
    cases pairsOK deps (rs.filter Rec.loud) <;> rfl

theorem Run_steps_nil (n : Nat) (live : List Nat) (K : List Fr) (st : St) : Rn T ow k (.steps n [] live :: K) st = Rn T ow k K (trim live st) := rfl

noncomputable def aft (T : Tab) (ow : Owns) (k : AExit → St → Option R) (d : Option Nat) (n : Nat) (ss : List AStep) (live : List Nat) (K : List Fr) (st : St) : Option (V × Upd) → Option R
  | some (v, u) => Rn T ow k (.steps (n + 1) ss live :: K) ((st.upd u).put d v)
  | none => none

variable {d : Option Nat} {n : Nat} {ss : List AStep} {live : List Nat} {K : List Fr} {st : St}

theorem Run_steps (op : AOp) : Rn T ow k (.steps n (⟨d, op, none⟩ :: ss) live :: K) st = aft T ow k d n ss live K st (opSem (Call T ow) ow op st.ev st.heap n) := by
  unfold aft
  simp only [Rn, RunX, stepsA, stepA, St.want]
  cases opSem (Call T ow) ow op st.ev st.heap n with
  | none => rfl
  | some p => obtain ⟨v, u⟩ := p; rfl
theorem aft_some (v : V) (u : Upd) : aft T ow k d n ss live K st (some (v, u)) = Rn T ow k (.steps (n + 1) ss live :: K) ((st.upd u).put d v) := rfl
theorem aft_none : aft T ow k d n ss live K st none = none := rfl
theorem aft_br (c : Bool) (x y : Option (V × Upd)) : aft T ow k d n ss live K st (br c x y) = br c (aft T ow k d n ss live K st x) (aft T ow k d n ss live K st y) := by cases c <;> rfl
theorem aft_bind {α : Type} (x : Option α) (f : α → Option (V × Upd)) : aft T ow k d n ss live K st (x.bind f) = x.bind (fun a => aft T ow k d n ss live K st (f a)) := by cases x <;> rfl

/-- An operation that waits for a condition. -/
noncomputable def gd (T : Tab) (ow : Owns) (k : AExit → St → Option R) (t : Nat) (b : Bool) (d : Option Nat) (op : AOp) (n : Nat) (ss : List AStep) (live : List Nat) (K : List Fr) (st : St) : V → Option R
  | .lit (.bool c) => br (c == b) (Rn T ow k (.steps n (⟨d, op, none⟩ :: ss) live :: K) { st with e := aset t (.lit (.bool c)) st.e })
      (Rn T ow k (.steps (n + 1) ss live :: K) ({ st with e := aset t (.lit (.bool c)) st.e }.put d (.lit (.tuple #[]))))
  | .lit (.tuple _) => Rn T ow k (.steps (n + 1) ss live :: K) (st.put d (.lit (.tuple #[])))
  | _ => none

theorem aset_same {α : Type} : ∀ {l : List (Nat × α)} {t : Nat} {v : α}, aget l t = some v → aset t v l = l
  | [], _, _, h => by simp [aget] at h
  | (j, u) :: r, t, v, h => by
    simp only [aget] at h
    simp only [aset]
    split at h
    · rename_i e; cases h; subst e; simp
    · rename_i e; rw [if_neg e, aset_same h]

theorem get_aset {v : V} {t : Nat} (h : st.get t = v) (hv : v ≠ .undef) : ({ st with e := aset t v st.e } : St) = st := by
  unfold St.get at h
  cases ha : aget st.e t with
  | none => rw [ha] at h; exact absurd h.symm hv
  | some u =>
    rw [ha] at h; cases h
    show ({ st with e := aset t u st.e } : St) = st
    rw [aset_same ha]

theorem Run_guard (t : Nat) (b : Bool) (op : AOp) : Rn T ow k (.steps n (⟨d, op, some (t, b)⟩ :: ss) live :: K) st = gd T ow k t b d op n ss live K st (st.get t) := by
  cases hg : st.get t with
  | lit v =>
    cases v with
    | bool c =>
      simp only [gd]
      rw [get_aset hg (by simp)]
      simp only [Rn, RunX, stepsA, stepA, St.want, hg]
      cases hcb : (c == b)
      · simp [br_false, hcb]
      · simp [br_true, hcb]
    | tuple xs => simp only [gd]; simp only [Rn, RunX, stepsA, stepA, St.want, hg]
    | _ => simp only [gd]; simp only [Rn, RunX, stepsA, stepA, St.want, hg]
  | _ => simp only [gd]; simp only [Rn, RunX, stepsA, stepA, St.want, hg]

theorem gd_true (t : Nat) (op : AOp) (c : Bool) : gd T ow k t true d op n ss live K st (.lit (.bool c)) =
    br c (Rn T ow k (.steps n (⟨d, op, none⟩ :: ss) live :: K) { st with e := aset t (.lit (.bool true)) st.e })
      (Rn T ow k (.steps (n + 1) ss live :: K) ({ st with e := aset t (.lit (.bool false)) st.e }.put d (.lit (.tuple #[])))) := by cases c <;> rfl
theorem gd_false (t : Nat) (op : AOp) (c : Bool) : gd T ow k t false d op n ss live K st (.lit (.bool c)) =
    br c (Rn T ow k (.steps (n + 1) ss live :: K) ({ st with e := aset t (.lit (.bool true)) st.e }.put d (.lit (.tuple #[]))))
      (Rn T ow k (.steps n (⟨d, op, none⟩ :: ss) live :: K) { st with e := aset t (.lit (.bool false)) st.e }) := by cases c <;> rfl
theorem gd_tuple (t : Nat) (b : Bool) (op : AOp) (xs : Array Value) : gd T ow k t b d op n ss live K st (.lit (.tuple xs)) = Rn T ow k (.steps (n + 1) ss live :: K) (st.put d (.lit (.tuple #[]))) := rfl

/-! ### regions whose order is open -/

variable {base i : Nat} {deps : List (List Nat)} {rs : List Rec} {fp : List Nat}

def recs (rs : List Rec) (i : Nat) (fp wr : List Nat) : List Rec := rs ++ [Rec.mk i fp wr].filter Rec.loud

theorem Run_dr_nil : Rn T ow k (.dr base i [] deps live rs :: K) st = br (pairsOK deps rs) (Rn T ow k K (trim live st)) none := by
  simp only [Rn, RunX, stepsD, List.filter_nil, List.append_nil]

noncomputable def aftD (T : Tab) (ow : Owns) (k : AExit → St → Option R) (d : Option Nat) (base i : Nat) (ss : List AStep) (deps : List (List Nat)) (live : List Nat) (rs : List Rec) (K : List Fr) (st : St) (fp : List Nat) : Option (V × Upd) → Option R
  | some (v, u) => br ((u.map (·.1)).all (fun b => b == (base + i) || b ∈ fp) && (!(u.map (·.1)).contains (base + i) || (st.heap (base + i)).isNone))
      (Rn T ow k (.dr base (i + 1) ss deps live (recs rs i fp (u.map (·.1))) :: K) ((st.upd u).put d v)) none
  | none => none

theorem Run_dr (op : AOp) : Rn T ow k (.dr base i (⟨d, op, none⟩ :: ss) deps live rs :: K) st =
    aftD T ow k d base i ss deps live rs K st (fpOf ow op st.ev st.heap) (opSem (Call T ow) ow op st.ev (restrict st.heap (fpOf ow op st.ev st.heap)) (base + i)) := by
  unfold aftD
  simp only [Rn, RunX, stepsD, stepD, St.want]
  cases ho : opSem (Call T ow) ow op st.ev (restrict st.heap (fpOf ow op st.ev st.heap)) (base + i) with
  | none => rfl
  | some p =>
    obtain ⟨v, u⟩ := p
    dsimp only
    by_cases hc : ((u.map (·.1)).all (fun b => b == (base + i) || b ∈ fpOf ow op st.ev st.heap) && (!(u.map (·.1)).contains (base + i) || (st.heap (base + i)).isNone)) = true
    · rw [hc, br_true, if_pos rfl]
      dsimp only
      cases stepsD (Call T ow) ow base ss (i + 1) ((st.upd u).put d v) with
      | none => rfl
      | some q =>
        obtain ⟨st2, rs2⟩ := q
        simp only [recs, List.filter_cons, List.filter_nil, List.append_assoc]
        cases Rec.loud ⟨i, fpOf ow op st.ev st.heap, u.map (·.1)⟩ <;> rfl
    · rw [Bool.not_eq_true] at hc
      rw [hc, br_false, if_neg (by decide)]

theorem aftD_some (v : V) (u : Upd) : aftD T ow k d base i ss deps live rs K st fp (some (v, u)) = br ((u.map (·.1)).all (fun b => b == (base + i) || b ∈ fp) && (!(u.map (·.1)).contains (base + i) || (st.heap (base + i)).isNone))
      (Rn T ow k (.dr base (i + 1) ss deps live (recs rs i fp (u.map (·.1))) :: K) ((st.upd u).put d v)) none := rfl
theorem aftD_quiet (v : V) : aftD T ow k d base i ss deps live rs K st fp (some (v, [])) = Rn T ow k (.dr base (i + 1) ss deps live (recs rs i fp []) :: K) (st.put d v) := rfl
theorem aftD_none : aftD T ow k d base i ss deps live rs K st fp none = none := rfl
theorem aftD_br (c : Bool) (x y : Option (V × Upd)) : aftD T ow k d base i ss deps live rs K st fp (br c x y) = br c (aftD T ow k d base i ss deps live rs K st fp x) (aftD T ow k d base i ss deps live rs K st fp y) := by cases c <;> rfl
theorem aftD_bind {α : Type} (x : Option α) (f : α → Option (V × Upd)) : aftD T ow k d base i ss deps live rs K st fp (x.bind f) = x.bind (fun a => aftD T ow k d base i ss deps live rs K st fp (f a)) := by cases x <;> rfl

noncomputable def gdD (T : Tab) (ow : Owns) (k : AExit → St → Option R) (t : Nat) (b : Bool) (d : Option Nat) (op : AOp) (base i : Nat) (ss : List AStep) (deps : List (List Nat)) (live : List Nat) (rs : List Rec) (K : List Fr) (st : St) : V → Option R
  | .lit (.bool c) => br (c == b) (Rn T ow k (.dr base i (⟨d, op, none⟩ :: ss) deps live rs :: K) { st with e := aset t (.lit (.bool c)) st.e })
      (Rn T ow k (.dr base (i + 1) ss deps live rs :: K) ({ st with e := aset t (.lit (.bool c)) st.e }.put d (.lit (.tuple #[]))))
  | .lit (.tuple _) => Rn T ow k (.dr base (i + 1) ss deps live rs :: K) (st.put d (.lit (.tuple #[])))
  | _ => none

theorem dr_skip (op : AOp) (g : Nat × Bool) (h : st.want (some g) = some false) : Rn T ow k (.dr base i (⟨d, op, some g⟩ :: ss) deps live rs :: K) st = Rn T ow k (.dr base (i + 1) ss deps live rs :: K) (st.put d (.lit (.tuple #[]))) := by
  simp only [Rn, RunX, stepsD, stepD, h]
  cases stepsD (Call T ow) ow base ss (i + 1) (st.put d (.lit (.tuple #[]))) with
  | none => rfl
  | some q => obtain ⟨st2, rs2⟩ := q; rfl
theorem dr_do (op : AOp) (g : Nat × Bool) (h : st.want (some g) = some true) : Rn T ow k (.dr base i (⟨d, op, some g⟩ :: ss) deps live rs :: K) st = Rn T ow k (.dr base i (⟨d, op, none⟩ :: ss) deps live rs :: K) st := by
  have h2 : st.want none = some true := rfl
  simp only [Rn, RunX, stepsD, stepD, h, h2]
theorem dr_stop (op : AOp) (g : Nat × Bool) (h : st.want (some g) = none) : Rn T ow k (.dr base i (⟨d, op, some g⟩ :: ss) deps live rs :: K) st = none := by
  simp only [Rn, RunX, stepsD, stepD, h]

theorem Run_dr_guard (t : Nat) (b : Bool) (op : AOp) : Rn T ow k (.dr base i (⟨d, op, some (t, b)⟩ :: ss) deps live rs :: K) st = gdD T ow k t b d op base i ss deps live rs K st (st.get t) := by
  cases hg : st.get t with
  | lit v =>
    cases v with
    | bool c =>
      simp only [gdD]
      rw [get_aset hg (by simp)]
      cases hcb : (c == b)
      · rw [br_false]; exact dr_skip op (t, b) (by simp [St.want, hg, hcb])
      · rw [br_true]; exact dr_do op (t, b) (by simp [St.want, hg, hcb])
    | tuple xs => exact dr_skip op (t, b) (by simp [St.want, hg])
    | _ => exact dr_stop op (t, b) (by simp [St.want, hg])
  | _ => exact dr_stop op (t, b) (by simp [St.want, hg])

theorem gdD_true (t : Nat) (op : AOp) (c : Bool) : gdD T ow k t true d op base i ss deps live rs K st (.lit (.bool c)) =
    br c (Rn T ow k (.dr base i (⟨d, op, none⟩ :: ss) deps live rs :: K) { st with e := aset t (.lit (.bool true)) st.e })
      (Rn T ow k (.dr base (i + 1) ss deps live rs :: K) ({ st with e := aset t (.lit (.bool false)) st.e }.put d (.lit (.tuple #[])))) := by cases c <;> rfl
theorem gdD_false (t : Nat) (op : AOp) (c : Bool) : gdD T ow k t false d op base i ss deps live rs K st (.lit (.bool c)) =
    br c (Rn T ow k (.dr base (i + 1) ss deps live rs :: K) ({ st with e := aset t (.lit (.bool true)) st.e }.put d (.lit (.tuple #[]))))
      (Rn T ow k (.dr base i (⟨d, op, none⟩ :: ss) deps live rs :: K) { st with e := aset t (.lit (.bool false)) st.e }) := by cases c <;> rfl
theorem gdD_tuple (t : Nat) (b : Bool) (op : AOp) (xs : Array Value) : gdD T ow k t b d op base i ss deps live rs K st (.lit (.tuple xs)) = Rn T ow k (.dr base (i + 1) ss deps live rs :: K) (st.put d (.lit (.tuple #[]))) := rfl

end

/-! ### calls and loops -/

/-- What stands at a function's end. -/
def endK (af : AFunc) (m : Nat) (x : AExit) (st : St) : Option (V × List Blk) := fini af (finish af m (some (x, st)))

theorem Call_run {T : Tab} {ow : Owns} {f : FuncId} {af : AFunc} (hT : T f = some (.code af)) (a : List V) (b : List Blk) : Call T ow f a b = Rn T ow (endK af b.length) [.code af.body] (start a b) := by
  rw [Call_eq, hT]
  dsimp only
  rw [Run_code]
  cases Exec T ow af.body (start a b) with
  | none => rfl
  | some p => obtain ⟨e, st⟩ := p; cases e <;> rfl

/-- A loop that goes on as long as its step says so. -/
def iter {S E : Type} (step : S → Option (S ⊕ E)) : Nat → S → Option E
  | 0, _ => none
  | n + 1, s => match step s with
    | none => none
    | some (.inl s') => iter step n s'
    | some (.inr e) => some e

theorem iter_step {S E : Type} {step : S → Option (S ⊕ E)} : ∀ {n : Nat} {s : S} {e : E}, iter step n s = some e → iter step (n + 1) s = some e
  | 0, _, _, h => by cases h
  | n + 1, s, e, h => by
    simp only [iter] at h ⊢
    split at h
    · cases h
    · rename_i s' hs; exact iter_step h
    · rename_i e' hs; exact h

theorem iter_le {S E : Type} {step : S → Option (S ⊕ E)} {n m : Nat} (hnm : n ≤ m) {s : S} {e : E} (h : iter step n s = some e) : iter step m s = some e := by
  induction hnm with
  | refl => exact h
  | step _ ih => exact iter_step ih

noncomputable def Loop {S E : Type} (step : S → Option (S ⊕ E)) (s : S) : Option E := lim (fun n => iter step n s)

theorem of_Loop {S E : Type} {step : S → Option (S ⊕ E)} {s : S} {e : E} (h : Loop step s = some e) : ∃ n, iter step n s = some e := of_lim h
theorem Loop_of {S E : Type} {step : S → Option (S ⊕ E)} {n : Nat} {s : S} {e : E} (h : iter step n s = some e) : Loop step s = some e :=
  lim_of (g := fun n => iter step n s) (fun _ _ _ hnm h => iter_le hnm h) h

def loopK {S E : Type} (lp : S → Option E) : Option (S ⊕ E) → Option E
  | none => none
  | some (.inl s') => lp s'
  | some (.inr e) => some e

theorem Loop_eq {S E : Type} (step : S → Option (S ⊕ E)) (s : S) : Loop step s = loopK (Loop step) (step s) := by
  refine opt_ext (fun r h => ?_) (fun r h => ?_)
  · obtain ⟨n, hn⟩ := of_Loop h
    cases n with
    | zero => cases hn
    | succ n =>
      simp only [iter] at hn
      split at hn
      · cases hn
      · rename_i s' hs; rw [hs]; exact Loop_of hn
      · rename_i e' hs; rw [hs]; exact hn
  · cases hs : step s with
    | none => rw [hs] at h; cases h
    | some o =>
      rw [hs] at h
      cases o with
      | inl s' =>
        obtain ⟨n, hn⟩ := of_Loop (show Loop step s' = some r from h)
        exact Loop_of (n := n + 1) (by simp only [iter, hs]; exact hn)
      | inr e => exact Loop_of (n := 1) (by simp only [iter, hs]; exact h)

/-- The end of a loop's round. -/
def outK (x : AExit) (st : St) : Option (AExit × St) := some (x, st)

theorem Exec_run {T : Tab} {ow : Owns} (c : ACode) (st : St) : Exec T ow c st = Rn T ow outK [.code c] st := by
  rw [Run_code]
  cases Exec T ow c st with
  | none => rfl
  | some p => obtain ⟨e, st⟩ := p; cases e <;> rfl

theorem loop_run {T : Tab} {ow : Owns} {S E : Type} {c : ACode} {step : S → Option (S ⊕ E)} {eS : S → St} {eE : E → AExit × St} (hne : ∀ e, (eE e).1 ≠ .normal)
    (hb : ∀ s o, step s = some o → Rn T ow outK [.code c] (eS s) = some (match o with
      | .inl s' => (.normal, eS s')
      | .inr e => eE e)) {s : S} {e : E} (h : Loop step s = some e) : Exec T ow (.loop c) (eS s) = some (eE e) := by
  obtain ⟨n, hn⟩ := of_Loop h
  clear h
  induction n generalizing s with
  | zero => cases hn
  | succ n ih =>
    simp only [iter] at hn
    rw [Exec_loop, Exec_run]
    split at hn
    · cases hn
    · rename_i s' hs
      rw [hb s _ hs]
      exact ih hn
    · rename_i e' hs
      rw [hb s _ hs]
      cases hn
      dsimp only
      have := hne e
      revert this
      generalize eE e = p
      obtain ⟨x, st⟩ := p
      intro this
      cases x with
      | normal => exact absurd rfl this
      | exit id => rfl
      | ret => rfl

/-! ### loops that shut what a round has made -/

/-- A ghost ahead of all else in a piece of code. -/
def regh (g : Ghost) : ACode → ACode
  | .seq a b => .seq (regh g a) b
  | .block id a => .block id (regh g a)
  | c => .ghost g c

section
variable {R : Type} {T : Tab} {ow : Owns} {k : AExit → St → Option R}

def ghE (T : Tab) (ow : Owns) (c : ACode) : Option St → Option (AExit × St) → Option (AExit × St)
  | some _, r => r
  | none, _ => none

theorem Exec_regh (g : Ghost) : ∀ (c : ACode) (st : St), Exec T ow (regh g c) st = (match doGhost st g with
    | some st' => Exec T ow c st'
    | none => none)
  | .seq a b, st => by
    simp only [regh]
    rw [Exec_seq, Exec_regh g a st]
    cases doGhost st g with
    | none => rfl
    | some st' => dsimp only; rw [Exec_seq]
  | .block id a, st => by
    simp only [regh]
    rw [Exec_block, Exec_regh g a st]
    cases doGhost st g with
    | none => rfl
    | some st' => dsimp only; rw [Exec_block]
  | .skip, st => Exec_ghost _ _ _
  | .region _ _ _, st => Exec_ghost _ _ _
  | .drawn _ _ _ _, st => Exec_ghost _ _ _
  | .cond _ _ _, st => Exec_ghost _ _ _
  | .loop _, st => Exec_ghost _ _ _
  | .exit _, st => Exec_ghost _ _ _
  | .ret, st => Exec_ghost _ _ _
  | .ghost _ _, st => Exec_ghost _ _ _

/-- A loop, behind its first ghost. -/
noncomputable def LoopX (T : Tab) (ow : Owns) (g : Ghost) (c : ACode) (st : St) : Option (AExit × St) := match Exec T ow c st with
  | some (.normal, st') => Exec T ow (.loop (regh g c)) st'
  | r => r

noncomputable def goL (T : Tab) (ow : Owns) (k : AExit → St → Option R) (K : List Fr) (g : Ghost) (c : ACode) : Option St → Option R
  | some st' => goR T ow k K (LoopX T ow g c st')
  | none => none

theorem Exec_loopX (g : Ghost) (c : ACode) (st : St) : Exec T ow (.loop (regh g c)) st = (match doGhost st g with
    | some st' => LoopX T ow g c st'
    | none => none) := by
  rw [Exec_loop, Exec_regh]
  cases doGhost st g <;> rfl

theorem Run_loopX (g : Ghost) (c : ACode) (K : List Fr) (st : St) : Rn T ow k (.code (.loop (regh g c)) :: K) st = goL T ow k K g c (doGhost st g) := by
  rw [Run_code, Exec_loopX]
  cases doGhost st g <;> rfl
theorem goL_some (K : List Fr) (g : Ghost) (c : ACode) (st' : St) : goL T ow k K g c (some st') = goR T ow k K (LoopX T ow g c st') := rfl

/-- The end of a round, with the ghost that is ahead of the next one. -/
def ogM : Option St → Option (AExit × St)
  | some st => some (.normal, st)
  | none => none
def outG (g : Ghost) : AExit → St → Option (AExit × St)
  | .normal, st => ogM (doGhost st g)
  | x, st => some (x, st)
theorem outG_normal (g : Ghost) (st : St) : outG g .normal st = ogM (doGhost st g) := rfl
theorem outG_exit (g : Ghost) (id : Nat) (st : St) : outG g (.exit id) st = some (.exit id, st) := rfl
theorem outG_ret (g : Ghost) (st : St) : outG g .ret st = some (.ret, st) := rfl
theorem ogM_some (st : St) : ogM (some st) = some (.normal, st) := rfl

theorem loop_runG {S E : Type} {g : Ghost} {c : ACode} {step : S → Option (S ⊕ E)} {eS : S → St} {eE : E → AExit × St} (hne : ∀ e, (eE e).1 ≠ .normal)
    (hb : ∀ s o, step s = some o → Rn T ow (outG g) [.code c] (eS s) = some (match o with
      | .inl s' => (.normal, eS s')
      | .inr e => eE e)) {s : S} {e : E} (h : Loop step s = some e) : LoopX T ow g c (eS s) = some (eE e) := by
  obtain ⟨n, hn⟩ := of_Loop h
  clear h
  induction n generalizing s with
  | zero => cases hn
  | succ n ih =>
    simp only [iter] at hn
    unfold LoopX
    split at hn
    · cases hn
    · rename_i s' hs
      have h1 := hb s _ hs
      rw [Run_code] at h1
      cases hx : Exec T ow c (eS s) with
      | none => rw [hx] at h1; cases h1
      | some p =>
        obtain ⟨x, st'⟩ := p
        rw [hx] at h1
        cases x with
        | normal =>
          dsimp only
          rw [Exec_loopX]
          simp only [goR, Rn, RunX, outG, ogM] at h1
          cases hg : doGhost st' g with
          | none => rw [hg] at h1; cases h1
          | some st2 => rw [hg] at h1; cases h1; exact ih hn
        | exit id => simp [goR, Unw, RunX, outG] at h1
        | ret => simp [goR, outG] at h1
    · rename_i e' hs
      have h1 := hb s _ hs
      cases hn
      have hn2 := hne e
      rw [Run_code] at h1
      dsimp only at h1
      revert h1 hn2
      generalize eE e = q
      intro h1 hn2
      cases hx : Exec T ow c (eS s) with
      | none => rw [hx] at h1; cases h1
      | some p =>
        obtain ⟨x, st'⟩ := p
        rw [hx] at h1
        cases x with
        | normal =>
          simp only [goR, Rn, RunX, outG, ogM] at h1
          cases hg : doGhost st' g with
          | none => rw [hg] at h1; cases h1
          | some st2 => rw [hg] at h1; cases h1; exact absurd rfl hn2
        | exit id => exact h1
        | ret => exact h1

/-! ### steps of a walk -/

variable {d : Option Nat} {n : Nat} {ss : List AStep} {live : List Nat} {K : List Fr} {st : St} {base i : Nat} {deps : List (List Nat)} {rs : List Rec} {fp : List Nat} {r : R}

theorem goR_of {x : Option (AExit × St)} {p : AExit × St} (h : x = some p) (hr : goR T ow k K (some p) = some r) : goR T ow k K x = some r := by rw [h]; exact hr
theorem unroll_eq (g : Ghost) (c : ACode) : goR T ow k K (LoopX T ow g c st) = Rn T ow k (.code c :: .code (.loop (regh g c)) :: K) st := by
  rw [Run_code]
  unfold LoopX
  cases hx : Exec T ow c st with
  | none => rfl
  | some p =>
    obtain ⟨x, st'⟩ := p
    cases x with
    | normal => dsimp only; simp only [goR]; rw [Run_code]; rfl
    | exit id => rfl
    | ret => rfl
theorem unroll_of {g : Ghost} {c : ACode} (h : Rn T ow k (.code c :: .code (.loop (regh g c)) :: K) st = some r) : goR T ow k K (LoopX T ow g c st) = some r := by rw [unroll_eq]; exact h
theorem bind_some {α β : Type} {x : Option α} {a : α} {F : α → Option β} {r : β} (h : x = some a) (hr : F a = some r) : x.bind F = some r := by rw [h]; exact hr

end
end Go.AI
