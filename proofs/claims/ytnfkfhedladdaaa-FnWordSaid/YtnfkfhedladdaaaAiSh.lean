/- Short forms of code, hints told by the code itself, and the steps by which walks go. -/
import Derived.Test.YtnfkfhedladdaaaAiW
import Derived.Test.YtnfkfhedladdaaaAiComp
set_option linter.unusedVariables false
namespace Go.AI
@[reducible] def qg (d : Nat) (o : AOp) : AStep := ⟨some d, o, none⟩
@[reducible] def qG (d : Nat) (o : AOp) (t : Nat) (b : Bool) : AStep := ⟨some d, o, some (t, b)⟩
@[reducible] def qI (n : Int) : Opd := .c (.int .i64 n)
@[reducible] def qm (d s : Nat) : AStep := ⟨some d, .mv (.t s), none⟩
@[reducible] def qi (d : Nat) (n : Int) : AStep := ⟨some d, .mv (.c (.int .i64 n)), none⟩
@[reducible] def ql (d x : Nat) : AStep := ⟨some d, .load none (.t x), none⟩
@[reducible] def qL (d n x : Nat) : AStep := ⟨some d, .load (some n) (.t x), none⟩
@[reducible] def qs (d n a x : Nat) : AStep := ⟨some d, .store n (.t a) (.t x), none⟩
@[reducible] def qb (d : Nat) (o : BinOp) (x y : Nat) : AStep := ⟨some d, .bin o (.t x) (.t y), none⟩
@[reducible] def qB (d : Nat) (o : BinOp) (x : Nat) (n : Int) : AStep := ⟨some d, .bin o (.t x) (.c (.int .i64 n)), none⟩
@[reducible] def qD (d : Nat) (o : BinOp) (n : Int) (y : Nat) : AStep := ⟨some d, .bin o (.c (.int .i64 n)) (.t y), none⟩
@[reducible] def qo (d k x : Nat) : AStep := ⟨some d, .off k (.t x), none⟩
@[reducible] def qc (d f : Nat) (l : List Nat) : AStep := ⟨some d, .call f (l.map .t), none⟩
@[reducible] def qe (d x i : Nat) : AStep := ⟨some d, .ext (.t x) i, none⟩
@[reducible] def qk (d x : Nat) : AStep := ⟨some d, .nilCheck (.t x), none⟩
@[reducible] def qn (d x : Nat) : AStep := ⟨some d, .len false (.t x), none⟩
@[reducible] def qx (d e x i : Nat) : AStep := ⟨some d, .idx e (.t x) (.t i), none⟩
@[reducible] def qX (d l e x i : Nat) : AStep := ⟨some d, .idxArr l e (.t x) (.t i), none⟩
@[reducible] def qS (b : Nat) (ss : List AStep) (l : List Nat) : ACode := .region b ss l

def lvOf : ACode → List (Nat × List Nat)
  | .region b _ l => [(b / 1000 - 1, l)]
  | .drawn b _ _ l => [(b / 1000 - 1, l)]
  | .seq a b => lvOf a ++ lvOf b
  | .cond _ a b => lvOf a ++ lvOf b
  | .block _ c => lvOf c
  | .loop c => lvOf c
  | .ghost _ c => lvOf c
  | _ => []
def frOf : ACode → Nat
  | .region b _ _ => b / 1000 - 1
  | .drawn b _ _ _ => b / 1000 - 1
  | .ghost _ c => frOf c
  | _ => 0
def ghOf : ACode → List (Nat × Ghost)
  | .seq a b => ghOf a ++ ghOf b
  | .cond _ a b => ghOf a ++ ghOf b
  | .block _ c => ghOf c
  | .loop c => ghOf c
  | .ghost g c => (frOf c, g) :: ghOf c
  | _ => []
def hnO (a : AFunc) : Hints := ⟨lvOf a.body, ghOf a.body, a.keep, a.raw⟩

def owg : List (Nat × List Nat) → Nat → List Nat
  | [], _ => []
  | (j, v) :: r, k => br (decide (j = k)) v (owg r k)
theorem owg_nil (k : Nat) : owg [] k = [] := rfl
theorem owg_cons (j k : Nat) (v : List Nat) (r : List (Nat × List Nat)) : owg ((j, v) :: r) k = br (decide (j = k)) v (owg r k) := rfl
attribute [go_sem] owg_nil owg_cons

/-! ### ghosts that give slices without memory a block -/

section
variable {b o new m : Nat} {x : List (Nat × V)} {y : List (Nat × Blk)}
def ghB (b : Ghost) : Option St → Option St
  | some st => doGhost st b
  | none => none
theorem gh_both (st : St) (a b : Ghost) : doGhost st (.both a b) = ghB b (doGhost st a) := by
  simp only [doGhost]; cases doGhost st a <;> rfl
theorem ghB_some (b : Ghost) (st : St) : ghB b (some st) = doGhost st b := rfl
def nilT (st : St) (t new m : Nat) : V → Option St
  | .lit (.slice none 0 0) => br ((st.heap new).isNone && decide (0 < m)) (some { e := aset t (.sl new 0 0) st.e, m := aset new ⟨m, false, []⟩ st.m }) (some st)
  | _ => some st
theorem nil_br {α : Type} (o : Option α) (m : Nat) (x y : Option St) : (if o.isNone = true ∧ 0 < m then x else y) = br (o.isNone && decide (0 < m)) x y := by
  cases o.isNone <;> by_cases h : 0 < m <;> simp [h, br]
theorem gh_nilT (st : St) (t : Nat) : doGhost st (.nilTmp t new m) = nilT st t new m (st.get t) := by
  simp only [doGhost, nilT, nil_br]
  rfl
theorem nilT_nil (t : Nat) : nilT ⟨x, y⟩ t new m (.lit (.slice none 0 0)) = br ((St.heap ⟨x, y⟩ new).isNone && decide (0 < m)) (some ⟨aset t (.sl new 0 0) x, aset new ⟨m, false, []⟩ y⟩) (some ⟨x, y⟩) := rfl
theorem nilT_own (st : St) (t c s n : Nat) : nilT st t new m (.sl c s n) = some st := rfl
theorem nilT_imm (st : St) (t c : Nat) (r : List (List V)) : nilT st t new m (.imm c r) = some st := rfl
def nilD (st : St) (b o new m k : Nat) (row : List V) : Option V → Option St
  | some (.lit (.slice none 0 0)) => br ((st.heap new).isNone && decide (0 < m)) (some { st with m := aset new ⟨m, false, []⟩ (aset b ⟨k, true, [row.set o (.sl new 0 0)]⟩ st.m) }) (some st)
  | _ => some st
def nilC (st : St) (b o new m : Nat) : Option Blk → Option St
  | some ⟨k, true, [row]⟩ => nilD st b o new m k row row[o]?
  | _ => some st
theorem gh_nilC (st : St) : doGhost st (.nilCell b o new m) = nilC st b o new m (st.heap b) := by
  unfold doGhost nilC
  cases st.heap b with
  | none => rfl
  | some k =>
    obtain ⟨e, op, rows⟩ := k
    cases op with
    | false => simp
    | true =>
      dsimp only
      rw [if_pos rfl]
      match rows with
      | [] => rfl
      | [row] =>
        dsimp only
        simp only [nilD, nil_br]
        rfl
      | _ :: _ :: _ => rfl
theorem nilC_op (st : St) (k : Nat) (row : List V) : nilC st b o new m (some ⟨k, true, [row]⟩) = nilD st b o new m k row row[o]? := rfl
theorem nilD_nil (k : Nat) (row : List V) : nilD ⟨x, y⟩ b o new m k row (some (.lit (.slice none 0 0))) = br ((St.heap ⟨x, y⟩ new).isNone && decide (0 < m)) (some ⟨x, aset new ⟨m, false, []⟩ (aset b ⟨k, true, [row.set o (.sl new 0 0)]⟩ y)⟩) (some ⟨x, y⟩) := rfl
theorem nilD_own (st : St) (k c s n : Nat) (row : List V) : nilD st b o new m k row (some (.sl c s n)) = some st := rfl
end
theorem gh_drop (x : List (Nat × V)) (y : List (Nat × Blk)) (ts : List Nat) : doGhost ⟨x, y⟩ (.drop ts) = some ⟨mapD ts x, y⟩ := rfl
theorem mapD_nil (ts : List Nat) : mapD ts [] = [] := rfl
theorem mapD_cons (ts : List Nat) (t : Nat) (v : V) (r : List (Nat × V)) : mapD ts ((t, v) :: r) = (t, br (ts.contains t) .undef v) :: mapD ts r := by
  simp only [mapD]; by_cases h : t ∈ ts <;> simp [h, br]
attribute [go_sem] gh_drop mapD_nil mapD_cons gh_both ghB_some gh_nilT nilT_nil nilT_own nilT_imm gh_nilC nilC_op nilD_nil nilD_own

/-! ### steps of a walk -/

theorem wb {α β : Type} {c : Bool} {x y : Option α} {r : α} {X Y Q : Option β} (h : br c x y = some r) (k1 : x = some r → X = Q) (k2 : y = some r → Y = Q) : br c X Y = Q := by
  cases c
  · exact k2 h
  · exact k1 h
theorem wn {α β γ : Type} {x : Option γ} {g : γ → Option α} {F : γ → Option β} {r : α} {Q : Option β} (h : x.bind g = some r) (k : ∀ a, g a = some r → F a = Q) : x.bind F = Q := by
  cases x with
  | none => cases h
  | some a => exact k a h
def alt {α β γ : Type} (f : α → γ) (g : β → γ) : α ⊕ β → γ
  | .inl a => f a
  | .inr b => g b
theorem alt_inl {α β γ : Type} (f : α → γ) (g : β → γ) (a : α) : alt f g (.inl a) = f a := rfl
theorem alt_inr {α β γ : Type} (f : α → γ) (g : β → γ) (b : β) : alt f g (.inr b) = g b := rfl
attribute [go_sem] alt_inl alt_inr

theorem lrG {T : Tab} {ow : Owns} {S E : Type} {g : Ghost} {c : ACode} {step : S → Option (S ⊕ E)} {eS : S → St} {eE : E → AExit × St}
    (hb : ∀ s o, step s = some o → Rn T ow (outG g) [.code c] (eS s) = some (match o with
      | .inl s' => (.normal, eS s')
      | .inr e => eE e)) {s : S} {e : E} (h : Loop step s = some e) (hne : ∀ e, (eE e).1 ≠ .normal := by intro e; (repeat' (obtain e | e := (e : _ ⊕ _))); (all_goals (intro h; cases h))) : LoopX T ow g c (eS s) = some (eE e) :=
  loop_runG hne hb h

/-- The rest of a walk: what the plain function says of its own way, the machine goes. -/
theorem go {P : Prop} (p : P := by
  repeat' first
    | with_reducible refine wb h (fun h => ?_) (fun h => ?_)
    | with_reducible refine wn h (fun x h => ?_)
    | (obtain ⟨e, h1, h⟩ := bd h
       first | with_reducible replace h1 := d1 h1 | with_reducible replace h1 := d2 h1 | with_reducible replace h1 := d3 h1 | with_reducible replace h1 := d4 h1 | with_reducible replace h1 := d5 h1 | with_reducible replace h1 := d6 h1 | with_reducible replace h1 := d7 h1 | with_reducible replace h1 := d8 h1 | with_reducible replace h1 := d9 h1 | with_reducible replace h1 := d10 h1 | with_reducible replace h1 := d11 h1 | with_reducible replace h1 := d12 h1 | with_reducible replace h1 := d13 h1 | with_reducible replace h1 := d14 h1 | with_reducible replace h1 := d15 h1 | with_reducible replace h1 := d16 h1 | with_reducible replace h1 := d17 h1 | with_reducible replace h1 := d18 h1 | with_reducible replace h1 := d19 h1 | with_reducible replace h1 := d20 h1 | with_reducible replace h1 := d21 h1 | with_reducible replace h1 := d22 h1 | with_reducible replace h1 := d23 h1 | with_reducible replace h1 := d24 h1
       try simp only [List.length_set] at h1
       first | refine call_aft h1 ?_ | refine call_aftD h1 ?_ | refine goR_of h1 ?_
       repeat' (obtain e | e := (e : _ ⊕ _))
       all_goals (try simp only [alt_inl, alt_inr] at h)
       all_goals simp +decide only [go_sem, reduceIte, Nat.reduceAdd])
    | refine wb h (fun h => ?_) (fun h => ?_)
    | refine wn h (fun x h => ?_)
    | (cases h <;> first | rfl | (simp only [List.length_set, go_sem]; done))) : P := p
end Go.AI
