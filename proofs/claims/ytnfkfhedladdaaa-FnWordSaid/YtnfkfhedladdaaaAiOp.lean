/- Each operation of the abstract machine's other than a call is sound. -/
import Derived.Test.YtnfkfhedladdaaaAiOps9
import Derived.Test.YtnfkfhedladdaaaAiOps7N
set_option linter.unusedVariables false
set_option linter.unusedSimpArgs false
namespace Go.AI

def isCallOp : AOp → Bool
  | .call .. | .dyn .. => true
  | _ => false

section
variable {P : Program} {μ : Mu} {h : Heap} {w : World} {f : Nat → V} {a : Act}

theorem map_some {α β : Type} {x : Option α} {g : α → β} {y : β} (h : x.map g = some y) : ∃ z, x = some z ∧ y = g z := by
  cases x with
  | none => cases h
  | some z => cases h; exact ⟨z, rfl, rfl⟩

theorem opsOf_two {l : List Operand} {x' y' : Opd} (h : opdsOf l = some [x', y']) : ∃ x y, l = [x, y] ∧ opdOf x = some x' ∧ opdOf y = some y' := by
  match l with
  | [] => simp [opdsOf] at h
  | [x] =>
    simp only [opdsOf] at h
    split at h
    · cases h; rename_i h2; cases h2
    · cases h
  | [x, y] =>
    simp only [opdsOf] at h
    split at h
    · rename_i a b h1 h2
      cases h
      split at h2
      · rename_i c d h3 h4; cases h2; exact ⟨x, y, rfl, h1, h3⟩
      · cases h2
    · cases h
  | x :: y :: z :: r =>
    simp only [opdsOf] at h
    split at h
    · rename_i a b h1 h2
      cases h
      split at h2
      · rename_i c d h3 h4
        cases h2
        split at h4
        · cases h4
        · cases h4
      · cases h2
    · cases h

theorem opsOf_one {l : List Operand} {x' : Opd} (h : opdsOf l = some [x']) : ∃ x, l = [x] ∧ opdOf x = some x' := by
  match l with
  | [] => simp [opdsOf] at h
  | [x] =>
    simp only [opdsOf] at h
    split at h
    · cases h; rename_i a b h1 h2; exact ⟨x, rfl, h1⟩
    · cases h
  | x :: y :: r =>
    simp only [opdsOf] at h
    split at h
    · rename_i a b h1 h2
      cases h
      split at h2
      · cases h2
      · cases h2
    · cases h

theorem call_sound [Frame] (H : HRel μ h w) (E : ERel μ h w f a) {C : CallS} {ow : FuncId → List Nat} {o : Oper} {c : Call} {ao : AOp} (hop : o.op = .call c) (hc : compOp P (.call c) = some ao) (hn : isCallOp ao = false) {new : Nat} {v : V} {u : Upd}
    (hs : opSem C ow ao (Opd.ev f) h new = some (v, u)) : OpOK P o a μ h w v u := by
  simp only [compOp] at hc
  split at hc
  · cases hc; simp [isCallOp] at hn
  · split at hc
    · cases hc; simp [isCallOp] at hn
    · cases hc
  · rename_i x' hca hargs
    obtain ⟨x, hl, hx⟩ := opsOf_one hargs
    split at hc
    · rename_i t ht
      split at hc
      · rename_i hu; cases hc; exact opd_lenS H E hop hca hl hx ht hu hs
      · rename_i hu; cases hc; exact opd_lenL H E hop hca hl hx ht hu hs
      · rename_i hu; cases hc; exact opd_lenArr H E hop hca hl hx ht hu hs
      · cases hc
    · cases hc
  · rename_i x' y' hca hargs
    obtain ⟨x, y, hl, hx, hy⟩ := opsOf_two hargs
    split at hc
    · rename_i t u' ht hu'
      split at hc
      · rename_i e d he hd
        split at hc
        · rename_i i z hi hz
          split at hc
          · cases hc
            exact opd_appendN H E hop hca hl hx hy ht hu' hd (elem_under he) hi hz hs
          · rename_i hnd
            cases hc
            exact opd_append H E hop hca hl hx hy ht hu' hd (fun k hk => hnd k hk) (elem_under he) hi hz hs
        · cases hc
      · cases hc
    · cases hc
  · rename_i x' y' hca hargs
    obtain ⟨x, y, hl, hx, hy⟩ := opsOf_two hargs
    split at hc
    · rename_i t ht
      split at hc
      · rename_i e he
        split at hc
        · rename_i s hsz
          cases hc
          exact opd_copy H E hop hca hl hx hy ht (elem_under he) hsz hs
        · cases hc
      · cases hc
    · cases hc
  · rename_i x' y' hca hargs
    obtain ⟨x, y, hl, hx, hy⟩ := opsOf_two hargs
    cases hc
    exact opd_max2 H E hop hca hl hx hy hs
  · rename_i x' y' hca hargs
    obtain ⟨x, y, hl, hx, hy⟩ := opsOf_two hargs
    cases hc
    exact opd_min2 H E hop hca hl hx hy hs
  · cases hc

theorem op_sound [Frame] (H : HRel μ h w) (E : ERel μ h w f a) {C : CallS} {ow : FuncId → List Nat} {o : Oper} {ao : AOp} (hc : compOp P o.op = some ao) (hn : isCallOp ao = false) {new : Nat} {v : V} {u : Upd}
    (hs : opSem C ow ao (Opd.ev f) h new = some (v, u)) : OpOK P o a μ h w v u := by
  generalize hop : o.op = op at hc
  cases op with
  | move x =>
    simp only [compOp] at hc
    obtain ⟨x', hx, rfl⟩ := map_some hc
    simp only [opSem] at hs; cases hs
    exact opd_mv H E (.inl hop) hx
  | assign x =>
    simp only [compOp] at hc
    obtain ⟨x', hx, rfl⟩ := map_some hc
    simp only [opSem] at hs; cases hs
    exact opd_mv H E (.inr hop) hx
  | pick c x y =>
    simp only [compOp] at hc
    split at hc
    · rename_i h1 h2 h3; cases hc; exact opd_pick H E hop h1 h2 h3 hs
    · cases hc
  | alloc t =>
    simp only [compOp] at hc
    obtain ⟨z, hz, rfl⟩ := map_some hc
    simp only [opSem] at hs
    exact opd_alloc H hop hz hs
  | box t x =>
    simp only [compOp] at hc
    split at hc
    · rename_i h1 h2; cases hc; simp only [opSem] at hs; exact opd_box H E hop h2 hs
    · cases hc
  | build t ps => exact opd_build H E hop hc hs
  | buildSlice t len ps =>
    simp only [compOp] at hc
    split at hc
    · rename_i e he
      split at hc
      · rename_i h1 h2 h3; cases hc; exact opd_buildSlice H E hop (elem_under he) h1 h2 h3 hs
      · cases hc
    · cases hc
  | load t x =>
    simp only [compOp] at hc
    split at hc
    · rename_i h1 h2
      cases hc
      simp only [opSem] at hs
      split at hs
      · rename_i hr; cases hs; exact opd_load H E hop h2 h1 hr
      · cases hs
    · cases hc
  | store t x y =>
    simp only [compOp] at hc
    split at hc
    · rename_i h1 h2 h3; cases hc; exact opd_store H E hop h2 h3 h1 hs
    · cases hc
  | nilCheck x =>
    simp only [compOp] at hc
    obtain ⟨x', hx, rfl⟩ := map_some hc
    exact opd_nilCheck H E hop hx hs
  | binOp op t x y ty =>
    simp only [compOp] at hc
    split at hc
    · rename_i h1 h2
      split at hc
      · rename_i fs hu
        split at hc
        · rename_i hg
          simp only [Bool.and_eq_true, Bool.not_eq_true'] at hg
          split at hc
          · rename_i hk; cases hc; exact opd_eqAgg H E hop h1 h2 hu hg.1 hg.2 hk rfl hs
          · rename_i hk; cases hc; exact opd_eqAgg H E hop h1 h2 hu hg.1 hg.2 hk rfl hs
          · cases hc
        · cases hc
      · rename_i hu
        split at hc
        · cases hc; exact opd_beq H E hop h1 h2 hu rfl hs
        · cases hc; exact opd_beq H E hop h1 h2 hu rfl hs
        · cases hc
      · cases hc; exact opd_bin H E hop h1 h2 hs
      · cases hc; exact opd_bin H E hop h1 h2 hs
      · rename_i hu
        split at hc
        · cases hc; exact opd_isNil H E hop h1 h2 hu rfl hs
        · cases hc; exact opd_isNil H E hop h1 h2 hu rfl hs
        · cases hc
      · cases hc
    · cases hc
  | unOp op t x =>
    simp only [compOp] at hc
    obtain ⟨x', hx, rfl⟩ := map_some hc
    exact opd_un H E hop hx hs
  | convert s d x =>
    simp only [compOp] at hc
    split at hc
    · rename_i h1 h2 h3; cases hc; exact opd_conv H E hop h3 h1 h2 hs
    · rename_i h1 h2 h3; cases hc; exact opd_same H E hop h3 h1 h2 hs
    · rename_i h1 h2 h3
      split at hc
      · rename_i h4; cases hc; exact opd_toBytes H E hop h3 h1 h2 h4 hs
      · cases hc
    · rename_i h1 h2 h3
      split at hc
      · rename_i h4 h5; cases hc; exact opd_toStr H E hop h3 h1 h2 h4 hs
      · cases hc
    · rename_i h1 h2 h3
      split at hc
      · rename_i h4
        split at hc
        · rename_i h5; cases hc; exact opd_bytesOwn H E hop h3 h1 h2 h4 h5 hs
        · cases hc
      · cases hc
    · cases hc
  | sliceToArrayPointer t x =>
    simp only [compOp] at hc
    split at hc
    · rename_i h1 h2; cases hc; exact opd_arrOf H E hop h2 h1 hs
    · cases hc
  | makeFunc c fst caps =>
    cases c with
    | func g =>
      simp only [compOp] at hc
      split at hc
      · rename_i h1 h2; cases hc; exact opd_makeFunc H E hop h1 h2 hs
      · cases hc
    | _ => simp [compOp] at hc
  | makeSlice t l c =>
    simp only [compOp] at hc
    split at hc
    · rename_i e he
      split at hc
      · rename_i h1 h2 h3 h4; cases hc; exact opd_makeSlice H E hop h3 h4 (elem_under he) h1 h2 hs
      · cases hc
    · cases hc
  | slice t x lo hi mx =>
    simp only [compOp] at hc
    split at hc
    · rename_i h1 h2 h3 h4 h5
      cases hc
      cases mx with
      | none => exact opd_sliceStr H E hop h2 h3 h4 h1 hs
      | some m =>
        simp only [optOpd] at h5
        split at h5
        · cases h5
        · cases h5
    · rename_i h1 h2 h3 h4 h5
      split at hc
      · rename_i hsz; cases hc; exact opd_slice H E hop h2 h3 h4 h5 h1 hsz hs
      · cases hc
    · cases hc
  | fieldAddr t x n =>
    simp only [compOp] at hc
    split at hc
    · rename_i h1 h2
      split at hc
      · rename_i fd hf
        split at hc
        · rename_i hsz; cases hc; exact opd_off H E hop h2 h1 hf hsz hs
        · cases hc
      · cases hc
    · cases hc
  | field t x n =>
    simp only [compOp] at hc
    split at hc
    · rename_i h1 h2
      split at hc
      · rename_i fd hf
        split at hc
        · rename_i hg; cases hc; exact opd_field H E hop h2 h1 hf hg hs
        · cases hc
      · cases hc
    · cases hc
  | indexAddr t x i =>
    simp only [compOp] at hc
    split at hc
    · rename_i h1 h2 h3
      split at hc
      · rename_i hsz; cases hc; exact opd_idx H E hop h2 h3 h1 hsz hs
      · cases hc
    · rename_i h1 h2 h3
      split at hc
      · rename_i hsz; cases hc; exact opd_idxArr H E hop h2 h3 h1 hsz hs
      · cases hc
    · cases hc
  | index t x i =>
    simp only [compOp] at hc
    split at hc
    · rename_i h1 h2 h3; cases hc; exact opd_ixStr H E hop h2 h3 h1 hs
    · rename_i h1 h2 h3
      split at hc
      · rename_i hsz hg; cases hc; exact opd_ixAgg H E hop h2 h3 h1 hsz hg hs
      · cases hc
    · cases hc
  | extract x i =>
    simp only [compOp] at hc
    split at hc
    · rename_i hx; cases hc; exact opd_ext H E hop hx hs
    · cases hc
  | call c => exact call_sound H E hop hc hn hs
  | _ => simp [compOp] at hc

end
end Go.AI
