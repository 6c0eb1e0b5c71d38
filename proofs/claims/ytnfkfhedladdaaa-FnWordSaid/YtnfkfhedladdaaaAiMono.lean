/- An operation that is told with a part of memory is told alike with all of it. -/
import Derived.Test.YtnfkfhedladdaaaAiReg
set_option linter.unusedVariables false
set_option linter.unusedSimpArgs false
namespace Go.AI

def Le (h h' : Heap) : Prop := ∀ b k, h b = some k → h' b = some k

section
variable {h h' : Heap}

theorem snap_mono (L : Le h h') {v : V} {r : V × List Nat} (hs : snap h v = some r) : snap h' v = some r := by
  cases v with
  | sl b s n =>
    simp only [snap] at hs ⊢
    cases hb : h b with
    | none => rw [hb] at hs; cases hs
    | some k => rw [hb] at hs; rw [L b k hb]; exact hs
  | _ => exact hs

theorem snaps_mono (L : Le h h') : ∀ {vs : List V} {r : List V × List Nat}, snaps h vs = some r → snaps h' vs = some r
  | [], r, hs => hs
  | v :: vs, r, hs => by
    simp only [snaps] at hs ⊢
    cases h1 : snap h v with
    | none => rw [h1] at hs; cases hs
    | some p =>
      rw [h1] at hs
      rw [snap_mono L h1]
      cases h2 : snaps h vs with
      | none => rw [h2] at hs; cases hs
      | some q => rw [h2] at hs; rw [snaps_mono L h2]; exact hs

theorem rowsOf_mono (L : Le h h') {e : Nat} {v : V} {r : List (List V)} (hs : rowsOf h e v = some r) : rowsOf h' e v = some r := by
  cases v with
  | sl b s n =>
    simp only [rowsOf] at hs ⊢
    cases hb : h b with
    | none => rw [hb] at hs; cases hs
    | some k => rw [hb] at hs; rw [L b k hb]; exact hs
  | lit y =>
    cases y with
    | slice a n c => cases a <;> cases n <;> cases c <;> exact hs
    | _ => exact hs
  | _ => exact hs

theorem rowOf_mono (L : Le h h') {g : Option Nat} {v r : V} (hs : rowOf g h v = some r) : rowOf g h' v = some r := by
  cases v with
  | ptr b i o n =>
    simp only [rowOf] at hs ⊢
    cases hb : h b with
    | none => rw [hb] at hs; cases hs
    | some k => rw [hb] at hs; rw [L b k hb]; exact hs
  | _ => exact hs

theorem partsSnap_mono (L : Le h h') {ev : Opd → V} : ∀ {ps : List (Nat × Opd)} {r : List (Nat × V) × List Nat}, partsSnap h ev ps = some r → partsSnap h' ev ps = some r
  | [], r, hs => hs
  | (i, x) :: ps, r, hs => by
    simp only [partsSnap] at hs ⊢
    cases h1 : snaps h (ev x).cells with
    | none => rw [h1] at hs; cases hs
    | some p =>
      rw [h1] at hs
      rw [snaps_mono L h1]
      cases h2 : partsSnap h ev ps with
      | none => rw [h2] at hs; cases hs
      | some q => rw [h2] at hs; rw [partsSnap_mono L h2]; exact hs

theorem locCell_mono (L : Le h h') {own : Bool} {ids : List Nat} {v : V} {r : V × List Nat × List Nat} (hs : locCell h own ids v = some r) : locCell h' own ids v = some r := by
  cases v with
  | ptr b i o n =>
    simp only [locCell] at hs ⊢
    cases hb : h b with
    | none => rw [hb] at hs; cases hs
    | some k => rw [hb] at hs; rw [L b k hb]; exact hs
  | sl b s n =>
    simp only [locCell] at hs ⊢
    cases hb : h b with
    | none => rw [hb] at hs; cases hs
    | some k => rw [hb] at hs; rw [L b k hb]; exact hs
  | fn f cs => cases cs <;> exact hs
  | _ => exact hs

theorem locCells_mono (L : Le h h') {own : Bool} : ∀ {vs : List V} {ids : List Nat} {r : List V × List Nat × List Nat}, locCells h own ids vs = some r → locCells h' own ids vs = some r
  | [], ids, r, hs => hs
  | v :: vs, ids, r, hs => by
    simp only [locCells] at hs ⊢
    cases h1 : locCell h own ids v with
    | none => rw [h1] at hs; cases hs
    | some p =>
      obtain ⟨a, b, c⟩ := p
      rw [h1] at hs
      rw [locCell_mono L h1]
      dsimp only at hs ⊢
      cases h2 : locCells h own b vs with
      | none => rw [h2] at hs; cases hs
      | some q => rw [h2] at hs; rw [locCells_mono L h2]; exact hs

theorem locArg_mono (L : Le h h') {own : Bool} {ids : List Nat} {v : V} {r : V × List Nat × List Nat} (hs : locArg h own ids v = some r) : locArg h' own ids v = some r := by
  have other : ∀ v, locArg h own ids v = locCell h own ids v → locArg h' own ids v = locCell h' own ids v → locArg h own ids v = some r → locArg h' own ids v = some r := fun v e1 e2 e3 => by
    rw [e1] at e3; rw [e2]; exact locCell_mono L e3
  cases v with
  | agg cs =>
    simp only [locArg] at hs ⊢
    cases h1 : locCells h own ids cs with
    | none => rw [h1] at hs; cases hs
    | some p => rw [h1] at hs; rw [locCells_mono L h1]; exact hs
  | fn f cs =>
    simp only [locArg] at hs ⊢
    cases h1 : locCells h true ids cs with
    | none => rw [h1] at hs; cases hs
    | some p => rw [h1] at hs; rw [locCells_mono L h1]; exact hs
  | lit v => exact other _ rfl rfl hs
  | tup v => exact other _ rfl rfl hs
  | ptr b i o n => exact other _ rfl rfl hs
  | sl b s n => exact other _ rfl rfl hs
  | imm e r => exact other _ rfl rfl hs
  | iptr r o => exact other _ rfl rfl hs
  | undef => exact other _ rfl rfl hs

theorem locArgs_mono (L : Le h h') {owns : List Nat} : ∀ {vs : List V} {j : Nat} {ids : List Nat} {r : List V × List Nat × List Nat}, locArgs h owns j ids vs = some r → locArgs h' owns j ids vs = some r
  | [], j, ids, r, hs => hs
  | v :: vs, j, ids, r, hs => by
    simp only [locArgs] at hs ⊢
    cases h1 : locArg h (j ∈ owns) ids v with
    | none => rw [h1] at hs; cases hs
    | some p =>
      obtain ⟨a, b, c⟩ := p
      rw [h1] at hs
      rw [locArg_mono L h1]
      dsimp only at hs ⊢
      cases h2 : locArgs h owns (j + 1) b vs with
      | none => rw [h2] at hs; cases hs
      | some q => rw [h2] at hs; rw [locArgs_mono L h2]; exact hs

theorem locDs_mono (L : Le h h') : ∀ {vs : List V} {ids : List Nat} {r : List V × List Nat}, locDs h ids vs = some r → locDs h' ids vs = some r
  | [], ids, r, hs => hs
  | v :: vs, ids, r, hs => by
    simp only [locDs] at hs ⊢
    cases h1 : locArg h true ids v with
    | none => rw [h1] at hs; cases hs
    | some p =>
      obtain ⟨a, b, c⟩ := p
      rw [h1] at hs
      rw [locArg_mono L h1]
      dsimp only at hs ⊢
      cases h2 : locDs h b vs with
      | none => rw [h2] at hs; cases hs
      | some q => rw [h2] at hs; rw [locDs_mono L h2]; exact hs

theorem locRows_mono (L : Le h h') : ∀ {rs : List (List V)} {ids : List Nat} {r : List (List V) × List Nat}, locRows h ids rs = some r → locRows h' ids rs = some r
  | [], ids, r, hs => hs
  | v :: vs, ids, r, hs => by
    simp only [locRows] at hs ⊢
    cases h1 : locDs h ids v with
    | none => rw [h1] at hs; cases hs
    | some p =>
      obtain ⟨a, b⟩ := p
      rw [h1] at hs
      rw [locDs_mono L h1]
      dsimp only at hs ⊢
      cases h2 : locRows h b vs with
      | none => rw [h2] at hs; cases hs
      | some q => rw [h2] at hs; rw [locRows_mono L h2]; exact hs

theorem locBlks_mono (L : Le h h') : ∀ {fuel pos : Nat} {ids : List Nat} {r : List Blk × List Nat}, locBlks h fuel pos ids = some r → locBlks h' fuel pos ids = some r
  | 0, pos, ids, r, hs => by simp [locBlks] at hs
  | fuel + 1, pos, ids, r, hs => by
    simp only [locBlks] at hs ⊢
    cases hp : ids[pos]? with
    | none => rw [hp] at hs; exact hs
    | some b =>
      rw [hp] at hs
      dsimp only at hs ⊢
      cases hb : h b with
      | none => rw [hb] at hs; cases hs
      | some k =>
        rw [hb] at hs
        rw [L b k hb]
        dsimp only at hs ⊢
        split at hs
        · rename_i ho
          rw [if_pos ho]
          cases h1 : locBlks h fuel (pos + 1) ids with
          | none => rw [h1] at hs; cases hs
          | some p => rw [h1] at hs; rw [locBlks_mono L h1]; exact hs
        · rename_i ho
          rw [if_neg ho]
          cases h1 : locRows h ids k.rows with
          | none => rw [h1] at hs; cases hs
          | some p =>
            obtain ⟨rows, ids1⟩ := p
            rw [h1] at hs
            rw [locRows_mono L h1]
            dsimp only at hs ⊢
            cases h2 : locBlks h fuel (pos + 1) ids1 with
            | none => rw [h2] at hs; cases hs
            | some q => rw [h2] at hs; rw [locBlks_mono L h2]; exact hs

theorem callPrep_mono (L : Le h h') {owns : FuncId → List Nat} {f : FuncId} {args : List V} {r : List V × List Blk × List Nat × List Nat} (hs : callPrep owns h f args = some r) : callPrep owns h' f args = some r := by
  unfold callPrep at hs ⊢
  cases h1 : locArgs h (owns f) 0 [] args with
  | none => rw [h1] at hs; cases hs
  | some p =>
    obtain ⟨a, ids0, bor⟩ := p
    rw [h1] at hs
    rw [locArgs_mono L h1]
    dsimp only at hs ⊢
    cases h2 : locBlks h 40 0 ids0 with
    | none => rw [h2] at hs; cases hs
    | some q => rw [h2] at hs; rw [locBlks_mono L h2]; exact hs

theorem zipUpd_keys : ∀ (ids : List Nat) (M : List Blk), (zipUpd ids M).map (·.1) = ids.take M.length
  | [], M => by simp [zipUpd]
  | i :: r, [] => by simp [zipUpd]
  | i :: r, k :: s => by simp [zipUpd, zipUpd_keys r s]

theorem callOp_le (L : Le h h') {C : CallS} {owns : FuncId → List Nat} {new : Nat} {f : FuncId} {args : List V} {v : V} {u : Upd} (hs : callOp C owns h new f args = some (v, u)) (hn : ∀ b ∈ u.map (·.1), h b = none → h' b = none) :
    callOp C owns h' new f args = some (v, u) := by
  unfold callOp at hs ⊢
  cases h1 : callPrep owns h f args with
  | none => rw [h1] at hs; cases hs
  | some p =>
    obtain ⟨args', blks, ids, bor⟩ := p
    rw [h1] at hs
    rw [callPrep_mono L h1]
    dsimp only at hs ⊢
    cases h2 : C f (canArgs (owns f) args') (canBlks (owns f) blks) with
    | none => rw [h2] at hs; cases hs
    | some q =>
      obtain ⟨r, blks'⟩ := q
      rw [h2] at hs
      dsimp only at hs ⊢
      unfold callPost at hs ⊢
      split at hs
      · rename_i hc
        cases hs
        refine if_pos ⟨hc.1, List.all_eq_true.2 fun b hb => ?_⟩
        have hb0 : h b = none := by simpa using List.all_eq_true.1 hc.2 b hb
        rw [hn b ?_ hb0]
        · rfl
        · rw [List.map_append, List.mem_append, zipUpd_keys, List.length_map]
          left
          rw [List.take_of_length_le (by rw [List.length_append]; have := newsFor_len (n := new) hc.1; omega)]
          exact List.mem_append.2 (.inr hb)
      · cases hs

theorem fresh_mono {n : Nat} {k : Blk} {v : V} {r : V × Upd} (hs : fresh h n k v = some r) (hn : ∀ b ∈ r.2.map (·.1), h b = none → h' b = none) : fresh h' n k v = some r := by
  unfold fresh at hs ⊢
  split at hs
  · rename_i hc
    cases hs
    rw [if_pos ⟨by rw [hn n (by simp) (by simpa using hc.1)]; rfl, hc.2⟩]
  · cases hs

theorem opSem_le (L : Le h h') {C : CallS} {ow : FuncId → List Nat} {o : AOp} {ev : Opd → V} {new : Nat} {v : V} {u : Upd} (hs : opSem C ow o ev h new = some (v, u)) (hn : ∀ b ∈ u.map (·.1), h b = none → h' b = none) :
    opSem C ow o ev h' new = some (v, u) := by
  cases o with
  | alloc z =>
    simp only [opSem] at hs ⊢
    split at hs
    · rename_i hc; rw [if_pos hc]; exact fresh_mono hs hn
    · cases hs
  | box s x =>
    simp only [opSem] at hs ⊢
    split at hs
    · rename_i hc; rw [if_pos hc]; exact fresh_mono hs hn
    · cases hs
  | buildSlice e z n ps =>
    simp only [opSem] at hs ⊢
    cases h1 : partsSnap h ev ps with
    | none => rw [h1] at hs; cases hs
    | some p =>
      obtain ⟨qs, bs⟩ := p
      rw [h1] at hs
      rw [partsSnap_mono L h1]
      dsimp only at hs ⊢
      split at hs
      · rename_i rows hr
        split at hs
        · rename_i hc
          rw [if_pos hc]
          cases hf : fresh h new ⟨e, false, rows⟩ (.sl new 0 n) with
          | none => rw [hf] at hs; cases hs
          | some q =>
            rw [hf] at hs
            cases hs
            rw [fresh_mono hf (fun b hm h0 => hn b (by rw [List.map_append, List.mem_append]; exact .inr hm) h0)]
        · cases hs
      · cases hs
  | load g a =>
    simp only [opSem] at hs ⊢
    cases h1 : rowOf g h (ev a) with
    | none => rw [h1] at hs; cases hs
    | some p => rw [h1] at hs; rw [rowOf_mono L h1]; exact hs
  | store s a x =>
    simp only [opSem] at hs ⊢
    cases hev : ev a with
    | ptr b i o n =>
      rw [hev] at hs
      dsimp only at hs ⊢
      cases hb : h b with
      | none => rw [hb] at hs; cases hs
      | some k =>
        rw [hb] at hs
        rw [L b k hb]
        dsimp only at hs ⊢
        split at hs
        · rename_i hc
          rw [if_pos hc]
          split at hs
          · rename_i row hr
            split at hs
            · rename_i ho; rw [if_pos ho]; exact hs
            · rename_i ho
              rw [if_neg ho]
              cases h1 : snaps h (ev x).cells with
              | none => rw [h1] at hs; cases hs
              | some p => rw [h1] at hs; rw [snaps_mono L h1]; exact hs
          · cases hs
        · cases hs
    | _ => rw [hev] at hs; cases hs
  | nilCheck x =>
    simp only [opSem] at hs ⊢
    cases hev : ev x with
    | ptr b i o n =>
      rw [hev] at hs
      dsimp only at hs ⊢
      cases hb : h b with
      | none => rw [hb] at hs; cases hs
      | some k => rw [hb] at hs; rw [L b k hb]; exact hs
    | _ => rw [hev] at hs; exact hs
  | toBytes x =>
    simp only [opSem] at hs ⊢
    split at hs
    · rename_i s hev
      split at hs
      · rename_i hc; exact (if_pos hc).trans (fresh_mono hs hn)
      · cases hs
    · cases hs
  | toStr x =>
    simp only [opSem] at hs ⊢
    split at hs
    · cases hs
    · rename_i hc
      rw [if_neg hc]
      cases h1 : rowsOf h 1 (ev x) with
      | none => rw [h1] at hs; cases hs
      | some p => rw [h1] at hs; rw [rowsOf_mono L h1]; exact hs
  | makeSlice e by_ z l c =>
    simp only [opSem] at hs ⊢
    split at hs
    · rename_i a b h1 h2
      split at hs
      · rename_i hc; exact (if_pos hc).trans (fresh_mono hs hn)
      · cases hs
    · cases hs
  | slice e x lo hi mx =>
    cases mx with
    | some m => exact hs
    | none =>
      simp only [opSem] at hs ⊢
      cases hev : ev x with
      | sl b s n =>
        rw [hev] at hs
        dsimp only at hs ⊢
        cases hb : h b with
        | none => rw [hb] at hs; cases hs
        | some k => rw [hb] at hs; rw [L b k hb]; exact hs
      | lit y =>
        rw [hev] at hs
        cases y with
        | slice a n c => cases a <;> cases n <;> cases c <;> exact hs
        | _ => exact hs
      | _ => rw [hev] at hs; exact hs
  | idx e x i =>
    simp only [opSem] at hs ⊢
    cases hi : asI (ev i) with
    | none => rw [hi] at hs; cases hs
    | some q =>
      rw [hi] at hs
      dsimp only at hs ⊢
      split at hs
      · rename_i hc
        rw [if_pos hc]
        cases hev : ev x with
        | sl b s n =>
          rw [hev] at hs
          dsimp only at hs ⊢
          cases hb : h b with
          | none => rw [hb] at hs; cases hs
          | some k => rw [hb] at hs; rw [L b k hb]; exact hs
        | _ => rw [hev] at hs; exact hs
      · cases hs
  | append e by_ z x y =>
    simp only [opSem] at hs ⊢
    cases h1 : rowsOf h e (ev y) with
    | none => rw [h1] at hs; cases hs
    | some ns =>
      rw [h1] at hs
      rw [rowsOf_mono L h1]
      dsimp only at hs ⊢
      split at hs
      · rename_i hc
        rw [if_pos hc]
        split at hs
        · rename_i b n hev
          cases hb : h b with
          | none => rw [hb] at hs; cases hs
          | some k => rw [hb] at hs; rw [L b k hb]; exact hs
        · exact fresh_mono hs hn
        · exact fresh_mono hs hn
        · cases hs
      · cases hs
  | appendN e by_ z x y =>
    simp only [opSem] at hs ⊢
    split at hs
    · rename_i l hl
      split at hs
      · rename_i hc
        rw [if_pos hc]
        unfold apBody at hs ⊢
        split at hs
        · rename_i hc
          rw [if_pos hc]
          split at hs
          · rename_i b n hev
            cases hb : h b with
            | none => rw [hb] at hs; cases hs
            | some k => rw [hb] at hs; rw [L b k hb]; exact hs
          · exact fresh_mono hs hn
          · exact fresh_mono hs hn
          · cases hs
        · cases hs
      · cases hs
    · cases hs
  | copy e x y =>
    simp only [opSem] at hs ⊢
    cases h1 : rowsOf h e (ev y) with
    | none => rw [h1] at hs; cases hs
    | some ns =>
      rw [h1] at hs
      rw [rowsOf_mono L h1]
      cases hev : ev x with
      | sl b s n =>
        rw [hev] at hs
        dsimp only at hs ⊢
        cases hb : h b with
        | none => rw [hb] at hs; cases hs
        | some k => rw [hb] at hs; rw [L b k hb]; exact hs
      | _ => rw [hev] at hs; cases hs
  | arrOf n x =>
    simp only [opSem] at hs ⊢
    cases h1 : snap h (ev x) with
    | none => rw [h1] at hs; cases hs
    | some p => rw [h1] at hs; rw [snap_mono L h1]; exact hs
  | bytesOwn x =>
    simp only [opSem] at hs ⊢
    cases hev : ev x with
    | sl b s n =>
      rw [hev] at hs
      dsimp only at hs ⊢
      cases hb : h b with
      | none => rw [hb] at hs; cases hs
      | some k => rw [hb] at hs; rw [L b k hb]; exact hs
    | _ => rw [hev] at hs; cases hs
  | call f args => exact callOp_le L hs hn
  | dyn f args =>
    simp only [opSem] at hs ⊢
    split at hs
    · rename_i hev; exact callOp_le L hs hn
    · cases hs
  | _ => exact hs

end
end Go.AI
