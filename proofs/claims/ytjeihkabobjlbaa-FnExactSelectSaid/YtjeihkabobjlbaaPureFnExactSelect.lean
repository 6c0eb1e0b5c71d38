/- The program's Select answers as the reference's Select does, at every bits, rate and grind. The numbers that are let in are few: the kernel runs over all of them; at all others both answer the range code. No condition. -/
import Derived.Test.YtjeihkabobjlbaaPFnExactSelectx2
namespace Go.Proofs.Ytjeihkabobjlbaa.Pure
open Go.RowKit Go.Proofs.Ytjeihkabobjlbaa.PFnExactSelect Go.Proofs.YtjeihkabobjlbaaW.PrintWords Go.Proofs.YtjeihkabobjlbaaW.PrintLast

theorem exactSelect_all : ∀ b : Fin 17, ∀ r : Fin 3, ∀ g : Fin 13,
    laws_FnExactSelect.f 60 (b.val : Int) ((r.val : Int) + 1) (g.val : Int) = some true := by
  decide +kernel

theorem exactSelect_in (a b c : Int) (hab : b ≤ a) (hac : a ≤ c) : spec_l01In.f a b c = some true ∧ impl_in.f a b c = some true := by
  constructor
  · simp [spec_l01In.f, hab, hac]
  · simp [impl_in.f, hab, hac]

theorem exactSelect_out (a b c : Int) (h : ¬ (b ≤ a ∧ a ≤ c)) : spec_l01In.f a b c = some false ∧ impl_in.f a b c = some false := by
  by_cases hab : b ≤ a
  · have hac : ¬ a ≤ c := fun h' => h ⟨hab, h'⟩
    constructor
    · simp [spec_l01In.f, hab]; omega
    · simp [impl_in.f, hab]; omega
  · constructor
    · simp [spec_l01In.f, hab]
    · simp [impl_in.f, hab]

theorem FnExactSelect : laws_FnExactSelect.Pure := by
  intro a0 a1 a2 _ _ _
  refine ⟨60, ?_⟩
  by_cases h0 : 0 ≤ a0 ∧ a0 ≤ 16
  · by_cases h1 : 1 ≤ a1 ∧ a1 ≤ 3
    · by_cases h2 : 0 ≤ a2 ∧ a2 ≤ 12
      · have h := exactSelect_all ⟨a0.toNat, by omega⟩ ⟨(a1 - 1).toNat, by omega⟩ ⟨a2.toNat, by omega⟩
        have e0 : ((a0.toNat : Nat) : Int) = a0 := by omega
        have e1 : (((a1 - 1).toNat : Nat) : Int) + 1 = a1 := by omega
        have e2 : ((a2.toNat : Nat) : Int) = a2 := by omega
        simpa only [e0, e1, e2] using h
      · unfold laws_FnExactSelect.f spec_Select.f impl_Select.f
        rw [(exactSelect_in a0 0 16 h0.1 h0.2).1, (exactSelect_in a0 0 16 h0.1 h0.2).2, (exactSelect_in a1 1 3 h1.1 h1.2).1, (exactSelect_in a1 1 3 h1.1 h1.2).2,
          (exactSelect_out a2 0 12 h2).1, (exactSelect_out a2 0 12 h2).2]
        rfl
    · unfold laws_FnExactSelect.f spec_Select.f impl_Select.f
      rw [(exactSelect_in a0 0 16 h0.1 h0.2).1, (exactSelect_in a0 0 16 h0.1 h0.2).2, (exactSelect_out a1 1 3 h1).1, (exactSelect_out a1 1 3 h1).2]
      rfl
  · unfold laws_FnExactSelect.f spec_Select.f impl_Select.f
    rw [(exactSelect_out a0 0 16 h0).1, (exactSelect_out a0 0 16 h0).2]
    rfl

end Go.Proofs.Ytjeihkabobjlbaa.Pure
