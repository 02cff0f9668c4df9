/- FnExactKeyName: for every whole number the program's KeyName answers what the reference's answers. No condition. -/
import Derived.Test.YtpfponhaofdbaaaPFnExactKeyNamex1
set_option linter.unusedSimpArgs false
namespace Go.Proofs.Ytpfponhaofdbaaa.Pure
open Go.RowKit Go.Proofs.Ytpfponhaofdbaaa.PFnExactKeyName Go.Proofs.YtpfponhaofdbaaaW.PrintWords Go.Proofs.YtpfponhaofdbaaaW.PrintLast

theorem FnExactKeyName : laws_FnExactKeyName.Pure := by
  intro a h
  by_cases h1 : 1 ≤ a
  · by_cases h2 : a ≤ 14
    · have : a = 1 ∨ a = 2 ∨ a = 3 ∨ a = 4 ∨ a = 5 ∨ a = 6 ∨ a = 7 ∨ a = 8 ∨ a = 9 ∨ a = 10 ∨ a = 11 ∨ a = 12 ∨ a = 13 ∨ a = 14 := by omega
      rcases this with rfl | rfl | rfl | rfl | rfl | rfl | rfl | rfl | rfl | rfl | rfl | rfl | rfl | rfl <;> decide +kernel
    · simp [laws_FnExactKeyName.f, spec_KeyName.f, spec_l1In.f, impl_KeyName.f, impl_keyOf.f, impl_within.f, laws_eqTextResult.f, h1, h2]
  · have h1' : ¬ a ≥ 1 := h1
    simp [laws_FnExactKeyName.f, spec_KeyName.f, spec_l1In.f, impl_KeyName.f, impl_keyOf.f, impl_within.f, laws_eqTextResult.f, h1, h1']

end Go.Proofs.Ytpfponhaofdbaaa.Pure
