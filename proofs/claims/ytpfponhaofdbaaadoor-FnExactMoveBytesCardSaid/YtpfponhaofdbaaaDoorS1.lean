import Derived.Test.YtpfponhaofdbaaaDoorM1
set_option linter.unusedVariables false
set_option linter.unusedSimpArgs false
namespace Go.Proofs.YtpfponhaofdbaaaDoor.M
open Go.RowKit Go.Proofs.YtpfponhaofdbaaaDoorW.PrintWords

theorem l1In_c (n lo hi : Int) (w : World) : Calls Tryd.prog 63 #[.int .i64 n, .int .i64 lo, .int .i64 hi] w fun e w' => e = .returned (.bool (within n lo hi)) ∧ w = w' := by
  go_enter Tryd.func63, Tryd.ntmps63
  go_wp2
  all_goals
    go_ret
    exact ⟨by first | (simp [within, *]; done) | (simp [within, *]; omega), rfl⟩

theorem l1In_q (n lo hi : Int) (w : World) : Calls Tryd.prog 63 #[.int .i64 n, .int .i64 lo, .int .i64 hi] w fun e w' => e = .returned (.bool (within n lo hi)) ∧ w' = w :=
  (l1In_c n lo hi w).mono fun _ _ ⟨h, k⟩ => ⟨h, k.symm⟩
theorem isChar_eq (c : Int) : isChar c = (within c 0 55295 || within c 57344 65535) := by
  rw [Bool.eq_iff_iff]
  simp [isChar, within]
  omega

theorem l1Char_c (c : Int) (w : World) : Calls Tryd.prog 165 #[.int .i64 c] w fun e w' => e = .returned (.bool (isChar c)) ∧ w = w' := by
  go_enter Tryd.func165, Tryd.ntmps165
  go_wp2_with (go_at_call 63; refine Calls.mono (l1In_c _ _ _ _) ?_; rintro e w' ⟨rfl, rfl⟩)
  all_goals
    go_ret
    exact ⟨by rw [isChar_eq]; simp [*], rfl⟩

theorem l11Shown_c (c : Int) (w : World) : Calls Tryd.prog 141 #[.int .i64 c] w fun e w' => e = .returned (.bool (isSeen c)) ∧ w = w' := by
  go_enter Tryd.func141, Tryd.ntmps141
  go_wp2_with (go_at_call 165; refine Calls.mono (l1Char_c _ _) ?_; rintro e w' ⟨rfl, rfl⟩)
  all_goals
    go_ret
    exact ⟨by first | (simp [isSeen, *]; done) | (simp [isSeen, *]; omega), rfl⟩

theorem anyUnseen_at (l : List Int) (k : Nat) (hk : k < l.length) (h : isSeen (l.getD k 0) = false) : anyUnseen l = true := by
  unfold anyUnseen
  rw [List.any_eq_true]
  refine ⟨l[k], List.getElem_mem hk, ?_⟩
  rw [List.getD_eq_getElem?_getD, List.getElem?_eq_getElem hk] at h
  simpa using h
theorem anyUnseen_none (l : List Int) (h : ∀ k, k < l.length → isSeen (l.getD k 0) = true) : anyUnseen l = false := by
  unfold anyUnseen
  rw [List.any_eq_false]
  intro x hx
  obtain ⟨k, hk, rfl⟩ := List.getElem_of_mem hx
  have := h k hk
  rw [List.getD_eq_getElem?_getD, List.getElem?_eq_getElem hk] at this
  simpa using this

end Go.Proofs.YtpfponhaofdbaaaDoor.M
