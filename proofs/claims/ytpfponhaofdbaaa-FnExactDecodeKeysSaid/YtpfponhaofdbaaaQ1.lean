import Derived.Test.YtpfponhaofdbaaaF4
set_option linter.unusedVariables false
set_option linter.unusedSimpArgs false
namespace Go.Proofs.Ytpfponhaofdbaaa.M
open Go.RowKit Go.Proofs.YtpfponhaofdbaaaW.PrintWords

/-! keys: plain tables -/
def keyTab : List Int := [106, 107, 103, 71, 83, 104, 108, 47, 110, 78, 0, 109, 39, 70]
def keyP (k : Int) : Int := if 1 ≤ k ∧ k ≤ 14 then keyTab.getD (k - 1).toNat 0 else 0
def kindFrom (b : Int) : Nat → Int → Int
  | 0, _ => 0
  | n + 1, k => if b ≠ 0 ∧ keyP k = b then k else kindFrom b n (k + 1)
def kindP (b : Int) : Int := kindFrom b 14 1
theorem kindFrom_bd (b : Int) : ∀ (n : Nat) (k : Int), 0 ≤ k → 0 ≤ kindFrom b n k ∧ kindFrom b n k ≤ k + n
  | 0, k, h => ⟨Int.le_refl _, by show (0 : Int) ≤ k + ((0 : Nat) : Int); omega⟩
  | n + 1, k, h => by
    have := kindFrom_bd b n (k + 1) (by omega)
    unfold kindFrom
    split
    · exact ⟨h, by omega⟩
    · exact ⟨this.1, by omega⟩
theorem key_at (n : Nat) (h : n < 14) : ((((ByteArray.mk #[106, 107, 103, 71, 83, 104, 108, 47, 110, 78, 0, 109, 39, 70])[n]'(by exact h)).toNat : Nat) : Int) = keyTab.getD n 0 := by
  match n, h with
  | 0, _ => rfl
  | 1, _ => rfl
  | 2, _ => rfl
  | 3, _ => rfl
  | 4, _ => rfl
  | 5, _ => rfl
  | 6, _ => rfl
  | 7, _ => rfl
  | 8, _ => rfl
  | 9, _ => rfl
  | 10, _ => rfl
  | 11, _ => rfl
  | 12, _ => rfl
  | 13, _ => rfl

set_option maxRecDepth 100000 in
set_option maxHeartbeats 300000 in
theorem keyOf_c (k : Int) (w : World) : Calls Try.prog 64 #[.int .i64 k] w fun e w' => e = .returned (.int .u8 (keyP k)) ∧ w = w' := by
  by_cases h : 1 ≤ k ∧ k ≤ 14
  · have hw : within k 1 14 = true := by simp [within]; omega
    obtain ⟨n, rfl⟩ : ∃ n : Nat, k = (n : Int) + 1 := ⟨(k - 1).toNat, by omega⟩
    have hn : n < 14 := by omega
    have e1 : IntKind.i64.wrap ((n : Int) + 1 - 1) = n := by rw [IntKind.wrap_i64]; omega
    have HQ := Aside0.mk (show keyP ((n : Int) + 1) = keyTab.getD n 0 by unfold keyP; rw [if_pos h]; congr 1; omega)
    clear h
    go_enter Try.func64, Try.ntmps64
    go_wp2_with (go_at_call 75; refine Calls.mono (within_c _ _ _ _) ?_; rintro e w' ⟨rfl, rfl⟩; rw [hw])
    go_ret
    exact ⟨by rw [HQ.out, ← key_at n hn]; rfl, rfl⟩
  · have hw : within k 1 14 = false := by simp [within]; omega
    have HQ := Aside0.mk (show keyP k = 0 from if_neg h)
    clear h
    go_enter Try.func64, Try.ntmps64
    go_wp2_with (go_at_call 75; refine Calls.mono (within_c _ _ _ _) ?_; rintro e w' ⟨rfl, rfl⟩; rw [hw])
    go_ret
    exact ⟨by rw [HQ.out]; rfl, rfl⟩
end Go.Proofs.Ytpfponhaofdbaaa.M
