import Derived.Test.YtpfponhaofdbaaaQ1
set_option linter.unusedVariables false
set_option linter.unusedSimpArgs false
namespace Go.Proofs.Ytpfponhaofdbaaa.M
open Go.RowKit Go.Proofs.YtpfponhaofdbaaaW.PrintWords

theorem kindFrom_at (b : Int) (n : Nat) (h : n < 14) : kindFrom b (14 - n) ((n : Int) + 1) = if b ≠ 0 ∧ keyP ((n : Int) + 1) = b then (n : Int) + 1 else kindFrom b (14 - (n + 1)) (((n + 1 : Nat) : Int) + 1) := by
  rw [show 14 - n = (14 - (n + 1)) + 1 by omega]
  rfl

set_option maxRecDepth 100000 in
set_option maxHeartbeats 300000 in
theorem kindOf_c (b : Int) (w : World) : Calls Try.prog 128 #[.int .u8 b] w fun e w' => e = .returned (.int .i64 (kindP b)) ∧ w = w' := by
  go_enter Try.func128, Try.ntmps128
  go_wp2
  go_loopw [3] (fun v wr => ∃ n : Nat, n ≤ 14 ∧ v = .int .i64 ((n : Int) + 1) ∧ wr = w ∧ Aside0 (kindP b = kindFrom b (14 - n) ((n : Int) + 1))) (fun v _ => 15 - (intOf v).toNat)
  case atStart => exact ⟨0, by omega, by first | rfl | (simp; done), rfl, ⟨rfl⟩⟩
  case round =>
    obtain ⟨n, hn, rfl, rfl, HQ⟩ := hrel
    by_cases hlt : n < 14
    · have hle : ((n : Int) + 1 ≤ 14) := by omega
      have hat := kindFrom_at b n hlt
      have e1 : IntKind.i64.wrap ((n : Int) + 1 + 1) = (((n + 1 : Nat) : Int) + 1) := by rw [IntKind.wrap_i64]; omega
      generalize hk : keyP ((n : Int) + 1) = ky at hat
      have HK := Aside0.mk hk
      clear hk
      by_cases hc : b ≠ 0 ∧ ky = b
      · rw [if_pos hc] at hat
        have HQ2 := Aside0.mk (HQ.out.trans hat)
        have b1 : (b != 0) = true := by simpa using hc.1
        have b2 : (ky == b) = true := by simpa using hc.2
        clear hc hat
        go_wp2_with (go_at_call 64; refine Calls.mono (keyOf_c _ _) ?_; rintro e w' ⟨rfl, rfl⟩; rw [HK.out])
        go_ret
        exact ⟨by rw [HQ2.out]; rfl, rfl⟩
      · rw [if_neg hc] at hat
        have HQ2 := Aside0.mk (HQ.out.trans hat)
        clear hat
        by_cases hb : b = 0
        · have b1 : (b != 0) = false := by simpa using hb
          clear hc hb
          go_wp2
          go_roundw
          case rel => exact ⟨n + 1, by omega, by first | rfl | go_num, by first | exact rfl | trivial, HQ2⟩
          case measure => simp [intOf]; omega
        · have b1 : (b != 0) = true := by simpa using hb
          have b2 : (ky == b) = false := by
            simp
            exact fun h => hc ⟨hb, h⟩
          clear hc hb
          go_wp2_with (go_at_call 64; refine Calls.mono (keyOf_c _ _) ?_; rintro e w' ⟨rfl, rfl⟩; rw [HK.out])
          go_roundw
          case rel => exact ⟨n + 1, by omega, by first | rfl | go_num, by first | exact rfl | trivial, HQ2⟩
          case measure => simp [intOf]; omega
    · obtain rfl : n = 14 := by omega
      go_wp2
      go_ret
      exact ⟨by rw [HQ.out]; rfl, rfl⟩

/-- How often a kind may be done. -/
def countsP (k : Int) : Int × Int × Bool :=
  if k = 1 ∨ k = 2 ∨ k = 9 ∨ k = 10 then (1, 999, true) else if k = 3 then (0, 999, true) else if k = 6 ∨ k = 7 then (1, 400, true) else if k = 11 then (1, 12, true) else if k = 12 ∨ k = 13 then (0, 3, true) else (0, 0, false)
set_option maxRecDepth 100000 in
set_option maxHeartbeats 400000 in
theorem counts_c (k : Int) (w : World) (h0 : 0 ≤ k) (h1 : k ≤ 14) : Calls Try.prog 129 #[.int .i64 k] w fun e w' => e = .returned (.tuple #[.int .i64 (countsP k).1, .int .i64 (countsP k).2.1, .bool (countsP k).2.2]) ∧ w = w' := by
  have h : k = 0 ∨ k = 1 ∨ k = 2 ∨ k = 3 ∨ k = 4 ∨ k = 5 ∨ k = 6 ∨ k = 7 ∨ k = 8 ∨ k = 9 ∨ k = 10 ∨ k = 11 ∨ k = 12 ∨ k = 13 ∨ k = 14 := by omega
  clear h0 h1
  rcases h with rfl | rfl | rfl | rfl | rfl | rfl | rfl | rfl | rfl | rfl | rfl | rfl | rfl | rfl | rfl
  all_goals
    go_enter Try.func129, Try.ntmps129
    go_wp2
    exact bodyPost_ret (by simp [results, Try.results129, go_sem, countsP]) rfl ⟨rfl, rfl⟩
end Go.Proofs.Ytpfponhaofdbaaa.M
