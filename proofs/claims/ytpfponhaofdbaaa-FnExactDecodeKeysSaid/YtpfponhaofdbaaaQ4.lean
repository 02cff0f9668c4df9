import Derived.Test.YtpfponhaofdbaaaQP
set_option linter.unusedVariables false
set_option linter.unusedSimpArgs false
namespace Go.Proofs.Ytpfponhaofdbaaa.M
open Go.RowKit Go.Proofs.YtpfponhaofdbaaaW.PrintWords

theorem l1Max_c (x y : Int) (w : World) : Calls Try.prog 144 #[.int .i64 x, .int .i64 y] w fun e w' => e = .returned (.int .i64 (max x y)) ∧ w = w' := by
  by_cases h : x > y
  · have e1 : max x y = x := by omega
    have HE := Aside0.mk e1
    clear e1
    go_enter Try.func144, Try.ntmps144
    go_wp2
    go_ret
    exact ⟨by rw [HE.out]; rfl, rfl⟩
  · have e1 : max x y = y := by omega
    have HE := Aside0.mk e1
    clear e1
    go_enter Try.func144, Try.ntmps144
    go_wp2
    go_ret
    exact ⟨by rw [HE.out]; rfl, rfl⟩
theorem l1Min2_c (x y : Int) (w : World) : Calls Try.prog 145 #[.int .i64 x, .int .i64 y] w fun e w' => e = .returned (.int .i64 (min x y)) ∧ w = w' := by
  by_cases h : x < y
  · have hm := Aside0.mk (show min x y = x by omega)
    go_enter Try.func145, Try.ntmps145
    go_wp2
    go_ret
    exact ⟨by rw [hm.out]; rfl, rfl⟩
  · have hm := Aside0.mk (show min x y = y by omega)
    go_enter Try.func145, Try.ntmps145
    go_wp2
    go_ret
    exact ⟨by rw [hm.out]; rfl, rfl⟩
set_option maxRecDepth 100000 in
theorem l12Arrow_c (b : Int) (w : World) : Calls Try.prog 123 #[.int .u8 b] w fun e w' => e = .returned (.int .u8 (arrowP b)) ∧ w = w' := by
  have HQ := Aside0.mk (show arrowP b = if b = 65 then 107 else if b = 66 then 106 else if b = 67 then 108 else if b = 68 then 104 else 0 from rfl)
  generalize arrowP b = r at HQ
  go_enter Try.func123, Try.ntmps123
  go_wp2
  all_goals
    go_ret
    refine ⟨?_, rfl⟩
    rw [HQ.out]
    simp_all

set_option maxRecDepth 100000 in
set_option maxHeartbeats 300000 in
theorem l12Kind_c (b : Int) (w : World) : Calls Try.prog 124 #[.int .u8 b] w fun e w' => e = .returned (.int .i64 (kindP b)) ∧ Below w.heap.size w w' := by
  go_enter Try.func124, Try.ntmps124
  go_wp2
  go_loopw [3] (fun v wr => ∃ n : Nat, n ≤ 14 ∧ v = .int .i64 ((n : Int) + 1) ∧ Aside0 (Below w.heap.size w wr) ∧ Aside0 (kindP b = kindFrom b (14 - n) ((n : Int) + 1))) (fun v _ => 15 - (intOf v).toNat)
  case atStart => exact ⟨0, by omega, by first | rfl | (simp; done), ⟨Below.refl _ _⟩, ⟨rfl⟩⟩
  case round =>
    obtain ⟨n, hn, rfl, HW, HQ⟩ := hrel
    by_cases hlt : n < 14
    · have hle : ((n : Int) + 1 ≤ 14) := by omega
      have hat := kindFrom_at b n hlt
      have e1 : IntKind.i64.wrap ((n : Int) + 1 + 1) = (((n + 1 : Nat) : Int) + 1) := by rw [IntKind.wrap_i64]; omega
      generalize hk : keyP ((n : Int) + 1) = ky at hat
      have HK := Aside0.mk hk
      clear hk
      by_cases hc : b ≠ 0 ∧ ky = b
      · rw [if_pos hc] at hat
        have HQ2 := Aside0.mk (HQ.out.trans hat)
        have b1 : (b != 0) = true := by simpa using hc.1
        have b2 : (ky == b) = true := by simpa using hc.2
        clear hc hat
        go_wp2_with (go_at_call 63; refine Calls.mono (l12Key_c _ _ (by omega) (by omega)) ?_; rintro e w' ⟨rfl, hb⟩; have HB := Aside0.mk hb; clear hb; rw [HK.out])
        go_ret
        exact ⟨by rw [HQ2.out]; rfl, below_end HW.out HB.out⟩
      · rw [if_neg hc] at hat
        have HQ2 := Aside0.mk (HQ.out.trans hat)
        clear hat
        by_cases hb : b = 0
        · have b1 : (b != 0) = false := by simpa using hb
          clear hc hb
          go_wp2
          go_roundw
          case rel => exact ⟨n + 1, by omega, by first | rfl | go_num, HW, HQ2⟩
          case measure => simp [intOf]; omega
        · have b1 : (b != 0) = true := by simpa using hb
          have b2 : (ky == b) = false := by
            simp
            exact fun h => hc ⟨hb, h⟩
          clear hc hb
          go_wp2_with (go_at_call 63; refine Calls.mono (l12Key_c _ _ (by omega) (by omega)) ?_; rintro e w' ⟨rfl, hb⟩; have HB := Aside0.mk hb; clear hb; rw [HK.out])
          go_roundw
          case rel => exact ⟨n + 1, by omega, by first | rfl | go_num, ⟨below_end HW.out HB.out⟩, HQ2⟩
          case measure => simp [intOf]; omega
    · obtain rfl : n = 14 := by omega
      go_wp2
      go_ret
      exact ⟨by rw [HQ.out]; rfl, HW.out⟩

set_option maxRecDepth 100000 in
set_option maxHeartbeats 400000 in
theorem l12Count_c (k n : Int) (w : World) (h0 : 0 ≤ k) (h1 : k ≤ 14) (hn0 : 0 ≤ n) (hn1 : n ≤ 1000) : Calls Try.prog 125 #[.int .i64 k, .int .i64 n] w fun e w' => e = .returned (.int .i64 (countP k n)) ∧ w = w' := by
  have hw : IntKind.i64.wrap (n - 1) = n - 1 := by rw [IntKind.wrap_i64]; omega
  have h : k = 0 ∨ k = 1 ∨ k = 2 ∨ k = 3 ∨ k = 4 ∨ k = 5 ∨ k = 6 ∨ k = 7 ∨ k = 8 ∨ k = 9 ∨ k = 10 ∨ k = 11 ∨ k = 12 ∨ k = 13 ∨ k = 14 := by omega
  clear h0 h1
  rcases h with rfl | rfl | rfl | rfl | rfl | rfl | rfl | rfl | rfl | rfl | rfl | rfl | rfl | rfl | rfl
  all_goals
    go_enter Try.func125, Try.ntmps125
    go_wp2_with (first | (go_at_call 144; refine Calls.mono (l1Max_c _ _ _) ?_; rintro e w' ⟨rfl, rfl⟩) | (go_at_call 145; refine Calls.mono (l1Min2_c _ _ _) ?_; rintro e w' ⟨rfl, rfl⟩))
    go_ret
    exact ⟨by rfl, rfl⟩
end Go.Proofs.Ytpfponhaofdbaaa.M
