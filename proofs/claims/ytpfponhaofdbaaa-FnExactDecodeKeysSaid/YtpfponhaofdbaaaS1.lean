import Derived.Test.YtpfponhaofdbaaaM1
set_option linter.unusedVariables false
set_option linter.unusedSimpArgs false
namespace Go.Proofs.Ytpfponhaofdbaaa.M
open Go.RowKit Go.Proofs.YtpfponhaofdbaaaW.PrintWords

theorem l1In_c (n lo hi : Int) (w : World) : Calls Try.prog 62 #[.int .i64 n, .int .i64 lo, .int .i64 hi] w fun e w' => e = .returned (.bool (within n lo hi)) ∧ w = w' := by
  go_enter Try.func62, Try.ntmps62
  go_wp2
  all_goals
    go_ret
    exact ⟨by first | (simp [within, *]; done) | (simp [within, *]; omega), rfl⟩

theorem l1In_q (n lo hi : Int) (w : World) : Calls Try.prog 62 #[.int .i64 n, .int .i64 lo, .int .i64 hi] w fun e w' => e = .returned (.bool (within n lo hi)) ∧ w' = w :=
  (l1In_c n lo hi w).mono fun _ _ ⟨h, k⟩ => ⟨h, k.symm⟩
theorem isChar_eq (c : Int) : isChar c = (within c 0 55295 || within c 57344 65535) := by
  rw [Bool.eq_iff_iff]
  simp [isChar, within]
  omega

theorem l1Char_c (c : Int) (w : World) : Calls Try.prog 141 #[.int .i64 c] w fun e w' => e = .returned (.bool (isChar c)) ∧ w = w' := by
  go_enter Try.func141, Try.ntmps141
  go_wp2_with (go_at_call 62; refine Calls.mono (l1In_c _ _ _ _) ?_; rintro e w' ⟨rfl, rfl⟩)
  all_goals
    go_ret
    exact ⟨by rw [isChar_eq]; simp [*], rfl⟩

theorem l11Shown_c (c : Int) (w : World) : Calls Try.prog 112 #[.int .i64 c] w fun e w' => e = .returned (.bool (isSeen c)) ∧ w = w' := by
  go_enter Try.func112, Try.ntmps112
  go_wp2_with (go_at_call 141; refine Calls.mono (l1Char_c _ _) ?_; rintro e w' ⟨rfl, rfl⟩)
  all_goals
    go_ret
    exact ⟨by first | (simp [isSeen, *]; done) | (simp [isSeen, *]; omega), rfl⟩

theorem anyUnseen_at (l : List Int) (k : Nat) (hk : k < l.length) (h : isSeen (l.getD k 0) = false) : anyUnseen l = true := by
  unfold anyUnseen
  rw [List.any_eq_true]
  refine ⟨l[k], List.getElem_mem hk, ?_⟩
  rw [List.getD_eq_getElem?_getD, List.getElem?_eq_getElem hk] at h
  simpa using h
theorem anyUnseen_none (l : List Int) (h : ∀ k, k < l.length → isSeen (l.getD k 0) = true) : anyUnseen l = false := by
  unfold anyUnseen
  rw [List.any_eq_false]
  intro x hx
  obtain ⟨k, hk, rfl⟩ := List.getElem_of_mem hx
  have := h k hk
  rw [List.getD_eq_getElem?_getD, List.getElem?_eq_getElem hk] at this
  simpa using this

set_option maxRecDepth 100000 in
theorem l13Fault_c (g : Nat) (wi ro y x : Int) (hi : Bool) (A B : Option Addr) (c d : Nat) (ch : List Int) (hs : List Bool) (w : World)
    (hb : w.heap[g]? = some (.cells #[.int .i64 wi, .int .i64 ro, .int .i64 y, .int .i64 x, .bool hi, .slice A ch.length c, .slice B hs.length d] 47 (0, 0)))
    (hr : Kd.C (Kd.int .i64) w A ch.length ch) (hm2 : hs.length ≤ 9223372036854775807) :
    Calls Try.prog 78 #[.pointer (some ⟨g, 0, none⟩)] w fun e w' => e = .returned (.int .i64 (termFault wi ro y x ch hs)) ∧ Drawn0 w w' := by
  have HR := Aside0.mk hr
  have hm := Kd.C_max hr
  have c0 := cell_of_row w g 0 _ _ _ hb
  have c1 := cell_of_row w g 1 _ _ _ hb
  have c2 := cell_of_row w g 2 _ _ _ hb
  have c3 := cell_of_row w g 3 _ _ _ hb
  have c5 := cell_of_row w g 5 _ _ _ hb
  have c6 := cell_of_row w g 6 _ _ _ hb
  simp only [List.getElem?_toArray, List.getElem?_cons_zero, List.getElem?_cons_succ] at c0 c1 c2 c3 c5 c6
  clear hr hb
  cases h1 : within wi 4 40
  · go_enter Try.func78, Try.ntmps78
    go_wp2
    go_quiet ((go_at_call 62; exact Calls.quiet_of_same (l1In_q _ _ _ _)))
    go_wp2
    go_ret
    exact ⟨by simp [termFault, h1], by repeat (first | exact Drawn0.refl _ | refine Drawn0.step ?_ _)⟩
  cases h2 : within ro 1 13
  · go_enter Try.func78, Try.ntmps78
    go_wp2
    go_quiet ((go_at_call 62; exact Calls.quiet_of_same (l1In_q _ _ _ _)))
    go_wp2
    go_ret
    exact ⟨by simp [termFault, h1, h2], by repeat (first | exact Drawn0.refl _ | refine Drawn0.step ?_ _)⟩
  cases h3 : within y 0 (wrap64 (ro - 1))
  · go_enter Try.func78, Try.ntmps78
    go_wp2
    go_quiet ((go_at_call 62; exact Calls.quiet_of_same (l1In_q _ _ _ _)))
    go_wp2
    go_ret
    exact ⟨by simp [termFault, h1, h2, h3], by repeat (first | exact Drawn0.refl _ | refine Drawn0.step ?_ _)⟩
  cases h4 : within x 0 wi
  · go_enter Try.func78, Try.ntmps78
    go_wp2
    go_quiet ((go_at_call 62; exact Calls.quiet_of_same (l1In_q _ _ _ _)))
    go_wp2
    go_ret
    exact ⟨by simp [termFault, h1, h2, h3, h4], by repeat (first | exact Drawn0.refl _ | refine Drawn0.step ?_ _)⟩
  have H1 := Aside0.mk (show (!within wi 4 40 || !within ro 1 13 || !within y 0 (wrap64 (ro - 1)) || !within x 0 wi) = false by simp [h1, h2, h3, h4])
  go_enter Try.func78, Try.ntmps78
  go_wp2
  go_quiet ((go_at_call 62; exact Calls.quiet_of_same (l1In_q _ _ _ _)))
  clear h1 h2 h3 h4
  go_wp2
  go_quiet (fail)
  by_cases hA : (ch.length : Int) = wrap64 (wi * ro)
  · have hA1 : ((ch.length : Int) != wrap64 (wi * ro)) = false := by rw [bne_eq_false_iff_eq]; exact hA
    have HA := Aside0.mk hA
    clear hA
    by_cases hB : (hs.length : Int) = wrap64 (wi * ro)
    · have hB1 : ((hs.length : Int) != wrap64 (wi * ro)) = false := by rw [bne_eq_false_iff_eq]; exact hB
      have HB := Aside0.mk hB
      clear hB
      go_wp2
      clear hA1 hB1
      have HF := Aside0.mk (show termFault wi ro y x ch hs = if anyUnseen ch then 3 else 0 by
        have hA2 := HA.out
        have hB2 := HB.out
        rw [Int.mul_comm] at hA2 hB2
        unfold termFault
        rw [if_neg (by rw [H1.out]; simp), if_neg (by simp; omega)])
      go_loopw [4] (fun i wr => ∃ (k q : Nat), k ≤ ch.length ∧ i = .int .i64 k ∧ Aside0 (∀ j, j < k → isSeen (ch.getD j 0) = true) ∧ wr = w.drewN q) (fun i _ => ch.length - (intOf i).toNat)
      case atStart => exact ⟨0, _, Nat.zero_le _, rfl, ⟨fun j hj => absurd hj (by omega)⟩, by first | rfl | (simp only [World.drewN_drewN]; rfl)⟩
      case round =>
        obtain ⟨k, q, hk, rfl, hb, rfl⟩ := hrel
        by_cases hlt : k < ch.length
        · obtain ⟨ad, e, hx⟩ := at1 HR.out 0 k hlt
          cases e
          generalize hu : ch.getD k 0 = u at hx
          have HU := Aside0.mk hu
          clear hu
          cases hs : isSeen u
          · go_wp2_with (go_at_call 112; refine Calls.mono (l11Shown_c _ _) ?_; rintro e w' ⟨rfl, rfl⟩)
            go_ret
            exact ⟨by rw [HF.out, anyUnseen_at ch k hlt (by rw [HU.out]; exact hs)]; rfl, by repeat (first | exact Drawn0.refl _ | refine Drawn0.step ?_ _)⟩
          · go_wp2_with (go_at_call 112; refine Calls.mono (l11Shown_c _ _) ?_; rintro e w' ⟨rfl, rfl⟩)
            go_roundw
            case rel => exact ⟨k + 1, _, by omega, by go_num, ⟨fun j hj => by
              rcases Nat.lt_or_ge j k with h | h
              · exact hb.out j h
              · obtain rfl : j = k := by omega
                rw [HU.out]; exact hs⟩, rfl⟩
            case measure => simp [intOf]; omega
        · go_wp2
          go_ret
          exact ⟨by rw [HF.out, anyUnseen_none ch (fun j hj => hb.out j (by omega))]; rfl, by repeat (first | exact Drawn0.refl _ | refine Drawn0.step ?_ _)⟩
    · have hB1 : ((hs.length : Int) != wrap64 (wi * ro)) = true := by rw [bne_iff_ne]; exact hB
      have HB := Aside0.mk hB
      clear hB
      go_wp2
      go_ret
      exact ⟨by
        have hA2 := HA.out
        have hB2 := HB.out
        rw [Int.mul_comm] at hA2 hB2
        unfold termFault
        rw [if_neg (by rw [H1.out]; simp), if_pos (by simp; omega)]; rfl, by repeat (first | exact Drawn0.refl _ | refine Drawn0.step ?_ _)⟩
  · have hA1 : ((ch.length : Int) != wrap64 (wi * ro)) = true := by rw [bne_iff_ne]; exact hA
    have HA := Aside0.mk hA
    clear hA
    go_wp2
    go_ret
    exact ⟨by
      have hA2 := HA.out
      rw [Int.mul_comm] at hA2
      unfold termFault
      rw [if_neg (by rw [H1.out]; simp), if_pos (by simp; omega)]; rfl, by repeat (first | exact Drawn0.refl _ | refine Drawn0.step ?_ _)⟩

theorem specTermFault_c (wi ro y x : Int) (hi : Bool) (A B : Option Addr) (c d : Nat) (ch : List Int) (hs : List Bool) (w : World)
    (hr : Kd.C (Kd.int .i64) w A ch.length ch) (hm2 : hs.length ≤ 9223372036854775807) :
    Calls Try.prog 28 #[.agg #[.int .i64 wi, .int .i64 ro, .int .i64 y, .int .i64 x, .bool hi, .slice A ch.length c, .slice B hs.length d]] w fun e w' => e = .returned (.int .i64 (termFault wi ro y x ch hs)) ∧ Below w.heap.size w w' := by
  have HR := Aside0.mk hr
  clear hr
  go_enter Try.func28, Try.ntmps28
  go_wp2_with (go_at_call 78; refine Calls.mono (l13Fault_c _ wi ro y x hi A B c d ch hs _ (heap_alloc_new _ _) (by repeat (first | exact HR.out | refine Kd.C_alloc ?_ _)) hm2) ?_; rintro e w' ⟨rfl, ⟨⟨q, rfl⟩⟩⟩)
  go_ret
  refine ⟨rfl, ?_⟩
  repeat (first | exact Below.refl _ _ | refine below_alloc ?_ _ | refine pw_below_drewN ?_ _)
end Go.Proofs.Ytpfponhaofdbaaa.M
