import Derived.Test.YtpfponhaofdbaaaG
set_option linter.unusedVariables false
set_option linter.unusedSimpArgs false
namespace Go.Proofs.Ytpfponhaofdbaaa.M
open Go.RowKit Go.Proofs.YtpfponhaofdbaaaW.PrintWords

/-! GridFault -/
def gridForm (wi : Int) (n m : Nat) : Bool := ((n : Int) == 0) || ((n : Int) % wi != 0) || decide (13 * wi < (n : Int)) || ((m : Int) != (n : Int))
def gridFault (wi : Int) (ch : List Int) (hs : List Bool) : Int :=
  if !within wi 4 40 then 3 else if gridForm wi ch.length hs.length then 1 else if anyUnseen ch then 3 else 0
theorem hg_gridSeen : ∀ a w, (callFunc 109 #[a]).run Try.prog w = .ok (.enter 109 #[a]) w :=
  fun a w => MuLone.run_callFunc_enter Try.func109 (by kernel_rfl) rfl #[a] w
theorem gridSeen_c (c : Int) (w : World) : Calls Try.prog 109 #[.int .i64 c] w fun e w' => e = .returned (.bool (!isSeen c)) ∧ w = w' := by
  go_enter Try.func109, Try.ntmps109
  go_wp2_with (go_at_call 81; refine Calls.mono (isSeen_c _ _) ?_; rintro e w' ⟨rfl, rfl⟩)
  all_goals
    go_ret
    exact ⟨by simp [*], rfl⟩
theorem gridUnseen_c (A : Option Addr) (c : Nat) (l : List Int) (w : World) (hr : Kd.C (Kd.int .i64) w A l.length l) (hc : l.length ≤ c) :
    Calls Try.prog 79 #[.slice A l.length c, .func (.func 109) #[] #[]] w fun e w' => e = .returned (.bool (anyUnseen l)) ∧ w = w' :=
  containsFunc_c 109 _ hg_gridSeen gridSeen_c A c l w hr hc (Kd.C_max hr)

theorem GridFault_c (wi : Int) (A : Option Addr) (c : Nat) (ch : List Int) (B : Option Addr) (d : Nat) (hs : List Bool) (w : World)
    (hr : Kd.C (Kd.int .i64) w A ch.length ch) (hs' : Kd.C Kd.bool w B hs.length hs) (hc : ch.length ≤ c) (hd : hs.length ≤ d) :
    Calls Try.prog 61 #[.agg #[.int .i64 wi, .slice A ch.length c, .slice B hs.length d]] w fun e w' => e = .returned (.int .i64 (gridFault wi ch hs)) ∧ Below w.heap.size w w' := by
  have HR := Aside0.mk hr
  have hm := Kd.C_max hr
  have hm2 := Kd.C_max hs'
  clear hr hs'
  cases hw : within wi 4 40
  · go_enter Try.func61, Try.ntmps61
    go_wp2_with (go_at_call 75; refine Calls.mono (within_c _ _ _ _) ?_; rintro e w' ⟨rfl, rfl⟩)
    go_ret
    exact ⟨by simp [gridFault, hw], (by repeat (first | exact Below.refl _ _ | refine below_alloc ?_ _ | refine below_drew ?_ | refine pw_below_drewN ?_ _ | refine Below.setCell ?_ (by dsimp only; omega) _))⟩
  · have hb := within_bd hw
    have hb1 := hb.1
    have hb2 := hb.2
    have HG := Aside0.mk (show gridFault wi ch hs = if gridForm wi ch.length hs.length then 1 else if anyUnseen ch then 3 else 0 by simp [gridFault, hw])
    clear hb
    go_enter Try.func61, Try.ntmps61
    go_wp2_with (first
      | (go_at_call 75; refine Calls.mono (within_c _ _ _ _) ?_; rintro e w' ⟨rfl, rfl⟩)
      | (go_at_call 79; refine Calls.mono (gridUnseen_c A c ch _ (by repeat (first | exact HR.out | refine Kd.C_alloc ?_ _ | refine Kd.C_drewN ?_ _)) hc) ?_; rintro e w' ⟨rfl, rfl⟩))
    all_goals
      go_ret
      refine ⟨?_, (by repeat (first | exact Below.refl _ _ | refine below_alloc ?_ _ | refine below_drew ?_ | refine pw_below_drewN ?_ _ | refine Below.setCell ?_ (by dsimp only; omega) _))⟩
      rw [HG.out]
      first | (simp_all [gridForm]; done) | (simp_all [gridForm]; omega)

/-! the reference's -/
def l11Form (wi : Int) (n m : Nat) : Bool := ((n : Int) == 0) || ((n : Int) % wi != 0) || decide (13 < (n : Int) / wi) || ((n : Int) != (m : Int))
theorem l11Form_eq (wi : Int) (n m : Nat) (h : 4 ≤ wi) : gridForm wi n m = l11Form wi n m := by
  unfold gridForm l11Form
  by_cases h0 : (n : Int) % wi = 0
  · have h1 : (13 * wi < (n : Int)) ↔ (13 < (n : Int) / wi) := by
      obtain ⟨k, hk⟩ := Int.dvd_of_emod_eq_zero h0
      rw [hk, Int.mul_ediv_cancel_left _ (by omega), Int.mul_comm 13 wi]
      exact Int.mul_lt_mul_left (by omega)
    rw [show decide (13 * wi < (n : Int)) = decide (13 < (n : Int) / wi) from decide_eq_decide.2 h1, Bool.eq_iff_iff]
    simp
    omega
  · have h2 : ((n : Int) % wi != 0) = true := by simpa using h0
    rw [h2]
    simp
theorem quo_bd (n : Nat) (wi : Int) (h : 4 ≤ wi) (hn : n ≤ 9223372036854775807) : 0 ≤ (n : Int) / wi ∧ (n : Int) / wi ≤ 9223372036854775807 :=
  ⟨Int.ediv_nonneg (by omega) (by omega), Int.le_trans (Int.ediv_le_self _ (by omega)) (by omega)⟩

set_option maxRecDepth 100000 in
theorem l11Grid_c (g : Nat) (wi : Int) (A : Option Addr) (c : Nat) (ch : List Int) (B : Option Addr) (d : Nat) (hs : List Bool) (w : World)
    (hg : w.heap[g]? = some (.cells #[.int .i64 wi, .slice A ch.length c, .slice B hs.length d] 33 (0, 0)))
    (hr : Kd.C (Kd.int .i64) w A ch.length ch) (hs' : Kd.C Kd.bool w B hs.length hs) :
    Calls Try.prog 118 #[.pointer (some ⟨g, 0, none⟩)] w fun e w' => e = .returned (.int .i64 (gridFault wi ch hs)) ∧ Drawn0 w w' := by
  have HR := Aside0.mk hr
  have hm := Kd.C_max hr
  have hm2 := Kd.C_max hs'
  have rd := blk_cell hg
  clear hr hs' hg
  cases hw : within wi 4 40
  · go_enter Try.func118, Try.ntmps118
    go_wp2_with (go_at_call 62; refine Calls.mono (l1In_c _ _ _ _) ?_; rintro e w' ⟨rfl, rfl⟩)
    go_ret
    exact ⟨by simp [gridFault, hw], .refl _⟩
  · have hb := within_bd hw
    have hb1 := hb.1
    have hb2 := hb.2
    have HG := Aside0.mk (show gridFault wi ch hs = if gridForm wi ch.length hs.length then 1 else if anyUnseen ch then 3 else 0 by simp [gridFault, hw])
    clear hb
    have hq := quo_bd ch.length wi hb1 hm
    have hq1 := hq.1
    have hq2 := hq.2
    clear hq
    cases e1 : ((ch.length : Int) == 0)
    · cases e2 : ((ch.length : Int) % wi != 0)
      · cases e3 : decide (13 < (ch.length : Int) / wi)
        · cases e4 : ((ch.length : Int) != (hs.length : Int))
          · have HF := Aside0.mk (show gridFault wi ch hs = if anyUnseen ch then 3 else 0 by rw [HG.out, l11Form_eq _ _ _ hb1]; simp only [l11Form, e1, e2, e3, e4]; rfl)
            go_enter Try.func118, Try.ntmps118
            go_wp2_with (go_at_call 62; refine Calls.mono (l1In_c _ _ _ _) ?_; rintro e w' ⟨rfl, rfl⟩)
            clear e1 e2 e3 e4 hq1 hq2
            go_loopw [4] (fun i wr => ∃ (k q : Nat), k ≤ ch.length ∧ i = .int .i64 k ∧ Aside0 (∀ j, j < k → isSeen (ch.getD j 0) = true) ∧ wr = w.drewN q) (fun i _ => ch.length - (intOf i).toNat)
            case atStart => exact ⟨0, 0, Nat.zero_le _, rfl, ⟨fun j hj => absurd hj (by omega)⟩, rfl⟩
            case round =>
              obtain ⟨k, q, hk, rfl, hbk, rfl⟩ := hrel
              by_cases hlt : k < ch.length
              · obtain ⟨ad, e, hx⟩ := at1 HR.out 0 k hlt
                cases e
                generalize hu : ch.getD k 0 = u at hx
                have HU := Aside0.mk hu
                clear hu
                cases hsn : isSeen u
                · go_wp2_with (go_at_call 112; refine Calls.mono (l11Shown_c _ _) ?_; rintro e w' ⟨rfl, rfl⟩)
                  go_ret
                  exact ⟨by rw [HF.out, anyUnseen_at ch k hlt (by rw [HU.out]; exact hsn)]; rfl, ⟨⟨_, rfl⟩⟩⟩
                · go_wp2_with (go_at_call 112; refine Calls.mono (l11Shown_c _ _) ?_; rintro e w' ⟨rfl, rfl⟩)
                  go_roundw
                  case rel => exact ⟨k + 1, _, by omega, by go_num, ⟨fun j hj => by
                    rcases Nat.lt_or_ge j k with h | h
                    · exact hbk.out j h
                    · obtain rfl : j = k := by omega
                      rw [HU.out]; exact hsn⟩, rfl⟩
                  case measure => simp [intOf]; omega
              · go_wp2
                go_ret
                exact ⟨by rw [HF.out, anyUnseen_none ch (fun j hj => hbk.out j (by omega))]; rfl, ⟨⟨_, rfl⟩⟩⟩
          · go_enter Try.func118, Try.ntmps118
            go_wp2_with (go_at_call 62; refine Calls.mono (l1In_c _ _ _ _) ?_; rintro e w' ⟨rfl, rfl⟩)
            go_ret
            exact ⟨by rw [HG.out, l11Form_eq _ _ _ hb1]; simp [l11Form, e1, e2, e3, e4], .refl _⟩
        · go_enter Try.func118, Try.ntmps118
          go_wp2_with (go_at_call 62; refine Calls.mono (l1In_c _ _ _ _) ?_; rintro e w' ⟨rfl, rfl⟩)
          go_ret
          exact ⟨by rw [HG.out, l11Form_eq _ _ _ hb1]; simp [l11Form, e1, e2, e3], .refl _⟩
      · go_enter Try.func118, Try.ntmps118
        go_wp2_with (go_at_call 62; refine Calls.mono (l1In_c _ _ _ _) ?_; rintro e w' ⟨rfl, rfl⟩)
        go_ret
        exact ⟨by rw [HG.out, l11Form_eq _ _ _ hb1]; simp [l11Form, e1, e2], .refl _⟩
    · go_enter Try.func118, Try.ntmps118
      go_wp2_with (go_at_call 62; refine Calls.mono (l1In_c _ _ _ _) ?_; rintro e w' ⟨rfl, rfl⟩)
      go_ret
      exact ⟨by rw [HG.out, l11Form_eq _ _ _ hb1]; simp [l11Form, e1], .refl _⟩
end Go.Proofs.Ytpfponhaofdbaaa.M
