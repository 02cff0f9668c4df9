import Derived.Test.YtpfponhaofdbaaaS1
set_option linter.unusedVariables false
set_option linter.unusedSimpArgs false
namespace Go.Proofs.Ytpfponhaofdbaaa.M
open Go.RowKit Go.Proofs.YtpfponhaofdbaaaW.PrintWords

/-! what FeedTerm reads -/
def more (d : List Int) (i : Nat) : Int := if i < d.length ∧ 128 ≤ d.getD i 0 ∧ d.getD i 0 ≤ 191 then d.getD i 0 - 128 else -1
theorem l1More_c (A : Option Addr) (c : Nat) (d : List Int) (i : Nat) (w : World) (hr : Kd.C (Kd.int .u8) w A d.length d) (hi : i ≤ 9223372036854775807) (hb : ∀ z ∈ d, 0 ≤ z ∧ z ≤ 255) :
    Calls Try.prog 149 #[.slice A d.length c, .int .i64 i] w fun e w' => e = .returned (.int .i64 (more d i)) ∧ Drawn0 w w' := by
  by_cases hlt : i < d.length
  · obtain ⟨ad, e, hx⟩ := at1 hr 0 i hlt
    cases e
    have hbb := hb (d.getD i 0) (by rw [List.getD_eq_getElem?_getD, List.getElem?_eq_getElem hlt]; exact List.getElem_mem hlt)
    have HM := Aside0.mk (show more d i = if i < d.length ∧ 128 ≤ d.getD i 0 ∧ d.getD i 0 ≤ 191 then d.getD i 0 - 128 else -1 from rfl)
    generalize d.getD i 0 = v at hx hbb HM
    have b1 : decide ((i : Int) ≥ (d.length : Int)) = false := decide_eq_false (by omega)
    by_cases h1 : v < 128
    · have b2 : decide (v < 128) = true := decide_eq_true h1
      have HQ := Aside0.mk (HM.out.trans (if_neg (by omega)))
      clear h1 hr hb
      go_enter Try.func149, Try.ntmps149
      go_wp2
      go_ret
      exact ⟨by rw [HQ.out]; rfl, Drawn0.refl _⟩
    · have b2 : decide (v < 128) = false := decide_eq_false h1
      by_cases h2 : v > 191
      · have b3 : decide (v > 191) = true := decide_eq_true h2
        have HQ := Aside0.mk (HM.out.trans (if_neg (by omega)))
        clear h1 h2 hr hb
        go_enter Try.func149, Try.ntmps149
        go_wp2
        go_ret
        exact ⟨by rw [HQ.out]; rfl, Drawn0.refl _⟩
      · have b3 : decide (v > 191) = false := decide_eq_false h2
        have HQ := Aside0.mk (HM.out.trans (if_pos (by omega)))
        clear h1 h2 hr hb
        go_enter Try.func149, Try.ntmps149
        go_wp2
        go_ret
        exact ⟨by rw [HQ.out]; rfl, Drawn0.refl _⟩
  · have b1 : decide ((i : Int) ≥ (d.length : Int)) = true := decide_eq_true (by omega)
    have HQ := Aside0.mk (show more d i = -1 by unfold more; rw [if_neg (by omega)])
    clear hr hb
    go_enter Try.func149, Try.ntmps149
    go_wp2
    go_ret
    exact ⟨by rw [HQ.out]; rfl, Drawn0.refl _⟩

def decoC (b x y : Int) : Int := (b - 224) * 4096 + x * 64 + y
def deco (b x y : Int) : Int × Int :=
  if b < 128 then (b, 1)
  else if 194 ≤ b ∧ b < 224 ∧ 0 ≤ x then ((b - 192) * 64 + x, 2)
  else if (224 ≤ b ∧ b < 240 ∧ 0 ≤ x ∧ 0 ≤ y) ∧ 2048 ≤ decoC b x y ∧ isChar (decoC b x y) = true then (decoC b x y, 3)
  else (0, 0)
theorem more_bd (d : List Int) (i : Nat) : -1 ≤ more d i ∧ more d i ≤ 63 := by
  unfold more
  split <;> omega
set_option maxRecDepth 100000 in
set_option maxHeartbeats 1000000 in
theorem l1Decode_c (A : Option Addr) (c : Nat) (d : List Int) (i : Nat) (w : World) (hr : Kd.C (Kd.int .u8) w A d.length d) (hi : i < d.length) (hl : d.length ≤ 1000000) (hb : ∀ z ∈ d, 0 ≤ z ∧ z ≤ 255) :
    Calls Try.prog 134 #[.slice A d.length c, .int .i64 i] w fun e w' => e = .returned (.tuple #[.int .i64 (deco (d.getD i 0) (more d (i + 1)) (more d (i + 2))).1, .int .i64 (deco (d.getD i 0) (more d (i + 1)) (more d (i + 2))).2]) ∧ Below w.heap.size w w' := by
  obtain ⟨ad, e, hx⟩ := at1 hr 0 i hi
  cases e
  have HR := Aside0.mk hr
  have HBD := Aside0.mk hb
  have hbb := hb (d.getD i 0) (by rw [List.getD_eq_getElem?_getD, List.getElem?_eq_getElem hi]; exact List.getElem_mem hi)
  clear hr hb
  have hX := more_bd d (i + 1)
  have hY := more_bd d (i + 2)
  generalize hgx : more d (i + 1) = x at hX
  generalize hgy : more d (i + 2) = y at hY
  have HX := Aside0.mk hgx
  have HY := Aside0.mk hgy
  clear hgx hgy
  generalize d.getD i 0 = b at hx hbb
  by_cases h1 : b < 128
  · have b1 : decide (b < 128) = true := decide_eq_true h1
    have HQ := Aside0.mk (show deco b x y = (b, 1) by simp [deco, h1])
    clear h1
    go_enter Try.func134, Try.ntmps134
    go_wp2
    go_ret2
    exact ⟨by rw [HQ.out]; rfl, Below.refl _ _⟩
  · have b1 : decide (b < 128) = false := decide_eq_false h1
    by_cases h2 : 194 ≤ b ∧ b < 224 ∧ 0 ≤ x
    · have HQ := Aside0.mk (show deco b x y = ((b - 192) * 64 + x, 2) by simp [deco, h1, h2])
      have b2 : decide (b ≥ 194) = true := decide_eq_true (by omega)
      have b3 : decide (b < 224) = true := decide_eq_true (by omega)
      have b4 : decide (x ≥ 0) = true := decide_eq_true (by omega)
      have c1 : IntKind.i64.wrap ((b - 192) * 64 + x) = (b - 192) * 64 + x := by rw [IntKind.wrap_i64]; omega
      clear h1 h2
      go_enter Try.func134, Try.ntmps134
      go_wp2_with (go_at_call 149; refine Calls.mono (l1More_c (some ad) c d (i + 1) _ HR.out (by omega) HBD.out) ?_; rintro e w' ⟨rfl, ⟨⟨q, rfl⟩⟩⟩; rw [HX.out])
      go_ret2
      exact ⟨by rw [HQ.out]; rfl, by repeat (with_reducible first | exact Below.refl _ _ | refine below_drew ?_ | refine pw_below_drewN ?_ _)⟩
    · by_cases h3 : b < 194
      · have HQ := Aside0.mk (show deco b x y = (0, 0) by unfold deco; rw [if_neg h1, if_neg h2, if_neg (by omega)])
        have b2 : decide (b ≥ 194) = false := decide_eq_false (by omega)
        have b5 : decide (b ≥ 224) = false := decide_eq_false (by omega)
        clear h1 h2 h3
        go_enter Try.func134, Try.ntmps134
        go_wp2_with fail
        refine Calls.mono (l1More_c (some ad) c d (i + 1) _ HR.out (by omega) HBD.out) ?_
        rintro e w' ⟨rfl, ⟨⟨q, rfl⟩⟩⟩
        rw [HX.out]
        go_wp2_with fail
        refine Calls.mono (l1More_c (some ad) c d (i + 2) _ (by repeat (with_reducible first | exact HR.out | refine Kd.C_drewN ?_ _ | refine Kd.C_drew ?_)) (by omega) HBD.out) ?_
        rintro e w' ⟨rfl, ⟨⟨q2, rfl⟩⟩⟩
        rw [HY.out]
        go_wp2
        go_ret2
        exact ⟨by rw [HQ.out]; rfl, by repeat (with_reducible first | exact Below.refl _ _ | refine below_drew ?_ | refine pw_below_drewN ?_ _)⟩
      · have b2 : decide (b ≥ 194) = true := decide_eq_true (by omega)
        by_cases h4 : b < 224
        · have HQ := Aside0.mk (show deco b x y = (0, 0) by unfold deco; rw [if_neg h1, if_neg h2, if_neg (by omega)])
          have b3 : decide (b < 224) = true := decide_eq_true h4
          have b4 : decide (x ≥ 0) = false := decide_eq_false (by omega)
          have b5 : decide (b ≥ 224) = false := decide_eq_false (by omega)
          clear h1 h2 h3 h4
          go_enter Try.func134, Try.ntmps134
          go_wp2_with fail
          refine Calls.mono (l1More_c (some ad) c d (i + 1) _ HR.out (by omega) HBD.out) ?_
          rintro e w' ⟨rfl, ⟨⟨q, rfl⟩⟩⟩
          rw [HX.out]
          go_wp2_with fail
          refine Calls.mono (l1More_c (some ad) c d (i + 2) _ (by repeat (with_reducible first | exact HR.out | refine Kd.C_drewN ?_ _ | refine Kd.C_drew ?_)) (by omega) HBD.out) ?_
          rintro e w' ⟨rfl, ⟨⟨q2, rfl⟩⟩⟩
          rw [HY.out]
          go_wp2
          go_ret2
          exact ⟨by rw [HQ.out]; rfl, by repeat (with_reducible first | exact Below.refl _ _ | refine below_drew ?_ | refine pw_below_drewN ?_ _)⟩
        · have b3 : decide (b < 224) = false := decide_eq_false h4
          have b5 : decide (b ≥ 224) = true := decide_eq_true (by omega)
          by_cases h6 : b < 240
          · have b6 : decide (b < 240) = true := decide_eq_true h6
            by_cases h7 : 0 ≤ x
            · have b7 : decide (x ≥ 0) = true := decide_eq_true h7
              by_cases h8 : 0 ≤ y
              · have b8 : decide (y ≥ 0) = true := decide_eq_true h8
                have c1 : IntKind.i64.wrap ((b - 224) * 4096 + x * 64) = (b - 224) * 4096 + x * 64 := by rw [IntKind.wrap_i64]; omega
                have c2 : IntKind.i64.wrap ((b - 224) * 4096 + x * 64 + y) = (b - 224) * 4096 + x * 64 + y := by rw [IntKind.wrap_i64]; omega
                by_cases h9 : 2048 ≤ decoC b x y
                · have b9 : decide ((b - 224) * 4096 + x * 64 + y ≥ 2048) = true := decide_eq_true h9
                  cases h10 : isChar (decoC b x y)
                  · have HQ := Aside0.mk (show deco b x y = (0, 0) by unfold deco; rw [if_neg h1, if_neg h2, if_neg (by rw [h10]; simp)])
                    have HCH := Aside0.mk h10
                    clear h1 h2 h9 h10
                    go_enter Try.func134, Try.ntmps134
                    go_wp2_with fail
                    refine Calls.mono (l1More_c (some ad) c d (i + 1) _ HR.out (by omega) HBD.out) ?_
                    rintro e w' ⟨rfl, ⟨⟨q, rfl⟩⟩⟩
                    rw [HX.out]
                    go_wp2_with fail
                    refine Calls.mono (l1More_c (some ad) c d (i + 2) _ (by repeat (with_reducible first | exact HR.out | refine Kd.C_drewN ?_ _ | refine Kd.C_drew ?_)) (by omega) HBD.out) ?_
                    rintro e w' ⟨rfl, ⟨⟨q2, rfl⟩⟩⟩
                    rw [HY.out]
                    go_wp2_with fail
                    refine Calls.mono (l1Char_c (decoC b x y) _) ?_
                    rintro e w' ⟨rfl, rfl⟩
                    rw [HCH.out]
                    go_wp2
                    go_ret2
                    exact ⟨by rw [HQ.out]; rfl, by repeat (with_reducible first | exact Below.refl _ _ | refine below_drew ?_ | refine pw_below_drewN ?_ _)⟩
                  · have HQ := Aside0.mk (show deco b x y = (decoC b x y, 3) by unfold deco; rw [if_neg h1, if_neg h2, if_pos ⟨⟨by omega, h6, h7, h8⟩, h9, h10⟩])
                    have HCH := Aside0.mk h10
                    clear h1 h2 h9 h10
                    go_enter Try.func134, Try.ntmps134
                    go_wp2_with fail
                    refine Calls.mono (l1More_c (some ad) c d (i + 1) _ HR.out (by omega) HBD.out) ?_
                    rintro e w' ⟨rfl, ⟨⟨q, rfl⟩⟩⟩
                    rw [HX.out]
                    go_wp2_with fail
                    refine Calls.mono (l1More_c (some ad) c d (i + 2) _ (by repeat (with_reducible first | exact HR.out | refine Kd.C_drewN ?_ _ | refine Kd.C_drew ?_)) (by omega) HBD.out) ?_
                    rintro e w' ⟨rfl, ⟨⟨q2, rfl⟩⟩⟩
                    rw [HY.out]
                    go_wp2_with fail
                    refine Calls.mono (l1Char_c (decoC b x y) _) ?_
                    rintro e w' ⟨rfl, rfl⟩
                    rw [HCH.out]
                    go_wp2
                    go_ret2
                    exact ⟨by rw [HQ.out]; rfl, by repeat (with_reducible first | exact Below.refl _ _ | refine below_drew ?_ | refine pw_below_drewN ?_ _)⟩
                · have b9 : decide ((b - 224) * 4096 + x * 64 + y ≥ 2048) = false := decide_eq_false h9
                  have HQ := Aside0.mk (show deco b x y = (0, 0) by unfold deco; rw [if_neg h1, if_neg h2, if_neg (fun h => h9 h.2.1)])
                  clear h9
                  clear h1 h2
                  go_enter Try.func134, Try.ntmps134
                  go_wp2_with fail
                  refine Calls.mono (l1More_c (some ad) c d (i + 1) _ HR.out (by omega) HBD.out) ?_
                  rintro e w' ⟨rfl, ⟨⟨q, rfl⟩⟩⟩
                  rw [HX.out]
                  go_wp2_with fail
                  refine Calls.mono (l1More_c (some ad) c d (i + 2) _ (by repeat (with_reducible first | exact HR.out | refine Kd.C_drewN ?_ _ | refine Kd.C_drew ?_)) (by omega) HBD.out) ?_
                  rintro e w' ⟨rfl, ⟨⟨q2, rfl⟩⟩⟩
                  rw [HY.out]
                  go_wp2
                  go_ret2
                  exact ⟨by rw [HQ.out]; rfl, by repeat (with_reducible first | exact Below.refl _ _ | refine below_drew ?_ | refine pw_below_drewN ?_ _)⟩
              · have b8 : decide (y ≥ 0) = false := decide_eq_false h8
                have HQ := Aside0.mk (show deco b x y = (0, 0) by unfold deco; rw [if_neg h1, if_neg h2, if_neg (by omega)])
                clear h1 h2
                go_enter Try.func134, Try.ntmps134
                go_wp2_with fail
                refine Calls.mono (l1More_c (some ad) c d (i + 1) _ HR.out (by omega) HBD.out) ?_
                rintro e w' ⟨rfl, ⟨⟨q, rfl⟩⟩⟩
                rw [HX.out]
                go_wp2_with fail
                refine Calls.mono (l1More_c (some ad) c d (i + 2) _ (by repeat (with_reducible first | exact HR.out | refine Kd.C_drewN ?_ _ | refine Kd.C_drew ?_)) (by omega) HBD.out) ?_
                rintro e w' ⟨rfl, ⟨⟨q2, rfl⟩⟩⟩
                rw [HY.out]
                go_wp2
                go_ret2
                exact ⟨by rw [HQ.out]; rfl, by repeat (with_reducible first | exact Below.refl _ _ | refine below_drew ?_ | refine pw_below_drewN ?_ _)⟩
            · have b7 : decide (x ≥ 0) = false := decide_eq_false h7
              have HQ := Aside0.mk (show deco b x y = (0, 0) by unfold deco; rw [if_neg h1, if_neg h2, if_neg (by omega)])
              clear h1 h2
              go_enter Try.func134, Try.ntmps134
              go_wp2_with fail
              refine Calls.mono (l1More_c (some ad) c d (i + 1) _ HR.out (by omega) HBD.out) ?_
              rintro e w' ⟨rfl, ⟨⟨q, rfl⟩⟩⟩
              rw [HX.out]
              go_wp2_with fail
              refine Calls.mono (l1More_c (some ad) c d (i + 2) _ (by repeat (with_reducible first | exact HR.out | refine Kd.C_drewN ?_ _ | refine Kd.C_drew ?_)) (by omega) HBD.out) ?_
              rintro e w' ⟨rfl, ⟨⟨q2, rfl⟩⟩⟩
              rw [HY.out]
              go_wp2
              go_ret2
              exact ⟨by rw [HQ.out]; rfl, by repeat (with_reducible first | exact Below.refl _ _ | refine below_drew ?_ | refine pw_below_drewN ?_ _)⟩
          · have b6 : decide (b < 240) = false := decide_eq_false h6
            have HQ := Aside0.mk (show deco b x y = (0, 0) by unfold deco; rw [if_neg h1, if_neg h2, if_neg (by omega)])
            clear h1 h2
            go_enter Try.func134, Try.ntmps134
            go_wp2_with fail
            refine Calls.mono (l1More_c (some ad) c d (i + 1) _ HR.out (by omega) HBD.out) ?_
            rintro e w' ⟨rfl, ⟨⟨q, rfl⟩⟩⟩
            rw [HX.out]
            go_wp2_with fail
            refine Calls.mono (l1More_c (some ad) c d (i + 2) _ (by repeat (with_reducible first | exact HR.out | refine Kd.C_drewN ?_ _ | refine Kd.C_drew ?_)) (by omega) HBD.out) ?_
            rintro e w' ⟨rfl, ⟨⟨q2, rfl⟩⟩⟩
            rw [HY.out]
            go_wp2
            go_ret2
            exact ⟨by rw [HQ.out]; rfl, by repeat (with_reducible first | exact Below.refl _ _ | refine below_drew ?_ | refine pw_below_drewN ?_ _)⟩
end Go.Proofs.Ytpfponhaofdbaaa.M
