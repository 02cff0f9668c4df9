import Derived.Test.YtpfponhaofdbaaaF8
import Derived.Test.YtpfponhaofdbaaaF6
set_option linter.unusedVariables false
set_option linter.unusedSimpArgs false
namespace Go.Proofs.Ytpfponhaofdbaaa.M
open Go.RowKit Go.Proofs.YtpfponhaofdbaaaW.PrintWords

theorem l1Min_c (x y : Int) (w : World) : Calls Try.prog 145 #[.int .i64 x, .int .i64 y] w fun e w' => e = .returned (.int .i64 (min x y)) ∧ w = w' := by
  by_cases h : x < y
  · have hm := Aside0.mk (show min x y = x by omega)
    go_enter Try.func145, Try.ntmps145
    go_wp2
    go_ret
    exact ⟨by rw [hm.out]; rfl, rfl⟩
  · have hm := Aside0.mk (show min x y = y by omega)
    go_enter Try.func145, Try.ntmps145
    go_wp2
    go_ret
    exact ⟨by rw [hm.out]; rfl, rfl⟩

set_option maxRecDepth 100000 in
set_option maxHeartbeats 2000000 in
theorem l13Move_c (g a b c d base : Nat) (s : TS) (A : Option Addr) (cp : Nat) (da : List Int) (i : Nat) (w : World) (h : TAt w g a b c d base s) (hi : TI s)
    (hr : Kd.C (Kd.int .u8) w A da.length da) (hl : da.length ≤ 100000) (hb : ∀ z ∈ da, 0 ≤ z ∧ z ≤ 255) (hil : i ≤ da.length) :
    Calls Try.prog 148 #[.pointer (some ⟨g, 0, none⟩), .slice A da.length cp, .int .i64 i] w fun e w' => e = .returned (.int .i64 ((movS da i s).2 : Int)) ∧ TAt w' g a b c d base (movS da i s).1 ∧ TKeep w w' g a b := by
  have HT := Aside0.mk h
  have rd0 := blk_cell h.1
  have fr0 := blk_free h.1
  have r1 := hi.r1
  have r2 := hi.r2
  have w1 := hi.w1
  have w2 := hi.w2
  have HR := Aside0.mk hr
  have N1 := Aside0.mk (l13Number_c A cp da i w hr hb (by omega) (by omega))
  have hn := numP_bd da i
  have HM := Aside0.mk (show movS da i s = movS1 da i s (numP da i) from rfl)
  generalize numP da i = r at *
  obtain ⟨y, i1⟩ := r
  obtain ⟨n1, n2, n3, n4, n5, n6⟩ := hn
  dsimp only at n1 n2 n3 n4 n5 n6
  have n7 : i1 ≤ da.length := n5 hil
  clear n5 h hi
  by_cases g1 : y < 0
  · have HQ := Aside0.mk (HM.out.trans (if_pos (Or.inl g1)))
    clear n6 hr hb
    go_enter Try.func148, Try.ntmps148
    go_wp2_with fail
    refine Calls.mono N1.out ?_
    rintro e w' ⟨rfl, rfl⟩
    go_wp2
    go_ret
    exact ⟨by rw [HQ.out]; rfl, by rw [HQ.out]; exact HT.out, TKeep.refl _ _ _ _⟩
  have hy1 : 1 ≤ y := by omega
  by_cases g2 : da.length ≤ i1
  · have HQ := Aside0.mk (HM.out.trans (if_pos (Or.inr (Or.inl g2))))
    have g2' : (i1 : Int) ≥ da.length := by omega
    clear n6 hr hb
    go_enter Try.func148, Try.ntmps148
    go_wp2_with fail
    refine Calls.mono N1.out ?_
    rintro e w' ⟨rfl, rfl⟩
    go_wp2
    go_ret
    exact ⟨by rw [HQ.out]; rfl, by rw [HQ.out]; exact HT.out, TKeep.refl _ _ _ _⟩
  have g2' : i1 < da.length := by omega
  obtain ⟨ad, e, hx⟩ := at1 hr 0 i1 g2'
  cases e
  by_cases g3 : da.getD i1 0 = 59
  rotate_left
  · have HQ := Aside0.mk (HM.out.trans (if_pos (Or.inr (Or.inr g3))))
    generalize da.getD i1 0 = v at *
    have b3 : (v != 59) = true := by simpa using g3
    clear n6 hr hb g3
    go_enter Try.func148, Try.ntmps148
    go_wp2_with fail
    refine Calls.mono N1.out ?_
    rintro e w' ⟨rfl, rfl⟩
    go_wp2
    go_ret
    exact ⟨by rw [HQ.out]; rfl, by rw [HQ.out]; exact HT.out, TKeep.refl _ _ _ _⟩
  have HM2 := Aside0.mk (HM.out.trans (if_neg (by rintro (h | h | h); exact g1 h; (have h' : da.length ≤ i1 := h; omega); exact h g3)))
  rw [g3] at hx
  have N2 := Aside0.mk (l13Number_c (some ad) cp da (i1 + 1) w hr hb (by omega) (by omega))
  have hm := numP_bd da (i1 + 1)
  simp only at HM2
  clear HM g3
  generalize numP da (i1 + 1) = q at *
  obtain ⟨x, i2⟩ := q
  obtain ⟨m1, m2, m3, m4, m5, m6⟩ := hm
  dsimp only at m1 m2 m3 m4 m5 m6 HM2 N2
  have m7 : i2 ≤ da.length := m5 (by omega)
  have N2' := Aside0.mk (by have := N2.out; rw [show ((i1 + 1 : Nat) : Int) = (i1 : Int) + 1 from rfl] at this; exact this)
  clear m5 N2
  by_cases k1 : x < 0
  · have HQ := Aside0.mk (HM2.out.trans (if_pos (Or.inl k1)))
    clear n6 m6 hr hb
    go_enter Try.func148, Try.ntmps148
    go_wp2_with fail
    refine Calls.mono N1.out ?_
    rintro e w' ⟨rfl, rfl⟩
    go_wp2_with fail
    refine Calls.mono N2'.out ?_
    rintro e w' ⟨rfl, rfl⟩
    go_wp2
    go_ret
    exact ⟨by rw [HQ.out]; rfl, by rw [HQ.out]; exact HT.out, TKeep.refl _ _ _ _⟩
  have hx1 : 1 ≤ x := by omega
  by_cases k2 : da.length ≤ i2
  · have HQ := Aside0.mk (HM2.out.trans (if_pos (Or.inr (Or.inl k2))))
    have k2' : (i2 : Int) ≥ da.length := by omega
    clear n6 m6 hr hb
    go_enter Try.func148, Try.ntmps148
    go_wp2_with fail
    refine Calls.mono N1.out ?_
    rintro e w' ⟨rfl, rfl⟩
    go_wp2_with fail
    refine Calls.mono N2'.out ?_
    rintro e w' ⟨rfl, rfl⟩
    go_wp2
    go_ret
    exact ⟨by rw [HQ.out]; rfl, by rw [HQ.out]; exact HT.out, TKeep.refl _ _ _ _⟩
  have k2' : i2 < da.length := by omega
  obtain ⟨ad', e, hx2⟩ := at1 hr 0 i2 k2'
  cases e
  by_cases k3 : da.getD i2 0 = 72
  rotate_left
  · have HQ := Aside0.mk (HM2.out.trans (if_pos (Or.inr (Or.inr k3))))
    generalize da.getD i2 0 = v at *
    have b3 : (v != 72) = true := by simpa using k3
    clear n6 m6 hr hb k3
    go_enter Try.func148, Try.ntmps148
    go_wp2_with fail
    refine Calls.mono N1.out ?_
    rintro e w' ⟨rfl, rfl⟩
    go_wp2_with fail
    refine Calls.mono N2'.out ?_
    rintro e w' ⟨rfl, rfl⟩
    go_wp2
    go_ret
    exact ⟨by rw [HQ.out]; rfl, by rw [HQ.out]; exact HT.out, TKeep.refl _ _ _ _⟩
  have HQ := Aside0.mk (HM2.out.trans (if_neg (by rintro (h | h | h); exact k1 h; (have h' : da.length ≤ i2 := h; omega); exact h k3)))
  rw [k3] at hx2
  have hm1 : 0 ≤ min y s.ro - 1 ∧ min y s.ro - 1 ≤ 13 := by omega
  have hm2 : 0 ≤ min x s.wi - 1 ∧ min x s.wi - 1 ≤ 40 := by omega
  have hle : i ≤ i2 := by omega
  clear n6 m6 hr hb k3 HM2
  go_enter Try.func148, Try.ntmps148
  go_wp2_with fail
  refine Calls.mono N1.out ?_
  rintro e w' ⟨rfl, rfl⟩
  go_wp2_with fail
  refine Calls.mono N2'.out ?_
  rintro e w' ⟨rfl, rfl⟩
  go_wp2_with (go_at_call 145; refine Calls.mono (l1Min_c _ _ _) ?_; rintro e w' ⟨rfl, rfl⟩)
  go_ret
  refine ⟨?_, ?_, ?_⟩
  · rw [HQ.out]
    show Ending.returned (.int .i64 _) = Ending.returned (.int .i64 ((i2 + 1 - i : Nat) : Int))
    rw [show ((i2 + 1 - i : Nat) : Int) = (i2 : Int) + 1 - i by omega]
  · rw [HQ.out]
    exact HT.out.yx_set _ _
  · exact ((TKeep.refl _ _ _ _).setG _ _).setG _ _

set_option maxRecDepth 100000 in
set_option maxHeartbeats 2000000 in
theorem l13Escape_c (g a b c d base : Nat) (s : TS) (A : Option Addr) (cp : Nat) (da : List Int) (i : Nat) (w : World) (h : TAt w g a b c d base s) (hi : TI s)
    (hr : Kd.C (Kd.int .u8) w A da.length da) (hl : da.length ≤ 100000) (hb : ∀ z ∈ da, 0 ≤ z ∧ z ≤ 255) (hil : i ≤ da.length) :
    Calls Try.prog 133 #[.pointer (some ⟨g, 0, none⟩), .slice A da.length cp, .int .i64 i] w fun e w' => e = .returned (.int .i64 ((escS da i s).2 : Int)) ∧ TAt w' g a b c d base (escS da i s).1 ∧ TKeep w w' g a b := by
  have HT := Aside0.mk h
  have HI := Aside0.mk hi
  have rd0 := blk_cell h.1
  have fr0 := blk_free h.1
  have HR := Aside0.mk hr
  have HM := Aside0.mk (l13Move_c g a b c d base s A cp da i w h hi hr hl hb hil)
  have hesc : escS da i s = if i < da.length ∧ da.getD i 0 = 75 then (eraseP s, 1) else if i + 1 < da.length ∧ da.getD (i + 1) 0 = 109 ∧ (da.getD i 0 = 55 ∨ da.getD i 0 = 48) then ({ s with hi := da.getD i 0 == 55 }, 2) else movS da i s := rfl
  have HE := Aside0.mk hesc
  clear hesc hb h hi
  by_cases g1 : i < da.length
  · obtain ⟨ad, e, hx⟩ := at1 hr 0 i g1
    cases e
    have g1' : (i : Int) < da.length := by omega
    by_cases g2 : da.getD i 0 = 75
    · have HQ := Aside0.mk (HE.out.trans (if_pos ⟨g1, g2⟩))
      rw [g2] at hx
      clear g2 hr HM rd0 fr0
      go_enter Try.func133, Try.ntmps133
      go_wp2_with (go_at_call 147; refine Calls.mono (l13Erase_c g a b c d base s _ HT.out HI.out) ?_; rintro e w1 ⟨⟨v, rfl⟩, ht1, hk1⟩; have HT1 := Aside0.mk ht1; have HK1 := Aside0.mk hk1; clear ht1 hk1)
      go_ret
      exact ⟨by rw [HQ.out]; rfl, by rw [HQ.out]; exact HT1.out, HK1.out⟩
    · have HE2 := Aside0.mk (HE.out.trans (if_neg (fun h => g2 h.2)))
      have b2 : (da.getD i 0 == 75) = false := by simpa using g2
      by_cases g3 : i + 1 < da.length
      · obtain ⟨ad', e, hx2⟩ := at1 hr 0 (i + 1) g3
        cases e
        have ej : (i : Int) + 1 = ((i + 1 : Nat) : Int) := rfl
        generalize i + 1 = j at *
        have g3' : (j : Int) < da.length := by omega
        by_cases g4 : da.getD j 0 = 109
        · rw [g4] at hx2
          by_cases g5 : da.getD i 0 = 55
          · have HQ := Aside0.mk (show escS da i s = ({ s with hi := true }, 2) by rw [HE2.out, if_pos ⟨g3, g4, .inl g5⟩, g5]; rfl)
            rw [g5] at hx
            clear g2 g4 g5 b2 hr HM HE HE2
            go_enter Try.func133, Try.ntmps133
            go_wp2
            go_ret
            exact ⟨by rw [HQ.out]; rfl, by rw [HQ.out]; exact HT.out.hi_set true, (TKeep.refl _ _ _ _).setG _ _⟩
          · by_cases g6 : da.getD i 0 = 48
            · have HQ := Aside0.mk (show escS da i s = ({ s with hi := false }, 2) by rw [HE2.out, if_pos ⟨g3, g4, .inr g6⟩, g6]; rfl)
              rw [g6] at hx
              clear g2 g4 g5 g6 b2 hr HM HE HE2
              go_enter Try.func133, Try.ntmps133
              go_wp2
              go_ret
              exact ⟨by rw [HQ.out]; rfl, by rw [HQ.out]; exact HT.out.hi_set false, (TKeep.refl _ _ _ _).setG _ _⟩
            · have HQ := Aside0.mk (HE2.out.trans (if_neg (by rintro ⟨_, _, h | h⟩; exact g5 h; exact g6 h)))
              have b5 : (da.getD i 0 == 55) = false := by simpa using g5
              have b6 : (da.getD i 0 == 48) = false := by simpa using g6
              generalize da.getD i 0 = v at *
              clear g2 g4 g5 g6 hr HE HE2
              go_enter Try.func133, Try.ntmps133
              go_wp2_with (go_at_call 148; refine Calls.mono HM.out ?_; rintro e w1 ⟨rfl, ht1, hk1⟩; have HT1 := Aside0.mk ht1; have HK1 := Aside0.mk hk1; clear ht1 hk1)
              go_ret
              exact ⟨by rw [HQ.out]; rfl, by rw [HQ.out]; exact HT1.out, HK1.out⟩
        · have HQ := Aside0.mk (HE2.out.trans (if_neg (fun h => g4 h.2.1)))
          have b4 : (da.getD j 0 == 109) = false := by simpa using g4
          generalize da.getD i 0 = v at *
          generalize da.getD j 0 = v2 at *
          clear g2 g4 hr HE HE2
          go_enter Try.func133, Try.ntmps133
          go_wp2_with (go_at_call 148; refine Calls.mono HM.out ?_; rintro e w1 ⟨rfl, ht1, hk1⟩; have HT1 := Aside0.mk ht1; have HK1 := Aside0.mk hk1; clear ht1 hk1)
          go_ret
          exact ⟨by rw [HQ.out]; rfl, by rw [HQ.out]; exact HT1.out, HK1.out⟩
      · have HQ := Aside0.mk (HE2.out.trans (if_neg (fun h => g3 h.1)))
        have g3' : ¬ (i : Int) + 1 < da.length := by omega
        generalize da.getD i 0 = v at *
        clear g2 hr HE HE2
        go_enter Try.func133, Try.ntmps133
        go_wp2_with (go_at_call 148; refine Calls.mono HM.out ?_; rintro e w1 ⟨rfl, ht1, hk1⟩; have HT1 := Aside0.mk ht1; have HK1 := Aside0.mk hk1; clear ht1 hk1)
        go_ret
        exact ⟨by rw [HQ.out]; rfl, by rw [HQ.out]; exact HT1.out, HK1.out⟩
  · have HQ := Aside0.mk ((HE.out.trans (if_neg (fun h => g1 h.1))).trans (if_neg (by omega)))
    have g1' : ¬ (i : Int) < da.length := by omega
    have g3' : ¬ (i : Int) + 1 < da.length := by omega
    clear hr HE
    go_enter Try.func133, Try.ntmps133
    go_wp2_with (go_at_call 148; refine Calls.mono HM.out ?_; rintro e w1 ⟨rfl, ht1, hk1⟩; have HT1 := Aside0.mk ht1; have HK1 := Aside0.mk hk1; clear ht1 hk1)
    go_ret
    exact ⟨by rw [HQ.out]; rfl, by rw [HQ.out]; exact HT1.out, HK1.out⟩
end Go.Proofs.Ytpfponhaofdbaaa.M
