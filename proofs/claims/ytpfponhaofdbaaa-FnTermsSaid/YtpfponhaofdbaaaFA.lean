import Derived.Test.YtpfponhaofdbaaaF9
import Derived.Test.YtpfponhaofdbaaaF7
set_option linter.unusedVariables false
set_option linter.unusedSimpArgs false
namespace Go.Proofs.Ytpfponhaofdbaaa.M
open Go.RowKit Go.Proofs.YtpfponhaofdbaaaW.PrintWords

theorem deco_bd (b x y : Int) : 0 ≤ (deco b x y).2 ∧ (deco b x y).2 ≤ 3 := by
  unfold deco
  split
  · exact ⟨by show (0 : Int) ≤ 1; omega, by show (1 : Int) ≤ 3; omega⟩
  · split
    · exact ⟨by show (0 : Int) ≤ 2; omega, by show (2 : Int) ≤ 3; omega⟩
    · split
      · exact ⟨by show (0 : Int) ≤ 3; omega, by show (3 : Int) ≤ 3; omega⟩
      · exact ⟨by show (0 : Int) ≤ 0; omega, by show (0 : Int) ≤ 3; omega⟩

set_option maxRecDepth 100000 in
set_option maxHeartbeats 2000000 in
theorem l13Feed_c (g a b c d base : Nat) (s : TS) (A : Option Addr) (cp : Nat) (da : List Int) (w : World) (h : TAt w g a b c d base s) (hi : TI s)
    (hr : Kd.C (Kd.int .u8) w A da.length da) (hl : da.length ≤ 90000) (hb : ∀ z ∈ da, 0 ≤ z ∧ z ≤ 255) (hfar : ∀ ad, A = some ad → 0 < da.length → ad.block ≠ g ∧ ad.block ≠ a ∧ ad.block ≠ b) :
    Calls Try.prog 103 #[.pointer (some ⟨g, 0, none⟩), .slice A da.length cp] w fun e w' => e = .returned (.bool (feedAll da s).isSome) ∧ TKeep w w' g a b ∧ ∃ s', TAt w' g a b c d base s' ∧ (∀ t, feedAll da s = some t → t = s') ∧ TI s' := by
  have HT0 := Aside0.mk h
  have HI0 := Aside0.mk hi
  have HR := Aside0.mk hr
  have HB := Aside0.mk hb
  have HF := Aside0.mk hfar
  clear h hi hr hb hfar
  go_enter Try.func103, Try.ntmps103
  go_wp2
  go_loopw [5] (fun v wr => ∃ (i : Nat) (s1 : TS), i ≤ da.length ∧ v = .int .i64 i ∧ Aside0 (TAt wr g a b c d base s1) ∧ Aside0 (TI s1) ∧ Aside0 (TKeep w wr g a b) ∧ Aside0 (feedAll da s = feedAll (da.drop i) s1)) (fun v _ => da.length - (intOf v).toNat)
  case atStart => exact ⟨0, s, Nat.zero_le _, rfl, HT0, HI0, ⟨TKeep.refl _ _ _ _⟩, ⟨by rw [List.drop_zero]⟩⟩
  case round =>
    obtain ⟨i, s1, hil, rfl, HT, HI, HK, HE⟩ := hrel
    rcases Nat.lt_or_ge i da.length with hlt | hge
    · have HCR := Aside0.mk (C_upd HR.out HK.out (fun ad e hn => by
        have := HF.out ad e hn
        rintro (h | h | h)
        · exact this.1 h
        · exact this.2.1 h
        · exact this.2.2 h))
      have hdl : (da.drop i).length = da.length - i := List.length_drop
      have hne : da.drop i ≠ [] := fun e => by rw [e] at hdl; simp at hdl; omega
      have hst := feedAll_step (da.drop i) s1 hne
      have hno := feedAll_none (da.drop i) s1 hne
      have hle := oneP_le (da.drop i) s1 (by omega)
      rw [hdl] at hle
      have hinv := oneP_inv HI.out (da.drop i)
      obtain ⟨ad, e, hx⟩ := at1 HCR.out 0 i hlt
      cases e
      have hlt' : (i : Int) < da.length := by omega
      clear hne hdl
      by_cases g1 : da.getD i 0 = 27
      · by_cases g2 : i + 1 < da.length ∧ da.getD (i + 1) 0 = 91
        · have hesc := esc_eq da i s1 g2.1 g1 g2.2
          rw [hesc] at hst hno hle hinv
          have ESC := Aside0.mk (by have := l13Escape_c g a b c d base s1 (some ad) cp da (i + 2) wr HT.out HI.out HCR.out (by omega) HB.out (by omega); rw [show ((i + 2 : Nat) : Int) = (i : Int) + 2 from rfl] at this; exact this)
          rw [g1] at hx
          obtain ⟨ad', e, hx2⟩ := at1 HCR.out 0 (i + 1) g2.1
          cases e
          rw [g2.2] at hx2
          have hj1 := g2.1
          clear hesc g1 g2
          have ej : (i : Int) + 1 = ((i + 1 : Nat) : Int) := rfl
          generalize i + 1 = j at *
          have hj' : ¬ ((j : Int) ≥ da.length) := by omega
          generalize escS da (i + 2) s1 = r at *
          obtain ⟨s2, n⟩ := r
          dsimp only at hst hno hle hinv ESC
          have HST := Aside0.mk hst
          have HNO := Aside0.mk hno
          have HINV := Aside0.mk hinv
          clear hst hno hinv
          by_cases hz : n = 0
          · have HQ := Aside0.mk (show feedAll da s = none by rw [HE.out]; exact HNO.out (if_pos hz))
            have b1 : ((n : Int) == 0) = true := by simp [hz]
            clear hz hle
            go_wp2_with (go_at_call 133; refine Calls.mono ESC.out ?_; rintro e w2 ⟨rfl, ht2, hk2⟩; have HT2 := Aside0.mk ht2; have HK2 := Aside0.mk hk2; clear ht2 hk2)
            go_ret
            exact ⟨by rw [HQ.out]; rfl, HK.out.trans HK2.out, s2, HT2.out, fun t ht => (by rw [HQ.out] at ht; cases ht), HINV.out⟩
          · rw [if_neg hz] at hle
            have b1 : ((n : Int) == 0) = false := by simp; omega
            have HE2 := Aside0.mk (show feedAll da s = feedAll (da.drop (i + 2 + n)) s2 by
              have := HST.out (by rw [if_neg hz]; omega)
              rw [if_neg hz, List.drop_drop, ← Nat.add_assoc] at this
              rw [HE.out]; exact this)
            have hn1 : 1 ≤ n := by omega
            have hle2 : i + 2 + n ≤ da.length := by omega
            clear hz hle
            go_wp2_with (go_at_call 133; refine Calls.mono ESC.out ?_; rintro e w2 ⟨rfl, ht2, hk2⟩; have HT2 := Aside0.mk ht2; have HK2 := Aside0.mk hk2; clear ht2 hk2)
            go_roundw
            case rel => exact ⟨i + 2 + n, s2, hle2, by go_num, HT2, HINV, ⟨HK.out.trans HK2.out⟩, HE2⟩
            case measure => simp [intOf]; omega
        · have hbad := esc_bad da i s1 HB.out hlt g1 g2
          have HQ := Aside0.mk (show feedAll da s = none by rw [HE.out]; exact hno (by rw [hbad]))
          rw [g1] at hx
          clear hst hno hle hinv hbad g1
          by_cases g3 : i + 1 < da.length
          · have g4 : ¬ da.getD (i + 1) 0 = 91 := fun h => g2 ⟨g3, h⟩
            obtain ⟨ad', e, hx2⟩ := at1 HCR.out 0 (i + 1) g3
            cases e
            have b4 : (da.getD (i + 1) 0 != 91) = true := by simpa using g4
            clear g2 g4
            have ej : (i : Int) + 1 = ((i + 1 : Nat) : Int) := rfl
            generalize i + 1 = j at *
            generalize da.getD j 0 = v2 at *
            have hj' : ¬ ((j : Int) ≥ da.length) := by omega
            go_wp2
            go_ret
            exact ⟨by rw [HQ.out]; rfl, HK.out, s1, HT.out, fun t ht => (by rw [HQ.out] at ht; cases ht), HI.out⟩
          · have g3' : (i : Int) + 1 ≥ da.length := by omega
            clear g2
            go_wp2
            go_ret
            exact ⟨by rw [HQ.out]; rfl, HK.out, s1, HT.out, fun t ht => (by rw [HQ.out] at ht; cases ht), HI.out⟩
      · have hchr := chr_eq da i s1 HB.out hlt g1
        have hdb := deco_bd (da.getD i 0) (more da (i + 1)) (more da (i + 2))
        have DEC := Aside0.mk (l1Decode_c (some ad) cp da i wr HCR.out hlt (by omega) HB.out)
        have b27 : (da.getD i 0 == 27) = false := by simpa using g1
        rw [hchr] at hst hno hle hinv
        generalize deco (da.getD i 0) (more da (i + 1)) (more da (i + 2)) = r at *
        generalize da.getD i 0 = v at *
        obtain ⟨ch, us⟩ := r
        dsimp only at hst hno hle hinv hdb DEC hchr
        obtain ⟨us0, us3⟩ := hdb
        obtain ⟨n, rfl⟩ := Int.eq_ofNat_of_zero_le us0
        rw [Int.toNat_natCast] at hst hno hle hinv
        have HST := Aside0.mk hst
        have HNO := Aside0.mk hno
        have HINV := Aside0.mk hinv
        clear hst hno hinv hchr g1
        by_cases hz : n = 0
        · have HQ := Aside0.mk (show feedAll da s = none by rw [HE.out]; exact HNO.out (by rw [if_neg (by rintro ⟨h, _⟩; exact h (by omega))]))
          have b1 : ((n : Int) == 0) = true := by simp [hz]
          clear hz hle
          go_wp2_with (go_at_call 134; refine Calls.mono DEC.out ?_; rintro e w2 ⟨rfl, hb2⟩; have HB2 := Aside0.mk hb2; clear hb2)
          go_ret
          exact ⟨by rw [HQ.out]; rfl, HK.out.below HB2.out, s1, HT.out.below HB2.out, fun t ht => (by rw [HQ.out] at ht; cases ht), HI.out⟩
        · have b1 : ((n : Int) == 0) = false := by simp; omega
          cases hs : isSeen ch
          · have HQ := Aside0.mk (show feedAll da s = none by rw [HE.out]; exact HNO.out (by rw [if_neg (by rintro ⟨_, h⟩; rw [hs] at h; cases h)]))
            have HS := Aside0.mk hs
            clear hz hle hs
            go_wp2_with (first
              | (go_at_call 134; refine Calls.mono DEC.out ?_; rintro e w2 ⟨rfl, hb2⟩; have HB2 := Aside0.mk hb2; clear hb2)
              | (go_at_call 112; refine Calls.mono (l11Shown_c ch _) ?_; rintro e w' ⟨rfl, rfl⟩; rw [HS.out]))
            go_ret
            exact ⟨by rw [HQ.out]; rfl, HK.out.below HB2.out, s1, HT.out.below HB2.out, fun t ht => (by rw [HQ.out] at ht; cases ht), HI.out⟩
          · have hc : ((n : Int) ≠ 0 ∧ isSeen ch = true) := ⟨by omega, hs⟩
            rw [if_pos hc] at hle
            have HE2 := Aside0.mk (show feedAll da s = feedAll (da.drop (i + n)) (putP s1 ch) by
              have := HST.out (by rw [if_pos hc]; exact hz)
              rw [if_pos hc, List.drop_drop] at this
              rw [HE.out]; exact this)
            have HINV2 := Aside0.mk (show TI (putP s1 ch) from putP_inv HI.out ch)
            have HS := Aside0.mk hs
            have hn1 : 1 ≤ n := by omega
            have hle2 : i + n ≤ da.length := by dsimp only at hle; omega
            clear hz hle hs hc
            go_wp2_with (first
              | (go_at_call 134; refine Calls.mono DEC.out ?_; rintro e w2 ⟨rfl, hb2⟩; have HB2 := Aside0.mk hb2; clear hb2)
              | (go_at_call 112; refine Calls.mono (l11Shown_c ch _) ?_; rintro e w' ⟨rfl, rfl⟩; rw [HS.out])
              | (go_at_call 135; refine Calls.mono (l13Put_c g a b c d base s1 ch _ (HT.out.below HB2.out) HI.out) ?_; rintro e w3 ⟨⟨v, rfl⟩, ht3, hk3⟩; have HT3 := Aside0.mk ht3; have HK3 := Aside0.mk hk3; clear ht3 hk3))
            go_roundw
            case rel => exact ⟨i + n, putP s1 ch, hle2, by go_num, HT3, HINV2, ⟨(HK.out.below HB2.out).trans HK3.out⟩, HE2⟩
            case measure => simp [intOf]; omega
    · have HQ := Aside0.mk (show feedAll da s = some s1 by rw [HE.out, List.drop_of_length_le hge]; rfl)
      have hge' : ¬ ((i : Int) < da.length) := by omega
      go_wp2
      go_ret
      exact ⟨by rw [HQ.out]; rfl, HK.out, s1, HT.out, fun t ht => (by rw [HQ.out] at ht; injection ht with ht; exact ht.symm), HI.out⟩
end Go.Proofs.Ytpfponhaofdbaaa.M
