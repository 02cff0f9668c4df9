import Derived.Test.YtpfponhaofdbaaaG4
set_option linter.unusedVariables false
set_option linter.unusedSimpArgs false
namespace Go.Proofs.Ytpfponhaofdbaaa.M
open Go.RowKit Go.Proofs.YtpfponhaofdbaaaW.PrintWords

set_option maxRecDepth 100000 in
theorem CountTurned_c (wa : Int) (A : Option Addr) (c : Nat) (ca : List Int) (B : Option Addr) (d : Nat) (ha : List Bool) (wb : Int) (A' : Option Addr) (c' : Nat) (cb : List Int) (B' : Option Addr) (d' : Nat) (hb : List Bool) (w : World)
    (hr : Kd.C (Kd.int .i64) w A ca.length ca) (hs : Kd.C Kd.bool w B ha.length ha) (hr' : Kd.C (Kd.int .i64) w A' cb.length cb) (hs' : Kd.C Kd.bool w B' hb.length hb) (hc : ca.length ≤ c) (hd : ha.length ≤ d) (hc' : cb.length ≤ c') (hd' : hb.length ≤ d') :
    Calls Try.prog 38 #[.agg #[.int .i64 wa, .slice A ca.length c, .slice B ha.length d], .agg #[.int .i64 wb, .slice A' cb.length c', .slice B' hb.length d']] w fun e w' => e = .returned (.agg #[.int .i64 (countTurned wa ca ha wb cb hb).1, .int .i64 (countTurned wa ca ha wb cb hb).2]) ∧ Below w.heap.size w w' := by
  have HR := Aside0.mk hr
  have HS := Aside0.mk hs
  have HR' := Aside0.mk hr'
  have HS' := Aside0.mk hs'
  have hm2 := Kd.C_max hr'
  clear hr hs hr' hs'
  by_cases g1 : gridsCode wa ca ha wb cb hb = 0
  · have HCT := Aside0.mk (show countTurned wa ca ha wb cb hb = (0, turnedN ca ha cb hb cb.length) by simp [countTurned, g1])
    have b1 : (gridsCode wa ca ha wb cb hb != 0) = false := by simpa using g1
    have hf := gridsCode_form g1
    have f1 := gridFault_form hf.1
    have f2 := gridFault_form hf.2.1
    have l1 := hf.2.2.2
    have l2 := f1.2.2.1
    have l3 := f2.2.2.1
    have HL1 := Aside0.mk l1
    have HL2 := Aside0.mk l2
    have HL3 := Aside0.mk l3
    clear f1 f2 hf l1 l2 l3 g1
    go_enter Try.func38, Try.ntmps38
    go_wp2_with fail
    refine Calls.mono (gridsCode_c wa A c ca B d ha wb A' c' cb B' d' hb _ (by repeat (first | exact HR.out | refine Kd.C_alloc ?_ _ | refine Kd.C_drewN ?_ _)) (by repeat (first | exact HS.out | refine Kd.C_alloc ?_ _ | refine Kd.C_drewN ?_ _)) (by repeat (first | exact HR'.out | refine Kd.C_alloc ?_ _ | refine Kd.C_drewN ?_ _)) (by repeat (first | exact HS'.out | refine Kd.C_alloc ?_ _ | refine Kd.C_drewN ?_ _)) hc hd hc' hd') ?_
    rintro e w1 ⟨rfl, hb1⟩
    have HB1 := Aside0.mk hb1
    obtain ⟨hx1, hf1⟩ := bcell hb1
    have hz1 := hb1.size
    simp only [size_alloc] at hz1
    have hz1a : w.heap.size < w1.heap.size := by omega
    have hz1b : w.heap.size + 1 < w1.heap.size := by omega
    have hz1c : w.heap.size + 1 + 1 < w1.heap.size := by omega
    clear hb1
    go_wp2
    clear b1
    go_loopw [6, 18] (fun m i wr => ∃ k : Nat, k ≤ cb.length ∧ i = .int .i64 k ∧ m = .int .i64 (turnedN ca ha cb hb k) ∧ Aside0 (Below w1.heap.size w1 wr)) (fun _ i _ => cb.length - (intOf i).toNat)
    case atStart => exact ⟨0, Nat.zero_le _, rfl, rfl, ⟨Below.refl _ _⟩⟩
    case round =>
      obtain ⟨k, hk, rfl, rfl, HB2⟩ := hrel
      obtain ⟨hx2, hf2⟩ := bcell HB2.out
      have tb := turnedN_bd ca ha cb hb k
      have tb1 := tb.1
      have tb2 := tb.2
      clear tb
      by_cases hlt : k < cb.length
      · have HT := Aside0.mk (show turnedN ca ha cb hb (k + 1) = turnedN ca ha cb hb k + if sameAt ca ha cb hb k then 0 else 1 from rfl)
        generalize turnedN ca ha cb hb k = tk at tb1 tb2 HT
        cases hsm : sameAt ca ha cb hb k
        all_goals
          go_wp2_with fail
          refine Calls.mono (isSame_c wa A c ca B d ha wb A' c' cb B' d' hb k _ (by repeat (first | exact HR.out | refine Kd.C_below ?_ HB2.out | refine Kd.C_below ?_ HB1.out | refine Kd.C_alloc ?_ _ | refine Kd.C_drewN ?_ _)) (by repeat (first | exact HS.out | refine Kd.C_below ?_ HB2.out | refine Kd.C_below ?_ HB1.out | refine Kd.C_alloc ?_ _ | refine Kd.C_drewN ?_ _)) (by repeat (first | exact HR'.out | refine Kd.C_below ?_ HB2.out | refine Kd.C_below ?_ HB1.out | refine Kd.C_alloc ?_ _ | refine Kd.C_drewN ?_ _)) (by repeat (first | exact HS'.out | refine Kd.C_below ?_ HB2.out | refine Kd.C_below ?_ HB1.out | refine Kd.C_alloc ?_ _ | refine Kd.C_drewN ?_ _)) (by rw [HL1.out]; exact hlt) (by rw [HL2.out, HL1.out]; exact hlt) hlt (by rw [HL3.out]; exact hlt)) ?_
          rintro e w3 ⟨rfl, hb3⟩
          have HB3 := Aside0.mk hb3
          clear hb3
          go_wp2
          go_roundw
          case rel => exact ⟨k + 1, by omega, by go_num, by rw [HT.out, hsm]; first | rfl | simp, ⟨below_end HB2.out HB3.out⟩⟩
          case measure => simp [intOf]; omega
      · obtain rfl : k = cb.length := by omega
        go_wp2
        refine bodyPost_ret (v := .agg #[.int .i64 (countTurned wa ca ha wb cb hb).1, .int .i64 (countTurned wa ca ha wb cb hb).2]) ?_ rfl ⟨rfl, (by repeat (first | exact Below.refl _ _ | refine below_end ?_ HB2.out | refine below_end ?_ HB1.out | refine below_alloc ?_ _ | refine below_drew ?_ | refine pw_below_drewN ?_ _ | refine Below.setCell ?_ (by dsimp only; omega) _))⟩
        rw [HCT.out]
        simp [results, Try.results38, go_sem, hx1, hx2, hz1c]
  · have HCT := Aside0.mk (show countTurned wa ca ha wb cb hb = (gridsCode wa ca ha wb cb hb, 0) by simp [countTurned, g1])
    have b1 : (gridsCode wa ca ha wb cb hb != 0) = true := by simpa using g1
    clear g1
    go_enter Try.func38, Try.ntmps38
    go_wp2_with fail
    refine Calls.mono (gridsCode_c wa A c ca B d ha wb A' c' cb B' d' hb _ (by repeat (first | exact HR.out | refine Kd.C_alloc ?_ _ | refine Kd.C_drewN ?_ _)) (by repeat (first | exact HS.out | refine Kd.C_alloc ?_ _ | refine Kd.C_drewN ?_ _)) (by repeat (first | exact HR'.out | refine Kd.C_alloc ?_ _ | refine Kd.C_drewN ?_ _)) (by repeat (first | exact HS'.out | refine Kd.C_alloc ?_ _ | refine Kd.C_drewN ?_ _)) hc hd hc' hd') ?_
    rintro e w1 ⟨rfl, hb1⟩
    have HB1 := Aside0.mk hb1
    obtain ⟨hx1, hf1⟩ := bcell hb1
    have hz1 := hb1.size
    simp only [size_alloc] at hz1
    have hz1c : w.heap.size + 1 + 1 < w1.heap.size := by omega
    clear hb1
    go_wp2
    refine bodyPost_ret (v := .agg #[.int .i64 (countTurned wa ca ha wb cb hb).1, .int .i64 (countTurned wa ca ha wb cb hb).2]) ?_ rfl ⟨rfl, (by repeat (first | exact Below.refl _ _ | refine below_end ?_ HB1.out | refine below_alloc ?_ _ | refine below_drew ?_ | refine pw_below_drewN ?_ _ | refine Below.setCell ?_ (by dsimp only; omega) _))⟩
    rw [HCT.out]
    simp [results, Try.results38, go_sem, hx1, hz1c]

set_option maxRecDepth 100000 in
theorem specCountTurned_c (wa : Int) (A : Option Addr) (c : Nat) (ca : List Int) (B : Option Addr) (d : Nat) (ha : List Bool) (wb : Int) (A' : Option Addr) (c' : Nat) (cb : List Int) (B' : Option Addr) (d' : Nat) (hb : List Bool) (w : World)
    (hr : Kd.C (Kd.int .i64) w A ca.length ca) (hs : Kd.C Kd.bool w B ha.length ha) (hr' : Kd.C (Kd.int .i64) w A' cb.length cb) (hs' : Kd.C Kd.bool w B' hb.length hb) (hc : ca.length ≤ c) (hd : ha.length ≤ d) (hc' : cb.length ≤ c') (hd' : hb.length ≤ d') :
    Calls Try.prog 37 #[.agg #[.int .i64 wa, .slice A ca.length c, .slice B ha.length d], .agg #[.int .i64 wb, .slice A' cb.length c', .slice B' hb.length d']] w fun e w' => e = .returned (.agg #[.int .i64 (countTurned wa ca ha wb cb hb).1, .int .i64 (countTurned wa ca ha wb cb hb).2]) ∧ Below w.heap.size w w' := by
  have HR := Aside0.mk hr
  have HS := Aside0.mk hs
  have HR' := Aside0.mk hr'
  have HS' := Aside0.mk hs'
  have hm2 := Kd.C_max hr'
  clear hr hs hr' hs'
  by_cases g1 : gridsCode wa ca ha wb cb hb = 0
  · have HCT := Aside0.mk (show countTurned wa ca ha wb cb hb = (0, turnedN ca ha cb hb cb.length) by simp [countTurned, g1])
    have b1 : (gridsCode wa ca ha wb cb hb != 0) = false := by simpa using g1
    have hf := gridsCode_form g1
    have f1 := gridFault_form hf.1
    have f2 := gridFault_form hf.2.1
    have l1 := hf.2.2.2
    have l2 := f1.2.2.1
    have l3 := f2.2.2.1
    have HL1 := Aside0.mk l1
    have HL2 := Aside0.mk l2
    have HL3 := Aside0.mk l3
    clear f1 f2 hf l1 l2 l3 g1
    go_enter Try.func37, Try.ntmps37
    go_wp2_with fail
    refine Calls.mono (l14Asked_c _ _ wa A c ca B d ha wb A' c' cb B' d' hb _ (by repeat (with_reducible first | exact blk_new _ | refine blk_new' _ (by simp only [size_alloc]) | refine blk_drewN ?_ _ | refine blk_alloc ?_ _)) (by repeat (with_reducible first | exact blk_new _ | refine blk_new' _ (by simp only [size_alloc]) | refine blk_drewN ?_ _ | refine blk_alloc ?_ _)) (by repeat (first | exact HR.out | refine Kd.C_alloc ?_ _ | refine Kd.C_drewN ?_ _)) (by repeat (first | exact HS.out | refine Kd.C_alloc ?_ _ | refine Kd.C_drewN ?_ _)) (by repeat (first | exact HR'.out | refine Kd.C_alloc ?_ _ | refine Kd.C_drewN ?_ _)) (by repeat (first | exact HS'.out | refine Kd.C_alloc ?_ _ | refine Kd.C_drewN ?_ _))) ?_
    rintro e w1 ⟨rfl, hd1⟩
    have hb1 := hd1.below
    clear hd1
    have HB1 := Aside0.mk hb1
    obtain ⟨hx1, hf1⟩ := bcell hb1
    have hz1 := hb1.size
    simp only [size_alloc] at hz1
    have hz1a : w.heap.size < w1.heap.size := by omega
    have hz1b : w.heap.size + 1 < w1.heap.size := by omega
    have hz1c : w.heap.size + 1 + 1 < w1.heap.size := by omega
    clear hb1
    go_wp2
    clear b1
    go_loopw [6, 7] (fun m i wr => ∃ k : Nat, k ≤ cb.length ∧ i = .int .i64 k ∧ m = .int .i64 (turnedN ca ha cb hb k) ∧ Aside0 (Below w1.heap.size w1 wr)) (fun _ i _ => cb.length - (intOf i).toNat)
    case atStart => exact ⟨0, Nat.zero_le _, rfl, rfl, ⟨Below.refl _ _⟩⟩
    case round =>
      obtain ⟨k, hk, rfl, rfl, HB2⟩ := hrel
      obtain ⟨hx2, hf2⟩ := bcell HB2.out
      have tb := turnedN_bd ca ha cb hb k
      have tb1 := tb.1
      have tb2 := tb.2
      clear tb
      by_cases hlt : k < cb.length
      · have HT := Aside0.mk (show turnedN ca ha cb hb (k + 1) = turnedN ca ha cb hb k + if sameAt ca ha cb hb k then 0 else 1 from rfl)
        generalize turnedN ca ha cb hb k = tk at tb1 tb2 HT
        cases hsm : sameAt ca ha cb hb k
        all_goals
          go_wp2_with fail
          refine Calls.mono (l14At_c _ _ wa A c ca B d ha wb A' c' cb B' d' hb k _ (by repeat (with_reducible first | exact blk_new _ | refine blk_new' _ (by simp only [size_alloc]) | refine blk_drewN ?_ _ | refine blk_alloc ?_ _ | refine blk_below ?_ HB2.out | refine blk_below ?_ HB1.out)) (by repeat (with_reducible first | exact blk_new _ | refine blk_new' _ (by simp only [size_alloc]) | refine blk_drewN ?_ _ | refine blk_alloc ?_ _ | refine blk_below ?_ HB2.out | refine blk_below ?_ HB1.out)) (by repeat (first | exact HR.out | refine Kd.C_below ?_ HB2.out | refine Kd.C_below ?_ HB1.out | refine Kd.C_alloc ?_ _ | refine Kd.C_drewN ?_ _)) (by repeat (first | exact HS.out | refine Kd.C_below ?_ HB2.out | refine Kd.C_below ?_ HB1.out | refine Kd.C_alloc ?_ _ | refine Kd.C_drewN ?_ _)) (by repeat (first | exact HR'.out | refine Kd.C_below ?_ HB2.out | refine Kd.C_below ?_ HB1.out | refine Kd.C_alloc ?_ _ | refine Kd.C_drewN ?_ _)) (by repeat (first | exact HS'.out | refine Kd.C_below ?_ HB2.out | refine Kd.C_below ?_ HB1.out | refine Kd.C_alloc ?_ _ | refine Kd.C_drewN ?_ _)) (by rw [HL1.out]; exact hlt) (by rw [HL2.out, HL1.out]; exact hlt) hlt (by rw [HL3.out]; exact hlt)) ?_
          rintro e w3 ⟨rfl, hd3⟩
          have hb3 := hd3.below
          clear hd3
          have HB3 := Aside0.mk hb3
          clear hb3
          go_wp2
          go_roundw
          case rel => exact ⟨k + 1, by omega, by go_num, by rw [HT.out, hsm]; first | rfl | simp, ⟨below_end HB2.out HB3.out⟩⟩
          case measure => simp [intOf]; omega
      · obtain rfl : k = cb.length := by omega
        go_wp2
        refine bodyPost_ret (v := .agg #[.int .i64 (countTurned wa ca ha wb cb hb).1, .int .i64 (countTurned wa ca ha wb cb hb).2]) ?_ rfl ⟨rfl, (by repeat (first | exact Below.refl _ _ | refine below_end ?_ HB2.out | refine below_end ?_ HB1.out | refine below_alloc ?_ _ | refine below_drew ?_ | refine pw_below_drewN ?_ _ | refine Below.setCell ?_ (by dsimp only; omega) _))⟩
        rw [HCT.out]
        simp [results, Try.results37, go_sem, hx1, hx2, hz1c]
  · have HCT := Aside0.mk (show countTurned wa ca ha wb cb hb = (gridsCode wa ca ha wb cb hb, 0) by simp [countTurned, g1])
    have b1 : (gridsCode wa ca ha wb cb hb != 0) = true := by simpa using g1
    clear g1
    go_enter Try.func37, Try.ntmps37
    go_wp2_with fail
    refine Calls.mono (l14Asked_c _ _ wa A c ca B d ha wb A' c' cb B' d' hb _ (by repeat (with_reducible first | exact blk_new _ | refine blk_new' _ (by simp only [size_alloc]) | refine blk_drewN ?_ _ | refine blk_alloc ?_ _)) (by repeat (with_reducible first | exact blk_new _ | refine blk_new' _ (by simp only [size_alloc]) | refine blk_drewN ?_ _ | refine blk_alloc ?_ _)) (by repeat (first | exact HR.out | refine Kd.C_alloc ?_ _ | refine Kd.C_drewN ?_ _)) (by repeat (first | exact HS.out | refine Kd.C_alloc ?_ _ | refine Kd.C_drewN ?_ _)) (by repeat (first | exact HR'.out | refine Kd.C_alloc ?_ _ | refine Kd.C_drewN ?_ _)) (by repeat (first | exact HS'.out | refine Kd.C_alloc ?_ _ | refine Kd.C_drewN ?_ _))) ?_
    rintro e w1 ⟨rfl, hd1⟩
    have hb1 := hd1.below
    clear hd1
    have HB1 := Aside0.mk hb1
    obtain ⟨hx1, hf1⟩ := bcell hb1
    have hz1 := hb1.size
    simp only [size_alloc] at hz1
    have hz1c : w.heap.size + 1 + 1 < w1.heap.size := by omega
    clear hb1
    go_wp2
    refine bodyPost_ret (v := .agg #[.int .i64 (countTurned wa ca ha wb cb hb).1, .int .i64 (countTurned wa ca ha wb cb hb).2]) ?_ rfl ⟨rfl, (by repeat (first | exact Below.refl _ _ | refine below_end ?_ HB1.out | refine below_alloc ?_ _ | refine below_drew ?_ | refine pw_below_drewN ?_ _ | refine Below.setCell ?_ (by dsimp only; omega) _))⟩
    rw [HCT.out]
    simp [results, Try.results37, go_sem, hx1, hz1c]
end Go.Proofs.Ytpfponhaofdbaaa.M
