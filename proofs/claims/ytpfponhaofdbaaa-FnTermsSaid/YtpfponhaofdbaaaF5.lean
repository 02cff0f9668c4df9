import Derived.Test.YtpfponhaofdbaaaF4
import Derived.Deep.RegionHeld
set_option linter.unusedVariables false
set_option linter.unusedSimpArgs false
namespace Go.Proofs.Ytpfponhaofdbaaa.M
open Go.RowKit Go.Proofs.YtpfponhaofdbaaaW.PrintWords

set_option maxRecDepth 100000 in
set_option maxHeartbeats 2000000 in
/-- The program's reading of a character, behind its first byte: (fv, mv) is what the first byte tells. -/
theorem DecodeAt_c (A : Option Addr) (c : Nat) (d : List Int) (i : Nat) (w : World) (hr : Kd.C (Kd.int .u8) w A d.length d) (hc : d.length ≤ c) (hi : i < d.length) (hl : d.length ≤ 1000000) (hb : ∀ z ∈ d, 0 ≤ z ∧ z ≤ 255) :
    Calls Try.prog 152 #[.slice A d.length c, .int .i64 i] w fun e w' => e = .returned (.agg #[.int .i64 (decodeP (d.drop i)).1, .int .i64 (decodeP (d.drop i)).2.1, .int .i64 (decodeP (d.drop i)).2.2]) ∧ Below w.heap.size w w' := by
  obtain ⟨A', hcd, hcl, hcut⟩ := fromU A c d i w hr (by omega) hc
  have hcut := hcut .i64
  have hbe : ∀ z ∈ d.drop i, 0 ≤ z ∧ z ≤ 255 := fun z hz => hb z (List.mem_of_mem_drop hz)
  have hel : (d.drop i).length = d.length - i := List.length_drop
  have hw : within (i : Int) 0 ((d.length : Int) - 1) = true := by simp [within]; omega
  have HW := Aside0.mk hw
  have hel1 : 1 ≤ (d.drop i).length := by omega
  have hel2 : (d.drop i).length ≤ 1000000 := by omega
  generalize d.drop i = ee at *
  clear hb hel hw
  generalize hci : c - i = ci at *
  obtain ⟨ad, e, hx⟩ := at1 hcd 0 0 (by omega)
  cases e
  have HC := Aside0.mk hcd
  have HBE := Aside0.mk hbe
  have hbb := hbe (ee.getD 0 0) (mem_getD hel1)
  have HD := Aside0.mk (decodeP_Q ee)
  clear hcd hbe hr hci
  generalize ee.getD 0 0 = b at hx hbb HD
  have hadd : ad.add 0 = ad := by cases ad with | mk bb o f => cases f <;> rfl
  rw [hadd] at hx
  clear hadd
  have hlb := World.block_lt_of_cell? w _ hx
  obtain ⟨fv, mi, mv, hf, hmi, hm1, hm2, hfv, hcase⟩ : ∃ (fv mi : Int) (mv : Nat), dcFirst b = (fv, mv) ∧ mi = mv ∧ 1 ≤ mv ∧ mv ≤ 3 ∧ (0 ≤ fv ∧ fv < 256) ∧ ((b ≥ 224 ∧ fv = b - 224 ∧ mi = 3) ∨ ((b < 224 ∧ b ≥ 192) ∧ fv = b - 192 ∧ mi = 2) ∨ (b < 192 ∧ fv = b ∧ mi = 1)) := by
    unfold dcFirst
    by_cases h1 : b ≥ 224
    · exact ⟨b - 224, 3, 3, if_pos h1, rfl, by omega, by omega, by omega, .inl ⟨h1, rfl, rfl⟩⟩
    · by_cases h2 : b ≥ 192
      · exact ⟨b - 192, 2, 2, by rw [if_neg h1, if_pos h2], rfl, by omega, by omega, by omega, .inr (.inl ⟨⟨by omega, h2⟩, rfl, rfl⟩)⟩
      · exact ⟨b, 1, 1, by rw [if_neg h1, if_neg h2], rfl, by omega, by omega, by omega, .inr (.inr ⟨by omega, rfl, rfl⟩)⟩
  have HD := Aside0.mk (by have := HD.out; rw [hf] at this; exact this)
  have HMI := Aside0.mk hmi
  have hmi1 : mi ≤ mv := by omega
  have hmi2 : (mv : Int) ≤ mi := by omega
  clear hf hmi
  by_cases hsh : ee.length < mv
  · have HQ := Aside0.mk (HD.out.trans (if_pos hsh))
    rcases hcase with ⟨c1, rfl, rfl⟩ | ⟨⟨c1, c2⟩, rfl, rfl⟩ | ⟨c1, rfl, rfl⟩
    · have hsh' : (ee.length : Int) < 3 := by omega
      go_enter Try.func152, Try.ntmps152
      go_wp2_with (go_at_call 75; refine Calls.mono (within_c _ _ _ _) ?_; rintro e w' ⟨rfl, rfl⟩; rw [HW.out])
      refine bodyPost_ret (v := .agg #[.int .i64 5, .int .i64 0, .int .i64 0]) (by simp [results, Try.results152, go_sem]) rfl ⟨by rw [HQ.out], (by repeat (with_reducible first | exact Below.refl _ _ | refine below_alloc ?_ _ | refine below_drew ?_ | refine pw_below_drewN ?_ _ | refine Below.setCell ?_ (by dsimp only; omega) _ ))⟩
    · have hsh' : (ee.length : Int) < 2 := by omega
      go_enter Try.func152, Try.ntmps152
      go_wp2_with (go_at_call 75; refine Calls.mono (within_c _ _ _ _) ?_; rintro e w' ⟨rfl, rfl⟩; rw [HW.out])
      refine bodyPost_ret (v := .agg #[.int .i64 5, .int .i64 0, .int .i64 0]) (by simp [results, Try.results152, go_sem]) rfl ⟨by rw [HQ.out], (by repeat (with_reducible first | exact Below.refl _ _ | refine below_alloc ?_ _ | refine below_drew ?_ | refine pw_below_drewN ?_ _ | refine Below.setCell ?_ (by dsimp only; omega) _ ))⟩
    · omega
  · have HD2 := Aside0.mk (HD.out.trans (if_neg hsh))
    have hle : mv ≤ ee.length := by omega
    obtain ⟨Am, hcm, hml, hmid0⟩ := midU (some ad) ci ee 1 mv w HC.out (by omega) hle hcl
    have hmid : ∀ W : World, (Instr.slice 36 (.slice (some ad) ee.length ci) (some (.int .i64 1)) (some (.int .i64 mi)) none).run Try.prog W = .ok (.slice Am ((ee.take mv).drop 1).length (ci - 1)) W := by rw [HMI.out]; exact hmid0 .i64 .i64
    obtain ⟨hct, htl, hto0⟩ := toU (some ad) ci ee mv w HC.out hle hcl
    have hto : ∀ W : World, (Instr.slice 36 (.slice (some ad) ee.length ci) none (some (.int .i64 mi)) none).run Try.prog W = .ok (.slice (some ad) (ee.take mv).length ci) W := by rw [HMI.out]; exact hto0 .i64
    have hlt : (ee.take mv).length = mv := by rw [List.length_take]; omega
    have hlm : ((ee.take mv).drop 1).length = mv - 1 := by rw [List.length_drop, hlt]
    have HTB := Aside0.mk (show ∀ z ∈ ee.take mv, 0 ≤ z ∧ z ≤ 255 from fun z hz => HBE.out z (List.mem_of_mem_take hz))
    have HMB := Aside0.mk (show ∀ z ∈ (ee.take mv).drop 1, 0 ≤ z ∧ z ≤ 255 from fun z hz => HBE.out z (List.mem_of_mem_take (List.mem_of_mem_drop hz)))
    have HCT := Aside0.mk hct
    have HCM := Aside0.mk hcm
    have hn2 : ((ee.take mv).drop 1).length ≤ 2 := by omega
    have HLM := Aside0.mk hlm
    clear hct hcm hlt hlm HBE HC HD hsh hmid0 hto0 htl hml
    generalize (ee.take mv).drop 1 = mid at *
    generalize ee.take mv = tk at *
    have hsh' : ¬ ((ee.length : Int) < mi) := by omega
    rcases hcase with ⟨c1, rfl, rfl⟩ | ⟨⟨c1, c2⟩, rfl, rfl⟩ | ⟨c1, rfl, rfl⟩
    all_goals
      go_enter Try.func152, Try.ntmps152
      go_wp2_with (go_at_call 75; refine Calls.mono (within_c _ _ _ _) ?_; rintro e w' ⟨rfl, rfl⟩; rw [HW.out])
      go_loop [6, 43] (fun t k => ∃ (j : Nat) (v : Int), j ≤ mid.length ∧ k = .int .i64 j ∧ t = .int .i64 v ∧ 0 ≤ v ∧ Aside0 (v < 256 * p64 j) ∧ Aside0 (v = dcFold _ (mid.take j))) (fun _ k => mid.length - (intOf k).toNat)
      case atStart => exact ⟨0, _, Nat.zero_le _, rfl, rfl, hfv.1, ⟨by show _ < 256 * 1; omega⟩, ⟨rfl⟩⟩
      case round =>
        obtain ⟨j, v, hj, rfl, rfl, hv0, HV, HF⟩ := hrel
        by_cases hlt : j < mid.length
        · obtain ⟨am, e, hxm⟩ := at1 HCM.out 0 j hlt
          cases e
          have hlb2 := World.block_lt_of_cell? w _ hxm
          have hzb := HMB.out (mid.getD j 0) (mem_getD hlt)
          have HS := Aside0.mk (take_snoc' mid j hlt)
          have hvs := p64_small HV.out hlt hn2
          generalize mid.getD j 0 = z at hxm hzb HS
          have ha := and63u z hzb.1 hzb.2
          go_wp2
          go_round
          case rel => exact ⟨j + 1, v * 64 + z % 64, by omega, by go_num, by go_num, by omega, ⟨by have := HV.out; show _ < 256 * (64 * p64 j); omega⟩, ⟨by rw [HS.out, dcFold_snoc, ← HF.out]⟩⟩
          case measure => simp [intOf]; omega
        · obtain rfl : j = mid.length := by omega
          have HD3 := Aside0.mk (show decodeP ee = decR mv tk v by rw [HD2.out, HF.out, List.take_length])
          cases hch : isChar v
          · have HQ := Aside0.mk (HD3.out.trans (decR_no _ _ _ (by rw [hch]; simp)))
            have HCH := Aside0.mk hch
            clear hch
            go_wp2
            go_quiet ((go_at_call 114; exact Calls.quiet_of_same ((isChar_c v _).mono fun e w' h => ⟨by rw [h.1, HCH.out], h.2.symm⟩)))
            go_wp2
            refine bodyPost_ret (v := .agg #[.int .i64 5, .int .i64 0, .int .i64 0]) (by simp [results, Try.results152, go_sem]) rfl ⟨by rw [HQ.out], (by repeat (with_reducible first | exact Below.refl _ _ | refine below_alloc ?_ _ | refine below_drew ?_ | refine pw_below_drewN ?_ _ | refine Below.setCell ?_ (by dsimp only; omega) _ ))⟩
          · have hb1 : 0 ≤ v ∧ v ≤ 65535 := by simp [isChar, within] at hch; omega
            have hcv := strU (some ⟨w.heap.size + 1, 0, none⟩) (enc v).length (enc v).length (enc v) _ (Kd.C_drew (by have h := C_new (h1 := fun _ => rfl) (enc := Value.int .u8) (w.alloc (.cells #[.int .i64 0, .int .i64 0, .int .i64 0] 160)) 5 (enc v) (by have := enc_len v; omega); rw [size_alloc] at h; exact h))
            have hct := strU (some ad) tk.length ci tk _ HCT.out
            have HCH := Aside0.mk hch
            have HEB := Aside0.mk (enc_bd hb1.1 hb1.2)
            by_cases henc : enc v = tk
            · have HQ := Aside0.mk (HD3.out.trans (decR_ok _ _ _ hch henc))
              have bs : ((strOfNums (enc v)).toList == (strOfNums tk).toList) = true := by rw [henc]; simp
              clear hch henc
              go_wp2
              go_region_held (fun W : World => (convert 36 9 (.slice (some ad) tk.length ci)).run Try.prog W = .ok (.string (strOfNums tk)) W) (exact strU _ _ _ _ _ (by repeat (with_reducible first | exact HCT.out | refine Kd.C_alloc ?_ _ | refine Kd.C_drew ?_ | refine Kd.C_drewN ?_ _)))
                (first
                  | (go_at_call 114; refine Calls.mono (isChar_c v _) ?_; rintro e w' ⟨rfl, rfl⟩; rw [HCH.out])
                  | (go_at_call 120; refine Calls.mono (encoded_c v _ hb1.1 hb1.2) ?_; rintro e w' ⟨rfl, rfl⟩))
              all_goals
                go_wp2
                refine bodyPost_ret (v := .agg #[.int .i64 0, .int .i64 v, .int .i64 _]) (by simp [results, Try.results152, go_sem]; rfl) rfl ⟨by rw [HQ.out, ← HMI.out], (by repeat (with_reducible first | exact Below.refl _ _ | refine below_alloc ?_ _ | refine below_drew ?_ | refine pw_below_drewN ?_ _ | refine Below.setCell ?_ (by dsimp only; omega) _ ))⟩
            · have HQ := Aside0.mk (HD3.out.trans (decR_no _ _ _ (fun h => henc h.2)))
              have bs : ((strOfNums (enc v)).toList == (strOfNums tk).toList) = false := by
                rw [beq_eq_false_iff_ne]
                intro h
                exact henc ((strOf_inj HEB.out HTB.out).1 (str_eq.1 h))
              clear hch henc
              go_wp2
              go_region_held (fun W : World => (convert 36 9 (.slice (some ad) tk.length ci)).run Try.prog W = .ok (.string (strOfNums tk)) W) (exact strU _ _ _ _ _ (by repeat (with_reducible first | exact HCT.out | refine Kd.C_alloc ?_ _ | refine Kd.C_drew ?_ | refine Kd.C_drewN ?_ _)))
                (first
                  | (go_at_call 114; refine Calls.mono (isChar_c v _) ?_; rintro e w' ⟨rfl, rfl⟩; rw [HCH.out])
                  | (go_at_call 120; refine Calls.mono (encoded_c v _ hb1.1 hb1.2) ?_; rintro e w' ⟨rfl, rfl⟩))
              all_goals
                go_wp2
                refine bodyPost_ret (v := .agg #[.int .i64 5, .int .i64 0, .int .i64 0]) (by simp [results, Try.results152, go_sem]) rfl ⟨by rw [HQ.out], (by repeat (with_reducible first | exact Below.refl _ _ | refine below_alloc ?_ _ | refine below_drew ?_ | refine pw_below_drewN ?_ _ | refine Below.setCell ?_ (by dsimp only; omega) _ ))⟩
end Go.Proofs.Ytpfponhaofdbaaa.M
