import Derived.Test.YtpfponhaofdbaaaL2
import Derived.Test.YtpfponhaofdbaaaS1
set_option linter.unusedVariables false
set_option linter.unusedSimpArgs false
namespace Go.Proofs.Ytpfponhaofdbaaa.M
open Go.RowKit Go.Proofs.YtpfponhaofdbaaaW.PrintWords

theorem szf2_nn {n m : Nat} {left : Int} (h : ¬ szf2 n m left < 0) : (n : Int) + m ≤ left := by
  unfold szf2 at h
  have h1 : ¬ szf n left < 0 := fun h1 => h (by rw [if_pos h1]; omega)
  rw [if_neg h1] at h
  have h2 : ¬ szf m (szf n left) < 0 := fun h2 => h (by rw [if_pos h2]; omega)
  unfold szf at h2 h1
  have h3 : ¬ left - (n : Int) < 0 := fun h3 => h1 (by rw [if_pos h3]; omega)
  rw [if_neg h3] at h2
  have h4 : ¬ left - (n : Int) - m < 0 := fun h4 => h2 (by rw [if_pos h4]; omega)
  omega

set_option maxRecDepth 100000 in
theorem law_TermFault_c (wi ro y x : Int) (hi : Bool) (A B : Option Addr) (c d : Nat) (ch : List Int) (hs : List Bool) (w : World)
    (hr : Kd.C (Kd.int .i64) w A ch.length ch) (hs' : Kd.C Kd.bool w B hs.length hs) :
    Calls Try.prog 6 #[.agg #[.int .i64 wi, .int .i64 ro, .int .i64 y, .int .i64 x, .bool hi, .slice A ch.length c, .slice B hs.length d]] w fun e w' => e = .returned (.bool true) ∧ Below w.heap.size w w' := by
  have HR := Aside0.mk hr
  have HS := Aside0.mk hs'
  have hm := Kd.C_max hr
  have hm2 := Kd.C_max hs'
  clear hr hs'
  by_cases hz : szf2 ch.length hs.length 1048576 < 0
  · go_enter Try.func6, Try.ntmps6
    go_wp2_with (go_at_call 27; refine (szTerm_c _ _ _ _ _ _ _ _ _ _ _ _ _ hm hm2 (by omega) (by omega)).mono ?_; rintro e w1 ⟨rfl, hb⟩; have HB1 := Aside0.mk hb; clear hb)
    go_ret
    exact ⟨rfl, (by repeat (first | exact Below.refl _ _ | refine below_end ?_ HB1.out | refine below_alloc ?_ _ | refine pw_below_drewN ?_ _))⟩
  · have hl := szf2_nn hz
    go_enter Try.func6, Try.ntmps6
    go_wp2_with fail
    refine (szTerm_c _ _ _ _ _ _ _ _ _ _ _ _ _ hm hm2 (by omega) (by omega)).mono ?_
    rintro e w1 ⟨rfl, hb⟩
    have HB1 := Aside0.mk hb
    have hz1 : w.heap.size < w1.heap.size := by have := hb.size; simp at this; omega
    obtain ⟨hc1, hf1⟩ := bcell hb
    clear hb
    go_wp2_with fail
    refine (toTerm_c wi ro y x hi A B c d ch hs _ (by repeat (first | exact HR.out | exact HS.out | refine Kd.C_below ?_ HB1.out | refine Kd.C_alloc ?_ _ | refine Kd.C_drewN ?_ _)) (by repeat (first | exact HS.out | refine Kd.C_below ?_ HB1.out | refine Kd.C_alloc ?_ _ | refine Kd.C_drewN ?_ _)) (by omega) (by omega)).mono ?_
    rintro e w2 ⟨A2, c2, B2, d2, rfl, hl2, hl2', hr2, hs2, hb⟩
    have HB2 := Aside0.mk hb
    have hz2 : w.heap.size < w2.heap.size := by have := hb.size; (try simp only [size_alloc] at this); omega
    have HR2 := Aside0.mk hr2
    have HS2 := Aside0.mk hs2
    have HC2 := Aside0.mk (Kd.R_reads' hr2).2.2
    have HD2 := Aside0.mk (Kd.R_reads' hs2).2.2
    obtain ⟨hc2, hf2⟩ := bcell hb
    clear hb hr2 hs2
    go_wp2_with fail
    refine (specTermFault_c wi ro y x hi A2 B2 c2 d2 ch hs _ (by repeat (first | exact HC2.out | refine Kd.C_below ?_ HB2.out | refine Kd.C_alloc ?_ _ | refine Kd.C_drewN ?_ _)) hm2).mono ?_
    rintro e w3 ⟨rfl, hb⟩
    have HB3 := Aside0.mk hb
    have hz3 : w.heap.size < w3.heap.size := by have := hb.size; (try simp only [size_alloc] at this); omega
    obtain ⟨hc3, hf3⟩ := bcell hb
    clear hb
    go_wp2_with fail
    refine (toTerm_c wi ro y x hi A B c d ch hs _ (by repeat (first | exact HR.out | exact HS.out | refine Kd.C_below ?_ HB3.out | refine Kd.C_below ?_ HB2.out | refine Kd.C_below ?_ HB1.out | refine Kd.C_alloc ?_ _ | refine Kd.C_drewN ?_ _)) (by repeat (first | exact HS.out | refine Kd.C_below ?_ HB3.out | refine Kd.C_below ?_ HB2.out | refine Kd.C_below ?_ HB1.out | refine Kd.C_alloc ?_ _ | refine Kd.C_drewN ?_ _)) (by omega) (by omega)).mono ?_
    rintro e w4 ⟨A4, c4, B4, d4, rfl, hl4, hl4', hr4, hs4, hb⟩
    have HB4 := Aside0.mk hb
    have hz4 : w.heap.size < w4.heap.size := by have := hb.size; (try simp only [size_alloc] at this); omega
    have HC4 := Aside0.mk (Kd.R_reads' hr4).2.2
    have HD4 := Aside0.mk (Kd.R_reads' hs4).2.2
    obtain ⟨hc4, hf4⟩ := bcell hb
    clear hb hr4 hs4
    go_wp2_with fail
    refine (TermFault_c wi ro y x hi A4 B4 c4 d4 ch hs _ (by repeat (first | exact HC4.out | refine Kd.C_below ?_ HB4.out | refine Kd.C_alloc ?_ _ | refine Kd.C_drewN ?_ _)) hl4 hm2).mono ?_
    rintro e w5 ⟨rfl, hb⟩
    have HB5 := Aside0.mk hb
    have hz5 : w.heap.size < w5.heap.size := by have := hb.size; (try simp only [size_alloc] at this); omega
    obtain ⟨hc5, hf5⟩ := bcell hb
    clear hb
    go_wp2_with fail
    have heq : eqv (wi, ro, y, x, hi, ch, hs) (wi, ro, y, x, hi, ch, hs) = true := eqv_self _
    have hz4' : w.heap.size < w4.heap.size + 1 := by omega
    have hz5b : w4.heap.size < w5.heap.size := by have := HB5.out.size; simp only [size_alloc] at this; omega
    go_region_held3 (fun W : World => W.cell? ⟨w.heap.size, 0, none⟩ = some (.int .i64 wi) ∧ W.cell? ⟨w.heap.size, 1, none⟩ = some (.int .i64 ro) ∧ W.cell? ⟨w.heap.size, 2, none⟩ = some (.int .i64 y) ∧ W.cell? ⟨w.heap.size, 3, none⟩ = some (.int .i64 x) ∧ W.cell? ⟨w.heap.size, 4, none⟩ = some (.bool hi) ∧ W.cell? ⟨w.heap.size, 5, none⟩ = some (.slice A ch.length c) ∧ W.cell? ⟨w.heap.size, 6, none⟩ = some (.slice B hs.length d) ∧ W.cell? ⟨w4.heap.size, 0, none⟩ = some (.int .i64 wi) ∧ W.cell? ⟨w4.heap.size, 1, none⟩ = some (.int .i64 ro) ∧ W.cell? ⟨w4.heap.size, 2, none⟩ = some (.int .i64 y) ∧ W.cell? ⟨w4.heap.size, 3, none⟩ = some (.int .i64 x) ∧ W.cell? ⟨w4.heap.size, 4, none⟩ = some (.bool hi) ∧ W.cell? ⟨w4.heap.size, 5, none⟩ = some (.slice A4 ch.length c4) ∧ W.cell? ⟨w4.heap.size, 6, none⟩ = some (.slice B4 hs.length d4)) (go_keep)
      (first
        | (go_at_call 29; refine (toTerm_c wi ro y x hi A B c d ch hs _ (by repeat (first | exact HR.out | exact HS.out | refine Kd.C_below ?_ HB5.out | refine Kd.C_below ?_ HB4.out | refine Kd.C_below ?_ HB3.out | refine Kd.C_below ?_ HB2.out | refine Kd.C_below ?_ HB1.out | refine Kd.C_alloc ?_ _ | refine Kd.C_drewN ?_ _)) (by repeat (first | exact HS.out | refine Kd.C_below ?_ HB5.out | refine Kd.C_below ?_ HB4.out | refine Kd.C_below ?_ HB3.out | refine Kd.C_below ?_ HB2.out | refine Kd.C_below ?_ HB1.out | refine Kd.C_alloc ?_ _ | refine Kd.C_drewN ?_ _)) (by omega) (by omega)).mono ?_; rintro e w6 ⟨A6, c6, B6, d6, rfl, hl6, hl6', hr6, hs6, hb⟩; have HB6 := Aside0.mk hb; have hz6 : w5.heap.size ≤ w6.heap.size := (by have := hb.size; (try simp only [size_alloc] at this); exact this); have HC6 := Aside0.mk (Kd.R_reads' hr6).2.2; have HD6 := Aside0.mk (Kd.R_reads' hs6).2.2; have hc6 : ∀ b o, b < w5.heap.size → w6.cell? ⟨b, o, none⟩ = w5.cell? ⟨b, o, none⟩ := (bcell hb).1; clear hb hr6 hs6)
        | (go_at_call 31; refine (eqTerm_c _ _ _ _ _ _ _ _ _ ch hs _ _ _ _ _ _ _ _ _ ch hs _ (by repeat (first | exact HC4.out | refine Kd.C_below ?_ HB6.out | refine Kd.C_below ?_ HB5.out | refine Kd.C_below ?_ HB4.out | refine Kd.C_alloc ?_ _ | refine Kd.C_drewN ?_ _)) (by repeat (first | exact HD4.out | refine Kd.C_below ?_ HB6.out | refine Kd.C_below ?_ HB5.out | refine Kd.C_below ?_ HB4.out | refine Kd.C_alloc ?_ _ | refine Kd.C_drewN ?_ _)) (by repeat (first | exact HC6.out | refine Kd.C_below ?_ HB6.out | refine Kd.C_alloc ?_ _ | refine Kd.C_drewN ?_ _)) (by repeat (first | exact HD6.out | refine Kd.C_below ?_ HB6.out | refine Kd.C_alloc ?_ _ | refine Kd.C_drewN ?_ _))).mono ?_; rintro e w7 ⟨rfl, hb⟩; have HB7 := Aside0.mk hb; have hc7 : ∀ b o, b < w6.heap.size → w7.cell? ⟨b, o, none⟩ = w6.cell? ⟨b, o, none⟩ := (bcell hb).1; have hz6b : w.heap.size < w6.heap.size := (by omega); have hz6c : w4.heap.size < w6.heap.size := (by omega); clear hb))
    go_wp2
    go_ret
    exact ⟨rfl, (by repeat (first | exact Below.refl _ _ | refine below_end ?_ HB7.out | refine below_end ?_ HB6.out | refine below_end ?_ HB5.out | refine below_end ?_ HB4.out | refine below_end ?_ HB3.out | refine below_end ?_ HB2.out | refine below_end ?_ HB1.out | refine below_alloc ?_ _ | refine pw_below_drewN ?_ _))⟩
end Go.Proofs.Ytpfponhaofdbaaa.M
