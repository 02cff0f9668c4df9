import Derived.Test.YtpfponhaofdbaaaG2
set_option linter.unusedVariables false
set_option linter.unusedSimpArgs false
namespace Go.Proofs.Ytpfponhaofdbaaa.M
open Go.RowKit Go.Proofs.YtpfponhaofdbaaaW.PrintWords

/-! CountTurned -/
def gridsCode (wa : Int) (ca : List Int) (ha : List Bool) (wb : Int) (cb : List Int) (hb : List Bool) : Int :=
  if gridFault wa ca ha != 0 then gridFault wa ca ha else if gridFault wb cb hb != 0 then gridFault wb cb hb else if wa != wb || ca.length != cb.length then 1 else 0
def sameAt (ca : List Int) (ha : List Bool) (cb : List Int) (hb : List Bool) (i : Nat) : Bool := (ca.getD i 0 == cb.getD i 0) && (ha.getD i false == hb.getD i false)
def turnedN (ca : List Int) (ha : List Bool) (cb : List Int) (hb : List Bool) : Nat → Int
  | 0 => 0
  | k + 1 => turnedN ca ha cb hb k + if sameAt ca ha cb hb k then 0 else 1
theorem turnedN_bd (ca : List Int) (ha : List Bool) (cb : List Int) (hb : List Bool) : ∀ k, 0 ≤ turnedN ca ha cb hb k ∧ turnedN ca ha cb hb k ≤ k
  | 0 => ⟨Int.le_refl _, Int.le_refl _⟩
  | k + 1 => by
    have := turnedN_bd ca ha cb hb k
    unfold turnedN
    split <;> omega
def countTurned (wa : Int) (ca : List Int) (ha : List Bool) (wb : Int) (cb : List Int) (hb : List Bool) : Int × Int :=
  if gridsCode wa ca ha wb cb hb != 0 then (gridsCode wa ca ha wb cb hb, 0) else (0, turnedN ca ha cb hb cb.length)
theorem gridFault_form {wi : Int} {ch : List Int} {hs : List Bool} (h : gridFault wi ch hs = 0) : 4 ≤ wi ∧ wi ≤ 40 ∧ hs.length = ch.length ∧ (∀ c ∈ ch, isSeen c = true) ∧ (ch.length : Int) % wi = 0 ∧ (ch.length : Int) ≤ 13 * wi ∧ 0 < ch.length := by
  unfold gridFault at h
  cases hw : within wi 4 40
  · simp [hw] at h
  · cases hf : gridForm wi ch.length hs.length
    · cases hu : anyUnseen ch
      · have := within_bd hw
        unfold gridForm at hf
        unfold anyUnseen at hu
        simp at hf hu
        refine ⟨this.1, this.2, by omega, hu, hf.1.1.2, hf.1.2, ?_⟩
        rcases Nat.eq_zero_or_pos ch.length with h0 | h0
        · exact absurd (List.eq_nil_of_length_eq_zero h0) hf.1.1.1
        · exact h0
      · simp [hw, hf, hu] at h
    · simp [hw, hf] at h
theorem gridsCode_form {wa : Int} {ca : List Int} {ha : List Bool} {wb : Int} {cb : List Int} {hb : List Bool} (h : gridsCode wa ca ha wb cb hb = 0) : gridFault wa ca ha = 0 ∧ gridFault wb cb hb = 0 ∧ wa = wb ∧ ca.length = cb.length := by
  unfold gridsCode at h
  by_cases h1 : gridFault wa ca ha = 0
  · by_cases h2 : gridFault wb cb hb = 0
    · simp [h1, h2] at h
      exact ⟨h1, h2, h.1, h.2⟩
    · simp [h1, h2] at h
  · simp [h1] at h

/-- Two grids' arguments. -/
abbrev gval (wa : Int) (A : Option Addr) (c : Nat) (ca : List Int) (B : Option Addr) (d : Nat) (ha : List Bool) : Value := .agg #[.int .i64 wa, .slice A ca.length c, .slice B ha.length d]
theorem gridsCode_c (wa : Int) (A : Option Addr) (c : Nat) (ca : List Int) (B : Option Addr) (d : Nat) (ha : List Bool) (wb : Int) (A' : Option Addr) (c' : Nat) (cb : List Int) (B' : Option Addr) (d' : Nat) (hb : List Bool) (w : World)
    (hr : Kd.C (Kd.int .i64) w A ca.length ca) (hs : Kd.C Kd.bool w B ha.length ha) (hr' : Kd.C (Kd.int .i64) w A' cb.length cb) (hs' : Kd.C Kd.bool w B' hb.length hb) (hc : ca.length ≤ c) (hd : ha.length ≤ d) (hc' : cb.length ≤ c') (hd' : hb.length ≤ d') :
    Calls Try.prog 87 #[.agg #[.int .i64 wa, .slice A ca.length c, .slice B ha.length d], .agg #[.int .i64 wb, .slice A' cb.length c', .slice B' hb.length d']] w fun e w' => e = .returned (.int .i64 (gridsCode wa ca ha wb cb hb)) ∧ Below w.heap.size w w' := by
  have HR := Aside0.mk hr
  have HS := Aside0.mk hs
  have HR' := Aside0.mk hr'
  have HS' := Aside0.mk hs'
  have hm1 := Kd.C_max hr
  have hm2 := Kd.C_max hr'
  clear hr hs hr' hs'
  go_enter Try.func87, Try.ntmps87
  go_wp2_with fail
  refine Calls.mono (GridFault_c wa A c ca B d ha _ (by repeat (first | exact HR.out | refine Kd.C_alloc ?_ _ | refine Kd.C_drewN ?_ _)) (by repeat (first | exact HS.out | refine Kd.C_alloc ?_ _ | refine Kd.C_drewN ?_ _)) hc hd) ?_
  rintro e w1 ⟨rfl, hb1⟩
  have HB1 := Aside0.mk hb1
  obtain ⟨hx1, _⟩ := bcell hb1
  have hz1 := hb1.size
  simp only [size_alloc] at hz1
  have hz1a : w.heap.size < w1.heap.size := by omega
  have hz1b : w.heap.size + 1 < w1.heap.size := by omega
  clear hb1
  by_cases g1 : gridFault wa ca ha = 0
  · have b1 : (gridFault wa ca ha != 0) = false := by simpa using g1
    go_wp2_with fail
    refine Calls.mono (GridFault_c wb A' c' cb B' d' hb _ (by repeat (first | exact HR'.out | refine Kd.C_below ?_ HB1.out | refine Kd.C_alloc ?_ _ | refine Kd.C_drewN ?_ _)) (by repeat (first | exact HS'.out | refine Kd.C_below ?_ HB1.out | refine Kd.C_alloc ?_ _ | refine Kd.C_drewN ?_ _)) hc' hd') ?_
    rintro e w2 ⟨rfl, hb2⟩
    have HB2 := Aside0.mk hb2
    obtain ⟨hx2, _⟩ := bcell hb2
    clear hb2
    go_wp2
    all_goals
      go_ret
      refine ⟨?_, (by repeat (first | exact Below.refl _ _ | refine below_end ?_ HB2.out | refine below_end ?_ HB1.out | refine below_alloc ?_ _ | refine below_drew ?_ | refine pw_below_drewN ?_ _))⟩
      first | (simp_all [gridsCode]; done) | (simp_all [gridsCode]; omega)
  · have b1 : (gridFault wa ca ha != 0) = true := by simpa using g1
    have HG := Aside0.mk g1
    clear g1
    go_wp2
    go_ret
    refine ⟨?_, (by repeat (first | exact Below.refl _ _ | refine below_end ?_ HB1.out | refine below_alloc ?_ _ | refine below_drew ?_ | refine pw_below_drewN ?_ _))⟩
    have := HG.out
    simp_all [gridsCode]
end Go.Proofs.Ytpfponhaofdbaaa.M
