import Derived.Test.YtpfponhaofdbaaaF3b
import Derived.Test.YtpfponhaofdbaaaFQ
set_option linter.unusedVariables false
set_option linter.unusedSimpArgs false
namespace Go.Proofs.Ytpfponhaofdbaaa.M
open Go.RowKit Go.Proofs.YtpfponhaofdbaaaW.PrintWords

theorem ndg_go {d : List Int} {i j : Nat} {m : Int} {r : Int × Nat} (h : ndg d (3 - j) m (i + j) = r) (h3 : j < 3) (hc : i + j < d.length ∧ 48 ≤ d.getD (i + j) 0 ∧ d.getD (i + j) 0 ≤ 57) : ndg d (3 - (j + 1)) (m * 10 + (d.getD (i + j) 0 - 48)) (i + (j + 1)) = r := by
  rw [← h, show 3 - j = (3 - (j + 1)) + 1 by omega, ndg, if_pos hc, Nat.add_assoc]
theorem ndg_end {d : List Int} {i j : Nat} {m : Int} {r : Int × Nat} (h : ndg d (3 - j) m (i + j) = r) (hj : j ≤ 3) (hc : ¬ (i + j < d.length ∧ j < 3 ∧ 48 ≤ d.getD (i + j) 0 ∧ d.getD (i + j) 0 ≤ 57)) : r = (m, i + j) := by
  rcases Nat.lt_or_ge j 3 with h3 | h3
  · rw [← h, show 3 - j = (3 - (j + 1)) + 1 by omega, ndg, if_neg (fun h => hc ⟨h.1, h3, h.2⟩)]
  · rw [← h, show 3 - j = 0 by omega]; rfl
theorem numP_bd (d : List Int) (i : Nat) : -1 ≤ (numP d i).1 ∧ (numP d i).1 < 1000 ∧ i ≤ (numP d i).2 ∧ (numP d i).2 ≤ i + 3 ∧ (i ≤ d.length → (numP d i).2 ≤ d.length) ∧ ((numP d i).1 < 0 ∨ 1 ≤ (numP d i).1) := by
  rw [numP_rdg]
  have h1 := rdg_nn (d.drop i) 3 0 0 1 (by omega) (by omega)
  have h2 := rdg_ge (d.drop i) 3 0 0
  have h3 := rdg_one (d.drop i)
  rw [List.length_drop] at h2
  split
  · exact ⟨by show (-1 : Int) ≤ -1; omega, by show (-1 : Int) < 1000; omega, Nat.le_refl _, by show i ≤ i + 3; omega, fun h => h, .inl (by show (-1 : Int) < 0; omega)⟩
  · rename_i h
    have h4 := h3 h
    have h5 : (rdg (d.drop i) 3 0 0).1 < 1000 := by have := h1.2; simpa [p10] using this
    exact ⟨by show -1 ≤ (rdg (d.drop i) 3 0 0).1; omega, h5, by show i ≤ i + _; omega, by show i + _ ≤ i + 3; omega, fun hl => by show i + _ ≤ _; have := h2.2.2 (by omega); omega, .inr h4⟩

set_option maxRecDepth 100000 in
set_option maxHeartbeats 1000000 in
theorem l13Number_c (A : Option Addr) (c : Nat) (d : List Int) (i : Nat) (w : World) (hr : Kd.C (Kd.int .u8) w A d.length d) (hb : ∀ z ∈ d, 0 ≤ z ∧ z ≤ 255) (hl : d.length ≤ 1000000) (hi : i ≤ 1000000) :
    Calls Try.prog 156 #[.slice A d.length c, .int .i64 i] w fun e w' => e = .returned (.tuple #[.int .i64 (numP d i).1, .int .i64 ((numP d i).2 : Int)]) ∧ w = w' := by
  have HR := Aside0.mk hr
  have HB := Aside0.mk hb
  clear hr hb
  go_enter Try.func156, Try.ntmps156
  go_wp2
  go_loop [6, 7] (fun n x => ∃ (j : Nat) (m : Int), j ≤ 3 ∧ n = .int .i64 m ∧ x = .int .i64 ((i + j : Nat) : Int) ∧ 0 ≤ m ∧ Aside0 (m < p10 j) ∧ Aside0 (ndg d (3 - j) m (i + j) = ndg d 3 0 i)) (fun _ x => i + 3 - (intOf x).toNat)
  case atStart => exact ⟨0, 0, by omega, rfl, rfl, by omega, ⟨by decide⟩, ⟨rfl⟩⟩
  case round =>
    obtain ⟨j, m, hj, rfl, rfl, hm0, HP, HG⟩ := hrel
    by_cases hgo : i + j < d.length ∧ j < 3 ∧ 48 ≤ d.getD (i + j) 0 ∧ d.getD (i + j) 0 ≤ 57
    · obtain ⟨h1, h3, g1, g2⟩ := hgo
      obtain ⟨ad, e, hx⟩ := at1 HR.out 0 (i + j) h1
      cases e
      have HN := Aside0.mk (ndg_go HG.out h3 ⟨h1, g1, g2⟩)
      have hpm := p10_small HP.out h3
      generalize d.getD (i + j) 0 = v at *
      have hs : IntKind.u8.wrap (v - 48) = v - 48 := by rw [IntKind.wrap_u8]; omega
      have HX := Aside0.mk (show i + (j + 1) = i + j + 1 from rfl)
      have h3' : i + j < i + 3 := by omega
      have hm2 : m * 10 + (v - 48) ≤ 1000 := by omega
      generalize hn : i + j = n at *
      have HNN := Aside0.mk hn
      clear hn
      go_wp2
      go_round
      case rel => exact ⟨j + 1, m * 10 + (v - 48), by omega, by go_num, by rw [show i + (j + 1) = n + 1 from by rw [← HNN.out]; omega]; go_num, by omega, ⟨by have := HP.out; show _ < 10 * p10 j; omega⟩, HN⟩
      case measure => simp [intOf]; omega
    · have HE := Aside0.mk (ndg_end HG.out hj hgo)
      have HQ : ∀ r, (numP d i = r) → Aside0 (numP d i = r) := fun r h => ⟨h⟩
      by_cases hz : j = 0
      · subst hz
        have HZ := Aside0.mk (show numP d i = (-1, i) by unfold numP; rw [if_pos (Or.inl (by rw [HE.out]; rfl))])
        clear HQ
        by_cases h1 : i < d.length
        · obtain ⟨ad, e, hx⟩ := at1 HR.out 0 i h1
          cases e
          have hgo' : ¬ (48 ≤ d.getD i 0 ∧ d.getD i 0 ≤ 57) := fun h => hgo ⟨h1, by omega, h⟩
          generalize d.getD i 0 = v at hx hgo'
          clear hgo
          by_cases g1 : 48 ≤ v
          · have g2 : ¬ v ≤ 57 := fun h => hgo' ⟨g1, h⟩
            clear hgo'
            go_wp2
            go_ret2
            exact ⟨by rw [HZ.out]; rfl, rfl⟩
          · clear hgo'
            go_wp2
            go_ret2
            exact ⟨by rw [HZ.out]; rfl, rfl⟩
        · clear hgo
          go_wp2
          go_ret2
          exact ⟨by rw [HZ.out]; rfl, rfl⟩
      · have hid : i < d.length := by
          rcases Nat.lt_or_ge i d.length with h | h
          · exact h
          · exfalso
            have e1 : ndg d 3 0 i = (0, i) := by rw [ndg, if_neg (by omega)]
            rw [HE.out] at e1
            injection e1 with _ e2
            omega
        obtain ⟨ad, e, hx0⟩ := at1 HR.out 0 i hid
        cases e
        have bne : (((i + j : Nat) : Int) == (i : Int)) = false := by simp; omega
        have hfin : numP d i = if d.getD i 0 = 48 then (-1, i) else (m, i + j) := by
          unfold numP
          rw [HE.out]
          by_cases h : d.getD i 0 = 48
          · rw [if_pos (Or.inr h), if_pos h]
          · rw [if_neg (by rintro (h' | h'); (have : i + j = i := h'; omega); exact h h'), if_neg h]
        have HF := Aside0.mk hfin
        clear HQ hfin
        have hst : ∀ (Q : Prop), (∀ (h1 : ¬ i + j < d.length), Q) → (∀ (h1 : i + j < d.length) (h3 : ¬ j < 3), Q) → (∀ (h1 : i + j < d.length) (h3 : j < 3) (g1 : ¬ 48 ≤ d.getD (i + j) 0), Q) → (∀ (h1 : i + j < d.length) (h3 : j < 3) (g1 : 48 ≤ d.getD (i + j) 0) (g2 : ¬ d.getD (i + j) 0 ≤ 57), Q) → Q := by
          intro Q q1 q2 q3 q4
          by_cases h1 : i + j < d.length
          · by_cases h3 : j < 3
            · by_cases g1 : 48 ≤ d.getD (i + j) 0
              · exact q4 h1 h3 g1 (fun g2 => hgo ⟨h1, h3, g1, g2⟩)
              · exact q3 h1 h3 g1
            · exact q2 h1 h3
          · exact q1 h1
        clear hgo
        by_cases h48 : d.getD i 0 = 48
        · have HF2 := Aside0.mk (HF.out.trans (if_pos h48))
          rw [h48] at hx0
          refine hst _ ?_ ?_ ?_ ?_ <;> clear hst h48
          · intro h1
            generalize hn : i + j = n at *
            clear hn
            go_wp2
            go_ret2
            exact ⟨by rw [HF2.out]; rfl, rfl⟩
          · intro h1 h3
            obtain ⟨ad, e, hx⟩ := at1 HR.out 0 (i + j) h1
            cases e
            have h3' : ¬ i + j < i + 3 := by omega
            generalize hn : i + j = n at *
            clear hn
            go_wp2
            go_ret2
            exact ⟨by rw [HF2.out]; rfl, rfl⟩
          · intro h1 h3 g1
            obtain ⟨ad, e, hx⟩ := at1 HR.out 0 (i + j) h1
            cases e
            have h3' : i + j < i + 3 := by omega
            generalize d.getD (i + j) 0 = v at *
            generalize hn : i + j = n at *
            clear hn
            go_wp2
            go_ret2
            exact ⟨by rw [HF2.out]; rfl, rfl⟩
          · intro h1 h3 g1 g2
            obtain ⟨ad, e, hx⟩ := at1 HR.out 0 (i + j) h1
            cases e
            have h3' : i + j < i + 3 := by omega
            generalize d.getD (i + j) 0 = v at *
            generalize hn : i + j = n at *
            clear hn
            go_wp2
            go_ret2
            exact ⟨by rw [HF2.out]; rfl, rfl⟩
        · have HF2 := Aside0.mk (HF.out.trans (if_neg h48))
          generalize hv0 : d.getD i 0 = v0 at hx0 h48
          clear hv0
          have b48 : (v0 == 48) = false := by simpa using h48
          refine hst _ ?_ ?_ ?_ ?_ <;> clear hst h48
          · intro h1
            generalize hn : i + j = n at *
            have HNN := Aside0.mk hn
            clear hn
            go_wp2
            go_ret2
            exact ⟨by rw [HF2.out]; rfl, rfl⟩
          · intro h1 h3
            obtain ⟨ad, e, hx⟩ := at1 HR.out 0 (i + j) h1
            cases e
            have h3' : ¬ i + j < i + 3 := by omega
            generalize hn : i + j = n at *
            clear hn
            go_wp2
            go_ret2
            exact ⟨by rw [HF2.out]; rfl, rfl⟩
          · intro h1 h3 g1
            obtain ⟨ad, e, hx⟩ := at1 HR.out 0 (i + j) h1
            cases e
            have h3' : i + j < i + 3 := by omega
            generalize d.getD (i + j) 0 = v at *
            generalize hn : i + j = n at *
            clear hn
            go_wp2
            go_ret2
            exact ⟨by rw [HF2.out]; rfl, rfl⟩
          · intro h1 h3 g1 g2
            obtain ⟨ad, e, hx⟩ := at1 HR.out 0 (i + j) h1
            cases e
            have h3' : i + j < i + 3 := by omega
            generalize d.getD (i + j) 0 = v at *
            generalize hn : i + j = n at *
            clear hn
            go_wp2
            go_ret2
            exact ⟨by rw [HF2.out]; rfl, rfl⟩
end Go.Proofs.Ytpfponhaofdbaaa.M
