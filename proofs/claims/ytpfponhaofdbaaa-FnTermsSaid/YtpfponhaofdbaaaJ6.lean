import Derived.Test.YtpfponhaofdbaaaJ5
set_option linter.unusedVariables false
set_option linter.unusedSimpArgs false
namespace Go.Proofs.Ytpfponhaofdbaaa.M
open Go.RowKit Go.Proofs.YtpfponhaofdbaaaW.PrintWords

set_option maxRecDepth 100000 in
set_option maxHeartbeats 300000 in
theorem lwBig_c (A : Option Addr) (c : Nat) (code : List Int) (w : World) (hl : code.length ≤ 1048576) :
    Calls Try.prog 58 #[.slice A code.length c] w fun e w' => e = .returned (.bool false) ∧ w = w' := by
  have h : ¬ ((code.length : Int) > 1048576) := by omega
  go_enter Try.func58, Try.ntmps58
  go_wp2
  go_ret
  exact ⟨rfl, rfl⟩

theorem lwa_a {z : Int} (hz : 0 ≤ z ∧ z ≤ 255) {s : Nat} (hs : (s : Int) ≤ 1000) : wrap64 (s : Int) = s ∧ wrap64 z = z ∧ wrap64 ((s : Int) * 3) = (s : Int) * 3 ∧ wrap64 (z + (s : Int) * 3) = z + (s : Int) * 3 ∧ 0 ≤ z + (s : Int) * 3 ∧ z + (s : Int) * 3 ≤ 4000 :=
  ⟨w64_in _ ⟨by omega, by omega⟩, w64_in _ ⟨by omega, by omega⟩, w64_in _ ⟨by omega, by omega⟩, w64_in _ ⟨by omega, by omega⟩, by omega, by omega⟩
theorem lwa_b {v z : Int} (h0 : 0 ≤ v) (h1 : v ≤ 4000) (hz : 0 ≤ z ∧ z ≤ 255) : wrap64 (v * 251) = v * 251 ∧ wrap64 z = z ∧ wrap64 (v * 251 + z) = v * 251 + z ∧ 0 ≤ v * 251 + z :=
  ⟨w64_in _ ⟨by omega, by omega⟩, w64_in _ ⟨by omega, by omega⟩, w64_in _ ⟨by omega, by omega⟩, by omega⟩

set_option maxRecDepth 100000 in
set_option maxHeartbeats 300000 in
theorem lwAt_c (A : Option Addr) (c : Nat) (code : List Int) (i n : Int) (w : World) (hr : Kd.C (Kd.int .u8) w A code.length code) (hb : ∀ z ∈ code, 0 ≤ z ∧ z ≤ 255) (hl : code.length ≤ 100000000) (hi : 0 ≤ i) (hi2 : i ≤ 1000) (hn : n ≤ 2000000) :
    Calls Try.prog 60 #[.slice A code.length c, .int .i64 i, .int .i64 n] w fun e w' => ∃ r : Int, e = .returned (.int .i64 r) ∧ 0 ≤ r ∧ (1 ≤ n → r < n) ∧ Drawn0 w w' := by
  have HR := Aside0.mk hr
  have HB := Aside0.mk hb
  clear hr hb
  by_cases hn1 : n ≤ 1
  · go_enter Try.func60, Try.ntmps60
    go_wp2
    go_ret
    exact ⟨0, rfl, Int.le_refl _, fun h => by omega, Drawn0.refl _⟩
  have n1 : 1 ≤ n := by omega
  have nz : (n == 0) = false := by simp; omega
  by_cases hk : code.length = 0
  · have kz : ((code.length : Int) == 0) = true := by simpa using hk
    have e3 : wrap64 (i * 7) = i * 7 := w64_in _ ⟨by omega, by omega⟩
    have e4 : (i * 7).tmod n = (i * 7) % n := Int.tmod_eq_emod_of_nonneg (by omega)
    have b1 := Int.emod_nonneg (i * 7) (fun e : n = 0 => by rw [e] at n1; exact absurd n1 (by decide))
    have b2 := Int.emod_lt_of_pos (i * 7) (Int.lt_of_lt_of_le (by decide) n1)
    generalize (i * 7) % n = r at *
    have e12 : wrap64 r = r := l1n_c b1 b2 hn
    go_enter Try.func60, Try.ntmps60
    go_wp2
    go_ret
    exact ⟨r, rfl, b1, by first | exact fun _ => b2 | exact b2, Drawn0.refl _⟩
  have kz : ((code.length : Int) == 0) = false := by simpa using hk
  obtain ⟨q, hq⟩ := Int.eq_ofNat_of_zero_le hi
  have em : i.tmod (code.length : Int) = ((q % code.length : Nat) : Int) := by rw [hq, Int.tmod_eq_emod_of_nonneg (by omega), Int.natCast_emod]
  have ed : i.tdiv (code.length : Int) = ((q / code.length : Nat) : Int) := by rw [hq, Int.tdiv_eq_ediv_of_nonneg (by omega), Int.natCast_ediv]
  have hm : q % code.length < code.length := Nat.mod_lt _ (by omega)
  have hd : q / code.length ≤ q := Nat.div_le_self _ _
  generalize q % code.length = m at em hm
  generalize q / code.length = s at ed hd
  obtain ⟨ad, e, hx⟩ := at1 HR.out 0 m hm
  cases e
  have hzb := HB.out (code.getD m 0) (mem_getD hm)
  generalize code.getD m 0 = z at hx hzb
  have hm1 : ((m : Nat) : Int) < code.length := by omega
  obtain ⟨es, ez, e3, e4, hv0, hv1⟩ := lwa_a hzb (show (s : Int) ≤ 1000 by omega)
  generalize hv : z + (s : Int) * 3 = v at *
  by_cases hn2 : n > 200
  · have em2 : (i + 1).tmod (code.length : Int) = (((q + 1) % code.length : Nat) : Int) := by rw [hq, Int.tmod_eq_emod_of_nonneg (by have := Int.natCast_nonneg q; exact Int.le_add_one this), Int.natCast_emod]; rfl
    have hm2 : (q + 1) % code.length < code.length := Nat.mod_lt _ (Nat.pos_of_ne_zero hk)
    generalize (q + 1) % code.length = m2 at em2 hm2
    obtain ⟨ad2, e, hx2⟩ := at1 HR.out 0 m2 hm2
    cases e
    have hzb2 := HB.out (code.getD m2 0) (mem_getD hm2)
    generalize code.getD m2 0 = z2 at hx2 hzb2
    have hm3 : ((m2 : Nat) : Int) < code.length := Int.ofNat_lt.2 hm2
    obtain ⟨e6, e7, e9, hy0⟩ := lwa_b hv0 hv1 hzb2
    have E1W := Aside0.mk (show wrap64 (i + 1) = i + 1 from w64_in _ ⟨by clear e6 e7 e9 es ez e3 e4; omega, by clear e6 e7 e9 es ez e3 e4; omega⟩)
    have e11 : (v * 251 + z2).tmod n = (v * 251 + z2) % n := Int.tmod_eq_emod_of_nonneg hy0
    have b1 := Int.emod_nonneg (v * 251 + z2) (fun e : n = 0 => by rw [e] at n1; exact absurd n1 (by decide))
    have b2 := Int.emod_lt_of_pos (v * 251 + z2) (Int.lt_of_lt_of_le (by decide) n1)
    generalize (v * 251 + z2) % n = r at *
    have e12 : wrap64 r = r := l1n_c b1 b2 hn
    clear hq hzb hzb2 hv0 hv1 hy0 hd
    go_enter Try.func60, Try.ntmps60
    go_wp2
    go_quiet (fail)
    go_wp2
    (try rw [e4, ez, es, e3])
    clear es ez e3 e4 hv em ed hx hm1
    have e1w := E1W.out
    go_wp2
    go_ret
    exact ⟨r, rfl, b1, by first | exact fun _ => b2 | exact b2, by repeat (first | exact Drawn0.refl _ | refine Drawn0.step ?_ _)⟩
  · have e11 : v.tmod n = v % n := Int.tmod_eq_emod_of_nonneg hv0
    have b1 := Int.emod_nonneg v (fun e : n = 0 => by rw [e] at n1; exact absurd n1 (by decide))
    have b2 := Int.emod_lt_of_pos v (Int.lt_of_lt_of_le (by decide) n1)
    generalize v % n = r at *
    have e12 : wrap64 r = r := l1n_c b1 b2 hn
    clear hq hzb hv0 hv1 hd
    go_enter Try.func60, Try.ntmps60
    go_wp2
    go_quiet (fail)
    go_wp2
    go_ret
    exact ⟨r, rfl, b1, by first | exact fun _ => b2 | exact b2, by repeat (first | exact Drawn0.refl _ | refine Drawn0.step ?_ _)⟩
end Go.Proofs.Ytpfponhaofdbaaa.M
