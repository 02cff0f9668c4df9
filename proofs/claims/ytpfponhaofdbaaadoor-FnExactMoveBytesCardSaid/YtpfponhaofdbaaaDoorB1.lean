import Derived.Test.YtpfponhaofdbaaaDoorS1
import Derived.Test.YtpfponhaofdbaaaDoorK2
import Derived.Test.YtpfponhaofdbaaaDoorB0
set_option linter.unusedVariables false
set_option linter.unusedSimpArgs false
namespace Go.Proofs.YtpfponhaofdbaaaDoor.M
open Go.RowKit Go.Proofs.YtpfponhaofdbaaaDoorW.PrintWords

/-! numbers as texts -/
def digS (n : Nat) : ByteArray := ⟨(Lib.decDigits n).toArray⟩
theorem digS_size (n : Nat) : (digS n).size = Lib.nDigits n := by
  show (Lib.decDigits n).toArray.size = _
  rw [List.size_toArray, Lib.decDigits_length]
theorem nDigits_le : ∀ (f n : Nat), n < 10 ^ (f + 1) → Lib.nDigits n ≤ f + 1
  | 0, n, h => by rw [Lib.nDigits, dif_pos (by simpa using h)]; exact Nat.le_refl _
  | f + 1, n, h => by
    rw [Lib.nDigits]
    split
    · omega
    · have := nDigits_le f (n / 10) (by rw [Nat.div_lt_iff_lt_mul (by omega)]; rw [Nat.pow_succ] at h; exact h)
      omega
theorem chr_of (n : Nat) (h : n < 10) : strOfNums [48 + (n : Int)] = ⟨#[UInt8.ofNat (48 + n)]⟩ := by
  unfold strOfNums
  simp only [List.map_cons, List.map_nil]
  congr 1
theorem digS_one (n : Nat) (h : n < 10) : strOfNums [48 + (n : Int)] = digS n := by
  rw [chr_of n h, digS, Lib.decDigits_one h]
theorem digS_more (n : Nat) (h : ¬ n < 10) : digS (n / 10) ++ strOfNums [48 + ((n % 10 : Nat) : Int)] = digS n := by
  rw [chr_of (n % 10) (Nat.mod_lt _ (by omega))]
  apply ByteArray.ext
  apply Array.ext'
  rw [ByteArray.data_append, Array.toList_append]
  show (Lib.decDigits (n / 10)).toArray.toList ++ _ = (Lib.decDigits n).toArray.toList
  conv => rhs; rw [Lib.decDigits, dif_neg h]
set_option maxRecDepth 100000 in
theorem decimal_c (n : Nat) (w : World) (hn : n < 100) : Calls Tryd.prog 81 #[.int .i64 n] w fun e w' => e = .returned (.string (digS n)) ∧ w = w' := by
  go_enter Tryd.func81, Tryd.ntmps81
  go_wp2_with (go_at_call 131; refine Calls.mono (Tryd.strconv_FormatInt_10_small n hn _) ?_; rintro e w' ⟨rfl, rfl⟩)
  go_ret
  exact ⟨rfl, rfl⟩
theorem strU1 (A : Option Addr) (n c : Nat) (d : List Int) (w : World) (hr : Kd.C (Kd.int .u8) w A n d) : (convert 22 9 (.slice A n c)).run Tryd.prog w = .ok (.string (strOfNums d)) w :=
  Kd.C_string Tryd.underlying22 Tryd.underlying5 Tryd.underlying9 hr
theorem chr_run (W : World) (g : Nat) (z : Int) (h : W.cell? ⟨g, 0, none⟩ = some (.int .u8 z)) : (convert 22 9 (.slice (some ⟨g, 0, none⟩) 1 1)).run Tryd.prog W = .ok (.string (strOfNums [z])) W :=
  strU1 _ 1 1 [z] W (Kd.C_of_reads (d := 0) ⟨rfl, by omega, fun _ => ⟨_, rfl, fun j hj => by
    obtain rfl : j = 0 := by simpa using hj
    rw [add_plain]
    exact h⟩⟩)
set_option maxRecDepth 100000 in
set_option maxHeartbeats 1000000 in
theorem l1Digits_c : ∀ (f n : Nat) (z : Int) (hz : z = n) (w : World) (hn : n < 10 ^ (f + 1)) (hf : f ≤ 8), Calls Tryd.prog 126 #[.int .i64 z] w fun e w' => e = .returned (.string (digS n)) ∧ Below w.heap.size w w'
  | f, n, z, hz, w, hn, hf => by
    subst hz
    have hsz : n < 10000000000 := by
      have : 10 ^ (f + 1) ≤ 10 ^ 9 := Nat.pow_le_pow_right (by omega) (by omega)
      omega
    by_cases h : n < 10
    · have HQ := Aside0.mk (digS_one n h)
      have hst := chr_run (w.alloc (.cells #[.int .u8 (48 + (n : Int))] 5)) w.heap.size (48 + (n : Int)) (by rw [blk_cell (blk_new _)]; rfl)
      have hw1 : IntKind.u8.wrap (48 + (n : Int)) = 48 + (n : Int) := by rw [IntKind.wrap_u8]; omega
      generalize strOfNums [48 + (n : Int)] = s at hst HQ
      clear hn
      go_enter Tryd.func126, Tryd.ntmps126
      go_wp2
      go_ret
      exact ⟨by rw [HQ.out]; rfl, below_alloc (Below.refl _ _) _⟩
    · obtain ⟨f, rfl⟩ : ∃ g, f = g + 1 := by
        rcases f with _ | g
        · exfalso; simp at hn; omega
        · exact ⟨g, rfl⟩
      have ih := fun W => l1Digits_c f (n / 10) ((n : Int) / 10) (by omega) W (by rw [Nat.div_lt_iff_lt_mul (by omega)]; rw [Nat.pow_succ] at hn; exact hn) (by omega)
      have IH := Aside0.mk ih
      have HQ := Aside0.mk (digS_more n h)
      have hs1 : (digS (n / 10)).size ≤ 9 := by
        rw [digS_size]
        have := nDigits_le f (n / 10) (by rw [Nat.div_lt_iff_lt_mul (by omega)]; rw [Nat.pow_succ] at hn; exact hn)
        omega
      have hs2 : (strOfNums [48 + ((n % 10 : Nat) : Int)]).size ≤ 1 := Nat.le_refl _
      have hw1 : IntKind.u8.wrap (48 + (n : Int) % 10) = 48 + ((n % 10 : Nat) : Int) := by rw [IntKind.wrap_u8]; omega
      generalize 48 + ((n % 10 : Nat) : Int) = c at hs2 hw1 HQ
      have hst := fun (W : World) (g : Nat) => chr_run W g c
      generalize digS (n / 10) = ds at hs1 IH HQ
      generalize strOfNums [c] = s at hs2 hst HQ
      have htm : (n : Int).tmod 10 = (n : Int) % 10 := Int.tmod_eq_emod_of_nonneg (by omega)
      clear ih hn
      have hnn : (n : Int) ≥ 10 := by omega
      have hwd : IntKind.i64.wrap ((n : Int) / 10) = (n : Int) / 10 := by rw [IntKind.wrap_i64]; omega
      have hwm : IntKind.i64.wrap (48 + (n : Int) % 10) = 48 + (n : Int) % 10 := by rw [IntKind.wrap_i64]; omega
      clear h
      go_enter Tryd.func126, Tryd.ntmps126
      go_wp2
      go_region_with (go_at_call 126; refine Calls.mono (IH.out _) ?_; rintro e w1 ⟨rfl, hb1⟩; have sz1 := hb1.size; (try simp only [size_alloc, size_drew, size_drewN] at sz1); have hx1 := (bcell hb1).1; (try simp only [size_alloc, size_drew, size_drewN] at hx1); have HB1 := Aside0.mk hb1; clear hb1)
      all_goals
        go_wp2
        go_ret
        refine ⟨by rw [HQ.out]; rfl, ?_⟩
        repeat (with_reducible first | exact Below.refl _ _ | refine below_alloc ?_ _ | refine below_drew ?_ | refine pw_below_drewN ?_ _ | refine below_end ?_ HB1.out)
end Go.Proofs.YtpfponhaofdbaaaDoor.M
