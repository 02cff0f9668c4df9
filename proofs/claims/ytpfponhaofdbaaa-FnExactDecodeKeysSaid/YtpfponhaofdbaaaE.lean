import Derived.Test.YtpfponhaofdbaaaH
import Derived.Laws.BitsLemmas
set_option linter.unusedVariables false
set_option linter.unusedSimpArgs false
namespace Go.Proofs.Ytpfponhaofdbaaa.M
open Go.RowKit Go.Proofs.YtpfponhaofdbaaaW.PrintWords

/-! the bytes of a character -/
def enc (c : Int) : List Int := if c < 128 then [c] else if c < 2048 then [192 + c / 64, 128 + c % 64] else [224 + c / 4096, 128 + c / 64 % 64, 128 + c % 64]
theorem enc_len (c : Int) : 1 ≤ (enc c).length ∧ (enc c).length ≤ 3 := by
  unfold enc
  split
  · simp
  · split <;> simp

set_option maxRecDepth 100000 in
theorem l1Encode_c (c : Int) (w : World) (h0 : 0 ≤ c) (h1 : c ≤ 65535) :
    Calls Try.prog 89 #[.int .i64 c] w fun e w' => e = .returned (.slice (some ⟨w.heap.size, 0, none⟩) (enc c).length (enc c).length) ∧ w' = w.alloc (.cells ((enc c).map (Value.int .u8)).toArray 5) := by
  have t64 : c.tdiv 64 = c / 64 := Int.tdiv_eq_ediv_of_nonneg h0
  have t4096 : c.tdiv 4096 = c / 4096 := Int.tdiv_eq_ediv_of_nonneg h0
  have m64 : c.tmod 64 = c % 64 := Int.tmod_eq_emod_of_nonneg h0
  have mm : (c / 64).tmod 64 = c / 64 % 64 := Int.tmod_eq_emod_of_nonneg (by omega)
  by_cases g1 : c < 128
  · have b1 : decide (c < 128) = true := decide_eq_true g1
    have he : enc c = [c] := by simp [enc, g1]
    have e1 : IntKind.u8.wrap c = c := by rw [IntKind.wrap_u8]; omega
    rw [he]
    clear he g1
    go_enter Try.func89, Try.ntmps89
    go_wp2
    go_ret
    exact ⟨by simp [*], by simp [*]⟩
  · have b1 : decide (c < 128) = false := decide_eq_false g1
    by_cases g2 : c < 2048
    · have b2 : decide (c < 2048) = true := decide_eq_true g2
      have he : enc c = [192 + c / 64, 128 + c % 64] := by simp [enc, g1, g2]
      have e1 : IntKind.u8.wrap (192 + c / 64) = 192 + c / 64 := by rw [IntKind.wrap_u8]; omega
      have e2 : IntKind.u8.wrap (128 + c % 64) = 128 + c % 64 := by rw [IntKind.wrap_u8]; omega
      have e3 : IntKind.i64.wrap (192 + c / 64) = 192 + c / 64 := by rw [IntKind.wrap_i64]; omega
      have e4 : IntKind.i64.wrap (128 + c % 64) = 128 + c % 64 := by rw [IntKind.wrap_i64]; omega
      rw [he]
      clear he g1 g2
      go_enter Try.func89, Try.ntmps89
      go_wp2
      go_ret
      exact ⟨by simp [*], by simp [*]⟩
    · have b2 : decide (c < 2048) = false := decide_eq_false g2
      have he : enc c = [224 + c / 4096, 128 + c / 64 % 64, 128 + c % 64] := by simp [enc, g1, g2]
      have e1 : IntKind.u8.wrap (224 + c / 4096) = 224 + c / 4096 := by rw [IntKind.wrap_u8]; omega
      have e2 : IntKind.u8.wrap (128 + c / 64 % 64) = 128 + c / 64 % 64 := by rw [IntKind.wrap_u8]; omega
      have e3 : IntKind.u8.wrap (128 + c % 64) = 128 + c % 64 := by rw [IntKind.wrap_u8]; omega
      have e4 : IntKind.i64.wrap (224 + c / 4096) = 224 + c / 4096 := by rw [IntKind.wrap_i64]; omega
      have e5 : IntKind.i64.wrap (128 + c / 64 % 64) = 128 + c / 64 % 64 := by rw [IntKind.wrap_i64]; omega
      have e6 : IntKind.i64.wrap (128 + c % 64) = 128 + c % 64 := by rw [IntKind.wrap_i64]; omega
      rw [he]
      clear he g1 g2
      go_enter Try.func89, Try.ntmps89
      go_wp2
      go_ret
      exact ⟨by simp [*], by simp [*]⟩

theorem and63 (c : Int) (h0 : 0 ≤ c) (h1 : c ≤ 65535) : bits .and .i64 c 63 = c % 64 := by
  obtain ⟨a, rfl⟩ := Int.eq_ofNat_of_zero_le h0
  have ha : a < 65536 := by omega
  have h2 : (BitVec.ofInt 64 (a : Int)).toNat = a := by
    rw [BitVec.ofInt_natCast, BitVec.toNat_ofNat]; exact Nat.mod_eq_of_lt (by omega)
  have h3 : (BitVec.ofInt 64 (63 : Int)).toNat = 63 := by decide
  have h4 : a &&& 63 = a % 64 := Nat.and_two_pow_sub_one_eq_mod a 6
  show IntKind.i64.wrap ((BitVec.ofInt 64 (a : Int) &&& BitVec.ofInt 64 (63 : Int)).toNat : Int) = _
  rw [BitVec.toNat_and, h2, h3, h4, IntKind.wrap_i64]
  omega

set_option maxRecDepth 100000 in
theorem encoded_c (c : Int) (w : World) (h0 : 0 ≤ c) (h1 : c ≤ 65535) :
    Calls Try.prog 120 #[.int .i64 c] w fun e w' => e = .returned (.slice (some ⟨w.heap.size, 0, none⟩) (enc c).length (enc c).length) ∧ w' = w.alloc (.cells ((enc c).map (Value.int .u8)).toArray 5) := by
  by_cases g1 : c < 128
  · have b1 : decide (c < 128) = true := decide_eq_true g1
    have he : enc c = [c] := by simp [enc, g1]
    have e1 : IntKind.u8.wrap c = c := by rw [IntKind.wrap_u8]; omega
    rw [he]
    clear he g1
    go_enter Try.func120, Try.ntmps120
    go_wp2
    go_ret
    exact ⟨by simp [*], by simp [*]⟩
  · have b1 : decide (c < 128) = false := decide_eq_false g1
    by_cases g2 : c < 2048
    · have b2 : decide (c < 2048) = true := decide_eq_true g2
      have he : enc c = [192 + c / 64, 128 + c % 64] := by simp [enc, g1, g2]
      have e0 := and63 c h0 h1
      have e1 : IntKind.u8.wrap (192 + c / 64) = 192 + c / 64 := by rw [IntKind.wrap_u8]; omega
      have e2 : IntKind.u8.wrap (128 + c % 64) = 128 + c % 64 := by rw [IntKind.wrap_u8]; omega
      have e3 : IntKind.i64.wrap (192 + c / 64) = 192 + c / 64 := by rw [IntKind.wrap_i64]; omega
      have e4 : IntKind.i64.wrap (128 + c % 64) = 128 + c % 64 := by rw [IntKind.wrap_i64]; omega
      have e5 : wrap64 (128 + c % 64) % 256 = 128 + c % 64 := by unfold wrap64; omega
      rw [he]
      clear he g1 g2
      go_enter Try.func120, Try.ntmps120
      go_wp2
      go_ret
      exact ⟨by simp [*], by simp [*]⟩
    · have b2 : decide (c < 2048) = false := decide_eq_false g2
      have he : enc c = [224 + c / 4096, 128 + c / 64 % 64, 128 + c % 64] := by simp [enc, g1, g2]
      have e0 := and63 c h0 h1
      have e00 := and63 (c / 64) (by omega) (by omega)
      have e1 : IntKind.u8.wrap (224 + c / 4096) = 224 + c / 4096 := by rw [IntKind.wrap_u8]; omega
      have e2 : IntKind.u8.wrap (128 + c / 64 % 64) = 128 + c / 64 % 64 := by rw [IntKind.wrap_u8]; omega
      have e3 : IntKind.u8.wrap (128 + c % 64) = 128 + c % 64 := by rw [IntKind.wrap_u8]; omega
      have e4 : IntKind.i64.wrap (224 + c / 4096) = 224 + c / 4096 := by rw [IntKind.wrap_i64]; omega
      have e5 : IntKind.i64.wrap (128 + c / 64 % 64) = 128 + c / 64 % 64 := by rw [IntKind.wrap_i64]; omega
      have e6 : IntKind.i64.wrap (128 + c % 64) = 128 + c % 64 := by rw [IntKind.wrap_i64]; omega
      have e7 : wrap64 (128 + c % 64) % 256 = 128 + c % 64 := by unfold wrap64; omega
      have e8 : wrap64 (128 + c / 64 % 64) % 256 = 128 + c / 64 % 64 := by unfold wrap64; omega
      rw [he]
      clear he g1 g2
      go_enter Try.func120, Try.ntmps120
      go_wp2
      go_ret
      exact ⟨by simp [*], by simp [*]⟩
end Go.Proofs.Ytpfponhaofdbaaa.M
