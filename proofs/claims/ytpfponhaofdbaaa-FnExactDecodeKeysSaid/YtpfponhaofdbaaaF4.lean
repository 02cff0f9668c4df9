import Derived.Test.YtpfponhaofdbaaaF2
set_option linter.unusedVariables false
set_option linter.unusedSimpArgs false
namespace Go.Proofs.Ytpfponhaofdbaaa.M
open Go.RowKit Go.Proofs.YtpfponhaofdbaaaW.PrintWords

/-! parts of a row of bytes -/
theorem fromU (A : Option Addr) (c : Nat) (d : List Int) (i : Nat) (w : World) (hr : Kd.C (Kd.int .u8) w A d.length d) (hi : i ≤ d.length) (hc : d.length ≤ c) :
    ∃ A', Kd.C (Kd.int .u8) w A' (d.drop i).length (d.drop i) ∧ (d.drop i).length ≤ c - i ∧ ∀ (k : IntKind) (W : World), (Instr.slice 36 (.slice A d.length c) (some (.int k (i : Int))) none none).run Try.prog W = .ok (.slice A' (d.drop i).length (c - i)) W := by
  obtain ⟨j, hj, hz0, hz1, hz2⟩ := info_parts info_u8'
  refine ⟨if c = i then A else A.map (·.add (i * 1)), Kd.C_drop hr hi hc, by rw [List.length_drop]; omega, fun k W => ?_⟩
  have := cut_from (P := Try.prog) 36 5 k Try.underlying36 hj 1 hz1 A d.length c (i : Int) (by omega) (by omega) W
  rw [Int.toNat_natCast] at this
  rw [List.length_drop]
  exact this
theorem toU (A : Option Addr) (c : Nat) (d : List Int) (i : Nat) (w : World) (hr : Kd.C (Kd.int .u8) w A d.length d) (hi : i ≤ d.length) (hc : d.length ≤ c) :
    Kd.C (Kd.int .u8) w A (d.take i).length (d.take i) ∧ (d.take i).length ≤ c ∧ ∀ (k : IntKind) (W : World), (Instr.slice 36 (.slice A d.length c) none (some (.int k (i : Int))) none).run Try.prog W = .ok (.slice A (d.take i).length c) W := by
  obtain ⟨j, hj, hz0, hz1, hz2⟩ := info_parts info_u8'
  have hl : (d.take i).length = i := by rw [List.length_take]; omega
  refine ⟨Kd.C_take hr hi, by omega, fun k W => ?_⟩
  have := cut_to (P := Try.prog) 36 5 k Try.underlying36 hj A d.length c (i : Int) (by omega) (by omega) hc W
  rw [Int.toNat_natCast] at this
  rw [hl]
  exact this
theorem midU (A : Option Addr) (c : Nat) (d : List Int) (i n : Nat) (w : World) (hr : Kd.C (Kd.int .u8) w A d.length d) (h1 : i ≤ n) (h2 : n ≤ d.length) (hc : d.length ≤ c) :
    ∃ A', Kd.C (Kd.int .u8) w A' ((d.take n).drop i).length ((d.take n).drop i) ∧ ((d.take n).drop i).length ≤ c - i ∧ ∀ (k k' : IntKind) (W : World), (Instr.slice 36 (.slice A d.length c) (some (.int k (i : Int))) (some (.int k' (n : Int))) none).run Try.prog W = .ok (.slice A' ((d.take n).drop i).length (c - i)) W := by
  obtain ⟨j, hj, hz0, hz1, hz2⟩ := info_parts info_u8'
  have hl : ((d.take n).drop i).length = n - i := by rw [List.length_drop, List.length_take]; omega
  refine ⟨if c = i then A else A.map (·.add (i * 1)), Kd.C_mid hr h1 h2 hc, by rw [hl]; omega, fun k k' W => ?_⟩
  have := cut_mid (P := Try.prog) 36 5 k k' Try.underlying36 hj 1 hz1 A d.length c (i : Int) (n : Int) (by omega) (by omega) (by omega) hc W
  rw [Int.toNat_natCast, Int.toNat_natCast] at this
  rw [hl]
  exact this
theorem strU (A : Option Addr) (n c : Nat) (d : List Int) (w : World) (hr : Kd.C (Kd.int .u8) w A n d) : (convert 36 9 (.slice A n c)).run Try.prog w = .ok (.string (strOfNums d)) w :=
  Kd.C_string Try.underlying36 Try.underlying5 Try.underlying9 hr
theorem strOf_inj {l m : List Int} (hl : ∀ z ∈ l, 0 ≤ z ∧ z ≤ 255) (hm : ∀ z ∈ m, 0 ≤ z ∧ z ≤ 255) : strOfNums l = strOfNums m ↔ l = m := by
  rw [strOf_eq hl]
  have := (strOf_eq (s := strOfNums m) hm).1 rfl
  rw [← this]
theorem enc_bd {c : Int} (h0 : 0 ≤ c) (h1 : c ≤ 65535) : ∀ z ∈ enc c, 0 ≤ z ∧ z ≤ 255 := by
  intro z hz
  unfold enc at hz
  split at hz
  · simp at hz; omega
  · split at hz
    · simp at hz; omega
    · simp at hz; omega
theorem and63u (b : Int) (h0 : 0 ≤ b) (h1 : b ≤ 255) : bits .and .u8 b 63 = b % 64 := by
  obtain ⟨a, rfl⟩ := Int.eq_ofNat_of_zero_le h0
  have ha : a < 256 := by omega
  have h2 : (BitVec.ofInt 8 (a : Int)).toNat = a := by
    rw [BitVec.ofInt_natCast, BitVec.toNat_ofNat]; exact Nat.mod_eq_of_lt (by omega)
  have h3 : (BitVec.ofInt 8 (63 : Int)).toNat = 63 := by decide
  have h4 : a &&& 63 = a % 64 := Nat.and_two_pow_sub_one_eq_mod a 6
  show IntKind.u8.wrap ((BitVec.ofInt 8 (a : Int) &&& BitVec.ofInt 8 (63 : Int)).toNat : Int) = _
  rw [BitVec.toNat_and, h2, h3, h4, IntKind.wrap_u8]
  omega
def p64 : Nat → Int
  | 0 => 1
  | k + 1 => 64 * p64 k
theorem dcFold_snoc (c : Int) (l : List Int) (x : Int) : dcFold c (l ++ [x]) = dcFold c l * 64 + x % 64 := by unfold dcFold; rw [List.foldl_append]; rfl
theorem take_snoc' (l : List Int) (k : Nat) (h : k < l.length) : l.take (k + 1) = l.take k ++ [l.getD k 0] := by
  rw [List.take_succ_eq_append_getElem h, List.getD_eq_getElem?_getD, List.getElem?_eq_getElem h]; rfl
theorem p64_small {m : Int} {k n : Nat} (h : m < 256 * p64 k) (hk : k < n) (hn : n ≤ 2) : m < 20000 := by
  rcases (show k = 0 ∨ k = 1 by omega) with rfl | rfl <;> simp [p64] at h <;> omega
def decR (mv : Nat) (tk : List Int) (v : Int) : Int × Int × Int := if isChar v = true ∧ enc v = tk then (0, v, (mv : Int)) else (5, 0, 0)
theorem decR_ok (mv : Nat) (tk : List Int) (v : Int) (h1 : isChar v = true) (h2 : enc v = tk) : decR mv tk v = (0, v, (mv : Int)) := if_pos ⟨h1, h2⟩
theorem decR_no (mv : Nat) (tk : List Int) (v : Int) (h : ¬ (isChar v = true ∧ enc v = tk)) : decR mv tk v = (5, 0, 0) := if_neg h
def decQ (fv : Int) (mv : Nat) (d : List Int) : Int × Int × Int := if d.length < mv then (5, 0, 0) else decR mv (d.take mv) (dcFold fv ((d.take mv).drop 1))
theorem decodeP_Q (d : List Int) : decodeP d = decQ (dcFirst (d.getD 0 0)).1 (dcFirst (d.getD 0 0)).2 d := rfl
end Go.Proofs.Ytpfponhaofdbaaa.M
