import Derived.Test.YtpfponhaofdbaaaQ2
set_option linter.unusedVariables false
set_option linter.unusedSimpArgs false
namespace Go.Proofs.Ytpfponhaofdbaaa.M
open Go.RowKit Go.Proofs.YtpfponhaofdbaaaW.PrintWords

def keyRow : List Int := [0, 106, 107, 103, 71, 83, 104, 108, 47, 110, 78, 0, 109, 39, 70]
theorem keyRow_at (n : Nat) (h : n < 15) : keyRow.getD n 0 = keyP (n : Int) := by
  match n, h with
  | 0, _ => rfl
  | 1, _ => rfl
  | 2, _ => rfl
  | 3, _ => rfl
  | 4, _ => rfl
  | 5, _ => rfl
  | 6, _ => rfl
  | 7, _ => rfl
  | 8, _ => rfl
  | 9, _ => rfl
  | 10, _ => rfl
  | 11, _ => rfl
  | 12, _ => rfl
  | 13, _ => rfl
  | 14, _ => rfl

set_option maxRecDepth 100000 in
set_option maxHeartbeats 300000 in
theorem l12Key_c (k : Int) (w : World) (h0 : 0 ≤ k) (h1 : k ≤ 14) : Calls Try.prog 63 #[.int .i64 k] w fun e w' => e = .returned (.int .u8 (keyP k)) ∧ Below w.heap.size w w' := by
  obtain ⟨n, rfl⟩ := Int.eq_ofNat_of_zero_le h0
  have hn : n < 15 := by omega
  clear h0 h1
  have hi : (n : Int) < 15 := by omega
  go_enter Try.func63, Try.ntmps63
  go_wp2
  go_ret
  refine ⟨?_, below_alloc (Below.refl _ _) _⟩
  clear hi
  match n, hn with
  | 0, _ => rfl
  | 1, _ => rfl
  | 2, _ => rfl
  | 3, _ => rfl
  | 4, _ => rfl
  | 5, _ => rfl
  | 6, _ => rfl
  | 7, _ => rfl
  | 8, _ => rfl
  | 9, _ => rfl
  | 10, _ => rfl
  | 11, _ => rfl
  | 12, _ => rfl
  | 13, _ => rfl
  | 14, _ => rfl
end Go.Proofs.Ytpfponhaofdbaaa.M
