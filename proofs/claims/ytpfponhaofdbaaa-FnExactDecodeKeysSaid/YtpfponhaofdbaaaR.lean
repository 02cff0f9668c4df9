import Derived.Test.YtpfponhaofdbaaaK2
import Derived.Lib.Mul64
import Derived.Laws.Bits64b
import Derived.Laws.CopyOwn
import Derived.Deep.RegionLaw
import Derived.Shelf.Bits.Mul64
set_option linter.unusedVariables false
set_option linter.unusedSimpArgs false
namespace Go.Proofs.Ytpfponhaofdbaaa.M
open Go.RowKit Go.Proofs.YtpfponhaofdbaaaW.PrintWords

set_option maxHeartbeats 1000000 in
theorem mul64_c (x y : Nat) (hx : x < 18446744073709551616) (hy : y < 18446744073709551616) (w : World) :
    Calls Try.prog 155 #[.int .u64 x, .int .u64 y] w fun e w' => e = .returned (.tuple #[.int .u64 ((x * y / 18446744073709551616 : Nat) : Int), .int .u64 ((x * y % 18446744073709551616 : Nat) : Int)]) ∧ w = w' := by
  obtain ⟨bd, bt, bw, hhi⟩ := Lib.mul64_hi x y hx hy
  have ba := Lib.half_mul_le (a := x / 4294967296) (b := y / 4294967296) (by omega) (by omega)
  have bb := Lib.half_mul_le (a := x / 4294967296) (b := y % 4294967296) (by omega) (by omega)
  have bc := Lib.half_mul_le (a := x % 4294967296) (b := y / 4294967296) (by omega) (by omega)
  have ba' : x / 4294967296 * (y / 4294967296) < 18446744073709551616 := by omega
  have bb' : x / 4294967296 * (y % 4294967296) < 18446744073709551616 := by omega
  have bc' : x % 4294967296 * (y / 4294967296) < 18446744073709551616 := by omega
  have bh1 : x / 4294967296 * (y / 4294967296) + (x / 4294967296 * (y % 4294967296) + x % 4294967296 * (y % 4294967296) / 4294967296) / 4294967296 < 18446744073709551616 := by omega
  have bh : x / 4294967296 * (y / 4294967296) + (x / 4294967296 * (y % 4294967296) + x % 4294967296 * (y % 4294967296) / 4294967296) / 4294967296 + ((x / 4294967296 * (y % 4294967296) + x % 4294967296 * (y % 4294967296) / 4294967296) % 4294967296 + x % 4294967296 * (y / 4294967296)) / 4294967296 < 18446744073709551616 := by omega
  go_enter Try.func155, Try.ntmps155
  go_wp2
  simp only [Mul64.maskN x hx, Mul64.maskN y hy, Mul64.divN, Mul64.mulN, Mul64.addN, Mul64.wrapN _ bd, Mul64.wrapN _ bb', Mul64.wrapN _ bt, Mul64.maskN _ bt, Mul64.wrapN _ bc', Mul64.wrapN _ bw, Mul64.wrapN _ ba', Mul64.wrapN _ bh1, Mul64.wrapN _ bh, Mul64.wrapM (x * y)]
  rw [hhi]
  go_ret2
  exact ⟨rfl, rfl⟩

theorem mul_c (x y : Nat) (hx : x < 18446744073709551616) (hy : y < 18446744073709551616) (w : World) :
    Calls Try.prog 142 #[.int .u64 x, .int .u64 y] w fun e w' => e = .returned (.tuple #[.int .u64 ((x * y / 18446744073709551616 : Nat) : Int), .int .u64 ((x * y % 18446744073709551616 : Nat) : Int)]) ∧ w = w' := by
  go_enter Try.func142, Try.ntmps142
  go_wp2_with (go_at_call 155; refine Calls.mono (mul64_c x y hx hy _) ?_; rintro e w' ⟨rfl, rfl⟩)
  go_ret2
  exact ⟨rfl, rfl⟩

theorem mul1_c (n : Nat) (hn : n < 18446744073709551616) (w : World) :
    Calls Try.prog 142 #[.int .u64 1, .int .u64 n] w fun e w' => e = .returned (.tuple #[.int .u64 0, .int .u64 n]) ∧ w = w' := by
  have h := mul_c 1 n (by omega) hn w
  have e1 : 1 * n / 18446744073709551616 = 0 := by omega
  have e2 : 1 * n % 18446744073709551616 = n := by omega
  rw [e1, e2] at h
  exact h

def rowC (c : Int) (n k : Nat) : List Value := List.replicate k (Value.int .i64 c) ++ List.replicate (n - k) (.int .i64 0)
theorem rowC_len {c : Int} {n k : Nat} (h : k ≤ n) : (rowC c n k).length = n := by simp [rowC]; omega
theorem rowC_at {c : Int} {n k j : Nat} (h : j < k) : (rowC c n k)[j]? = some (.int .i64 c) := by
  unfold rowC
  rw [List.getElem?_append_left (by simpa using h), List.getElem?_replicate, if_pos h]
theorem rowC_splice {c : Int} {n k m : Nat} (h : k + m ≤ n) : splice (rowC c n k) k (List.replicate m (.int .i64 c)) = rowC c n (k + m) := by
  have e1 : (rowC c n k).take k = List.replicate k (.int .i64 c) := by unfold rowC; rw [List.take_append_of_le_length (by simp)]; exact List.take_of_length_le (by simp)
  have e2 : (rowC c n k).drop (k + m) = List.replicate (n - (k + m)) (.int .i64 0) := by
    unfold rowC
    rw [List.drop_append, List.drop_of_length_le (by simp), List.nil_append, List.length_replicate, List.drop_replicate]
    congr 1
    omega
  unfold splice
  rw [e1, List.length_replicate, e2, ← List.append_assoc, List.replicate_append_replicate]
  rfl
theorem rowC_zero {c : Int} {n : Nat} : (madeCells #[Value.int .i64 0] n) = (rowC c n 0).toArray := by
  rw [show n = (List.replicate n (Value.int .i64 0)).length by simp, made_upTo, upTo_zero]
  simp [rowC]
theorem rowC_all {c : Int} {n : Nat} : rowC c n n = (List.replicate n c).map (Value.int .i64) := by simp [rowC]

theorem run_fill (W : World) (g k m n : Nat) (c : Int) (ad : Addr) (dLen dCap sLen sCap : Nat) (hg : W.heap[g]? = some (.cells (rowC c n k).toArray 2 (0, 0))) (hm : m = Nat.min sLen dLen) (hfit : k + m ≤ n) (hsrc : ∀ j, j < m → W.cell? (ad.add j) = some (.int .i64 c)) :
    ∃ W', (Builtin.copy_ #[27, 27] 3 #[.slice (some ⟨g, k, none⟩) dLen dCap, .slice (some ad) sLen sCap]).run Try.prog W = .ok (.int .i64 (m : Int)) W' ∧ W'.heap[g]? = some (.cells (rowC c n (k + m)).toArray 2 (0, 0)) ∧ ∀ B w0, Below B w0 W → B ≤ g → Below B w0 W' := by
  have h := run_copy_row (P := Try.prog) W 27 27 3 2 g k dLen dCap ad sLen sCap (rowC c n k).toArray 2 (List.replicate m (.int .i64 c)) Try.underlying27 (by kernel_rfl) hg (by simpa using hm) (fun j v hj => by
    obtain ⟨h1, h2⟩ := List.getElem?_eq_some_iff.1 hj
    rw [List.length_replicate] at h1
    rw [List.getElem_replicate] at h2
    rw [← h2]
    exact hsrc j h1) (by rw [List.length_replicate, List.size_toArray, rowC_len (by omega)]; exact hfit) (fun v hv => by rw [List.eq_of_mem_replicate hv]; rfl)
  have e := rowC_splice (c := c) (n := n) (k := k) (m := m) hfit
  unfold splice at e
  rw [List.append_assoc, e, List.length_replicate] at h
  exact ⟨_, h, setRow_heap W g _ _ _ _ hg, fun B w0 hb hB => below_setRow hb hB _⟩

set_option maxRecDepth 100000 in
set_option maxHeartbeats 1000000 in
/-- slices.Repeat of one number. -/
theorem repeat1_c (s : Nat) (c : Int) (n : Nat) (w : World) (hs : w.cell? ⟨s, 0, none⟩ = some (.int .i64 c)) (hn : 1 ≤ n) (hb : n ≤ 4096) :
    Calls Try.prog 115 #[.slice (some ⟨s, 0, none⟩) 1 1, .int .i64 n] w fun e w' => ∃ A' c', e = .returned (.slice A' n c') ∧ n ≤ c' ∧ Kd.R (Kd.int .i64) 2 w' w.heap.size (fun _ => True) (.slice A' n c') (List.replicate n c) ∧ Below w.heap.size w w' := by
  have b1 : decide ((n : Int) < 0) = false := decide_eq_false (by omega)
  have e1 : IntKind.u64.wrap (n : Int) = n := Mul64.wrapN n (by omega)
  have e2 : IntKind.i64.wrap (n : Int) = n := by rw [IntKind.wrap_i64]; omega
  have b2 : decide ((n : Int) > 9223372036854775807) = false := decide_eq_false (by omega)
  have hlt := World.block_lt_of_cell? w _ hs
  have hmk : ∀ W : World, (Instr.makeSlice 27 (.int .i64 (n : Int)) (.int .i64 (n : Int))).run Try.prog W = .ok (.slice (some ⟨W.heap.size, 0, none⟩) n n) (W.alloc (.cells (rowC c n 0).toArray 2)) := fun W => by rw [← rowC_zero]; exact run_make_row' 27 2 (.int .i64 0) 8 Try.underlying27 (by kernel_rfl) rfl .i64 .i64 n (by omega) (by omega) W
  have hs1 : ∀ j, j < 1 → (w.alloc (.cells (rowC c n 0).toArray 2)).cell? ((⟨s, 0, none⟩ : Addr).add j) = some (.int .i64 c) := fun j hj => by
    obtain rfl : j = 0 := by omega
    exact (World.cell?_alloc_lt _ _ _ hlt).trans hs
  obtain ⟨w1, hcp, hg1, hb1⟩ := run_fill (w.alloc (.cells (rowC c n 0).toArray 2)) w.heap.size 0 1 n c ⟨s, 0, none⟩ n n 1 1 (blk_new _) (by show 1 = min 1 n; omega) (by omega) hs1
  rw [show ((1 : Nat) : Int) = 1 from rfl] at hcp
  have hB1 := hb1 w.heap.size w (below_alloc (Below.refl _ _) _) (Nat.le_refl _)
  have HG1 := Aside0.mk hg1
  have HB1 := Aside0.mk hB1
  clear hb1 hg1 hB1 hs
  go_enter Try.func115, Try.ntmps115
  go_wp2_with (go_at_call 142; refine Calls.mono (mul1_c n (by omega) _) ?_; rintro e w' ⟨rfl, rfl⟩)
  clear hcp hmk
  go_loopw [8] (fun i wr => ∃ k : Nat, 1 ≤ k ∧ k ≤ n ∧ i = .int .i64 k ∧ Aside0 (wr.heap[w.heap.size]? = some (.cells (rowC c n k).toArray 2 (0, 0))) ∧ Aside0 (Below w.heap.size w wr)) (fun i _ => n - (intOf i).toNat)
  case atStart => exact ⟨1, Nat.le_refl _, hn, rfl, HG1, HB1⟩
  case round =>
    obtain ⟨k, hk1, hk, rfl, HG, HB⟩ := hrel
    by_cases hlt : k < n
    · go_wp2
      obtain ⟨m, hm1, hm2⟩ : ∃ m, m = min k (n - k) ∧ k + m ≤ n := ⟨_, rfl, by omega⟩
      have em : IntKind.i64.wrap ((k : Int) + (m : Int)) = ((k + m : Nat) : Int) := by rw [IntKind.wrap_i64]; omega
      have hm3 : 1 ≤ m := by omega
      have hm4 : m ≤ k := by omega
      have HM := Aside0.mk hm1
      clear hm1
      have hnk : ¬ n = k := by omega
      go_region_law (refine step_copy_splice rfl (.tmp 41) (.tmp 44) 27 27 rfl 2 Try.underlying27 (by kernel_rfl) (some ⟨w.heap.size, k, none⟩) (some ⟨w.heap.size, 0, none⟩) (n - k) (n - k) k n (by simp [Act.eval, Act.put, hnk]) (by simp [Act.eval, Act.put]) w.heap.size k (rowC c n k) 2 (by repeat (with_reducible first | exact HG.out | refine blk_drewN ?_ _ | refine blk_drew ?_)) (List.replicate m (.int .i64 c)) (by rw [List.length_replicate]; exact HM.out) (fun _ => ⟨rfl, _, rfl, fun j v hj => by
        obtain ⟨h1, h2⟩ := List.getElem?_eq_some_iff.1 hj
        rw [List.length_replicate] at h1
        rw [List.getElem_replicate] at h2
        rw [← h2, add_plain]
        refine (cell_drew _ _).trans ((blk_cell HG.out j).trans ?_)
        rw [List.getElem?_toArray]
        exact rowC_at (by omega)⟩) (by rw [rowC_len (by omega), List.length_replicate]; exact hm2) (fun v hv => by rw [List.eq_of_mem_replicate hv]; rfl) w.heap.size w (by repeat (with_reducible first | exact HB.out | refine below_drew ?_ | refine pw_below_drewN ?_ _)) (Nat.le_refl _) ?_; intro w4 hg4 hb4)
      have hg5 : w4.heap[w.heap.size]? = some (.cells (splice (rowC c n k) k (List.replicate m (.int .i64 c))).toArray 2 (0, 0)) := hg4
      rw [rowC_splice hm2] at hg5
      have HG5 := Aside0.mk hg5
      have HB5 := Aside0.mk hb4
      clear hg4 hb4 hg5
      go_simp
      go_roundw
      case rel =>
        refine ⟨_, _, _, _, _, _, _, _, _, _, _, _, _, _, ⟨k + m, by omega, hm2, ?_, HG5, HB5⟩, rfl⟩
        rw [Int.natCast_add]
      case measure => simp [intOf]; omega
    · obtain rfl : k = n := by omega
      go_wp2
      go_ret
      exact ⟨_, _, rfl, Nat.le_refl _, by
        have h := HG.out
        rw [rowC_all] at h
        have h2 : Kd.R (Kd.int .i64) 2 wr w.heap.size (fun _ => True) (.slice (some ⟨w.heap.size, 0, none⟩) (List.replicate k c).length (List.replicate k c).length) (List.replicate k c) := R_at h (Nat.le_refl _) (by rw [List.length_replicate]; omega)
        rw [List.length_replicate] at h2
        exact h2, HB.out⟩
end Go.Proofs.Ytpfponhaofdbaaa.M
