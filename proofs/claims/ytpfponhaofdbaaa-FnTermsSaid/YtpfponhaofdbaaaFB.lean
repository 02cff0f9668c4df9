import Derived.Test.YtpfponhaofdbaaaFA
set_option linter.unusedVariables false
set_option linter.unusedSimpArgs false
namespace Go.Proofs.Ytpfponhaofdbaaa.M
open Go.RowKit Go.Proofs.YtpfponhaofdbaaaW.PrintWords

def feedTermP (wi ro y x : Int) (hi : Bool) (ch : List Int) (hs : List Bool) (da : List Int) : Int × Int × Int × Int × Int × Bool × List Int × List Bool :=
  if termFault wi ro y x ch hs = 0 then
    if 8000 < da.length then (2, 0, 0, 0, 0, false, [], [])
    else match feedAll da ⟨wi, ro, y, x, hi, ch, hs⟩ with
      | none => (5, 0, 0, 0, 0, false, [], [])
      | some t => (0, t.wi, t.ro, t.y, t.x, t.hi, t.ch, t.hs)
  else (termFault wi ro y x ch hs, 0, 0, 0, 0, false, [], [])
theorem TI_of_fault {wi ro y x : Int} {hi : Bool} {ch : List Int} {hs : List Bool} (h : termFault wi ro y x ch hs = 0) : TI ⟨wi, ro, y, x, hi, ch, hs⟩ := by
  obtain ⟨h1, h2, h3, h4, h5, h6, _⟩ := termFault_form h
  exact ⟨h1.1, h1.2, h2.1, h2.2, h3.1, h3.2, h4.1, h4.2, h5, h6⟩
theorem TI.len {s : TS} (h : TI s) : s.ch.length ≤ 520 ∧ s.hs.length ≤ 520 := by
  have h1 := h.at
  have h2 := h.lh
  omega
theorem feedTermP_len (wi ro y x : Int) (hi : Bool) (ch : List Int) (hs : List Bool) (da : List Int) : (feedTermP wi ro y x hi ch hs da).2.2.2.2.2.2.1.length ≤ 520 ∧ (feedTermP wi ro y x hi ch hs da).2.2.2.2.2.2.2.length ≤ 520 := by
  unfold feedTermP
  by_cases h : termFault wi ro y x ch hs = 0
  · rw [if_pos h]
    by_cases h2 : 8000 < da.length
    · rw [if_pos h2]; exact ⟨by simp, by simp⟩
    · rw [if_neg h2]
      cases hf : feedAll da ⟨wi, ro, y, x, hi, ch, hs⟩ with
      | none => exact ⟨by simp, by simp⟩
      | some t => exact (feedAll_inv _ da _ rfl (TI_of_fault h) t hf).len
  · rw [if_neg h]; exact ⟨by simp, by simp⟩

set_option maxRecDepth 100000 in
set_option maxHeartbeats 2000000 in
theorem l13Copy_c (wi ro y x : Int) (hi : Bool) (A : Option Addr) (c : Nat) (ch : List Int) (B : Option Addr) (d : Nat) (hs : List Bool) (w : World)
    (hr : Kd.C (Kd.int .i64) w A ch.length ch) (hr2 : Kd.C Kd.bool w B hs.length hs) (hm : ch.length * 8 ≤ 140737488355328) (hm2 : hs.length * 1 ≤ 140737488355328) :
    Calls Try.prog 102 #[.agg #[.int .i64 wi, .int .i64 ro, .int .i64 y, .int .i64 x, .bool hi, .slice A ch.length c, .slice B hs.length d]] w fun e w' => ∃ (A' : Option Addr) (c' : Nat) (B' : Option Addr) (d' : Nat), e = .returned (.agg #[.int .i64 wi, .int .i64 ro, .int .i64 y, .int .i64 x, .bool hi, .slice A' ch.length c', .slice B' hs.length d']) ∧ ch.length ≤ c' ∧ Kd.R (Kd.int .i64) 2 w' w.heap.size (fun _ => True) (.slice A' ch.length c') ch ∧ hs.length ≤ d' ∧ Kd.R Kd.bool 4 w' w.heap.size (fun _ => True) (.slice B' hs.length d') hs ∧ Below w.heap.size w w' := by
  have HR := Aside0.mk hr
  have HS := Aside0.mk hr2
  clear hr hr2
  obtain ⟨w2, hw2⟩ : ∃ w2, w2 = (w.alloc (.cells #[.int .i64 wi, .int .i64 ro, .int .i64 y, .int .i64 x, .bool hi, .slice A ch.length c, .slice B hs.length d] 47)).alloc (.cells #[.int .i64 0, .int .i64 0, .int .i64 0, .int .i64 0, .bool false, .slice none 0 0, .slice none 0 0] 47) := ⟨_, rfl⟩
  have s2 : w2.heap.size = w.heap.size + 1 + 1 := by rw [hw2]; simp only [size_alloc]
  have HB2 := Aside0.mk (show Below w.heap.size w w2 by rw [hw2]; exact below_alloc (below_alloc (Below.refl _ _) _) _)
  have BX := Aside0.mk (show w2.heap[w.heap.size]? = some (.cells #[.int .i64 wi, .int .i64 ro, .int .i64 y, .int .i64 x, .bool hi, .slice A ch.length c, .slice B hs.length d] 47 (0, 0)) by rw [hw2]; exact blk_alloc (blk_new _) _)
  have BZ := Aside0.mk (show w2.heap[w.heap.size + 1]? = some (.cells #[.int .i64 0, .int .i64 0, .int .i64 0, .int .i64 0, .bool false, .slice none 0 0, .slice none 0 0] 47 (0, 0)) by rw [hw2]; exact blk_new' _ (by rw [size_alloc]))
  have HW2 := Aside0.mk hw2
  have S2 := Aside0.mk s2
  clear hw2 s2
  go_enter Try.func102, Try.ntmps102
  go_wp2_with (first
    | (at_builtin; refine Kd.R_append_row (w0 := w2) (Value.int .i64) 0 (w.heap.size + 1 + 1) rfl (.tmp 3) (.tmp 5) 27 2 (.int .i64 0) 8 rfl Try.underlying27 (by kernel_rfl) rfl (by omega) (.slice (some ⟨w.heap.size + 1 + 1, 0, none⟩) 0 0) [] ch A ch.length c (fun _ => True) rfl rfl (fun _ _ => trivial) (R_at (l := []) (blk_new' _ (by simp only [size_alloc])) (Nat.le_refl _) (by simp)) (Kd.C_alloc (Kd.C_alloc (Kd.C_alloc HR.out _) _) _) (by rw [HW2.out]; exact (Below.refl _ _).alloc (by simp only [size_alloc]; omega) _) (by simp only [size_alloc]; omega) (by simpa using hm) ?_; intro v1 w1 hR hB hg hat; rw [List.nil_append] at hR; obtain ⟨A', c', rfl, hc', _⟩ := Kd.R_reads hR; have hB' : Below w2.heap.size w2 w1 := (by rw [S2.out]; exact hB); have HR1 := Aside0.mk hR; have HC1 := Aside0.mk hc'; have HW1 := Aside0.mk (below_end HB2.out hB'); have NX := blk_below BX.out hB'; have NZ1 := Aside0.mk (blk_below BZ.out hB'); have rx1 := blk_cell NX; have fx1 := blk_free NX; have NX1 := Aside0.mk NX; have sz1 := hB'.size; rw [S2.out] at sz1; have l1 : w.heap.size < w1.heap.size := (by omega); have l1b : w.heap.size + 1 < w1.heap.size := (by omega); clear hR hB hB' hg hat hc' NX)
    | (at_builtin; refine Kd.R_append_row (w0 := w1.setCell ⟨w.heap.size, 5, none⟩ (.slice A' ch.length c')) Value.bool false w1.heap.size rfl (.tmp 8) (.tmp 10) 28 4 (.bool false) 1 rfl Try.underlying28 (by kernel_rfl) rfl (by omega) (.slice (some ⟨w1.heap.size, 0, none⟩) 0 0) [] hs B hs.length d (fun _ => True) rfl rfl (fun _ _ => trivial) (R_at (l := []) (blk_new' _ (by simp only [size_setCell])) (Nat.le_refl _) (by simp)) (Kd.C_alloc (Kd.C_below HS.out (HW1.out.setCell (Nat.le_refl _) _)) _) ((Below.refl _ _).alloc (by simp only [size_setCell]; omega) _) (by simp only [size_alloc, size_setCell]; omega) (by simpa using hm2) ?_; intro v2 w3 hR hB hg hat; rw [List.nil_append] at hR; obtain ⟨B', d', rfl, hd', _⟩ := Kd.R_reads hR; have hB' : Below (w1.setCell ⟨w.heap.size, 5, none⟩ (.slice A' ch.length c')).heap.size (w1.setCell ⟨w.heap.size, 5, none⟩ (.slice A' ch.length c')) w3 := (by rw [size_setCell]; exact hB); have HR2 := Aside0.mk hR; have HC2 := Aside0.mk hd'; have HB3 := Aside0.mk hB'; have NX := blk_below (blk_set (cs' := #[.int .i64 wi, .int .i64 ro, .int .i64 y, .int .i64 x, .bool hi, .slice A' ch.length c', .slice B hs.length d]) NX1.out rfl) hB'; have NZ := blk_below (blk_setO NZ1.out (by omega)) hB'; have rx3 := blk_cell NX; have fx3 := blk_free NX; have rz3 := blk_cell NZ; have fz3 := blk_free NZ; have NX3 := Aside0.mk NX; have sz3 := hB'.size; simp only [size_setCell] at sz3; have l3 : w.heap.size < w3.heap.size := (by omega); have l3b : w.heap.size + 1 < w3.heap.size := (by omega); clear hR hB hB' hg hat hd' NX NZ rx1 fx1))
  refine bodyPost_ret (v := .agg #[.int .i64 wi, .int .i64 ro, .int .i64 y, .int .i64 x, .bool hi, .slice A' ch.length c', .slice B' hs.length d']) (by simp [results, Try.results102, go_sem, *]) rfl ⟨A', c', B', d', rfl, HC1.out, ?_, HC2.out, ?_, ?_⟩
  · refine R_lowI (base := w.heap.size + 1 + 1) _ ?_ (by omega)
    (repeat (with_reducible first | refine R_setI ?_ (by omega) | refine Kd.R_below ?_ HB3.out))
    exact HR1.out
  · refine R_lowB (base := w1.heap.size) _ ?_ (by omega)
    (repeat (with_reducible first | refine R_setB ?_ (by omega)))
    exact HR2.out
  · repeat (with_reducible first | exact HW1.out | refine Below.setCell ?_ (by dsimp only; omega) _ | refine below_end ?_ HB3.out)
end Go.Proofs.Ytpfponhaofdbaaa.M
