import Derived.Test.YtpfponhaofdbaaaR
import Derived.Test.YtpfponhaofdbaaaS1
set_option linter.unusedVariables false
set_option linter.unusedSimpArgs false
namespace Go.Proofs.Ytpfponhaofdbaaa.M
open Go.RowKit Go.Proofs.YtpfponhaofdbaaaW.PrintWords

theorem blk_free {W : World} {b : Nat} {cs : Array Value} {t : TypeId} (h : W.heap[b]? = some (.cells cs t (0, 0))) : ∀ i, W.frozen? ⟨b, i, none⟩ = false := fun i => by simp [World.frozen?, h]
theorem blk_setO {W : World} {b p i : Nat} {o : Obj} {v : Value} (h : W.heap[b]? = some o) (hne : b ≠ p) : (W.setCell ⟨p, i, none⟩ v).heap[b]? = some o := (Below.heap_setCell _ _ _ _ hne).trans h
theorem info_i64 : (Try.prog.info? 2).map (fun i => (i.zero, i.size, i.bytes)) = some (some (.int .i64 0), 1, 8) := by kernel_rfl
theorem made_false (n : Nat) : madeCells #[Value.bool false] n = ((List.replicate n false).map Value.bool).toArray := by
  rw [show n = (List.replicate n (Value.bool false)).length by simp, made_upTo, upTo_zero]
  simp

set_option maxRecDepth 100000 in
set_option maxHeartbeats 1000000 in
theorem l13New_c (rows width : Int) (n : Nat) (w : World) (hn : rows * width = n) (hb : n ≤ 520) :
    Calls Try.prog 82 #[.int .i64 rows, .int .i64 width] w fun e w' => ∃ (A' : Option Addr) (c' : Nat) (B' : Option Addr) (d' : Nat), e = .returned (.agg #[.int .i64 width, .int .i64 rows, .int .i64 0, .int .i64 0, .bool false, .slice A' n c', .slice B' n d']) ∧ n ≤ c' ∧ Kd.R (Kd.int .i64) 2 w' w.heap.size (fun _ => True) (.slice A' n c') (List.replicate n 32) ∧ n ≤ d' ∧ Kd.R Kd.bool 4 w' w.heap.size (fun _ => True) (.slice B' n d') (List.replicate n false) ∧ Below w.heap.size w w' := by
  have e1 : IntKind.i64.wrap (rows * width) = n := by rw [IntKind.wrap_i64]; omega
  have hmk : ∀ W : World, (Instr.makeSlice 28 (.int .i64 (n : Int)) (.int .i64 (n : Int))).run Try.prog W = .ok (.slice (some ⟨W.heap.size, 0, none⟩) n n) (W.alloc (.cells (madeCells #[.bool false] n) 4)) := fun W => run_make_row' 28 4 (.bool false) 1 Try.underlying28 (by kernel_rfl) rfl .i64 .i64 n (by omega) (by omega) W
  have HN := Aside0.mk hn
  clear hn
  go_enter Try.func82, Try.ntmps82
  go_wp2
  clear hmk
  go_loopw [6] (fun i wr => ∃ (k : Nat) (v : Value), k ≤ n ∧ i = .int .i64 k ∧ Aside0 (wr.heap[w.heap.size + 1 + 1]? = some (.cells #[.int .i64 width, .int .i64 rows, .int .i64 0, .int .i64 0, .bool false, v, .slice (some ⟨w.heap.size + 1, 0, none⟩) n n] 47 (0, 0))) ∧ Aside0 (wr.heap[w.heap.size + 1]? = some (.cells (madeCells #[.bool false] n) 4 (0, 0))) ∧ Aside0 (Kd.R (Kd.int .i64) 2 wr (w.heap.size + 1 + 1 + 1) (fun _ => True) v (List.replicate k 32)) ∧ Aside0 (Below (w.heap.size + 1) (w.alloc (.cells #[.int .i64 0, .int .i64 0, .int .i64 0, .int .i64 0, .bool false, .slice none 0 0, .slice none 0 0] 47)) wr) ∧ Aside0 (w.heap.size + 1 + 1 + 1 ≤ wr.heap.size)) (fun i _ => n - (intOf i).toNat)
  case atStart =>
    refine ⟨0, .slice none 0 0, Nat.zero_le _, rfl, ⟨?_⟩, ⟨?_⟩, ⟨Kd.R_nil _ _ _ _ _⟩, ⟨?_⟩, ⟨by simp only [size_alloc]; omega⟩⟩
    · repeat (with_reducible first | exact blk_new _ | refine blk_new' _ (by simp only [size_alloc]) | refine blk_alloc ?_ _)
    · repeat (with_reducible first | exact blk_new _ | refine blk_new' _ (by simp only [size_alloc]) | refine blk_alloc ?_ _)
    · exact ((Below.refl _ _).alloc (by simp only [size_alloc]; omega) _).alloc (by simp only [size_alloc]; omega) _
  case round =>
    obtain ⟨k, v, hk, rfl, BX, BH, HR, HB, HZ⟩ := hrel
    have hz := HZ.out
    by_cases hlt : k < n
    · have c5 : wr.cell? ⟨w.heap.size + 1 + 1, 5, none⟩ = some v := blk_cell BX.out 5
      have BB := Aside0.mk ((((Below.refl (w.heap.size + 1 + 1 + 1) wr).alloc hz (.cells #[.int .i64 32] 2))))
      go_wp2_with (at_builtin; refine Kd.R_append (Kd.int .i64) (w0 := wr) (w.heap.size + 1 + 1 + 1) rfl (.tmp 22) (.tmp 23) 27 2 (.int .i64 0) 8 rfl Try.underlying27 info_i64 rfl (by decide) (by omega) v (List.replicate k 32) 32 [.int .i64 32] (fun _ => True) (fun _ => False) rfl rfl rfl (fun _ hk => hk.elim) (fun _ _ => trivial) HR.out (Below.refl _ _) hz (by rw [List.length_replicate]; omega) ?_; intro v1 w1 hR hB hg hat; rw [← List.replicate_succ'] at hR; obtain ⟨A1, c1, ev1, hc1, _⟩ := Kd.R_reads hR; rw [List.length_replicate] at ev1; subst ev1; clear hc1; have HR1 := Aside0.mk hR; have HB1 := Aside0.mk hB; have hsz := hB.size; have BX1 : w1.heap[w.heap.size + 1 + 1]? = _ := (hB.block _ (by omega)).trans BX.out; have c51 := blk_cell BX1 5; have f51 := blk_free BX1 5; have hs51 := blk_lt BX1; have HX1 := Aside0.mk BX1; clear hR hB hg hat BX1)
      go_roundw
      case rel =>
        refine ⟨k + 1, _, by omega, by go_num, ⟨blk_set HX1.out rfl⟩, ⟨?_⟩, ⟨R_setI HR1.out (Nat.lt_succ_self _)⟩, ⟨?_⟩, ⟨?_⟩⟩
        · rw [Below.heap_setCell _ _ _ _ (by dsimp only; omega)]
          exact (HB1.out.block _ (by omega)).trans BH.out
        · exact (HB.out.trans (HB1.out.mono (by omega))).setCell (by dsimp only; omega) _
        · rw [size_setCell]; have := HB1.out.size; omega
      case measure => simp [intOf]; omega
    · obtain rfl : k = n := by omega
      obtain ⟨A1, c1, ev1, hc1, _⟩ := Kd.R_reads HR.out
      rw [List.length_replicate] at ev1 hc1
      subst ev1
      have HC1 := Aside0.mk hc1
      clear hc1
      have hx := blk_cell BX.out
      have hres := HB.out.block w.heap.size (by omega)
      have HRES := Aside0.mk (hres.trans (blk_new _))
      clear hres
      have hy := blk_cell HRES.out
      have hfy := blk_free HRES.out
      have hly : w.heap.size < wr.heap.size := by omega
      go_wp2
      refine bodyPost_ret (v := .agg #[.int .i64 width, .int .i64 rows, .int .i64 0, .int .i64 0, .bool false, .slice A1 k c1, .slice (some ⟨w.heap.size + 1, 0, none⟩) k k]) (by simp [results, Try.results82, go_sem, hy]) rfl ⟨A1, c1, _, k, rfl, HC1.out, ?_, Nat.le_refl _, ?_, ?_⟩
      · refine R_lowI (base := w.heap.size + 1 + 1 + 1) _ ?_ (by omega)
        repeat (with_reducible first | exact HR.out | refine R_setI ?_ (by omega))
      · refine R_lowB (base := w.heap.size + 1) _ ?_ (by omega)
        have h := BH.out
        rw [made_false] at h
        have h2 : Kd.R Kd.bool 4 wr (w.heap.size + 1) (fun _ => True) (.slice (some ⟨w.heap.size + 1, 0, none⟩) (List.replicate k false).length (List.replicate k false).length) (List.replicate k false) := R_at h (Nat.le_refl _) (by rw [List.length_replicate]; omega)
        rw [List.length_replicate] at h2
        repeat (with_reducible first | exact h2 | refine R_setB ?_ (Nat.lt_succ_self _))
      · repeat (with_reducible refine Below.setCell ?_ (Nat.le_refl w.heap.size) _)
        exact (below_alloc (Below.refl _ _) _).trans (HB.out.mono (by omega))

set_option maxRecDepth 100000 in
set_option maxHeartbeats 1000000 in
theorem newTerm_c (rows width : Int) (n : Nat) (w : World) (hn : rows * width = n) (h1 : 1 ≤ n) (hb : n ≤ 520) :
    Calls Try.prog 83 #[.int .i64 rows, .int .i64 width] w fun e w' => ∃ (A' : Option Addr) (c' : Nat) (B' : Option Addr) (d' : Nat), e = .returned (.agg #[.int .i64 width, .int .i64 rows, .int .i64 0, .int .i64 0, .bool false, .slice A' n c', .slice B' n d']) ∧ n ≤ c' ∧ Kd.R (Kd.int .i64) 2 w' w.heap.size (fun _ => True) (.slice A' n c') (List.replicate n 32) ∧ n ≤ d' ∧ Kd.R Kd.bool 4 w' w.heap.size (fun _ => True) (.slice B' n d') (List.replicate n false) ∧ Below w.heap.size w w' := by
  have e1 : IntKind.i64.wrap (rows * width) = n := by rw [IntKind.wrap_i64]; omega
  have hmk : ∀ W : World, (Instr.makeSlice 28 (.int .i64 (n : Int)) (.int .i64 (n : Int))).run Try.prog W = .ok (.slice (some ⟨W.heap.size, 0, none⟩) n n) (W.alloc (.cells (madeCells #[.bool false] n) 4)) := fun W => run_make_row' 28 4 (.bool false) 1 Try.underlying28 (by kernel_rfl) rfl .i64 .i64 n (by omega) (by omega) W
  have HN := Aside0.mk hn
  clear hn
  go_enter Try.func83, Try.ntmps83
  go_wp2_with fail
  go_region_held3 (fun W : World => True) (trivial)
    ((go_at_call 115; refine Calls.mono (repeat1_c _ 32 n _ (blk_cell (t := 2) (cs := #[.int .i64 32]) (fr := (0, 0)) (by repeat (with_reducible first | exact blk_new _ | refine blk_new' _ (by simp only [size_alloc, size_drew, size_drewN]) | refine blk_drewN ?_ _ | refine blk_drew ?_ | refine blk_alloc ?_ _)) 0) h1 (by omega)) ?_; rintro e w1 ⟨A', c', rfl, hc', hR1, hb1⟩; have HB1 := Aside0.mk hb1; have sz1 := hb1.size; (try simp only [size_alloc, size_drew, size_drewN] at sz1); have HR1 := Aside0.mk hR1; have HC1 := Aside0.mk hc'; obtain ⟨hx1, hf1⟩ := bcell hb1; have l1 : w.heap.size < w1.heap.size := (by omega); clear hb1 hR1 hc'))
  all_goals
    go_wp2
    have NBr : w1.heap[w.heap.size]? = some (.cells #[.int .i64 0, .int .i64 0, .int .i64 0, .int .i64 0, .bool false, .slice none 0 0, .slice none 0 0] 47 (0, 0)) := by repeat (with_reducible first | exact blk_new _ | refine blk_new' _ (by simp only [size_alloc, size_drew, size_drewN]; done) | refine blk_drewN ?_ _ | refine blk_drew ?_ | refine blk_alloc ?_ _ | refine blk_below ?_ HB1.out)
    have hy := blk_cell NBr
    clear hx1
    first
      | (refine bodyPost_ret (v := .agg #[.int .i64 width, .int .i64 rows, .int .i64 0, .int .i64 0, .bool false, .slice A' n c', .slice (some ⟨w1.heap.size, 0, none⟩) n n]) ?hs rfl ⟨A', c', some ⟨w1.heap.size, 0, none⟩, n, rfl, HC1.out, ?_, Nat.le_refl _, ?_, ?_⟩; (case hs => simp [results, Try.results83, go_sem, hy, World.cell?_alloc_lt, size_setCell, l1]; done))
      | (refine bodyPost_ret (v := .agg #[.int .i64 width, .int .i64 rows, .int .i64 0, .int .i64 0, .bool false, .slice A' n c', .slice (some ⟨w.heap.size + 1 + 1, 0, none⟩) n n]) ?hs rfl ⟨A', c', some ⟨w.heap.size + 1 + 1, 0, none⟩, n, rfl, HC1.out, ?_, Nat.le_refl _, ?_, ?_⟩; (case hs => simp [results, Try.results83, go_sem, hy, World.cell?_alloc_lt, size_setCell, l1]; done))
      | (refine bodyPost_ret (v := .agg #[.int .i64 width, .int .i64 rows, .int .i64 0, .int .i64 0, .bool false, .slice A' n c', .slice (some ⟨w.heap.size + 1, 0, none⟩) n n]) ?hs rfl ⟨A', c', some ⟨w.heap.size + 1, 0, none⟩, n, rfl, HC1.out, ?_, Nat.le_refl _, ?_, ?_⟩; (case hs => simp [results, Try.results83, go_sem, hy, World.cell?_alloc_lt, size_setCell, l1]; done))
    · refine R_lowI (base := w.heap.size + 1) _ ?_ (by omega)
      have h := HR1.out
      simp only [size_alloc, size_drew, size_drewN] at h
      have h5 : Kd.R (Kd.int .i64) 2 w1 (w.heap.size + 1) (fun _ => True) (.slice A' n c') (List.replicate n 32) := R_lowI _ h (by omega)
      repeat (with_reducible first | exact h5 | refine R_setI ?_ (Nat.lt_succ_self _) | refine Kd.R_alloc ?_ _ | refine Kd.R_drew ?_)
    · have h2 := fun (W : World) (g : Nat) (hg : w.heap.size ≤ g) (h : W.heap[g]? = some (.cells (madeCells #[.bool false] n) 4 (0, 0))) => (show Kd.R Kd.bool 4 W w.heap.size (fun _ => True) (.slice (some ⟨g, 0, none⟩) n n) (List.replicate n false) from by
        rw [made_false] at h
        have h3 : Kd.R Kd.bool 4 W w.heap.size (fun _ => True) (.slice (some ⟨g, 0, none⟩) (List.replicate n false).length (List.replicate n false).length) (List.replicate n false) := R_at h hg (by rw [List.length_replicate]; omega)
        rw [List.length_replicate] at h3
        exact h3)
      refine h2 _ _ (by omega) ?_
      repeat (with_reducible first | exact blk_new _ | refine blk_new' _ (by simp only [size_alloc, size_drew, size_drewN, size_setCell]; done) | refine blk_drewN ?_ _ | refine blk_drew ?_ | refine blk_alloc ?_ _ | refine blk_setO ?_ (by omega) | refine blk_below ?_ HB1.out)
    · have hBB := HB1.out
      repeat (with_reducible first | exact Below.refl _ _ | refine below_alloc ?_ _ | refine below_drew ?_ | refine Below.setCell ?_ (Nat.le_refl w.heap.size) _ | refine below_end ?_ hBB)

def newTermP (rows width : Int) : Int × Int × Int × Int × Int × Bool × List Int × List Bool :=
  if within width 4 40 && within rows 1 13 then (0, width, rows, 0, 0, false, List.replicate (rows * width).toNat 32, List.replicate (rows * width).toNat false) else (3, 0, 0, 0, 0, false, [], [])
theorem newTermP_len (rows width : Int) : (newTermP rows width).2.2.2.2.2.2.1.length ≤ 520 ∧ (newTermP rows width).2.2.2.2.2.2.2.length ≤ 520 := by
  unfold newTermP
  cases h1 : within width 4 40
  · exact ⟨by simp, by simp⟩
  cases h2 : within rows 1 13
  · exact ⟨by simp, by simp⟩
  have b1 := within_bd h1
  have b2 := within_bd h2
  have hm : 0 ≤ rows * width ∧ rows * width ≤ 13 * 40 := ⟨Int.mul_nonneg (by omega) (by omega), Int.mul_le_mul (by omega) (by omega) (by omega) (by omega)⟩
  simp
  omega

set_option maxRecDepth 100000 in
set_option maxHeartbeats 1000000 in
theorem specNewTerm_c (rows width : Int) (w : World) :
    Calls Try.prog 32 #[.int .i64 rows, .int .i64 width] w fun e w' => ∃ (A' : Option Addr) (c' : Nat) (B' : Option Addr) (d' : Nat), e = .returned (.agg #[.int .i64 (newTermP rows width).1, .int .i64 (newTermP rows width).2.1, .int .i64 (newTermP rows width).2.2.1, .int .i64 (newTermP rows width).2.2.2.1, .int .i64 (newTermP rows width).2.2.2.2.1, .bool (newTermP rows width).2.2.2.2.2.1, .slice A' (newTermP rows width).2.2.2.2.2.2.1.length c', .slice B' (newTermP rows width).2.2.2.2.2.2.2.length d']) ∧ (newTermP rows width).2.2.2.2.2.2.1.length ≤ c' ∧ Kd.R (Kd.int .i64) 2 w' w.heap.size (fun _ => True) (.slice A' (newTermP rows width).2.2.2.2.2.2.1.length c') (newTermP rows width).2.2.2.2.2.2.1 ∧ (newTermP rows width).2.2.2.2.2.2.2.length ≤ d' ∧ Kd.R Kd.bool 4 w' w.heap.size (fun _ => True) (.slice B' (newTermP rows width).2.2.2.2.2.2.2.length d') (newTermP rows width).2.2.2.2.2.2.2 ∧ Below w.heap.size w w' := by
  cases h1 : within width 4 40
  · have HQ := Aside0.mk (show newTermP rows width = (3, 0, 0, 0, 0, false, [], []) by simp [newTermP, h1])
    cases h2 : within rows 1 13
    all_goals
      have H1 := Aside0.mk h1
      have H2 := Aside0.mk h2
      clear h1 h2
      go_enter Try.func32, Try.ntmps32
      go_wp2_with (go_at_call 62; refine Calls.mono (l1In_c _ _ _ _) ?_; rintro e w' ⟨rfl, rfl⟩; first | rw [H1.out] | rw [H2.out])
      refine bodyPost_ret (v := .agg #[.int .i64 3, .int .i64 0, .int .i64 0, .int .i64 0, .int .i64 0, .bool false, .slice none 0 0, .slice none 0 0]) (by simp [results, Try.results32, go_sem]) rfl ⟨none, 0, none, 0, ?_, ?_, ?_, ?_, ?_, (by repeat (with_reducible first | exact Below.refl _ _ | refine below_alloc ?_ _ | refine below_drew ?_ | refine pw_below_drewN ?_ _ | refine Below.setCell ?_ (by dsimp only; omega) _ ))⟩
      · rw [HQ.out]; rfl
      · rw [HQ.out]; exact Nat.le_refl _
      · rw [HQ.out]; exact Kd.R_nil _ _ _ _ _
      · rw [HQ.out]; exact Nat.le_refl _
      · rw [HQ.out]; exact Kd.R_nil _ _ _ _ _
  cases h2 : within rows 1 13
  · have HQ := Aside0.mk (show newTermP rows width = (3, 0, 0, 0, 0, false, [], []) by simp [newTermP, h1, h2])
    have H1 := Aside0.mk h1
    have H2 := Aside0.mk h2
    clear h1 h2
    go_enter Try.func32, Try.ntmps32
    go_wp2_with (go_at_call 62; refine Calls.mono (l1In_c _ _ _ _) ?_; rintro e w' ⟨rfl, rfl⟩; first | rw [H1.out] | rw [H2.out])
    refine bodyPost_ret (v := .agg #[.int .i64 3, .int .i64 0, .int .i64 0, .int .i64 0, .int .i64 0, .bool false, .slice none 0 0, .slice none 0 0]) (by simp [results, Try.results32, go_sem]) rfl ⟨none, 0, none, 0, ?_, ?_, ?_, ?_, ?_, (by repeat (with_reducible first | exact Below.refl _ _ | refine below_alloc ?_ _ | refine below_drew ?_ | refine pw_below_drewN ?_ _ | refine Below.setCell ?_ (by dsimp only; omega) _ ))⟩
    · rw [HQ.out]; rfl
    · rw [HQ.out]; exact Nat.le_refl _
    · rw [HQ.out]; exact Kd.R_nil _ _ _ _ _
    · rw [HQ.out]; exact Nat.le_refl _
    · rw [HQ.out]; exact Kd.R_nil _ _ _ _ _
  · have b1 := within_bd h1
    have b2 := within_bd h2
    obtain ⟨n, hn⟩ := Int.eq_ofNat_of_zero_le (show 0 ≤ rows * width from Int.mul_nonneg (by omega) (by omega))
    have hm : rows * width ≤ 13 * 40 := Int.mul_le_mul (by omega) (by omega) (by omega) (by omega)
    have hm2 : 1 * 4 ≤ rows * width := Int.mul_le_mul (by omega) (by omega) (by omega) (by omega)
    have hb : n ≤ 520 := by omega
    have hp : 1 ≤ n := by omega
    have HQ := Aside0.mk (show newTermP rows width = (0, width, rows, 0, 0, false, List.replicate n 32, List.replicate n false) by simp [newTermP, h1, h2, hn])
    have HN := Aside0.mk hn
    have H1 := Aside0.mk h1
    have H2 := Aside0.mk h2
    clear h1 h2 hn hm hm2 b1 b2
    go_enter Try.func32, Try.ntmps32
    go_wp2_with (first
      | (go_at_call 62; refine Calls.mono (l1In_c _ _ _ _) ?_; rintro e w' ⟨rfl, rfl⟩; first | rw [H1.out] | rw [H2.out])
      | (go_at_call 82; refine Calls.mono (l13New_c rows width n _ HN.out hb) ?_; rintro e w1 ⟨A', c', B', d', rfl, hc', hR1, hd', hR2, hb1⟩; have HB1 := Aside0.mk hb1; have sz1 := hb1.size; (try simp only [size_alloc, size_drew, size_drewN] at sz1 hR1 hR2); have HR1 := Aside0.mk hR1; have HR2 := Aside0.mk hR2; have HC1 := Aside0.mk hc'; have HC2 := Aside0.mk hd'; obtain ⟨hx1, hf1⟩ := bcell hb1; have l1 : w.heap.size < w1.heap.size := (by omega); clear hb1 hR1 hR2 hc' hd'))
    refine bodyPost_ret (v := .agg #[.int .i64 0, .int .i64 width, .int .i64 rows, .int .i64 0, .int .i64 0, .bool false, .slice A' n c', .slice B' n d']) (by simp [results, Try.results32, go_sem, hx1, l1]) rfl ⟨A', c', B', d', ?_, ?_, ?_, ?_, ?_, (by repeat (with_reducible first | exact Below.refl _ _ | refine below_alloc ?_ _ | refine below_drew ?_ | refine pw_below_drewN ?_ _ | refine Below.setCell ?_ (by dsimp only; omega) _ | refine below_end ?_ HB1.out ))⟩
    · rw [HQ.out]; simp only [List.length_replicate]
    · rw [HQ.out]; simpa only [List.length_replicate] using HC1.out
    · rw [HQ.out]
      simp only [List.length_replicate]
      refine R_lowI (base := w.heap.size + 1) _ ?_ (by omega)
      repeat (with_reducible first | exact HR1.out | refine R_setI ?_ (Nat.lt_succ_self _))
    · rw [HQ.out]; simpa only [List.length_replicate] using HC2.out
    · rw [HQ.out]
      simp only [List.length_replicate]
      refine R_lowB (base := w.heap.size + 1) _ ?_ (by omega)
      repeat (with_reducible first | exact HR2.out | refine R_setB ?_ (Nat.lt_succ_self _))

set_option maxRecDepth 100000 in
set_option maxHeartbeats 1000000 in
theorem NewTerm_c (rows width : Int) (w : World) :
    Calls Try.prog 33 #[.int .i64 rows, .int .i64 width] w fun e w' => ∃ (A' : Option Addr) (c' : Nat) (B' : Option Addr) (d' : Nat), e = .returned (.agg #[.int .i64 (newTermP rows width).1, .int .i64 (newTermP rows width).2.1, .int .i64 (newTermP rows width).2.2.1, .int .i64 (newTermP rows width).2.2.2.1, .int .i64 (newTermP rows width).2.2.2.2.1, .bool (newTermP rows width).2.2.2.2.2.1, .slice A' (newTermP rows width).2.2.2.2.2.2.1.length c', .slice B' (newTermP rows width).2.2.2.2.2.2.2.length d']) ∧ (newTermP rows width).2.2.2.2.2.2.1.length ≤ c' ∧ Kd.R (Kd.int .i64) 2 w' w.heap.size (fun _ => True) (.slice A' (newTermP rows width).2.2.2.2.2.2.1.length c') (newTermP rows width).2.2.2.2.2.2.1 ∧ (newTermP rows width).2.2.2.2.2.2.2.length ≤ d' ∧ Kd.R Kd.bool 4 w' w.heap.size (fun _ => True) (.slice B' (newTermP rows width).2.2.2.2.2.2.2.length d') (newTermP rows width).2.2.2.2.2.2.2 ∧ Below w.heap.size w w' := by
  cases h1 : within width 4 40
  · have HQ := Aside0.mk (show newTermP rows width = (3, 0, 0, 0, 0, false, [], []) by simp [newTermP, h1])
    cases h2 : within rows 1 13
    all_goals
      have H1 := Aside0.mk h1
      have H2 := Aside0.mk h2
      clear h1 h2
      go_enter Try.func33, Try.ntmps33
      go_wp2_with (go_at_call 75; refine Calls.mono (within_c _ _ _ _) ?_; rintro e w' ⟨rfl, rfl⟩; first | rw [H1.out] | rw [H2.out])
      refine bodyPost_ret (v := .agg #[.int .i64 3, .int .i64 0, .int .i64 0, .int .i64 0, .int .i64 0, .bool false, .slice none 0 0, .slice none 0 0]) (by simp [results, Try.results33, go_sem]) rfl ⟨none, 0, none, 0, ?_, ?_, ?_, ?_, ?_, (by repeat (with_reducible first | exact Below.refl _ _ | refine below_alloc ?_ _ | refine below_drew ?_ | refine pw_below_drewN ?_ _ | refine Below.setCell ?_ (by dsimp only; omega) _ ))⟩
      · rw [HQ.out]; rfl
      · rw [HQ.out]; exact Nat.le_refl _
      · rw [HQ.out]; exact Kd.R_nil _ _ _ _ _
      · rw [HQ.out]; exact Nat.le_refl _
      · rw [HQ.out]; exact Kd.R_nil _ _ _ _ _
  cases h2 : within rows 1 13
  · have HQ := Aside0.mk (show newTermP rows width = (3, 0, 0, 0, 0, false, [], []) by simp [newTermP, h1, h2])
    have H1 := Aside0.mk h1
    have H2 := Aside0.mk h2
    clear h1 h2
    go_enter Try.func33, Try.ntmps33
    go_wp2_with (go_at_call 75; refine Calls.mono (within_c _ _ _ _) ?_; rintro e w' ⟨rfl, rfl⟩; first | rw [H1.out] | rw [H2.out])
    refine bodyPost_ret (v := .agg #[.int .i64 3, .int .i64 0, .int .i64 0, .int .i64 0, .int .i64 0, .bool false, .slice none 0 0, .slice none 0 0]) (by simp [results, Try.results33, go_sem]) rfl ⟨none, 0, none, 0, ?_, ?_, ?_, ?_, ?_, (by repeat (with_reducible first | exact Below.refl _ _ | refine below_alloc ?_ _ | refine below_drew ?_ | refine pw_below_drewN ?_ _ | refine Below.setCell ?_ (by dsimp only; omega) _ ))⟩
    · rw [HQ.out]; rfl
    · rw [HQ.out]; exact Nat.le_refl _
    · rw [HQ.out]; exact Kd.R_nil _ _ _ _ _
    · rw [HQ.out]; exact Nat.le_refl _
    · rw [HQ.out]; exact Kd.R_nil _ _ _ _ _
  · have b1 := within_bd h1
    have b2 := within_bd h2
    obtain ⟨n, hn⟩ := Int.eq_ofNat_of_zero_le (show 0 ≤ rows * width from Int.mul_nonneg (by omega) (by omega))
    have hm : rows * width ≤ 13 * 40 := Int.mul_le_mul (by omega) (by omega) (by omega) (by omega)
    have hm2 : 1 * 4 ≤ rows * width := Int.mul_le_mul (by omega) (by omega) (by omega) (by omega)
    have hb : n ≤ 520 := by omega
    have hp : 1 ≤ n := by omega
    have HQ := Aside0.mk (show newTermP rows width = (0, width, rows, 0, 0, false, List.replicate n 32, List.replicate n false) by simp [newTermP, h1, h2, hn])
    have HN := Aside0.mk hn
    have H1 := Aside0.mk h1
    have H2 := Aside0.mk h2
    clear h1 h2 hn hm hm2 b1 b2
    go_enter Try.func33, Try.ntmps33
    go_wp2_with (first
      | (go_at_call 75; refine Calls.mono (within_c _ _ _ _) ?_; rintro e w' ⟨rfl, rfl⟩; first | rw [H1.out] | rw [H2.out])
      | (go_at_call 83; refine Calls.mono (newTerm_c rows width n _ HN.out hp hb) ?_; rintro e w1 ⟨A', c', B', d', rfl, hc', hR1, hd', hR2, hb1⟩; have HB1 := Aside0.mk hb1; have sz1 := hb1.size; (try simp only [size_alloc, size_drew, size_drewN] at sz1 hR1 hR2); have HR1 := Aside0.mk hR1; have HR2 := Aside0.mk hR2; have HC1 := Aside0.mk hc'; have HC2 := Aside0.mk hd'; obtain ⟨hx1, hf1⟩ := bcell hb1; have l1 : w.heap.size < w1.heap.size := (by omega); clear hb1 hR1 hR2 hc' hd'))
    refine bodyPost_ret (v := .agg #[.int .i64 0, .int .i64 width, .int .i64 rows, .int .i64 0, .int .i64 0, .bool false, .slice A' n c', .slice B' n d']) (by simp [results, Try.results33, go_sem, hx1, l1]) rfl ⟨A', c', B', d', ?_, ?_, ?_, ?_, ?_, (by repeat (with_reducible first | exact Below.refl _ _ | refine below_alloc ?_ _ | refine below_drew ?_ | refine pw_below_drewN ?_ _ | refine Below.setCell ?_ (by dsimp only; omega) _ | refine below_end ?_ HB1.out ))⟩
    · rw [HQ.out]; simp only [List.length_replicate]
    · rw [HQ.out]; simpa only [List.length_replicate] using HC1.out
    · rw [HQ.out]
      simp only [List.length_replicate]
      refine R_lowI (base := w.heap.size + 1) _ ?_ (by omega)
      repeat (with_reducible first | exact HR1.out | refine R_setI ?_ (Nat.lt_succ_self _))
    · rw [HQ.out]; simpa only [List.length_replicate] using HC2.out
    · rw [HQ.out]
      simp only [List.length_replicate]
      refine R_lowB (base := w.heap.size + 1) _ ?_ (by omega)
      repeat (with_reducible first | exact HR2.out | refine R_setB ?_ (Nat.lt_succ_self _))
end Go.Proofs.Ytpfponhaofdbaaa.M
