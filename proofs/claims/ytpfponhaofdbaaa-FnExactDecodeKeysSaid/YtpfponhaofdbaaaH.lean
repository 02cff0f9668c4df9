import Derived.Test.YtpfponhaofdbaaaS1
import Derived.Test.YtpfponhaofdbaaaC
import Derived.Test.YtpfponhaofdbaaaK2
set_option linter.unusedVariables false
set_option linter.unusedSimpArgs false
namespace Go.Proofs.Ytpfponhaofdbaaa.M
open Go.RowKit Go.Proofs.YtpfponhaofdbaaaW.PrintWords

set_option maxRecDepth 100000 in
set_option maxHeartbeats 1000000 in
theorem termGrid_c (g : Nat) (wi ro y x : Int) (hi : Bool) (A : Option Addr) (c : Nat) (ch : List Int) (B : Option Addr) (d : Nat) (hs : List Bool) (w : World)
    (hb : w.heap[g]? = some (.cells #[.int .i64 wi, .int .i64 ro, .int .i64 y, .int .i64 x, .bool hi, .slice A ch.length c, .slice B hs.length d] 47 (0, 0)))
    (hr : Kd.C (Kd.int .i64) w A ch.length ch) (hr2 : Kd.C Kd.bool w B hs.length hs) (hm : ch.length * 8 ≤ 140737488355328) (hm2 : hs.length * 1 ≤ 140737488355328) :
    Calls Try.prog 92 #[.pointer (some ⟨g, 0, none⟩)] w fun e w' => ∃ (A' : Option Addr) (c' : Nat) (B' : Option Addr) (d' : Nat), e = .returned (.agg #[.int .i64 wi, .slice A' ch.length c', .slice B' hs.length d']) ∧ ch.length ≤ c' ∧ Kd.R (Kd.int .i64) 2 w' w.heap.size (fun _ => True) (.slice A' ch.length c') ch ∧ hs.length ≤ d' ∧ Kd.R Kd.bool 4 w' w.heap.size (fun _ => True) (.slice B' hs.length d') hs ∧ Below w.heap.size w w' := by
  have HR := Aside0.mk hr
  have HS := Aside0.mk hr2
  have BB := Aside0.mk hb
  have lt0 := blk_lt hb
  have rd0 := blk_cell hb
  clear hr hr2 hb
  go_enter Try.func92, Try.ntmps92
  go_wp2_with fail
  go_region_held3 (fun W : World => (∀ i, W.cell? ⟨g, i, none⟩ = (#[.int .i64 wi, .int .i64 ro, .int .i64 y, .int .i64 x, .bool hi, .slice A ch.length c, .slice B hs.length d] : Array Value)[i]?)) (first | ((repeat' apply And.intro) <;> (intro i; (repeat (first | (with_reducible refine (cell_drew _ _).trans ?_) | (with_reducible refine (cell_drewN _ _ _).trans ?_) | refine (World.cell?_setCell_far _ _ _ _ (by dsimp only; omega)).trans ?_ | refine (World.cell?_alloc_lt _ _ _ (by dsimp only; (try simp only [size_alloc, size_drew, size_drewN, size_setCell]); omega)).trans ?_)); first | (with_reducible exact rd0 i) | (with_reducible exact rd1 i) | (with_reducible exact rd2 i))) | go_keep)
    (first
      | (go_at_call 121; refine Calls.mono (cloneint64_c A c ch _ (by repeat (first | exact HR.out | refine Kd.C_below ?_ HB1.out | refine Kd.C_alloc ?_ _ | refine Kd.C_drewN ?_ _)) hm) ?_; rintro e w1 ⟨A', c', rfl, hc', hR1, hb1⟩; have HB1 := Aside0.mk hb1; have sz1 := hb1.size; (try simp only [size_alloc, size_drew, size_drewN] at sz1); (try simp only [size_alloc, size_drew, size_drewN] at hR1); have HR1 := Aside0.mk hR1; have HC1 := Aside0.mk hc'; obtain ⟨hx1, hf1⟩ := bcell hb1; have l1 : w.heap.size < w1.heap.size := (by omega); have NB1 : w1.heap[g]? = some (.cells #[.int .i64 wi, .int .i64 ro, .int .i64 y, .int .i64 x, .bool hi, .slice A ch.length c, .slice B hs.length d] 47 (0, 0)) := (by repeat (with_reducible first | exact BB.out | refine blk_drewN ?_ _ | refine blk_drew ?_ | refine blk_alloc ?_ _ | refine blk_below ?_ HB1.out)); have rd1 := blk_cell NB1; have BB1 := Aside0.mk NB1; clear hb1 hR1 hc' NB1)
      | (go_at_call 122; refine Calls.mono (clonebool_c B d hs _ (by repeat (first | exact HS.out | refine Kd.C_below ?_ HB1.out | refine Kd.C_alloc ?_ _ | refine Kd.C_drewN ?_ _)) hm2) ?_; rintro e w2 ⟨B', d', rfl, hd', hR2, hb2⟩; have HB2 := Aside0.mk hb2; have sz2 := hb2.size; (try simp only [size_alloc, size_drew, size_drewN] at sz2); (try simp only [size_alloc, size_drew, size_drewN] at hR2); have HR2 := Aside0.mk hR2; have HC2 := Aside0.mk hd'; obtain ⟨hx2, hf2⟩ := bcell hb2; have l2 : w.heap.size < w2.heap.size := (by omega); have NB2 : w2.heap[g]? = some (.cells #[.int .i64 wi, .int .i64 ro, .int .i64 y, .int .i64 x, .bool hi, .slice A ch.length c, .slice B hs.length d] 47 (0, 0)) := (by repeat (with_reducible first | exact BB1.out | refine blk_drewN ?_ _ | refine blk_drew ?_ | refine blk_alloc ?_ _ | refine blk_below ?_ HB2.out)); have rd2 := blk_cell NB2; clear hb2 hR2 hd' NB2))
  all_goals
    go_wp2
    refine bodyPost_ret (v := .agg #[.int .i64 wi, .slice A' ch.length c', .slice B' hs.length d']) (by simp [results, Try.results92, go_sem, hx1, hx2, l1, l2]) rfl ⟨A', c', B', d', rfl, HC1.out, ?_, HC2.out, ?_, ?_⟩
    · refine R_lowI (base := w.heap.size + 1) _ ?_ (by omega)
      repeat (with_reducible first | exact HR1.out | refine R_setI ?_ (Nat.lt_succ_self _) | refine Kd.R_drewN ?_ _ | refine Kd.R_drew ?_ | refine Kd.R_alloc ?_ _ | refine Kd.R_below ?_ HB2.out)
    · refine R_lowB (base := w1.heap.size) _ ?_ (by omega)
      repeat (with_reducible first | exact HR2.out | refine R_setB ?_ l1 | refine Kd.R_drewN ?_ _ | refine Kd.R_drew ?_ | refine Kd.R_alloc ?_ _)
    · exact (by repeat (first | exact Below.refl _ _ | refine below_end ?_ HB2.out | refine below_end ?_ HB1.out | refine below_alloc ?_ _ | refine below_drew ?_ | refine pw_below_drewN ?_ _ | refine Below.setCell ?_ (by dsimp only; omega) _))

set_option maxRecDepth 100000 in
set_option maxHeartbeats 1000000 in
theorem l13Grid_c (g : Nat) (wi ro y x : Int) (hi : Bool) (A : Option Addr) (c : Nat) (ch : List Int) (B : Option Addr) (d : Nat) (hs : List Bool) (w : World)
    (hb : w.heap[g]? = some (.cells #[.int .i64 wi, .int .i64 ro, .int .i64 y, .int .i64 x, .bool hi, .slice A ch.length c, .slice B hs.length d] 47 (0, 0)))
    (hr : Kd.C (Kd.int .i64) w A ch.length ch) (hr2 : Kd.C Kd.bool w B hs.length hs) (hm : ch.length * 8 ≤ 140737488355328) (hm2 : hs.length * 1 ≤ 140737488355328) :
    Calls Try.prog 91 #[.pointer (some ⟨g, 0, none⟩)] w fun e w' => ∃ (A' : Option Addr) (c' : Nat) (B' : Option Addr) (d' : Nat), e = .returned (.agg #[.int .i64 wi, .slice A' ch.length c', .slice B' hs.length d']) ∧ ch.length ≤ c' ∧ Kd.R (Kd.int .i64) 2 w' w.heap.size (fun _ => True) (.slice A' ch.length c') ch ∧ hs.length ≤ d' ∧ Kd.R Kd.bool 4 w' w.heap.size (fun _ => True) (.slice B' hs.length d') hs ∧ Below w.heap.size w w' := by
  have HR := Aside0.mk hr
  have HS := Aside0.mk hr2
  have BB := Aside0.mk hb
  have lt0 := blk_lt hb
  have rd0 := blk_cell hb
  clear hr hr2 hb
  go_enter Try.func91, Try.ntmps91
  go_wp2_with fail
  go_region_held3 (fun W : World => (∀ i, W.cell? ⟨g, i, none⟩ = (#[.int .i64 wi, .int .i64 ro, .int .i64 y, .int .i64 x, .bool hi, .slice A ch.length c, .slice B hs.length d] : Array Value)[i]?)) (first | ((repeat' apply And.intro) <;> (intro i; (repeat (first | (with_reducible refine (cell_drew _ _).trans ?_) | (with_reducible refine (cell_drewN _ _ _).trans ?_) | refine (World.cell?_setCell_far _ _ _ _ (by dsimp only; omega)).trans ?_ | refine (World.cell?_alloc_lt _ _ _ (by dsimp only; (try simp only [size_alloc, size_drew, size_drewN, size_setCell]); omega)).trans ?_)); first | (with_reducible exact rd0 i) | (with_reducible exact rd1 i) | (with_reducible exact rd2 i))) | go_keep)
    (first
      | (refine Kd.R_append_rows_step (Kd.int .i64) (w0 := (w.alloc (.cells #[.int .i64 0, .slice none 0 0, .slice none 0 0] 33))) (w.alloc (.cells #[.int .i64 0, .slice none 0 0, .slice none 0 0] 33)).heap.size (by rfl) (.tmp 7) (.tmp 11) 27 2 (.int .i64 0) 8 rfl Try.underlying27 (by kernel_rfl) rfl (by decide) (by omega) _ [] ch A ch.length c (fun _ => True) (fun _ => False) rfl rfl (R_at (l := []) (by show _ = some (Obj.cells #[] 2 (0, 0)); repeat (with_reducible first | exact blk_new _ | refine blk_new' _ (by simp only [size_alloc, size_drew, size_drewN]) | refine blk_drewN ?_ _ | refine blk_drew ?_ | refine blk_alloc ?_ _ | refine blk_grownS ?_ HG1.out (by omega))) (by simp only [size_alloc, size_drew, size_drewN]; omega) (by simp)) (by repeat (first | exact HR.out | refine Kd.C_below ?_ HB1.out | refine Kd.C_alloc ?_ _ | refine Kd.C_drewN ?_ _)) (fun _ _ h => h) (fun _ h => h.elim) (fun _ _ => trivial) (by repeat (with_reducible first | exact Below.refl _ _ | exact HB1.out | refine below_alloc ?_ _ | refine below_drew ?_ | refine pw_below_drewN ?_ _)) (below_size (by repeat (with_reducible first | exact Below.refl _ _ | exact HB1.out | refine below_alloc ?_ _ | refine below_drew ?_ | refine pw_below_drewN ?_ _))) (by simpa using hm) ?_; intro v1 w1 hR hB hg hat; rw [List.nil_append] at hR; obtain ⟨A', c', rfl, hc', _⟩ := Kd.R_reads hR; have HC1 := Aside0.mk hc'; clear hc'; have HR1 := Aside0.mk hR; have HB1 := Aside0.mk hB; have HG1 := Aside0.mk hg; have HAT1 := Aside0.mk hat; have HI1 := Aside0.mk (Kd.R_lt hR); have sz1 := hg.size; (try simp only [size_alloc, size_drew, size_drewN] at sz1); obtain ⟨hx1, hf1⟩ := bcell hB; have l1 : w.heap.size < w1.heap.size := (by omega); have rd1 := blk_cell (blk_below (blk_alloc BB.out (.cells #[.int .i64 0, .slice none 0 0, .slice none 0 0] 33)) hB); clear hR hB hg hat)
      | (refine Kd.R_append_rows_step Kd.bool (w0 := (w.alloc (.cells #[.int .i64 0, .slice none 0 0, .slice none 0 0] 33))) (w.alloc (.cells #[.int .i64 0, .slice none 0 0, .slice none 0 0] 33)).heap.size (by rfl) (.tmp 13) (.tmp 17) 28 4 (.bool false) 1 rfl Try.underlying28 (by kernel_rfl) rfl (by decide) (by omega) _ [] hs B hs.length d (fun _ => True) (fun _ => False) rfl rfl (R_at (l := []) (by show _ = some (Obj.cells #[] 4 (0, 0)); repeat (with_reducible first | exact blk_new _ | refine blk_new' _ (by simp only [size_alloc, size_drew, size_drewN]) | refine blk_drewN ?_ _ | refine blk_drew ?_ | refine blk_alloc ?_ _ | refine blk_grownS ?_ HG1.out (by omega))) (by simp only [size_alloc, size_drew, size_drewN]; omega) (by simp)) (by repeat (first | exact HS.out | refine Kd.C_below ?_ HB1.out | refine Kd.C_alloc ?_ _ | refine Kd.C_drewN ?_ _)) (fun _ _ h => h) (fun _ h => h.elim) (fun _ _ => trivial) (by repeat (with_reducible first | exact Below.refl _ _ | exact HB1.out | refine below_alloc ?_ _ | refine below_drew ?_ | refine pw_below_drewN ?_ _)) (below_size (by repeat (with_reducible first | exact Below.refl _ _ | exact HB1.out | refine below_alloc ?_ _ | refine below_drew ?_ | refine pw_below_drewN ?_ _))) (by simpa using hm2) ?_; intro v2 w2 hR hB hg hat; rw [List.nil_append] at hR; obtain ⟨B', d', rfl, hc', _⟩ := Kd.R_reads hR; have HC2 := Aside0.mk hc'; clear hc'; have HR2 := Aside0.mk hR; have HB2 := Aside0.mk hB; have HR1b : Kd.R (Kd.int .i64) 2 w2 (w.alloc (.cells #[.int .i64 0, .slice none 0 0, .slice none 0 0] 33)).heap.size (fun _ => True) (.slice A' ch.length c') ch := (R_updI (by repeat (with_reducible first | exact HR1.out | refine Kd.R_alloc ?_ _ | refine Kd.R_drewN ?_ _ | refine Kd.R_drew ?_)) (Upd.of_grown hg) (fun b h1 h2 => by have e2 := Option.some.inj h2; have e3 := HI1.out b h1; rcases HAT1.out with h | ⟨b', h, h'⟩ <;> have e4 := Option.some.inj (h1.symm.trans h) <;> (try simp only [size_alloc, size_drew, size_drewN] at h') <;> (try dsimp only at e2 e4) <;> omega)); have HR1B := Aside0.mk HR1b; clear HR1b; have sz2 := hg.size; (try simp only [size_alloc, size_drew, size_drewN] at sz2); obtain ⟨hx2, hf2⟩ := bcell hB; have l2 : w.heap.size < w2.heap.size := (by omega); have rd2 := blk_cell (blk_below (blk_alloc BB.out (.cells #[.int .i64 0, .slice none 0 0, .slice none 0 0] 33)) hB); clear hR hB hg hat))
  all_goals
    go_wp2
    refine bodyPost_ret (v := .agg #[.int .i64 wi, .slice A' ch.length c', .slice B' hs.length d']) (by simp [results, Try.results91, go_sem, hx1, hx2, l1, l2]) rfl ⟨A', c', B', d', rfl, HC1.out, ?_, HC2.out, ?_, ?_⟩
    · refine R_lowI (base := (w.alloc (.cells #[.int .i64 0, .slice none 0 0, .slice none 0 0] 33)).heap.size) _ ?_ (by rw [size_alloc]; omega)
      repeat (with_reducible first | exact HR1B.out | refine R_setI ?_ (by rw [size_alloc]; exact Nat.lt_succ_self _) | refine Kd.R_drewN ?_ _ | refine Kd.R_drew ?_ | refine Kd.R_alloc ?_ _)
    · refine R_lowB (base := (w.alloc (.cells #[.int .i64 0, .slice none 0 0, .slice none 0 0] 33)).heap.size) _ ?_ (by rw [size_alloc]; omega)
      repeat (with_reducible first | exact HR2.out | refine R_setB ?_ (by rw [size_alloc]; exact Nat.lt_succ_self _) | refine Kd.R_drewN ?_ _ | refine Kd.R_drew ?_ | refine Kd.R_alloc ?_ _)
    · exact (by repeat (first | exact Below.refl _ _ | refine below_end ?_ HB2.out | refine below_alloc ?_ _ | refine below_drew ?_ | refine pw_below_drewN ?_ _ | refine Below.setCell ?_ (by dsimp only; omega) _))

theorem termFault_form {wi ro y x : Int} {ch : List Int} {hs : List Bool} (h : termFault wi ro y x ch hs = 0) : (4 ≤ wi ∧ wi ≤ 40) ∧ (1 ≤ ro ∧ ro ≤ 13) ∧ (0 ≤ y ∧ y < ro) ∧ (0 ≤ x ∧ x ≤ wi) ∧ (ch.length : Int) = ro * wi ∧ hs.length = ch.length ∧ (∀ c ∈ ch, isSeen c = true) ∧ ch.length ≤ 520 := by
  unfold termFault at h
  cases h1 : within wi 4 40
  · simp [h1] at h
  cases h2 : within ro 1 13
  · simp [h2] at h
  cases h3 : within y 0 (wrap64 (ro - 1))
  · simp [h3] at h
  cases h4 : within x 0 wi
  · simp [h4] at h
  have b1 := within_bd h1
  have b2 := within_bd h2
  have b3 := within_bd h3
  have b4 := within_bd h4
  have hm : 0 ≤ ro * wi ∧ ro * wi ≤ 13 * 40 := ⟨Int.mul_nonneg (by omega) (by omega), Int.mul_le_mul (by omega) (by omega) (by omega) (by omega)⟩
  have e1 : wrap64 (ro * wi) = ro * wi := by unfold wrap64; omega
  have e2 : wrap64 (ro - 1) = ro - 1 := by unfold wrap64; omega
  rw [e1] at h
  rw [e2] at b3
  by_cases h5 : (ch.length : Int) = ro * wi
  · by_cases h6 : hs.length = ch.length
    · cases h7 : anyUnseen ch
      · unfold anyUnseen at h7
        simp at h7
        exact ⟨b1, b2, by omega, b4, h5, h6, h7, by omega⟩
      · simp [h1, h2, h3, h4, h5, h6, h7] at h
    · simp [h1, h2, h3, h4, h5, h6] at h
  · simp [h1, h2, h3, h4, h5] at h

def gridOf (wi ro y x : Int) (hi : Bool) (ch : List Int) (hs : List Bool) : Int × Int × List Int × List Bool :=
  if termFault wi ro y x ch hs = 0 then (0, wi, ch, hs) else (termFault wi ro y x ch hs, 0, [], [])
theorem gridOf_len (wi ro y x : Int) (hi : Bool) (ch : List Int) (hs : List Bool) : (gridOf wi ro y x hi ch hs).2.2.1.length ≤ 520 ∧ (gridOf wi ro y x hi ch hs).2.2.2.length ≤ 520 := by
  unfold gridOf
  by_cases h : termFault wi ro y x ch hs = 0
  · rw [if_pos h]
    have := termFault_form h
    exact ⟨this.2.2.2.2.2.2.2, by show hs.length ≤ 520; omega⟩
  · rw [if_neg h]
    exact ⟨by simp, by simp⟩

set_option maxRecDepth 100000 in
set_option maxHeartbeats 1000000 in
theorem GridOf_c (wi ro y x : Int) (hi : Bool) (A : Option Addr) (c : Nat) (ch : List Int) (B : Option Addr) (d : Nat) (hs : List Bool) (w : World)
    (hr : Kd.C (Kd.int .i64) w A ch.length ch) (hr2 : Kd.C Kd.bool w B hs.length hs) (hc : ch.length ≤ c) (hd : hs.length ≤ d) :
    Calls Try.prog 43 #[.agg #[.int .i64 wi, .int .i64 ro, .int .i64 y, .int .i64 x, .bool hi, .slice A ch.length c, .slice B hs.length d]] w fun e w' => ∃ (A' : Option Addr) (c' : Nat) (B' : Option Addr) (d' : Nat), e = .returned (.agg #[.int .i64 (gridOf wi ro y x hi ch hs).1, .int .i64 (gridOf wi ro y x hi ch hs).2.1, .slice A' (gridOf wi ro y x hi ch hs).2.2.1.length c', .slice B' (gridOf wi ro y x hi ch hs).2.2.2.length d']) ∧ (gridOf wi ro y x hi ch hs).2.2.1.length ≤ c' ∧ Kd.R (Kd.int .i64) 2 w' w.heap.size (fun _ => True) (.slice A' (gridOf wi ro y x hi ch hs).2.2.1.length c') (gridOf wi ro y x hi ch hs).2.2.1 ∧ (gridOf wi ro y x hi ch hs).2.2.2.length ≤ d' ∧ Kd.R Kd.bool 4 w' w.heap.size (fun _ => True) (.slice B' (gridOf wi ro y x hi ch hs).2.2.2.length d') (gridOf wi ro y x hi ch hs).2.2.2 ∧ Below w.heap.size w w' := by
  have HR := Aside0.mk hr
  have HS := Aside0.mk hr2
  have hm := Kd.C_max hr
  have hm2 := Kd.C_max hr2
  clear hr hr2
  by_cases g : termFault wi ro y x ch hs = 0
  · have HQ := Aside0.mk (show gridOf wi ro y x hi ch hs = (0, wi, ch, hs) by simp [gridOf, g])
    have ff := termFault_form g
    have fl := ff.2.2.2.2.2.2.2
    have fl2 : hs.length ≤ 520 := by have := ff.2.2.2.2.2.1; omega
    clear ff
    have HG := Aside0.mk g
    clear g
    go_enter Try.func43, Try.ntmps43
    go_wp2_with fail
    refine Calls.mono (TermFault_c wi ro y x hi A B c d ch hs _ (by repeat (with_reducible first | exact HR.out | refine Kd.C_alloc ?_ _ | refine Kd.C_drewN ?_ _ | refine Kd.C_drew ?_)) hc hm2) ?_
    rintro e w1 ⟨rfl, hb1⟩
    rw [HG.out]
    have HB1 := Aside0.mk hb1
    obtain ⟨hx1, hf1⟩ := bcell hb1
    have sz1 := hb1.size
    (try simp only [size_alloc, size_drew, size_drewN] at sz1)
    have l1 : w.heap.size + 1 < w1.heap.size := by omega
    have NB1 : w1.heap[w.heap.size]? = some (.cells #[.int .i64 wi, .int .i64 ro, .int .i64 y, .int .i64 x, .bool hi, .slice A ch.length c, .slice B hs.length d] 47 (0, 0)) := (by repeat (with_reducible first | exact blk_new _ | refine blk_new' _ (by simp only [size_alloc]) | refine blk_drewN ?_ _ | refine blk_drew ?_ | refine blk_alloc ?_ _ | refine blk_below ?_ HB1.out))
    have BB1 := Aside0.mk NB1
    clear hb1 NB1
    go_wp2_with fail
    refine Calls.mono (termGrid_c w.heap.size wi ro y x hi A c ch B d hs _ BB1.out (by repeat (with_reducible first | exact HR.out | refine Kd.C_below ?_ HB1.out | refine Kd.C_alloc ?_ _ | refine Kd.C_drewN ?_ _ | refine Kd.C_drew ?_)) (by repeat (with_reducible first | exact HS.out | refine Kd.C_below ?_ HB1.out | refine Kd.C_alloc ?_ _ | refine Kd.C_drewN ?_ _ | refine Kd.C_drew ?_)) (by omega) (by omega)) ?_
    rintro e w2 ⟨A', c', B', d', rfl, hc', hR1, hd', hR2, hb2⟩
    have HB2 := Aside0.mk hb2
    obtain ⟨hx2, hf2⟩ := bcell hb2
    have sz2 := hb2.size
    have l2 : w.heap.size + 1 < w2.heap.size := by omega
    have HR1 := Aside0.mk hR1
    have HR2 := Aside0.mk hR2
    have HC1 := Aside0.mk hc'
    have HC2 := Aside0.mk hd'
    clear hb2 hR1 hR2 hc' hd'
    go_wp2
    refine bodyPost_ret (v := .agg #[.int .i64 0, .int .i64 wi, .slice A' ch.length c', .slice B' hs.length d']) (by simp [results, Try.results43, go_sem, hx1, hx2, l1, l2]) rfl ⟨A', c', B', d', ?_, ?_, ?_, ?_, ?_, ?_⟩
    · rw [HQ.out]
    · rw [HQ.out]; exact HC1.out
    · rw [HQ.out]
      refine R_lowI (base := w1.heap.size) _ ?_ (by omega)
      repeat (with_reducible first | exact HR1.out | refine R_setI ?_ l1)
    · rw [HQ.out]; exact HC2.out
    · rw [HQ.out]
      refine R_lowB (base := w1.heap.size) _ ?_ (by omega)
      repeat (with_reducible first | exact HR2.out | refine R_setB ?_ l1)
    · exact (by repeat (first | exact Below.refl _ _ | refine below_end ?_ HB2.out | refine below_end ?_ HB1.out | refine below_alloc ?_ _ | refine below_drew ?_ | refine pw_below_drewN ?_ _ | refine Below.setCell ?_ (by dsimp only; omega) _))
  · have HQ := Aside0.mk (show gridOf wi ro y x hi ch hs = (termFault wi ro y x ch hs, 0, [], []) by simp [gridOf, g])
    have bf : (termFault wi ro y x ch hs != 0) = true := by simpa using g
    generalize hT : termFault wi ro y x ch hs = tf at g bf HQ
    have HT := Aside0.mk hT
    clear hT
    go_enter Try.func43, Try.ntmps43
    go_wp2_with fail
    refine Calls.mono (TermFault_c wi ro y x hi A B c d ch hs _ (by repeat (with_reducible first | exact HR.out | refine Kd.C_alloc ?_ _ | refine Kd.C_drewN ?_ _ | refine Kd.C_drew ?_)) hc hm2) ?_
    rintro e w1 ⟨rfl, hb1⟩
    rw [HT.out]
    have HB1 := Aside0.mk hb1
    obtain ⟨hx1, hf1⟩ := bcell hb1
    have sz1 := hb1.size
    (try simp only [size_alloc, size_drew, size_drewN] at sz1)
    have l1 : w.heap.size + 1 < w1.heap.size := by omega
    clear hb1
    go_wp2
    refine bodyPost_ret (v := .agg #[.int .i64 tf, .int .i64 0, .slice none 0 0, .slice none 0 0]) (by simp [results, Try.results43, go_sem, hx1, l1]) rfl ⟨none, 0, none, 0, ?_, ?_, ?_, ?_, ?_, ?_⟩
    · rw [HQ.out]; rfl
    · rw [HQ.out]; exact Nat.le_refl _
    · rw [HQ.out]; exact Kd.R_nil _ _ _ _ _
    · rw [HQ.out]; exact Nat.le_refl _
    · rw [HQ.out]; exact Kd.R_nil _ _ _ _ _
    · exact (by repeat (first | exact Below.refl _ _ | refine below_end ?_ HB1.out | refine below_alloc ?_ _ | refine below_drew ?_ | refine pw_below_drewN ?_ _ | refine Below.setCell ?_ (by dsimp only; omega) _))

set_option maxRecDepth 100000 in
set_option maxHeartbeats 1000000 in
theorem specGridOf_c (wi ro y x : Int) (hi : Bool) (A : Option Addr) (c : Nat) (ch : List Int) (B : Option Addr) (d : Nat) (hs : List Bool) (w : World)
    (hr : Kd.C (Kd.int .i64) w A ch.length ch) (hr2 : Kd.C Kd.bool w B hs.length hs) (hc : ch.length ≤ c) (hd : hs.length ≤ d) :
    Calls Try.prog 42 #[.agg #[.int .i64 wi, .int .i64 ro, .int .i64 y, .int .i64 x, .bool hi, .slice A ch.length c, .slice B hs.length d]] w fun e w' => ∃ (A' : Option Addr) (c' : Nat) (B' : Option Addr) (d' : Nat), e = .returned (.agg #[.int .i64 (gridOf wi ro y x hi ch hs).1, .int .i64 (gridOf wi ro y x hi ch hs).2.1, .slice A' (gridOf wi ro y x hi ch hs).2.2.1.length c', .slice B' (gridOf wi ro y x hi ch hs).2.2.2.length d']) ∧ (gridOf wi ro y x hi ch hs).2.2.1.length ≤ c' ∧ Kd.R (Kd.int .i64) 2 w' w.heap.size (fun _ => True) (.slice A' (gridOf wi ro y x hi ch hs).2.2.1.length c') (gridOf wi ro y x hi ch hs).2.2.1 ∧ (gridOf wi ro y x hi ch hs).2.2.2.length ≤ d' ∧ Kd.R Kd.bool 4 w' w.heap.size (fun _ => True) (.slice B' (gridOf wi ro y x hi ch hs).2.2.2.length d') (gridOf wi ro y x hi ch hs).2.2.2 ∧ Below w.heap.size w w' := by
  have HR := Aside0.mk hr
  have HS := Aside0.mk hr2
  have hm := Kd.C_max hr
  have hm2 := Kd.C_max hr2
  clear hr hr2
  by_cases g : termFault wi ro y x ch hs = 0
  · have HQ := Aside0.mk (show gridOf wi ro y x hi ch hs = (0, wi, ch, hs) by simp [gridOf, g])
    have ff := termFault_form g
    have fl := ff.2.2.2.2.2.2.2
    have fl2 : hs.length ≤ 520 := by have := ff.2.2.2.2.2.1; omega
    clear ff
    have HG := Aside0.mk g
    clear g
    go_enter Try.func42, Try.ntmps42
    go_wp2_with fail
    refine Calls.mono (l13Fault_c _ wi ro y x hi A B c d ch hs _ (by repeat (with_reducible first | exact blk_new _ | refine blk_new' _ (by simp only [size_alloc]) | refine blk_drewN ?_ _ | refine blk_drew ?_ | refine blk_alloc ?_ _)) (by repeat (with_reducible first | exact HR.out | refine Kd.C_alloc ?_ _ | refine Kd.C_drewN ?_ _ | refine Kd.C_drew ?_)) hm2) ?_
    rintro e w1 ⟨rfl, hd1⟩
    have hb1 := hd1.below
    clear hd1
    rw [HG.out]
    have HB1 := Aside0.mk hb1
    obtain ⟨hx1, hf1⟩ := bcell hb1
    have sz1 := hb1.size
    (try simp only [size_alloc, size_drew, size_drewN] at sz1)
    have l1 : w.heap.size + 1 < w1.heap.size := by omega
    have NB1 : w1.heap[w.heap.size]? = some (.cells #[.int .i64 wi, .int .i64 ro, .int .i64 y, .int .i64 x, .bool hi, .slice A ch.length c, .slice B hs.length d] 47 (0, 0)) := (by repeat (with_reducible first | exact blk_new _ | refine blk_new' _ (by simp only [size_alloc]) | refine blk_drewN ?_ _ | refine blk_drew ?_ | refine blk_alloc ?_ _ | refine blk_below ?_ HB1.out))
    have BB1 := Aside0.mk NB1
    clear hb1 NB1
    go_wp2_with fail
    refine Calls.mono (l13Grid_c w.heap.size wi ro y x hi A c ch B d hs _ BB1.out (by repeat (with_reducible first | exact HR.out | refine Kd.C_below ?_ HB1.out | refine Kd.C_alloc ?_ _ | refine Kd.C_drewN ?_ _ | refine Kd.C_drew ?_)) (by repeat (with_reducible first | exact HS.out | refine Kd.C_below ?_ HB1.out | refine Kd.C_alloc ?_ _ | refine Kd.C_drewN ?_ _ | refine Kd.C_drew ?_)) (by omega) (by omega)) ?_
    rintro e w2 ⟨A', c', B', d', rfl, hc', hR1, hd', hR2, hb2⟩
    have HB2 := Aside0.mk hb2
    obtain ⟨hx2, hf2⟩ := bcell hb2
    have sz2 := hb2.size
    have l2 : w.heap.size + 1 < w2.heap.size := by omega
    have HR1 := Aside0.mk hR1
    have HR2 := Aside0.mk hR2
    have HC1 := Aside0.mk hc'
    have HC2 := Aside0.mk hd'
    clear hb2 hR1 hR2 hc' hd'
    go_wp2
    refine bodyPost_ret (v := .agg #[.int .i64 0, .int .i64 wi, .slice A' ch.length c', .slice B' hs.length d']) (by simp [results, Try.results42, go_sem, hx1, hx2, l1, l2]) rfl ⟨A', c', B', d', ?_, ?_, ?_, ?_, ?_, ?_⟩
    · rw [HQ.out]
    · rw [HQ.out]; exact HC1.out
    · rw [HQ.out]
      refine R_lowI (base := w1.heap.size) _ ?_ (by omega)
      repeat (with_reducible first | exact HR1.out | refine R_setI ?_ l1)
    · rw [HQ.out]; exact HC2.out
    · rw [HQ.out]
      refine R_lowB (base := w1.heap.size) _ ?_ (by omega)
      repeat (with_reducible first | exact HR2.out | refine R_setB ?_ l1)
    · exact (by repeat (first | exact Below.refl _ _ | refine below_end ?_ HB2.out | refine below_end ?_ HB1.out | refine below_alloc ?_ _ | refine below_drew ?_ | refine pw_below_drewN ?_ _ | refine Below.setCell ?_ (by dsimp only; omega) _))
  · have HQ := Aside0.mk (show gridOf wi ro y x hi ch hs = (termFault wi ro y x ch hs, 0, [], []) by simp [gridOf, g])
    have bf : (termFault wi ro y x ch hs != 0) = true := by simpa using g
    generalize hT : termFault wi ro y x ch hs = tf at g bf HQ
    have HT := Aside0.mk hT
    clear hT
    go_enter Try.func42, Try.ntmps42
    go_wp2_with fail
    refine Calls.mono (l13Fault_c _ wi ro y x hi A B c d ch hs _ (by repeat (with_reducible first | exact blk_new _ | refine blk_new' _ (by simp only [size_alloc]) | refine blk_drewN ?_ _ | refine blk_drew ?_ | refine blk_alloc ?_ _)) (by repeat (with_reducible first | exact HR.out | refine Kd.C_alloc ?_ _ | refine Kd.C_drewN ?_ _ | refine Kd.C_drew ?_)) hm2) ?_
    rintro e w1 ⟨rfl, hd1⟩
    have hb1 := hd1.below
    clear hd1
    rw [HT.out]
    have HB1 := Aside0.mk hb1
    obtain ⟨hx1, hf1⟩ := bcell hb1
    have sz1 := hb1.size
    (try simp only [size_alloc, size_drew, size_drewN] at sz1)
    have l1 : w.heap.size + 1 < w1.heap.size := by omega
    clear hb1
    go_wp2
    refine bodyPost_ret (v := .agg #[.int .i64 tf, .int .i64 0, .slice none 0 0, .slice none 0 0]) (by simp [results, Try.results42, go_sem, hx1, l1]) rfl ⟨none, 0, none, 0, ?_, ?_, ?_, ?_, ?_, ?_⟩
    · rw [HQ.out]; rfl
    · rw [HQ.out]; exact Nat.le_refl _
    · rw [HQ.out]; exact Kd.R_nil _ _ _ _ _
    · rw [HQ.out]; exact Nat.le_refl _
    · rw [HQ.out]; exact Kd.R_nil _ _ _ _ _
    · exact (by repeat (first | exact Below.refl _ _ | refine below_end ?_ HB1.out | refine below_alloc ?_ _ | refine below_drew ?_ | refine pw_below_drewN ?_ _ | refine Below.setCell ?_ (by dsimp only; omega) _))
end Go.Proofs.Ytpfponhaofdbaaa.M
