import Derived.Test.YtpfponhaofdbaaaL2
import Derived.Test.YtpfponhaofdbaaaK2
import Derived.Test.YtpfponhaofdbaaaG5
set_option linter.unusedVariables false
set_option linter.unusedSimpArgs false
namespace Go.Proofs.Ytpfponhaofdbaaa.M
open Go.RowKit Go.Proofs.YtpfponhaofdbaaaW.PrintWords
set_option maxRecDepth 100000 in
set_option maxHeartbeats 1000000 in
theorem law_CountTurned_c (a_wi : Int) (A_a_ch : Option Addr) (c_a_ch : Nat) (a_ch : List Int) (A_a_hs : Option Addr) (c_a_hs : Nat) (a_hs : List Bool) (b_wi : Int) (A_b_ch : Option Addr) (c_b_ch : Nat) (b_ch : List Int) (A_b_hs : Option Addr) (c_b_hs : Nat) (b_hs : List Bool) (w : World) (hr_a_ch : Kd.C (Kd.int .i64) w A_a_ch a_ch.length a_ch) (hr_a_hs : Kd.C Kd.bool w A_a_hs a_hs.length a_hs) (hr_b_ch : Kd.C (Kd.int .i64) w A_b_ch b_ch.length b_ch) (hr_b_hs : Kd.C Kd.bool w A_b_hs b_hs.length b_hs)  :
    Calls Try.prog 8 #[.agg #[.int .i64 a_wi, .slice A_a_ch a_ch.length c_a_ch, .slice A_a_hs a_hs.length c_a_hs], .agg #[.int .i64 b_wi, .slice A_b_ch b_ch.length c_b_ch, .slice A_b_hs b_hs.length c_b_hs]] w fun e w' => e = .returned (.bool true) ∧ Below w.heap.size w w' := by
  have HC_a_ch := Aside0.mk hr_a_ch
  have hm_a_ch := Kd.C_max hr_a_ch
  have HC_a_hs := Aside0.mk hr_a_hs
  have hm_a_hs := Kd.C_max hr_a_hs
  have HC_b_ch := Aside0.mk hr_b_ch
  have hm_b_ch := Kd.C_max hr_b_ch
  have HC_b_hs := Aside0.mk hr_b_hs
  have hm_b_hs := Kd.C_max hr_b_hs
  clear hr_a_ch hr_a_hs hr_b_ch hr_b_hs
  by_cases hz0 : szfs [a_ch.length, a_hs.length] 1048576 < 0
  · go_enter Try.func8, Try.ntmps8
    go_wp2_with fail
    refine Calls.mono (szGrid_c _ _ a_ch.length _ _ a_hs.length _ 1048576 _ hm_a_ch hm_a_hs (by omega) (by omega)) ?_
    rintro e w1 ⟨rfl, hb⟩
    have HB1 := Aside0.mk hb
    have sz1 := hb.size
    (try simp only [size_alloc, size_drew, size_drewN] at sz1)
    have NB_a : w1.heap[w.heap.size]? = some (.cells #[.int .i64 a_wi, .slice A_a_ch a_ch.length c_a_ch, .slice A_a_hs a_hs.length c_a_hs] 30 (0, 0)) := (by repeat (with_reducible first | exact blk_new _ | refine blk_new' _ (by simp only [size_alloc]) | refine blk_drewN ?_ _ | refine blk_drew ?_ | refine blk_alloc ?_ _ | refine blk_below ?_ HB1.out))
    have BB_a := Aside0.mk NB_a
    have lt_a := blk_lt NB_a
    have rd_a := blk_cell NB_a
    clear NB_a
    have NB_b : w1.heap[w.heap.size + 1]? = some (.cells #[.int .i64 b_wi, .slice A_b_ch b_ch.length c_b_ch, .slice A_b_hs b_hs.length c_b_hs] 30 (0, 0)) := (by repeat (with_reducible first | exact blk_new _ | refine blk_new' _ (by simp only [size_alloc]) | refine blk_drewN ?_ _ | refine blk_drew ?_ | refine blk_alloc ?_ _ | refine blk_below ?_ HB1.out))
    have BB_b := Aside0.mk NB_b
    have lt_b := blk_lt NB_b
    have rd_b := blk_cell NB_b
    clear NB_b
    clear hb
    go_wp2
    go_ret
    exact ⟨rfl, (by repeat (with_reducible first | exact Below.refl _ _ | refine below_alloc ?_ _ | refine below_drew ?_ | refine pw_below_drewN ?_ _ | refine below_end ?_ HB1.out ))⟩
  have hl0 := szfs_nn _ _ (by omega) hz0
  (try simp only [List.sum_cons, List.sum_nil] at hl0)
  have hle0 := szfs_le [a_ch.length, a_hs.length] 1048576 (by omega)
  by_cases hz1 : szfs [b_ch.length, b_hs.length] (szfs [a_ch.length, a_hs.length] 1048576) < 0
  · go_enter Try.func8, Try.ntmps8
    go_wp2_with fail
    refine Calls.mono (szGrid_c _ _ a_ch.length _ _ a_hs.length _ 1048576 _ hm_a_ch hm_a_hs (by omega) (by omega)) ?_
    rintro e w1 ⟨rfl, hb⟩
    have HB1 := Aside0.mk hb
    have sz1 := hb.size
    (try simp only [size_alloc, size_drew, size_drewN] at sz1)
    have NB_a : w1.heap[w.heap.size]? = some (.cells #[.int .i64 a_wi, .slice A_a_ch a_ch.length c_a_ch, .slice A_a_hs a_hs.length c_a_hs] 30 (0, 0)) := (by repeat (with_reducible first | exact blk_new _ | refine blk_new' _ (by simp only [size_alloc]) | refine blk_drewN ?_ _ | refine blk_drew ?_ | refine blk_alloc ?_ _ | refine blk_below ?_ HB1.out))
    have BB_a := Aside0.mk NB_a
    have lt_a := blk_lt NB_a
    have rd_a := blk_cell NB_a
    clear NB_a
    have NB_b : w1.heap[w.heap.size + 1]? = some (.cells #[.int .i64 b_wi, .slice A_b_ch b_ch.length c_b_ch, .slice A_b_hs b_hs.length c_b_hs] 30 (0, 0)) := (by repeat (with_reducible first | exact blk_new _ | refine blk_new' _ (by simp only [size_alloc]) | refine blk_drewN ?_ _ | refine blk_drew ?_ | refine blk_alloc ?_ _ | refine blk_below ?_ HB1.out))
    have BB_b := Aside0.mk NB_b
    have lt_b := blk_lt NB_b
    have rd_b := blk_cell NB_b
    clear NB_b
    clear hb
    go_wp2_with fail
    refine Calls.mono (szGrid_c _ _ b_ch.length _ _ b_hs.length _ (szfs [a_ch.length, a_hs.length] 1048576) _ hm_b_ch hm_b_hs (by omega) (by omega)) ?_
    rintro e w2 ⟨rfl, hb⟩
    have HB2 := Aside0.mk hb
    have sz2 := hb.size
    (try simp only [size_alloc, size_drew, size_drewN] at sz2)
    have NB_a : w2.heap[w.heap.size]? = some (.cells #[.int .i64 a_wi, .slice A_a_ch a_ch.length c_a_ch, .slice A_a_hs a_hs.length c_a_hs] 30 (0, 0)) := (by repeat (with_reducible first | exact BB_a.out | exact blk_new _ | refine blk_new' _ (by simp only [size_alloc]) | refine blk_drewN ?_ _ | refine blk_drew ?_ | refine blk_alloc ?_ _ | refine blk_below ?_ HB2.out ))
    clear BB_a lt_a rd_a
    have BB_a := Aside0.mk NB_a
    have lt_a := blk_lt NB_a
    have rd_a := blk_cell NB_a
    clear NB_a
    have NB_b : w2.heap[w.heap.size + 1]? = some (.cells #[.int .i64 b_wi, .slice A_b_ch b_ch.length c_b_ch, .slice A_b_hs b_hs.length c_b_hs] 30 (0, 0)) := (by repeat (with_reducible first | exact BB_b.out | exact blk_new _ | refine blk_new' _ (by simp only [size_alloc]) | refine blk_drewN ?_ _ | refine blk_drew ?_ | refine blk_alloc ?_ _ | refine blk_below ?_ HB2.out ))
    clear BB_b lt_b rd_b
    have BB_b := Aside0.mk NB_b
    have lt_b := blk_lt NB_b
    have rd_b := blk_cell NB_b
    clear NB_b
    clear hb
    go_wp2
    go_ret
    exact ⟨rfl, (by repeat (with_reducible first | exact Below.refl _ _ | refine below_alloc ?_ _ | refine below_drew ?_ | refine pw_below_drewN ?_ _ | refine below_end ?_ HB2.out | refine below_end ?_ HB1.out ))⟩
  have hl1 := szfs_nn _ _ (by omega) hz1
  (try simp only [List.sum_cons, List.sum_nil] at hl1)
  have hle1 := szfs_le [b_ch.length, b_hs.length] (szfs [a_ch.length, a_hs.length] 1048576) (by omega)
  obtain ⟨r_co, r_va, hval⟩ : ∃ r_co r_va, Aside0 (countTurned a_wi a_ch a_hs b_wi b_ch b_hs = (r_co, r_va)) := ⟨_, _, ⟨rfl⟩⟩
  go_enter Try.func8, Try.ntmps8
  go_wp2_with fail
  refine Calls.mono (szGrid_c _ _ a_ch.length _ _ a_hs.length _ 1048576 _ hm_a_ch hm_a_hs (by omega) (by omega)) ?_
  rintro e w1 ⟨rfl, hb⟩
  have HB1 := Aside0.mk hb
  have sz1 := hb.size
  (try simp only [size_alloc, size_drew, size_drewN] at sz1)
  have NB_a : w1.heap[w.heap.size]? = some (.cells #[.int .i64 a_wi, .slice A_a_ch a_ch.length c_a_ch, .slice A_a_hs a_hs.length c_a_hs] 30 (0, 0)) := (by repeat (with_reducible first | exact blk_new _ | refine blk_new' _ (by simp only [size_alloc]) | refine blk_drewN ?_ _ | refine blk_drew ?_ | refine blk_alloc ?_ _ | refine blk_below ?_ HB1.out))
  have BB_a := Aside0.mk NB_a
  have lt_a := blk_lt NB_a
  have rd_a := blk_cell NB_a
  clear NB_a
  have NB_b : w1.heap[w.heap.size + 1]? = some (.cells #[.int .i64 b_wi, .slice A_b_ch b_ch.length c_b_ch, .slice A_b_hs b_hs.length c_b_hs] 30 (0, 0)) := (by repeat (with_reducible first | exact blk_new _ | refine blk_new' _ (by simp only [size_alloc]) | refine blk_drewN ?_ _ | refine blk_drew ?_ | refine blk_alloc ?_ _ | refine blk_below ?_ HB1.out))
  have BB_b := Aside0.mk NB_b
  have lt_b := blk_lt NB_b
  have rd_b := blk_cell NB_b
  clear NB_b
  clear hb
  go_wp2_with fail
  refine Calls.mono (szGrid_c _ _ b_ch.length _ _ b_hs.length _ (szfs [a_ch.length, a_hs.length] 1048576) _ hm_b_ch hm_b_hs (by omega) (by omega)) ?_
  rintro e w2 ⟨rfl, hb⟩
  have HB2 := Aside0.mk hb
  have sz2 := hb.size
  (try simp only [size_alloc, size_drew, size_drewN] at sz2)
  have NB_a : w2.heap[w.heap.size]? = some (.cells #[.int .i64 a_wi, .slice A_a_ch a_ch.length c_a_ch, .slice A_a_hs a_hs.length c_a_hs] 30 (0, 0)) := (by repeat (with_reducible first | exact BB_a.out | exact blk_new _ | refine blk_new' _ (by simp only [size_alloc]) | refine blk_drewN ?_ _ | refine blk_drew ?_ | refine blk_alloc ?_ _ | refine blk_below ?_ HB2.out ))
  clear BB_a lt_a rd_a
  have BB_a := Aside0.mk NB_a
  have lt_a := blk_lt NB_a
  have rd_a := blk_cell NB_a
  clear NB_a
  have NB_b : w2.heap[w.heap.size + 1]? = some (.cells #[.int .i64 b_wi, .slice A_b_ch b_ch.length c_b_ch, .slice A_b_hs b_hs.length c_b_hs] 30 (0, 0)) := (by repeat (with_reducible first | exact BB_b.out | exact blk_new _ | refine blk_new' _ (by simp only [size_alloc]) | refine blk_drewN ?_ _ | refine blk_drew ?_ | refine blk_alloc ?_ _ | refine blk_below ?_ HB2.out ))
  clear BB_b lt_b rd_b
  have BB_b := Aside0.mk NB_b
  have lt_b := blk_lt NB_b
  have rd_b := blk_cell NB_b
  clear NB_b
  clear hb
  have hveq : eqv (r_co, r_va) (r_co, r_va) = true := eqv_self _
  go_wp2_with fail
  go_cut [6] (fun sv wx => ∃ g : Nat, sv = .pointer (some ⟨g, 0, none⟩) ∧ wx.heap[g]? = some (.cells #[.int .i64 r_co, .int .i64 r_va] 58 (0, 0)) ∧ Aside0 (Below w2.heap.size w2 wx))
  case first =>
    go_region_held3 (fun W : World => (∀ i, W.cell? ⟨w.heap.size, i, none⟩ = (#[.int .i64 a_wi, .slice A_a_ch a_ch.length c_a_ch, .slice A_a_hs a_hs.length c_a_hs] : Array Value)[i]?) ∧ (∀ i, W.cell? ⟨w.heap.size + 1, i, none⟩ = (#[.int .i64 b_wi, .slice A_b_ch b_ch.length c_b_ch, .slice A_b_hs b_hs.length c_b_hs] : Array Value)[i]?)) (first | ((repeat' apply And.intro) <;> (intro i; (repeat (first | refine (World.cell?_setCell_far _ _ _ _ (by dsimp only; omega)).trans ?_ | refine (World.cell?_alloc_lt _ _ _ (by dsimp only; first | exact lt_a | exact lt_b)).trans ?_)); first | exact rd_a i | exact rd_b i)) | go_keep)
      (first
        | (go_at_call_of 19 A_a_ch; refine Calls.mono (toGrid_c _ _ _ a_ch _ _ a_hs _ (by repeat (with_reducible first | exact HC_a_ch.out | refine Kd.C_alloc ?_ _ | refine Kd.C_drewN ?_ _ | refine Kd.C_drew ?_ | refine Kd.C_below ?_ HB2.out | refine Kd.C_below ?_ HB1.out )) (by repeat (with_reducible first | exact HC_a_hs.out | refine Kd.C_alloc ?_ _ | refine Kd.C_drewN ?_ _ | refine Kd.C_drew ?_ | refine Kd.C_below ?_ HB2.out | refine Kd.C_below ?_ HB1.out )) (by omega) (by omega)) ?_; rintro e w3 ⟨P0_a_ch, p0_a_ch, P0_a_hs, p0_a_hs, rfl, le_P0_a_ch, r_P0_a_ch, le_P0_a_hs, r_P0_a_hs, hb⟩; have HR_P0_a_ch := Aside0.mk r_P0_a_ch; have HK_P0_a_ch := Aside0.mk (Kd.R_reads' r_P0_a_ch).2.2; have LO_P0_a_ch := Aside0.mk (Kd.R_base r_P0_a_ch); have HI_P0_a_ch := Aside0.mk (Kd.R_lt r_P0_a_ch); (try simp only [size_alloc, size_drew, size_drewN] at LO_P0_a_ch); have HR_P0_a_hs := Aside0.mk r_P0_a_hs; have HK_P0_a_hs := Aside0.mk (Kd.R_reads' r_P0_a_hs).2.2; have LO_P0_a_hs := Aside0.mk (Kd.R_base r_P0_a_hs); have HI_P0_a_hs := Aside0.mk (Kd.R_lt r_P0_a_hs); (try simp only [size_alloc, size_drew, size_drewN] at LO_P0_a_hs); clear r_P0_a_ch r_P0_a_hs; have HB3 := Aside0.mk hb; have sz3 := hb.size; (try simp only [size_alloc, size_drew, size_drewN] at sz3); have NB_a : w3.heap[w.heap.size]? = some (.cells #[.int .i64 a_wi, .slice A_a_ch a_ch.length c_a_ch, .slice A_a_hs a_hs.length c_a_hs] 30 (0, 0)) := (by repeat (with_reducible first | exact BB_a.out | exact blk_new _ | refine blk_new' _ (by simp only [size_alloc]) | refine blk_drewN ?_ _ | refine blk_drew ?_ | refine blk_alloc ?_ _ | refine blk_below ?_ HB3.out )); clear BB_a lt_a rd_a; have BB_a := Aside0.mk NB_a; have lt_a := blk_lt NB_a; have rd_a := blk_cell NB_a; clear NB_a; have NB_b : w3.heap[w.heap.size + 1]? = some (.cells #[.int .i64 b_wi, .slice A_b_ch b_ch.length c_b_ch, .slice A_b_hs b_hs.length c_b_hs] 30 (0, 0)) := (by repeat (with_reducible first | exact BB_b.out | exact blk_new _ | refine blk_new' _ (by simp only [size_alloc]) | refine blk_drewN ?_ _ | refine blk_drew ?_ | refine blk_alloc ?_ _ | refine blk_below ?_ HB3.out )); clear BB_b lt_b rd_b; have BB_b := Aside0.mk NB_b; have lt_b := blk_lt NB_b; have rd_b := blk_cell NB_b; clear NB_b; have hx3 := (bcell hb).1; have hf3 := (bcell hb).2; (try have lt2_3 : w2.heap.size < w3.heap.size := by omega); clear hb)
        | (go_at_call_of 19 A_b_ch; refine Calls.mono (toGrid_c _ _ _ b_ch _ _ b_hs _ (by repeat (with_reducible first | exact HC_b_ch.out | refine Kd.C_alloc ?_ _ | refine Kd.C_drewN ?_ _ | refine Kd.C_drew ?_ | refine Kd.C_below ?_ HB3.out | refine Kd.C_below ?_ HB2.out | refine Kd.C_below ?_ HB1.out )) (by repeat (with_reducible first | exact HC_b_hs.out | refine Kd.C_alloc ?_ _ | refine Kd.C_drewN ?_ _ | refine Kd.C_drew ?_ | refine Kd.C_below ?_ HB3.out | refine Kd.C_below ?_ HB2.out | refine Kd.C_below ?_ HB1.out )) (by omega) (by omega)) ?_; rintro e w4 ⟨P1_b_ch, p1_b_ch, P1_b_hs, p1_b_hs, rfl, le_P1_b_ch, r_P1_b_ch, le_P1_b_hs, r_P1_b_hs, hb⟩; have HR_P1_b_ch := Aside0.mk r_P1_b_ch; have HK_P1_b_ch := Aside0.mk (Kd.R_reads' r_P1_b_ch).2.2; have LO_P1_b_ch := Aside0.mk (Kd.R_base r_P1_b_ch); have HI_P1_b_ch := Aside0.mk (Kd.R_lt r_P1_b_ch); (try simp only [size_alloc, size_drew, size_drewN] at LO_P1_b_ch); have HR_P1_b_hs := Aside0.mk r_P1_b_hs; have HK_P1_b_hs := Aside0.mk (Kd.R_reads' r_P1_b_hs).2.2; have LO_P1_b_hs := Aside0.mk (Kd.R_base r_P1_b_hs); have HI_P1_b_hs := Aside0.mk (Kd.R_lt r_P1_b_hs); (try simp only [size_alloc, size_drew, size_drewN] at LO_P1_b_hs); clear r_P1_b_ch r_P1_b_hs; have HB4 := Aside0.mk hb; have sz4 := hb.size; (try simp only [size_alloc, size_drew, size_drewN] at sz4); have NB_a : w4.heap[w.heap.size]? = some (.cells #[.int .i64 a_wi, .slice A_a_ch a_ch.length c_a_ch, .slice A_a_hs a_hs.length c_a_hs] 30 (0, 0)) := (by repeat (with_reducible first | exact BB_a.out | exact blk_new _ | refine blk_new' _ (by simp only [size_alloc]) | refine blk_drewN ?_ _ | refine blk_drew ?_ | refine blk_alloc ?_ _ | refine blk_below ?_ HB4.out )); clear BB_a lt_a rd_a; have BB_a := Aside0.mk NB_a; have lt_a := blk_lt NB_a; have rd_a := blk_cell NB_a; clear NB_a; have NB_b : w4.heap[w.heap.size + 1]? = some (.cells #[.int .i64 b_wi, .slice A_b_ch b_ch.length c_b_ch, .slice A_b_hs b_hs.length c_b_hs] 30 (0, 0)) := (by repeat (with_reducible first | exact BB_b.out | exact blk_new _ | refine blk_new' _ (by simp only [size_alloc]) | refine blk_drewN ?_ _ | refine blk_drew ?_ | refine blk_alloc ?_ _ | refine blk_below ?_ HB4.out )); clear BB_b lt_b rd_b; have BB_b := Aside0.mk NB_b; have lt_b := blk_lt NB_b; have rd_b := blk_cell NB_b; clear NB_b; have hx4 := (bcell hb).1; have hf4 := (bcell hb).2; (try have lt2_4 : w2.heap.size < w4.heap.size := by omega); (try have lt3_4 : w3.heap.size < w4.heap.size := by omega); clear hb)
        | (go_at_call 37; refine Calls.mono (specCountTurned_c a_wi _ _ a_ch _ _ a_hs b_wi _ _ b_ch _ _ b_hs _ (by repeat (with_reducible first | exact HK_P0_a_ch.out | refine Kd.C_alloc ?_ _ | refine Kd.C_drewN ?_ _ | refine Kd.C_drew ?_ | refine Kd.C_below ?_ HB4.out )) (by repeat (with_reducible first | exact HK_P0_a_hs.out | refine Kd.C_alloc ?_ _ | refine Kd.C_drewN ?_ _ | refine Kd.C_drew ?_ | refine Kd.C_below ?_ HB4.out )) (by repeat (with_reducible first | exact HK_P1_b_ch.out | refine Kd.C_alloc ?_ _ | refine Kd.C_drewN ?_ _ | refine Kd.C_drew ?_ )) (by repeat (with_reducible first | exact HK_P1_b_hs.out | refine Kd.C_alloc ?_ _ | refine Kd.C_drewN ?_ _ | refine Kd.C_drew ?_ )) le_P0_a_ch le_P0_a_hs le_P1_b_ch le_P1_b_hs ) ?_; rintro e w5 ⟨he, hb⟩; rw [hval.out] at he; (try dsimp only at he); subst he; have HB5 := Aside0.mk hb; have sz5 := hb.size; (try simp only [size_alloc, size_drew, size_drewN] at sz5); have NB_a : w5.heap[w.heap.size]? = some (.cells #[.int .i64 a_wi, .slice A_a_ch a_ch.length c_a_ch, .slice A_a_hs a_hs.length c_a_hs] 30 (0, 0)) := (by repeat (with_reducible first | exact BB_a.out | exact blk_new _ | refine blk_new' _ (by simp only [size_alloc]) | refine blk_drewN ?_ _ | refine blk_drew ?_ | refine blk_alloc ?_ _ | refine blk_below ?_ HB5.out )); clear BB_a lt_a rd_a; have BB_a := Aside0.mk NB_a; have lt_a := blk_lt NB_a; have rd_a := blk_cell NB_a; clear NB_a; have NB_b : w5.heap[w.heap.size + 1]? = some (.cells #[.int .i64 b_wi, .slice A_b_ch b_ch.length c_b_ch, .slice A_b_hs b_hs.length c_b_hs] 30 (0, 0)) := (by repeat (with_reducible first | exact BB_b.out | exact blk_new _ | refine blk_new' _ (by simp only [size_alloc]) | refine blk_drewN ?_ _ | refine blk_drew ?_ | refine blk_alloc ?_ _ | refine blk_below ?_ HB5.out )); clear BB_b lt_b rd_b; have BB_b := Aside0.mk NB_b; have lt_b := blk_lt NB_b; have rd_b := blk_cell NB_b; clear NB_b; have hx5 := (bcell hb).1; have hf5 := (bcell hb).2; (try have lt2_5 : w2.heap.size < w5.heap.size := by omega); (try have lt3_5 : w3.heap.size < w5.heap.size := by omega); (try have lt4_5 : w4.heap.size < w5.heap.size := by omega); clear hb))
    all_goals
      go_wp2
      go_meet
      refine ⟨_, rfl, ?_, ⟨(by repeat (with_reducible first | exact Below.refl _ _ | refine below_alloc ?_ _ | refine below_drew ?_ | refine pw_below_drewN ?_ _ | refine Below.setCell ?_ (by dsimp only; omega) _ | refine below_end ?_ HB5.out | refine below_end ?_ HB4.out | refine below_end ?_ HB3.out ))⟩⟩
      ((repeat (with_reducible apply blk_set)); (repeat (with_reducible first | exact blk_new _ | refine blk_new' _ (by simp only [size_alloc, size_drew, size_drewN]) | refine blk_drewN ?_ _ | refine blk_drew ?_ | refine blk_alloc ?_ _ | refine blk_below ?_ HB5.out | refine blk_below ?_ HB4.out | refine blk_below ?_ HB3.out )); all_goals rfl)
  case rest =>
    obtain ⟨gW, rfl, hg, HBc⟩ := hcut
    have hb := HBc.out
    clear HBc
    rename World => w6
    have HB6 := Aside0.mk hb
    have sz6 := hb.size
    (try simp only [size_alloc, size_drew, size_drewN] at sz6)
    have NB_a : w6.heap[w.heap.size]? = some (.cells #[.int .i64 a_wi, .slice A_a_ch a_ch.length c_a_ch, .slice A_a_hs a_hs.length c_a_hs] 30 (0, 0)) := (by repeat (with_reducible first | exact BB_a.out | exact blk_new _ | refine blk_new' _ (by simp only [size_alloc]) | refine blk_drewN ?_ _ | refine blk_drew ?_ | refine blk_alloc ?_ _ | refine blk_below ?_ HB6.out ))
    clear BB_a lt_a rd_a
    have BB_a := Aside0.mk NB_a
    have lt_a := blk_lt NB_a
    have rd_a := blk_cell NB_a
    clear NB_a
    have NB_b : w6.heap[w.heap.size + 1]? = some (.cells #[.int .i64 b_wi, .slice A_b_ch b_ch.length c_b_ch, .slice A_b_hs b_hs.length c_b_hs] 30 (0, 0)) := (by repeat (with_reducible first | exact BB_b.out | exact blk_new _ | refine blk_new' _ (by simp only [size_alloc]) | refine blk_drewN ?_ _ | refine blk_drew ?_ | refine blk_alloc ?_ _ | refine blk_below ?_ HB6.out ))
    clear BB_b lt_b rd_b
    have BB_b := Aside0.mk NB_b
    have lt_b := blk_lt NB_b
    have rd_b := blk_cell NB_b
    clear NB_b
    have NB_w0 : w6.heap[gW]? = some (.cells #[.int .i64 r_co, .int .i64 r_va] 58 (0, 0)) := hg
    have BB_w0 := Aside0.mk NB_w0
    have lt_w0 := blk_lt NB_w0
    have rd_w0 := blk_cell NB_w0
    clear NB_w0
    clear hb
    go_wp2_with fail
    refine Calls.mono (toGrid_c _ _ _ a_ch _ _ a_hs _ (by repeat (with_reducible first | exact HC_a_ch.out | refine Kd.C_alloc ?_ _ | refine Kd.C_drewN ?_ _ | refine Kd.C_drew ?_ | refine Kd.C_below ?_ HB6.out | refine Kd.C_below ?_ HB2.out | refine Kd.C_below ?_ HB1.out )) (by repeat (with_reducible first | exact HC_a_hs.out | refine Kd.C_alloc ?_ _ | refine Kd.C_drewN ?_ _ | refine Kd.C_drew ?_ | refine Kd.C_below ?_ HB6.out | refine Kd.C_below ?_ HB2.out | refine Kd.C_below ?_ HB1.out )) (by omega) (by omega)) ?_
    rintro e w7 ⟨X0_a_ch, x0_a_ch, X0_a_hs, x0_a_hs, rfl, le_X0_a_ch, r_X0_a_ch, le_X0_a_hs, r_X0_a_hs, hb⟩
    have HR_X0_a_ch := Aside0.mk r_X0_a_ch
    have HK_X0_a_ch := Aside0.mk (Kd.R_reads' r_X0_a_ch).2.2
    have LO_X0_a_ch := Aside0.mk (Kd.R_base r_X0_a_ch)
    have HI_X0_a_ch := Aside0.mk (Kd.R_lt r_X0_a_ch)
    (try simp only [size_alloc, size_drew, size_drewN] at LO_X0_a_ch)
    have HR_X0_a_hs := Aside0.mk r_X0_a_hs
    have HK_X0_a_hs := Aside0.mk (Kd.R_reads' r_X0_a_hs).2.2
    have LO_X0_a_hs := Aside0.mk (Kd.R_base r_X0_a_hs)
    have HI_X0_a_hs := Aside0.mk (Kd.R_lt r_X0_a_hs)
    (try simp only [size_alloc, size_drew, size_drewN] at LO_X0_a_hs)
    clear r_X0_a_ch r_X0_a_hs
    have HB7 := Aside0.mk hb
    have sz7 := hb.size
    (try simp only [size_alloc, size_drew, size_drewN] at sz7)
    have NB_a : w7.heap[w.heap.size]? = some (.cells #[.int .i64 a_wi, .slice A_a_ch a_ch.length c_a_ch, .slice A_a_hs a_hs.length c_a_hs] 30 (0, 0)) := (by repeat (with_reducible first | exact BB_a.out | exact blk_new _ | refine blk_new' _ (by simp only [size_alloc]) | refine blk_drewN ?_ _ | refine blk_drew ?_ | refine blk_alloc ?_ _ | refine blk_below ?_ HB7.out ))
    clear BB_a lt_a rd_a
    have BB_a := Aside0.mk NB_a
    have lt_a := blk_lt NB_a
    have rd_a := blk_cell NB_a
    clear NB_a
    have NB_b : w7.heap[w.heap.size + 1]? = some (.cells #[.int .i64 b_wi, .slice A_b_ch b_ch.length c_b_ch, .slice A_b_hs b_hs.length c_b_hs] 30 (0, 0)) := (by repeat (with_reducible first | exact BB_b.out | exact blk_new _ | refine blk_new' _ (by simp only [size_alloc]) | refine blk_drewN ?_ _ | refine blk_drew ?_ | refine blk_alloc ?_ _ | refine blk_below ?_ HB7.out ))
    clear BB_b lt_b rd_b
    have BB_b := Aside0.mk NB_b
    have lt_b := blk_lt NB_b
    have rd_b := blk_cell NB_b
    clear NB_b
    have NB_w0 : w7.heap[gW]? = some (.cells #[.int .i64 r_co, .int .i64 r_va] 58 (0, 0)) := (by repeat (with_reducible first | exact BB_w0.out | exact blk_new _ | refine blk_new' _ (by simp only [size_alloc]) | refine blk_drewN ?_ _ | refine blk_drew ?_ | refine blk_alloc ?_ _ | refine blk_below ?_ HB7.out ))
    clear BB_w0 lt_w0 rd_w0
    have BB_w0 := Aside0.mk NB_w0
    have lt_w0 := blk_lt NB_w0
    have rd_w0 := blk_cell NB_w0
    clear NB_w0
    clear hb
    go_wp2_with fail
    refine Calls.mono (toGrid_c _ _ _ b_ch _ _ b_hs _ (by repeat (with_reducible first | exact HC_b_ch.out | refine Kd.C_alloc ?_ _ | refine Kd.C_drewN ?_ _ | refine Kd.C_drew ?_ | refine Kd.C_below ?_ HB7.out | refine Kd.C_below ?_ HB6.out | refine Kd.C_below ?_ HB2.out | refine Kd.C_below ?_ HB1.out )) (by repeat (with_reducible first | exact HC_b_hs.out | refine Kd.C_alloc ?_ _ | refine Kd.C_drewN ?_ _ | refine Kd.C_drew ?_ | refine Kd.C_below ?_ HB7.out | refine Kd.C_below ?_ HB6.out | refine Kd.C_below ?_ HB2.out | refine Kd.C_below ?_ HB1.out )) (by omega) (by omega)) ?_
    rintro e w8 ⟨X1_b_ch, x1_b_ch, X1_b_hs, x1_b_hs, rfl, le_X1_b_ch, r_X1_b_ch, le_X1_b_hs, r_X1_b_hs, hb⟩
    have HR_X1_b_ch := Aside0.mk r_X1_b_ch
    have HK_X1_b_ch := Aside0.mk (Kd.R_reads' r_X1_b_ch).2.2
    have LO_X1_b_ch := Aside0.mk (Kd.R_base r_X1_b_ch)
    have HI_X1_b_ch := Aside0.mk (Kd.R_lt r_X1_b_ch)
    (try simp only [size_alloc, size_drew, size_drewN] at LO_X1_b_ch)
    have HR_X1_b_hs := Aside0.mk r_X1_b_hs
    have HK_X1_b_hs := Aside0.mk (Kd.R_reads' r_X1_b_hs).2.2
    have LO_X1_b_hs := Aside0.mk (Kd.R_base r_X1_b_hs)
    have HI_X1_b_hs := Aside0.mk (Kd.R_lt r_X1_b_hs)
    (try simp only [size_alloc, size_drew, size_drewN] at LO_X1_b_hs)
    clear r_X1_b_ch r_X1_b_hs
    have HB8 := Aside0.mk hb
    have sz8 := hb.size
    (try simp only [size_alloc, size_drew, size_drewN] at sz8)
    have NB_a : w8.heap[w.heap.size]? = some (.cells #[.int .i64 a_wi, .slice A_a_ch a_ch.length c_a_ch, .slice A_a_hs a_hs.length c_a_hs] 30 (0, 0)) := (by repeat (with_reducible first | exact BB_a.out | exact blk_new _ | refine blk_new' _ (by simp only [size_alloc]) | refine blk_drewN ?_ _ | refine blk_drew ?_ | refine blk_alloc ?_ _ | refine blk_below ?_ HB8.out ))
    clear BB_a lt_a rd_a
    have BB_a := Aside0.mk NB_a
    have lt_a := blk_lt NB_a
    have rd_a := blk_cell NB_a
    clear NB_a
    have NB_b : w8.heap[w.heap.size + 1]? = some (.cells #[.int .i64 b_wi, .slice A_b_ch b_ch.length c_b_ch, .slice A_b_hs b_hs.length c_b_hs] 30 (0, 0)) := (by repeat (with_reducible first | exact BB_b.out | exact blk_new _ | refine blk_new' _ (by simp only [size_alloc]) | refine blk_drewN ?_ _ | refine blk_drew ?_ | refine blk_alloc ?_ _ | refine blk_below ?_ HB8.out ))
    clear BB_b lt_b rd_b
    have BB_b := Aside0.mk NB_b
    have lt_b := blk_lt NB_b
    have rd_b := blk_cell NB_b
    clear NB_b
    have NB_w0 : w8.heap[gW]? = some (.cells #[.int .i64 r_co, .int .i64 r_va] 58 (0, 0)) := (by repeat (with_reducible first | exact BB_w0.out | exact blk_new _ | refine blk_new' _ (by simp only [size_alloc]) | refine blk_drewN ?_ _ | refine blk_drew ?_ | refine blk_alloc ?_ _ | refine blk_below ?_ HB8.out ))
    clear BB_w0 lt_w0 rd_w0
    have BB_w0 := Aside0.mk NB_w0
    have lt_w0 := blk_lt NB_w0
    have rd_w0 := blk_cell NB_w0
    clear NB_w0
    have NB_x0 : w8.heap[w7.heap.size]? = some (.cells #[.int .i64 a_wi, .slice X0_a_ch a_ch.length x0_a_ch, .slice X0_a_hs a_hs.length x0_a_hs] 33 (0, 0)) := (by repeat (with_reducible first | exact blk_new _ | refine blk_new' _ (by simp only [size_alloc]) | refine blk_drewN ?_ _ | refine blk_drew ?_ | refine blk_alloc ?_ _ | refine blk_below ?_ HB8.out))
    have BB_x0 := Aside0.mk NB_x0
    have lt_x0 := blk_lt NB_x0
    have rd_x0 := blk_cell NB_x0
    clear NB_x0
    clear hb
    go_wp2_with fail
    refine Calls.mono (CountTurned_c a_wi _ _ a_ch _ _ a_hs b_wi _ _ b_ch _ _ b_hs _ (by repeat (with_reducible first | exact HK_X0_a_ch.out | refine Kd.C_alloc ?_ _ | refine Kd.C_drewN ?_ _ | refine Kd.C_drew ?_ | refine Kd.C_below ?_ HB8.out )) (by repeat (with_reducible first | exact HK_X0_a_hs.out | refine Kd.C_alloc ?_ _ | refine Kd.C_drewN ?_ _ | refine Kd.C_drew ?_ | refine Kd.C_below ?_ HB8.out )) (by repeat (with_reducible first | exact HK_X1_b_ch.out | refine Kd.C_alloc ?_ _ | refine Kd.C_drewN ?_ _ | refine Kd.C_drew ?_ )) (by repeat (with_reducible first | exact HK_X1_b_hs.out | refine Kd.C_alloc ?_ _ | refine Kd.C_drewN ?_ _ | refine Kd.C_drew ?_ )) le_X0_a_ch le_X0_a_hs le_X1_b_ch le_X1_b_hs ) ?_
    rintro e w9 ⟨he, hb⟩
    rw [hval.out] at he
    (try dsimp only at he)
    subst he
    have HB9 := Aside0.mk hb
    have sz9 := hb.size
    (try simp only [size_alloc, size_drew, size_drewN] at sz9)
    have NB_a : w9.heap[w.heap.size]? = some (.cells #[.int .i64 a_wi, .slice A_a_ch a_ch.length c_a_ch, .slice A_a_hs a_hs.length c_a_hs] 30 (0, 0)) := (by repeat (with_reducible first | exact BB_a.out | exact blk_new _ | refine blk_new' _ (by simp only [size_alloc]) | refine blk_drewN ?_ _ | refine blk_drew ?_ | refine blk_alloc ?_ _ | refine blk_below ?_ HB9.out ))
    clear BB_a lt_a rd_a
    have BB_a := Aside0.mk NB_a
    have lt_a := blk_lt NB_a
    have rd_a := blk_cell NB_a
    clear NB_a
    have NB_b : w9.heap[w.heap.size + 1]? = some (.cells #[.int .i64 b_wi, .slice A_b_ch b_ch.length c_b_ch, .slice A_b_hs b_hs.length c_b_hs] 30 (0, 0)) := (by repeat (with_reducible first | exact BB_b.out | exact blk_new _ | refine blk_new' _ (by simp only [size_alloc]) | refine blk_drewN ?_ _ | refine blk_drew ?_ | refine blk_alloc ?_ _ | refine blk_below ?_ HB9.out ))
    clear BB_b lt_b rd_b
    have BB_b := Aside0.mk NB_b
    have lt_b := blk_lt NB_b
    have rd_b := blk_cell NB_b
    clear NB_b
    have NB_w0 : w9.heap[gW]? = some (.cells #[.int .i64 r_co, .int .i64 r_va] 58 (0, 0)) := (by repeat (with_reducible first | exact BB_w0.out | exact blk_new _ | refine blk_new' _ (by simp only [size_alloc]) | refine blk_drewN ?_ _ | refine blk_drew ?_ | refine blk_alloc ?_ _ | refine blk_below ?_ HB9.out ))
    clear BB_w0 lt_w0 rd_w0
    have BB_w0 := Aside0.mk NB_w0
    have lt_w0 := blk_lt NB_w0
    have rd_w0 := blk_cell NB_w0
    clear NB_w0
    have NB_x0 : w9.heap[w7.heap.size]? = some (.cells #[.int .i64 a_wi, .slice X0_a_ch a_ch.length x0_a_ch, .slice X0_a_hs a_hs.length x0_a_hs] 33 (0, 0)) := (by repeat (with_reducible first | exact BB_x0.out | exact blk_new _ | refine blk_new' _ (by simp only [size_alloc]) | refine blk_drewN ?_ _ | refine blk_drew ?_ | refine blk_alloc ?_ _ | refine blk_below ?_ HB9.out ))
    clear BB_x0 lt_x0 rd_x0
    have BB_x0 := Aside0.mk NB_x0
    have lt_x0 := blk_lt NB_x0
    have rd_x0 := blk_cell NB_x0
    clear NB_x0
    have NB_x1 : w9.heap[w8.heap.size]? = some (.cells #[.int .i64 b_wi, .slice X1_b_ch b_ch.length x1_b_ch, .slice X1_b_hs b_hs.length x1_b_hs] 33 (0, 0)) := (by repeat (with_reducible first | exact blk_new _ | refine blk_new' _ (by simp only [size_alloc]) | refine blk_drewN ?_ _ | refine blk_drew ?_ | refine blk_alloc ?_ _ | refine blk_below ?_ HB9.out))
    have BB_x1 := Aside0.mk NB_x1
    have lt_x1 := blk_lt NB_x1
    have rd_x1 := blk_cell NB_x1
    clear NB_x1
    clear hb
    go_wp2_with fail
    refine Calls.mono (eqIntResult_c _ _ _ _ _  ) ?_
    rintro e w10 ⟨rfl, hb⟩
    have HB10 := Aside0.mk hb
    have sz10 := hb.size
    (try simp only [size_alloc, size_drew, size_drewN] at sz10)
    have NB_a : w10.heap[w.heap.size]? = some (.cells #[.int .i64 a_wi, .slice A_a_ch a_ch.length c_a_ch, .slice A_a_hs a_hs.length c_a_hs] 30 (0, 0)) := (by repeat (with_reducible first | exact BB_a.out | exact blk_new _ | refine blk_new' _ (by simp only [size_alloc]) | refine blk_drewN ?_ _ | refine blk_drew ?_ | refine blk_alloc ?_ _ | refine blk_below ?_ HB10.out ))
    clear BB_a lt_a rd_a
    have BB_a := Aside0.mk NB_a
    have lt_a := blk_lt NB_a
    have rd_a := blk_cell NB_a
    clear NB_a
    have NB_b : w10.heap[w.heap.size + 1]? = some (.cells #[.int .i64 b_wi, .slice A_b_ch b_ch.length c_b_ch, .slice A_b_hs b_hs.length c_b_hs] 30 (0, 0)) := (by repeat (with_reducible first | exact BB_b.out | exact blk_new _ | refine blk_new' _ (by simp only [size_alloc]) | refine blk_drewN ?_ _ | refine blk_drew ?_ | refine blk_alloc ?_ _ | refine blk_below ?_ HB10.out ))
    clear BB_b lt_b rd_b
    have BB_b := Aside0.mk NB_b
    have lt_b := blk_lt NB_b
    have rd_b := blk_cell NB_b
    clear NB_b
    have NB_w0 : w10.heap[gW]? = some (.cells #[.int .i64 r_co, .int .i64 r_va] 58 (0, 0)) := (by repeat (with_reducible first | exact BB_w0.out | exact blk_new _ | refine blk_new' _ (by simp only [size_alloc]) | refine blk_drewN ?_ _ | refine blk_drew ?_ | refine blk_alloc ?_ _ | refine blk_below ?_ HB10.out ))
    clear BB_w0 lt_w0 rd_w0
    have BB_w0 := Aside0.mk NB_w0
    have lt_w0 := blk_lt NB_w0
    have rd_w0 := blk_cell NB_w0
    clear NB_w0
    have NB_x0 : w10.heap[w7.heap.size]? = some (.cells #[.int .i64 a_wi, .slice X0_a_ch a_ch.length x0_a_ch, .slice X0_a_hs a_hs.length x0_a_hs] 33 (0, 0)) := (by repeat (with_reducible first | exact BB_x0.out | exact blk_new _ | refine blk_new' _ (by simp only [size_alloc]) | refine blk_drewN ?_ _ | refine blk_drew ?_ | refine blk_alloc ?_ _ | refine blk_below ?_ HB10.out ))
    clear BB_x0 lt_x0 rd_x0
    have BB_x0 := Aside0.mk NB_x0
    have lt_x0 := blk_lt NB_x0
    have rd_x0 := blk_cell NB_x0
    clear NB_x0
    have NB_x1 : w10.heap[w8.heap.size]? = some (.cells #[.int .i64 b_wi, .slice X1_b_ch b_ch.length x1_b_ch, .slice X1_b_hs b_hs.length x1_b_hs] 33 (0, 0)) := (by repeat (with_reducible first | exact BB_x1.out | exact blk_new _ | refine blk_new' _ (by simp only [size_alloc]) | refine blk_drewN ?_ _ | refine blk_drew ?_ | refine blk_alloc ?_ _ | refine blk_below ?_ HB10.out ))
    clear BB_x1 lt_x1 rd_x1
    have BB_x1 := Aside0.mk NB_x1
    have lt_x1 := blk_lt NB_x1
    have rd_x1 := blk_cell NB_x1
    clear NB_x1
    have NB_g0 : w10.heap[w9.heap.size]? = some (.cells #[.int .i64 r_co, .int .i64 r_va] 58 (0, 0)) := (by repeat (with_reducible first | exact blk_new _ | refine blk_new' _ (by simp only [size_alloc]) | refine blk_drewN ?_ _ | refine blk_drew ?_ | refine blk_alloc ?_ _ | refine blk_below ?_ HB10.out))
    have BB_g0 := Aside0.mk NB_g0
    have lt_g0 := blk_lt NB_g0
    have rd_g0 := blk_cell NB_g0
    clear NB_g0
    clear hb
    go_wp2_with fail
    have hae0 : eqv (a_wi, a_ch, a_hs) (a_wi, a_ch, a_hs) = true := eqv_self _
    go_region_held3 (fun W : World => (∀ i, W.cell? ⟨w.heap.size, i, none⟩ = (#[.int .i64 a_wi, .slice A_a_ch a_ch.length c_a_ch, .slice A_a_hs a_hs.length c_a_hs] : Array Value)[i]?) ∧ (∀ i, W.cell? ⟨w7.heap.size, i, none⟩ = (#[.int .i64 a_wi, .slice X0_a_ch a_ch.length x0_a_ch, .slice X0_a_hs a_hs.length x0_a_hs] : Array Value)[i]?)) (go_keep)
      (first
        | (go_at_call 19; refine Calls.mono (toGrid_c _ _ _ a_ch _ _ a_hs _ (by repeat (with_reducible first | exact HC_a_ch.out | refine Kd.C_alloc ?_ _ | refine Kd.C_drewN ?_ _ | refine Kd.C_drew ?_ | refine Kd.C_below ?_ HB10.out | refine Kd.C_below ?_ HB9.out | refine Kd.C_below ?_ HB8.out | refine Kd.C_below ?_ HB7.out | refine Kd.C_below ?_ HB6.out | refine Kd.C_below ?_ HB2.out | refine Kd.C_below ?_ HB1.out )) (by repeat (with_reducible first | exact HC_a_hs.out | refine Kd.C_alloc ?_ _ | refine Kd.C_drewN ?_ _ | refine Kd.C_drew ?_ | refine Kd.C_below ?_ HB10.out | refine Kd.C_below ?_ HB9.out | refine Kd.C_below ?_ HB8.out | refine Kd.C_below ?_ HB7.out | refine Kd.C_below ?_ HB6.out | refine Kd.C_below ?_ HB2.out | refine Kd.C_below ?_ HB1.out )) (by omega) (by omega)) ?_; rintro e w11 ⟨Y0_a_ch, y0_a_ch, Y0_a_hs, y0_a_hs, rfl, le_Y0_a_ch, r_Y0_a_ch, le_Y0_a_hs, r_Y0_a_hs, hb⟩; have HR_Y0_a_ch := Aside0.mk r_Y0_a_ch; have HK_Y0_a_ch := Aside0.mk (Kd.R_reads' r_Y0_a_ch).2.2; have LO_Y0_a_ch := Aside0.mk (Kd.R_base r_Y0_a_ch); have HI_Y0_a_ch := Aside0.mk (Kd.R_lt r_Y0_a_ch); (try simp only [size_alloc, size_drew, size_drewN] at LO_Y0_a_ch); have HR_Y0_a_hs := Aside0.mk r_Y0_a_hs; have HK_Y0_a_hs := Aside0.mk (Kd.R_reads' r_Y0_a_hs).2.2; have LO_Y0_a_hs := Aside0.mk (Kd.R_base r_Y0_a_hs); have HI_Y0_a_hs := Aside0.mk (Kd.R_lt r_Y0_a_hs); (try simp only [size_alloc, size_drew, size_drewN] at LO_Y0_a_hs); clear r_Y0_a_ch r_Y0_a_hs; have HB11 := Aside0.mk hb; have sz11 := hb.size; (try simp only [size_alloc, size_drew, size_drewN] at sz11); have NB_a : w11.heap[w.heap.size]? = some (.cells #[.int .i64 a_wi, .slice A_a_ch a_ch.length c_a_ch, .slice A_a_hs a_hs.length c_a_hs] 30 (0, 0)) := (by repeat (with_reducible first | exact BB_a.out | exact blk_new _ | refine blk_new' _ (by simp only [size_alloc]) | refine blk_drewN ?_ _ | refine blk_drew ?_ | refine blk_alloc ?_ _ | refine blk_below ?_ HB11.out )); clear BB_a lt_a rd_a; have BB_a := Aside0.mk NB_a; have lt_a := blk_lt NB_a; have rd_a := blk_cell NB_a; clear NB_a; have NB_b : w11.heap[w.heap.size + 1]? = some (.cells #[.int .i64 b_wi, .slice A_b_ch b_ch.length c_b_ch, .slice A_b_hs b_hs.length c_b_hs] 30 (0, 0)) := (by repeat (with_reducible first | exact BB_b.out | exact blk_new _ | refine blk_new' _ (by simp only [size_alloc]) | refine blk_drewN ?_ _ | refine blk_drew ?_ | refine blk_alloc ?_ _ | refine blk_below ?_ HB11.out )); clear BB_b lt_b rd_b; have BB_b := Aside0.mk NB_b; have lt_b := blk_lt NB_b; have rd_b := blk_cell NB_b; clear NB_b; have NB_w0 : w11.heap[gW]? = some (.cells #[.int .i64 r_co, .int .i64 r_va] 58 (0, 0)) := (by repeat (with_reducible first | exact BB_w0.out | exact blk_new _ | refine blk_new' _ (by simp only [size_alloc]) | refine blk_drewN ?_ _ | refine blk_drew ?_ | refine blk_alloc ?_ _ | refine blk_below ?_ HB11.out )); clear BB_w0 lt_w0 rd_w0; have BB_w0 := Aside0.mk NB_w0; have lt_w0 := blk_lt NB_w0; have rd_w0 := blk_cell NB_w0; clear NB_w0; have NB_x0 : w11.heap[w7.heap.size]? = some (.cells #[.int .i64 a_wi, .slice X0_a_ch a_ch.length x0_a_ch, .slice X0_a_hs a_hs.length x0_a_hs] 33 (0, 0)) := (by repeat (with_reducible first | exact BB_x0.out | exact blk_new _ | refine blk_new' _ (by simp only [size_alloc]) | refine blk_drewN ?_ _ | refine blk_drew ?_ | refine blk_alloc ?_ _ | refine blk_below ?_ HB11.out )); clear BB_x0 lt_x0 rd_x0; have BB_x0 := Aside0.mk NB_x0; have lt_x0 := blk_lt NB_x0; have rd_x0 := blk_cell NB_x0; clear NB_x0; have NB_x1 : w11.heap[w8.heap.size]? = some (.cells #[.int .i64 b_wi, .slice X1_b_ch b_ch.length x1_b_ch, .slice X1_b_hs b_hs.length x1_b_hs] 33 (0, 0)) := (by repeat (with_reducible first | exact BB_x1.out | exact blk_new _ | refine blk_new' _ (by simp only [size_alloc]) | refine blk_drewN ?_ _ | refine blk_drew ?_ | refine blk_alloc ?_ _ | refine blk_below ?_ HB11.out )); clear BB_x1 lt_x1 rd_x1; have BB_x1 := Aside0.mk NB_x1; have lt_x1 := blk_lt NB_x1; have rd_x1 := blk_cell NB_x1; clear NB_x1; have NB_g0 : w11.heap[w9.heap.size]? = some (.cells #[.int .i64 r_co, .int .i64 r_va] 58 (0, 0)) := (by repeat (with_reducible first | exact BB_g0.out | exact blk_new _ | refine blk_new' _ (by simp only [size_alloc]) | refine blk_drewN ?_ _ | refine blk_drew ?_ | refine blk_alloc ?_ _ | refine blk_below ?_ HB11.out )); clear BB_g0 lt_g0 rd_g0; have BB_g0 := Aside0.mk NB_g0; have lt_g0 := blk_lt NB_g0; have rd_g0 := blk_cell NB_g0; clear NB_g0; clear hb)
        | (go_at_call 21; refine Calls.mono (eqGrid_c _ _ _ a_ch _ _ a_hs _ _ _ a_ch _ _ a_hs _ (by repeat (with_reducible first | exact HK_X0_a_ch.out | refine Kd.C_alloc ?_ _ | refine Kd.C_drewN ?_ _ | refine Kd.C_drew ?_ | refine Kd.C_below ?_ HB11.out | refine Kd.C_below ?_ HB10.out | refine Kd.C_below ?_ HB9.out | refine Kd.C_below ?_ HB8.out )) (by repeat (with_reducible first | exact HK_X0_a_hs.out | refine Kd.C_alloc ?_ _ | refine Kd.C_drewN ?_ _ | refine Kd.C_drew ?_ | refine Kd.C_below ?_ HB11.out | refine Kd.C_below ?_ HB10.out | refine Kd.C_below ?_ HB9.out | refine Kd.C_below ?_ HB8.out )) (by repeat (with_reducible first | exact HK_Y0_a_ch.out | refine Kd.C_alloc ?_ _ | refine Kd.C_drewN ?_ _ | refine Kd.C_drew ?_ )) (by repeat (with_reducible first | exact HK_Y0_a_hs.out | refine Kd.C_alloc ?_ _ | refine Kd.C_drewN ?_ _ | refine Kd.C_drew ?_ ))) ?_; rintro e w12 ⟨rfl, hb⟩; have HB12 := Aside0.mk hb; have sz12 := hb.size; (try simp only [size_alloc, size_drew, size_drewN] at sz12); have NB_a : w12.heap[w.heap.size]? = some (.cells #[.int .i64 a_wi, .slice A_a_ch a_ch.length c_a_ch, .slice A_a_hs a_hs.length c_a_hs] 30 (0, 0)) := (by repeat (with_reducible first | exact BB_a.out | exact blk_new _ | refine blk_new' _ (by simp only [size_alloc]) | refine blk_drewN ?_ _ | refine blk_drew ?_ | refine blk_alloc ?_ _ | refine blk_below ?_ HB12.out )); clear BB_a lt_a rd_a; have BB_a := Aside0.mk NB_a; have lt_a := blk_lt NB_a; have rd_a := blk_cell NB_a; clear NB_a; have NB_b : w12.heap[w.heap.size + 1]? = some (.cells #[.int .i64 b_wi, .slice A_b_ch b_ch.length c_b_ch, .slice A_b_hs b_hs.length c_b_hs] 30 (0, 0)) := (by repeat (with_reducible first | exact BB_b.out | exact blk_new _ | refine blk_new' _ (by simp only [size_alloc]) | refine blk_drewN ?_ _ | refine blk_drew ?_ | refine blk_alloc ?_ _ | refine blk_below ?_ HB12.out )); clear BB_b lt_b rd_b; have BB_b := Aside0.mk NB_b; have lt_b := blk_lt NB_b; have rd_b := blk_cell NB_b; clear NB_b; have NB_w0 : w12.heap[gW]? = some (.cells #[.int .i64 r_co, .int .i64 r_va] 58 (0, 0)) := (by repeat (with_reducible first | exact BB_w0.out | exact blk_new _ | refine blk_new' _ (by simp only [size_alloc]) | refine blk_drewN ?_ _ | refine blk_drew ?_ | refine blk_alloc ?_ _ | refine blk_below ?_ HB12.out )); clear BB_w0 lt_w0 rd_w0; have BB_w0 := Aside0.mk NB_w0; have lt_w0 := blk_lt NB_w0; have rd_w0 := blk_cell NB_w0; clear NB_w0; have NB_x0 : w12.heap[w7.heap.size]? = some (.cells #[.int .i64 a_wi, .slice X0_a_ch a_ch.length x0_a_ch, .slice X0_a_hs a_hs.length x0_a_hs] 33 (0, 0)) := (by repeat (with_reducible first | exact BB_x0.out | exact blk_new _ | refine blk_new' _ (by simp only [size_alloc]) | refine blk_drewN ?_ _ | refine blk_drew ?_ | refine blk_alloc ?_ _ | refine blk_below ?_ HB12.out )); clear BB_x0 lt_x0 rd_x0; have BB_x0 := Aside0.mk NB_x0; have lt_x0 := blk_lt NB_x0; have rd_x0 := blk_cell NB_x0; clear NB_x0; have NB_x1 : w12.heap[w8.heap.size]? = some (.cells #[.int .i64 b_wi, .slice X1_b_ch b_ch.length x1_b_ch, .slice X1_b_hs b_hs.length x1_b_hs] 33 (0, 0)) := (by repeat (with_reducible first | exact BB_x1.out | exact blk_new _ | refine blk_new' _ (by simp only [size_alloc]) | refine blk_drewN ?_ _ | refine blk_drew ?_ | refine blk_alloc ?_ _ | refine blk_below ?_ HB12.out )); clear BB_x1 lt_x1 rd_x1; have BB_x1 := Aside0.mk NB_x1; have lt_x1 := blk_lt NB_x1; have rd_x1 := blk_cell NB_x1; clear NB_x1; have NB_g0 : w12.heap[w9.heap.size]? = some (.cells #[.int .i64 r_co, .int .i64 r_va] 58 (0, 0)) := (by repeat (with_reducible first | exact BB_g0.out | exact blk_new _ | refine blk_new' _ (by simp only [size_alloc]) | refine blk_drewN ?_ _ | refine blk_drew ?_ | refine blk_alloc ?_ _ | refine blk_below ?_ HB12.out )); clear BB_g0 lt_g0 rd_g0; have BB_g0 := Aside0.mk NB_g0; have lt_g0 := blk_lt NB_g0; have rd_g0 := blk_cell NB_g0; clear NB_g0; clear hb))
    go_wp2_with fail
    have hae1 : eqv (b_wi, b_ch, b_hs) (b_wi, b_ch, b_hs) = true := eqv_self _
    go_region_held3 (fun W : World => (∀ i, W.cell? ⟨w.heap.size + 1, i, none⟩ = (#[.int .i64 b_wi, .slice A_b_ch b_ch.length c_b_ch, .slice A_b_hs b_hs.length c_b_hs] : Array Value)[i]?) ∧ (∀ i, W.cell? ⟨w8.heap.size, i, none⟩ = (#[.int .i64 b_wi, .slice X1_b_ch b_ch.length x1_b_ch, .slice X1_b_hs b_hs.length x1_b_hs] : Array Value)[i]?)) (go_keep)
      (first
        | (go_at_call 19; refine Calls.mono (toGrid_c _ _ _ b_ch _ _ b_hs _ (by repeat (with_reducible first | exact HC_b_ch.out | refine Kd.C_alloc ?_ _ | refine Kd.C_drewN ?_ _ | refine Kd.C_drew ?_ | refine Kd.C_below ?_ HB12.out | refine Kd.C_below ?_ HB11.out | refine Kd.C_below ?_ HB10.out | refine Kd.C_below ?_ HB9.out | refine Kd.C_below ?_ HB8.out | refine Kd.C_below ?_ HB7.out | refine Kd.C_below ?_ HB6.out | refine Kd.C_below ?_ HB2.out | refine Kd.C_below ?_ HB1.out )) (by repeat (with_reducible first | exact HC_b_hs.out | refine Kd.C_alloc ?_ _ | refine Kd.C_drewN ?_ _ | refine Kd.C_drew ?_ | refine Kd.C_below ?_ HB12.out | refine Kd.C_below ?_ HB11.out | refine Kd.C_below ?_ HB10.out | refine Kd.C_below ?_ HB9.out | refine Kd.C_below ?_ HB8.out | refine Kd.C_below ?_ HB7.out | refine Kd.C_below ?_ HB6.out | refine Kd.C_below ?_ HB2.out | refine Kd.C_below ?_ HB1.out )) (by omega) (by omega)) ?_; rintro e w13 ⟨Y1_b_ch, y1_b_ch, Y1_b_hs, y1_b_hs, rfl, le_Y1_b_ch, r_Y1_b_ch, le_Y1_b_hs, r_Y1_b_hs, hb⟩; have HR_Y1_b_ch := Aside0.mk r_Y1_b_ch; have HK_Y1_b_ch := Aside0.mk (Kd.R_reads' r_Y1_b_ch).2.2; have LO_Y1_b_ch := Aside0.mk (Kd.R_base r_Y1_b_ch); have HI_Y1_b_ch := Aside0.mk (Kd.R_lt r_Y1_b_ch); (try simp only [size_alloc, size_drew, size_drewN] at LO_Y1_b_ch); have HR_Y1_b_hs := Aside0.mk r_Y1_b_hs; have HK_Y1_b_hs := Aside0.mk (Kd.R_reads' r_Y1_b_hs).2.2; have LO_Y1_b_hs := Aside0.mk (Kd.R_base r_Y1_b_hs); have HI_Y1_b_hs := Aside0.mk (Kd.R_lt r_Y1_b_hs); (try simp only [size_alloc, size_drew, size_drewN] at LO_Y1_b_hs); clear r_Y1_b_ch r_Y1_b_hs; have HB13 := Aside0.mk hb; have sz13 := hb.size; (try simp only [size_alloc, size_drew, size_drewN] at sz13); have NB_a : w13.heap[w.heap.size]? = some (.cells #[.int .i64 a_wi, .slice A_a_ch a_ch.length c_a_ch, .slice A_a_hs a_hs.length c_a_hs] 30 (0, 0)) := (by repeat (with_reducible first | exact BB_a.out | exact blk_new _ | refine blk_new' _ (by simp only [size_alloc]) | refine blk_drewN ?_ _ | refine blk_drew ?_ | refine blk_alloc ?_ _ | refine blk_below ?_ HB13.out )); clear BB_a lt_a rd_a; have BB_a := Aside0.mk NB_a; have lt_a := blk_lt NB_a; have rd_a := blk_cell NB_a; clear NB_a; have NB_b : w13.heap[w.heap.size + 1]? = some (.cells #[.int .i64 b_wi, .slice A_b_ch b_ch.length c_b_ch, .slice A_b_hs b_hs.length c_b_hs] 30 (0, 0)) := (by repeat (with_reducible first | exact BB_b.out | exact blk_new _ | refine blk_new' _ (by simp only [size_alloc]) | refine blk_drewN ?_ _ | refine blk_drew ?_ | refine blk_alloc ?_ _ | refine blk_below ?_ HB13.out )); clear BB_b lt_b rd_b; have BB_b := Aside0.mk NB_b; have lt_b := blk_lt NB_b; have rd_b := blk_cell NB_b; clear NB_b; have NB_w0 : w13.heap[gW]? = some (.cells #[.int .i64 r_co, .int .i64 r_va] 58 (0, 0)) := (by repeat (with_reducible first | exact BB_w0.out | exact blk_new _ | refine blk_new' _ (by simp only [size_alloc]) | refine blk_drewN ?_ _ | refine blk_drew ?_ | refine blk_alloc ?_ _ | refine blk_below ?_ HB13.out )); clear BB_w0 lt_w0 rd_w0; have BB_w0 := Aside0.mk NB_w0; have lt_w0 := blk_lt NB_w0; have rd_w0 := blk_cell NB_w0; clear NB_w0; have NB_x0 : w13.heap[w7.heap.size]? = some (.cells #[.int .i64 a_wi, .slice X0_a_ch a_ch.length x0_a_ch, .slice X0_a_hs a_hs.length x0_a_hs] 33 (0, 0)) := (by repeat (with_reducible first | exact BB_x0.out | exact blk_new _ | refine blk_new' _ (by simp only [size_alloc]) | refine blk_drewN ?_ _ | refine blk_drew ?_ | refine blk_alloc ?_ _ | refine blk_below ?_ HB13.out )); clear BB_x0 lt_x0 rd_x0; have BB_x0 := Aside0.mk NB_x0; have lt_x0 := blk_lt NB_x0; have rd_x0 := blk_cell NB_x0; clear NB_x0; have NB_x1 : w13.heap[w8.heap.size]? = some (.cells #[.int .i64 b_wi, .slice X1_b_ch b_ch.length x1_b_ch, .slice X1_b_hs b_hs.length x1_b_hs] 33 (0, 0)) := (by repeat (with_reducible first | exact BB_x1.out | exact blk_new _ | refine blk_new' _ (by simp only [size_alloc]) | refine blk_drewN ?_ _ | refine blk_drew ?_ | refine blk_alloc ?_ _ | refine blk_below ?_ HB13.out )); clear BB_x1 lt_x1 rd_x1; have BB_x1 := Aside0.mk NB_x1; have lt_x1 := blk_lt NB_x1; have rd_x1 := blk_cell NB_x1; clear NB_x1; have NB_g0 : w13.heap[w9.heap.size]? = some (.cells #[.int .i64 r_co, .int .i64 r_va] 58 (0, 0)) := (by repeat (with_reducible first | exact BB_g0.out | exact blk_new _ | refine blk_new' _ (by simp only [size_alloc]) | refine blk_drewN ?_ _ | refine blk_drew ?_ | refine blk_alloc ?_ _ | refine blk_below ?_ HB13.out )); clear BB_g0 lt_g0 rd_g0; have BB_g0 := Aside0.mk NB_g0; have lt_g0 := blk_lt NB_g0; have rd_g0 := blk_cell NB_g0; clear NB_g0; clear hb)
        | (go_at_call 21; refine Calls.mono (eqGrid_c _ _ _ b_ch _ _ b_hs _ _ _ b_ch _ _ b_hs _ (by repeat (with_reducible first | exact HK_X1_b_ch.out | refine Kd.C_alloc ?_ _ | refine Kd.C_drewN ?_ _ | refine Kd.C_drew ?_ | refine Kd.C_below ?_ HB13.out | refine Kd.C_below ?_ HB12.out | refine Kd.C_below ?_ HB11.out | refine Kd.C_below ?_ HB10.out | refine Kd.C_below ?_ HB9.out )) (by repeat (with_reducible first | exact HK_X1_b_hs.out | refine Kd.C_alloc ?_ _ | refine Kd.C_drewN ?_ _ | refine Kd.C_drew ?_ | refine Kd.C_below ?_ HB13.out | refine Kd.C_below ?_ HB12.out | refine Kd.C_below ?_ HB11.out | refine Kd.C_below ?_ HB10.out | refine Kd.C_below ?_ HB9.out )) (by repeat (with_reducible first | exact HK_Y1_b_ch.out | refine Kd.C_alloc ?_ _ | refine Kd.C_drewN ?_ _ | refine Kd.C_drew ?_ )) (by repeat (with_reducible first | exact HK_Y1_b_hs.out | refine Kd.C_alloc ?_ _ | refine Kd.C_drewN ?_ _ | refine Kd.C_drew ?_ ))) ?_; rintro e w14 ⟨rfl, hb⟩; have HB14 := Aside0.mk hb; have sz14 := hb.size; (try simp only [size_alloc, size_drew, size_drewN] at sz14); have NB_a : w14.heap[w.heap.size]? = some (.cells #[.int .i64 a_wi, .slice A_a_ch a_ch.length c_a_ch, .slice A_a_hs a_hs.length c_a_hs] 30 (0, 0)) := (by repeat (with_reducible first | exact BB_a.out | exact blk_new _ | refine blk_new' _ (by simp only [size_alloc]) | refine blk_drewN ?_ _ | refine blk_drew ?_ | refine blk_alloc ?_ _ | refine blk_below ?_ HB14.out )); clear BB_a lt_a rd_a; have BB_a := Aside0.mk NB_a; have lt_a := blk_lt NB_a; have rd_a := blk_cell NB_a; clear NB_a; have NB_b : w14.heap[w.heap.size + 1]? = some (.cells #[.int .i64 b_wi, .slice A_b_ch b_ch.length c_b_ch, .slice A_b_hs b_hs.length c_b_hs] 30 (0, 0)) := (by repeat (with_reducible first | exact BB_b.out | exact blk_new _ | refine blk_new' _ (by simp only [size_alloc]) | refine blk_drewN ?_ _ | refine blk_drew ?_ | refine blk_alloc ?_ _ | refine blk_below ?_ HB14.out )); clear BB_b lt_b rd_b; have BB_b := Aside0.mk NB_b; have lt_b := blk_lt NB_b; have rd_b := blk_cell NB_b; clear NB_b; have NB_w0 : w14.heap[gW]? = some (.cells #[.int .i64 r_co, .int .i64 r_va] 58 (0, 0)) := (by repeat (with_reducible first | exact BB_w0.out | exact blk_new _ | refine blk_new' _ (by simp only [size_alloc]) | refine blk_drewN ?_ _ | refine blk_drew ?_ | refine blk_alloc ?_ _ | refine blk_below ?_ HB14.out )); clear BB_w0 lt_w0 rd_w0; have BB_w0 := Aside0.mk NB_w0; have lt_w0 := blk_lt NB_w0; have rd_w0 := blk_cell NB_w0; clear NB_w0; have NB_x0 : w14.heap[w7.heap.size]? = some (.cells #[.int .i64 a_wi, .slice X0_a_ch a_ch.length x0_a_ch, .slice X0_a_hs a_hs.length x0_a_hs] 33 (0, 0)) := (by repeat (with_reducible first | exact BB_x0.out | exact blk_new _ | refine blk_new' _ (by simp only [size_alloc]) | refine blk_drewN ?_ _ | refine blk_drew ?_ | refine blk_alloc ?_ _ | refine blk_below ?_ HB14.out )); clear BB_x0 lt_x0 rd_x0; have BB_x0 := Aside0.mk NB_x0; have lt_x0 := blk_lt NB_x0; have rd_x0 := blk_cell NB_x0; clear NB_x0; have NB_x1 : w14.heap[w8.heap.size]? = some (.cells #[.int .i64 b_wi, .slice X1_b_ch b_ch.length x1_b_ch, .slice X1_b_hs b_hs.length x1_b_hs] 33 (0, 0)) := (by repeat (with_reducible first | exact BB_x1.out | exact blk_new _ | refine blk_new' _ (by simp only [size_alloc]) | refine blk_drewN ?_ _ | refine blk_drew ?_ | refine blk_alloc ?_ _ | refine blk_below ?_ HB14.out )); clear BB_x1 lt_x1 rd_x1; have BB_x1 := Aside0.mk NB_x1; have lt_x1 := blk_lt NB_x1; have rd_x1 := blk_cell NB_x1; clear NB_x1; have NB_g0 : w14.heap[w9.heap.size]? = some (.cells #[.int .i64 r_co, .int .i64 r_va] 58 (0, 0)) := (by repeat (with_reducible first | exact BB_g0.out | exact blk_new _ | refine blk_new' _ (by simp only [size_alloc]) | refine blk_drewN ?_ _ | refine blk_drew ?_ | refine blk_alloc ?_ _ | refine blk_below ?_ HB14.out )); clear BB_g0 lt_g0 rd_g0; have BB_g0 := Aside0.mk NB_g0; have lt_g0 := blk_lt NB_g0; have rd_g0 := blk_cell NB_g0; clear NB_g0; clear hb))
    go_wp2
    go_ret
    exact ⟨rfl, (by repeat (with_reducible first | exact Below.refl _ _ | refine below_alloc ?_ _ | refine below_drew ?_ | refine pw_below_drewN ?_ _ | refine below_end ?_ HB14.out | refine below_end ?_ HB13.out | refine below_end ?_ HB12.out | refine below_end ?_ HB11.out | refine below_end ?_ HB10.out | refine below_end ?_ HB9.out | refine below_end ?_ HB8.out | refine below_end ?_ HB7.out | refine below_end ?_ HB6.out | refine below_end ?_ HB2.out | refine below_end ?_ HB1.out ))⟩
end Go.Proofs.Ytpfponhaofdbaaa.M
