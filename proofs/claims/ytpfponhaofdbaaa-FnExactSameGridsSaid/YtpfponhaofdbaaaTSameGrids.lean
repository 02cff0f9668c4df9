import Derived.Test.YtpfponhaofdbaaaL2
import Derived.Test.YtpfponhaofdbaaaG
set_option linter.unusedVariables false
set_option linter.unusedSimpArgs false
namespace Go.Proofs.Ytpfponhaofdbaaa.M
open Go.RowKit Go.Proofs.YtpfponhaofdbaaaW.PrintWords
theorem SameGrids_s (wa : Int) (A : Option Addr) (c : Nat) (ca : List Int) (B : Option Addr) (d : Nat) (ha : List Bool) (wb : Int) (A' : Option Addr) (c' : Nat) (cb : List Int) (B' : Option Addr) (d' : Nat) (hb : List Bool) (w : World)
    (hr : Kd.C (Kd.int .i64) w A ca.length ca) (hs : Kd.C Kd.bool w B ha.length ha) (hr' : Kd.C (Kd.int .i64) w A' cb.length cb) (hs' : Kd.C Kd.bool w B' hb.length hb) (_ : ca.length ≤ c) (_ : ha.length ≤ d) (_ : cb.length ≤ c') (_ : hb.length ≤ d') :
    Calls Try.prog 20 #[.agg #[.int .i64 wa, .slice A ca.length c, .slice B ha.length d], .agg #[.int .i64 wb, .slice A' cb.length c', .slice B' hb.length d']] w fun e w' => e = .returned (.bool (eqv (wa, ca, ha) (wb, cb, hb))) ∧ Below w.heap.size w w' :=
  SameGrids_c wa A B c d ca ha wb A' B' c' d' cb hb w hr hs hr' hs'
theorem specSameGrids_s (wa : Int) (A : Option Addr) (c : Nat) (ca : List Int) (B : Option Addr) (d : Nat) (ha : List Bool) (wb : Int) (A' : Option Addr) (c' : Nat) (cb : List Int) (B' : Option Addr) (d' : Nat) (hb : List Bool) (w : World)
    (hr : Kd.C (Kd.int .i64) w A ca.length ca) (hs : Kd.C Kd.bool w B ha.length ha) (hr' : Kd.C (Kd.int .i64) w A' cb.length cb) (hs' : Kd.C Kd.bool w B' hb.length hb) (_ : ca.length ≤ c) (_ : ha.length ≤ d) (_ : cb.length ≤ c') (_ : hb.length ≤ d') :
    Calls Try.prog 18 #[.agg #[.int .i64 wa, .slice A ca.length c, .slice B ha.length d], .agg #[.int .i64 wb, .slice A' cb.length c', .slice B' hb.length d']] w fun e w' => e = .returned (.bool (eqv (wa, ca, ha) (wb, cb, hb))) ∧ Below w.heap.size w w' :=
  specSameGrids_c wa A B c d ca ha wb A' B' c' d' cb hb w hr hs hr' hs'
set_option maxRecDepth 100000 in
set_option maxHeartbeats 1000000 in
theorem law_SameGrids_c (a_wi : Int) (A_a_ch : Option Addr) (c_a_ch : Nat) (a_ch : List Int) (A_a_hs : Option Addr) (c_a_hs : Nat) (a_hs : List Bool) (b_wi : Int) (A_b_ch : Option Addr) (c_b_ch : Nat) (b_ch : List Int) (A_b_hs : Option Addr) (c_b_hs : Nat) (b_hs : List Bool) (w : World) (hr_a_ch : Kd.C (Kd.int .i64) w A_a_ch a_ch.length a_ch) (hr_a_hs : Kd.C Kd.bool w A_a_hs a_hs.length a_hs) (hr_b_ch : Kd.C (Kd.int .i64) w A_b_ch b_ch.length b_ch) (hr_b_hs : Kd.C Kd.bool w A_b_hs b_hs.length b_hs)  :
    Calls Try.prog 4 #[.agg #[.int .i64 a_wi, .slice A_a_ch a_ch.length c_a_ch, .slice A_a_hs a_hs.length c_a_hs], .agg #[.int .i64 b_wi, .slice A_b_ch b_ch.length c_b_ch, .slice A_b_hs b_hs.length c_b_hs]] w fun e w' => e = .returned (.bool true) ∧ Below w.heap.size w w' := by
  have HC_a_ch := Aside0.mk hr_a_ch
  have hm_a_ch := Kd.C_max hr_a_ch
  have HC_a_hs := Aside0.mk hr_a_hs
  have hm_a_hs := Kd.C_max hr_a_hs
  have HC_b_ch := Aside0.mk hr_b_ch
  have hm_b_ch := Kd.C_max hr_b_ch
  have HC_b_hs := Aside0.mk hr_b_hs
  have hm_b_hs := Kd.C_max hr_b_hs
  clear hr_a_ch hr_a_hs hr_b_ch hr_b_hs
  by_cases hz0 : szfs [a_ch.length, a_hs.length] 1048576 < 0
  · go_enter Try.func4, Try.ntmps4
    go_wp2_with fail
    refine Calls.mono (szGrid_c _ _ a_ch.length _ _ a_hs.length _ 1048576 _ hm_a_ch hm_a_hs (by omega) (by omega)) ?_
    rintro e w1 ⟨rfl, hb⟩
    have HB1 := Aside0.mk hb
    have sz1 := hb.size
    (try simp only [size_alloc] at sz1)
    have NB_a : w1.heap[w.heap.size]? = some (.cells #[.int .i64 a_wi, .slice A_a_ch a_ch.length c_a_ch, .slice A_a_hs a_hs.length c_a_hs] 30 (0, 0)) := (by repeat (with_reducible first | exact blk_new _ | refine blk_new' _ (by simp only [size_alloc]) | refine blk_drewN ?_ _ | refine blk_drew ?_ | refine blk_alloc ?_ _ | refine blk_below ?_ HB1.out))
    have BB_a := Aside0.mk NB_a
    have lt_a := blk_lt NB_a
    have rd_a := blk_cell NB_a
    clear NB_a
    have NB_b : w1.heap[w.heap.size + 1]? = some (.cells #[.int .i64 b_wi, .slice A_b_ch b_ch.length c_b_ch, .slice A_b_hs b_hs.length c_b_hs] 30 (0, 0)) := (by repeat (with_reducible first | exact blk_new _ | refine blk_new' _ (by simp only [size_alloc]) | refine blk_drewN ?_ _ | refine blk_drew ?_ | refine blk_alloc ?_ _ | refine blk_below ?_ HB1.out))
    have BB_b := Aside0.mk NB_b
    have lt_b := blk_lt NB_b
    have rd_b := blk_cell NB_b
    clear NB_b
    clear hb
    go_wp2
    go_ret
    exact ⟨rfl, (by repeat (with_reducible first | exact Below.refl _ _ | refine below_alloc ?_ _ | refine below_drew ?_ | refine pw_below_drewN ?_ _ | refine below_end ?_ HB1.out ))⟩
  have hl0 := szfs_nn _ _ (by omega) hz0
  (try simp only [List.sum_cons, List.sum_nil] at hl0)
  have hle0 := szfs_le [a_ch.length, a_hs.length] 1048576 (by omega)
  by_cases hz1 : szfs [b_ch.length, b_hs.length] (szfs [a_ch.length, a_hs.length] 1048576) < 0
  · go_enter Try.func4, Try.ntmps4
    go_wp2_with fail
    refine Calls.mono (szGrid_c _ _ a_ch.length _ _ a_hs.length _ 1048576 _ hm_a_ch hm_a_hs (by omega) (by omega)) ?_
    rintro e w1 ⟨rfl, hb⟩
    have HB1 := Aside0.mk hb
    have sz1 := hb.size
    (try simp only [size_alloc] at sz1)
    have NB_a : w1.heap[w.heap.size]? = some (.cells #[.int .i64 a_wi, .slice A_a_ch a_ch.length c_a_ch, .slice A_a_hs a_hs.length c_a_hs] 30 (0, 0)) := (by repeat (with_reducible first | exact blk_new _ | refine blk_new' _ (by simp only [size_alloc]) | refine blk_drewN ?_ _ | refine blk_drew ?_ | refine blk_alloc ?_ _ | refine blk_below ?_ HB1.out))
    have BB_a := Aside0.mk NB_a
    have lt_a := blk_lt NB_a
    have rd_a := blk_cell NB_a
    clear NB_a
    have NB_b : w1.heap[w.heap.size + 1]? = some (.cells #[.int .i64 b_wi, .slice A_b_ch b_ch.length c_b_ch, .slice A_b_hs b_hs.length c_b_hs] 30 (0, 0)) := (by repeat (with_reducible first | exact blk_new _ | refine blk_new' _ (by simp only [size_alloc]) | refine blk_drewN ?_ _ | refine blk_drew ?_ | refine blk_alloc ?_ _ | refine blk_below ?_ HB1.out))
    have BB_b := Aside0.mk NB_b
    have lt_b := blk_lt NB_b
    have rd_b := blk_cell NB_b
    clear NB_b
    clear hb
    go_wp2_with fail
    refine Calls.mono (szGrid_c _ _ b_ch.length _ _ b_hs.length _ (szfs [a_ch.length, a_hs.length] 1048576) _ hm_b_ch hm_b_hs (by omega) (by omega)) ?_
    rintro e w2 ⟨rfl, hb⟩
    have HB2 := Aside0.mk hb
    have sz2 := hb.size
    (try simp only [size_alloc] at sz2)
    have NB_a : w2.heap[w.heap.size]? = some (.cells #[.int .i64 a_wi, .slice A_a_ch a_ch.length c_a_ch, .slice A_a_hs a_hs.length c_a_hs] 30 (0, 0)) := (by repeat (with_reducible first | exact BB_a.out | exact blk_new _ | refine blk_new' _ (by simp only [size_alloc]) | refine blk_drewN ?_ _ | refine blk_drew ?_ | refine blk_alloc ?_ _ | refine blk_below ?_ HB2.out ))
    clear BB_a lt_a rd_a
    have BB_a := Aside0.mk NB_a
    have lt_a := blk_lt NB_a
    have rd_a := blk_cell NB_a
    clear NB_a
    have NB_b : w2.heap[w.heap.size + 1]? = some (.cells #[.int .i64 b_wi, .slice A_b_ch b_ch.length c_b_ch, .slice A_b_hs b_hs.length c_b_hs] 30 (0, 0)) := (by repeat (with_reducible first | exact BB_b.out | exact blk_new _ | refine blk_new' _ (by simp only [size_alloc]) | refine blk_drewN ?_ _ | refine blk_drew ?_ | refine blk_alloc ?_ _ | refine blk_below ?_ HB2.out ))
    clear BB_b lt_b rd_b
    have BB_b := Aside0.mk NB_b
    have lt_b := blk_lt NB_b
    have rd_b := blk_cell NB_b
    clear NB_b
    clear hb
    go_wp2
    go_ret
    exact ⟨rfl, (by repeat (with_reducible first | exact Below.refl _ _ | refine below_alloc ?_ _ | refine below_drew ?_ | refine pw_below_drewN ?_ _ | refine below_end ?_ HB2.out | refine below_end ?_ HB1.out ))⟩
  have hl1 := szfs_nn _ _ (by omega) hz1
  (try simp only [List.sum_cons, List.sum_nil] at hl1)
  have hle1 := szfs_le [b_ch.length, b_hs.length] (szfs [a_ch.length, a_hs.length] 1048576) (by omega)
  go_enter Try.func4, Try.ntmps4
  go_wp2_with fail
  refine Calls.mono (szGrid_c _ _ a_ch.length _ _ a_hs.length _ 1048576 _ hm_a_ch hm_a_hs (by omega) (by omega)) ?_
  rintro e w1 ⟨rfl, hb⟩
  have HB1 := Aside0.mk hb
  have sz1 := hb.size
  (try simp only [size_alloc] at sz1)
  have NB_a : w1.heap[w.heap.size]? = some (.cells #[.int .i64 a_wi, .slice A_a_ch a_ch.length c_a_ch, .slice A_a_hs a_hs.length c_a_hs] 30 (0, 0)) := (by repeat (with_reducible first | exact blk_new _ | refine blk_new' _ (by simp only [size_alloc]) | refine blk_drewN ?_ _ | refine blk_drew ?_ | refine blk_alloc ?_ _ | refine blk_below ?_ HB1.out))
  have BB_a := Aside0.mk NB_a
  have lt_a := blk_lt NB_a
  have rd_a := blk_cell NB_a
  clear NB_a
  have NB_b : w1.heap[w.heap.size + 1]? = some (.cells #[.int .i64 b_wi, .slice A_b_ch b_ch.length c_b_ch, .slice A_b_hs b_hs.length c_b_hs] 30 (0, 0)) := (by repeat (with_reducible first | exact blk_new _ | refine blk_new' _ (by simp only [size_alloc]) | refine blk_drewN ?_ _ | refine blk_drew ?_ | refine blk_alloc ?_ _ | refine blk_below ?_ HB1.out))
  have BB_b := Aside0.mk NB_b
  have lt_b := blk_lt NB_b
  have rd_b := blk_cell NB_b
  clear NB_b
  clear hb
  go_wp2_with fail
  refine Calls.mono (szGrid_c _ _ b_ch.length _ _ b_hs.length _ (szfs [a_ch.length, a_hs.length] 1048576) _ hm_b_ch hm_b_hs (by omega) (by omega)) ?_
  rintro e w2 ⟨rfl, hb⟩
  have HB2 := Aside0.mk hb
  have sz2 := hb.size
  (try simp only [size_alloc] at sz2)
  have NB_a : w2.heap[w.heap.size]? = some (.cells #[.int .i64 a_wi, .slice A_a_ch a_ch.length c_a_ch, .slice A_a_hs a_hs.length c_a_hs] 30 (0, 0)) := (by repeat (with_reducible first | exact BB_a.out | exact blk_new _ | refine blk_new' _ (by simp only [size_alloc]) | refine blk_drewN ?_ _ | refine blk_drew ?_ | refine blk_alloc ?_ _ | refine blk_below ?_ HB2.out ))
  clear BB_a lt_a rd_a
  have BB_a := Aside0.mk NB_a
  have lt_a := blk_lt NB_a
  have rd_a := blk_cell NB_a
  clear NB_a
  have NB_b : w2.heap[w.heap.size + 1]? = some (.cells #[.int .i64 b_wi, .slice A_b_ch b_ch.length c_b_ch, .slice A_b_hs b_hs.length c_b_hs] 30 (0, 0)) := (by repeat (with_reducible first | exact BB_b.out | exact blk_new _ | refine blk_new' _ (by simp only [size_alloc]) | refine blk_drewN ?_ _ | refine blk_drew ?_ | refine blk_alloc ?_ _ | refine blk_below ?_ HB2.out ))
  clear BB_b lt_b rd_b
  have BB_b := Aside0.mk NB_b
  have lt_b := blk_lt NB_b
  have rd_b := blk_cell NB_b
  clear NB_b
  clear hb
  go_wp2_with fail
  go_region_held3 (fun W : World => (∀ i, W.cell? ⟨w.heap.size, i, none⟩ = (#[.int .i64 a_wi, .slice A_a_ch a_ch.length c_a_ch, .slice A_a_hs a_hs.length c_a_hs] : Array Value)[i]?) ∧ (∀ i, W.cell? ⟨w.heap.size + 1, i, none⟩ = (#[.int .i64 b_wi, .slice A_b_ch b_ch.length c_b_ch, .slice A_b_hs b_hs.length c_b_hs] : Array Value)[i]?)) (go_keep)
    (first
      | (go_at_call_of 19 A_a_ch; refine Calls.mono (toGrid_c _ _ _ a_ch _ _ a_hs _ (by repeat (with_reducible first | exact HC_a_ch.out | refine Kd.C_alloc ?_ _ | refine Kd.C_drewN ?_ _ | refine Kd.C_drew ?_ | refine Kd.C_below ?_ HB2.out | refine Kd.C_below ?_ HB1.out )) (by repeat (with_reducible first | exact HC_a_hs.out | refine Kd.C_alloc ?_ _ | refine Kd.C_drewN ?_ _ | refine Kd.C_drew ?_ | refine Kd.C_below ?_ HB2.out | refine Kd.C_below ?_ HB1.out )) (by omega) (by omega)) ?_; rintro e w3 ⟨P0_a_ch, p0_a_ch, P0_a_hs, p0_a_hs, rfl, le_P0_a_ch, r_P0_a_ch, le_P0_a_hs, r_P0_a_hs, hb⟩; have HR_P0_a_ch := Aside0.mk r_P0_a_ch; have HK_P0_a_ch := Aside0.mk (Kd.R_reads' r_P0_a_ch).2.2; have LO_P0_a_ch := Aside0.mk (Kd.R_base r_P0_a_ch); have HI_P0_a_ch := Aside0.mk (Kd.R_lt r_P0_a_ch); (try simp only [size_alloc] at LO_P0_a_ch); have HR_P0_a_hs := Aside0.mk r_P0_a_hs; have HK_P0_a_hs := Aside0.mk (Kd.R_reads' r_P0_a_hs).2.2; have LO_P0_a_hs := Aside0.mk (Kd.R_base r_P0_a_hs); have HI_P0_a_hs := Aside0.mk (Kd.R_lt r_P0_a_hs); (try simp only [size_alloc] at LO_P0_a_hs); clear r_P0_a_ch r_P0_a_hs; have HB3 := Aside0.mk hb; have sz3 := hb.size; (try simp only [size_alloc] at sz3); have NB_a : w3.heap[w.heap.size]? = some (.cells #[.int .i64 a_wi, .slice A_a_ch a_ch.length c_a_ch, .slice A_a_hs a_hs.length c_a_hs] 30 (0, 0)) := (by repeat (with_reducible first | exact BB_a.out | exact blk_new _ | refine blk_new' _ (by simp only [size_alloc]) | refine blk_drewN ?_ _ | refine blk_drew ?_ | refine blk_alloc ?_ _ | refine blk_below ?_ HB3.out )); clear BB_a lt_a rd_a; have BB_a := Aside0.mk NB_a; have lt_a := blk_lt NB_a; have rd_a := blk_cell NB_a; clear NB_a; have NB_b : w3.heap[w.heap.size + 1]? = some (.cells #[.int .i64 b_wi, .slice A_b_ch b_ch.length c_b_ch, .slice A_b_hs b_hs.length c_b_hs] 30 (0, 0)) := (by repeat (with_reducible first | exact BB_b.out | exact blk_new _ | refine blk_new' _ (by simp only [size_alloc]) | refine blk_drewN ?_ _ | refine blk_drew ?_ | refine blk_alloc ?_ _ | refine blk_below ?_ HB3.out )); clear BB_b lt_b rd_b; have BB_b := Aside0.mk NB_b; have lt_b := blk_lt NB_b; have rd_b := blk_cell NB_b; clear NB_b; clear hb)
      | (go_at_call_of 19 A_b_ch; refine Calls.mono (toGrid_c _ _ _ b_ch _ _ b_hs _ (by repeat (with_reducible first | exact HC_b_ch.out | refine Kd.C_alloc ?_ _ | refine Kd.C_drewN ?_ _ | refine Kd.C_drew ?_ | refine Kd.C_below ?_ HB3.out | refine Kd.C_below ?_ HB2.out | refine Kd.C_below ?_ HB1.out )) (by repeat (with_reducible first | exact HC_b_hs.out | refine Kd.C_alloc ?_ _ | refine Kd.C_drewN ?_ _ | refine Kd.C_drew ?_ | refine Kd.C_below ?_ HB3.out | refine Kd.C_below ?_ HB2.out | refine Kd.C_below ?_ HB1.out )) (by omega) (by omega)) ?_; rintro e w4 ⟨P1_b_ch, p1_b_ch, P1_b_hs, p1_b_hs, rfl, le_P1_b_ch, r_P1_b_ch, le_P1_b_hs, r_P1_b_hs, hb⟩; have HR_P1_b_ch := Aside0.mk r_P1_b_ch; have HK_P1_b_ch := Aside0.mk (Kd.R_reads' r_P1_b_ch).2.2; have LO_P1_b_ch := Aside0.mk (Kd.R_base r_P1_b_ch); have HI_P1_b_ch := Aside0.mk (Kd.R_lt r_P1_b_ch); (try simp only [size_alloc] at LO_P1_b_ch); have HR_P1_b_hs := Aside0.mk r_P1_b_hs; have HK_P1_b_hs := Aside0.mk (Kd.R_reads' r_P1_b_hs).2.2; have LO_P1_b_hs := Aside0.mk (Kd.R_base r_P1_b_hs); have HI_P1_b_hs := Aside0.mk (Kd.R_lt r_P1_b_hs); (try simp only [size_alloc] at LO_P1_b_hs); clear r_P1_b_ch r_P1_b_hs; have HB4 := Aside0.mk hb; have sz4 := hb.size; (try simp only [size_alloc] at sz4); have NB_a : w4.heap[w.heap.size]? = some (.cells #[.int .i64 a_wi, .slice A_a_ch a_ch.length c_a_ch, .slice A_a_hs a_hs.length c_a_hs] 30 (0, 0)) := (by repeat (with_reducible first | exact BB_a.out | exact blk_new _ | refine blk_new' _ (by simp only [size_alloc]) | refine blk_drewN ?_ _ | refine blk_drew ?_ | refine blk_alloc ?_ _ | refine blk_below ?_ HB4.out )); clear BB_a lt_a rd_a; have BB_a := Aside0.mk NB_a; have lt_a := blk_lt NB_a; have rd_a := blk_cell NB_a; clear NB_a; have NB_b : w4.heap[w.heap.size + 1]? = some (.cells #[.int .i64 b_wi, .slice A_b_ch b_ch.length c_b_ch, .slice A_b_hs b_hs.length c_b_hs] 30 (0, 0)) := (by repeat (with_reducible first | exact BB_b.out | exact blk_new _ | refine blk_new' _ (by simp only [size_alloc]) | refine blk_drewN ?_ _ | refine blk_drew ?_ | refine blk_alloc ?_ _ | refine blk_below ?_ HB4.out )); clear BB_b lt_b rd_b; have BB_b := Aside0.mk NB_b; have lt_b := blk_lt NB_b; have rd_b := blk_cell NB_b; clear NB_b; clear hb)
      | (go_at_call 18; refine Calls.mono (specSameGrids_s a_wi _ _ a_ch _ _ a_hs b_wi _ _ b_ch _ _ b_hs _ (by repeat (with_reducible first | exact HK_P0_a_ch.out | refine Kd.C_alloc ?_ _ | refine Kd.C_drewN ?_ _ | refine Kd.C_drew ?_ | refine Kd.C_below ?_ HB4.out )) (by repeat (with_reducible first | exact HK_P0_a_hs.out | refine Kd.C_alloc ?_ _ | refine Kd.C_drewN ?_ _ | refine Kd.C_drew ?_ | refine Kd.C_below ?_ HB4.out )) (by repeat (with_reducible first | exact HK_P1_b_ch.out | refine Kd.C_alloc ?_ _ | refine Kd.C_drewN ?_ _ | refine Kd.C_drew ?_ )) (by repeat (with_reducible first | exact HK_P1_b_hs.out | refine Kd.C_alloc ?_ _ | refine Kd.C_drewN ?_ _ | refine Kd.C_drew ?_ )) le_P0_a_ch le_P0_a_hs le_P1_b_ch le_P1_b_hs ) ?_; rintro e w5 ⟨rfl, hb⟩; have HB5 := Aside0.mk hb; have sz5 := hb.size; (try simp only [size_alloc] at sz5); have NB_a : w5.heap[w.heap.size]? = some (.cells #[.int .i64 a_wi, .slice A_a_ch a_ch.length c_a_ch, .slice A_a_hs a_hs.length c_a_hs] 30 (0, 0)) := (by repeat (with_reducible first | exact BB_a.out | exact blk_new _ | refine blk_new' _ (by simp only [size_alloc]) | refine blk_drewN ?_ _ | refine blk_drew ?_ | refine blk_alloc ?_ _ | refine blk_below ?_ HB5.out )); clear BB_a lt_a rd_a; have BB_a := Aside0.mk NB_a; have lt_a := blk_lt NB_a; have rd_a := blk_cell NB_a; clear NB_a; have NB_b : w5.heap[w.heap.size + 1]? = some (.cells #[.int .i64 b_wi, .slice A_b_ch b_ch.length c_b_ch, .slice A_b_hs b_hs.length c_b_hs] 30 (0, 0)) := (by repeat (with_reducible first | exact BB_b.out | exact blk_new _ | refine blk_new' _ (by simp only [size_alloc]) | refine blk_drewN ?_ _ | refine blk_drew ?_ | refine blk_alloc ?_ _ | refine blk_below ?_ HB5.out )); clear BB_b lt_b rd_b; have BB_b := Aside0.mk NB_b; have lt_b := blk_lt NB_b; have rd_b := blk_cell NB_b; clear NB_b; clear hb))
  go_wp2_with fail
  refine Calls.mono (toGrid_c _ _ _ a_ch _ _ a_hs _ (by repeat (with_reducible first | exact HC_a_ch.out | refine Kd.C_alloc ?_ _ | refine Kd.C_drewN ?_ _ | refine Kd.C_drew ?_ | refine Kd.C_below ?_ HB5.out | refine Kd.C_below ?_ HB4.out | refine Kd.C_below ?_ HB3.out | refine Kd.C_below ?_ HB2.out | refine Kd.C_below ?_ HB1.out )) (by repeat (with_reducible first | exact HC_a_hs.out | refine Kd.C_alloc ?_ _ | refine Kd.C_drewN ?_ _ | refine Kd.C_drew ?_ | refine Kd.C_below ?_ HB5.out | refine Kd.C_below ?_ HB4.out | refine Kd.C_below ?_ HB3.out | refine Kd.C_below ?_ HB2.out | refine Kd.C_below ?_ HB1.out )) (by omega) (by omega)) ?_
  rintro e w6 ⟨X0_a_ch, x0_a_ch, X0_a_hs, x0_a_hs, rfl, le_X0_a_ch, r_X0_a_ch, le_X0_a_hs, r_X0_a_hs, hb⟩
  have HR_X0_a_ch := Aside0.mk r_X0_a_ch
  have HK_X0_a_ch := Aside0.mk (Kd.R_reads' r_X0_a_ch).2.2
  have LO_X0_a_ch := Aside0.mk (Kd.R_base r_X0_a_ch)
  have HI_X0_a_ch := Aside0.mk (Kd.R_lt r_X0_a_ch)
  (try simp only [size_alloc] at LO_X0_a_ch)
  have HR_X0_a_hs := Aside0.mk r_X0_a_hs
  have HK_X0_a_hs := Aside0.mk (Kd.R_reads' r_X0_a_hs).2.2
  have LO_X0_a_hs := Aside0.mk (Kd.R_base r_X0_a_hs)
  have HI_X0_a_hs := Aside0.mk (Kd.R_lt r_X0_a_hs)
  (try simp only [size_alloc] at LO_X0_a_hs)
  clear r_X0_a_ch r_X0_a_hs
  have HB6 := Aside0.mk hb
  have sz6 := hb.size
  (try simp only [size_alloc] at sz6)
  have NB_a : w6.heap[w.heap.size]? = some (.cells #[.int .i64 a_wi, .slice A_a_ch a_ch.length c_a_ch, .slice A_a_hs a_hs.length c_a_hs] 30 (0, 0)) := (by repeat (with_reducible first | exact BB_a.out | exact blk_new _ | refine blk_new' _ (by simp only [size_alloc]) | refine blk_drewN ?_ _ | refine blk_drew ?_ | refine blk_alloc ?_ _ | refine blk_below ?_ HB6.out ))
  clear BB_a lt_a rd_a
  have BB_a := Aside0.mk NB_a
  have lt_a := blk_lt NB_a
  have rd_a := blk_cell NB_a
  clear NB_a
  have NB_b : w6.heap[w.heap.size + 1]? = some (.cells #[.int .i64 b_wi, .slice A_b_ch b_ch.length c_b_ch, .slice A_b_hs b_hs.length c_b_hs] 30 (0, 0)) := (by repeat (with_reducible first | exact BB_b.out | exact blk_new _ | refine blk_new' _ (by simp only [size_alloc]) | refine blk_drewN ?_ _ | refine blk_drew ?_ | refine blk_alloc ?_ _ | refine blk_below ?_ HB6.out ))
  clear BB_b lt_b rd_b
  have BB_b := Aside0.mk NB_b
  have lt_b := blk_lt NB_b
  have rd_b := blk_cell NB_b
  clear NB_b
  clear hb
  go_wp2_with fail
  refine Calls.mono (toGrid_c _ _ _ b_ch _ _ b_hs _ (by repeat (with_reducible first | exact HC_b_ch.out | refine Kd.C_alloc ?_ _ | refine Kd.C_drewN ?_ _ | refine Kd.C_drew ?_ | refine Kd.C_below ?_ HB6.out | refine Kd.C_below ?_ HB5.out | refine Kd.C_below ?_ HB4.out | refine Kd.C_below ?_ HB3.out | refine Kd.C_below ?_ HB2.out | refine Kd.C_below ?_ HB1.out )) (by repeat (with_reducible first | exact HC_b_hs.out | refine Kd.C_alloc ?_ _ | refine Kd.C_drewN ?_ _ | refine Kd.C_drew ?_ | refine Kd.C_below ?_ HB6.out | refine Kd.C_below ?_ HB5.out | refine Kd.C_below ?_ HB4.out | refine Kd.C_below ?_ HB3.out | refine Kd.C_below ?_ HB2.out | refine Kd.C_below ?_ HB1.out )) (by omega) (by omega)) ?_
  rintro e w7 ⟨X1_b_ch, x1_b_ch, X1_b_hs, x1_b_hs, rfl, le_X1_b_ch, r_X1_b_ch, le_X1_b_hs, r_X1_b_hs, hb⟩
  have HR_X1_b_ch := Aside0.mk r_X1_b_ch
  have HK_X1_b_ch := Aside0.mk (Kd.R_reads' r_X1_b_ch).2.2
  have LO_X1_b_ch := Aside0.mk (Kd.R_base r_X1_b_ch)
  have HI_X1_b_ch := Aside0.mk (Kd.R_lt r_X1_b_ch)
  (try simp only [size_alloc] at LO_X1_b_ch)
  have HR_X1_b_hs := Aside0.mk r_X1_b_hs
  have HK_X1_b_hs := Aside0.mk (Kd.R_reads' r_X1_b_hs).2.2
  have LO_X1_b_hs := Aside0.mk (Kd.R_base r_X1_b_hs)
  have HI_X1_b_hs := Aside0.mk (Kd.R_lt r_X1_b_hs)
  (try simp only [size_alloc] at LO_X1_b_hs)
  clear r_X1_b_ch r_X1_b_hs
  have HB7 := Aside0.mk hb
  have sz7 := hb.size
  (try simp only [size_alloc] at sz7)
  have NB_a : w7.heap[w.heap.size]? = some (.cells #[.int .i64 a_wi, .slice A_a_ch a_ch.length c_a_ch, .slice A_a_hs a_hs.length c_a_hs] 30 (0, 0)) := (by repeat (with_reducible first | exact BB_a.out | exact blk_new _ | refine blk_new' _ (by simp only [size_alloc]) | refine blk_drewN ?_ _ | refine blk_drew ?_ | refine blk_alloc ?_ _ | refine blk_below ?_ HB7.out ))
  clear BB_a lt_a rd_a
  have BB_a := Aside0.mk NB_a
  have lt_a := blk_lt NB_a
  have rd_a := blk_cell NB_a
  clear NB_a
  have NB_b : w7.heap[w.heap.size + 1]? = some (.cells #[.int .i64 b_wi, .slice A_b_ch b_ch.length c_b_ch, .slice A_b_hs b_hs.length c_b_hs] 30 (0, 0)) := (by repeat (with_reducible first | exact BB_b.out | exact blk_new _ | refine blk_new' _ (by simp only [size_alloc]) | refine blk_drewN ?_ _ | refine blk_drew ?_ | refine blk_alloc ?_ _ | refine blk_below ?_ HB7.out ))
  clear BB_b lt_b rd_b
  have BB_b := Aside0.mk NB_b
  have lt_b := blk_lt NB_b
  have rd_b := blk_cell NB_b
  clear NB_b
  have NB_x0 : w7.heap[w6.heap.size]? = some (.cells #[.int .i64 a_wi, .slice X0_a_ch a_ch.length x0_a_ch, .slice X0_a_hs a_hs.length x0_a_hs] 33 (0, 0)) := (by repeat (with_reducible first | exact blk_new _ | refine blk_new' _ (by simp only [size_alloc]) | refine blk_drewN ?_ _ | refine blk_drew ?_ | refine blk_alloc ?_ _ | refine blk_below ?_ HB7.out))
  have BB_x0 := Aside0.mk NB_x0
  have lt_x0 := blk_lt NB_x0
  have rd_x0 := blk_cell NB_x0
  clear NB_x0
  clear hb
  go_wp2_with fail
  refine Calls.mono (SameGrids_s a_wi _ _ a_ch _ _ a_hs b_wi _ _ b_ch _ _ b_hs _ (by repeat (with_reducible first | exact HK_X0_a_ch.out | refine Kd.C_alloc ?_ _ | refine Kd.C_drewN ?_ _ | refine Kd.C_drew ?_ | refine Kd.C_below ?_ HB7.out )) (by repeat (with_reducible first | exact HK_X0_a_hs.out | refine Kd.C_alloc ?_ _ | refine Kd.C_drewN ?_ _ | refine Kd.C_drew ?_ | refine Kd.C_below ?_ HB7.out )) (by repeat (with_reducible first | exact HK_X1_b_ch.out | refine Kd.C_alloc ?_ _ | refine Kd.C_drewN ?_ _ | refine Kd.C_drew ?_ )) (by repeat (with_reducible first | exact HK_X1_b_hs.out | refine Kd.C_alloc ?_ _ | refine Kd.C_drewN ?_ _ | refine Kd.C_drew ?_ )) le_X0_a_ch le_X0_a_hs le_X1_b_ch le_X1_b_hs ) ?_
  rintro e w8 ⟨rfl, hb⟩
  have HB8 := Aside0.mk hb
  have sz8 := hb.size
  (try simp only [size_alloc] at sz8)
  have NB_a : w8.heap[w.heap.size]? = some (.cells #[.int .i64 a_wi, .slice A_a_ch a_ch.length c_a_ch, .slice A_a_hs a_hs.length c_a_hs] 30 (0, 0)) := (by repeat (with_reducible first | exact BB_a.out | exact blk_new _ | refine blk_new' _ (by simp only [size_alloc]) | refine blk_drewN ?_ _ | refine blk_drew ?_ | refine blk_alloc ?_ _ | refine blk_below ?_ HB8.out ))
  clear BB_a lt_a rd_a
  have BB_a := Aside0.mk NB_a
  have lt_a := blk_lt NB_a
  have rd_a := blk_cell NB_a
  clear NB_a
  have NB_b : w8.heap[w.heap.size + 1]? = some (.cells #[.int .i64 b_wi, .slice A_b_ch b_ch.length c_b_ch, .slice A_b_hs b_hs.length c_b_hs] 30 (0, 0)) := (by repeat (with_reducible first | exact BB_b.out | exact blk_new _ | refine blk_new' _ (by simp only [size_alloc]) | refine blk_drewN ?_ _ | refine blk_drew ?_ | refine blk_alloc ?_ _ | refine blk_below ?_ HB8.out ))
  clear BB_b lt_b rd_b
  have BB_b := Aside0.mk NB_b
  have lt_b := blk_lt NB_b
  have rd_b := blk_cell NB_b
  clear NB_b
  have NB_x0 : w8.heap[w6.heap.size]? = some (.cells #[.int .i64 a_wi, .slice X0_a_ch a_ch.length x0_a_ch, .slice X0_a_hs a_hs.length x0_a_hs] 33 (0, 0)) := (by repeat (with_reducible first | exact BB_x0.out | exact blk_new _ | refine blk_new' _ (by simp only [size_alloc]) | refine blk_drewN ?_ _ | refine blk_drew ?_ | refine blk_alloc ?_ _ | refine blk_below ?_ HB8.out ))
  clear BB_x0 lt_x0 rd_x0
  have BB_x0 := Aside0.mk NB_x0
  have lt_x0 := blk_lt NB_x0
  have rd_x0 := blk_cell NB_x0
  clear NB_x0
  have NB_x1 : w8.heap[w7.heap.size]? = some (.cells #[.int .i64 b_wi, .slice X1_b_ch b_ch.length x1_b_ch, .slice X1_b_hs b_hs.length x1_b_hs] 33 (0, 0)) := (by repeat (with_reducible first | exact blk_new _ | refine blk_new' _ (by simp only [size_alloc]) | refine blk_drewN ?_ _ | refine blk_drew ?_ | refine blk_alloc ?_ _ | refine blk_below ?_ HB8.out))
  have BB_x1 := Aside0.mk NB_x1
  have lt_x1 := blk_lt NB_x1
  have rd_x1 := blk_cell NB_x1
  clear NB_x1
  clear hb
  go_wp2_with fail
  have hae0 : eqv (a_wi, a_ch, a_hs) (a_wi, a_ch, a_hs) = true := eqv_self _
  go_region_held3 (fun W : World => (∀ i, W.cell? ⟨w.heap.size, i, none⟩ = (#[.int .i64 a_wi, .slice A_a_ch a_ch.length c_a_ch, .slice A_a_hs a_hs.length c_a_hs] : Array Value)[i]?) ∧ (∀ i, W.cell? ⟨w6.heap.size, i, none⟩ = (#[.int .i64 a_wi, .slice X0_a_ch a_ch.length x0_a_ch, .slice X0_a_hs a_hs.length x0_a_hs] : Array Value)[i]?)) (go_keep)
    (first
      | (go_at_call 19; refine Calls.mono (toGrid_c _ _ _ a_ch _ _ a_hs _ (by repeat (with_reducible first | exact HC_a_ch.out | refine Kd.C_alloc ?_ _ | refine Kd.C_drewN ?_ _ | refine Kd.C_drew ?_ | refine Kd.C_below ?_ HB8.out | refine Kd.C_below ?_ HB7.out | refine Kd.C_below ?_ HB6.out | refine Kd.C_below ?_ HB5.out | refine Kd.C_below ?_ HB4.out | refine Kd.C_below ?_ HB3.out | refine Kd.C_below ?_ HB2.out | refine Kd.C_below ?_ HB1.out )) (by repeat (with_reducible first | exact HC_a_hs.out | refine Kd.C_alloc ?_ _ | refine Kd.C_drewN ?_ _ | refine Kd.C_drew ?_ | refine Kd.C_below ?_ HB8.out | refine Kd.C_below ?_ HB7.out | refine Kd.C_below ?_ HB6.out | refine Kd.C_below ?_ HB5.out | refine Kd.C_below ?_ HB4.out | refine Kd.C_below ?_ HB3.out | refine Kd.C_below ?_ HB2.out | refine Kd.C_below ?_ HB1.out )) (by omega) (by omega)) ?_; rintro e w9 ⟨Y0_a_ch, y0_a_ch, Y0_a_hs, y0_a_hs, rfl, le_Y0_a_ch, r_Y0_a_ch, le_Y0_a_hs, r_Y0_a_hs, hb⟩; have HR_Y0_a_ch := Aside0.mk r_Y0_a_ch; have HK_Y0_a_ch := Aside0.mk (Kd.R_reads' r_Y0_a_ch).2.2; have LO_Y0_a_ch := Aside0.mk (Kd.R_base r_Y0_a_ch); have HI_Y0_a_ch := Aside0.mk (Kd.R_lt r_Y0_a_ch); (try simp only [size_alloc] at LO_Y0_a_ch); have HR_Y0_a_hs := Aside0.mk r_Y0_a_hs; have HK_Y0_a_hs := Aside0.mk (Kd.R_reads' r_Y0_a_hs).2.2; have LO_Y0_a_hs := Aside0.mk (Kd.R_base r_Y0_a_hs); have HI_Y0_a_hs := Aside0.mk (Kd.R_lt r_Y0_a_hs); (try simp only [size_alloc] at LO_Y0_a_hs); clear r_Y0_a_ch r_Y0_a_hs; have HB9 := Aside0.mk hb; have sz9 := hb.size; (try simp only [size_alloc] at sz9); have NB_a : w9.heap[w.heap.size]? = some (.cells #[.int .i64 a_wi, .slice A_a_ch a_ch.length c_a_ch, .slice A_a_hs a_hs.length c_a_hs] 30 (0, 0)) := (by repeat (with_reducible first | exact BB_a.out | exact blk_new _ | refine blk_new' _ (by simp only [size_alloc]) | refine blk_drewN ?_ _ | refine blk_drew ?_ | refine blk_alloc ?_ _ | refine blk_below ?_ HB9.out )); clear BB_a lt_a rd_a; have BB_a := Aside0.mk NB_a; have lt_a := blk_lt NB_a; have rd_a := blk_cell NB_a; clear NB_a; have NB_b : w9.heap[w.heap.size + 1]? = some (.cells #[.int .i64 b_wi, .slice A_b_ch b_ch.length c_b_ch, .slice A_b_hs b_hs.length c_b_hs] 30 (0, 0)) := (by repeat (with_reducible first | exact BB_b.out | exact blk_new _ | refine blk_new' _ (by simp only [size_alloc]) | refine blk_drewN ?_ _ | refine blk_drew ?_ | refine blk_alloc ?_ _ | refine blk_below ?_ HB9.out )); clear BB_b lt_b rd_b; have BB_b := Aside0.mk NB_b; have lt_b := blk_lt NB_b; have rd_b := blk_cell NB_b; clear NB_b; have NB_x0 : w9.heap[w6.heap.size]? = some (.cells #[.int .i64 a_wi, .slice X0_a_ch a_ch.length x0_a_ch, .slice X0_a_hs a_hs.length x0_a_hs] 33 (0, 0)) := (by repeat (with_reducible first | exact BB_x0.out | exact blk_new _ | refine blk_new' _ (by simp only [size_alloc]) | refine blk_drewN ?_ _ | refine blk_drew ?_ | refine blk_alloc ?_ _ | refine blk_below ?_ HB9.out )); clear BB_x0 lt_x0 rd_x0; have BB_x0 := Aside0.mk NB_x0; have lt_x0 := blk_lt NB_x0; have rd_x0 := blk_cell NB_x0; clear NB_x0; have NB_x1 : w9.heap[w7.heap.size]? = some (.cells #[.int .i64 b_wi, .slice X1_b_ch b_ch.length x1_b_ch, .slice X1_b_hs b_hs.length x1_b_hs] 33 (0, 0)) := (by repeat (with_reducible first | exact BB_x1.out | exact blk_new _ | refine blk_new' _ (by simp only [size_alloc]) | refine blk_drewN ?_ _ | refine blk_drew ?_ | refine blk_alloc ?_ _ | refine blk_below ?_ HB9.out )); clear BB_x1 lt_x1 rd_x1; have BB_x1 := Aside0.mk NB_x1; have lt_x1 := blk_lt NB_x1; have rd_x1 := blk_cell NB_x1; clear NB_x1; clear hb)
      | (go_at_call 21; refine Calls.mono (eqGrid_c _ _ _ a_ch _ _ a_hs _ _ _ a_ch _ _ a_hs _ (by repeat (with_reducible first | exact HK_X0_a_ch.out | refine Kd.C_alloc ?_ _ | refine Kd.C_drewN ?_ _ | refine Kd.C_drew ?_ | refine Kd.C_below ?_ HB9.out | refine Kd.C_below ?_ HB8.out | refine Kd.C_below ?_ HB7.out )) (by repeat (with_reducible first | exact HK_X0_a_hs.out | refine Kd.C_alloc ?_ _ | refine Kd.C_drewN ?_ _ | refine Kd.C_drew ?_ | refine Kd.C_below ?_ HB9.out | refine Kd.C_below ?_ HB8.out | refine Kd.C_below ?_ HB7.out )) (by repeat (with_reducible first | exact HK_Y0_a_ch.out | refine Kd.C_alloc ?_ _ | refine Kd.C_drewN ?_ _ | refine Kd.C_drew ?_ )) (by repeat (with_reducible first | exact HK_Y0_a_hs.out | refine Kd.C_alloc ?_ _ | refine Kd.C_drewN ?_ _ | refine Kd.C_drew ?_ ))) ?_; rintro e w10 ⟨rfl, hb⟩; have HB10 := Aside0.mk hb; have sz10 := hb.size; (try simp only [size_alloc] at sz10); have NB_a : w10.heap[w.heap.size]? = some (.cells #[.int .i64 a_wi, .slice A_a_ch a_ch.length c_a_ch, .slice A_a_hs a_hs.length c_a_hs] 30 (0, 0)) := (by repeat (with_reducible first | exact BB_a.out | exact blk_new _ | refine blk_new' _ (by simp only [size_alloc]) | refine blk_drewN ?_ _ | refine blk_drew ?_ | refine blk_alloc ?_ _ | refine blk_below ?_ HB10.out )); clear BB_a lt_a rd_a; have BB_a := Aside0.mk NB_a; have lt_a := blk_lt NB_a; have rd_a := blk_cell NB_a; clear NB_a; have NB_b : w10.heap[w.heap.size + 1]? = some (.cells #[.int .i64 b_wi, .slice A_b_ch b_ch.length c_b_ch, .slice A_b_hs b_hs.length c_b_hs] 30 (0, 0)) := (by repeat (with_reducible first | exact BB_b.out | exact blk_new _ | refine blk_new' _ (by simp only [size_alloc]) | refine blk_drewN ?_ _ | refine blk_drew ?_ | refine blk_alloc ?_ _ | refine blk_below ?_ HB10.out )); clear BB_b lt_b rd_b; have BB_b := Aside0.mk NB_b; have lt_b := blk_lt NB_b; have rd_b := blk_cell NB_b; clear NB_b; have NB_x0 : w10.heap[w6.heap.size]? = some (.cells #[.int .i64 a_wi, .slice X0_a_ch a_ch.length x0_a_ch, .slice X0_a_hs a_hs.length x0_a_hs] 33 (0, 0)) := (by repeat (with_reducible first | exact BB_x0.out | exact blk_new _ | refine blk_new' _ (by simp only [size_alloc]) | refine blk_drewN ?_ _ | refine blk_drew ?_ | refine blk_alloc ?_ _ | refine blk_below ?_ HB10.out )); clear BB_x0 lt_x0 rd_x0; have BB_x0 := Aside0.mk NB_x0; have lt_x0 := blk_lt NB_x0; have rd_x0 := blk_cell NB_x0; clear NB_x0; have NB_x1 : w10.heap[w7.heap.size]? = some (.cells #[.int .i64 b_wi, .slice X1_b_ch b_ch.length x1_b_ch, .slice X1_b_hs b_hs.length x1_b_hs] 33 (0, 0)) := (by repeat (with_reducible first | exact BB_x1.out | exact blk_new _ | refine blk_new' _ (by simp only [size_alloc]) | refine blk_drewN ?_ _ | refine blk_drew ?_ | refine blk_alloc ?_ _ | refine blk_below ?_ HB10.out )); clear BB_x1 lt_x1 rd_x1; have BB_x1 := Aside0.mk NB_x1; have lt_x1 := blk_lt NB_x1; have rd_x1 := blk_cell NB_x1; clear NB_x1; clear hb))
  go_wp2_with fail
  have hae1 : eqv (b_wi, b_ch, b_hs) (b_wi, b_ch, b_hs) = true := eqv_self _
  go_region_held3 (fun W : World => (∀ i, W.cell? ⟨w.heap.size + 1, i, none⟩ = (#[.int .i64 b_wi, .slice A_b_ch b_ch.length c_b_ch, .slice A_b_hs b_hs.length c_b_hs] : Array Value)[i]?) ∧ (∀ i, W.cell? ⟨w7.heap.size, i, none⟩ = (#[.int .i64 b_wi, .slice X1_b_ch b_ch.length x1_b_ch, .slice X1_b_hs b_hs.length x1_b_hs] : Array Value)[i]?)) (go_keep)
    (first
      | (go_at_call 19; refine Calls.mono (toGrid_c _ _ _ b_ch _ _ b_hs _ (by repeat (with_reducible first | exact HC_b_ch.out | refine Kd.C_alloc ?_ _ | refine Kd.C_drewN ?_ _ | refine Kd.C_drew ?_ | refine Kd.C_below ?_ HB10.out | refine Kd.C_below ?_ HB9.out | refine Kd.C_below ?_ HB8.out | refine Kd.C_below ?_ HB7.out | refine Kd.C_below ?_ HB6.out | refine Kd.C_below ?_ HB5.out | refine Kd.C_below ?_ HB4.out | refine Kd.C_below ?_ HB3.out | refine Kd.C_below ?_ HB2.out | refine Kd.C_below ?_ HB1.out )) (by repeat (with_reducible first | exact HC_b_hs.out | refine Kd.C_alloc ?_ _ | refine Kd.C_drewN ?_ _ | refine Kd.C_drew ?_ | refine Kd.C_below ?_ HB10.out | refine Kd.C_below ?_ HB9.out | refine Kd.C_below ?_ HB8.out | refine Kd.C_below ?_ HB7.out | refine Kd.C_below ?_ HB6.out | refine Kd.C_below ?_ HB5.out | refine Kd.C_below ?_ HB4.out | refine Kd.C_below ?_ HB3.out | refine Kd.C_below ?_ HB2.out | refine Kd.C_below ?_ HB1.out )) (by omega) (by omega)) ?_; rintro e w11 ⟨Y1_b_ch, y1_b_ch, Y1_b_hs, y1_b_hs, rfl, le_Y1_b_ch, r_Y1_b_ch, le_Y1_b_hs, r_Y1_b_hs, hb⟩; have HR_Y1_b_ch := Aside0.mk r_Y1_b_ch; have HK_Y1_b_ch := Aside0.mk (Kd.R_reads' r_Y1_b_ch).2.2; have LO_Y1_b_ch := Aside0.mk (Kd.R_base r_Y1_b_ch); have HI_Y1_b_ch := Aside0.mk (Kd.R_lt r_Y1_b_ch); (try simp only [size_alloc] at LO_Y1_b_ch); have HR_Y1_b_hs := Aside0.mk r_Y1_b_hs; have HK_Y1_b_hs := Aside0.mk (Kd.R_reads' r_Y1_b_hs).2.2; have LO_Y1_b_hs := Aside0.mk (Kd.R_base r_Y1_b_hs); have HI_Y1_b_hs := Aside0.mk (Kd.R_lt r_Y1_b_hs); (try simp only [size_alloc] at LO_Y1_b_hs); clear r_Y1_b_ch r_Y1_b_hs; have HB11 := Aside0.mk hb; have sz11 := hb.size; (try simp only [size_alloc] at sz11); have NB_a : w11.heap[w.heap.size]? = some (.cells #[.int .i64 a_wi, .slice A_a_ch a_ch.length c_a_ch, .slice A_a_hs a_hs.length c_a_hs] 30 (0, 0)) := (by repeat (with_reducible first | exact BB_a.out | exact blk_new _ | refine blk_new' _ (by simp only [size_alloc]) | refine blk_drewN ?_ _ | refine blk_drew ?_ | refine blk_alloc ?_ _ | refine blk_below ?_ HB11.out )); clear BB_a lt_a rd_a; have BB_a := Aside0.mk NB_a; have lt_a := blk_lt NB_a; have rd_a := blk_cell NB_a; clear NB_a; have NB_b : w11.heap[w.heap.size + 1]? = some (.cells #[.int .i64 b_wi, .slice A_b_ch b_ch.length c_b_ch, .slice A_b_hs b_hs.length c_b_hs] 30 (0, 0)) := (by repeat (with_reducible first | exact BB_b.out | exact blk_new _ | refine blk_new' _ (by simp only [size_alloc]) | refine blk_drewN ?_ _ | refine blk_drew ?_ | refine blk_alloc ?_ _ | refine blk_below ?_ HB11.out )); clear BB_b lt_b rd_b; have BB_b := Aside0.mk NB_b; have lt_b := blk_lt NB_b; have rd_b := blk_cell NB_b; clear NB_b; have NB_x0 : w11.heap[w6.heap.size]? = some (.cells #[.int .i64 a_wi, .slice X0_a_ch a_ch.length x0_a_ch, .slice X0_a_hs a_hs.length x0_a_hs] 33 (0, 0)) := (by repeat (with_reducible first | exact BB_x0.out | exact blk_new _ | refine blk_new' _ (by simp only [size_alloc]) | refine blk_drewN ?_ _ | refine blk_drew ?_ | refine blk_alloc ?_ _ | refine blk_below ?_ HB11.out )); clear BB_x0 lt_x0 rd_x0; have BB_x0 := Aside0.mk NB_x0; have lt_x0 := blk_lt NB_x0; have rd_x0 := blk_cell NB_x0; clear NB_x0; have NB_x1 : w11.heap[w7.heap.size]? = some (.cells #[.int .i64 b_wi, .slice X1_b_ch b_ch.length x1_b_ch, .slice X1_b_hs b_hs.length x1_b_hs] 33 (0, 0)) := (by repeat (with_reducible first | exact BB_x1.out | exact blk_new _ | refine blk_new' _ (by simp only [size_alloc]) | refine blk_drewN ?_ _ | refine blk_drew ?_ | refine blk_alloc ?_ _ | refine blk_below ?_ HB11.out )); clear BB_x1 lt_x1 rd_x1; have BB_x1 := Aside0.mk NB_x1; have lt_x1 := blk_lt NB_x1; have rd_x1 := blk_cell NB_x1; clear NB_x1; clear hb)
      | (go_at_call 21; refine Calls.mono (eqGrid_c _ _ _ b_ch _ _ b_hs _ _ _ b_ch _ _ b_hs _ (by repeat (with_reducible first | exact HK_X1_b_ch.out | refine Kd.C_alloc ?_ _ | refine Kd.C_drewN ?_ _ | refine Kd.C_drew ?_ | refine Kd.C_below ?_ HB11.out | refine Kd.C_below ?_ HB10.out | refine Kd.C_below ?_ HB9.out | refine Kd.C_below ?_ HB8.out )) (by repeat (with_reducible first | exact HK_X1_b_hs.out | refine Kd.C_alloc ?_ _ | refine Kd.C_drewN ?_ _ | refine Kd.C_drew ?_ | refine Kd.C_below ?_ HB11.out | refine Kd.C_below ?_ HB10.out | refine Kd.C_below ?_ HB9.out | refine Kd.C_below ?_ HB8.out )) (by repeat (with_reducible first | exact HK_Y1_b_ch.out | refine Kd.C_alloc ?_ _ | refine Kd.C_drewN ?_ _ | refine Kd.C_drew ?_ )) (by repeat (with_reducible first | exact HK_Y1_b_hs.out | refine Kd.C_alloc ?_ _ | refine Kd.C_drewN ?_ _ | refine Kd.C_drew ?_ ))) ?_; rintro e w12 ⟨rfl, hb⟩; have HB12 := Aside0.mk hb; have sz12 := hb.size; (try simp only [size_alloc] at sz12); have NB_a : w12.heap[w.heap.size]? = some (.cells #[.int .i64 a_wi, .slice A_a_ch a_ch.length c_a_ch, .slice A_a_hs a_hs.length c_a_hs] 30 (0, 0)) := (by repeat (with_reducible first | exact BB_a.out | exact blk_new _ | refine blk_new' _ (by simp only [size_alloc]) | refine blk_drewN ?_ _ | refine blk_drew ?_ | refine blk_alloc ?_ _ | refine blk_below ?_ HB12.out )); clear BB_a lt_a rd_a; have BB_a := Aside0.mk NB_a; have lt_a := blk_lt NB_a; have rd_a := blk_cell NB_a; clear NB_a; have NB_b : w12.heap[w.heap.size + 1]? = some (.cells #[.int .i64 b_wi, .slice A_b_ch b_ch.length c_b_ch, .slice A_b_hs b_hs.length c_b_hs] 30 (0, 0)) := (by repeat (with_reducible first | exact BB_b.out | exact blk_new _ | refine blk_new' _ (by simp only [size_alloc]) | refine blk_drewN ?_ _ | refine blk_drew ?_ | refine blk_alloc ?_ _ | refine blk_below ?_ HB12.out )); clear BB_b lt_b rd_b; have BB_b := Aside0.mk NB_b; have lt_b := blk_lt NB_b; have rd_b := blk_cell NB_b; clear NB_b; have NB_x0 : w12.heap[w6.heap.size]? = some (.cells #[.int .i64 a_wi, .slice X0_a_ch a_ch.length x0_a_ch, .slice X0_a_hs a_hs.length x0_a_hs] 33 (0, 0)) := (by repeat (with_reducible first | exact BB_x0.out | exact blk_new _ | refine blk_new' _ (by simp only [size_alloc]) | refine blk_drewN ?_ _ | refine blk_drew ?_ | refine blk_alloc ?_ _ | refine blk_below ?_ HB12.out )); clear BB_x0 lt_x0 rd_x0; have BB_x0 := Aside0.mk NB_x0; have lt_x0 := blk_lt NB_x0; have rd_x0 := blk_cell NB_x0; clear NB_x0; have NB_x1 : w12.heap[w7.heap.size]? = some (.cells #[.int .i64 b_wi, .slice X1_b_ch b_ch.length x1_b_ch, .slice X1_b_hs b_hs.length x1_b_hs] 33 (0, 0)) := (by repeat (with_reducible first | exact BB_x1.out | exact blk_new _ | refine blk_new' _ (by simp only [size_alloc]) | refine blk_drewN ?_ _ | refine blk_drew ?_ | refine blk_alloc ?_ _ | refine blk_below ?_ HB12.out )); clear BB_x1 lt_x1 rd_x1; have BB_x1 := Aside0.mk NB_x1; have lt_x1 := blk_lt NB_x1; have rd_x1 := blk_cell NB_x1; clear NB_x1; clear hb))
  go_wp2
  go_ret
  exact ⟨rfl, (by repeat (with_reducible first | exact Below.refl _ _ | refine below_alloc ?_ _ | refine below_drew ?_ | refine pw_below_drewN ?_ _ | refine below_end ?_ HB12.out | refine below_end ?_ HB11.out | refine below_end ?_ HB10.out | refine below_end ?_ HB9.out | refine below_end ?_ HB8.out | refine below_end ?_ HB7.out | refine below_end ?_ HB6.out | refine below_end ?_ HB5.out | refine below_end ?_ HB4.out | refine below_end ?_ HB3.out | refine below_end ?_ HB2.out | refine below_end ?_ HB1.out ))⟩
end Go.Proofs.Ytpfponhaofdbaaa.M
