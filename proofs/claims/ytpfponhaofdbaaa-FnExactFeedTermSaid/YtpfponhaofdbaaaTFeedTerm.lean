import Derived.Test.YtpfponhaofdbaaaL2
import Derived.Test.YtpfponhaofdbaaaK2
import Derived.Test.YtpfponhaofdbaaaFD
set_option linter.unusedVariables false
set_option linter.unusedSimpArgs false
namespace Go.Proofs.Ytpfponhaofdbaaa.M
open Go.RowKit Go.Proofs.YtpfponhaofdbaaaW.PrintWords
theorem u8_bd {n : Int} (h : (Lit.int .u8 n).wf = true) : 0 ≤ n ∧ n ≤ 255 := by
  simp only [Lit.wf, Bool.and_eq_true, decide_eq_true_eq] at h
  exact h
set_option maxRecDepth 100000 in
set_option maxHeartbeats 1000000 in
theorem law_FeedTerm_c (t_wi : Int) (t_ro : Int) (t_y : Int) (t_x : Int) (t_hi : Bool) (A_t_ch : Option Addr) (c_t_ch : Nat) (t_ch : List Int) (A_t_hs : Option Addr) (c_t_hs : Nat) (t_hs : List Bool) (A_d : Option Addr) (c_d : Nat) (d : List Int) (w : World) (hr_t_ch : Kd.C (Kd.int .i64) w A_t_ch t_ch.length t_ch) (hr_t_hs : Kd.C Kd.bool w A_t_hs t_hs.length t_hs) (hr_d : Kd.C (Kd.int .u8) w A_d d.length d) (hbd : ∀ z ∈ d, 0 ≤ z ∧ z ≤ 255) :
    Calls Try.prog 12 #[.agg #[.int .i64 t_wi, .int .i64 t_ro, .int .i64 t_y, .int .i64 t_x, .bool t_hi, .slice A_t_ch t_ch.length c_t_ch, .slice A_t_hs t_hs.length c_t_hs], .slice A_d d.length c_d] w fun e w' => e = .returned (.bool true) ∧ Below w.heap.size w w' := by
  have HC_t_ch := Aside0.mk hr_t_ch
  have hm_t_ch := Kd.C_max hr_t_ch
  have HC_t_hs := Aside0.mk hr_t_hs
  have hm_t_hs := Kd.C_max hr_t_hs
  have HC_d := Aside0.mk hr_d
  have hm_d := Kd.C_max hr_d
  clear hr_t_ch hr_t_hs hr_d
  by_cases hg_d : 1048576 < d.length
  · have hgb_d : ((d.length : Int) > 1048576) := by omega
    go_enter Try.func12, Try.ntmps12
    go_wp2
    go_ret
    exact ⟨rfl, by repeat (first | exact Below.refl _ _ | refine below_alloc ?_ _)⟩
  by_cases hz0 : szfs [t_ch.length, t_hs.length] 1048576 < 0
  · go_enter Try.func12, Try.ntmps12
    go_wp2_with fail
    refine Calls.mono (szTerm_c _ _ _ _ _ _ t_ch.length _ _ t_hs.length _ 1048576 _ hm_t_ch hm_t_hs (by omega) (by omega)) ?_
    rintro e w1 ⟨rfl, hb⟩
    have HB1 := Aside0.mk hb
    have sz1 := hb.size
    (try simp only [size_alloc, size_drew, size_drewN] at sz1)
    have NB_t : w1.heap[w.heap.size]? = some (.cells #[.int .i64 t_wi, .int .i64 t_ro, .int .i64 t_y, .int .i64 t_x, .bool t_hi, .slice A_t_ch t_ch.length c_t_ch, .slice A_t_hs t_hs.length c_t_hs] 44 (0, 0)) := (by repeat (with_reducible first | exact blk_new _ | refine blk_new' _ (by simp only [size_alloc]) | refine blk_drewN ?_ _ | refine blk_drew ?_ | refine blk_alloc ?_ _ | refine blk_below ?_ HB1.out))
    have BB_t := Aside0.mk NB_t
    have lt_t := blk_lt NB_t
    have rd_t := blk_cell NB_t
    clear NB_t
    clear hb
    go_wp2
    go_ret
    exact ⟨rfl, (by repeat (with_reducible first | exact Below.refl _ _ | refine below_alloc ?_ _ | refine below_drew ?_ | refine pw_below_drewN ?_ _ | refine below_end ?_ HB1.out ))⟩
  have hl0 := szfs_nn _ _ (by omega) hz0
  (try simp only [List.sum_cons, List.sum_nil] at hl0)
  have hle0 := szfs_le [t_ch.length, t_hs.length] 1048576 (by omega)
  obtain ⟨r_co, r_t_wi, r_t_ro, r_t_y, r_t_x, r_t_hi, r_t_ch, r_t_hs, hval⟩ : ∃ r_co r_t_wi r_t_ro r_t_y r_t_x r_t_hi r_t_ch r_t_hs, Aside0 (feedTermP t_wi t_ro t_y t_x t_hi t_ch t_hs d = (r_co, r_t_wi, r_t_ro, r_t_y, r_t_x, r_t_hi, r_t_ch, r_t_hs)) := ⟨_, _, _, _, _, _, _, _, ⟨rfl⟩⟩
  have hlen := feedTermP_len t_wi t_ro t_y t_x t_hi t_ch t_hs d
  rw [hval.out] at hlen
  (try dsimp only at hlen)
  have hlen1 := hlen.1
  have hlen2 := hlen.2
  clear hlen
  have hbd := Aside0.mk hbd
  go_enter Try.func12, Try.ntmps12
  go_wp2_with fail
  refine Calls.mono (szTerm_c _ _ _ _ _ _ t_ch.length _ _ t_hs.length _ 1048576 _ hm_t_ch hm_t_hs (by omega) (by omega)) ?_
  rintro e w1 ⟨rfl, hb⟩
  have HB1 := Aside0.mk hb
  have sz1 := hb.size
  (try simp only [size_alloc, size_drew, size_drewN] at sz1)
  have NB_t : w1.heap[w.heap.size]? = some (.cells #[.int .i64 t_wi, .int .i64 t_ro, .int .i64 t_y, .int .i64 t_x, .bool t_hi, .slice A_t_ch t_ch.length c_t_ch, .slice A_t_hs t_hs.length c_t_hs] 44 (0, 0)) := (by repeat (with_reducible first | exact blk_new _ | refine blk_new' _ (by simp only [size_alloc]) | refine blk_drewN ?_ _ | refine blk_drew ?_ | refine blk_alloc ?_ _ | refine blk_below ?_ HB1.out))
  have BB_t := Aside0.mk NB_t
  have lt_t := blk_lt NB_t
  have rd_t := blk_cell NB_t
  clear NB_t
  clear hb
  have hveq : eqv (r_co, r_t_wi, r_t_ro, r_t_y, r_t_x, r_t_hi, r_t_ch, r_t_hs) (r_co, r_t_wi, r_t_ro, r_t_y, r_t_x, r_t_hi, r_t_ch, r_t_hs) = true := eqv_self _
  go_wp2_with fail
  refine Calls.mono (toTerm_c _ _ _ _ _ _ _ t_ch _ _ t_hs _ (by repeat (with_reducible first | exact HC_t_ch.out | refine Kd.C_alloc ?_ _ | refine Kd.C_drewN ?_ _ | refine Kd.C_drew ?_ | refine Kd.C_below ?_ HB1.out )) (by repeat (with_reducible first | exact HC_t_hs.out | refine Kd.C_alloc ?_ _ | refine Kd.C_drewN ?_ _ | refine Kd.C_drew ?_ | refine Kd.C_below ?_ HB1.out )) (by omega) (by omega)) ?_
  rintro e w2 ⟨P0_t_ch, p0_t_ch, P0_t_hs, p0_t_hs, rfl, le_P0_t_ch, r_P0_t_ch, le_P0_t_hs, r_P0_t_hs, hb⟩
  have HR_P0_t_ch := Aside0.mk r_P0_t_ch
  have HK_P0_t_ch := Aside0.mk (Kd.R_reads' r_P0_t_ch).2.2
  have LO_P0_t_ch := Aside0.mk (Kd.R_base r_P0_t_ch)
  have HI_P0_t_ch := Aside0.mk (Kd.R_lt r_P0_t_ch)
  (try simp only [size_alloc, size_drew, size_drewN] at LO_P0_t_ch)
  have HR_P0_t_hs := Aside0.mk r_P0_t_hs
  have HK_P0_t_hs := Aside0.mk (Kd.R_reads' r_P0_t_hs).2.2
  have LO_P0_t_hs := Aside0.mk (Kd.R_base r_P0_t_hs)
  have HI_P0_t_hs := Aside0.mk (Kd.R_lt r_P0_t_hs)
  (try simp only [size_alloc, size_drew, size_drewN] at LO_P0_t_hs)
  clear r_P0_t_ch r_P0_t_hs
  have HB2 := Aside0.mk hb
  have sz2 := hb.size
  (try simp only [size_alloc, size_drew, size_drewN] at sz2)
  have NB_t : w2.heap[w.heap.size]? = some (.cells #[.int .i64 t_wi, .int .i64 t_ro, .int .i64 t_y, .int .i64 t_x, .bool t_hi, .slice A_t_ch t_ch.length c_t_ch, .slice A_t_hs t_hs.length c_t_hs] 44 (0, 0)) := (by repeat (with_reducible first | exact BB_t.out | exact blk_new _ | refine blk_new' _ (by simp only [size_alloc]) | refine blk_drewN ?_ _ | refine blk_drew ?_ | refine blk_alloc ?_ _ | refine blk_below ?_ HB2.out ))
  clear BB_t lt_t rd_t
  have BB_t := Aside0.mk NB_t
  have lt_t := blk_lt NB_t
  have rd_t := blk_cell NB_t
  clear NB_t
  clear hb
  go_wp2_with fail
  refine Calls.mono (toByteS_r _ _ d _ (by repeat (with_reducible first | exact HC_d.out | refine Kd.C_alloc ?_ _ | refine Kd.C_drewN ?_ _ | refine Kd.C_drew ?_ | refine Kd.C_below ?_ HB2.out | refine Kd.C_below ?_ HB1.out )) (by omega)) ?_
  rintro e w3 ⟨P1_d, p1_d, rfl, le_P1_d, r_P1_d, hb⟩
  have HR_P1_d := Aside0.mk r_P1_d
  have HK_P1_d := Aside0.mk (Kd.R_reads' r_P1_d).2.2
  have LO_P1_d := Aside0.mk (Kd.R_base r_P1_d)
  have HI_P1_d := Aside0.mk (Kd.R_lt r_P1_d)
  (try simp only [size_alloc, size_drew, size_drewN] at LO_P1_d)
  clear r_P1_d
  have HB3 := Aside0.mk hb
  have sz3 := hb.size
  (try simp only [size_alloc, size_drew, size_drewN] at sz3)
  have NB_t : w3.heap[w.heap.size]? = some (.cells #[.int .i64 t_wi, .int .i64 t_ro, .int .i64 t_y, .int .i64 t_x, .bool t_hi, .slice A_t_ch t_ch.length c_t_ch, .slice A_t_hs t_hs.length c_t_hs] 44 (0, 0)) := (by repeat (with_reducible first | exact BB_t.out | exact blk_new _ | refine blk_new' _ (by simp only [size_alloc]) | refine blk_drewN ?_ _ | refine blk_drew ?_ | refine blk_alloc ?_ _ | refine blk_below ?_ HB3.out ))
  clear BB_t lt_t rd_t
  have BB_t := Aside0.mk NB_t
  have lt_t := blk_lt NB_t
  have rd_t := blk_cell NB_t
  clear NB_t
  clear hb
  go_wp2_with fail
  refine Calls.mono (specFeedTerm_c t_wi t_ro t_y t_x t_hi _ _ t_ch _ _ t_hs _ _ d _ (by repeat (with_reducible first | exact HK_P0_t_ch.out | refine Kd.C_alloc ?_ _ | refine Kd.C_drewN ?_ _ | refine Kd.C_drew ?_ | refine Kd.C_below ?_ HB3.out )) (by repeat (with_reducible first | exact HK_P0_t_hs.out | refine Kd.C_alloc ?_ _ | refine Kd.C_drewN ?_ _ | refine Kd.C_drew ?_ | refine Kd.C_below ?_ HB3.out )) (by repeat (with_reducible first | exact HK_P1_d.out | refine Kd.C_alloc ?_ _ | refine Kd.C_drewN ?_ _ | refine Kd.C_drew ?_ )) le_P0_t_ch le_P0_t_hs le_P1_d hbd.out) ?_
  rintro e w4 ⟨G0_r_t_ch, g0_r_t_ch, G0_r_t_hs, g0_r_t_hs, he, le_G0_r_t_ch, r_G0_r_t_ch, le_G0_r_t_hs, r_G0_r_t_hs, hb⟩
  rw [hval.out] at he
  (try dsimp only at he)
  subst he
  rw [hval.out] at le_G0_r_t_ch r_G0_r_t_ch
  (try dsimp only at le_G0_r_t_ch r_G0_r_t_ch)
  rw [hval.out] at le_G0_r_t_hs r_G0_r_t_hs
  (try dsimp only at le_G0_r_t_hs r_G0_r_t_hs)
  have HR_G0_r_t_ch := Aside0.mk r_G0_r_t_ch
  have HK_G0_r_t_ch := Aside0.mk (Kd.R_reads' r_G0_r_t_ch).2.2
  have LO_G0_r_t_ch := Aside0.mk (Kd.R_base r_G0_r_t_ch)
  have HI_G0_r_t_ch := Aside0.mk (Kd.R_lt r_G0_r_t_ch)
  (try simp only [size_alloc, size_drew, size_drewN] at LO_G0_r_t_ch)
  have HR_G0_r_t_hs := Aside0.mk r_G0_r_t_hs
  have HK_G0_r_t_hs := Aside0.mk (Kd.R_reads' r_G0_r_t_hs).2.2
  have LO_G0_r_t_hs := Aside0.mk (Kd.R_base r_G0_r_t_hs)
  have HI_G0_r_t_hs := Aside0.mk (Kd.R_lt r_G0_r_t_hs)
  (try simp only [size_alloc, size_drew, size_drewN] at LO_G0_r_t_hs)
  clear r_G0_r_t_ch r_G0_r_t_hs
  have HB4 := Aside0.mk hb
  have sz4 := hb.size
  (try simp only [size_alloc, size_drew, size_drewN] at sz4)
  have NB_t : w4.heap[w.heap.size]? = some (.cells #[.int .i64 t_wi, .int .i64 t_ro, .int .i64 t_y, .int .i64 t_x, .bool t_hi, .slice A_t_ch t_ch.length c_t_ch, .slice A_t_hs t_hs.length c_t_hs] 44 (0, 0)) := (by repeat (with_reducible first | exact BB_t.out | exact blk_new _ | refine blk_new' _ (by simp only [size_alloc]) | refine blk_drewN ?_ _ | refine blk_drew ?_ | refine blk_alloc ?_ _ | refine blk_below ?_ HB4.out ))
  clear BB_t lt_t rd_t
  have BB_t := Aside0.mk NB_t
  have lt_t := blk_lt NB_t
  have rd_t := blk_cell NB_t
  clear NB_t
  clear hb
  go_wp2_with fail
  refine Calls.mono (toTerm_c _ _ _ _ _ _ _ t_ch _ _ t_hs _ (by repeat (with_reducible first | exact HC_t_ch.out | refine Kd.C_alloc ?_ _ | refine Kd.C_drewN ?_ _ | refine Kd.C_drew ?_ | refine Kd.C_below ?_ HB4.out | refine Kd.C_below ?_ HB3.out | refine Kd.C_below ?_ HB2.out | refine Kd.C_below ?_ HB1.out )) (by repeat (with_reducible first | exact HC_t_hs.out | refine Kd.C_alloc ?_ _ | refine Kd.C_drewN ?_ _ | refine Kd.C_drew ?_ | refine Kd.C_below ?_ HB4.out | refine Kd.C_below ?_ HB3.out | refine Kd.C_below ?_ HB2.out | refine Kd.C_below ?_ HB1.out )) (by omega) (by omega)) ?_
  rintro e w5 ⟨X0_t_ch, x0_t_ch, X0_t_hs, x0_t_hs, rfl, le_X0_t_ch, r_X0_t_ch, le_X0_t_hs, r_X0_t_hs, hb⟩
  have HR_X0_t_ch := Aside0.mk r_X0_t_ch
  have HK_X0_t_ch := Aside0.mk (Kd.R_reads' r_X0_t_ch).2.2
  have LO_X0_t_ch := Aside0.mk (Kd.R_base r_X0_t_ch)
  have HI_X0_t_ch := Aside0.mk (Kd.R_lt r_X0_t_ch)
  (try simp only [size_alloc, size_drew, size_drewN] at LO_X0_t_ch)
  have HR_X0_t_hs := Aside0.mk r_X0_t_hs
  have HK_X0_t_hs := Aside0.mk (Kd.R_reads' r_X0_t_hs).2.2
  have LO_X0_t_hs := Aside0.mk (Kd.R_base r_X0_t_hs)
  have HI_X0_t_hs := Aside0.mk (Kd.R_lt r_X0_t_hs)
  (try simp only [size_alloc, size_drew, size_drewN] at LO_X0_t_hs)
  have AP_X0_t_ch_X0_t_hs := Aside0.mk (rows_apart r_X0_t_ch r_X0_t_hs (by decide))
  obtain ⟨bs_X0, rb_t_ch, rb_t_hs⟩ : ∃ b, Kd.R (Kd.int .i64) 2 w5 b (fun _ => True) (Value.slice X0_t_ch t_ch.length x0_t_ch) t_ch ∧ Kd.R Kd.bool 4 w5 b (fun _ => True) (Value.slice X0_t_hs t_hs.length x0_t_hs) t_hs := ⟨_, r_X0_t_ch, r_X0_t_hs⟩
  clear HR_X0_t_ch
  have HR_X0_t_ch := Aside0.mk rb_t_ch
  clear rb_t_ch
  clear HR_X0_t_hs
  have HR_X0_t_hs := Aside0.mk rb_t_hs
  clear rb_t_hs
  clear r_X0_t_ch r_X0_t_hs
  have HB5 := Aside0.mk hb
  have sz5 := hb.size
  (try simp only [size_alloc, size_drew, size_drewN] at sz5)
  have NB_t : w5.heap[w.heap.size]? = some (.cells #[.int .i64 t_wi, .int .i64 t_ro, .int .i64 t_y, .int .i64 t_x, .bool t_hi, .slice A_t_ch t_ch.length c_t_ch, .slice A_t_hs t_hs.length c_t_hs] 44 (0, 0)) := (by repeat (with_reducible first | exact BB_t.out | exact blk_new _ | refine blk_new' _ (by simp only [size_alloc]) | refine blk_drewN ?_ _ | refine blk_drew ?_ | refine blk_alloc ?_ _ | refine blk_below ?_ HB5.out ))
  clear BB_t lt_t rd_t
  have BB_t := Aside0.mk NB_t
  have lt_t := blk_lt NB_t
  have rd_t := blk_cell NB_t
  clear NB_t
  have NB_w0 : w5.heap[w4.heap.size]? = some (.cells #[.int .i64 r_co, .int .i64 r_t_wi, .int .i64 r_t_ro, .int .i64 r_t_y, .int .i64 r_t_x, .bool r_t_hi, .slice G0_r_t_ch r_t_ch.length g0_r_t_ch, .slice G0_r_t_hs r_t_hs.length g0_r_t_hs] 52 (0, 0)) := (by repeat (with_reducible first | exact blk_new _ | refine blk_new' _ (by simp only [size_alloc]) | refine blk_drewN ?_ _ | refine blk_drew ?_ | refine blk_alloc ?_ _ | refine blk_below ?_ HB5.out))
  have BB_w0 := Aside0.mk NB_w0
  have lt_w0 := blk_lt NB_w0
  have rd_w0 := blk_cell NB_w0
  clear NB_w0
  clear hb
  go_wp2_with fail
  refine Calls.mono (toByteS_r _ _ d _ (by repeat (with_reducible first | exact HC_d.out | refine Kd.C_alloc ?_ _ | refine Kd.C_drewN ?_ _ | refine Kd.C_drew ?_ | refine Kd.C_below ?_ HB5.out | refine Kd.C_below ?_ HB4.out | refine Kd.C_below ?_ HB3.out | refine Kd.C_below ?_ HB2.out | refine Kd.C_below ?_ HB1.out )) (by omega)) ?_
  rintro e w6 ⟨X1_d, x1_d, rfl, le_X1_d, r_X1_d, hb⟩
  have HR_X1_d := Aside0.mk r_X1_d
  have HK_X1_d := Aside0.mk (Kd.R_reads' r_X1_d).2.2
  have LO_X1_d := Aside0.mk (Kd.R_base r_X1_d)
  have HI_X1_d := Aside0.mk (Kd.R_lt r_X1_d)
  (try simp only [size_alloc, size_drew, size_drewN] at LO_X1_d)
  obtain ⟨bs_X1, rb_d⟩ : ∃ b, Kd.R (Kd.int .u8) 5 w6 b (fun _ => True) (Value.slice X1_d d.length x1_d) d := ⟨_, r_X1_d⟩
  clear HR_X1_d
  have HR_X1_d := Aside0.mk rb_d
  clear rb_d
  clear r_X1_d
  have HB6 := Aside0.mk hb
  have sz6 := hb.size
  (try simp only [size_alloc, size_drew, size_drewN] at sz6)
  have NB_t : w6.heap[w.heap.size]? = some (.cells #[.int .i64 t_wi, .int .i64 t_ro, .int .i64 t_y, .int .i64 t_x, .bool t_hi, .slice A_t_ch t_ch.length c_t_ch, .slice A_t_hs t_hs.length c_t_hs] 44 (0, 0)) := (by repeat (with_reducible first | exact BB_t.out | exact blk_new _ | refine blk_new' _ (by simp only [size_alloc]) | refine blk_drewN ?_ _ | refine blk_drew ?_ | refine blk_alloc ?_ _ | refine blk_below ?_ HB6.out ))
  clear BB_t lt_t rd_t
  have BB_t := Aside0.mk NB_t
  have lt_t := blk_lt NB_t
  have rd_t := blk_cell NB_t
  clear NB_t
  have NB_w0 : w6.heap[w4.heap.size]? = some (.cells #[.int .i64 r_co, .int .i64 r_t_wi, .int .i64 r_t_ro, .int .i64 r_t_y, .int .i64 r_t_x, .bool r_t_hi, .slice G0_r_t_ch r_t_ch.length g0_r_t_ch, .slice G0_r_t_hs r_t_hs.length g0_r_t_hs] 52 (0, 0)) := (by repeat (with_reducible first | exact BB_w0.out | exact blk_new _ | refine blk_new' _ (by simp only [size_alloc]) | refine blk_drewN ?_ _ | refine blk_drew ?_ | refine blk_alloc ?_ _ | refine blk_below ?_ HB6.out ))
  clear BB_w0 lt_w0 rd_w0
  have BB_w0 := Aside0.mk NB_w0
  have lt_w0 := blk_lt NB_w0
  have rd_w0 := blk_cell NB_w0
  clear NB_w0
  have NB_x0 : w6.heap[w5.heap.size]? = some (.cells #[.int .i64 t_wi, .int .i64 t_ro, .int .i64 t_y, .int .i64 t_x, .bool t_hi, .slice X0_t_ch t_ch.length x0_t_ch, .slice X0_t_hs t_hs.length x0_t_hs] 47 (0, 0)) := (by repeat (with_reducible first | exact blk_new _ | refine blk_new' _ (by simp only [size_alloc]) | refine blk_drewN ?_ _ | refine blk_drew ?_ | refine blk_alloc ?_ _ | refine blk_below ?_ HB6.out))
  have BB_x0 := Aside0.mk NB_x0
  have lt_x0 := blk_lt NB_x0
  have rd_x0 := blk_cell NB_x0
  clear NB_x0
  clear hb
  go_wp2_with fail
  refine Calls.mono (FeedTerm_c t_wi t_ro t_y t_x t_hi _ _ t_ch _ _ t_hs _ _ d _ (by repeat (with_reducible first | exact HK_X0_t_ch.out | refine Kd.C_alloc ?_ _ | refine Kd.C_drewN ?_ _ | refine Kd.C_drew ?_ | refine Kd.C_below ?_ HB6.out )) (by repeat (with_reducible first | exact HK_X0_t_hs.out | refine Kd.C_alloc ?_ _ | refine Kd.C_drewN ?_ _ | refine Kd.C_drew ?_ | refine Kd.C_below ?_ HB6.out )) (by repeat (with_reducible first | exact HK_X1_d.out | refine Kd.C_alloc ?_ _ | refine Kd.C_drewN ?_ _ | refine Kd.C_drew ?_ )) le_X0_t_ch le_X0_t_hs le_X1_d hbd.out) ?_
  rintro e w7 ⟨G1_r_t_ch, g1_r_t_ch, G1_r_t_hs, g1_r_t_hs, he, le_G1_r_t_ch, r_G1_r_t_ch, le_G1_r_t_hs, r_G1_r_t_hs, hb⟩
  rw [hval.out] at he
  (try dsimp only at he)
  subst he
  rw [hval.out] at le_G1_r_t_ch r_G1_r_t_ch
  (try dsimp only at le_G1_r_t_ch r_G1_r_t_ch)
  rw [hval.out] at le_G1_r_t_hs r_G1_r_t_hs
  (try dsimp only at le_G1_r_t_hs r_G1_r_t_hs)
  have HR_G1_r_t_ch := Aside0.mk r_G1_r_t_ch
  have HK_G1_r_t_ch := Aside0.mk (Kd.R_reads' r_G1_r_t_ch).2.2
  have LO_G1_r_t_ch := Aside0.mk (Kd.R_base r_G1_r_t_ch)
  have HI_G1_r_t_ch := Aside0.mk (Kd.R_lt r_G1_r_t_ch)
  (try simp only [size_alloc, size_drew, size_drewN] at LO_G1_r_t_ch)
  have HR_G1_r_t_hs := Aside0.mk r_G1_r_t_hs
  have HK_G1_r_t_hs := Aside0.mk (Kd.R_reads' r_G1_r_t_hs).2.2
  have LO_G1_r_t_hs := Aside0.mk (Kd.R_base r_G1_r_t_hs)
  have HI_G1_r_t_hs := Aside0.mk (Kd.R_lt r_G1_r_t_hs)
  (try simp only [size_alloc, size_drew, size_drewN] at LO_G1_r_t_hs)
  have AP_G1_r_t_ch_G1_r_t_hs := Aside0.mk (rows_apart r_G1_r_t_ch r_G1_r_t_hs (by decide))
  obtain ⟨bs_G1, rb_r_t_ch, rb_r_t_hs⟩ : ∃ b, Kd.R (Kd.int .i64) 2 w7 b (fun _ => True) (Value.slice G1_r_t_ch r_t_ch.length g1_r_t_ch) r_t_ch ∧ Kd.R Kd.bool 4 w7 b (fun _ => True) (Value.slice G1_r_t_hs r_t_hs.length g1_r_t_hs) r_t_hs := ⟨_, r_G1_r_t_ch, r_G1_r_t_hs⟩
  clear HR_G1_r_t_ch
  have HR_G1_r_t_ch := Aside0.mk rb_r_t_ch
  clear rb_r_t_ch
  clear HR_G1_r_t_hs
  have HR_G1_r_t_hs := Aside0.mk rb_r_t_hs
  clear rb_r_t_hs
  clear r_G1_r_t_ch r_G1_r_t_hs
  have HB7 := Aside0.mk hb
  have sz7 := hb.size
  (try simp only [size_alloc, size_drew, size_drewN] at sz7)
  have NB_t : w7.heap[w.heap.size]? = some (.cells #[.int .i64 t_wi, .int .i64 t_ro, .int .i64 t_y, .int .i64 t_x, .bool t_hi, .slice A_t_ch t_ch.length c_t_ch, .slice A_t_hs t_hs.length c_t_hs] 44 (0, 0)) := (by repeat (with_reducible first | exact BB_t.out | exact blk_new _ | refine blk_new' _ (by simp only [size_alloc]) | refine blk_drewN ?_ _ | refine blk_drew ?_ | refine blk_alloc ?_ _ | refine blk_below ?_ HB7.out ))
  clear BB_t lt_t rd_t
  have BB_t := Aside0.mk NB_t
  have lt_t := blk_lt NB_t
  have rd_t := blk_cell NB_t
  clear NB_t
  have NB_w0 : w7.heap[w4.heap.size]? = some (.cells #[.int .i64 r_co, .int .i64 r_t_wi, .int .i64 r_t_ro, .int .i64 r_t_y, .int .i64 r_t_x, .bool r_t_hi, .slice G0_r_t_ch r_t_ch.length g0_r_t_ch, .slice G0_r_t_hs r_t_hs.length g0_r_t_hs] 52 (0, 0)) := (by repeat (with_reducible first | exact BB_w0.out | exact blk_new _ | refine blk_new' _ (by simp only [size_alloc]) | refine blk_drewN ?_ _ | refine blk_drew ?_ | refine blk_alloc ?_ _ | refine blk_below ?_ HB7.out ))
  clear BB_w0 lt_w0 rd_w0
  have BB_w0 := Aside0.mk NB_w0
  have lt_w0 := blk_lt NB_w0
  have rd_w0 := blk_cell NB_w0
  clear NB_w0
  have NB_x0 : w7.heap[w5.heap.size]? = some (.cells #[.int .i64 t_wi, .int .i64 t_ro, .int .i64 t_y, .int .i64 t_x, .bool t_hi, .slice X0_t_ch t_ch.length x0_t_ch, .slice X0_t_hs t_hs.length x0_t_hs] 47 (0, 0)) := (by repeat (with_reducible first | exact BB_x0.out | exact blk_new _ | refine blk_new' _ (by simp only [size_alloc]) | refine blk_drewN ?_ _ | refine blk_drew ?_ | refine blk_alloc ?_ _ | refine blk_below ?_ HB7.out ))
  clear BB_x0 lt_x0 rd_x0
  have BB_x0 := Aside0.mk NB_x0
  have lt_x0 := blk_lt NB_x0
  have rd_x0 := blk_cell NB_x0
  clear NB_x0
  clear hb
  go_wp2_with fail
  refine Calls.mono (eqTermResult_c _ _ _ _ _ _ _ _ r_t_ch _ _ r_t_hs _ _ _ _ _ _ _ _ r_t_ch _ _ r_t_hs _ (by repeat (with_reducible first | exact HK_G1_r_t_ch.out | refine Kd.C_alloc ?_ _ | refine Kd.C_drewN ?_ _ | refine Kd.C_drew ?_ )) (by repeat (with_reducible first | exact HK_G1_r_t_hs.out | refine Kd.C_alloc ?_ _ | refine Kd.C_drewN ?_ _ | refine Kd.C_drew ?_ )) (by repeat (with_reducible first | exact HK_G0_r_t_ch.out | refine Kd.C_alloc ?_ _ | refine Kd.C_drewN ?_ _ | refine Kd.C_drew ?_ | refine Kd.C_below ?_ HB7.out | refine Kd.C_below ?_ HB6.out | refine Kd.C_below ?_ HB5.out )) (by repeat (with_reducible first | exact HK_G0_r_t_hs.out | refine Kd.C_alloc ?_ _ | refine Kd.C_drewN ?_ _ | refine Kd.C_drew ?_ | refine Kd.C_below ?_ HB7.out | refine Kd.C_below ?_ HB6.out | refine Kd.C_below ?_ HB5.out ))) ?_
  rintro e w8 ⟨rfl, hb⟩
  have HB8 := Aside0.mk hb
  have sz8 := hb.size
  (try simp only [size_alloc, size_drew, size_drewN] at sz8)
  have NB_t : w8.heap[w.heap.size]? = some (.cells #[.int .i64 t_wi, .int .i64 t_ro, .int .i64 t_y, .int .i64 t_x, .bool t_hi, .slice A_t_ch t_ch.length c_t_ch, .slice A_t_hs t_hs.length c_t_hs] 44 (0, 0)) := (by repeat (with_reducible first | exact BB_t.out | exact blk_new _ | refine blk_new' _ (by simp only [size_alloc]) | refine blk_drewN ?_ _ | refine blk_drew ?_ | refine blk_alloc ?_ _ | refine blk_below ?_ HB8.out ))
  clear BB_t lt_t rd_t
  have BB_t := Aside0.mk NB_t
  have lt_t := blk_lt NB_t
  have rd_t := blk_cell NB_t
  clear NB_t
  have NB_w0 : w8.heap[w4.heap.size]? = some (.cells #[.int .i64 r_co, .int .i64 r_t_wi, .int .i64 r_t_ro, .int .i64 r_t_y, .int .i64 r_t_x, .bool r_t_hi, .slice G0_r_t_ch r_t_ch.length g0_r_t_ch, .slice G0_r_t_hs r_t_hs.length g0_r_t_hs] 52 (0, 0)) := (by repeat (with_reducible first | exact BB_w0.out | exact blk_new _ | refine blk_new' _ (by simp only [size_alloc]) | refine blk_drewN ?_ _ | refine blk_drew ?_ | refine blk_alloc ?_ _ | refine blk_below ?_ HB8.out ))
  clear BB_w0 lt_w0 rd_w0
  have BB_w0 := Aside0.mk NB_w0
  have lt_w0 := blk_lt NB_w0
  have rd_w0 := blk_cell NB_w0
  clear NB_w0
  have NB_x0 : w8.heap[w5.heap.size]? = some (.cells #[.int .i64 t_wi, .int .i64 t_ro, .int .i64 t_y, .int .i64 t_x, .bool t_hi, .slice X0_t_ch t_ch.length x0_t_ch, .slice X0_t_hs t_hs.length x0_t_hs] 47 (0, 0)) := (by repeat (with_reducible first | exact BB_x0.out | exact blk_new _ | refine blk_new' _ (by simp only [size_alloc]) | refine blk_drewN ?_ _ | refine blk_drew ?_ | refine blk_alloc ?_ _ | refine blk_below ?_ HB8.out ))
  clear BB_x0 lt_x0 rd_x0
  have BB_x0 := Aside0.mk NB_x0
  have lt_x0 := blk_lt NB_x0
  have rd_x0 := blk_cell NB_x0
  clear NB_x0
  have NB_g0 : w8.heap[w7.heap.size]? = some (.cells #[.int .i64 r_co, .int .i64 r_t_wi, .int .i64 r_t_ro, .int .i64 r_t_y, .int .i64 r_t_x, .bool r_t_hi, .slice G1_r_t_ch r_t_ch.length g1_r_t_ch, .slice G1_r_t_hs r_t_hs.length g1_r_t_hs] 52 (0, 0)) := (by repeat (with_reducible first | exact blk_new _ | refine blk_new' _ (by simp only [size_alloc]) | refine blk_drewN ?_ _ | refine blk_drew ?_ | refine blk_alloc ?_ _ | refine blk_below ?_ HB8.out))
  have BB_g0 := Aside0.mk NB_g0
  have lt_g0 := blk_lt NB_g0
  have rd_g0 := blk_cell NB_g0
  clear NB_g0
  clear hb
  go_wp2_with fail
  have hae0 : eqv (t_wi, t_ro, t_y, t_x, t_hi, t_ch, t_hs) (t_wi, t_ro, t_y, t_x, t_hi, t_ch, t_hs) = true := eqv_self _
  go_region_held3 (fun W : World => (∀ i, W.cell? ⟨w.heap.size, i, none⟩ = (#[.int .i64 t_wi, .int .i64 t_ro, .int .i64 t_y, .int .i64 t_x, .bool t_hi, .slice A_t_ch t_ch.length c_t_ch, .slice A_t_hs t_hs.length c_t_hs] : Array Value)[i]?) ∧ (∀ i, W.cell? ⟨w5.heap.size, i, none⟩ = (#[.int .i64 t_wi, .int .i64 t_ro, .int .i64 t_y, .int .i64 t_x, .bool t_hi, .slice X0_t_ch t_ch.length x0_t_ch, .slice X0_t_hs t_hs.length x0_t_hs] : Array Value)[i]?)) (go_keep)
    (first
      | (go_at_call 29; refine Calls.mono (toTerm_c _ _ _ _ _ _ _ t_ch _ _ t_hs _ (by repeat (with_reducible first | exact HC_t_ch.out | refine Kd.C_alloc ?_ _ | refine Kd.C_drewN ?_ _ | refine Kd.C_drew ?_ | refine Kd.C_below ?_ HB8.out | refine Kd.C_below ?_ HB7.out | refine Kd.C_below ?_ HB6.out | refine Kd.C_below ?_ HB5.out | refine Kd.C_below ?_ HB4.out | refine Kd.C_below ?_ HB3.out | refine Kd.C_below ?_ HB2.out | refine Kd.C_below ?_ HB1.out )) (by repeat (with_reducible first | exact HC_t_hs.out | refine Kd.C_alloc ?_ _ | refine Kd.C_drewN ?_ _ | refine Kd.C_drew ?_ | refine Kd.C_below ?_ HB8.out | refine Kd.C_below ?_ HB7.out | refine Kd.C_below ?_ HB6.out | refine Kd.C_below ?_ HB5.out | refine Kd.C_below ?_ HB4.out | refine Kd.C_below ?_ HB3.out | refine Kd.C_below ?_ HB2.out | refine Kd.C_below ?_ HB1.out )) (by omega) (by omega)) ?_; rintro e w9 ⟨Y0_t_ch, y0_t_ch, Y0_t_hs, y0_t_hs, rfl, le_Y0_t_ch, r_Y0_t_ch, le_Y0_t_hs, r_Y0_t_hs, hb⟩; have HR_Y0_t_ch := Aside0.mk r_Y0_t_ch; have HK_Y0_t_ch := Aside0.mk (Kd.R_reads' r_Y0_t_ch).2.2; have LO_Y0_t_ch := Aside0.mk (Kd.R_base r_Y0_t_ch); have HI_Y0_t_ch := Aside0.mk (Kd.R_lt r_Y0_t_ch); (try simp only [size_alloc, size_drew, size_drewN] at LO_Y0_t_ch); have HR_Y0_t_hs := Aside0.mk r_Y0_t_hs; have HK_Y0_t_hs := Aside0.mk (Kd.R_reads' r_Y0_t_hs).2.2; have LO_Y0_t_hs := Aside0.mk (Kd.R_base r_Y0_t_hs); have HI_Y0_t_hs := Aside0.mk (Kd.R_lt r_Y0_t_hs); (try simp only [size_alloc, size_drew, size_drewN] at LO_Y0_t_hs); clear r_Y0_t_ch r_Y0_t_hs; have HB9 := Aside0.mk hb; have sz9 := hb.size; (try simp only [size_alloc, size_drew, size_drewN] at sz9); have NB_t : w9.heap[w.heap.size]? = some (.cells #[.int .i64 t_wi, .int .i64 t_ro, .int .i64 t_y, .int .i64 t_x, .bool t_hi, .slice A_t_ch t_ch.length c_t_ch, .slice A_t_hs t_hs.length c_t_hs] 44 (0, 0)) := (by repeat (with_reducible first | exact BB_t.out | exact blk_new _ | refine blk_new' _ (by simp only [size_alloc]) | refine blk_drewN ?_ _ | refine blk_drew ?_ | refine blk_alloc ?_ _ | refine blk_below ?_ HB9.out )); clear BB_t lt_t rd_t; have BB_t := Aside0.mk NB_t; have lt_t := blk_lt NB_t; have rd_t := blk_cell NB_t; clear NB_t; have NB_w0 : w9.heap[w4.heap.size]? = some (.cells #[.int .i64 r_co, .int .i64 r_t_wi, .int .i64 r_t_ro, .int .i64 r_t_y, .int .i64 r_t_x, .bool r_t_hi, .slice G0_r_t_ch r_t_ch.length g0_r_t_ch, .slice G0_r_t_hs r_t_hs.length g0_r_t_hs] 52 (0, 0)) := (by repeat (with_reducible first | exact BB_w0.out | exact blk_new _ | refine blk_new' _ (by simp only [size_alloc]) | refine blk_drewN ?_ _ | refine blk_drew ?_ | refine blk_alloc ?_ _ | refine blk_below ?_ HB9.out )); clear BB_w0 lt_w0 rd_w0; have BB_w0 := Aside0.mk NB_w0; have lt_w0 := blk_lt NB_w0; have rd_w0 := blk_cell NB_w0; clear NB_w0; have NB_x0 : w9.heap[w5.heap.size]? = some (.cells #[.int .i64 t_wi, .int .i64 t_ro, .int .i64 t_y, .int .i64 t_x, .bool t_hi, .slice X0_t_ch t_ch.length x0_t_ch, .slice X0_t_hs t_hs.length x0_t_hs] 47 (0, 0)) := (by repeat (with_reducible first | exact BB_x0.out | exact blk_new _ | refine blk_new' _ (by simp only [size_alloc]) | refine blk_drewN ?_ _ | refine blk_drew ?_ | refine blk_alloc ?_ _ | refine blk_below ?_ HB9.out )); clear BB_x0 lt_x0 rd_x0; have BB_x0 := Aside0.mk NB_x0; have lt_x0 := blk_lt NB_x0; have rd_x0 := blk_cell NB_x0; clear NB_x0; have NB_g0 : w9.heap[w7.heap.size]? = some (.cells #[.int .i64 r_co, .int .i64 r_t_wi, .int .i64 r_t_ro, .int .i64 r_t_y, .int .i64 r_t_x, .bool r_t_hi, .slice G1_r_t_ch r_t_ch.length g1_r_t_ch, .slice G1_r_t_hs r_t_hs.length g1_r_t_hs] 52 (0, 0)) := (by repeat (with_reducible first | exact BB_g0.out | exact blk_new _ | refine blk_new' _ (by simp only [size_alloc]) | refine blk_drewN ?_ _ | refine blk_drew ?_ | refine blk_alloc ?_ _ | refine blk_below ?_ HB9.out )); clear BB_g0 lt_g0 rd_g0; have BB_g0 := Aside0.mk NB_g0; have lt_g0 := blk_lt NB_g0; have rd_g0 := blk_cell NB_g0; clear NB_g0; clear hb)
      | (go_at_call 31; refine Calls.mono (eqTerm_c _ _ _ _ _ _ _ t_ch _ _ t_hs _ _ _ _ _ _ _ t_ch _ _ t_hs _ (by repeat (with_reducible first | exact HK_X0_t_ch.out | refine Kd.C_alloc ?_ _ | refine Kd.C_drewN ?_ _ | refine Kd.C_drew ?_ | refine Kd.C_below ?_ HB9.out | refine Kd.C_below ?_ HB8.out | refine Kd.C_below ?_ HB7.out | refine Kd.C_below ?_ HB6.out )) (by repeat (with_reducible first | exact HK_X0_t_hs.out | refine Kd.C_alloc ?_ _ | refine Kd.C_drewN ?_ _ | refine Kd.C_drew ?_ | refine Kd.C_below ?_ HB9.out | refine Kd.C_below ?_ HB8.out | refine Kd.C_below ?_ HB7.out | refine Kd.C_below ?_ HB6.out )) (by repeat (with_reducible first | exact HK_Y0_t_ch.out | refine Kd.C_alloc ?_ _ | refine Kd.C_drewN ?_ _ | refine Kd.C_drew ?_ )) (by repeat (with_reducible first | exact HK_Y0_t_hs.out | refine Kd.C_alloc ?_ _ | refine Kd.C_drewN ?_ _ | refine Kd.C_drew ?_ ))) ?_; rintro e w10 ⟨rfl, hb⟩; have HB10 := Aside0.mk hb; have sz10 := hb.size; (try simp only [size_alloc, size_drew, size_drewN] at sz10); have NB_t : w10.heap[w.heap.size]? = some (.cells #[.int .i64 t_wi, .int .i64 t_ro, .int .i64 t_y, .int .i64 t_x, .bool t_hi, .slice A_t_ch t_ch.length c_t_ch, .slice A_t_hs t_hs.length c_t_hs] 44 (0, 0)) := (by repeat (with_reducible first | exact BB_t.out | exact blk_new _ | refine blk_new' _ (by simp only [size_alloc]) | refine blk_drewN ?_ _ | refine blk_drew ?_ | refine blk_alloc ?_ _ | refine blk_below ?_ HB10.out )); clear BB_t lt_t rd_t; have BB_t := Aside0.mk NB_t; have lt_t := blk_lt NB_t; have rd_t := blk_cell NB_t; clear NB_t; have NB_w0 : w10.heap[w4.heap.size]? = some (.cells #[.int .i64 r_co, .int .i64 r_t_wi, .int .i64 r_t_ro, .int .i64 r_t_y, .int .i64 r_t_x, .bool r_t_hi, .slice G0_r_t_ch r_t_ch.length g0_r_t_ch, .slice G0_r_t_hs r_t_hs.length g0_r_t_hs] 52 (0, 0)) := (by repeat (with_reducible first | exact BB_w0.out | exact blk_new _ | refine blk_new' _ (by simp only [size_alloc]) | refine blk_drewN ?_ _ | refine blk_drew ?_ | refine blk_alloc ?_ _ | refine blk_below ?_ HB10.out )); clear BB_w0 lt_w0 rd_w0; have BB_w0 := Aside0.mk NB_w0; have lt_w0 := blk_lt NB_w0; have rd_w0 := blk_cell NB_w0; clear NB_w0; have NB_x0 : w10.heap[w5.heap.size]? = some (.cells #[.int .i64 t_wi, .int .i64 t_ro, .int .i64 t_y, .int .i64 t_x, .bool t_hi, .slice X0_t_ch t_ch.length x0_t_ch, .slice X0_t_hs t_hs.length x0_t_hs] 47 (0, 0)) := (by repeat (with_reducible first | exact BB_x0.out | exact blk_new _ | refine blk_new' _ (by simp only [size_alloc]) | refine blk_drewN ?_ _ | refine blk_drew ?_ | refine blk_alloc ?_ _ | refine blk_below ?_ HB10.out )); clear BB_x0 lt_x0 rd_x0; have BB_x0 := Aside0.mk NB_x0; have lt_x0 := blk_lt NB_x0; have rd_x0 := blk_cell NB_x0; clear NB_x0; have NB_g0 : w10.heap[w7.heap.size]? = some (.cells #[.int .i64 r_co, .int .i64 r_t_wi, .int .i64 r_t_ro, .int .i64 r_t_y, .int .i64 r_t_x, .bool r_t_hi, .slice G1_r_t_ch r_t_ch.length g1_r_t_ch, .slice G1_r_t_hs r_t_hs.length g1_r_t_hs] 52 (0, 0)) := (by repeat (with_reducible first | exact BB_g0.out | exact blk_new _ | refine blk_new' _ (by simp only [size_alloc]) | refine blk_drewN ?_ _ | refine blk_drew ?_ | refine blk_alloc ?_ _ | refine blk_below ?_ HB10.out )); clear BB_g0 lt_g0 rd_g0; have BB_g0 := Aside0.mk NB_g0; have lt_g0 := blk_lt NB_g0; have rd_g0 := blk_cell NB_g0; clear NB_g0; clear hb))
  go_wp2_with fail
  refine Calls.mono (toByteS_r _ _ d _ (by repeat (with_reducible first | exact HC_d.out | refine Kd.C_alloc ?_ _ | refine Kd.C_drewN ?_ _ | refine Kd.C_drew ?_ | refine Kd.C_below ?_ HB10.out | refine Kd.C_below ?_ HB9.out | refine Kd.C_below ?_ HB8.out | refine Kd.C_below ?_ HB7.out | refine Kd.C_below ?_ HB6.out | refine Kd.C_below ?_ HB5.out | refine Kd.C_below ?_ HB4.out | refine Kd.C_below ?_ HB3.out | refine Kd.C_below ?_ HB2.out | refine Kd.C_below ?_ HB1.out )) (by omega)) ?_
  rintro e w11 ⟨Y1_d, y1_d, rfl, le_Y1_d, r_Y1_d, hb⟩
  have HR_Y1_d := Aside0.mk r_Y1_d
  have HK_Y1_d := Aside0.mk (Kd.R_reads' r_Y1_d).2.2
  have LO_Y1_d := Aside0.mk (Kd.R_base r_Y1_d)
  have HI_Y1_d := Aside0.mk (Kd.R_lt r_Y1_d)
  (try simp only [size_alloc, size_drew, size_drewN] at LO_Y1_d)
  clear r_Y1_d
  have HB11 := Aside0.mk hb
  have sz11 := hb.size
  (try simp only [size_alloc, size_drew, size_drewN] at sz11)
  have NB_t : w11.heap[w.heap.size]? = some (.cells #[.int .i64 t_wi, .int .i64 t_ro, .int .i64 t_y, .int .i64 t_x, .bool t_hi, .slice A_t_ch t_ch.length c_t_ch, .slice A_t_hs t_hs.length c_t_hs] 44 (0, 0)) := (by repeat (with_reducible first | exact BB_t.out | exact blk_new _ | refine blk_new' _ (by simp only [size_alloc]) | refine blk_drewN ?_ _ | refine blk_drew ?_ | refine blk_alloc ?_ _ | refine blk_below ?_ HB11.out ))
  clear BB_t lt_t rd_t
  have BB_t := Aside0.mk NB_t
  have lt_t := blk_lt NB_t
  have rd_t := blk_cell NB_t
  clear NB_t
  have NB_w0 : w11.heap[w4.heap.size]? = some (.cells #[.int .i64 r_co, .int .i64 r_t_wi, .int .i64 r_t_ro, .int .i64 r_t_y, .int .i64 r_t_x, .bool r_t_hi, .slice G0_r_t_ch r_t_ch.length g0_r_t_ch, .slice G0_r_t_hs r_t_hs.length g0_r_t_hs] 52 (0, 0)) := (by repeat (with_reducible first | exact BB_w0.out | exact blk_new _ | refine blk_new' _ (by simp only [size_alloc]) | refine blk_drewN ?_ _ | refine blk_drew ?_ | refine blk_alloc ?_ _ | refine blk_below ?_ HB11.out ))
  clear BB_w0 lt_w0 rd_w0
  have BB_w0 := Aside0.mk NB_w0
  have lt_w0 := blk_lt NB_w0
  have rd_w0 := blk_cell NB_w0
  clear NB_w0
  have NB_x0 : w11.heap[w5.heap.size]? = some (.cells #[.int .i64 t_wi, .int .i64 t_ro, .int .i64 t_y, .int .i64 t_x, .bool t_hi, .slice X0_t_ch t_ch.length x0_t_ch, .slice X0_t_hs t_hs.length x0_t_hs] 47 (0, 0)) := (by repeat (with_reducible first | exact BB_x0.out | exact blk_new _ | refine blk_new' _ (by simp only [size_alloc]) | refine blk_drewN ?_ _ | refine blk_drew ?_ | refine blk_alloc ?_ _ | refine blk_below ?_ HB11.out ))
  clear BB_x0 lt_x0 rd_x0
  have BB_x0 := Aside0.mk NB_x0
  have lt_x0 := blk_lt NB_x0
  have rd_x0 := blk_cell NB_x0
  clear NB_x0
  have NB_g0 : w11.heap[w7.heap.size]? = some (.cells #[.int .i64 r_co, .int .i64 r_t_wi, .int .i64 r_t_ro, .int .i64 r_t_y, .int .i64 r_t_x, .bool r_t_hi, .slice G1_r_t_ch r_t_ch.length g1_r_t_ch, .slice G1_r_t_hs r_t_hs.length g1_r_t_hs] 52 (0, 0)) := (by repeat (with_reducible first | exact BB_g0.out | exact blk_new _ | refine blk_new' _ (by simp only [size_alloc]) | refine blk_drewN ?_ _ | refine blk_drew ?_ | refine blk_alloc ?_ _ | refine blk_below ?_ HB11.out ))
  clear BB_g0 lt_g0 rd_g0
  have BB_g0 := Aside0.mk NB_g0
  have lt_g0 := blk_lt NB_g0
  have rd_g0 := blk_cell NB_g0
  clear NB_g0
  clear hb
  go_wp2_with fail
  have hae1 : eqv d d = true := eqv_self _
  refine Calls.mono (eqByteS_c _ _ _ _ d d _ (by repeat (with_reducible first | exact HK_X1_d.out | refine Kd.C_alloc ?_ _ | refine Kd.C_drewN ?_ _ | refine Kd.C_drew ?_ | refine Kd.C_below ?_ HB11.out | refine Kd.C_below ?_ HB10.out | refine Kd.C_below ?_ HB9.out | refine Kd.C_below ?_ HB8.out | refine Kd.C_below ?_ HB7.out )) (by repeat (with_reducible first | exact HK_Y1_d.out | refine Kd.C_alloc ?_ _ | refine Kd.C_drewN ?_ _ | refine Kd.C_drew ?_ ))) ?_
  rintro e w12 ⟨rfl, hd⟩
  have hb := hd.below
  clear hd
  have HB12 := Aside0.mk hb
  have sz12 := hb.size
  (try simp only [size_alloc, size_drew, size_drewN] at sz12)
  have NB_t : w12.heap[w.heap.size]? = some (.cells #[.int .i64 t_wi, .int .i64 t_ro, .int .i64 t_y, .int .i64 t_x, .bool t_hi, .slice A_t_ch t_ch.length c_t_ch, .slice A_t_hs t_hs.length c_t_hs] 44 (0, 0)) := (by repeat (with_reducible first | exact BB_t.out | exact blk_new _ | refine blk_new' _ (by simp only [size_alloc]) | refine blk_drewN ?_ _ | refine blk_drew ?_ | refine blk_alloc ?_ _ | refine blk_below ?_ HB12.out ))
  clear BB_t lt_t rd_t
  have BB_t := Aside0.mk NB_t
  have lt_t := blk_lt NB_t
  have rd_t := blk_cell NB_t
  clear NB_t
  have NB_w0 : w12.heap[w4.heap.size]? = some (.cells #[.int .i64 r_co, .int .i64 r_t_wi, .int .i64 r_t_ro, .int .i64 r_t_y, .int .i64 r_t_x, .bool r_t_hi, .slice G0_r_t_ch r_t_ch.length g0_r_t_ch, .slice G0_r_t_hs r_t_hs.length g0_r_t_hs] 52 (0, 0)) := (by repeat (with_reducible first | exact BB_w0.out | exact blk_new _ | refine blk_new' _ (by simp only [size_alloc]) | refine blk_drewN ?_ _ | refine blk_drew ?_ | refine blk_alloc ?_ _ | refine blk_below ?_ HB12.out ))
  clear BB_w0 lt_w0 rd_w0
  have BB_w0 := Aside0.mk NB_w0
  have lt_w0 := blk_lt NB_w0
  have rd_w0 := blk_cell NB_w0
  clear NB_w0
  have NB_x0 : w12.heap[w5.heap.size]? = some (.cells #[.int .i64 t_wi, .int .i64 t_ro, .int .i64 t_y, .int .i64 t_x, .bool t_hi, .slice X0_t_ch t_ch.length x0_t_ch, .slice X0_t_hs t_hs.length x0_t_hs] 47 (0, 0)) := (by repeat (with_reducible first | exact BB_x0.out | exact blk_new _ | refine blk_new' _ (by simp only [size_alloc]) | refine blk_drewN ?_ _ | refine blk_drew ?_ | refine blk_alloc ?_ _ | refine blk_below ?_ HB12.out ))
  clear BB_x0 lt_x0 rd_x0
  have BB_x0 := Aside0.mk NB_x0
  have lt_x0 := blk_lt NB_x0
  have rd_x0 := blk_cell NB_x0
  clear NB_x0
  have NB_g0 : w12.heap[w7.heap.size]? = some (.cells #[.int .i64 r_co, .int .i64 r_t_wi, .int .i64 r_t_ro, .int .i64 r_t_y, .int .i64 r_t_x, .bool r_t_hi, .slice G1_r_t_ch r_t_ch.length g1_r_t_ch, .slice G1_r_t_hs r_t_hs.length g1_r_t_hs] 52 (0, 0)) := (by repeat (with_reducible first | exact BB_g0.out | exact blk_new _ | refine blk_new' _ (by simp only [size_alloc]) | refine blk_drewN ?_ _ | refine blk_drew ?_ | refine blk_alloc ?_ _ | refine blk_below ?_ HB12.out ))
  clear BB_g0 lt_g0 rd_g0
  have BB_g0 := Aside0.mk NB_g0
  have lt_g0 := blk_lt NB_g0
  have rd_g0 := blk_cell NB_g0
  clear NB_g0
  clear hb
  have AP_G0_r_t_ch_X0_t_ch := Aside0.mk (show ∀ b, (Value.slice G0_r_t_ch r_t_ch.length g0_r_t_ch).ownBlock = some b → (Value.slice X0_t_ch t_ch.length x0_t_ch).ownBlock = some b → False from fun b h1 h2 => by have e1 := LO_G0_r_t_ch.out b h1; have e2 := HI_G0_r_t_ch.out b h1; have e3 := LO_X0_t_ch.out b h2; have e4 := HI_X0_t_ch.out b h2; omega)
  have AP_G0_r_t_ch_X0_t_hs := Aside0.mk (show ∀ b, (Value.slice G0_r_t_ch r_t_ch.length g0_r_t_ch).ownBlock = some b → (Value.slice X0_t_hs t_hs.length x0_t_hs).ownBlock = some b → False from fun b h1 h2 => by have e1 := LO_G0_r_t_ch.out b h1; have e2 := HI_G0_r_t_ch.out b h1; have e3 := LO_X0_t_hs.out b h2; have e4 := HI_X0_t_hs.out b h2; omega)
  have AP_G0_r_t_hs_X0_t_ch := Aside0.mk (show ∀ b, (Value.slice G0_r_t_hs r_t_hs.length g0_r_t_hs).ownBlock = some b → (Value.slice X0_t_ch t_ch.length x0_t_ch).ownBlock = some b → False from fun b h1 h2 => by have e1 := LO_G0_r_t_hs.out b h1; have e2 := HI_G0_r_t_hs.out b h1; have e3 := LO_X0_t_ch.out b h2; have e4 := HI_X0_t_ch.out b h2; omega)
  have AP_G0_r_t_hs_X0_t_hs := Aside0.mk (show ∀ b, (Value.slice G0_r_t_hs r_t_hs.length g0_r_t_hs).ownBlock = some b → (Value.slice X0_t_hs t_hs.length x0_t_hs).ownBlock = some b → False from fun b h1 h2 => by have e1 := LO_G0_r_t_hs.out b h1; have e2 := HI_G0_r_t_hs.out b h1; have e3 := LO_X0_t_hs.out b h2; have e4 := HI_X0_t_hs.out b h2; omega)
  have AP_G1_r_t_ch_X0_t_ch := Aside0.mk (show ∀ b, (Value.slice G1_r_t_ch r_t_ch.length g1_r_t_ch).ownBlock = some b → (Value.slice X0_t_ch t_ch.length x0_t_ch).ownBlock = some b → False from fun b h1 h2 => by have e1 := LO_G1_r_t_ch.out b h1; have e2 := HI_G1_r_t_ch.out b h1; have e3 := LO_X0_t_ch.out b h2; have e4 := HI_X0_t_ch.out b h2; omega)
  have AP_G1_r_t_ch_X0_t_hs := Aside0.mk (show ∀ b, (Value.slice G1_r_t_ch r_t_ch.length g1_r_t_ch).ownBlock = some b → (Value.slice X0_t_hs t_hs.length x0_t_hs).ownBlock = some b → False from fun b h1 h2 => by have e1 := LO_G1_r_t_ch.out b h1; have e2 := HI_G1_r_t_ch.out b h1; have e3 := LO_X0_t_hs.out b h2; have e4 := HI_X0_t_hs.out b h2; omega)
  have AP_G1_r_t_hs_X0_t_ch := Aside0.mk (show ∀ b, (Value.slice G1_r_t_hs r_t_hs.length g1_r_t_hs).ownBlock = some b → (Value.slice X0_t_ch t_ch.length x0_t_ch).ownBlock = some b → False from fun b h1 h2 => by have e1 := LO_G1_r_t_hs.out b h1; have e2 := HI_G1_r_t_hs.out b h1; have e3 := LO_X0_t_ch.out b h2; have e4 := HI_X0_t_ch.out b h2; omega)
  have AP_G1_r_t_hs_X0_t_hs := Aside0.mk (show ∀ b, (Value.slice G1_r_t_hs r_t_hs.length g1_r_t_hs).ownBlock = some b → (Value.slice X0_t_hs t_hs.length x0_t_hs).ownBlock = some b → False from fun b h1 h2 => by have e1 := LO_G1_r_t_hs.out b h1; have e2 := HI_G1_r_t_hs.out b h1; have e3 := LO_X0_t_hs.out b h2; have e4 := HI_X0_t_hs.out b h2; omega)
  have AP_X1_d_X0_t_ch := Aside0.mk (show ∀ b, (Value.slice X1_d d.length x1_d).ownBlock = some b → (Value.slice X0_t_ch t_ch.length x0_t_ch).ownBlock = some b → False from fun b h1 h2 => by have e1 := LO_X1_d.out b h1; have e2 := HI_X1_d.out b h1; have e3 := LO_X0_t_ch.out b h2; have e4 := HI_X0_t_ch.out b h2; omega)
  have AP_X1_d_X0_t_hs := Aside0.mk (show ∀ b, (Value.slice X1_d d.length x1_d).ownBlock = some b → (Value.slice X0_t_hs t_hs.length x0_t_hs).ownBlock = some b → False from fun b h1 h2 => by have e1 := LO_X1_d.out b h1; have e2 := HI_X1_d.out b h1; have e3 := LO_X0_t_hs.out b h2; have e4 := HI_X0_t_hs.out b h2; omega)
  have BX_X0_t_ch_t := Aside0.mk (show (Value.slice X0_t_ch t_ch.length x0_t_ch).ownBlock = some (w.heap.size) → False from fun h => by have e1 := LO_X0_t_ch.out _ h; have e2 := HI_X0_t_ch.out _ h; omega)
  have BX_X0_t_ch_w0 := Aside0.mk (show (Value.slice X0_t_ch t_ch.length x0_t_ch).ownBlock = some (w4.heap.size) → False from fun h => by have e1 := LO_X0_t_ch.out _ h; have e2 := HI_X0_t_ch.out _ h; omega)
  have BX_X0_t_ch_x0 := Aside0.mk (show (Value.slice X0_t_ch t_ch.length x0_t_ch).ownBlock = some (w5.heap.size) → False from fun h => by have e1 := LO_X0_t_ch.out _ h; have e2 := HI_X0_t_ch.out _ h; omega)
  have BX_X0_t_ch_g0 := Aside0.mk (show (Value.slice X0_t_ch t_ch.length x0_t_ch).ownBlock = some (w7.heap.size) → False from fun h => by have e1 := LO_X0_t_ch.out _ h; have e2 := HI_X0_t_ch.out _ h; omega)
  have BX_X0_t_hs_t := Aside0.mk (show (Value.slice X0_t_hs t_hs.length x0_t_hs).ownBlock = some (w.heap.size) → False from fun h => by have e1 := LO_X0_t_hs.out _ h; have e2 := HI_X0_t_hs.out _ h; omega)
  have BX_X0_t_hs_w0 := Aside0.mk (show (Value.slice X0_t_hs t_hs.length x0_t_hs).ownBlock = some (w4.heap.size) → False from fun h => by have e1 := LO_X0_t_hs.out _ h; have e2 := HI_X0_t_hs.out _ h; omega)
  have BX_X0_t_hs_x0 := Aside0.mk (show (Value.slice X0_t_hs t_hs.length x0_t_hs).ownBlock = some (w5.heap.size) → False from fun h => by have e1 := LO_X0_t_hs.out _ h; have e2 := HI_X0_t_hs.out _ h; omega)
  have BX_X0_t_hs_g0 := Aside0.mk (show (Value.slice X0_t_hs t_hs.length x0_t_hs).ownBlock = some (w7.heap.size) → False from fun h => by have e1 := LO_X0_t_hs.out _ h; have e2 := HI_X0_t_hs.out _ h; omega)
  go_wp2_with fail
  refine Calls.mono (markTerm_c _ _ _ _ _ _ _ t_ch _ _ t_hs bs_X0 (1) _ (by omega) _ (by repeat (with_reducible first | exact HR_X0_t_ch.out | refine Kd.R_alloc ?_ _ | refine Kd.R_drewN ?_ _ | refine Kd.R_drew ?_ | refine Kd.R_below ?_ HB12.out | refine Kd.R_below ?_ HB11.out | refine Kd.R_below ?_ HB10.out | refine Kd.R_below ?_ HB9.out | refine Kd.R_below ?_ HB8.out | refine Kd.R_below ?_ HB7.out | refine Kd.R_below ?_ HB6.out )) (by repeat (with_reducible first | exact HR_X0_t_hs.out | refine Kd.R_alloc ?_ _ | refine Kd.R_drewN ?_ _ | refine Kd.R_drew ?_ | refine Kd.R_below ?_ HB12.out | refine Kd.R_below ?_ HB11.out | refine Kd.R_below ?_ HB10.out | refine Kd.R_below ?_ HB9.out | refine Kd.R_below ?_ HB8.out | refine Kd.R_below ?_ HB7.out | refine Kd.R_below ?_ HB6.out )) AP_X0_t_ch_X0_t_hs.out (by omega)) ?_
  rintro e w13 ⟨rfl, r_X0_t_ch, r_X0_t_hs, hu⟩
  clear HR_X0_t_ch HK_X0_t_ch
  have HR_X0_t_ch := Aside0.mk r_X0_t_ch
  have HK_X0_t_ch := Aside0.mk (R_readsn r_X0_t_ch)
  clear r_X0_t_ch
  clear HR_X0_t_hs HK_X0_t_hs
  have HR_X0_t_hs := Aside0.mk r_X0_t_hs
  have HK_X0_t_hs := Aside0.mk (R_readsn r_X0_t_hs)
  clear r_X0_t_hs
  have U13 := Aside0.mk hu
  have sz13 := hu.size
  (try simp only [size_alloc, size_drew, size_drewN] at sz13)
  have NB_t : w13.heap[w.heap.size]? = some (.cells #[.int .i64 t_wi, .int .i64 t_ro, .int .i64 t_y, .int .i64 t_x, .bool t_hi, .slice A_t_ch t_ch.length c_t_ch, .slice A_t_hs t_hs.length c_t_hs] 44 (0, 0)) := (by repeat (with_reducible first | exact BB_t.out | exact blk_new _ | refine blk_new' _ (by simp only [size_alloc]) | refine blk_drewN ?_ _ | refine blk_drew ?_ | refine blk_alloc ?_ _ | refine blk_upd ?_ U13.out (fun hS => by rcases hS with hS | hS <;> first | exact BX_X0_t_ch_t.out hS | exact BX_X0_t_hs_t.out hS) ))
  clear BB_t lt_t rd_t
  have BB_t := Aside0.mk NB_t
  have lt_t := blk_lt NB_t
  have rd_t := blk_cell NB_t
  clear NB_t
  have NB_w0 : w13.heap[w4.heap.size]? = some (.cells #[.int .i64 r_co, .int .i64 r_t_wi, .int .i64 r_t_ro, .int .i64 r_t_y, .int .i64 r_t_x, .bool r_t_hi, .slice G0_r_t_ch r_t_ch.length g0_r_t_ch, .slice G0_r_t_hs r_t_hs.length g0_r_t_hs] 52 (0, 0)) := (by repeat (with_reducible first | exact BB_w0.out | exact blk_new _ | refine blk_new' _ (by simp only [size_alloc]) | refine blk_drewN ?_ _ | refine blk_drew ?_ | refine blk_alloc ?_ _ | refine blk_upd ?_ U13.out (fun hS => by rcases hS with hS | hS <;> first | exact BX_X0_t_ch_w0.out hS | exact BX_X0_t_hs_w0.out hS) ))
  clear BB_w0 lt_w0 rd_w0
  have BB_w0 := Aside0.mk NB_w0
  have lt_w0 := blk_lt NB_w0
  have rd_w0 := blk_cell NB_w0
  clear NB_w0
  have NB_x0 : w13.heap[w5.heap.size]? = some (.cells #[.int .i64 t_wi, .int .i64 t_ro, .int .i64 t_y, .int .i64 t_x, .bool t_hi, .slice X0_t_ch t_ch.length x0_t_ch, .slice X0_t_hs t_hs.length x0_t_hs] 47 (0, 0)) := (by repeat (with_reducible first | exact BB_x0.out | exact blk_new _ | refine blk_new' _ (by simp only [size_alloc]) | refine blk_drewN ?_ _ | refine blk_drew ?_ | refine blk_alloc ?_ _ | refine blk_upd ?_ U13.out (fun hS => by rcases hS with hS | hS <;> first | exact BX_X0_t_ch_x0.out hS | exact BX_X0_t_hs_x0.out hS) ))
  clear BB_x0 lt_x0 rd_x0
  have BB_x0 := Aside0.mk NB_x0
  have lt_x0 := blk_lt NB_x0
  have rd_x0 := blk_cell NB_x0
  clear NB_x0
  have NB_g0 : w13.heap[w7.heap.size]? = some (.cells #[.int .i64 r_co, .int .i64 r_t_wi, .int .i64 r_t_ro, .int .i64 r_t_y, .int .i64 r_t_x, .bool r_t_hi, .slice G1_r_t_ch r_t_ch.length g1_r_t_ch, .slice G1_r_t_hs r_t_hs.length g1_r_t_hs] 52 (0, 0)) := (by repeat (with_reducible first | exact BB_g0.out | exact blk_new _ | refine blk_new' _ (by simp only [size_alloc]) | refine blk_drewN ?_ _ | refine blk_drew ?_ | refine blk_alloc ?_ _ | refine blk_upd ?_ U13.out (fun hS => by rcases hS with hS | hS <;> first | exact BX_X0_t_ch_g0.out hS | exact BX_X0_t_hs_g0.out hS) ))
  clear BB_g0 lt_g0 rd_g0
  have BB_g0 := Aside0.mk NB_g0
  have lt_g0 := blk_lt NB_g0
  have rd_g0 := blk_cell NB_g0
  clear NB_g0
  clear hu
  have AP_G0_r_t_ch_X1_d := Aside0.mk (show ∀ b, (Value.slice G0_r_t_ch r_t_ch.length g0_r_t_ch).ownBlock = some b → (Value.slice X1_d d.length x1_d).ownBlock = some b → False from fun b h1 h2 => by have e1 := LO_G0_r_t_ch.out b h1; have e2 := HI_G0_r_t_ch.out b h1; have e3 := LO_X1_d.out b h2; have e4 := HI_X1_d.out b h2; omega)
  have AP_G0_r_t_hs_X1_d := Aside0.mk (show ∀ b, (Value.slice G0_r_t_hs r_t_hs.length g0_r_t_hs).ownBlock = some b → (Value.slice X1_d d.length x1_d).ownBlock = some b → False from fun b h1 h2 => by have e1 := LO_G0_r_t_hs.out b h1; have e2 := HI_G0_r_t_hs.out b h1; have e3 := LO_X1_d.out b h2; have e4 := HI_X1_d.out b h2; omega)
  have AP_G1_r_t_ch_X1_d := Aside0.mk (show ∀ b, (Value.slice G1_r_t_ch r_t_ch.length g1_r_t_ch).ownBlock = some b → (Value.slice X1_d d.length x1_d).ownBlock = some b → False from fun b h1 h2 => by have e1 := LO_G1_r_t_ch.out b h1; have e2 := HI_G1_r_t_ch.out b h1; have e3 := LO_X1_d.out b h2; have e4 := HI_X1_d.out b h2; omega)
  have AP_G1_r_t_hs_X1_d := Aside0.mk (show ∀ b, (Value.slice G1_r_t_hs r_t_hs.length g1_r_t_hs).ownBlock = some b → (Value.slice X1_d d.length x1_d).ownBlock = some b → False from fun b h1 h2 => by have e1 := LO_G1_r_t_hs.out b h1; have e2 := HI_G1_r_t_hs.out b h1; have e3 := LO_X1_d.out b h2; have e4 := HI_X1_d.out b h2; omega)
  have BX_X1_d_t := Aside0.mk (show (Value.slice X1_d d.length x1_d).ownBlock = some (w.heap.size) → False from fun h => by have e1 := LO_X1_d.out _ h; have e2 := HI_X1_d.out _ h; omega)
  have BX_X1_d_w0 := Aside0.mk (show (Value.slice X1_d d.length x1_d).ownBlock = some (w4.heap.size) → False from fun h => by have e1 := LO_X1_d.out _ h; have e2 := HI_X1_d.out _ h; omega)
  have BX_X1_d_x0 := Aside0.mk (show (Value.slice X1_d d.length x1_d).ownBlock = some (w5.heap.size) → False from fun h => by have e1 := LO_X1_d.out _ h; have e2 := HI_X1_d.out _ h; omega)
  have BX_X1_d_g0 := Aside0.mk (show (Value.slice X1_d d.length x1_d).ownBlock = some (w7.heap.size) → False from fun h => by have e1 := LO_X1_d.out _ h; have e2 := HI_X1_d.out _ h; omega)
  go_wp2_with fail
  refine Calls.mono (markByteS_c _ _ bs_X1 d (1 + t_ch.length + t_hs.length) _ (by omega) _ (by repeat (with_reducible first | exact HR_X1_d.out | refine Kd.R_alloc ?_ _ | refine Kd.R_drewN ?_ _ | refine Kd.R_drew ?_ | refine R_updI ?_ U13.out (fun b h1 hS => by rcases hS with hS | hS <;> first | exact AP_X1_d_X0_t_ch.out b h1 hS | exact AP_X1_d_X0_t_hs.out b h1 hS) | refine Kd.R_below ?_ HB12.out | refine Kd.R_below ?_ HB11.out | refine Kd.R_below ?_ HB10.out | refine Kd.R_below ?_ HB9.out | refine Kd.R_below ?_ HB8.out | refine Kd.R_below ?_ HB7.out )) (by omega)) ?_
  rintro e w14 ⟨rfl, r_X1_d, hg⟩
  have hu := Upd.of_grown hg
  clear hg
  clear HR_X1_d HK_X1_d
  have HR_X1_d := Aside0.mk r_X1_d
  have HK_X1_d := Aside0.mk (R_readsn r_X1_d)
  clear r_X1_d
  have U14 := Aside0.mk hu
  have sz14 := hu.size
  (try simp only [size_alloc, size_drew, size_drewN] at sz14)
  have NB_t : w14.heap[w.heap.size]? = some (.cells #[.int .i64 t_wi, .int .i64 t_ro, .int .i64 t_y, .int .i64 t_x, .bool t_hi, .slice A_t_ch t_ch.length c_t_ch, .slice A_t_hs t_hs.length c_t_hs] 44 (0, 0)) := (by repeat (with_reducible first | exact BB_t.out | exact blk_new _ | refine blk_new' _ (by simp only [size_alloc]) | refine blk_drewN ?_ _ | refine blk_drew ?_ | refine blk_alloc ?_ _ | refine blk_upd ?_ U14.out (fun hS => by first | exact BX_X1_d_t.out hS) ))
  clear BB_t lt_t rd_t
  have BB_t := Aside0.mk NB_t
  have lt_t := blk_lt NB_t
  have rd_t := blk_cell NB_t
  clear NB_t
  have NB_w0 : w14.heap[w4.heap.size]? = some (.cells #[.int .i64 r_co, .int .i64 r_t_wi, .int .i64 r_t_ro, .int .i64 r_t_y, .int .i64 r_t_x, .bool r_t_hi, .slice G0_r_t_ch r_t_ch.length g0_r_t_ch, .slice G0_r_t_hs r_t_hs.length g0_r_t_hs] 52 (0, 0)) := (by repeat (with_reducible first | exact BB_w0.out | exact blk_new _ | refine blk_new' _ (by simp only [size_alloc]) | refine blk_drewN ?_ _ | refine blk_drew ?_ | refine blk_alloc ?_ _ | refine blk_upd ?_ U14.out (fun hS => by first | exact BX_X1_d_w0.out hS) ))
  clear BB_w0 lt_w0 rd_w0
  have BB_w0 := Aside0.mk NB_w0
  have lt_w0 := blk_lt NB_w0
  have rd_w0 := blk_cell NB_w0
  clear NB_w0
  have NB_x0 : w14.heap[w5.heap.size]? = some (.cells #[.int .i64 t_wi, .int .i64 t_ro, .int .i64 t_y, .int .i64 t_x, .bool t_hi, .slice X0_t_ch t_ch.length x0_t_ch, .slice X0_t_hs t_hs.length x0_t_hs] 47 (0, 0)) := (by repeat (with_reducible first | exact BB_x0.out | exact blk_new _ | refine blk_new' _ (by simp only [size_alloc]) | refine blk_drewN ?_ _ | refine blk_drew ?_ | refine blk_alloc ?_ _ | refine blk_upd ?_ U14.out (fun hS => by first | exact BX_X1_d_x0.out hS) ))
  clear BB_x0 lt_x0 rd_x0
  have BB_x0 := Aside0.mk NB_x0
  have lt_x0 := blk_lt NB_x0
  have rd_x0 := blk_cell NB_x0
  clear NB_x0
  have NB_g0 : w14.heap[w7.heap.size]? = some (.cells #[.int .i64 r_co, .int .i64 r_t_wi, .int .i64 r_t_ro, .int .i64 r_t_y, .int .i64 r_t_x, .bool r_t_hi, .slice G1_r_t_ch r_t_ch.length g1_r_t_ch, .slice G1_r_t_hs r_t_hs.length g1_r_t_hs] 52 (0, 0)) := (by repeat (with_reducible first | exact BB_g0.out | exact blk_new _ | refine blk_new' _ (by simp only [size_alloc]) | refine blk_drewN ?_ _ | refine blk_drew ?_ | refine blk_alloc ?_ _ | refine blk_upd ?_ U14.out (fun hS => by first | exact BX_X1_d_g0.out hS) ))
  clear BB_g0 lt_g0 rd_g0
  have BB_g0 := Aside0.mk NB_g0
  have lt_g0 := blk_lt NB_g0
  have rd_g0 := blk_cell NB_g0
  clear NB_g0
  clear hu
  have hk0 : decide ((1 + (t_ch.length : Int) + (t_hs.length : Int) + (d.length : Int) : Int) < 0) = false := decide_eq_false (by omega)
  go_wp2_with fail
  refine Calls.mono (eqTermResult_c _ _ _ _ _ _ _ _ r_t_ch _ _ r_t_hs _ _ _ _ _ _ _ _ r_t_ch _ _ r_t_hs _ (by repeat (with_reducible first | exact HK_G1_r_t_ch.out | refine Kd.C_alloc ?_ _ | refine Kd.C_drewN ?_ _ | refine Kd.C_drew ?_ | refine C_updI g1_r_t_ch ?_ U14.out (fun b h1 hS => by first | exact AP_G1_r_t_ch_X1_d.out b h1 hS) | refine C_updI g1_r_t_ch ?_ U13.out (fun b h1 hS => by rcases hS with hS | hS <;> first | exact AP_G1_r_t_ch_X0_t_ch.out b h1 hS | exact AP_G1_r_t_ch_X0_t_hs.out b h1 hS) | refine Kd.C_below ?_ HB12.out | refine Kd.C_below ?_ HB11.out | refine Kd.C_below ?_ HB10.out | refine Kd.C_below ?_ HB9.out | refine Kd.C_below ?_ HB8.out )) (by repeat (with_reducible first | exact HK_G1_r_t_hs.out | refine Kd.C_alloc ?_ _ | refine Kd.C_drewN ?_ _ | refine Kd.C_drew ?_ | refine C_updB g1_r_t_hs ?_ U14.out (fun b h1 hS => by first | exact AP_G1_r_t_hs_X1_d.out b h1 hS) | refine C_updB g1_r_t_hs ?_ U13.out (fun b h1 hS => by rcases hS with hS | hS <;> first | exact AP_G1_r_t_hs_X0_t_ch.out b h1 hS | exact AP_G1_r_t_hs_X0_t_hs.out b h1 hS) | refine Kd.C_below ?_ HB12.out | refine Kd.C_below ?_ HB11.out | refine Kd.C_below ?_ HB10.out | refine Kd.C_below ?_ HB9.out | refine Kd.C_below ?_ HB8.out )) (by repeat (with_reducible first | exact HK_G0_r_t_ch.out | refine Kd.C_alloc ?_ _ | refine Kd.C_drewN ?_ _ | refine Kd.C_drew ?_ | refine C_updI g0_r_t_ch ?_ U14.out (fun b h1 hS => by first | exact AP_G0_r_t_ch_X1_d.out b h1 hS) | refine C_updI g0_r_t_ch ?_ U13.out (fun b h1 hS => by rcases hS with hS | hS <;> first | exact AP_G0_r_t_ch_X0_t_ch.out b h1 hS | exact AP_G0_r_t_ch_X0_t_hs.out b h1 hS) | refine Kd.C_below ?_ HB12.out | refine Kd.C_below ?_ HB11.out | refine Kd.C_below ?_ HB10.out | refine Kd.C_below ?_ HB9.out | refine Kd.C_below ?_ HB8.out | refine Kd.C_below ?_ HB7.out | refine Kd.C_below ?_ HB6.out | refine Kd.C_below ?_ HB5.out )) (by repeat (with_reducible first | exact HK_G0_r_t_hs.out | refine Kd.C_alloc ?_ _ | refine Kd.C_drewN ?_ _ | refine Kd.C_drew ?_ | refine C_updB g0_r_t_hs ?_ U14.out (fun b h1 hS => by first | exact AP_G0_r_t_hs_X1_d.out b h1 hS) | refine C_updB g0_r_t_hs ?_ U13.out (fun b h1 hS => by rcases hS with hS | hS <;> first | exact AP_G0_r_t_hs_X0_t_ch.out b h1 hS | exact AP_G0_r_t_hs_X0_t_hs.out b h1 hS) | refine Kd.C_below ?_ HB12.out | refine Kd.C_below ?_ HB11.out | refine Kd.C_below ?_ HB10.out | refine Kd.C_below ?_ HB9.out | refine Kd.C_below ?_ HB8.out | refine Kd.C_below ?_ HB7.out | refine Kd.C_below ?_ HB6.out | refine Kd.C_below ?_ HB5.out ))) ?_
  rintro e w15 ⟨rfl, hb⟩
  have HB15 := Aside0.mk hb
  have sz15 := hb.size
  (try simp only [size_alloc, size_drew, size_drewN] at sz15)
  have NB_t : w15.heap[w.heap.size]? = some (.cells #[.int .i64 t_wi, .int .i64 t_ro, .int .i64 t_y, .int .i64 t_x, .bool t_hi, .slice A_t_ch t_ch.length c_t_ch, .slice A_t_hs t_hs.length c_t_hs] 44 (0, 0)) := (by repeat (with_reducible first | exact BB_t.out | exact blk_new _ | refine blk_new' _ (by simp only [size_alloc]) | refine blk_drewN ?_ _ | refine blk_drew ?_ | refine blk_alloc ?_ _ | refine blk_below ?_ HB15.out ))
  clear BB_t lt_t rd_t
  have BB_t := Aside0.mk NB_t
  have lt_t := blk_lt NB_t
  have rd_t := blk_cell NB_t
  clear NB_t
  have NB_w0 : w15.heap[w4.heap.size]? = some (.cells #[.int .i64 r_co, .int .i64 r_t_wi, .int .i64 r_t_ro, .int .i64 r_t_y, .int .i64 r_t_x, .bool r_t_hi, .slice G0_r_t_ch r_t_ch.length g0_r_t_ch, .slice G0_r_t_hs r_t_hs.length g0_r_t_hs] 52 (0, 0)) := (by repeat (with_reducible first | exact BB_w0.out | exact blk_new _ | refine blk_new' _ (by simp only [size_alloc]) | refine blk_drewN ?_ _ | refine blk_drew ?_ | refine blk_alloc ?_ _ | refine blk_below ?_ HB15.out ))
  clear BB_w0 lt_w0 rd_w0
  have BB_w0 := Aside0.mk NB_w0
  have lt_w0 := blk_lt NB_w0
  have rd_w0 := blk_cell NB_w0
  clear NB_w0
  have NB_x0 : w15.heap[w5.heap.size]? = some (.cells #[.int .i64 t_wi, .int .i64 t_ro, .int .i64 t_y, .int .i64 t_x, .bool t_hi, .slice X0_t_ch t_ch.length x0_t_ch, .slice X0_t_hs t_hs.length x0_t_hs] 47 (0, 0)) := (by repeat (with_reducible first | exact BB_x0.out | exact blk_new _ | refine blk_new' _ (by simp only [size_alloc]) | refine blk_drewN ?_ _ | refine blk_drew ?_ | refine blk_alloc ?_ _ | refine blk_below ?_ HB15.out ))
  clear BB_x0 lt_x0 rd_x0
  have BB_x0 := Aside0.mk NB_x0
  have lt_x0 := blk_lt NB_x0
  have rd_x0 := blk_cell NB_x0
  clear NB_x0
  have NB_g0 : w15.heap[w7.heap.size]? = some (.cells #[.int .i64 r_co, .int .i64 r_t_wi, .int .i64 r_t_ro, .int .i64 r_t_y, .int .i64 r_t_x, .bool r_t_hi, .slice G1_r_t_ch r_t_ch.length g1_r_t_ch, .slice G1_r_t_hs r_t_hs.length g1_r_t_hs] 52 (0, 0)) := (by repeat (with_reducible first | exact BB_g0.out | exact blk_new _ | refine blk_new' _ (by simp only [size_alloc]) | refine blk_drewN ?_ _ | refine blk_drew ?_ | refine blk_alloc ?_ _ | refine blk_below ?_ HB15.out ))
  clear BB_g0 lt_g0 rd_g0
  have BB_g0 := Aside0.mk NB_g0
  have lt_g0 := blk_lt NB_g0
  have rd_g0 := blk_cell NB_g0
  clear NB_g0
  clear hb
  have AP_G0_r_t_ch_G1_r_t_ch := Aside0.mk (show ∀ b, (Value.slice G0_r_t_ch r_t_ch.length g0_r_t_ch).ownBlock = some b → (Value.slice G1_r_t_ch r_t_ch.length g1_r_t_ch).ownBlock = some b → False from fun b h1 h2 => by have e1 := LO_G0_r_t_ch.out b h1; have e2 := HI_G0_r_t_ch.out b h1; have e3 := LO_G1_r_t_ch.out b h2; have e4 := HI_G1_r_t_ch.out b h2; omega)
  have AP_G0_r_t_ch_G1_r_t_hs := Aside0.mk (show ∀ b, (Value.slice G0_r_t_ch r_t_ch.length g0_r_t_ch).ownBlock = some b → (Value.slice G1_r_t_hs r_t_hs.length g1_r_t_hs).ownBlock = some b → False from fun b h1 h2 => by have e1 := LO_G0_r_t_ch.out b h1; have e2 := HI_G0_r_t_ch.out b h1; have e3 := LO_G1_r_t_hs.out b h2; have e4 := HI_G1_r_t_hs.out b h2; omega)
  have AP_G0_r_t_hs_G1_r_t_ch := Aside0.mk (show ∀ b, (Value.slice G0_r_t_hs r_t_hs.length g0_r_t_hs).ownBlock = some b → (Value.slice G1_r_t_ch r_t_ch.length g1_r_t_ch).ownBlock = some b → False from fun b h1 h2 => by have e1 := LO_G0_r_t_hs.out b h1; have e2 := HI_G0_r_t_hs.out b h1; have e3 := LO_G1_r_t_ch.out b h2; have e4 := HI_G1_r_t_ch.out b h2; omega)
  have AP_G0_r_t_hs_G1_r_t_hs := Aside0.mk (show ∀ b, (Value.slice G0_r_t_hs r_t_hs.length g0_r_t_hs).ownBlock = some b → (Value.slice G1_r_t_hs r_t_hs.length g1_r_t_hs).ownBlock = some b → False from fun b h1 h2 => by have e1 := LO_G0_r_t_hs.out b h1; have e2 := HI_G0_r_t_hs.out b h1; have e3 := LO_G1_r_t_hs.out b h2; have e4 := HI_G1_r_t_hs.out b h2; omega)
  have BX_G1_r_t_ch_t := Aside0.mk (show (Value.slice G1_r_t_ch r_t_ch.length g1_r_t_ch).ownBlock = some (w.heap.size) → False from fun h => by have e1 := LO_G1_r_t_ch.out _ h; have e2 := HI_G1_r_t_ch.out _ h; omega)
  have BX_G1_r_t_ch_w0 := Aside0.mk (show (Value.slice G1_r_t_ch r_t_ch.length g1_r_t_ch).ownBlock = some (w4.heap.size) → False from fun h => by have e1 := LO_G1_r_t_ch.out _ h; have e2 := HI_G1_r_t_ch.out _ h; omega)
  have BX_G1_r_t_ch_x0 := Aside0.mk (show (Value.slice G1_r_t_ch r_t_ch.length g1_r_t_ch).ownBlock = some (w5.heap.size) → False from fun h => by have e1 := LO_G1_r_t_ch.out _ h; have e2 := HI_G1_r_t_ch.out _ h; omega)
  have BX_G1_r_t_ch_g0 := Aside0.mk (show (Value.slice G1_r_t_ch r_t_ch.length g1_r_t_ch).ownBlock = some (w7.heap.size) → False from fun h => by have e1 := LO_G1_r_t_ch.out _ h; have e2 := HI_G1_r_t_ch.out _ h; omega)
  have BX_G1_r_t_hs_t := Aside0.mk (show (Value.slice G1_r_t_hs r_t_hs.length g1_r_t_hs).ownBlock = some (w.heap.size) → False from fun h => by have e1 := LO_G1_r_t_hs.out _ h; have e2 := HI_G1_r_t_hs.out _ h; omega)
  have BX_G1_r_t_hs_w0 := Aside0.mk (show (Value.slice G1_r_t_hs r_t_hs.length g1_r_t_hs).ownBlock = some (w4.heap.size) → False from fun h => by have e1 := LO_G1_r_t_hs.out _ h; have e2 := HI_G1_r_t_hs.out _ h; omega)
  have BX_G1_r_t_hs_x0 := Aside0.mk (show (Value.slice G1_r_t_hs r_t_hs.length g1_r_t_hs).ownBlock = some (w5.heap.size) → False from fun h => by have e1 := LO_G1_r_t_hs.out _ h; have e2 := HI_G1_r_t_hs.out _ h; omega)
  have BX_G1_r_t_hs_g0 := Aside0.mk (show (Value.slice G1_r_t_hs r_t_hs.length g1_r_t_hs).ownBlock = some (w7.heap.size) → False from fun h => by have e1 := LO_G1_r_t_hs.out _ h; have e2 := HI_G1_r_t_hs.out _ h; omega)
  go_wp2_with fail
  refine Calls.mono (markTermResult_c _ _ _ _ _ _ _ _ r_t_ch _ _ r_t_hs bs_G1 (1) _ (by omega) _ (by repeat (with_reducible first | exact HR_G1_r_t_ch.out | refine Kd.R_alloc ?_ _ | refine Kd.R_drewN ?_ _ | refine Kd.R_drew ?_ | refine Kd.R_below ?_ HB15.out | refine R_updI ?_ U14.out (fun b h1 hS => by first | exact AP_G1_r_t_ch_X1_d.out b h1 hS) | refine R_updI ?_ U13.out (fun b h1 hS => by rcases hS with hS | hS <;> first | exact AP_G1_r_t_ch_X0_t_ch.out b h1 hS | exact AP_G1_r_t_ch_X0_t_hs.out b h1 hS) | refine Kd.R_below ?_ HB12.out | refine Kd.R_below ?_ HB11.out | refine Kd.R_below ?_ HB10.out | refine Kd.R_below ?_ HB9.out | refine Kd.R_below ?_ HB8.out )) (by repeat (with_reducible first | exact HR_G1_r_t_hs.out | refine Kd.R_alloc ?_ _ | refine Kd.R_drewN ?_ _ | refine Kd.R_drew ?_ | refine Kd.R_below ?_ HB15.out | refine R_updB ?_ U14.out (fun b h1 hS => by first | exact AP_G1_r_t_hs_X1_d.out b h1 hS) | refine R_updB ?_ U13.out (fun b h1 hS => by rcases hS with hS | hS <;> first | exact AP_G1_r_t_hs_X0_t_ch.out b h1 hS | exact AP_G1_r_t_hs_X0_t_hs.out b h1 hS) | refine Kd.R_below ?_ HB12.out | refine Kd.R_below ?_ HB11.out | refine Kd.R_below ?_ HB10.out | refine Kd.R_below ?_ HB9.out | refine Kd.R_below ?_ HB8.out )) AP_G1_r_t_ch_G1_r_t_hs.out (by omega)) ?_
  rintro e w16 ⟨rfl, r_G1_r_t_ch, r_G1_r_t_hs, hu⟩
  clear HR_G1_r_t_ch HK_G1_r_t_ch
  have HR_G1_r_t_ch := Aside0.mk r_G1_r_t_ch
  have HK_G1_r_t_ch := Aside0.mk (R_readsn r_G1_r_t_ch)
  clear r_G1_r_t_ch
  clear HR_G1_r_t_hs HK_G1_r_t_hs
  have HR_G1_r_t_hs := Aside0.mk r_G1_r_t_hs
  have HK_G1_r_t_hs := Aside0.mk (R_readsn r_G1_r_t_hs)
  clear r_G1_r_t_hs
  have U16 := Aside0.mk hu
  have sz16 := hu.size
  (try simp only [size_alloc, size_drew, size_drewN] at sz16)
  have NB_t : w16.heap[w.heap.size]? = some (.cells #[.int .i64 t_wi, .int .i64 t_ro, .int .i64 t_y, .int .i64 t_x, .bool t_hi, .slice A_t_ch t_ch.length c_t_ch, .slice A_t_hs t_hs.length c_t_hs] 44 (0, 0)) := (by repeat (with_reducible first | exact BB_t.out | exact blk_new _ | refine blk_new' _ (by simp only [size_alloc]) | refine blk_drewN ?_ _ | refine blk_drew ?_ | refine blk_alloc ?_ _ | refine blk_upd ?_ U16.out (fun hS => by rcases hS with hS | hS <;> first | exact BX_G1_r_t_ch_t.out hS | exact BX_G1_r_t_hs_t.out hS) ))
  clear BB_t lt_t rd_t
  have BB_t := Aside0.mk NB_t
  have lt_t := blk_lt NB_t
  have rd_t := blk_cell NB_t
  clear NB_t
  have NB_w0 : w16.heap[w4.heap.size]? = some (.cells #[.int .i64 r_co, .int .i64 r_t_wi, .int .i64 r_t_ro, .int .i64 r_t_y, .int .i64 r_t_x, .bool r_t_hi, .slice G0_r_t_ch r_t_ch.length g0_r_t_ch, .slice G0_r_t_hs r_t_hs.length g0_r_t_hs] 52 (0, 0)) := (by repeat (with_reducible first | exact BB_w0.out | exact blk_new _ | refine blk_new' _ (by simp only [size_alloc]) | refine blk_drewN ?_ _ | refine blk_drew ?_ | refine blk_alloc ?_ _ | refine blk_upd ?_ U16.out (fun hS => by rcases hS with hS | hS <;> first | exact BX_G1_r_t_ch_w0.out hS | exact BX_G1_r_t_hs_w0.out hS) ))
  clear BB_w0 lt_w0 rd_w0
  have BB_w0 := Aside0.mk NB_w0
  have lt_w0 := blk_lt NB_w0
  have rd_w0 := blk_cell NB_w0
  clear NB_w0
  have NB_x0 : w16.heap[w5.heap.size]? = some (.cells #[.int .i64 t_wi, .int .i64 t_ro, .int .i64 t_y, .int .i64 t_x, .bool t_hi, .slice X0_t_ch t_ch.length x0_t_ch, .slice X0_t_hs t_hs.length x0_t_hs] 47 (0, 0)) := (by repeat (with_reducible first | exact BB_x0.out | exact blk_new _ | refine blk_new' _ (by simp only [size_alloc]) | refine blk_drewN ?_ _ | refine blk_drew ?_ | refine blk_alloc ?_ _ | refine blk_upd ?_ U16.out (fun hS => by rcases hS with hS | hS <;> first | exact BX_G1_r_t_ch_x0.out hS | exact BX_G1_r_t_hs_x0.out hS) ))
  clear BB_x0 lt_x0 rd_x0
  have BB_x0 := Aside0.mk NB_x0
  have lt_x0 := blk_lt NB_x0
  have rd_x0 := blk_cell NB_x0
  clear NB_x0
  have NB_g0 : w16.heap[w7.heap.size]? = some (.cells #[.int .i64 r_co, .int .i64 r_t_wi, .int .i64 r_t_ro, .int .i64 r_t_y, .int .i64 r_t_x, .bool r_t_hi, .slice G1_r_t_ch r_t_ch.length g1_r_t_ch, .slice G1_r_t_hs r_t_hs.length g1_r_t_hs] 52 (0, 0)) := (by repeat (with_reducible first | exact BB_g0.out | exact blk_new _ | refine blk_new' _ (by simp only [size_alloc]) | refine blk_drewN ?_ _ | refine blk_drew ?_ | refine blk_alloc ?_ _ | refine blk_upd ?_ U16.out (fun hS => by rcases hS with hS | hS <;> first | exact BX_G1_r_t_ch_g0.out hS | exact BX_G1_r_t_hs_g0.out hS) ))
  clear BB_g0 lt_g0 rd_g0
  have BB_g0 := Aside0.mk NB_g0
  have lt_g0 := blk_lt NB_g0
  have rd_g0 := blk_cell NB_g0
  clear NB_g0
  clear hu
  have hm0 : decide ((1 + (r_t_ch.length : Int) + (r_t_hs.length : Int) : Int) < 0) = false := decide_eq_false (by omega)
  go_wp2_with fail
  refine Calls.mono (heldTermResult_c _ _ _ _ _ _ _ r_t_ch.length _ _ r_t_hs.length _ 1 _ (by omega) _ (by repeat (with_reducible first | exact HK_G1_r_t_ch.out | refine Kd.C_alloc ?_ _ | refine Kd.C_drewN ?_ _ | refine Kd.C_drew ?_ )) (by repeat (with_reducible first | exact HK_G1_r_t_hs.out | refine Kd.C_alloc ?_ _ | refine Kd.C_drewN ?_ _ | refine Kd.C_drew ?_ )) (by omega)) ?_
  rintro e w17 ⟨rfl, hb⟩
  have HB17 := Aside0.mk hb
  have sz17 := hb.size
  (try simp only [size_alloc, size_drew, size_drewN] at sz17)
  have NB_t : w17.heap[w.heap.size]? = some (.cells #[.int .i64 t_wi, .int .i64 t_ro, .int .i64 t_y, .int .i64 t_x, .bool t_hi, .slice A_t_ch t_ch.length c_t_ch, .slice A_t_hs t_hs.length c_t_hs] 44 (0, 0)) := (by repeat (with_reducible first | exact BB_t.out | exact blk_new _ | refine blk_new' _ (by simp only [size_alloc]) | refine blk_drewN ?_ _ | refine blk_drew ?_ | refine blk_alloc ?_ _ | refine blk_below ?_ HB17.out ))
  clear BB_t lt_t rd_t
  have BB_t := Aside0.mk NB_t
  have lt_t := blk_lt NB_t
  have rd_t := blk_cell NB_t
  clear NB_t
  have NB_w0 : w17.heap[w4.heap.size]? = some (.cells #[.int .i64 r_co, .int .i64 r_t_wi, .int .i64 r_t_ro, .int .i64 r_t_y, .int .i64 r_t_x, .bool r_t_hi, .slice G0_r_t_ch r_t_ch.length g0_r_t_ch, .slice G0_r_t_hs r_t_hs.length g0_r_t_hs] 52 (0, 0)) := (by repeat (with_reducible first | exact BB_w0.out | exact blk_new _ | refine blk_new' _ (by simp only [size_alloc]) | refine blk_drewN ?_ _ | refine blk_drew ?_ | refine blk_alloc ?_ _ | refine blk_below ?_ HB17.out ))
  clear BB_w0 lt_w0 rd_w0
  have BB_w0 := Aside0.mk NB_w0
  have lt_w0 := blk_lt NB_w0
  have rd_w0 := blk_cell NB_w0
  clear NB_w0
  have NB_x0 : w17.heap[w5.heap.size]? = some (.cells #[.int .i64 t_wi, .int .i64 t_ro, .int .i64 t_y, .int .i64 t_x, .bool t_hi, .slice X0_t_ch t_ch.length x0_t_ch, .slice X0_t_hs t_hs.length x0_t_hs] 47 (0, 0)) := (by repeat (with_reducible first | exact BB_x0.out | exact blk_new _ | refine blk_new' _ (by simp only [size_alloc]) | refine blk_drewN ?_ _ | refine blk_drew ?_ | refine blk_alloc ?_ _ | refine blk_below ?_ HB17.out ))
  clear BB_x0 lt_x0 rd_x0
  have BB_x0 := Aside0.mk NB_x0
  have lt_x0 := blk_lt NB_x0
  have rd_x0 := blk_cell NB_x0
  clear NB_x0
  have NB_g0 : w17.heap[w7.heap.size]? = some (.cells #[.int .i64 r_co, .int .i64 r_t_wi, .int .i64 r_t_ro, .int .i64 r_t_y, .int .i64 r_t_x, .bool r_t_hi, .slice G1_r_t_ch r_t_ch.length g1_r_t_ch, .slice G1_r_t_hs r_t_hs.length g1_r_t_hs] 52 (0, 0)) := (by repeat (with_reducible first | exact BB_g0.out | exact blk_new _ | refine blk_new' _ (by simp only [size_alloc]) | refine blk_drewN ?_ _ | refine blk_drew ?_ | refine blk_alloc ?_ _ | refine blk_below ?_ HB17.out ))
  clear BB_g0 lt_g0 rd_g0
  have BB_g0 := Aside0.mk NB_g0
  have lt_g0 := blk_lt NB_g0
  have rd_g0 := blk_cell NB_g0
  clear NB_g0
  clear hb
  go_wp2_with fail
  refine Calls.mono (toTerm_c _ _ _ _ _ _ _ t_ch _ _ t_hs _ (Kd.C_below HC_t_ch.out (by repeat (with_reducible first | exact Below.refl _ _ | refine below_alloc ?_ _ | refine below_drew ?_ | refine pw_below_drewN ?_ _ | refine below_end ?_ HB17.out | refine below_upd ?_ U16.out (fun b hlt hS => by rcases hS with hS | hS <;> first | (have := LO_G1_r_t_ch.out b hS; omega) | (have := LO_G1_r_t_hs.out b hS; omega)) | refine below_end ?_ HB15.out | refine below_upd ?_ U14.out (fun b hlt hS => by first | (have := LO_X1_d.out b hS; omega)) | refine below_upd ?_ U13.out (fun b hlt hS => by rcases hS with hS | hS <;> first | (have := LO_X0_t_ch.out b hS; omega) | (have := LO_X0_t_hs.out b hS; omega)) | refine below_end ?_ HB12.out | refine below_end ?_ HB11.out | refine below_end ?_ HB10.out | refine below_end ?_ HB9.out | refine below_end ?_ HB8.out | refine below_end ?_ HB7.out | refine below_end ?_ HB6.out | refine below_end ?_ HB5.out | refine below_end ?_ HB4.out | refine below_end ?_ HB3.out | refine below_end ?_ HB2.out | refine below_end ?_ HB1.out ))) (Kd.C_below HC_t_hs.out (by repeat (with_reducible first | exact Below.refl _ _ | refine below_alloc ?_ _ | refine below_drew ?_ | refine pw_below_drewN ?_ _ | refine below_end ?_ HB17.out | refine below_upd ?_ U16.out (fun b hlt hS => by rcases hS with hS | hS <;> first | (have := LO_G1_r_t_ch.out b hS; omega) | (have := LO_G1_r_t_hs.out b hS; omega)) | refine below_end ?_ HB15.out | refine below_upd ?_ U14.out (fun b hlt hS => by first | (have := LO_X1_d.out b hS; omega)) | refine below_upd ?_ U13.out (fun b hlt hS => by rcases hS with hS | hS <;> first | (have := LO_X0_t_ch.out b hS; omega) | (have := LO_X0_t_hs.out b hS; omega)) | refine below_end ?_ HB12.out | refine below_end ?_ HB11.out | refine below_end ?_ HB10.out | refine below_end ?_ HB9.out | refine below_end ?_ HB8.out | refine below_end ?_ HB7.out | refine below_end ?_ HB6.out | refine below_end ?_ HB5.out | refine below_end ?_ HB4.out | refine below_end ?_ HB3.out | refine below_end ?_ HB2.out | refine below_end ?_ HB1.out ))) (by omega) (by omega)) ?_
  rintro e w18 ⟨Q0_t_ch, q0_t_ch, Q0_t_hs, q0_t_hs, rfl, le_Q0_t_ch, r_Q0_t_ch, le_Q0_t_hs, r_Q0_t_hs, hb⟩
  have HR_Q0_t_ch := Aside0.mk r_Q0_t_ch
  have HK_Q0_t_ch := Aside0.mk (Kd.R_reads' r_Q0_t_ch).2.2
  have LO_Q0_t_ch := Aside0.mk (Kd.R_base r_Q0_t_ch)
  have HI_Q0_t_ch := Aside0.mk (Kd.R_lt r_Q0_t_ch)
  (try simp only [size_alloc, size_drew, size_drewN] at LO_Q0_t_ch)
  have HR_Q0_t_hs := Aside0.mk r_Q0_t_hs
  have HK_Q0_t_hs := Aside0.mk (Kd.R_reads' r_Q0_t_hs).2.2
  have LO_Q0_t_hs := Aside0.mk (Kd.R_base r_Q0_t_hs)
  have HI_Q0_t_hs := Aside0.mk (Kd.R_lt r_Q0_t_hs)
  (try simp only [size_alloc, size_drew, size_drewN] at LO_Q0_t_hs)
  clear r_Q0_t_ch r_Q0_t_hs
  have HB18 := Aside0.mk hb
  have sz18 := hb.size
  (try simp only [size_alloc, size_drew, size_drewN] at sz18)
  have NB_t : w18.heap[w.heap.size]? = some (.cells #[.int .i64 t_wi, .int .i64 t_ro, .int .i64 t_y, .int .i64 t_x, .bool t_hi, .slice A_t_ch t_ch.length c_t_ch, .slice A_t_hs t_hs.length c_t_hs] 44 (0, 0)) := (by repeat (with_reducible first | exact BB_t.out | exact blk_new _ | refine blk_new' _ (by simp only [size_alloc]) | refine blk_drewN ?_ _ | refine blk_drew ?_ | refine blk_alloc ?_ _ | refine blk_below ?_ HB18.out ))
  clear BB_t lt_t rd_t
  have BB_t := Aside0.mk NB_t
  have lt_t := blk_lt NB_t
  have rd_t := blk_cell NB_t
  clear NB_t
  have NB_w0 : w18.heap[w4.heap.size]? = some (.cells #[.int .i64 r_co, .int .i64 r_t_wi, .int .i64 r_t_ro, .int .i64 r_t_y, .int .i64 r_t_x, .bool r_t_hi, .slice G0_r_t_ch r_t_ch.length g0_r_t_ch, .slice G0_r_t_hs r_t_hs.length g0_r_t_hs] 52 (0, 0)) := (by repeat (with_reducible first | exact BB_w0.out | exact blk_new _ | refine blk_new' _ (by simp only [size_alloc]) | refine blk_drewN ?_ _ | refine blk_drew ?_ | refine blk_alloc ?_ _ | refine blk_below ?_ HB18.out ))
  clear BB_w0 lt_w0 rd_w0
  have BB_w0 := Aside0.mk NB_w0
  have lt_w0 := blk_lt NB_w0
  have rd_w0 := blk_cell NB_w0
  clear NB_w0
  have NB_x0 : w18.heap[w5.heap.size]? = some (.cells #[.int .i64 t_wi, .int .i64 t_ro, .int .i64 t_y, .int .i64 t_x, .bool t_hi, .slice X0_t_ch t_ch.length x0_t_ch, .slice X0_t_hs t_hs.length x0_t_hs] 47 (0, 0)) := (by repeat (with_reducible first | exact BB_x0.out | exact blk_new _ | refine blk_new' _ (by simp only [size_alloc]) | refine blk_drewN ?_ _ | refine blk_drew ?_ | refine blk_alloc ?_ _ | refine blk_below ?_ HB18.out ))
  clear BB_x0 lt_x0 rd_x0
  have BB_x0 := Aside0.mk NB_x0
  have lt_x0 := blk_lt NB_x0
  have rd_x0 := blk_cell NB_x0
  clear NB_x0
  have NB_g0 : w18.heap[w7.heap.size]? = some (.cells #[.int .i64 r_co, .int .i64 r_t_wi, .int .i64 r_t_ro, .int .i64 r_t_y, .int .i64 r_t_x, .bool r_t_hi, .slice G1_r_t_ch r_t_ch.length g1_r_t_ch, .slice G1_r_t_hs r_t_hs.length g1_r_t_hs] 52 (0, 0)) := (by repeat (with_reducible first | exact BB_g0.out | exact blk_new _ | refine blk_new' _ (by simp only [size_alloc]) | refine blk_drewN ?_ _ | refine blk_drew ?_ | refine blk_alloc ?_ _ | refine blk_below ?_ HB18.out ))
  clear BB_g0 lt_g0 rd_g0
  have BB_g0 := Aside0.mk NB_g0
  have lt_g0 := blk_lt NB_g0
  have rd_g0 := blk_cell NB_g0
  clear NB_g0
  clear hb
  go_wp2_with fail
  refine Calls.mono (toByteS_r _ _ d _ (Kd.C_below HC_d.out (by repeat (with_reducible first | exact Below.refl _ _ | refine below_alloc ?_ _ | refine below_drew ?_ | refine pw_below_drewN ?_ _ | refine below_end ?_ HB18.out | refine below_end ?_ HB17.out | refine below_upd ?_ U16.out (fun b hlt hS => by rcases hS with hS | hS <;> first | (have := LO_G1_r_t_ch.out b hS; omega) | (have := LO_G1_r_t_hs.out b hS; omega)) | refine below_end ?_ HB15.out | refine below_upd ?_ U14.out (fun b hlt hS => by first | (have := LO_X1_d.out b hS; omega)) | refine below_upd ?_ U13.out (fun b hlt hS => by rcases hS with hS | hS <;> first | (have := LO_X0_t_ch.out b hS; omega) | (have := LO_X0_t_hs.out b hS; omega)) | refine below_end ?_ HB12.out | refine below_end ?_ HB11.out | refine below_end ?_ HB10.out | refine below_end ?_ HB9.out | refine below_end ?_ HB8.out | refine below_end ?_ HB7.out | refine below_end ?_ HB6.out | refine below_end ?_ HB5.out | refine below_end ?_ HB4.out | refine below_end ?_ HB3.out | refine below_end ?_ HB2.out | refine below_end ?_ HB1.out ))) (by omega)) ?_
  rintro e w19 ⟨Q1_d, q1_d, rfl, le_Q1_d, r_Q1_d, hb⟩
  have HR_Q1_d := Aside0.mk r_Q1_d
  have HK_Q1_d := Aside0.mk (Kd.R_reads' r_Q1_d).2.2
  have LO_Q1_d := Aside0.mk (Kd.R_base r_Q1_d)
  have HI_Q1_d := Aside0.mk (Kd.R_lt r_Q1_d)
  (try simp only [size_alloc, size_drew, size_drewN] at LO_Q1_d)
  clear r_Q1_d
  have HB19 := Aside0.mk hb
  have sz19 := hb.size
  (try simp only [size_alloc, size_drew, size_drewN] at sz19)
  have NB_t : w19.heap[w.heap.size]? = some (.cells #[.int .i64 t_wi, .int .i64 t_ro, .int .i64 t_y, .int .i64 t_x, .bool t_hi, .slice A_t_ch t_ch.length c_t_ch, .slice A_t_hs t_hs.length c_t_hs] 44 (0, 0)) := (by repeat (with_reducible first | exact BB_t.out | exact blk_new _ | refine blk_new' _ (by simp only [size_alloc]) | refine blk_drewN ?_ _ | refine blk_drew ?_ | refine blk_alloc ?_ _ | refine blk_below ?_ HB19.out ))
  clear BB_t lt_t rd_t
  have BB_t := Aside0.mk NB_t
  have lt_t := blk_lt NB_t
  have rd_t := blk_cell NB_t
  clear NB_t
  have NB_w0 : w19.heap[w4.heap.size]? = some (.cells #[.int .i64 r_co, .int .i64 r_t_wi, .int .i64 r_t_ro, .int .i64 r_t_y, .int .i64 r_t_x, .bool r_t_hi, .slice G0_r_t_ch r_t_ch.length g0_r_t_ch, .slice G0_r_t_hs r_t_hs.length g0_r_t_hs] 52 (0, 0)) := (by repeat (with_reducible first | exact BB_w0.out | exact blk_new _ | refine blk_new' _ (by simp only [size_alloc]) | refine blk_drewN ?_ _ | refine blk_drew ?_ | refine blk_alloc ?_ _ | refine blk_below ?_ HB19.out ))
  clear BB_w0 lt_w0 rd_w0
  have BB_w0 := Aside0.mk NB_w0
  have lt_w0 := blk_lt NB_w0
  have rd_w0 := blk_cell NB_w0
  clear NB_w0
  have NB_x0 : w19.heap[w5.heap.size]? = some (.cells #[.int .i64 t_wi, .int .i64 t_ro, .int .i64 t_y, .int .i64 t_x, .bool t_hi, .slice X0_t_ch t_ch.length x0_t_ch, .slice X0_t_hs t_hs.length x0_t_hs] 47 (0, 0)) := (by repeat (with_reducible first | exact BB_x0.out | exact blk_new _ | refine blk_new' _ (by simp only [size_alloc]) | refine blk_drewN ?_ _ | refine blk_drew ?_ | refine blk_alloc ?_ _ | refine blk_below ?_ HB19.out ))
  clear BB_x0 lt_x0 rd_x0
  have BB_x0 := Aside0.mk NB_x0
  have lt_x0 := blk_lt NB_x0
  have rd_x0 := blk_cell NB_x0
  clear NB_x0
  have NB_g0 : w19.heap[w7.heap.size]? = some (.cells #[.int .i64 r_co, .int .i64 r_t_wi, .int .i64 r_t_ro, .int .i64 r_t_y, .int .i64 r_t_x, .bool r_t_hi, .slice G1_r_t_ch r_t_ch.length g1_r_t_ch, .slice G1_r_t_hs r_t_hs.length g1_r_t_hs] 52 (0, 0)) := (by repeat (with_reducible first | exact BB_g0.out | exact blk_new _ | refine blk_new' _ (by simp only [size_alloc]) | refine blk_drewN ?_ _ | refine blk_drew ?_ | refine blk_alloc ?_ _ | refine blk_below ?_ HB19.out ))
  clear BB_g0 lt_g0 rd_g0
  have BB_g0 := Aside0.mk NB_g0
  have lt_g0 := blk_lt NB_g0
  have rd_g0 := blk_cell NB_g0
  clear NB_g0
  clear hb
  go_wp2_with fail
  refine Calls.mono (FeedTerm_c t_wi t_ro t_y t_x t_hi _ _ t_ch _ _ t_hs _ _ d _ (by repeat (with_reducible first | exact HK_Q0_t_ch.out | refine Kd.C_alloc ?_ _ | refine Kd.C_drewN ?_ _ | refine Kd.C_drew ?_ | refine Kd.C_below ?_ HB19.out )) (by repeat (with_reducible first | exact HK_Q0_t_hs.out | refine Kd.C_alloc ?_ _ | refine Kd.C_drewN ?_ _ | refine Kd.C_drew ?_ | refine Kd.C_below ?_ HB19.out )) (by repeat (with_reducible first | exact HK_Q1_d.out | refine Kd.C_alloc ?_ _ | refine Kd.C_drewN ?_ _ | refine Kd.C_drew ?_ )) le_Q0_t_ch le_Q0_t_hs le_Q1_d hbd.out) ?_
  rintro e w20 ⟨G2_r_t_ch, g2_r_t_ch, G2_r_t_hs, g2_r_t_hs, he, le_G2_r_t_ch, r_G2_r_t_ch, le_G2_r_t_hs, r_G2_r_t_hs, hb⟩
  rw [hval.out] at he
  (try dsimp only at he)
  subst he
  rw [hval.out] at le_G2_r_t_ch r_G2_r_t_ch
  (try dsimp only at le_G2_r_t_ch r_G2_r_t_ch)
  rw [hval.out] at le_G2_r_t_hs r_G2_r_t_hs
  (try dsimp only at le_G2_r_t_hs r_G2_r_t_hs)
  have HR_G2_r_t_ch := Aside0.mk r_G2_r_t_ch
  have HK_G2_r_t_ch := Aside0.mk (Kd.R_reads' r_G2_r_t_ch).2.2
  have LO_G2_r_t_ch := Aside0.mk (Kd.R_base r_G2_r_t_ch)
  have HI_G2_r_t_ch := Aside0.mk (Kd.R_lt r_G2_r_t_ch)
  (try simp only [size_alloc, size_drew, size_drewN] at LO_G2_r_t_ch)
  have HR_G2_r_t_hs := Aside0.mk r_G2_r_t_hs
  have HK_G2_r_t_hs := Aside0.mk (Kd.R_reads' r_G2_r_t_hs).2.2
  have LO_G2_r_t_hs := Aside0.mk (Kd.R_base r_G2_r_t_hs)
  have HI_G2_r_t_hs := Aside0.mk (Kd.R_lt r_G2_r_t_hs)
  (try simp only [size_alloc, size_drew, size_drewN] at LO_G2_r_t_hs)
  clear r_G2_r_t_ch r_G2_r_t_hs
  have HB20 := Aside0.mk hb
  have sz20 := hb.size
  (try simp only [size_alloc, size_drew, size_drewN] at sz20)
  have NB_t : w20.heap[w.heap.size]? = some (.cells #[.int .i64 t_wi, .int .i64 t_ro, .int .i64 t_y, .int .i64 t_x, .bool t_hi, .slice A_t_ch t_ch.length c_t_ch, .slice A_t_hs t_hs.length c_t_hs] 44 (0, 0)) := (by repeat (with_reducible first | exact BB_t.out | exact blk_new _ | refine blk_new' _ (by simp only [size_alloc]) | refine blk_drewN ?_ _ | refine blk_drew ?_ | refine blk_alloc ?_ _ | refine blk_below ?_ HB20.out ))
  clear BB_t lt_t rd_t
  have BB_t := Aside0.mk NB_t
  have lt_t := blk_lt NB_t
  have rd_t := blk_cell NB_t
  clear NB_t
  have NB_w0 : w20.heap[w4.heap.size]? = some (.cells #[.int .i64 r_co, .int .i64 r_t_wi, .int .i64 r_t_ro, .int .i64 r_t_y, .int .i64 r_t_x, .bool r_t_hi, .slice G0_r_t_ch r_t_ch.length g0_r_t_ch, .slice G0_r_t_hs r_t_hs.length g0_r_t_hs] 52 (0, 0)) := (by repeat (with_reducible first | exact BB_w0.out | exact blk_new _ | refine blk_new' _ (by simp only [size_alloc]) | refine blk_drewN ?_ _ | refine blk_drew ?_ | refine blk_alloc ?_ _ | refine blk_below ?_ HB20.out ))
  clear BB_w0 lt_w0 rd_w0
  have BB_w0 := Aside0.mk NB_w0
  have lt_w0 := blk_lt NB_w0
  have rd_w0 := blk_cell NB_w0
  clear NB_w0
  have NB_x0 : w20.heap[w5.heap.size]? = some (.cells #[.int .i64 t_wi, .int .i64 t_ro, .int .i64 t_y, .int .i64 t_x, .bool t_hi, .slice X0_t_ch t_ch.length x0_t_ch, .slice X0_t_hs t_hs.length x0_t_hs] 47 (0, 0)) := (by repeat (with_reducible first | exact BB_x0.out | exact blk_new _ | refine blk_new' _ (by simp only [size_alloc]) | refine blk_drewN ?_ _ | refine blk_drew ?_ | refine blk_alloc ?_ _ | refine blk_below ?_ HB20.out ))
  clear BB_x0 lt_x0 rd_x0
  have BB_x0 := Aside0.mk NB_x0
  have lt_x0 := blk_lt NB_x0
  have rd_x0 := blk_cell NB_x0
  clear NB_x0
  have NB_g0 : w20.heap[w7.heap.size]? = some (.cells #[.int .i64 r_co, .int .i64 r_t_wi, .int .i64 r_t_ro, .int .i64 r_t_y, .int .i64 r_t_x, .bool r_t_hi, .slice G1_r_t_ch r_t_ch.length g1_r_t_ch, .slice G1_r_t_hs r_t_hs.length g1_r_t_hs] 52 (0, 0)) := (by repeat (with_reducible first | exact BB_g0.out | exact blk_new _ | refine blk_new' _ (by simp only [size_alloc]) | refine blk_drewN ?_ _ | refine blk_drew ?_ | refine blk_alloc ?_ _ | refine blk_below ?_ HB20.out ))
  clear BB_g0 lt_g0 rd_g0
  have BB_g0 := Aside0.mk NB_g0
  have lt_g0 := blk_lt NB_g0
  have rd_g0 := blk_cell NB_g0
  clear NB_g0
  clear hb
  go_wp2_with fail
  refine Calls.mono (eqTermResult_c _ _ _ _ _ _ _ _ r_t_ch _ _ r_t_hs _ _ _ _ _ _ _ _ r_t_ch _ _ r_t_hs _ (by repeat (with_reducible first | exact HK_G2_r_t_ch.out | refine Kd.C_alloc ?_ _ | refine Kd.C_drewN ?_ _ | refine Kd.C_drew ?_ )) (by repeat (with_reducible first | exact HK_G2_r_t_hs.out | refine Kd.C_alloc ?_ _ | refine Kd.C_drewN ?_ _ | refine Kd.C_drew ?_ )) (by repeat (with_reducible first | exact HK_G0_r_t_ch.out | refine Kd.C_alloc ?_ _ | refine Kd.C_drewN ?_ _ | refine Kd.C_drew ?_ | refine Kd.C_below ?_ HB20.out | refine Kd.C_below ?_ HB19.out | refine Kd.C_below ?_ HB18.out | refine Kd.C_below ?_ HB17.out | refine C_updI g0_r_t_ch ?_ U16.out (fun b h1 hS => by rcases hS with hS | hS <;> first | exact AP_G0_r_t_ch_G1_r_t_ch.out b h1 hS | exact AP_G0_r_t_ch_G1_r_t_hs.out b h1 hS) | refine Kd.C_below ?_ HB15.out | refine C_updI g0_r_t_ch ?_ U14.out (fun b h1 hS => by first | exact AP_G0_r_t_ch_X1_d.out b h1 hS) | refine C_updI g0_r_t_ch ?_ U13.out (fun b h1 hS => by rcases hS with hS | hS <;> first | exact AP_G0_r_t_ch_X0_t_ch.out b h1 hS | exact AP_G0_r_t_ch_X0_t_hs.out b h1 hS) | refine Kd.C_below ?_ HB12.out | refine Kd.C_below ?_ HB11.out | refine Kd.C_below ?_ HB10.out | refine Kd.C_below ?_ HB9.out | refine Kd.C_below ?_ HB8.out | refine Kd.C_below ?_ HB7.out | refine Kd.C_below ?_ HB6.out | refine Kd.C_below ?_ HB5.out )) (by repeat (with_reducible first | exact HK_G0_r_t_hs.out | refine Kd.C_alloc ?_ _ | refine Kd.C_drewN ?_ _ | refine Kd.C_drew ?_ | refine Kd.C_below ?_ HB20.out | refine Kd.C_below ?_ HB19.out | refine Kd.C_below ?_ HB18.out | refine Kd.C_below ?_ HB17.out | refine C_updB g0_r_t_hs ?_ U16.out (fun b h1 hS => by rcases hS with hS | hS <;> first | exact AP_G0_r_t_hs_G1_r_t_ch.out b h1 hS | exact AP_G0_r_t_hs_G1_r_t_hs.out b h1 hS) | refine Kd.C_below ?_ HB15.out | refine C_updB g0_r_t_hs ?_ U14.out (fun b h1 hS => by first | exact AP_G0_r_t_hs_X1_d.out b h1 hS) | refine C_updB g0_r_t_hs ?_ U13.out (fun b h1 hS => by rcases hS with hS | hS <;> first | exact AP_G0_r_t_hs_X0_t_ch.out b h1 hS | exact AP_G0_r_t_hs_X0_t_hs.out b h1 hS) | refine Kd.C_below ?_ HB12.out | refine Kd.C_below ?_ HB11.out | refine Kd.C_below ?_ HB10.out | refine Kd.C_below ?_ HB9.out | refine Kd.C_below ?_ HB8.out | refine Kd.C_below ?_ HB7.out | refine Kd.C_below ?_ HB6.out | refine Kd.C_below ?_ HB5.out ))) ?_
  rintro e w21 ⟨rfl, hb⟩
  have HB21 := Aside0.mk hb
  have sz21 := hb.size
  (try simp only [size_alloc, size_drew, size_drewN] at sz21)
  have NB_t : w21.heap[w.heap.size]? = some (.cells #[.int .i64 t_wi, .int .i64 t_ro, .int .i64 t_y, .int .i64 t_x, .bool t_hi, .slice A_t_ch t_ch.length c_t_ch, .slice A_t_hs t_hs.length c_t_hs] 44 (0, 0)) := (by repeat (with_reducible first | exact BB_t.out | exact blk_new _ | refine blk_new' _ (by simp only [size_alloc]) | refine blk_drewN ?_ _ | refine blk_drew ?_ | refine blk_alloc ?_ _ | refine blk_below ?_ HB21.out ))
  clear BB_t lt_t rd_t
  have BB_t := Aside0.mk NB_t
  have lt_t := blk_lt NB_t
  have rd_t := blk_cell NB_t
  clear NB_t
  have NB_w0 : w21.heap[w4.heap.size]? = some (.cells #[.int .i64 r_co, .int .i64 r_t_wi, .int .i64 r_t_ro, .int .i64 r_t_y, .int .i64 r_t_x, .bool r_t_hi, .slice G0_r_t_ch r_t_ch.length g0_r_t_ch, .slice G0_r_t_hs r_t_hs.length g0_r_t_hs] 52 (0, 0)) := (by repeat (with_reducible first | exact BB_w0.out | exact blk_new _ | refine blk_new' _ (by simp only [size_alloc]) | refine blk_drewN ?_ _ | refine blk_drew ?_ | refine blk_alloc ?_ _ | refine blk_below ?_ HB21.out ))
  clear BB_w0 lt_w0 rd_w0
  have BB_w0 := Aside0.mk NB_w0
  have lt_w0 := blk_lt NB_w0
  have rd_w0 := blk_cell NB_w0
  clear NB_w0
  have NB_x0 : w21.heap[w5.heap.size]? = some (.cells #[.int .i64 t_wi, .int .i64 t_ro, .int .i64 t_y, .int .i64 t_x, .bool t_hi, .slice X0_t_ch t_ch.length x0_t_ch, .slice X0_t_hs t_hs.length x0_t_hs] 47 (0, 0)) := (by repeat (with_reducible first | exact BB_x0.out | exact blk_new _ | refine blk_new' _ (by simp only [size_alloc]) | refine blk_drewN ?_ _ | refine blk_drew ?_ | refine blk_alloc ?_ _ | refine blk_below ?_ HB21.out ))
  clear BB_x0 lt_x0 rd_x0
  have BB_x0 := Aside0.mk NB_x0
  have lt_x0 := blk_lt NB_x0
  have rd_x0 := blk_cell NB_x0
  clear NB_x0
  have NB_g0 : w21.heap[w7.heap.size]? = some (.cells #[.int .i64 r_co, .int .i64 r_t_wi, .int .i64 r_t_ro, .int .i64 r_t_y, .int .i64 r_t_x, .bool r_t_hi, .slice G1_r_t_ch r_t_ch.length g1_r_t_ch, .slice G1_r_t_hs r_t_hs.length g1_r_t_hs] 52 (0, 0)) := (by repeat (with_reducible first | exact BB_g0.out | exact blk_new _ | refine blk_new' _ (by simp only [size_alloc]) | refine blk_drewN ?_ _ | refine blk_drew ?_ | refine blk_alloc ?_ _ | refine blk_below ?_ HB21.out ))
  clear BB_g0 lt_g0 rd_g0
  have BB_g0 := Aside0.mk NB_g0
  have lt_g0 := blk_lt NB_g0
  have rd_g0 := blk_cell NB_g0
  clear NB_g0
  have NB_h0 : w21.heap[w20.heap.size]? = some (.cells #[.int .i64 r_co, .int .i64 r_t_wi, .int .i64 r_t_ro, .int .i64 r_t_y, .int .i64 r_t_x, .bool r_t_hi, .slice G2_r_t_ch r_t_ch.length g2_r_t_ch, .slice G2_r_t_hs r_t_hs.length g2_r_t_hs] 52 (0, 0)) := (by repeat (with_reducible first | exact blk_new _ | refine blk_new' _ (by simp only [size_alloc]) | refine blk_drewN ?_ _ | refine blk_drew ?_ | refine blk_alloc ?_ _ | refine blk_below ?_ HB21.out))
  have BB_h0 := Aside0.mk NB_h0
  have lt_h0 := blk_lt NB_h0
  have rd_h0 := blk_cell NB_h0
  clear NB_h0
  clear hb
  go_wp2_with fail
  refine Calls.mono (heldTermResult_c _ _ _ _ _ _ _ r_t_ch.length _ _ r_t_hs.length _ 1 _ (by omega) _ (by repeat (with_reducible first | exact HK_G1_r_t_ch.out | refine Kd.C_alloc ?_ _ | refine Kd.C_drewN ?_ _ | refine Kd.C_drew ?_ | refine Kd.C_below ?_ HB21.out | refine Kd.C_below ?_ HB20.out | refine Kd.C_below ?_ HB19.out | refine Kd.C_below ?_ HB18.out | refine Kd.C_below ?_ HB17.out )) (by repeat (with_reducible first | exact HK_G1_r_t_hs.out | refine Kd.C_alloc ?_ _ | refine Kd.C_drewN ?_ _ | refine Kd.C_drew ?_ | refine Kd.C_below ?_ HB21.out | refine Kd.C_below ?_ HB20.out | refine Kd.C_below ?_ HB19.out | refine Kd.C_below ?_ HB18.out | refine Kd.C_below ?_ HB17.out )) (by omega)) ?_
  rintro e w22 ⟨rfl, hb⟩
  have HB22 := Aside0.mk hb
  have sz22 := hb.size
  (try simp only [size_alloc, size_drew, size_drewN] at sz22)
  have NB_t : w22.heap[w.heap.size]? = some (.cells #[.int .i64 t_wi, .int .i64 t_ro, .int .i64 t_y, .int .i64 t_x, .bool t_hi, .slice A_t_ch t_ch.length c_t_ch, .slice A_t_hs t_hs.length c_t_hs] 44 (0, 0)) := (by repeat (with_reducible first | exact BB_t.out | exact blk_new _ | refine blk_new' _ (by simp only [size_alloc]) | refine blk_drewN ?_ _ | refine blk_drew ?_ | refine blk_alloc ?_ _ | refine blk_below ?_ HB22.out ))
  clear BB_t lt_t rd_t
  have BB_t := Aside0.mk NB_t
  have lt_t := blk_lt NB_t
  have rd_t := blk_cell NB_t
  clear NB_t
  have NB_w0 : w22.heap[w4.heap.size]? = some (.cells #[.int .i64 r_co, .int .i64 r_t_wi, .int .i64 r_t_ro, .int .i64 r_t_y, .int .i64 r_t_x, .bool r_t_hi, .slice G0_r_t_ch r_t_ch.length g0_r_t_ch, .slice G0_r_t_hs r_t_hs.length g0_r_t_hs] 52 (0, 0)) := (by repeat (with_reducible first | exact BB_w0.out | exact blk_new _ | refine blk_new' _ (by simp only [size_alloc]) | refine blk_drewN ?_ _ | refine blk_drew ?_ | refine blk_alloc ?_ _ | refine blk_below ?_ HB22.out ))
  clear BB_w0 lt_w0 rd_w0
  have BB_w0 := Aside0.mk NB_w0
  have lt_w0 := blk_lt NB_w0
  have rd_w0 := blk_cell NB_w0
  clear NB_w0
  have NB_x0 : w22.heap[w5.heap.size]? = some (.cells #[.int .i64 t_wi, .int .i64 t_ro, .int .i64 t_y, .int .i64 t_x, .bool t_hi, .slice X0_t_ch t_ch.length x0_t_ch, .slice X0_t_hs t_hs.length x0_t_hs] 47 (0, 0)) := (by repeat (with_reducible first | exact BB_x0.out | exact blk_new _ | refine blk_new' _ (by simp only [size_alloc]) | refine blk_drewN ?_ _ | refine blk_drew ?_ | refine blk_alloc ?_ _ | refine blk_below ?_ HB22.out ))
  clear BB_x0 lt_x0 rd_x0
  have BB_x0 := Aside0.mk NB_x0
  have lt_x0 := blk_lt NB_x0
  have rd_x0 := blk_cell NB_x0
  clear NB_x0
  have NB_g0 : w22.heap[w7.heap.size]? = some (.cells #[.int .i64 r_co, .int .i64 r_t_wi, .int .i64 r_t_ro, .int .i64 r_t_y, .int .i64 r_t_x, .bool r_t_hi, .slice G1_r_t_ch r_t_ch.length g1_r_t_ch, .slice G1_r_t_hs r_t_hs.length g1_r_t_hs] 52 (0, 0)) := (by repeat (with_reducible first | exact BB_g0.out | exact blk_new _ | refine blk_new' _ (by simp only [size_alloc]) | refine blk_drewN ?_ _ | refine blk_drew ?_ | refine blk_alloc ?_ _ | refine blk_below ?_ HB22.out ))
  clear BB_g0 lt_g0 rd_g0
  have BB_g0 := Aside0.mk NB_g0
  have lt_g0 := blk_lt NB_g0
  have rd_g0 := blk_cell NB_g0
  clear NB_g0
  have NB_h0 : w22.heap[w20.heap.size]? = some (.cells #[.int .i64 r_co, .int .i64 r_t_wi, .int .i64 r_t_ro, .int .i64 r_t_y, .int .i64 r_t_x, .bool r_t_hi, .slice G2_r_t_ch r_t_ch.length g2_r_t_ch, .slice G2_r_t_hs r_t_hs.length g2_r_t_hs] 52 (0, 0)) := (by repeat (with_reducible first | exact BB_h0.out | exact blk_new _ | refine blk_new' _ (by simp only [size_alloc]) | refine blk_drewN ?_ _ | refine blk_drew ?_ | refine blk_alloc ?_ _ | refine blk_below ?_ HB22.out ))
  clear BB_h0 lt_h0 rd_h0
  have BB_h0 := Aside0.mk NB_h0
  have lt_h0 := blk_lt NB_h0
  have rd_h0 := blk_cell NB_h0
  clear NB_h0
  clear hb
  go_wp2
  go_ret
  exact ⟨rfl, (by repeat (with_reducible first | exact Below.refl _ _ | refine below_alloc ?_ _ | refine below_drew ?_ | refine pw_below_drewN ?_ _ | refine below_end ?_ HB22.out | refine below_end ?_ HB21.out | refine below_end ?_ HB20.out | refine below_end ?_ HB19.out | refine below_end ?_ HB18.out | refine below_end ?_ HB17.out | refine below_upd ?_ U16.out (fun b hlt hS => by rcases hS with hS | hS <;> first | (have := LO_G1_r_t_ch.out b hS; omega) | (have := LO_G1_r_t_hs.out b hS; omega)) | refine below_end ?_ HB15.out | refine below_upd ?_ U14.out (fun b hlt hS => by first | (have := LO_X1_d.out b hS; omega)) | refine below_upd ?_ U13.out (fun b hlt hS => by rcases hS with hS | hS <;> first | (have := LO_X0_t_ch.out b hS; omega) | (have := LO_X0_t_hs.out b hS; omega)) | refine below_end ?_ HB12.out | refine below_end ?_ HB11.out | refine below_end ?_ HB10.out | refine below_end ?_ HB9.out | refine below_end ?_ HB8.out | refine below_end ?_ HB7.out | refine below_end ?_ HB6.out | refine below_end ?_ HB5.out | refine below_end ?_ HB4.out | refine below_end ?_ HB3.out | refine below_end ?_ HB2.out | refine below_end ?_ HB1.out ))⟩
end Go.Proofs.Ytpfponhaofdbaaa.M
