import Derived.Test.YtpfponhaofdbaaaL2
import Derived.Test.YtpfponhaofdbaaaK2
import Derived.Test.YtpfponhaofdbaaaYT
import Derived.Test.YtpfponhaofdbaaaX
set_option linter.unusedVariables false
set_option linter.unusedSimpArgs false
namespace Go.Proofs.Ytpfponhaofdbaaa.M
open Go.RowKit Go.Proofs.YtpfponhaofdbaaaW.PrintWords
set_option maxRecDepth 100000 in
set_option maxHeartbeats 1000000 in
theorem law_TermText_c (t_wi : Int) (t_ro : Int) (t_y : Int) (t_x : Int) (t_hi : Bool) (A_t_ch : Option Addr) (c_t_ch : Nat) (t_ch : List Int) (A_t_hs : Option Addr) (c_t_hs : Nat) (t_hs : List Bool) (w : World) (hr_t_ch : Kd.C (Kd.int .i64) w A_t_ch t_ch.length t_ch) (hr_t_hs : Kd.C Kd.bool w A_t_hs t_hs.length t_hs)  :
    Calls Try.prog 9 #[.agg #[.int .i64 t_wi, .int .i64 t_ro, .int .i64 t_y, .int .i64 t_x, .bool t_hi, .slice A_t_ch t_ch.length c_t_ch, .slice A_t_hs t_hs.length c_t_hs]] w fun e w' => e = .returned (.bool true) ∧ Below w.heap.size w w' := by
  have HC_t_ch := Aside0.mk hr_t_ch
  have hm_t_ch := Kd.C_max hr_t_ch
  have HC_t_hs := Aside0.mk hr_t_hs
  have hm_t_hs := Kd.C_max hr_t_hs
  clear hr_t_ch hr_t_hs
  by_cases hz0 : szfs [t_ch.length, t_hs.length] 1048576 < 0
  · go_enter Try.func9, Try.ntmps9
    go_wp2_with fail
    refine Calls.mono (szTerm_c _ _ _ _ _ _ t_ch.length _ _ t_hs.length _ 1048576 _ hm_t_ch hm_t_hs (by omega) (by omega)) ?_
    rintro e w1 ⟨rfl, hb⟩
    have HB1 := Aside0.mk hb
    have sz1 := hb.size
    (try simp only [size_alloc, size_drew, size_drewN] at sz1)
    have NB_t : w1.heap[w.heap.size]? = some (.cells #[.int .i64 t_wi, .int .i64 t_ro, .int .i64 t_y, .int .i64 t_x, .bool t_hi, .slice A_t_ch t_ch.length c_t_ch, .slice A_t_hs t_hs.length c_t_hs] 44 (0, 0)) := (by repeat (with_reducible first | exact blk_new _ | refine blk_new' _ (by simp only [size_alloc]) | refine blk_drewN ?_ _ | refine blk_drew ?_ | refine blk_alloc ?_ _ | refine blk_below ?_ HB1.out))
    have BB_t := Aside0.mk NB_t
    have lt_t := blk_lt NB_t
    have rd_t := blk_cell NB_t
    clear NB_t
    clear hb
    go_wp2
    go_ret
    exact ⟨rfl, (by repeat (with_reducible first | exact Below.refl _ _ | refine below_alloc ?_ _ | refine below_drew ?_ | refine pw_below_drewN ?_ _ | refine below_end ?_ HB1.out ))⟩
  have hl0 := szfs_nn _ _ (by omega) hz0
  (try simp only [List.sum_cons, List.sum_nil] at hl0)
  have hle0 := szfs_le [t_ch.length, t_hs.length] 1048576 (by omega)
  obtain ⟨r_co, r_tx, hval⟩ : ∃ r_co r_tx, Aside0 (termTextP t_wi t_ro t_y t_x t_hi t_ch t_hs = (r_co, r_tx)) := ⟨_, _, ⟨rfl⟩⟩
  go_enter Try.func9, Try.ntmps9
  go_wp2_with fail
  refine Calls.mono (szTerm_c _ _ _ _ _ _ t_ch.length _ _ t_hs.length _ 1048576 _ hm_t_ch hm_t_hs (by omega) (by omega)) ?_
  rintro e w1 ⟨rfl, hb⟩
  have HB1 := Aside0.mk hb
  have sz1 := hb.size
  (try simp only [size_alloc, size_drew, size_drewN] at sz1)
  have NB_t : w1.heap[w.heap.size]? = some (.cells #[.int .i64 t_wi, .int .i64 t_ro, .int .i64 t_y, .int .i64 t_x, .bool t_hi, .slice A_t_ch t_ch.length c_t_ch, .slice A_t_hs t_hs.length c_t_hs] 44 (0, 0)) := (by repeat (with_reducible first | exact blk_new _ | refine blk_new' _ (by simp only [size_alloc]) | refine blk_drewN ?_ _ | refine blk_drew ?_ | refine blk_alloc ?_ _ | refine blk_below ?_ HB1.out))
  have BB_t := Aside0.mk NB_t
  have lt_t := blk_lt NB_t
  have rd_t := blk_cell NB_t
  clear NB_t
  clear hb
  have hveq : eqv (r_co, r_tx) (r_co, r_tx) = true := eqv_self _
  go_wp2_with fail
  refine Calls.mono (toTerm_c _ _ _ _ _ _ _ t_ch _ _ t_hs _ (by repeat (with_reducible first | exact HC_t_ch.out | refine Kd.C_alloc ?_ _ | refine Kd.C_drewN ?_ _ | refine Kd.C_drew ?_ | refine Kd.C_below ?_ HB1.out )) (by repeat (with_reducible first | exact HC_t_hs.out | refine Kd.C_alloc ?_ _ | refine Kd.C_drewN ?_ _ | refine Kd.C_drew ?_ | refine Kd.C_below ?_ HB1.out )) (by omega) (by omega)) ?_
  rintro e w2 ⟨P0_t_ch, p0_t_ch, P0_t_hs, p0_t_hs, rfl, le_P0_t_ch, r_P0_t_ch, le_P0_t_hs, r_P0_t_hs, hb⟩
  have HR_P0_t_ch := Aside0.mk r_P0_t_ch
  have HK_P0_t_ch := Aside0.mk (Kd.R_reads' r_P0_t_ch).2.2
  have LO_P0_t_ch := Aside0.mk (Kd.R_base r_P0_t_ch)
  have HI_P0_t_ch := Aside0.mk (Kd.R_lt r_P0_t_ch)
  (try simp only [size_alloc, size_drew, size_drewN] at LO_P0_t_ch)
  have HR_P0_t_hs := Aside0.mk r_P0_t_hs
  have HK_P0_t_hs := Aside0.mk (Kd.R_reads' r_P0_t_hs).2.2
  have LO_P0_t_hs := Aside0.mk (Kd.R_base r_P0_t_hs)
  have HI_P0_t_hs := Aside0.mk (Kd.R_lt r_P0_t_hs)
  (try simp only [size_alloc, size_drew, size_drewN] at LO_P0_t_hs)
  clear r_P0_t_ch r_P0_t_hs
  have HB2 := Aside0.mk hb
  have sz2 := hb.size
  (try simp only [size_alloc, size_drew, size_drewN] at sz2)
  have NB_t : w2.heap[w.heap.size]? = some (.cells #[.int .i64 t_wi, .int .i64 t_ro, .int .i64 t_y, .int .i64 t_x, .bool t_hi, .slice A_t_ch t_ch.length c_t_ch, .slice A_t_hs t_hs.length c_t_hs] 44 (0, 0)) := (by repeat (with_reducible first | exact BB_t.out | exact blk_new _ | refine blk_new' _ (by simp only [size_alloc]) | refine blk_drewN ?_ _ | refine blk_drew ?_ | refine blk_alloc ?_ _ | refine blk_below ?_ HB2.out ))
  clear BB_t lt_t rd_t
  have BB_t := Aside0.mk NB_t
  have lt_t := blk_lt NB_t
  have rd_t := blk_cell NB_t
  clear NB_t
  clear hb
  go_wp2_with fail
  refine Calls.mono (specTermText_c t_wi t_ro t_y t_x t_hi _ _ t_ch _ _ t_hs _ (by repeat (with_reducible first | exact HK_P0_t_ch.out | refine Kd.C_alloc ?_ _ | refine Kd.C_drewN ?_ _ | refine Kd.C_drew ?_ )) (by repeat (with_reducible first | exact HK_P0_t_hs.out | refine Kd.C_alloc ?_ _ | refine Kd.C_drewN ?_ _ | refine Kd.C_drew ?_ )) le_P0_t_ch le_P0_t_hs ) ?_
  rintro e w3 ⟨he, hb⟩
  rw [hval.out] at he
  (try dsimp only at he)
  subst he
  have HB3 := Aside0.mk hb
  have sz3 := hb.size
  (try simp only [size_alloc, size_drew, size_drewN] at sz3)
  have NB_t : w3.heap[w.heap.size]? = some (.cells #[.int .i64 t_wi, .int .i64 t_ro, .int .i64 t_y, .int .i64 t_x, .bool t_hi, .slice A_t_ch t_ch.length c_t_ch, .slice A_t_hs t_hs.length c_t_hs] 44 (0, 0)) := (by repeat (with_reducible first | exact BB_t.out | exact blk_new _ | refine blk_new' _ (by simp only [size_alloc]) | refine blk_drewN ?_ _ | refine blk_drew ?_ | refine blk_alloc ?_ _ | refine blk_below ?_ HB3.out ))
  clear BB_t lt_t rd_t
  have BB_t := Aside0.mk NB_t
  have lt_t := blk_lt NB_t
  have rd_t := blk_cell NB_t
  clear NB_t
  clear hb
  go_wp2_with fail
  refine Calls.mono (toTerm_c _ _ _ _ _ _ _ t_ch _ _ t_hs _ (by repeat (with_reducible first | exact HC_t_ch.out | refine Kd.C_alloc ?_ _ | refine Kd.C_drewN ?_ _ | refine Kd.C_drew ?_ | refine Kd.C_below ?_ HB3.out | refine Kd.C_below ?_ HB2.out | refine Kd.C_below ?_ HB1.out )) (by repeat (with_reducible first | exact HC_t_hs.out | refine Kd.C_alloc ?_ _ | refine Kd.C_drewN ?_ _ | refine Kd.C_drew ?_ | refine Kd.C_below ?_ HB3.out | refine Kd.C_below ?_ HB2.out | refine Kd.C_below ?_ HB1.out )) (by omega) (by omega)) ?_
  rintro e w4 ⟨X0_t_ch, x0_t_ch, X0_t_hs, x0_t_hs, rfl, le_X0_t_ch, r_X0_t_ch, le_X0_t_hs, r_X0_t_hs, hb⟩
  have HR_X0_t_ch := Aside0.mk r_X0_t_ch
  have HK_X0_t_ch := Aside0.mk (Kd.R_reads' r_X0_t_ch).2.2
  have LO_X0_t_ch := Aside0.mk (Kd.R_base r_X0_t_ch)
  have HI_X0_t_ch := Aside0.mk (Kd.R_lt r_X0_t_ch)
  (try simp only [size_alloc, size_drew, size_drewN] at LO_X0_t_ch)
  have HR_X0_t_hs := Aside0.mk r_X0_t_hs
  have HK_X0_t_hs := Aside0.mk (Kd.R_reads' r_X0_t_hs).2.2
  have LO_X0_t_hs := Aside0.mk (Kd.R_base r_X0_t_hs)
  have HI_X0_t_hs := Aside0.mk (Kd.R_lt r_X0_t_hs)
  (try simp only [size_alloc, size_drew, size_drewN] at LO_X0_t_hs)
  have AP_X0_t_ch_X0_t_hs := Aside0.mk (rows_apart r_X0_t_ch r_X0_t_hs (by decide))
  obtain ⟨bs_X0, rb_t_ch, rb_t_hs⟩ : ∃ b, Kd.R (Kd.int .i64) 2 w4 b (fun _ => True) (Value.slice X0_t_ch t_ch.length x0_t_ch) t_ch ∧ Kd.R Kd.bool 4 w4 b (fun _ => True) (Value.slice X0_t_hs t_hs.length x0_t_hs) t_hs := ⟨_, r_X0_t_ch, r_X0_t_hs⟩
  clear HR_X0_t_ch
  have HR_X0_t_ch := Aside0.mk rb_t_ch
  clear rb_t_ch
  clear HR_X0_t_hs
  have HR_X0_t_hs := Aside0.mk rb_t_hs
  clear rb_t_hs
  clear r_X0_t_ch r_X0_t_hs
  have HB4 := Aside0.mk hb
  have sz4 := hb.size
  (try simp only [size_alloc, size_drew, size_drewN] at sz4)
  have NB_t : w4.heap[w.heap.size]? = some (.cells #[.int .i64 t_wi, .int .i64 t_ro, .int .i64 t_y, .int .i64 t_x, .bool t_hi, .slice A_t_ch t_ch.length c_t_ch, .slice A_t_hs t_hs.length c_t_hs] 44 (0, 0)) := (by repeat (with_reducible first | exact BB_t.out | exact blk_new _ | refine blk_new' _ (by simp only [size_alloc]) | refine blk_drewN ?_ _ | refine blk_drew ?_ | refine blk_alloc ?_ _ | refine blk_below ?_ HB4.out ))
  clear BB_t lt_t rd_t
  have BB_t := Aside0.mk NB_t
  have lt_t := blk_lt NB_t
  have rd_t := blk_cell NB_t
  clear NB_t
  have NB_w0 : w4.heap[w3.heap.size]? = some (.cells #[.int .i64 r_co, .string r_tx] 23 (0, 0)) := (by repeat (with_reducible first | exact blk_new _ | refine blk_new' _ (by simp only [size_alloc]) | refine blk_drewN ?_ _ | refine blk_drew ?_ | refine blk_alloc ?_ _ | refine blk_below ?_ HB4.out))
  have BB_w0 := Aside0.mk NB_w0
  have lt_w0 := blk_lt NB_w0
  have rd_w0 := blk_cell NB_w0
  clear NB_w0
  clear hb
  go_wp2_with fail
  refine Calls.mono (TermText_c t_wi t_ro t_y t_x t_hi _ _ t_ch _ _ t_hs _ (by repeat (with_reducible first | exact HK_X0_t_ch.out | refine Kd.C_alloc ?_ _ | refine Kd.C_drewN ?_ _ | refine Kd.C_drew ?_ )) (by repeat (with_reducible first | exact HK_X0_t_hs.out | refine Kd.C_alloc ?_ _ | refine Kd.C_drewN ?_ _ | refine Kd.C_drew ?_ )) le_X0_t_ch le_X0_t_hs ) ?_
  rintro e w5 ⟨he, hb⟩
  rw [hval.out] at he
  (try dsimp only at he)
  subst he
  have HB5 := Aside0.mk hb
  have sz5 := hb.size
  (try simp only [size_alloc, size_drew, size_drewN] at sz5)
  have NB_t : w5.heap[w.heap.size]? = some (.cells #[.int .i64 t_wi, .int .i64 t_ro, .int .i64 t_y, .int .i64 t_x, .bool t_hi, .slice A_t_ch t_ch.length c_t_ch, .slice A_t_hs t_hs.length c_t_hs] 44 (0, 0)) := (by repeat (with_reducible first | exact BB_t.out | exact blk_new _ | refine blk_new' _ (by simp only [size_alloc]) | refine blk_drewN ?_ _ | refine blk_drew ?_ | refine blk_alloc ?_ _ | refine blk_below ?_ HB5.out ))
  clear BB_t lt_t rd_t
  have BB_t := Aside0.mk NB_t
  have lt_t := blk_lt NB_t
  have rd_t := blk_cell NB_t
  clear NB_t
  have NB_w0 : w5.heap[w3.heap.size]? = some (.cells #[.int .i64 r_co, .string r_tx] 23 (0, 0)) := (by repeat (with_reducible first | exact BB_w0.out | exact blk_new _ | refine blk_new' _ (by simp only [size_alloc]) | refine blk_drewN ?_ _ | refine blk_drew ?_ | refine blk_alloc ?_ _ | refine blk_below ?_ HB5.out ))
  clear BB_w0 lt_w0 rd_w0
  have BB_w0 := Aside0.mk NB_w0
  have lt_w0 := blk_lt NB_w0
  have rd_w0 := blk_cell NB_w0
  clear NB_w0
  have NB_x0 : w5.heap[w4.heap.size]? = some (.cells #[.int .i64 t_wi, .int .i64 t_ro, .int .i64 t_y, .int .i64 t_x, .bool t_hi, .slice X0_t_ch t_ch.length x0_t_ch, .slice X0_t_hs t_hs.length x0_t_hs] 47 (0, 0)) := (by repeat (with_reducible first | exact blk_new _ | refine blk_new' _ (by simp only [size_alloc]) | refine blk_drewN ?_ _ | refine blk_drew ?_ | refine blk_alloc ?_ _ | refine blk_below ?_ HB5.out))
  have BB_x0 := Aside0.mk NB_x0
  have lt_x0 := blk_lt NB_x0
  have rd_x0 := blk_cell NB_x0
  clear NB_x0
  clear hb
  go_wp2_with fail
  refine Calls.mono (eqTextResult_c _ _ _ _ _  ) ?_
  rintro e w6 ⟨rfl, hb⟩
  have HB6 := Aside0.mk hb
  have sz6 := hb.size
  (try simp only [size_alloc, size_drew, size_drewN] at sz6)
  have NB_t : w6.heap[w.heap.size]? = some (.cells #[.int .i64 t_wi, .int .i64 t_ro, .int .i64 t_y, .int .i64 t_x, .bool t_hi, .slice A_t_ch t_ch.length c_t_ch, .slice A_t_hs t_hs.length c_t_hs] 44 (0, 0)) := (by repeat (with_reducible first | exact BB_t.out | exact blk_new _ | refine blk_new' _ (by simp only [size_alloc]) | refine blk_drewN ?_ _ | refine blk_drew ?_ | refine blk_alloc ?_ _ | refine blk_below ?_ HB6.out ))
  clear BB_t lt_t rd_t
  have BB_t := Aside0.mk NB_t
  have lt_t := blk_lt NB_t
  have rd_t := blk_cell NB_t
  clear NB_t
  have NB_w0 : w6.heap[w3.heap.size]? = some (.cells #[.int .i64 r_co, .string r_tx] 23 (0, 0)) := (by repeat (with_reducible first | exact BB_w0.out | exact blk_new _ | refine blk_new' _ (by simp only [size_alloc]) | refine blk_drewN ?_ _ | refine blk_drew ?_ | refine blk_alloc ?_ _ | refine blk_below ?_ HB6.out ))
  clear BB_w0 lt_w0 rd_w0
  have BB_w0 := Aside0.mk NB_w0
  have lt_w0 := blk_lt NB_w0
  have rd_w0 := blk_cell NB_w0
  clear NB_w0
  have NB_x0 : w6.heap[w4.heap.size]? = some (.cells #[.int .i64 t_wi, .int .i64 t_ro, .int .i64 t_y, .int .i64 t_x, .bool t_hi, .slice X0_t_ch t_ch.length x0_t_ch, .slice X0_t_hs t_hs.length x0_t_hs] 47 (0, 0)) := (by repeat (with_reducible first | exact BB_x0.out | exact blk_new _ | refine blk_new' _ (by simp only [size_alloc]) | refine blk_drewN ?_ _ | refine blk_drew ?_ | refine blk_alloc ?_ _ | refine blk_below ?_ HB6.out ))
  clear BB_x0 lt_x0 rd_x0
  have BB_x0 := Aside0.mk NB_x0
  have lt_x0 := blk_lt NB_x0
  have rd_x0 := blk_cell NB_x0
  clear NB_x0
  have NB_g0 : w6.heap[w5.heap.size]? = some (.cells #[.int .i64 r_co, .string r_tx] 23 (0, 0)) := (by repeat (with_reducible first | exact blk_new _ | refine blk_new' _ (by simp only [size_alloc]) | refine blk_drewN ?_ _ | refine blk_drew ?_ | refine blk_alloc ?_ _ | refine blk_below ?_ HB6.out))
  have BB_g0 := Aside0.mk NB_g0
  have lt_g0 := blk_lt NB_g0
  have rd_g0 := blk_cell NB_g0
  clear NB_g0
  clear hb
  go_wp2_with fail
  have hae0 : eqv (t_wi, t_ro, t_y, t_x, t_hi, t_ch, t_hs) (t_wi, t_ro, t_y, t_x, t_hi, t_ch, t_hs) = true := eqv_self _
  go_region_held3 (fun W : World => (∀ i, W.cell? ⟨w.heap.size, i, none⟩ = (#[.int .i64 t_wi, .int .i64 t_ro, .int .i64 t_y, .int .i64 t_x, .bool t_hi, .slice A_t_ch t_ch.length c_t_ch, .slice A_t_hs t_hs.length c_t_hs] : Array Value)[i]?) ∧ (∀ i, W.cell? ⟨w4.heap.size, i, none⟩ = (#[.int .i64 t_wi, .int .i64 t_ro, .int .i64 t_y, .int .i64 t_x, .bool t_hi, .slice X0_t_ch t_ch.length x0_t_ch, .slice X0_t_hs t_hs.length x0_t_hs] : Array Value)[i]?)) (go_keep)
    (first
      | (go_at_call 29; refine Calls.mono (toTerm_c _ _ _ _ _ _ _ t_ch _ _ t_hs _ (by repeat (with_reducible first | exact HC_t_ch.out | refine Kd.C_alloc ?_ _ | refine Kd.C_drewN ?_ _ | refine Kd.C_drew ?_ | refine Kd.C_below ?_ HB6.out | refine Kd.C_below ?_ HB5.out | refine Kd.C_below ?_ HB4.out | refine Kd.C_below ?_ HB3.out | refine Kd.C_below ?_ HB2.out | refine Kd.C_below ?_ HB1.out )) (by repeat (with_reducible first | exact HC_t_hs.out | refine Kd.C_alloc ?_ _ | refine Kd.C_drewN ?_ _ | refine Kd.C_drew ?_ | refine Kd.C_below ?_ HB6.out | refine Kd.C_below ?_ HB5.out | refine Kd.C_below ?_ HB4.out | refine Kd.C_below ?_ HB3.out | refine Kd.C_below ?_ HB2.out | refine Kd.C_below ?_ HB1.out )) (by omega) (by omega)) ?_; rintro e w7 ⟨Y0_t_ch, y0_t_ch, Y0_t_hs, y0_t_hs, rfl, le_Y0_t_ch, r_Y0_t_ch, le_Y0_t_hs, r_Y0_t_hs, hb⟩; have HR_Y0_t_ch := Aside0.mk r_Y0_t_ch; have HK_Y0_t_ch := Aside0.mk (Kd.R_reads' r_Y0_t_ch).2.2; have LO_Y0_t_ch := Aside0.mk (Kd.R_base r_Y0_t_ch); have HI_Y0_t_ch := Aside0.mk (Kd.R_lt r_Y0_t_ch); (try simp only [size_alloc, size_drew, size_drewN] at LO_Y0_t_ch); have HR_Y0_t_hs := Aside0.mk r_Y0_t_hs; have HK_Y0_t_hs := Aside0.mk (Kd.R_reads' r_Y0_t_hs).2.2; have LO_Y0_t_hs := Aside0.mk (Kd.R_base r_Y0_t_hs); have HI_Y0_t_hs := Aside0.mk (Kd.R_lt r_Y0_t_hs); (try simp only [size_alloc, size_drew, size_drewN] at LO_Y0_t_hs); clear r_Y0_t_ch r_Y0_t_hs; have HB7 := Aside0.mk hb; have sz7 := hb.size; (try simp only [size_alloc, size_drew, size_drewN] at sz7); have NB_t : w7.heap[w.heap.size]? = some (.cells #[.int .i64 t_wi, .int .i64 t_ro, .int .i64 t_y, .int .i64 t_x, .bool t_hi, .slice A_t_ch t_ch.length c_t_ch, .slice A_t_hs t_hs.length c_t_hs] 44 (0, 0)) := (by repeat (with_reducible first | exact BB_t.out | exact blk_new _ | refine blk_new' _ (by simp only [size_alloc]) | refine blk_drewN ?_ _ | refine blk_drew ?_ | refine blk_alloc ?_ _ | refine blk_below ?_ HB7.out )); clear BB_t lt_t rd_t; have BB_t := Aside0.mk NB_t; have lt_t := blk_lt NB_t; have rd_t := blk_cell NB_t; clear NB_t; have NB_w0 : w7.heap[w3.heap.size]? = some (.cells #[.int .i64 r_co, .string r_tx] 23 (0, 0)) := (by repeat (with_reducible first | exact BB_w0.out | exact blk_new _ | refine blk_new' _ (by simp only [size_alloc]) | refine blk_drewN ?_ _ | refine blk_drew ?_ | refine blk_alloc ?_ _ | refine blk_below ?_ HB7.out )); clear BB_w0 lt_w0 rd_w0; have BB_w0 := Aside0.mk NB_w0; have lt_w0 := blk_lt NB_w0; have rd_w0 := blk_cell NB_w0; clear NB_w0; have NB_x0 : w7.heap[w4.heap.size]? = some (.cells #[.int .i64 t_wi, .int .i64 t_ro, .int .i64 t_y, .int .i64 t_x, .bool t_hi, .slice X0_t_ch t_ch.length x0_t_ch, .slice X0_t_hs t_hs.length x0_t_hs] 47 (0, 0)) := (by repeat (with_reducible first | exact BB_x0.out | exact blk_new _ | refine blk_new' _ (by simp only [size_alloc]) | refine blk_drewN ?_ _ | refine blk_drew ?_ | refine blk_alloc ?_ _ | refine blk_below ?_ HB7.out )); clear BB_x0 lt_x0 rd_x0; have BB_x0 := Aside0.mk NB_x0; have lt_x0 := blk_lt NB_x0; have rd_x0 := blk_cell NB_x0; clear NB_x0; have NB_g0 : w7.heap[w5.heap.size]? = some (.cells #[.int .i64 r_co, .string r_tx] 23 (0, 0)) := (by repeat (with_reducible first | exact BB_g0.out | exact blk_new _ | refine blk_new' _ (by simp only [size_alloc]) | refine blk_drewN ?_ _ | refine blk_drew ?_ | refine blk_alloc ?_ _ | refine blk_below ?_ HB7.out )); clear BB_g0 lt_g0 rd_g0; have BB_g0 := Aside0.mk NB_g0; have lt_g0 := blk_lt NB_g0; have rd_g0 := blk_cell NB_g0; clear NB_g0; clear hb)
      | (go_at_call 31; refine Calls.mono (eqTerm_c _ _ _ _ _ _ _ t_ch _ _ t_hs _ _ _ _ _ _ _ t_ch _ _ t_hs _ (by repeat (with_reducible first | exact HK_X0_t_ch.out | refine Kd.C_alloc ?_ _ | refine Kd.C_drewN ?_ _ | refine Kd.C_drew ?_ | refine Kd.C_below ?_ HB7.out | refine Kd.C_below ?_ HB6.out | refine Kd.C_below ?_ HB5.out )) (by repeat (with_reducible first | exact HK_X0_t_hs.out | refine Kd.C_alloc ?_ _ | refine Kd.C_drewN ?_ _ | refine Kd.C_drew ?_ | refine Kd.C_below ?_ HB7.out | refine Kd.C_below ?_ HB6.out | refine Kd.C_below ?_ HB5.out )) (by repeat (with_reducible first | exact HK_Y0_t_ch.out | refine Kd.C_alloc ?_ _ | refine Kd.C_drewN ?_ _ | refine Kd.C_drew ?_ )) (by repeat (with_reducible first | exact HK_Y0_t_hs.out | refine Kd.C_alloc ?_ _ | refine Kd.C_drewN ?_ _ | refine Kd.C_drew ?_ ))) ?_; rintro e w8 ⟨rfl, hb⟩; have HB8 := Aside0.mk hb; have sz8 := hb.size; (try simp only [size_alloc, size_drew, size_drewN] at sz8); have NB_t : w8.heap[w.heap.size]? = some (.cells #[.int .i64 t_wi, .int .i64 t_ro, .int .i64 t_y, .int .i64 t_x, .bool t_hi, .slice A_t_ch t_ch.length c_t_ch, .slice A_t_hs t_hs.length c_t_hs] 44 (0, 0)) := (by repeat (with_reducible first | exact BB_t.out | exact blk_new _ | refine blk_new' _ (by simp only [size_alloc]) | refine blk_drewN ?_ _ | refine blk_drew ?_ | refine blk_alloc ?_ _ | refine blk_below ?_ HB8.out )); clear BB_t lt_t rd_t; have BB_t := Aside0.mk NB_t; have lt_t := blk_lt NB_t; have rd_t := blk_cell NB_t; clear NB_t; have NB_w0 : w8.heap[w3.heap.size]? = some (.cells #[.int .i64 r_co, .string r_tx] 23 (0, 0)) := (by repeat (with_reducible first | exact BB_w0.out | exact blk_new _ | refine blk_new' _ (by simp only [size_alloc]) | refine blk_drewN ?_ _ | refine blk_drew ?_ | refine blk_alloc ?_ _ | refine blk_below ?_ HB8.out )); clear BB_w0 lt_w0 rd_w0; have BB_w0 := Aside0.mk NB_w0; have lt_w0 := blk_lt NB_w0; have rd_w0 := blk_cell NB_w0; clear NB_w0; have NB_x0 : w8.heap[w4.heap.size]? = some (.cells #[.int .i64 t_wi, .int .i64 t_ro, .int .i64 t_y, .int .i64 t_x, .bool t_hi, .slice X0_t_ch t_ch.length x0_t_ch, .slice X0_t_hs t_hs.length x0_t_hs] 47 (0, 0)) := (by repeat (with_reducible first | exact BB_x0.out | exact blk_new _ | refine blk_new' _ (by simp only [size_alloc]) | refine blk_drewN ?_ _ | refine blk_drew ?_ | refine blk_alloc ?_ _ | refine blk_below ?_ HB8.out )); clear BB_x0 lt_x0 rd_x0; have BB_x0 := Aside0.mk NB_x0; have lt_x0 := blk_lt NB_x0; have rd_x0 := blk_cell NB_x0; clear NB_x0; have NB_g0 : w8.heap[w5.heap.size]? = some (.cells #[.int .i64 r_co, .string r_tx] 23 (0, 0)) := (by repeat (with_reducible first | exact BB_g0.out | exact blk_new _ | refine blk_new' _ (by simp only [size_alloc]) | refine blk_drewN ?_ _ | refine blk_drew ?_ | refine blk_alloc ?_ _ | refine blk_below ?_ HB8.out )); clear BB_g0 lt_g0 rd_g0; have BB_g0 := Aside0.mk NB_g0; have lt_g0 := blk_lt NB_g0; have rd_g0 := blk_cell NB_g0; clear NB_g0; clear hb))
  go_wp2
  go_ret
  exact ⟨rfl, (by repeat (with_reducible first | exact Below.refl _ _ | refine below_alloc ?_ _ | refine below_drew ?_ | refine pw_below_drewN ?_ _ | refine below_end ?_ HB8.out | refine below_end ?_ HB7.out | refine below_end ?_ HB6.out | refine below_end ?_ HB5.out | refine below_end ?_ HB4.out | refine below_end ?_ HB3.out | refine below_end ?_ HB2.out | refine below_end ?_ HB1.out ))⟩
end Go.Proofs.Ytpfponhaofdbaaa.M
