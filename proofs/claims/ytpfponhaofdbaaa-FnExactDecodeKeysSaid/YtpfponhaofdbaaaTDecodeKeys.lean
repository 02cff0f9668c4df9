import Derived.Test.YtpfponhaofdbaaaL2
import Derived.Test.YtpfponhaofdbaaaK2
import Derived.Test.YtpfponhaofdbaaaQ9
import Derived.Test.YtpfponhaofdbaaaKM
set_option linter.unusedVariables false
set_option linter.unusedSimpArgs false
namespace Go.Proofs.Ytpfponhaofdbaaa.M
open Go.RowKit Go.Proofs.YtpfponhaofdbaaaW.PrintWords
theorem u8_bd {n : Int} (h : (Lit.int .u8 n).wf = true) : 0 ≤ n ∧ n ≤ 255 := by
  simp only [Lit.wf, Bool.and_eq_true, decide_eq_true_eq] at h
  exact h
set_option maxRecDepth 100000 in
set_option maxHeartbeats 1000000 in
theorem law_DecodeKeys_c (A_d : Option Addr) (c_d : Nat) (d : List Int) (w : World) (hr_d : Kd.C (Kd.int .u8) w A_d d.length d) (hbd : ∀ z ∈ d, 0 ≤ z ∧ z ≤ 255) :
    Calls Try.prog 11 #[.slice A_d d.length c_d] w fun e w' => e = .returned (.bool true) ∧ Below w.heap.size w w' := by
  have HC_d := Aside0.mk hr_d
  have hm_d := Kd.C_max hr_d
  clear hr_d
  by_cases hg_d : 1048576 < d.length
  · have hgb_d : ((d.length : Int) > 1048576) := by omega
    go_enter Try.func11, Try.ntmps11
    go_wp2
    go_ret
    exact ⟨rfl, by repeat (first | exact Below.refl _ _ | refine below_alloc ?_ _)⟩
  obtain ⟨r_co, r_us, r_cs, hval⟩ : ∃ r_co r_us r_cs, Aside0 (keysRes d = (r_co, r_us, r_cs)) := ⟨_, _, _, ⟨rfl⟩⟩
  have hlen := keysRes_len d
  rw [hval.out] at hlen
  (try dsimp only at hlen)
  have hbd := Aside0.mk hbd
  go_enter Try.func11, Try.ntmps11
  have hveq : eqv (r_co, r_us, r_cs) (r_co, r_us, r_cs) = true := eqv_self _
  go_wp2_with fail
  refine Calls.mono (toByteS_r _ _ d _ (by repeat (with_reducible first | exact HC_d.out | refine Kd.C_alloc ?_ _ | refine Kd.C_drewN ?_ _ | refine Kd.C_drew ?_ )) (by omega)) ?_
  rintro e w1 ⟨P0_d, p0_d, rfl, le_P0_d, r_P0_d, hb⟩
  have HR_P0_d := Aside0.mk r_P0_d
  have HK_P0_d := Aside0.mk (Kd.R_reads' r_P0_d).2.2
  have LO_P0_d := Aside0.mk (Kd.R_base r_P0_d)
  have HI_P0_d := Aside0.mk (Kd.R_lt r_P0_d)
  (try simp only [size_alloc, size_drew, size_drewN] at LO_P0_d)
  clear r_P0_d
  have HB1 := Aside0.mk hb
  have sz1 := hb.size
  (try simp only [size_alloc, size_drew, size_drewN] at sz1)
  clear hb
  go_wp2_with fail
  refine Calls.mono (specDecodeKeys_c _ _ d _ (by repeat (with_reducible first | exact HK_P0_d.out | refine Kd.C_alloc ?_ _ | refine Kd.C_drewN ?_ _ | refine Kd.C_drew ?_ )) le_P0_d hbd.out) ?_
  rintro e w2 ⟨G0_r_cs, g0_r_cs, he, le_G0_r_cs, r_G0_r_cs, hb⟩
  rw [hval.out] at he
  (try dsimp only at he)
  subst he
  rw [hval.out] at le_G0_r_cs r_G0_r_cs
  (try dsimp only at le_G0_r_cs r_G0_r_cs)
  have HR_G0_r_cs := Aside0.mk r_G0_r_cs
  have HK_G0_r_cs := Aside0.mk (Kd.R_reads' r_G0_r_cs).2.2
  have LO_G0_r_cs := Aside0.mk (Kd.R_base r_G0_r_cs)
  have HI_G0_r_cs := Aside0.mk (Kd.R_lt r_G0_r_cs)
  (try simp only [size_alloc, size_drew, size_drewN] at LO_G0_r_cs)
  have HR0_G0_r_cs := Aside0.mk (Kd.R_lower r_G0_r_cs (Nat.zero_le _))
  clear r_G0_r_cs
  have HB2 := Aside0.mk hb
  have sz2 := hb.size
  (try simp only [size_alloc, size_drew, size_drewN] at sz2)
  clear hb
  go_wp2_with fail
  refine Calls.mono (toByteS_r _ _ d _ (by repeat (with_reducible first | exact HC_d.out | refine Kd.C_alloc ?_ _ | refine Kd.C_drewN ?_ _ | refine Kd.C_drew ?_ | refine Kd.C_below ?_ HB2.out | refine Kd.C_below ?_ HB1.out )) (by omega)) ?_
  rintro e w3 ⟨X0_d, x0_d, rfl, le_X0_d, r_X0_d, hb⟩
  have HR_X0_d := Aside0.mk r_X0_d
  have HK_X0_d := Aside0.mk (Kd.R_reads' r_X0_d).2.2
  have LO_X0_d := Aside0.mk (Kd.R_base r_X0_d)
  have HI_X0_d := Aside0.mk (Kd.R_lt r_X0_d)
  (try simp only [size_alloc, size_drew, size_drewN] at LO_X0_d)
  obtain ⟨bs_X0, rb_d⟩ : ∃ b, Kd.R (Kd.int .u8) 5 w3 b (fun _ => True) (Value.slice X0_d d.length x0_d) d := ⟨_, r_X0_d⟩
  clear HR_X0_d
  have HR_X0_d := Aside0.mk rb_d
  clear rb_d
  clear r_X0_d
  have HB3 := Aside0.mk hb
  have sz3 := hb.size
  (try simp only [size_alloc, size_drew, size_drewN] at sz3)
  have NB_w0 : w3.heap[w2.heap.size]? = some (.cells #[.int .i64 r_co, .int .i64 r_us, .slice G0_r_cs r_cs.length g0_r_cs] 70 (0, 0)) := (by repeat (with_reducible first | exact blk_new _ | refine blk_new' _ (by simp only [size_alloc]) | refine blk_drewN ?_ _ | refine blk_drew ?_ | refine blk_alloc ?_ _ | refine blk_below ?_ HB3.out))
  have BB_w0 := Aside0.mk NB_w0
  have lt_w0 := blk_lt NB_w0
  have rd_w0 := blk_cell NB_w0
  clear NB_w0
  clear hb
  go_wp2_with fail
  refine Calls.mono (DecodeKeys_c _ _ d _ (by repeat (with_reducible first | exact HK_X0_d.out | refine Kd.C_alloc ?_ _ | refine Kd.C_drewN ?_ _ | refine Kd.C_drew ?_ )) le_X0_d hbd.out) ?_
  rintro e w4 ⟨G1_r_cs, g1_r_cs, he, le_G1_r_cs, r_G1_r_cs, hb⟩
  rw [hval.out] at he
  (try dsimp only at he)
  subst he
  rw [hval.out] at le_G1_r_cs r_G1_r_cs
  (try dsimp only at le_G1_r_cs r_G1_r_cs)
  have HR_G1_r_cs := Aside0.mk r_G1_r_cs
  have HK_G1_r_cs := Aside0.mk (Kd.R_reads' r_G1_r_cs).2.2
  have LO_G1_r_cs := Aside0.mk (Kd.R_base r_G1_r_cs)
  have HI_G1_r_cs := Aside0.mk (Kd.R_lt r_G1_r_cs)
  (try simp only [size_alloc, size_drew, size_drewN] at LO_G1_r_cs)
  have HR0_G1_r_cs := Aside0.mk (Kd.R_lower r_G1_r_cs (Nat.zero_le _))
  obtain ⟨bs_G1, rb_r_cs⟩ : ∃ b, Kd.R kC4 111 w4 b (fun _ => True) (Value.slice G1_r_cs r_cs.length g1_r_cs) r_cs := ⟨_, r_G1_r_cs⟩
  clear HR_G1_r_cs
  have HR_G1_r_cs := Aside0.mk rb_r_cs
  clear rb_r_cs
  clear r_G1_r_cs
  have HB4 := Aside0.mk hb
  have sz4 := hb.size
  (try simp only [size_alloc, size_drew, size_drewN] at sz4)
  have NB_w0 : w4.heap[w2.heap.size]? = some (.cells #[.int .i64 r_co, .int .i64 r_us, .slice G0_r_cs r_cs.length g0_r_cs] 70 (0, 0)) := (by repeat (with_reducible first | exact BB_w0.out | exact blk_new _ | refine blk_new' _ (by simp only [size_alloc]) | refine blk_drewN ?_ _ | refine blk_drew ?_ | refine blk_alloc ?_ _ | refine blk_below ?_ HB4.out ))
  clear BB_w0 lt_w0 rd_w0
  have BB_w0 := Aside0.mk NB_w0
  have lt_w0 := blk_lt NB_w0
  have rd_w0 := blk_cell NB_w0
  clear NB_w0
  clear hb
  go_wp2_with fail
  refine Calls.mono (eqKeysResult_c _ _ _ _ r_cs _ _ _ _ r_cs _ (by repeat (with_reducible first | exact HR0_G1_r_cs.out | refine Kd.R_alloc ?_ _ | refine Kd.R_drewN ?_ _ | refine Kd.R_drew ?_ )) (by repeat (with_reducible first | exact HR0_G0_r_cs.out | refine Kd.R_alloc ?_ _ | refine Kd.R_drewN ?_ _ | refine Kd.R_drew ?_ | refine Kd.R_below ?_ HB4.out | refine Kd.R_below ?_ HB3.out ))) ?_
  rintro e w5 ⟨rfl, hb⟩
  have HB5 := Aside0.mk hb
  have sz5 := hb.size
  (try simp only [size_alloc, size_drew, size_drewN] at sz5)
  have NB_w0 : w5.heap[w2.heap.size]? = some (.cells #[.int .i64 r_co, .int .i64 r_us, .slice G0_r_cs r_cs.length g0_r_cs] 70 (0, 0)) := (by repeat (with_reducible first | exact BB_w0.out | exact blk_new _ | refine blk_new' _ (by simp only [size_alloc]) | refine blk_drewN ?_ _ | refine blk_drew ?_ | refine blk_alloc ?_ _ | refine blk_below ?_ HB5.out ))
  clear BB_w0 lt_w0 rd_w0
  have BB_w0 := Aside0.mk NB_w0
  have lt_w0 := blk_lt NB_w0
  have rd_w0 := blk_cell NB_w0
  clear NB_w0
  have NB_g0 : w5.heap[w4.heap.size]? = some (.cells #[.int .i64 r_co, .int .i64 r_us, .slice G1_r_cs r_cs.length g1_r_cs] 70 (0, 0)) := (by repeat (with_reducible first | exact blk_new _ | refine blk_new' _ (by simp only [size_alloc]) | refine blk_drewN ?_ _ | refine blk_drew ?_ | refine blk_alloc ?_ _ | refine blk_below ?_ HB5.out))
  have BB_g0 := Aside0.mk NB_g0
  have lt_g0 := blk_lt NB_g0
  have rd_g0 := blk_cell NB_g0
  clear NB_g0
  clear hb
  go_wp2_with fail
  refine Calls.mono (toByteS_r _ _ d _ (by repeat (with_reducible first | exact HC_d.out | refine Kd.C_alloc ?_ _ | refine Kd.C_drewN ?_ _ | refine Kd.C_drew ?_ | refine Kd.C_below ?_ HB5.out | refine Kd.C_below ?_ HB4.out | refine Kd.C_below ?_ HB3.out | refine Kd.C_below ?_ HB2.out | refine Kd.C_below ?_ HB1.out )) (by omega)) ?_
  rintro e w6 ⟨Y0_d, y0_d, rfl, le_Y0_d, r_Y0_d, hb⟩
  have HR_Y0_d := Aside0.mk r_Y0_d
  have HK_Y0_d := Aside0.mk (Kd.R_reads' r_Y0_d).2.2
  have LO_Y0_d := Aside0.mk (Kd.R_base r_Y0_d)
  have HI_Y0_d := Aside0.mk (Kd.R_lt r_Y0_d)
  (try simp only [size_alloc, size_drew, size_drewN] at LO_Y0_d)
  clear r_Y0_d
  have HB6 := Aside0.mk hb
  have sz6 := hb.size
  (try simp only [size_alloc, size_drew, size_drewN] at sz6)
  have NB_w0 : w6.heap[w2.heap.size]? = some (.cells #[.int .i64 r_co, .int .i64 r_us, .slice G0_r_cs r_cs.length g0_r_cs] 70 (0, 0)) := (by repeat (with_reducible first | exact BB_w0.out | exact blk_new _ | refine blk_new' _ (by simp only [size_alloc]) | refine blk_drewN ?_ _ | refine blk_drew ?_ | refine blk_alloc ?_ _ | refine blk_below ?_ HB6.out ))
  clear BB_w0 lt_w0 rd_w0
  have BB_w0 := Aside0.mk NB_w0
  have lt_w0 := blk_lt NB_w0
  have rd_w0 := blk_cell NB_w0
  clear NB_w0
  have NB_g0 : w6.heap[w4.heap.size]? = some (.cells #[.int .i64 r_co, .int .i64 r_us, .slice G1_r_cs r_cs.length g1_r_cs] 70 (0, 0)) := (by repeat (with_reducible first | exact BB_g0.out | exact blk_new _ | refine blk_new' _ (by simp only [size_alloc]) | refine blk_drewN ?_ _ | refine blk_drew ?_ | refine blk_alloc ?_ _ | refine blk_below ?_ HB6.out ))
  clear BB_g0 lt_g0 rd_g0
  have BB_g0 := Aside0.mk NB_g0
  have lt_g0 := blk_lt NB_g0
  have rd_g0 := blk_cell NB_g0
  clear NB_g0
  clear hb
  go_wp2_with fail
  have hae0 : eqv d d = true := eqv_self _
  refine Calls.mono (eqByteS_c _ _ _ _ d d _ (by repeat (with_reducible first | exact HK_X0_d.out | refine Kd.C_alloc ?_ _ | refine Kd.C_drewN ?_ _ | refine Kd.C_drew ?_ | refine Kd.C_below ?_ HB6.out | refine Kd.C_below ?_ HB5.out | refine Kd.C_below ?_ HB4.out )) (by repeat (with_reducible first | exact HK_Y0_d.out | refine Kd.C_alloc ?_ _ | refine Kd.C_drewN ?_ _ | refine Kd.C_drew ?_ ))) ?_
  rintro e w7 ⟨rfl, hd⟩
  have hb := hd.below
  clear hd
  have HB7 := Aside0.mk hb
  have sz7 := hb.size
  (try simp only [size_alloc, size_drew, size_drewN] at sz7)
  have NB_w0 : w7.heap[w2.heap.size]? = some (.cells #[.int .i64 r_co, .int .i64 r_us, .slice G0_r_cs r_cs.length g0_r_cs] 70 (0, 0)) := (by repeat (with_reducible first | exact BB_w0.out | exact blk_new _ | refine blk_new' _ (by simp only [size_alloc]) | refine blk_drewN ?_ _ | refine blk_drew ?_ | refine blk_alloc ?_ _ | refine blk_below ?_ HB7.out ))
  clear BB_w0 lt_w0 rd_w0
  have BB_w0 := Aside0.mk NB_w0
  have lt_w0 := blk_lt NB_w0
  have rd_w0 := blk_cell NB_w0
  clear NB_w0
  have NB_g0 : w7.heap[w4.heap.size]? = some (.cells #[.int .i64 r_co, .int .i64 r_us, .slice G1_r_cs r_cs.length g1_r_cs] 70 (0, 0)) := (by repeat (with_reducible first | exact BB_g0.out | exact blk_new _ | refine blk_new' _ (by simp only [size_alloc]) | refine blk_drewN ?_ _ | refine blk_drew ?_ | refine blk_alloc ?_ _ | refine blk_below ?_ HB7.out ))
  clear BB_g0 lt_g0 rd_g0
  have BB_g0 := Aside0.mk NB_g0
  have lt_g0 := blk_lt NB_g0
  have rd_g0 := blk_cell NB_g0
  clear NB_g0
  clear hb
  have AP_G0_r_cs_X0_d := Aside0.mk (show ∀ b, (Value.slice G0_r_cs r_cs.length g0_r_cs).ownBlock = some b → (Value.slice X0_d d.length x0_d).ownBlock = some b → False from fun b h1 h2 => by have e1 := LO_G0_r_cs.out b h1; have e2 := HI_G0_r_cs.out b h1; have e3 := LO_X0_d.out b h2; have e4 := HI_X0_d.out b h2; omega)
  have AP_G1_r_cs_X0_d := Aside0.mk (show ∀ b, (Value.slice G1_r_cs r_cs.length g1_r_cs).ownBlock = some b → (Value.slice X0_d d.length x0_d).ownBlock = some b → False from fun b h1 h2 => by have e1 := LO_G1_r_cs.out b h1; have e2 := HI_G1_r_cs.out b h1; have e3 := LO_X0_d.out b h2; have e4 := HI_X0_d.out b h2; omega)
  have BX_X0_d_w0 := Aside0.mk (show (Value.slice X0_d d.length x0_d).ownBlock = some (w2.heap.size) → False from fun h => by have e1 := LO_X0_d.out _ h; have e2 := HI_X0_d.out _ h; omega)
  have BX_X0_d_g0 := Aside0.mk (show (Value.slice X0_d d.length x0_d).ownBlock = some (w4.heap.size) → False from fun h => by have e1 := LO_X0_d.out _ h; have e2 := HI_X0_d.out _ h; omega)
  go_wp2_with fail
  refine Calls.mono (markByteS_c _ _ bs_X0 d (1) _ (by omega) _ (by repeat (with_reducible first | exact HR_X0_d.out | refine Kd.R_alloc ?_ _ | refine Kd.R_drewN ?_ _ | refine Kd.R_drew ?_ | refine Kd.R_below ?_ HB7.out | refine Kd.R_below ?_ HB6.out | refine Kd.R_below ?_ HB5.out | refine Kd.R_below ?_ HB4.out )) (by omega)) ?_
  rintro e w8 ⟨rfl, r_X0_d, hg⟩
  have hu := Upd.of_grown hg
  clear hg
  clear HR_X0_d HK_X0_d
  have HR_X0_d := Aside0.mk r_X0_d
  have HK_X0_d := Aside0.mk (R_readsn r_X0_d)
  clear r_X0_d
  have U8 := Aside0.mk hu
  have sz8 := hu.size
  (try simp only [size_alloc, size_drew, size_drewN] at sz8)
  have NB_w0 : w8.heap[w2.heap.size]? = some (.cells #[.int .i64 r_co, .int .i64 r_us, .slice G0_r_cs r_cs.length g0_r_cs] 70 (0, 0)) := (by repeat (with_reducible first | exact BB_w0.out | exact blk_new _ | refine blk_new' _ (by simp only [size_alloc]) | refine blk_drewN ?_ _ | refine blk_drew ?_ | refine blk_alloc ?_ _ | refine blk_upd ?_ U8.out (fun hS => by first | exact BX_X0_d_w0.out hS) ))
  clear BB_w0 lt_w0 rd_w0
  have BB_w0 := Aside0.mk NB_w0
  have lt_w0 := blk_lt NB_w0
  have rd_w0 := blk_cell NB_w0
  clear NB_w0
  have NB_g0 : w8.heap[w4.heap.size]? = some (.cells #[.int .i64 r_co, .int .i64 r_us, .slice G1_r_cs r_cs.length g1_r_cs] 70 (0, 0)) := (by repeat (with_reducible first | exact BB_g0.out | exact blk_new _ | refine blk_new' _ (by simp only [size_alloc]) | refine blk_drewN ?_ _ | refine blk_drew ?_ | refine blk_alloc ?_ _ | refine blk_upd ?_ U8.out (fun hS => by first | exact BX_X0_d_g0.out hS) ))
  clear BB_g0 lt_g0 rd_g0
  have BB_g0 := Aside0.mk NB_g0
  have lt_g0 := blk_lt NB_g0
  have rd_g0 := blk_cell NB_g0
  clear NB_g0
  clear hu
  have hk0 : decide ((1 + (d.length : Int) : Int) < 0) = false := decide_eq_false (by omega)
  go_wp2_with fail
  refine Calls.mono (eqKeysResult_c _ _ _ _ r_cs _ _ _ _ r_cs _ (by repeat (with_reducible first | exact HR0_G1_r_cs.out | refine Kd.R_alloc ?_ _ | refine Kd.R_drewN ?_ _ | refine Kd.R_drew ?_ | refine R_updQ ?_ U8.out (fun b h1 hS => by first | exact AP_G1_r_cs_X0_d.out b h1 hS) | refine Kd.R_below ?_ HB7.out | refine Kd.R_below ?_ HB6.out | refine Kd.R_below ?_ HB5.out )) (by repeat (with_reducible first | exact HR0_G0_r_cs.out | refine Kd.R_alloc ?_ _ | refine Kd.R_drewN ?_ _ | refine Kd.R_drew ?_ | refine R_updQ ?_ U8.out (fun b h1 hS => by first | exact AP_G0_r_cs_X0_d.out b h1 hS) | refine Kd.R_below ?_ HB7.out | refine Kd.R_below ?_ HB6.out | refine Kd.R_below ?_ HB5.out | refine Kd.R_below ?_ HB4.out | refine Kd.R_below ?_ HB3.out ))) ?_
  rintro e w9 ⟨rfl, hb⟩
  have HB9 := Aside0.mk hb
  have sz9 := hb.size
  (try simp only [size_alloc, size_drew, size_drewN] at sz9)
  have NB_w0 : w9.heap[w2.heap.size]? = some (.cells #[.int .i64 r_co, .int .i64 r_us, .slice G0_r_cs r_cs.length g0_r_cs] 70 (0, 0)) := (by repeat (with_reducible first | exact BB_w0.out | exact blk_new _ | refine blk_new' _ (by simp only [size_alloc]) | refine blk_drewN ?_ _ | refine blk_drew ?_ | refine blk_alloc ?_ _ | refine blk_below ?_ HB9.out ))
  clear BB_w0 lt_w0 rd_w0
  have BB_w0 := Aside0.mk NB_w0
  have lt_w0 := blk_lt NB_w0
  have rd_w0 := blk_cell NB_w0
  clear NB_w0
  have NB_g0 : w9.heap[w4.heap.size]? = some (.cells #[.int .i64 r_co, .int .i64 r_us, .slice G1_r_cs r_cs.length g1_r_cs] 70 (0, 0)) := (by repeat (with_reducible first | exact BB_g0.out | exact blk_new _ | refine blk_new' _ (by simp only [size_alloc]) | refine blk_drewN ?_ _ | refine blk_drew ?_ | refine blk_alloc ?_ _ | refine blk_below ?_ HB9.out ))
  clear BB_g0 lt_g0 rd_g0
  have BB_g0 := Aside0.mk NB_g0
  have lt_g0 := blk_lt NB_g0
  have rd_g0 := blk_cell NB_g0
  clear NB_g0
  clear hb
  have AP_G0_r_cs_G1_r_cs := Aside0.mk (show ∀ b, (Value.slice G0_r_cs r_cs.length g0_r_cs).ownBlock = some b → (Value.slice G1_r_cs r_cs.length g1_r_cs).ownBlock = some b → False from fun b h1 h2 => by have e1 := LO_G0_r_cs.out b h1; have e2 := HI_G0_r_cs.out b h1; have e3 := LO_G1_r_cs.out b h2; have e4 := HI_G1_r_cs.out b h2; omega)
  have BX_G1_r_cs_w0 := Aside0.mk (show (Value.slice G1_r_cs r_cs.length g1_r_cs).ownBlock = some (w2.heap.size) → False from fun h => by have e1 := LO_G1_r_cs.out _ h; have e2 := HI_G1_r_cs.out _ h; omega)
  have BX_G1_r_cs_g0 := Aside0.mk (show (Value.slice G1_r_cs r_cs.length g1_r_cs).ownBlock = some (w4.heap.size) → False from fun h => by have e1 := LO_G1_r_cs.out _ h; have e2 := HI_G1_r_cs.out _ h; omega)
  go_wp2_with fail
  refine Calls.mono (markKeysResult_c _ _ _ _ r_cs bs_G1 (1) _ (by omega) _ (by repeat (with_reducible first | exact HR_G1_r_cs.out | refine Kd.R_alloc ?_ _ | refine Kd.R_drewN ?_ _ | refine Kd.R_drew ?_ | refine Kd.R_below ?_ HB9.out | refine R_updQ ?_ U8.out (fun b h1 hS => by first | exact AP_G1_r_cs_X0_d.out b h1 hS) | refine Kd.R_below ?_ HB7.out | refine Kd.R_below ?_ HB6.out | refine Kd.R_below ?_ HB5.out ))  (by omega)) ?_
  rintro e w10 ⟨rfl, r_G1_r_cs, hu⟩
  clear HR_G1_r_cs HK_G1_r_cs
  have HR_G1_r_cs := Aside0.mk r_G1_r_cs
  have HK_G1_r_cs := Aside0.mk (R_readsn r_G1_r_cs)
  clear HR0_G1_r_cs
  have HR0_G1_r_cs := Aside0.mk (Kd.R_lower r_G1_r_cs (Nat.zero_le _))
  clear r_G1_r_cs
  have U10 := Aside0.mk hu
  have sz10 := hu.size
  (try simp only [size_alloc, size_drew, size_drewN] at sz10)
  have NB_w0 : w10.heap[w2.heap.size]? = some (.cells #[.int .i64 r_co, .int .i64 r_us, .slice G0_r_cs r_cs.length g0_r_cs] 70 (0, 0)) := (by repeat (with_reducible first | exact BB_w0.out | exact blk_new _ | refine blk_new' _ (by simp only [size_alloc]) | refine blk_drewN ?_ _ | refine blk_drew ?_ | refine blk_alloc ?_ _ | refine blk_upd ?_ U10.out (fun hS => by first | exact BX_G1_r_cs_w0.out hS) ))
  clear BB_w0 lt_w0 rd_w0
  have BB_w0 := Aside0.mk NB_w0
  have lt_w0 := blk_lt NB_w0
  have rd_w0 := blk_cell NB_w0
  clear NB_w0
  have NB_g0 : w10.heap[w4.heap.size]? = some (.cells #[.int .i64 r_co, .int .i64 r_us, .slice G1_r_cs r_cs.length g1_r_cs] 70 (0, 0)) := (by repeat (with_reducible first | exact BB_g0.out | exact blk_new _ | refine blk_new' _ (by simp only [size_alloc]) | refine blk_drewN ?_ _ | refine blk_drew ?_ | refine blk_alloc ?_ _ | refine blk_upd ?_ U10.out (fun hS => by first | exact BX_G1_r_cs_g0.out hS) ))
  clear BB_g0 lt_g0 rd_g0
  have BB_g0 := Aside0.mk NB_g0
  have lt_g0 := blk_lt NB_g0
  have rd_g0 := blk_cell NB_g0
  clear NB_g0
  clear hu
  have hm0 : decide ((1 + (4 * r_cs.length : Int) : Int) < 0) = false := decide_eq_false (by omega)
  go_wp2_with fail
  refine Calls.mono (heldKeysResult_c _ _ _ r_cs.length _ 1 _ (by omega) _ (by repeat (with_reducible first | exact HR0_G1_r_cs.out | refine Kd.R_alloc ?_ _ | refine Kd.R_drewN ?_ _ | refine Kd.R_drew ?_ )) (by omega)) ?_
  rintro e w11 ⟨rfl, hb⟩
  have HB11 := Aside0.mk hb
  have sz11 := hb.size
  (try simp only [size_alloc, size_drew, size_drewN] at sz11)
  have NB_w0 : w11.heap[w2.heap.size]? = some (.cells #[.int .i64 r_co, .int .i64 r_us, .slice G0_r_cs r_cs.length g0_r_cs] 70 (0, 0)) := (by repeat (with_reducible first | exact BB_w0.out | exact blk_new _ | refine blk_new' _ (by simp only [size_alloc]) | refine blk_drewN ?_ _ | refine blk_drew ?_ | refine blk_alloc ?_ _ | refine blk_below ?_ HB11.out ))
  clear BB_w0 lt_w0 rd_w0
  have BB_w0 := Aside0.mk NB_w0
  have lt_w0 := blk_lt NB_w0
  have rd_w0 := blk_cell NB_w0
  clear NB_w0
  have NB_g0 : w11.heap[w4.heap.size]? = some (.cells #[.int .i64 r_co, .int .i64 r_us, .slice G1_r_cs r_cs.length g1_r_cs] 70 (0, 0)) := (by repeat (with_reducible first | exact BB_g0.out | exact blk_new _ | refine blk_new' _ (by simp only [size_alloc]) | refine blk_drewN ?_ _ | refine blk_drew ?_ | refine blk_alloc ?_ _ | refine blk_below ?_ HB11.out ))
  clear BB_g0 lt_g0 rd_g0
  have BB_g0 := Aside0.mk NB_g0
  have lt_g0 := blk_lt NB_g0
  have rd_g0 := blk_cell NB_g0
  clear NB_g0
  clear hb
  go_wp2_with fail
  refine Calls.mono (toByteS_r _ _ d _ (Kd.C_below HC_d.out (by repeat (with_reducible first | exact Below.refl _ _ | refine below_alloc ?_ _ | refine below_drew ?_ | refine pw_below_drewN ?_ _ | refine below_end ?_ HB11.out | refine below_upd ?_ U10.out (fun b hlt hS => by first | (have := LO_G1_r_cs.out b hS; omega)) | refine below_end ?_ HB9.out | refine below_upd ?_ U8.out (fun b hlt hS => by first | (have := LO_X0_d.out b hS; omega)) | refine below_end ?_ HB7.out | refine below_end ?_ HB6.out | refine below_end ?_ HB5.out | refine below_end ?_ HB4.out | refine below_end ?_ HB3.out | refine below_end ?_ HB2.out | refine below_end ?_ HB1.out ))) (by omega)) ?_
  rintro e w12 ⟨Q0_d, q0_d, rfl, le_Q0_d, r_Q0_d, hb⟩
  have HR_Q0_d := Aside0.mk r_Q0_d
  have HK_Q0_d := Aside0.mk (Kd.R_reads' r_Q0_d).2.2
  have LO_Q0_d := Aside0.mk (Kd.R_base r_Q0_d)
  have HI_Q0_d := Aside0.mk (Kd.R_lt r_Q0_d)
  (try simp only [size_alloc, size_drew, size_drewN] at LO_Q0_d)
  clear r_Q0_d
  have HB12 := Aside0.mk hb
  have sz12 := hb.size
  (try simp only [size_alloc, size_drew, size_drewN] at sz12)
  have NB_w0 : w12.heap[w2.heap.size]? = some (.cells #[.int .i64 r_co, .int .i64 r_us, .slice G0_r_cs r_cs.length g0_r_cs] 70 (0, 0)) := (by repeat (with_reducible first | exact BB_w0.out | exact blk_new _ | refine blk_new' _ (by simp only [size_alloc]) | refine blk_drewN ?_ _ | refine blk_drew ?_ | refine blk_alloc ?_ _ | refine blk_below ?_ HB12.out ))
  clear BB_w0 lt_w0 rd_w0
  have BB_w0 := Aside0.mk NB_w0
  have lt_w0 := blk_lt NB_w0
  have rd_w0 := blk_cell NB_w0
  clear NB_w0
  have NB_g0 : w12.heap[w4.heap.size]? = some (.cells #[.int .i64 r_co, .int .i64 r_us, .slice G1_r_cs r_cs.length g1_r_cs] 70 (0, 0)) := (by repeat (with_reducible first | exact BB_g0.out | exact blk_new _ | refine blk_new' _ (by simp only [size_alloc]) | refine blk_drewN ?_ _ | refine blk_drew ?_ | refine blk_alloc ?_ _ | refine blk_below ?_ HB12.out ))
  clear BB_g0 lt_g0 rd_g0
  have BB_g0 := Aside0.mk NB_g0
  have lt_g0 := blk_lt NB_g0
  have rd_g0 := blk_cell NB_g0
  clear NB_g0
  clear hb
  go_wp2_with fail
  refine Calls.mono (DecodeKeys_c _ _ d _ (by repeat (with_reducible first | exact HK_Q0_d.out | refine Kd.C_alloc ?_ _ | refine Kd.C_drewN ?_ _ | refine Kd.C_drew ?_ )) le_Q0_d hbd.out) ?_
  rintro e w13 ⟨G2_r_cs, g2_r_cs, he, le_G2_r_cs, r_G2_r_cs, hb⟩
  rw [hval.out] at he
  (try dsimp only at he)
  subst he
  rw [hval.out] at le_G2_r_cs r_G2_r_cs
  (try dsimp only at le_G2_r_cs r_G2_r_cs)
  have HR_G2_r_cs := Aside0.mk r_G2_r_cs
  have HK_G2_r_cs := Aside0.mk (Kd.R_reads' r_G2_r_cs).2.2
  have LO_G2_r_cs := Aside0.mk (Kd.R_base r_G2_r_cs)
  have HI_G2_r_cs := Aside0.mk (Kd.R_lt r_G2_r_cs)
  (try simp only [size_alloc, size_drew, size_drewN] at LO_G2_r_cs)
  have HR0_G2_r_cs := Aside0.mk (Kd.R_lower r_G2_r_cs (Nat.zero_le _))
  clear r_G2_r_cs
  have HB13 := Aside0.mk hb
  have sz13 := hb.size
  (try simp only [size_alloc, size_drew, size_drewN] at sz13)
  have NB_w0 : w13.heap[w2.heap.size]? = some (.cells #[.int .i64 r_co, .int .i64 r_us, .slice G0_r_cs r_cs.length g0_r_cs] 70 (0, 0)) := (by repeat (with_reducible first | exact BB_w0.out | exact blk_new _ | refine blk_new' _ (by simp only [size_alloc]) | refine blk_drewN ?_ _ | refine blk_drew ?_ | refine blk_alloc ?_ _ | refine blk_below ?_ HB13.out ))
  clear BB_w0 lt_w0 rd_w0
  have BB_w0 := Aside0.mk NB_w0
  have lt_w0 := blk_lt NB_w0
  have rd_w0 := blk_cell NB_w0
  clear NB_w0
  have NB_g0 : w13.heap[w4.heap.size]? = some (.cells #[.int .i64 r_co, .int .i64 r_us, .slice G1_r_cs r_cs.length g1_r_cs] 70 (0, 0)) := (by repeat (with_reducible first | exact BB_g0.out | exact blk_new _ | refine blk_new' _ (by simp only [size_alloc]) | refine blk_drewN ?_ _ | refine blk_drew ?_ | refine blk_alloc ?_ _ | refine blk_below ?_ HB13.out ))
  clear BB_g0 lt_g0 rd_g0
  have BB_g0 := Aside0.mk NB_g0
  have lt_g0 := blk_lt NB_g0
  have rd_g0 := blk_cell NB_g0
  clear NB_g0
  clear hb
  go_wp2_with fail
  refine Calls.mono (eqKeysResult_c _ _ _ _ r_cs _ _ _ _ r_cs _ (by repeat (with_reducible first | exact HR0_G2_r_cs.out | refine Kd.R_alloc ?_ _ | refine Kd.R_drewN ?_ _ | refine Kd.R_drew ?_ )) (by repeat (with_reducible first | exact HR0_G0_r_cs.out | refine Kd.R_alloc ?_ _ | refine Kd.R_drewN ?_ _ | refine Kd.R_drew ?_ | refine Kd.R_below ?_ HB13.out | refine Kd.R_below ?_ HB12.out | refine Kd.R_below ?_ HB11.out | refine R_updQ ?_ U10.out (fun b h1 hS => by first | exact AP_G0_r_cs_G1_r_cs.out b h1 hS) | refine Kd.R_below ?_ HB9.out | refine R_updQ ?_ U8.out (fun b h1 hS => by first | exact AP_G0_r_cs_X0_d.out b h1 hS) | refine Kd.R_below ?_ HB7.out | refine Kd.R_below ?_ HB6.out | refine Kd.R_below ?_ HB5.out | refine Kd.R_below ?_ HB4.out | refine Kd.R_below ?_ HB3.out ))) ?_
  rintro e w14 ⟨rfl, hb⟩
  have HB14 := Aside0.mk hb
  have sz14 := hb.size
  (try simp only [size_alloc, size_drew, size_drewN] at sz14)
  have NB_w0 : w14.heap[w2.heap.size]? = some (.cells #[.int .i64 r_co, .int .i64 r_us, .slice G0_r_cs r_cs.length g0_r_cs] 70 (0, 0)) := (by repeat (with_reducible first | exact BB_w0.out | exact blk_new _ | refine blk_new' _ (by simp only [size_alloc]) | refine blk_drewN ?_ _ | refine blk_drew ?_ | refine blk_alloc ?_ _ | refine blk_below ?_ HB14.out ))
  clear BB_w0 lt_w0 rd_w0
  have BB_w0 := Aside0.mk NB_w0
  have lt_w0 := blk_lt NB_w0
  have rd_w0 := blk_cell NB_w0
  clear NB_w0
  have NB_g0 : w14.heap[w4.heap.size]? = some (.cells #[.int .i64 r_co, .int .i64 r_us, .slice G1_r_cs r_cs.length g1_r_cs] 70 (0, 0)) := (by repeat (with_reducible first | exact BB_g0.out | exact blk_new _ | refine blk_new' _ (by simp only [size_alloc]) | refine blk_drewN ?_ _ | refine blk_drew ?_ | refine blk_alloc ?_ _ | refine blk_below ?_ HB14.out ))
  clear BB_g0 lt_g0 rd_g0
  have BB_g0 := Aside0.mk NB_g0
  have lt_g0 := blk_lt NB_g0
  have rd_g0 := blk_cell NB_g0
  clear NB_g0
  have NB_h0 : w14.heap[w13.heap.size]? = some (.cells #[.int .i64 r_co, .int .i64 r_us, .slice G2_r_cs r_cs.length g2_r_cs] 70 (0, 0)) := (by repeat (with_reducible first | exact blk_new _ | refine blk_new' _ (by simp only [size_alloc]) | refine blk_drewN ?_ _ | refine blk_drew ?_ | refine blk_alloc ?_ _ | refine blk_below ?_ HB14.out))
  have BB_h0 := Aside0.mk NB_h0
  have lt_h0 := blk_lt NB_h0
  have rd_h0 := blk_cell NB_h0
  clear NB_h0
  clear hb
  go_wp2_with fail
  refine Calls.mono (heldKeysResult_c _ _ _ r_cs.length _ 1 _ (by omega) _ (by repeat (with_reducible first | exact HR0_G1_r_cs.out | refine Kd.R_alloc ?_ _ | refine Kd.R_drewN ?_ _ | refine Kd.R_drew ?_ | refine Kd.R_below ?_ HB14.out | refine Kd.R_below ?_ HB13.out | refine Kd.R_below ?_ HB12.out | refine Kd.R_below ?_ HB11.out )) (by omega)) ?_
  rintro e w15 ⟨rfl, hb⟩
  have HB15 := Aside0.mk hb
  have sz15 := hb.size
  (try simp only [size_alloc, size_drew, size_drewN] at sz15)
  have NB_w0 : w15.heap[w2.heap.size]? = some (.cells #[.int .i64 r_co, .int .i64 r_us, .slice G0_r_cs r_cs.length g0_r_cs] 70 (0, 0)) := (by repeat (with_reducible first | exact BB_w0.out | exact blk_new _ | refine blk_new' _ (by simp only [size_alloc]) | refine blk_drewN ?_ _ | refine blk_drew ?_ | refine blk_alloc ?_ _ | refine blk_below ?_ HB15.out ))
  clear BB_w0 lt_w0 rd_w0
  have BB_w0 := Aside0.mk NB_w0
  have lt_w0 := blk_lt NB_w0
  have rd_w0 := blk_cell NB_w0
  clear NB_w0
  have NB_g0 : w15.heap[w4.heap.size]? = some (.cells #[.int .i64 r_co, .int .i64 r_us, .slice G1_r_cs r_cs.length g1_r_cs] 70 (0, 0)) := (by repeat (with_reducible first | exact BB_g0.out | exact blk_new _ | refine blk_new' _ (by simp only [size_alloc]) | refine blk_drewN ?_ _ | refine blk_drew ?_ | refine blk_alloc ?_ _ | refine blk_below ?_ HB15.out ))
  clear BB_g0 lt_g0 rd_g0
  have BB_g0 := Aside0.mk NB_g0
  have lt_g0 := blk_lt NB_g0
  have rd_g0 := blk_cell NB_g0
  clear NB_g0
  have NB_h0 : w15.heap[w13.heap.size]? = some (.cells #[.int .i64 r_co, .int .i64 r_us, .slice G2_r_cs r_cs.length g2_r_cs] 70 (0, 0)) := (by repeat (with_reducible first | exact BB_h0.out | exact blk_new _ | refine blk_new' _ (by simp only [size_alloc]) | refine blk_drewN ?_ _ | refine blk_drew ?_ | refine blk_alloc ?_ _ | refine blk_below ?_ HB15.out ))
  clear BB_h0 lt_h0 rd_h0
  have BB_h0 := Aside0.mk NB_h0
  have lt_h0 := blk_lt NB_h0
  have rd_h0 := blk_cell NB_h0
  clear NB_h0
  clear hb
  go_wp2
  go_ret
  exact ⟨rfl, (by repeat (with_reducible first | exact Below.refl _ _ | refine below_alloc ?_ _ | refine below_drew ?_ | refine pw_below_drewN ?_ _ | refine below_end ?_ HB15.out | refine below_end ?_ HB14.out | refine below_end ?_ HB13.out | refine below_end ?_ HB12.out | refine below_end ?_ HB11.out | refine below_upd ?_ U10.out (fun b hlt hS => by first | (have := LO_G1_r_cs.out b hS; omega)) | refine below_end ?_ HB9.out | refine below_upd ?_ U8.out (fun b hlt hS => by first | (have := LO_X0_d.out b hS; omega)) | refine below_end ?_ HB7.out | refine below_end ?_ HB6.out | refine below_end ?_ HB5.out | refine below_end ?_ HB4.out | refine below_end ?_ HB3.out | refine below_end ?_ HB2.out | refine below_end ?_ HB1.out ))⟩
end Go.Proofs.Ytpfponhaofdbaaa.M
