import Derived.Test.YtpfponhaofdbaaaL2
import Derived.Test.YtpfponhaofdbaaaK2
import Derived.Test.YtpfponhaofdbaaaN
set_option linter.unusedVariables false
set_option linter.unusedSimpArgs false
namespace Go.Proofs.Ytpfponhaofdbaaa.M
open Go.RowKit Go.Proofs.YtpfponhaofdbaaaW.PrintWords
set_option maxRecDepth 100000 in
set_option maxHeartbeats 1000000 in
theorem law_NewTerm_c (rows : Int) (width : Int) (w : World)   :
    Calls Try.prog 7 #[.int .i64 rows, .int .i64 width] w fun e w' => e = .returned (.bool true) ∧ Below w.heap.size w w' := by
  obtain ⟨r_co, r_t_wi, r_t_ro, r_t_y, r_t_x, r_t_hi, r_t_ch, r_t_hs, hval⟩ : ∃ r_co r_t_wi r_t_ro r_t_y r_t_x r_t_hi r_t_ch r_t_hs, Aside0 (newTermP rows width = (r_co, r_t_wi, r_t_ro, r_t_y, r_t_x, r_t_hi, r_t_ch, r_t_hs)) := ⟨_, _, _, _, _, _, _, _, ⟨rfl⟩⟩
  have hlen := newTermP_len rows width
  rw [hval.out] at hlen
  (try dsimp only at hlen)
  have hlen1 := hlen.1
  have hlen2 := hlen.2
  clear hlen
  go_enter Try.func7, Try.ntmps7
  have hveq : eqv (r_co, r_t_wi, r_t_ro, r_t_y, r_t_x, r_t_hi, r_t_ch, r_t_hs) (r_co, r_t_wi, r_t_ro, r_t_y, r_t_x, r_t_hi, r_t_ch, r_t_hs) = true := eqv_self _
  go_wp2_with fail
  refine Calls.mono (specNewTerm_c rows width _   ) ?_
  rintro e w1 ⟨G0_r_t_ch, g0_r_t_ch, G0_r_t_hs, g0_r_t_hs, he, le_G0_r_t_ch, r_G0_r_t_ch, le_G0_r_t_hs, r_G0_r_t_hs, hb⟩
  rw [hval.out] at he
  (try dsimp only at he)
  subst he
  rw [hval.out] at le_G0_r_t_ch r_G0_r_t_ch
  (try dsimp only at le_G0_r_t_ch r_G0_r_t_ch)
  rw [hval.out] at le_G0_r_t_hs r_G0_r_t_hs
  (try dsimp only at le_G0_r_t_hs r_G0_r_t_hs)
  have HR_G0_r_t_ch := Aside0.mk r_G0_r_t_ch
  have HK_G0_r_t_ch := Aside0.mk (Kd.R_reads' r_G0_r_t_ch).2.2
  have LO_G0_r_t_ch := Aside0.mk (Kd.R_base r_G0_r_t_ch)
  have HI_G0_r_t_ch := Aside0.mk (Kd.R_lt r_G0_r_t_ch)
  (try simp only [size_alloc, size_drew, size_drewN] at LO_G0_r_t_ch)
  have HR_G0_r_t_hs := Aside0.mk r_G0_r_t_hs
  have HK_G0_r_t_hs := Aside0.mk (Kd.R_reads' r_G0_r_t_hs).2.2
  have LO_G0_r_t_hs := Aside0.mk (Kd.R_base r_G0_r_t_hs)
  have HI_G0_r_t_hs := Aside0.mk (Kd.R_lt r_G0_r_t_hs)
  (try simp only [size_alloc, size_drew, size_drewN] at LO_G0_r_t_hs)
  clear r_G0_r_t_ch r_G0_r_t_hs
  have HB1 := Aside0.mk hb
  have sz1 := hb.size
  (try simp only [size_alloc, size_drew, size_drewN] at sz1)
  clear hb
  go_wp2_with fail
  refine Calls.mono (NewTerm_c rows width _   ) ?_
  rintro e w2 ⟨G1_r_t_ch, g1_r_t_ch, G1_r_t_hs, g1_r_t_hs, he, le_G1_r_t_ch, r_G1_r_t_ch, le_G1_r_t_hs, r_G1_r_t_hs, hb⟩
  rw [hval.out] at he
  (try dsimp only at he)
  subst he
  rw [hval.out] at le_G1_r_t_ch r_G1_r_t_ch
  (try dsimp only at le_G1_r_t_ch r_G1_r_t_ch)
  rw [hval.out] at le_G1_r_t_hs r_G1_r_t_hs
  (try dsimp only at le_G1_r_t_hs r_G1_r_t_hs)
  have HR_G1_r_t_ch := Aside0.mk r_G1_r_t_ch
  have HK_G1_r_t_ch := Aside0.mk (Kd.R_reads' r_G1_r_t_ch).2.2
  have LO_G1_r_t_ch := Aside0.mk (Kd.R_base r_G1_r_t_ch)
  have HI_G1_r_t_ch := Aside0.mk (Kd.R_lt r_G1_r_t_ch)
  (try simp only [size_alloc, size_drew, size_drewN] at LO_G1_r_t_ch)
  have HR_G1_r_t_hs := Aside0.mk r_G1_r_t_hs
  have HK_G1_r_t_hs := Aside0.mk (Kd.R_reads' r_G1_r_t_hs).2.2
  have LO_G1_r_t_hs := Aside0.mk (Kd.R_base r_G1_r_t_hs)
  have HI_G1_r_t_hs := Aside0.mk (Kd.R_lt r_G1_r_t_hs)
  (try simp only [size_alloc, size_drew, size_drewN] at LO_G1_r_t_hs)
  have AP_G1_r_t_ch_G1_r_t_hs := Aside0.mk (rows_apart r_G1_r_t_ch r_G1_r_t_hs (by decide))
  obtain ⟨bs_G1, rb_r_t_ch, rb_r_t_hs⟩ : ∃ b, Kd.R (Kd.int .i64) 2 w2 b (fun _ => True) (Value.slice G1_r_t_ch r_t_ch.length g1_r_t_ch) r_t_ch ∧ Kd.R Kd.bool 4 w2 b (fun _ => True) (Value.slice G1_r_t_hs r_t_hs.length g1_r_t_hs) r_t_hs := ⟨_, r_G1_r_t_ch, r_G1_r_t_hs⟩
  clear HR_G1_r_t_ch
  have HR_G1_r_t_ch := Aside0.mk rb_r_t_ch
  clear rb_r_t_ch
  clear HR_G1_r_t_hs
  have HR_G1_r_t_hs := Aside0.mk rb_r_t_hs
  clear rb_r_t_hs
  clear r_G1_r_t_ch r_G1_r_t_hs
  have HB2 := Aside0.mk hb
  have sz2 := hb.size
  (try simp only [size_alloc, size_drew, size_drewN] at sz2)
  have NB_w0 : w2.heap[w1.heap.size]? = some (.cells #[.int .i64 r_co, .int .i64 r_t_wi, .int .i64 r_t_ro, .int .i64 r_t_y, .int .i64 r_t_x, .bool r_t_hi, .slice G0_r_t_ch r_t_ch.length g0_r_t_ch, .slice G0_r_t_hs r_t_hs.length g0_r_t_hs] 52 (0, 0)) := (by repeat (with_reducible first | exact blk_new _ | refine blk_new' _ (by simp only [size_alloc]) | refine blk_drewN ?_ _ | refine blk_drew ?_ | refine blk_alloc ?_ _ | refine blk_below ?_ HB2.out))
  have BB_w0 := Aside0.mk NB_w0
  have lt_w0 := blk_lt NB_w0
  have rd_w0 := blk_cell NB_w0
  clear NB_w0
  clear hb
  go_wp2_with fail
  refine Calls.mono (eqTermResult_c _ _ _ _ _ _ _ _ r_t_ch _ _ r_t_hs _ _ _ _ _ _ _ _ r_t_ch _ _ r_t_hs _ (by repeat (with_reducible first | exact HK_G1_r_t_ch.out | refine Kd.C_alloc ?_ _ | refine Kd.C_drewN ?_ _ | refine Kd.C_drew ?_ )) (by repeat (with_reducible first | exact HK_G1_r_t_hs.out | refine Kd.C_alloc ?_ _ | refine Kd.C_drewN ?_ _ | refine Kd.C_drew ?_ )) (by repeat (with_reducible first | exact HK_G0_r_t_ch.out | refine Kd.C_alloc ?_ _ | refine Kd.C_drewN ?_ _ | refine Kd.C_drew ?_ | refine Kd.C_below ?_ HB2.out )) (by repeat (with_reducible first | exact HK_G0_r_t_hs.out | refine Kd.C_alloc ?_ _ | refine Kd.C_drewN ?_ _ | refine Kd.C_drew ?_ | refine Kd.C_below ?_ HB2.out ))) ?_
  rintro e w3 ⟨rfl, hb⟩
  have HB3 := Aside0.mk hb
  have sz3 := hb.size
  (try simp only [size_alloc, size_drew, size_drewN] at sz3)
  have NB_w0 : w3.heap[w1.heap.size]? = some (.cells #[.int .i64 r_co, .int .i64 r_t_wi, .int .i64 r_t_ro, .int .i64 r_t_y, .int .i64 r_t_x, .bool r_t_hi, .slice G0_r_t_ch r_t_ch.length g0_r_t_ch, .slice G0_r_t_hs r_t_hs.length g0_r_t_hs] 52 (0, 0)) := (by repeat (with_reducible first | exact BB_w0.out | exact blk_new _ | refine blk_new' _ (by simp only [size_alloc]) | refine blk_drewN ?_ _ | refine blk_drew ?_ | refine blk_alloc ?_ _ | refine blk_below ?_ HB3.out ))
  clear BB_w0 lt_w0 rd_w0
  have BB_w0 := Aside0.mk NB_w0
  have lt_w0 := blk_lt NB_w0
  have rd_w0 := blk_cell NB_w0
  clear NB_w0
  have NB_g0 : w3.heap[w2.heap.size]? = some (.cells #[.int .i64 r_co, .int .i64 r_t_wi, .int .i64 r_t_ro, .int .i64 r_t_y, .int .i64 r_t_x, .bool r_t_hi, .slice G1_r_t_ch r_t_ch.length g1_r_t_ch, .slice G1_r_t_hs r_t_hs.length g1_r_t_hs] 52 (0, 0)) := (by repeat (with_reducible first | exact blk_new _ | refine blk_new' _ (by simp only [size_alloc]) | refine blk_drewN ?_ _ | refine blk_drew ?_ | refine blk_alloc ?_ _ | refine blk_below ?_ HB3.out))
  have BB_g0 := Aside0.mk NB_g0
  have lt_g0 := blk_lt NB_g0
  have rd_g0 := blk_cell NB_g0
  clear NB_g0
  clear hb
  have AP_G0_r_t_ch_G1_r_t_ch := Aside0.mk (show ∀ b, (Value.slice G0_r_t_ch r_t_ch.length g0_r_t_ch).ownBlock = some b → (Value.slice G1_r_t_ch r_t_ch.length g1_r_t_ch).ownBlock = some b → False from fun b h1 h2 => by have e1 := LO_G0_r_t_ch.out b h1; have e2 := HI_G0_r_t_ch.out b h1; have e3 := LO_G1_r_t_ch.out b h2; have e4 := HI_G1_r_t_ch.out b h2; omega)
  have AP_G0_r_t_ch_G1_r_t_hs := Aside0.mk (show ∀ b, (Value.slice G0_r_t_ch r_t_ch.length g0_r_t_ch).ownBlock = some b → (Value.slice G1_r_t_hs r_t_hs.length g1_r_t_hs).ownBlock = some b → False from fun b h1 h2 => by have e1 := LO_G0_r_t_ch.out b h1; have e2 := HI_G0_r_t_ch.out b h1; have e3 := LO_G1_r_t_hs.out b h2; have e4 := HI_G1_r_t_hs.out b h2; omega)
  have AP_G0_r_t_hs_G1_r_t_ch := Aside0.mk (show ∀ b, (Value.slice G0_r_t_hs r_t_hs.length g0_r_t_hs).ownBlock = some b → (Value.slice G1_r_t_ch r_t_ch.length g1_r_t_ch).ownBlock = some b → False from fun b h1 h2 => by have e1 := LO_G0_r_t_hs.out b h1; have e2 := HI_G0_r_t_hs.out b h1; have e3 := LO_G1_r_t_ch.out b h2; have e4 := HI_G1_r_t_ch.out b h2; omega)
  have AP_G0_r_t_hs_G1_r_t_hs := Aside0.mk (show ∀ b, (Value.slice G0_r_t_hs r_t_hs.length g0_r_t_hs).ownBlock = some b → (Value.slice G1_r_t_hs r_t_hs.length g1_r_t_hs).ownBlock = some b → False from fun b h1 h2 => by have e1 := LO_G0_r_t_hs.out b h1; have e2 := HI_G0_r_t_hs.out b h1; have e3 := LO_G1_r_t_hs.out b h2; have e4 := HI_G1_r_t_hs.out b h2; omega)
  have BX_G1_r_t_ch_w0 := Aside0.mk (show (Value.slice G1_r_t_ch r_t_ch.length g1_r_t_ch).ownBlock = some (w1.heap.size) → False from fun h => by have e1 := LO_G1_r_t_ch.out _ h; have e2 := HI_G1_r_t_ch.out _ h; omega)
  have BX_G1_r_t_ch_g0 := Aside0.mk (show (Value.slice G1_r_t_ch r_t_ch.length g1_r_t_ch).ownBlock = some (w2.heap.size) → False from fun h => by have e1 := LO_G1_r_t_ch.out _ h; have e2 := HI_G1_r_t_ch.out _ h; omega)
  have BX_G1_r_t_hs_w0 := Aside0.mk (show (Value.slice G1_r_t_hs r_t_hs.length g1_r_t_hs).ownBlock = some (w1.heap.size) → False from fun h => by have e1 := LO_G1_r_t_hs.out _ h; have e2 := HI_G1_r_t_hs.out _ h; omega)
  have BX_G1_r_t_hs_g0 := Aside0.mk (show (Value.slice G1_r_t_hs r_t_hs.length g1_r_t_hs).ownBlock = some (w2.heap.size) → False from fun h => by have e1 := LO_G1_r_t_hs.out _ h; have e2 := HI_G1_r_t_hs.out _ h; omega)
  go_wp2_with fail
  refine Calls.mono (markTermResult_c _ _ _ _ _ _ _ _ r_t_ch _ _ r_t_hs bs_G1 (1) _ (by omega) _ (by repeat (with_reducible first | exact HR_G1_r_t_ch.out | refine Kd.R_alloc ?_ _ | refine Kd.R_drewN ?_ _ | refine Kd.R_drew ?_ | refine Kd.R_below ?_ HB3.out )) (by repeat (with_reducible first | exact HR_G1_r_t_hs.out | refine Kd.R_alloc ?_ _ | refine Kd.R_drewN ?_ _ | refine Kd.R_drew ?_ | refine Kd.R_below ?_ HB3.out )) AP_G1_r_t_ch_G1_r_t_hs.out (by omega)) ?_
  rintro e w4 ⟨rfl, r_G1_r_t_ch, r_G1_r_t_hs, hu⟩
  clear HR_G1_r_t_ch HK_G1_r_t_ch
  have HR_G1_r_t_ch := Aside0.mk r_G1_r_t_ch
  have HK_G1_r_t_ch := Aside0.mk (R_readsn r_G1_r_t_ch)
  clear r_G1_r_t_ch
  clear HR_G1_r_t_hs HK_G1_r_t_hs
  have HR_G1_r_t_hs := Aside0.mk r_G1_r_t_hs
  have HK_G1_r_t_hs := Aside0.mk (R_readsn r_G1_r_t_hs)
  clear r_G1_r_t_hs
  have U4 := Aside0.mk hu
  have sz4 := hu.size
  (try simp only [size_alloc, size_drew, size_drewN] at sz4)
  have NB_w0 : w4.heap[w1.heap.size]? = some (.cells #[.int .i64 r_co, .int .i64 r_t_wi, .int .i64 r_t_ro, .int .i64 r_t_y, .int .i64 r_t_x, .bool r_t_hi, .slice G0_r_t_ch r_t_ch.length g0_r_t_ch, .slice G0_r_t_hs r_t_hs.length g0_r_t_hs] 52 (0, 0)) := (by repeat (with_reducible first | exact BB_w0.out | exact blk_new _ | refine blk_new' _ (by simp only [size_alloc]) | refine blk_drewN ?_ _ | refine blk_drew ?_ | refine blk_alloc ?_ _ | refine blk_upd ?_ U4.out (fun hS => by rcases hS with hS | hS <;> first | exact BX_G1_r_t_ch_w0.out hS | exact BX_G1_r_t_hs_w0.out hS) ))
  clear BB_w0 lt_w0 rd_w0
  have BB_w0 := Aside0.mk NB_w0
  have lt_w0 := blk_lt NB_w0
  have rd_w0 := blk_cell NB_w0
  clear NB_w0
  have NB_g0 : w4.heap[w2.heap.size]? = some (.cells #[.int .i64 r_co, .int .i64 r_t_wi, .int .i64 r_t_ro, .int .i64 r_t_y, .int .i64 r_t_x, .bool r_t_hi, .slice G1_r_t_ch r_t_ch.length g1_r_t_ch, .slice G1_r_t_hs r_t_hs.length g1_r_t_hs] 52 (0, 0)) := (by repeat (with_reducible first | exact BB_g0.out | exact blk_new _ | refine blk_new' _ (by simp only [size_alloc]) | refine blk_drewN ?_ _ | refine blk_drew ?_ | refine blk_alloc ?_ _ | refine blk_upd ?_ U4.out (fun hS => by rcases hS with hS | hS <;> first | exact BX_G1_r_t_ch_g0.out hS | exact BX_G1_r_t_hs_g0.out hS) ))
  clear BB_g0 lt_g0 rd_g0
  have BB_g0 := Aside0.mk NB_g0
  have lt_g0 := blk_lt NB_g0
  have rd_g0 := blk_cell NB_g0
  clear NB_g0
  clear hu
  have hm0 : decide ((1 + (r_t_ch.length : Int) + (r_t_hs.length : Int) : Int) < 0) = false := decide_eq_false (by omega)
  go_wp2_with fail
  refine Calls.mono (heldTermResult_c _ _ _ _ _ _ _ r_t_ch.length _ _ r_t_hs.length _ 1 _ (by omega) _ (by repeat (with_reducible first | exact HK_G1_r_t_ch.out | refine Kd.C_alloc ?_ _ | refine Kd.C_drewN ?_ _ | refine Kd.C_drew ?_ )) (by repeat (with_reducible first | exact HK_G1_r_t_hs.out | refine Kd.C_alloc ?_ _ | refine Kd.C_drewN ?_ _ | refine Kd.C_drew ?_ )) (by omega)) ?_
  rintro e w5 ⟨rfl, hb⟩
  have HB5 := Aside0.mk hb
  have sz5 := hb.size
  (try simp only [size_alloc, size_drew, size_drewN] at sz5)
  have NB_w0 : w5.heap[w1.heap.size]? = some (.cells #[.int .i64 r_co, .int .i64 r_t_wi, .int .i64 r_t_ro, .int .i64 r_t_y, .int .i64 r_t_x, .bool r_t_hi, .slice G0_r_t_ch r_t_ch.length g0_r_t_ch, .slice G0_r_t_hs r_t_hs.length g0_r_t_hs] 52 (0, 0)) := (by repeat (with_reducible first | exact BB_w0.out | exact blk_new _ | refine blk_new' _ (by simp only [size_alloc]) | refine blk_drewN ?_ _ | refine blk_drew ?_ | refine blk_alloc ?_ _ | refine blk_below ?_ HB5.out ))
  clear BB_w0 lt_w0 rd_w0
  have BB_w0 := Aside0.mk NB_w0
  have lt_w0 := blk_lt NB_w0
  have rd_w0 := blk_cell NB_w0
  clear NB_w0
  have NB_g0 : w5.heap[w2.heap.size]? = some (.cells #[.int .i64 r_co, .int .i64 r_t_wi, .int .i64 r_t_ro, .int .i64 r_t_y, .int .i64 r_t_x, .bool r_t_hi, .slice G1_r_t_ch r_t_ch.length g1_r_t_ch, .slice G1_r_t_hs r_t_hs.length g1_r_t_hs] 52 (0, 0)) := (by repeat (with_reducible first | exact BB_g0.out | exact blk_new _ | refine blk_new' _ (by simp only [size_alloc]) | refine blk_drewN ?_ _ | refine blk_drew ?_ | refine blk_alloc ?_ _ | refine blk_below ?_ HB5.out ))
  clear BB_g0 lt_g0 rd_g0
  have BB_g0 := Aside0.mk NB_g0
  have lt_g0 := blk_lt NB_g0
  have rd_g0 := blk_cell NB_g0
  clear NB_g0
  clear hb
  go_wp2_with fail
  refine Calls.mono (NewTerm_c rows width _   ) ?_
  rintro e w6 ⟨G2_r_t_ch, g2_r_t_ch, G2_r_t_hs, g2_r_t_hs, he, le_G2_r_t_ch, r_G2_r_t_ch, le_G2_r_t_hs, r_G2_r_t_hs, hb⟩
  rw [hval.out] at he
  (try dsimp only at he)
  subst he
  rw [hval.out] at le_G2_r_t_ch r_G2_r_t_ch
  (try dsimp only at le_G2_r_t_ch r_G2_r_t_ch)
  rw [hval.out] at le_G2_r_t_hs r_G2_r_t_hs
  (try dsimp only at le_G2_r_t_hs r_G2_r_t_hs)
  have HR_G2_r_t_ch := Aside0.mk r_G2_r_t_ch
  have HK_G2_r_t_ch := Aside0.mk (Kd.R_reads' r_G2_r_t_ch).2.2
  have LO_G2_r_t_ch := Aside0.mk (Kd.R_base r_G2_r_t_ch)
  have HI_G2_r_t_ch := Aside0.mk (Kd.R_lt r_G2_r_t_ch)
  (try simp only [size_alloc, size_drew, size_drewN] at LO_G2_r_t_ch)
  have HR_G2_r_t_hs := Aside0.mk r_G2_r_t_hs
  have HK_G2_r_t_hs := Aside0.mk (Kd.R_reads' r_G2_r_t_hs).2.2
  have LO_G2_r_t_hs := Aside0.mk (Kd.R_base r_G2_r_t_hs)
  have HI_G2_r_t_hs := Aside0.mk (Kd.R_lt r_G2_r_t_hs)
  (try simp only [size_alloc, size_drew, size_drewN] at LO_G2_r_t_hs)
  clear r_G2_r_t_ch r_G2_r_t_hs
  have HB6 := Aside0.mk hb
  have sz6 := hb.size
  (try simp only [size_alloc, size_drew, size_drewN] at sz6)
  have NB_w0 : w6.heap[w1.heap.size]? = some (.cells #[.int .i64 r_co, .int .i64 r_t_wi, .int .i64 r_t_ro, .int .i64 r_t_y, .int .i64 r_t_x, .bool r_t_hi, .slice G0_r_t_ch r_t_ch.length g0_r_t_ch, .slice G0_r_t_hs r_t_hs.length g0_r_t_hs] 52 (0, 0)) := (by repeat (with_reducible first | exact BB_w0.out | exact blk_new _ | refine blk_new' _ (by simp only [size_alloc]) | refine blk_drewN ?_ _ | refine blk_drew ?_ | refine blk_alloc ?_ _ | refine blk_below ?_ HB6.out ))
  clear BB_w0 lt_w0 rd_w0
  have BB_w0 := Aside0.mk NB_w0
  have lt_w0 := blk_lt NB_w0
  have rd_w0 := blk_cell NB_w0
  clear NB_w0
  have NB_g0 : w6.heap[w2.heap.size]? = some (.cells #[.int .i64 r_co, .int .i64 r_t_wi, .int .i64 r_t_ro, .int .i64 r_t_y, .int .i64 r_t_x, .bool r_t_hi, .slice G1_r_t_ch r_t_ch.length g1_r_t_ch, .slice G1_r_t_hs r_t_hs.length g1_r_t_hs] 52 (0, 0)) := (by repeat (with_reducible first | exact BB_g0.out | exact blk_new _ | refine blk_new' _ (by simp only [size_alloc]) | refine blk_drewN ?_ _ | refine blk_drew ?_ | refine blk_alloc ?_ _ | refine blk_below ?_ HB6.out ))
  clear BB_g0 lt_g0 rd_g0
  have BB_g0 := Aside0.mk NB_g0
  have lt_g0 := blk_lt NB_g0
  have rd_g0 := blk_cell NB_g0
  clear NB_g0
  clear hb
  go_wp2_with fail
  refine Calls.mono (eqTermResult_c _ _ _ _ _ _ _ _ r_t_ch _ _ r_t_hs _ _ _ _ _ _ _ _ r_t_ch _ _ r_t_hs _ (by repeat (with_reducible first | exact HK_G2_r_t_ch.out | refine Kd.C_alloc ?_ _ | refine Kd.C_drewN ?_ _ | refine Kd.C_drew ?_ )) (by repeat (with_reducible first | exact HK_G2_r_t_hs.out | refine Kd.C_alloc ?_ _ | refine Kd.C_drewN ?_ _ | refine Kd.C_drew ?_ )) (by repeat (with_reducible first | exact HK_G0_r_t_ch.out | refine Kd.C_alloc ?_ _ | refine Kd.C_drewN ?_ _ | refine Kd.C_drew ?_ | refine Kd.C_below ?_ HB6.out | refine Kd.C_below ?_ HB5.out | refine C_updI g0_r_t_ch ?_ U4.out (fun b h1 hS => by rcases hS with hS | hS <;> first | exact AP_G0_r_t_ch_G1_r_t_ch.out b h1 hS | exact AP_G0_r_t_ch_G1_r_t_hs.out b h1 hS) | refine Kd.C_below ?_ HB3.out | refine Kd.C_below ?_ HB2.out )) (by repeat (with_reducible first | exact HK_G0_r_t_hs.out | refine Kd.C_alloc ?_ _ | refine Kd.C_drewN ?_ _ | refine Kd.C_drew ?_ | refine Kd.C_below ?_ HB6.out | refine Kd.C_below ?_ HB5.out | refine C_updB g0_r_t_hs ?_ U4.out (fun b h1 hS => by rcases hS with hS | hS <;> first | exact AP_G0_r_t_hs_G1_r_t_ch.out b h1 hS | exact AP_G0_r_t_hs_G1_r_t_hs.out b h1 hS) | refine Kd.C_below ?_ HB3.out | refine Kd.C_below ?_ HB2.out ))) ?_
  rintro e w7 ⟨rfl, hb⟩
  have HB7 := Aside0.mk hb
  have sz7 := hb.size
  (try simp only [size_alloc, size_drew, size_drewN] at sz7)
  have NB_w0 : w7.heap[w1.heap.size]? = some (.cells #[.int .i64 r_co, .int .i64 r_t_wi, .int .i64 r_t_ro, .int .i64 r_t_y, .int .i64 r_t_x, .bool r_t_hi, .slice G0_r_t_ch r_t_ch.length g0_r_t_ch, .slice G0_r_t_hs r_t_hs.length g0_r_t_hs] 52 (0, 0)) := (by repeat (with_reducible first | exact BB_w0.out | exact blk_new _ | refine blk_new' _ (by simp only [size_alloc]) | refine blk_drewN ?_ _ | refine blk_drew ?_ | refine blk_alloc ?_ _ | refine blk_below ?_ HB7.out ))
  clear BB_w0 lt_w0 rd_w0
  have BB_w0 := Aside0.mk NB_w0
  have lt_w0 := blk_lt NB_w0
  have rd_w0 := blk_cell NB_w0
  clear NB_w0
  have NB_g0 : w7.heap[w2.heap.size]? = some (.cells #[.int .i64 r_co, .int .i64 r_t_wi, .int .i64 r_t_ro, .int .i64 r_t_y, .int .i64 r_t_x, .bool r_t_hi, .slice G1_r_t_ch r_t_ch.length g1_r_t_ch, .slice G1_r_t_hs r_t_hs.length g1_r_t_hs] 52 (0, 0)) := (by repeat (with_reducible first | exact BB_g0.out | exact blk_new _ | refine blk_new' _ (by simp only [size_alloc]) | refine blk_drewN ?_ _ | refine blk_drew ?_ | refine blk_alloc ?_ _ | refine blk_below ?_ HB7.out ))
  clear BB_g0 lt_g0 rd_g0
  have BB_g0 := Aside0.mk NB_g0
  have lt_g0 := blk_lt NB_g0
  have rd_g0 := blk_cell NB_g0
  clear NB_g0
  have NB_h0 : w7.heap[w6.heap.size]? = some (.cells #[.int .i64 r_co, .int .i64 r_t_wi, .int .i64 r_t_ro, .int .i64 r_t_y, .int .i64 r_t_x, .bool r_t_hi, .slice G2_r_t_ch r_t_ch.length g2_r_t_ch, .slice G2_r_t_hs r_t_hs.length g2_r_t_hs] 52 (0, 0)) := (by repeat (with_reducible first | exact blk_new _ | refine blk_new' _ (by simp only [size_alloc]) | refine blk_drewN ?_ _ | refine blk_drew ?_ | refine blk_alloc ?_ _ | refine blk_below ?_ HB7.out))
  have BB_h0 := Aside0.mk NB_h0
  have lt_h0 := blk_lt NB_h0
  have rd_h0 := blk_cell NB_h0
  clear NB_h0
  clear hb
  go_wp2_with fail
  refine Calls.mono (heldTermResult_c _ _ _ _ _ _ _ r_t_ch.length _ _ r_t_hs.length _ 1 _ (by omega) _ (by repeat (with_reducible first | exact HK_G1_r_t_ch.out | refine Kd.C_alloc ?_ _ | refine Kd.C_drewN ?_ _ | refine Kd.C_drew ?_ | refine Kd.C_below ?_ HB7.out | refine Kd.C_below ?_ HB6.out | refine Kd.C_below ?_ HB5.out )) (by repeat (with_reducible first | exact HK_G1_r_t_hs.out | refine Kd.C_alloc ?_ _ | refine Kd.C_drewN ?_ _ | refine Kd.C_drew ?_ | refine Kd.C_below ?_ HB7.out | refine Kd.C_below ?_ HB6.out | refine Kd.C_below ?_ HB5.out )) (by omega)) ?_
  rintro e w8 ⟨rfl, hb⟩
  have HB8 := Aside0.mk hb
  have sz8 := hb.size
  (try simp only [size_alloc, size_drew, size_drewN] at sz8)
  have NB_w0 : w8.heap[w1.heap.size]? = some (.cells #[.int .i64 r_co, .int .i64 r_t_wi, .int .i64 r_t_ro, .int .i64 r_t_y, .int .i64 r_t_x, .bool r_t_hi, .slice G0_r_t_ch r_t_ch.length g0_r_t_ch, .slice G0_r_t_hs r_t_hs.length g0_r_t_hs] 52 (0, 0)) := (by repeat (with_reducible first | exact BB_w0.out | exact blk_new _ | refine blk_new' _ (by simp only [size_alloc]) | refine blk_drewN ?_ _ | refine blk_drew ?_ | refine blk_alloc ?_ _ | refine blk_below ?_ HB8.out ))
  clear BB_w0 lt_w0 rd_w0
  have BB_w0 := Aside0.mk NB_w0
  have lt_w0 := blk_lt NB_w0
  have rd_w0 := blk_cell NB_w0
  clear NB_w0
  have NB_g0 : w8.heap[w2.heap.size]? = some (.cells #[.int .i64 r_co, .int .i64 r_t_wi, .int .i64 r_t_ro, .int .i64 r_t_y, .int .i64 r_t_x, .bool r_t_hi, .slice G1_r_t_ch r_t_ch.length g1_r_t_ch, .slice G1_r_t_hs r_t_hs.length g1_r_t_hs] 52 (0, 0)) := (by repeat (with_reducible first | exact BB_g0.out | exact blk_new _ | refine blk_new' _ (by simp only [size_alloc]) | refine blk_drewN ?_ _ | refine blk_drew ?_ | refine blk_alloc ?_ _ | refine blk_below ?_ HB8.out ))
  clear BB_g0 lt_g0 rd_g0
  have BB_g0 := Aside0.mk NB_g0
  have lt_g0 := blk_lt NB_g0
  have rd_g0 := blk_cell NB_g0
  clear NB_g0
  have NB_h0 : w8.heap[w6.heap.size]? = some (.cells #[.int .i64 r_co, .int .i64 r_t_wi, .int .i64 r_t_ro, .int .i64 r_t_y, .int .i64 r_t_x, .bool r_t_hi, .slice G2_r_t_ch r_t_ch.length g2_r_t_ch, .slice G2_r_t_hs r_t_hs.length g2_r_t_hs] 52 (0, 0)) := (by repeat (with_reducible first | exact BB_h0.out | exact blk_new _ | refine blk_new' _ (by simp only [size_alloc]) | refine blk_drewN ?_ _ | refine blk_drew ?_ | refine blk_alloc ?_ _ | refine blk_below ?_ HB8.out ))
  clear BB_h0 lt_h0 rd_h0
  have BB_h0 := Aside0.mk NB_h0
  have lt_h0 := blk_lt NB_h0
  have rd_h0 := blk_cell NB_h0
  clear NB_h0
  clear hb
  go_wp2
  go_ret
  exact ⟨rfl, (by repeat (with_reducible first | exact Below.refl _ _ | refine below_alloc ?_ _ | refine below_drew ?_ | refine pw_below_drewN ?_ _ | refine below_end ?_ HB8.out | refine below_end ?_ HB7.out | refine below_end ?_ HB6.out | refine below_end ?_ HB5.out | refine below_upd ?_ U4.out (fun b hlt hS => by rcases hS with hS | hS <;> first | (have := LO_G1_r_t_ch.out b hS; omega) | (have := LO_G1_r_t_hs.out b hS; omega)) | refine below_end ?_ HB3.out | refine below_end ?_ HB2.out | refine below_end ?_ HB1.out ))⟩
end Go.Proofs.Ytpfponhaofdbaaa.M
