import Derived.Test.YtpfponhaofdbaaaDoorB2
import Derived.Test.YtpfponhaofdbaaaDoorBL
set_option linter.unusedVariables false
set_option linter.unusedSimpArgs false
namespace Go.Proofs.YtpfponhaofdbaaaDoor.M
open Go.RowKit Go.Proofs.YtpfponhaofdbaaaDoorW.PrintWords
set_option maxRecDepth 100000 in
set_option maxHeartbeats 1000000 in
theorem law_MoveBytes_c (y : Int) (x : Int) (w : World)   :
    Calls Tryd.prog 3 #[.int .i64 y, .int .i64 x] w fun e w' => e = .returned (.bool true) ∧ Below w.heap.size w w' := by
  obtain ⟨r_co, r_bs, hval⟩ : ∃ r_co r_bs, Aside0 (moveRes y x = (r_co, r_bs)) := ⟨_, _, ⟨rfl⟩⟩
  have hlen := moveRes_len y x
  rw [hval.out] at hlen
  (try dsimp only at hlen)
  go_enter Tryd.func3, Tryd.ntmps3
  have hveq : eqv (r_co, r_bs) (r_co, r_bs) = true := eqv_self _
  go_wp2_with fail
  refine Calls.mono (specMoveBytes_c y x _   ) ?_
  rintro e w1 ⟨G0_r_bs, g0_r_bs, he, le_G0_r_bs, r_G0_r_bs, hb⟩
  rw [hval.out] at he
  (try dsimp only at he)
  subst he
  rw [hval.out] at le_G0_r_bs r_G0_r_bs
  (try dsimp only at le_G0_r_bs r_G0_r_bs)
  have HR_G0_r_bs := Aside0.mk r_G0_r_bs
  have HK_G0_r_bs := Aside0.mk (OB_reads' r_G0_r_bs).2.2
  have LO_G0_r_bs := Aside0.mk (OB_base r_G0_r_bs)
  have HI_G0_r_bs := Aside0.mk (OB_lt r_G0_r_bs)
  (try simp only [size_alloc, size_drew, size_drewN] at LO_G0_r_bs)
  clear r_G0_r_bs
  have HB1 := Aside0.mk hb
  have sz1 := hb.size
  (try simp only [size_alloc, size_drew, size_drewN] at sz1)
  clear hb
  go_wp2_with fail
  refine Calls.mono (MoveBytes_c y x _   ) ?_
  rintro e w2 ⟨G1_r_bs, g1_r_bs, he, le_G1_r_bs, r_G1_r_bs, hb⟩
  rw [hval.out] at he
  (try dsimp only at he)
  subst he
  rw [hval.out] at le_G1_r_bs r_G1_r_bs
  (try dsimp only at le_G1_r_bs r_G1_r_bs)
  have HR_G1_r_bs := Aside0.mk r_G1_r_bs
  have HK_G1_r_bs := Aside0.mk (OB_reads' r_G1_r_bs).2.2
  have LO_G1_r_bs := Aside0.mk (OB_base r_G1_r_bs)
  have HI_G1_r_bs := Aside0.mk (OB_lt r_G1_r_bs)
  (try simp only [size_alloc, size_drew, size_drewN] at LO_G1_r_bs)
  obtain ⟨bs_G1, rb_r_bs⟩ : ∃ b, OB w2 b (Value.slice G1_r_bs r_bs.length g1_r_bs) r_bs := ⟨_, r_G1_r_bs⟩
  clear HR_G1_r_bs
  have HR_G1_r_bs := Aside0.mk rb_r_bs
  clear rb_r_bs
  clear r_G1_r_bs
  have HB2 := Aside0.mk hb
  have sz2 := hb.size
  (try simp only [size_alloc, size_drew, size_drewN] at sz2)
  have NB_w0 : w2.heap[w1.heap.size]? = some (.cells #[.int .i64 r_co, .slice G0_r_bs r_bs.length g0_r_bs] 24 (0, 0)) := (by repeat (with_reducible first | exact blk_new _ | refine blk_new' _ (by simp only [size_alloc]) | refine blk_drewN ?_ _ | refine blk_drew ?_ | refine blk_alloc ?_ _ | refine blk_below ?_ HB2.out))
  have BB_w0 := Aside0.mk NB_w0
  have lt_w0 := blk_lt NB_w0
  have rd_w0 := blk_cell NB_w0
  clear NB_w0
  clear hb
  go_wp2_with fail
  refine Calls.mono (eqBytesResult_c _ _ _ r_bs _ _ _ r_bs _ (by repeat (with_reducible first | exact HK_G1_r_bs.out | refine Kd.C_alloc ?_ _ | refine Kd.C_drewN ?_ _ | refine Kd.C_drew ?_ )) (by repeat (with_reducible first | exact HK_G0_r_bs.out | refine Kd.C_alloc ?_ _ | refine Kd.C_drewN ?_ _ | refine Kd.C_drew ?_ | refine Kd.C_below ?_ HB2.out ))) ?_
  rintro e w3 ⟨rfl, hb⟩
  have HB3 := Aside0.mk hb
  have sz3 := hb.size
  (try simp only [size_alloc, size_drew, size_drewN] at sz3)
  have NB_w0 : w3.heap[w1.heap.size]? = some (.cells #[.int .i64 r_co, .slice G0_r_bs r_bs.length g0_r_bs] 24 (0, 0)) := (by repeat (with_reducible first | exact BB_w0.out | exact blk_new _ | refine blk_new' _ (by simp only [size_alloc]) | refine blk_drewN ?_ _ | refine blk_drew ?_ | refine blk_alloc ?_ _ | refine blk_below ?_ HB3.out ))
  clear BB_w0 lt_w0 rd_w0
  have BB_w0 := Aside0.mk NB_w0
  have lt_w0 := blk_lt NB_w0
  have rd_w0 := blk_cell NB_w0
  clear NB_w0
  have NB_g0 : w3.heap[w2.heap.size]? = some (.cells #[.int .i64 r_co, .slice G1_r_bs r_bs.length g1_r_bs] 24 (0, 0)) := (by repeat (with_reducible first | exact blk_new _ | refine blk_new' _ (by simp only [size_alloc]) | refine blk_drewN ?_ _ | refine blk_drew ?_ | refine blk_alloc ?_ _ | refine blk_below ?_ HB3.out))
  have BB_g0 := Aside0.mk NB_g0
  have lt_g0 := blk_lt NB_g0
  have rd_g0 := blk_cell NB_g0
  clear NB_g0
  clear hb
  have AP_G0_r_bs_G1_r_bs := Aside0.mk (show ∀ b, (Value.slice G0_r_bs r_bs.length g0_r_bs).ownBlock = some b → (Value.slice G1_r_bs r_bs.length g1_r_bs).ownBlock = some b → False from fun b h1 h2 => by have e1 := LO_G0_r_bs.out b h1; have e2 := HI_G0_r_bs.out b h1; have e3 := LO_G1_r_bs.out b h2; have e4 := HI_G1_r_bs.out b h2; omega)
  have BX_G1_r_bs_w0 := Aside0.mk (show (Value.slice G1_r_bs r_bs.length g1_r_bs).ownBlock = some (w1.heap.size) → False from fun h => by have e1 := LO_G1_r_bs.out _ h; have e2 := HI_G1_r_bs.out _ h; omega)
  have BX_G1_r_bs_g0 := Aside0.mk (show (Value.slice G1_r_bs r_bs.length g1_r_bs).ownBlock = some (w2.heap.size) → False from fun h => by have e1 := LO_G1_r_bs.out _ h; have e2 := HI_G1_r_bs.out _ h; omega)
  go_wp2_with fail
  refine Calls.mono (markBytesResultO_c _ _ _ r_bs bs_G1 (1) _ (by omega) _ (by repeat (with_reducible first | exact HR_G1_r_bs.out | refine OB_alloc ?_ _ | refine OB_drewN ?_ _ | refine OB_drew ?_ | refine OB_below ?_ HB3.out ))  (by omega)) ?_
  rintro e w4 ⟨rfl, r_G1_r_bs, hu⟩
  clear HR_G1_r_bs HK_G1_r_bs
  have HR_G1_r_bs := Aside0.mk r_G1_r_bs
  have HK_G1_r_bs := Aside0.mk (OB_readsn r_G1_r_bs)
  clear r_G1_r_bs
  have U4 := Aside0.mk hu
  have sz4 := hu.size
  (try simp only [size_alloc, size_drew, size_drewN] at sz4)
  have NB_w0 : w4.heap[w1.heap.size]? = some (.cells #[.int .i64 r_co, .slice G0_r_bs r_bs.length g0_r_bs] 24 (0, 0)) := (by repeat (with_reducible first | exact BB_w0.out | exact blk_new _ | refine blk_new' _ (by simp only [size_alloc]) | refine blk_drewN ?_ _ | refine blk_drew ?_ | refine blk_alloc ?_ _ | refine blk_upd ?_ U4.out (fun hS => by first | exact BX_G1_r_bs_w0.out hS) ))
  clear BB_w0 lt_w0 rd_w0
  have BB_w0 := Aside0.mk NB_w0
  have lt_w0 := blk_lt NB_w0
  have rd_w0 := blk_cell NB_w0
  clear NB_w0
  have NB_g0 : w4.heap[w2.heap.size]? = some (.cells #[.int .i64 r_co, .slice G1_r_bs r_bs.length g1_r_bs] 24 (0, 0)) := (by repeat (with_reducible first | exact BB_g0.out | exact blk_new _ | refine blk_new' _ (by simp only [size_alloc]) | refine blk_drewN ?_ _ | refine blk_drew ?_ | refine blk_alloc ?_ _ | refine blk_upd ?_ U4.out (fun hS => by first | exact BX_G1_r_bs_g0.out hS) ))
  clear BB_g0 lt_g0 rd_g0
  have BB_g0 := Aside0.mk NB_g0
  have lt_g0 := blk_lt NB_g0
  have rd_g0 := blk_cell NB_g0
  clear NB_g0
  clear hu
  have hm0 : decide ((1 + (r_bs.length : Int) : Int) < 0) = false := decide_eq_false (by omega)
  go_wp2_with fail
  refine Calls.mono (heldBytesResult_c _ _ r_bs.length _ 1 _ (by omega) _ (by repeat (with_reducible first | exact HK_G1_r_bs.out | refine Kd.C_alloc ?_ _ | refine Kd.C_drewN ?_ _ | refine Kd.C_drew ?_ )) (by omega)) ?_
  rintro e w5 ⟨rfl, hb⟩
  have HB5 := Aside0.mk hb
  have sz5 := hb.size
  (try simp only [size_alloc, size_drew, size_drewN] at sz5)
  have NB_w0 : w5.heap[w1.heap.size]? = some (.cells #[.int .i64 r_co, .slice G0_r_bs r_bs.length g0_r_bs] 24 (0, 0)) := (by repeat (with_reducible first | exact BB_w0.out | exact blk_new _ | refine blk_new' _ (by simp only [size_alloc]) | refine blk_drewN ?_ _ | refine blk_drew ?_ | refine blk_alloc ?_ _ | refine blk_below ?_ HB5.out ))
  clear BB_w0 lt_w0 rd_w0
  have BB_w0 := Aside0.mk NB_w0
  have lt_w0 := blk_lt NB_w0
  have rd_w0 := blk_cell NB_w0
  clear NB_w0
  have NB_g0 : w5.heap[w2.heap.size]? = some (.cells #[.int .i64 r_co, .slice G1_r_bs r_bs.length g1_r_bs] 24 (0, 0)) := (by repeat (with_reducible first | exact BB_g0.out | exact blk_new _ | refine blk_new' _ (by simp only [size_alloc]) | refine blk_drewN ?_ _ | refine blk_drew ?_ | refine blk_alloc ?_ _ | refine blk_below ?_ HB5.out ))
  clear BB_g0 lt_g0 rd_g0
  have BB_g0 := Aside0.mk NB_g0
  have lt_g0 := blk_lt NB_g0
  have rd_g0 := blk_cell NB_g0
  clear NB_g0
  clear hb
  go_wp2_with fail
  refine Calls.mono (MoveBytes_c y x _   ) ?_
  rintro e w6 ⟨G2_r_bs, g2_r_bs, he, le_G2_r_bs, r_G2_r_bs, hb⟩
  rw [hval.out] at he
  (try dsimp only at he)
  subst he
  rw [hval.out] at le_G2_r_bs r_G2_r_bs
  (try dsimp only at le_G2_r_bs r_G2_r_bs)
  have HR_G2_r_bs := Aside0.mk r_G2_r_bs
  have HK_G2_r_bs := Aside0.mk (OB_reads' r_G2_r_bs).2.2
  have LO_G2_r_bs := Aside0.mk (OB_base r_G2_r_bs)
  have HI_G2_r_bs := Aside0.mk (OB_lt r_G2_r_bs)
  (try simp only [size_alloc, size_drew, size_drewN] at LO_G2_r_bs)
  clear r_G2_r_bs
  have HB6 := Aside0.mk hb
  have sz6 := hb.size
  (try simp only [size_alloc, size_drew, size_drewN] at sz6)
  have NB_w0 : w6.heap[w1.heap.size]? = some (.cells #[.int .i64 r_co, .slice G0_r_bs r_bs.length g0_r_bs] 24 (0, 0)) := (by repeat (with_reducible first | exact BB_w0.out | exact blk_new _ | refine blk_new' _ (by simp only [size_alloc]) | refine blk_drewN ?_ _ | refine blk_drew ?_ | refine blk_alloc ?_ _ | refine blk_below ?_ HB6.out ))
  clear BB_w0 lt_w0 rd_w0
  have BB_w0 := Aside0.mk NB_w0
  have lt_w0 := blk_lt NB_w0
  have rd_w0 := blk_cell NB_w0
  clear NB_w0
  have NB_g0 : w6.heap[w2.heap.size]? = some (.cells #[.int .i64 r_co, .slice G1_r_bs r_bs.length g1_r_bs] 24 (0, 0)) := (by repeat (with_reducible first | exact BB_g0.out | exact blk_new _ | refine blk_new' _ (by simp only [size_alloc]) | refine blk_drewN ?_ _ | refine blk_drew ?_ | refine blk_alloc ?_ _ | refine blk_below ?_ HB6.out ))
  clear BB_g0 lt_g0 rd_g0
  have BB_g0 := Aside0.mk NB_g0
  have lt_g0 := blk_lt NB_g0
  have rd_g0 := blk_cell NB_g0
  clear NB_g0
  clear hb
  go_wp2_with fail
  refine Calls.mono (eqBytesResult_c _ _ _ r_bs _ _ _ r_bs _ (by repeat (with_reducible first | exact HK_G2_r_bs.out | refine Kd.C_alloc ?_ _ | refine Kd.C_drewN ?_ _ | refine Kd.C_drew ?_ )) (by repeat (with_reducible first | exact HK_G0_r_bs.out | refine Kd.C_alloc ?_ _ | refine Kd.C_drewN ?_ _ | refine Kd.C_drew ?_ | refine Kd.C_below ?_ HB6.out | refine Kd.C_below ?_ HB5.out | refine C_updI g0_r_bs ?_ U4.out (fun b h1 hS => by first | exact AP_G0_r_bs_G1_r_bs.out b h1 hS) | refine Kd.C_below ?_ HB3.out | refine Kd.C_below ?_ HB2.out ))) ?_
  rintro e w7 ⟨rfl, hb⟩
  have HB7 := Aside0.mk hb
  have sz7 := hb.size
  (try simp only [size_alloc, size_drew, size_drewN] at sz7)
  have NB_w0 : w7.heap[w1.heap.size]? = some (.cells #[.int .i64 r_co, .slice G0_r_bs r_bs.length g0_r_bs] 24 (0, 0)) := (by repeat (with_reducible first | exact BB_w0.out | exact blk_new _ | refine blk_new' _ (by simp only [size_alloc]) | refine blk_drewN ?_ _ | refine blk_drew ?_ | refine blk_alloc ?_ _ | refine blk_below ?_ HB7.out ))
  clear BB_w0 lt_w0 rd_w0
  have BB_w0 := Aside0.mk NB_w0
  have lt_w0 := blk_lt NB_w0
  have rd_w0 := blk_cell NB_w0
  clear NB_w0
  have NB_g0 : w7.heap[w2.heap.size]? = some (.cells #[.int .i64 r_co, .slice G1_r_bs r_bs.length g1_r_bs] 24 (0, 0)) := (by repeat (with_reducible first | exact BB_g0.out | exact blk_new _ | refine blk_new' _ (by simp only [size_alloc]) | refine blk_drewN ?_ _ | refine blk_drew ?_ | refine blk_alloc ?_ _ | refine blk_below ?_ HB7.out ))
  clear BB_g0 lt_g0 rd_g0
  have BB_g0 := Aside0.mk NB_g0
  have lt_g0 := blk_lt NB_g0
  have rd_g0 := blk_cell NB_g0
  clear NB_g0
  have NB_h0 : w7.heap[w6.heap.size]? = some (.cells #[.int .i64 r_co, .slice G2_r_bs r_bs.length g2_r_bs] 24 (0, 0)) := (by repeat (with_reducible first | exact blk_new _ | refine blk_new' _ (by simp only [size_alloc]) | refine blk_drewN ?_ _ | refine blk_drew ?_ | refine blk_alloc ?_ _ | refine blk_below ?_ HB7.out))
  have BB_h0 := Aside0.mk NB_h0
  have lt_h0 := blk_lt NB_h0
  have rd_h0 := blk_cell NB_h0
  clear NB_h0
  clear hb
  go_wp2_with fail
  refine Calls.mono (heldBytesResult_c _ _ r_bs.length _ 1 _ (by omega) _ (by repeat (with_reducible first | exact HK_G1_r_bs.out | refine Kd.C_alloc ?_ _ | refine Kd.C_drewN ?_ _ | refine Kd.C_drew ?_ | refine Kd.C_below ?_ HB7.out | refine Kd.C_below ?_ HB6.out | refine Kd.C_below ?_ HB5.out )) (by omega)) ?_
  rintro e w8 ⟨rfl, hb⟩
  have HB8 := Aside0.mk hb
  have sz8 := hb.size
  (try simp only [size_alloc, size_drew, size_drewN] at sz8)
  have NB_w0 : w8.heap[w1.heap.size]? = some (.cells #[.int .i64 r_co, .slice G0_r_bs r_bs.length g0_r_bs] 24 (0, 0)) := (by repeat (with_reducible first | exact BB_w0.out | exact blk_new _ | refine blk_new' _ (by simp only [size_alloc]) | refine blk_drewN ?_ _ | refine blk_drew ?_ | refine blk_alloc ?_ _ | refine blk_below ?_ HB8.out ))
  clear BB_w0 lt_w0 rd_w0
  have BB_w0 := Aside0.mk NB_w0
  have lt_w0 := blk_lt NB_w0
  have rd_w0 := blk_cell NB_w0
  clear NB_w0
  have NB_g0 : w8.heap[w2.heap.size]? = some (.cells #[.int .i64 r_co, .slice G1_r_bs r_bs.length g1_r_bs] 24 (0, 0)) := (by repeat (with_reducible first | exact BB_g0.out | exact blk_new _ | refine blk_new' _ (by simp only [size_alloc]) | refine blk_drewN ?_ _ | refine blk_drew ?_ | refine blk_alloc ?_ _ | refine blk_below ?_ HB8.out ))
  clear BB_g0 lt_g0 rd_g0
  have BB_g0 := Aside0.mk NB_g0
  have lt_g0 := blk_lt NB_g0
  have rd_g0 := blk_cell NB_g0
  clear NB_g0
  have NB_h0 : w8.heap[w6.heap.size]? = some (.cells #[.int .i64 r_co, .slice G2_r_bs r_bs.length g2_r_bs] 24 (0, 0)) := (by repeat (with_reducible first | exact BB_h0.out | exact blk_new _ | refine blk_new' _ (by simp only [size_alloc]) | refine blk_drewN ?_ _ | refine blk_drew ?_ | refine blk_alloc ?_ _ | refine blk_below ?_ HB8.out ))
  clear BB_h0 lt_h0 rd_h0
  have BB_h0 := Aside0.mk NB_h0
  have lt_h0 := blk_lt NB_h0
  have rd_h0 := blk_cell NB_h0
  clear NB_h0
  clear hb
  go_wp2
  go_ret
  exact ⟨rfl, (by repeat (with_reducible first | exact Below.refl _ _ | refine below_alloc ?_ _ | refine below_drew ?_ | refine pw_below_drewN ?_ _ | refine below_end ?_ HB8.out | refine below_end ?_ HB7.out | refine below_end ?_ HB6.out | refine below_end ?_ HB5.out | refine below_upd ?_ U4.out (fun b hlt hS => by first | (have := LO_G1_r_bs.out b hS; omega)) | refine below_end ?_ HB3.out | refine below_end ?_ HB2.out | refine below_end ?_ HB1.out ))⟩
end Go.Proofs.YtpfponhaofdbaaaDoor.M
