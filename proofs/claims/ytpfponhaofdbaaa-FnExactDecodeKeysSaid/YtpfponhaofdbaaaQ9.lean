import Derived.Test.YtpfponhaofdbaaaQ8
set_option linter.unusedVariables false
set_option linter.unusedSimpArgs false
namespace Go.Proofs.Ytpfponhaofdbaaa.M
open Go.RowKit Go.Proofs.YtpfponhaofdbaaaW.PrintWords

set_option maxRecDepth 100000 in
set_option maxHeartbeats 4000000 in
theorem specDecodeKeys_c (A : Option Addr) (c : Nat) (d : List Int) (w : World) (hr : Kd.C (Kd.int .u8) w A d.length d) (hc : d.length ≤ c) (hb : ∀ z ∈ d, 0 ≤ z ∧ z ≤ 255) :
    Calls Try.prog 48 #[.slice A d.length c] w fun e w' => ∃ (A' : Option Addr) (c' : Nat), e = .returned (.agg #[.int .i64 (keysRes d).1, .int .i64 (keysRes d).2.1, .slice A' (keysRes d).2.2.length c']) ∧ (keysRes d).2.2.length ≤ c' ∧ Kd.R kC4 111 w' w.heap.size (fun _ => True) (.slice A' (keysRes d).2.2.length c') (keysRes d).2.2 ∧ Below w.heap.size w w' := by
  have HR := Aside0.mk hr
  have HBD := Aside0.mk hb
  have hmx := Kd.C_max hr
  clear hr hb
  by_cases h120 : 120 < d.length
  · have HQ := Aside0.mk (show keysRes d = (2, 0, []) from if_pos h120)
    have b1 : ((d.length : Int) > 120) := by omega
    go_enter Try.func48, Try.ntmps48
    go_wp2
    refine bodyPost_ret (v := .agg #[.int .i64 2, .int .i64 0, .slice none 0 0]) (by simp [results, Try.results48, go_sem]) rfl ⟨none, 0, ?_, ?_, ?_, (by repeat (with_reducible first | exact Below.refl _ _ | refine below_alloc ?_ _ | refine below_drew ?_ | refine pw_below_drewN ?_ _ | refine Below.setCell ?_ (by dsimp only; omega) _ ))⟩
    · rw [HQ.out]; rfl
    · rw [HQ.out]; exact Nat.le_refl _
    · rw [HQ.out]; exact Kd.R_nil _ _ _ _ _
  · have HQ := Aside0.mk (show keysRes d = (0, ((cmdsQ d d.length 0 []).2 : Int), (cmdsQ d d.length 0 []).1) from if_neg h120)
    have hl : d.length ≤ 120 := by omega
    clear h120
    go_enter Try.func48, Try.ntmps48
    go_wp2
    go_loopw [4] (fun i wr => ∃ (v : Value) (p f : Nat) (out : List DC4), i = .int .i64 p ∧ p ≤ d.length ∧ out.length ≤ p ∧ Aside0 (d.length - p ≤ f) ∧ Aside0 (cmdsQ d f p out = cmdsQ d d.length 0 []) ∧ Aside0 (Kd.R kC4 111 wr w.heap.size (fun _ => True) v out) ∧ Aside0 (Below w.heap.size w wr) ∧ Aside0 (wr.heap[w.heap.size]? = some (.cells #[.int .i64 0, .int .i64 0, .slice none 0 0] 70 (0, 0))) ∧ Aside0 (wr.heap[w.heap.size + 1]? = some (.cells #[.int .i64 0, .int .i64 0, v] 70 (0, 0)))) (fun i _ => d.length - (intOf i).toNat)
    case atStart => exact ⟨.slice none 0 0, 0, d.length, [], rfl, Nat.zero_le _, Nat.le_refl _, ⟨by omega⟩, ⟨rfl⟩, ⟨Kd.R_nil _ _ _ _ _⟩, ⟨(by repeat (with_reducible first | exact Below.refl _ _ | refine below_alloc ?_ _ | refine below_drew ?_ | refine pw_below_drewN ?_ _ | refine Below.setCell ?_ (by dsimp only; omega) _ ))⟩, ⟨blk_alloc (blk_new _) _⟩, ⟨blk_new' _ (by simp only [size_alloc])⟩⟩
    case round =>
      obtain ⟨v, p, f, out, rfl, hp, ho, HF, HE, HO, HB, BX, BY⟩ := hrel
      have rdb := blk_cell BX.out
      have frb := blk_free BX.out
      have ltb := blk_lt BX.out
      have rdy := blk_cell BY.out
      have fry := blk_free BY.out
      have lty := blk_lt BY.out
      have szb := HB.out.size
      by_cases hlt : p < d.length
      · have hkb := keysP_bd (d.drop p)
        rw [List.length_drop] at hkb
        rcases Int.lt_trichotomy (keysP (d.drop p)).2.2.2 0 with h0 | h0 | h0
        · have HN := Aside0.mk (cmdsQ_none (out := out) HF.out hlt h0)
          generalize hgu : (keysP (d.drop p)).2.2.2 = u at h0 hkb
          have HU := Aside0.mk hgu
          clear hgu
          have b1 : (u == 0) = false := by simp; omega
          go_wp2_with fail
          refine Calls.mono (l12One_c A c d p _ (by repeat (with_reducible first | exact HR.out | refine Kd.C_below ?_ HB.out)) hc (by omega) hp HBD.out) ?_
          rintro e w1 ⟨K, n, s, rfl, hk0, hb1⟩
          rw [HU.out]
          rw [HU.out] at hk0
          have HK := Aside0.mk hk0
          have BQ1 := Aside0.mk (blk_below BX.out hb1)
          have rdq := blk_cell BQ1.out
          have frq := blk_free BQ1.out
          have ltq := blk_lt BQ1.out
          have B21 := Aside0.mk (blk_below BY.out hb1)
          have rd2 := blk_cell B21.out
          have fr2 := blk_free B21.out
          have lt2 := blk_lt B21.out
          have sz1 := hb1.size
          have HB1 := Aside0.mk hb1
          clear hb1 hk0
          go_wp2
          go_roundw
          case rel => exact ⟨v, p + 1, f - 1, out, by go_num, by omega, by omega, ⟨HN.out.1⟩, ⟨HN.out.2.symm.trans HE.out⟩, ⟨by repeat (with_reducible first | exact HO.out | refine Kd.R_alloc ?_ _ | refine Kd.R_below ?_ HB1.out)⟩, ⟨(by repeat (with_reducible first | exact HB.out | refine below_alloc ?_ _ | refine below_end ?_ HB1.out))⟩, ⟨by repeat (with_reducible first | exact BQ1.out | refine blk_alloc ?_ _)⟩, ⟨by repeat (with_reducible first | exact B21.out | refine blk_alloc ?_ _)⟩⟩
          case measure => simp [intOf]; omega
        · have HQ2 := Aside0.mk (show keysRes d = (0, (p : Int), out) by rw [HQ.out, ← HE.out, cmdsQ_short h0])
          have HU := Aside0.mk h0
          clear h0 hkb
          go_wp2_with fail
          refine Calls.mono (l12One_c A c d p _ (by repeat (with_reducible first | exact HR.out | refine Kd.C_below ?_ HB.out)) hc (by omega) hp HBD.out) ?_
          rintro e w1 ⟨K, n, s, rfl, hk0, hb1⟩
          rw [HU.out]
          rw [HU.out] at hk0
          have HK := Aside0.mk hk0
          have BQ1 := Aside0.mk (blk_below BX.out hb1)
          have rdq := blk_cell BQ1.out
          have frq := blk_free BQ1.out
          have ltq := blk_lt BQ1.out
          have B21 := Aside0.mk (blk_below BY.out hb1)
          have rd2 := blk_cell B21.out
          have fr2 := blk_free B21.out
          have lt2 := blk_lt B21.out
          have sz1 := hb1.size
          have HB1 := Aside0.mk hb1
          clear hb1 hk0
          have BQ := BQ1
          have B2 := B21
          obtain ⟨A', c', e, hc', hcc⟩ := Kd.R_reads HO.out
          subst e
          have HCL := Aside0.mk hc'
          clear hc' hcc
          go_wp2
          refine bodyPost_ret (v := .agg #[.int .i64 0, .int .i64 p, .slice A' out.length c']) (by simp [results, Try.results48, go_sem, rdb, ltb, rdq, ltq, rd2, lt2]) rfl ⟨A', c', ?_, ?_, ?_, ?_⟩
          · rw [HQ2.out]
          · rw [HQ2.out]; exact HCL.out
          · rw [HQ2.out]; dsimp only
            repeat (with_reducible first | exact HO.out | refine Kd.R_alloc ?_ _ | refine Kd.R_below ?_ HB1.out | refine Kd.R_set ?_ (by first | exact BQ.out | exact blk_set BQ.out rfl | exact blk_set (blk_set BQ.out rfl) rfl | exact B2.out | exact blk_setO BQ.out (by omega) | exact blk_set (blk_setO BQ.out (by omega)) rfl | exact blk_set (blk_set (blk_setO BQ.out (by omega)) rfl) rfl) (fun q hq => kC4_ne hq (by decide)) _ _)
          · repeat (with_reducible first | exact HB.out | refine below_alloc ?_ _ | refine below_end ?_ HB1.out | refine Below.setCell ?_ (by dsimp only; omega) _)
        · have h0' : (keysP (d.drop p)).2.2.2 = (((keysP (d.drop p)).2.2.2.toNat : Nat) : Int) := by omega
          have HN := Aside0.mk (cmdsQ_some (out := out) HF.out hlt h0' (by omega))
          have HCO := Aside0.mk (show cmdOf (keysP (d.drop p)) = ((keysP (d.drop p)).1, (keysP (d.drop p)).2.1, 0, strOfNums (keysP (d.drop p)).2.2.1, ()) from rfl)
          generalize hgn : (keysP (d.drop p)).2.2.2.toNat = u at h0' HN
          have HU := Aside0.mk h0'
          have hu0 : 0 < u := by omega
          have hup : p + u ≤ d.length := by omega
          clear h0 h0' hkb hgn
          have b1 : ((u : Int) == 0) = false := by simp; omega
          have b2 : (u == 0) = false := by simp; omega
          go_wp2_with fail
          refine Calls.mono (l12One_c A c d p _ (by repeat (with_reducible first | exact HR.out | refine Kd.C_below ?_ HB.out)) hc (by omega) hp HBD.out) ?_
          rintro e w1 ⟨K, n, s, rfl, hk0, hb1⟩
          rw [HU.out]
          rw [HU.out] at hk0
          have HK := Aside0.mk hk0
          have BQ1 := Aside0.mk (blk_below BX.out hb1)
          have rdq := blk_cell BQ1.out
          have frq := blk_free BQ1.out
          have ltq := blk_lt BQ1.out
          have B21 := Aside0.mk (blk_below BY.out hb1)
          have rd2 := blk_cell B21.out
          have fr2 := blk_free B21.out
          have lt2 := blk_lt B21.out
          have sz1 := hb1.size
          have HB1 := Aside0.mk hb1
          clear hb1 hk0
          obtain ⟨hK1, hK2, hK3⟩ := HK.out (by omega)
          rw [← hK1, ← hK2, ← hK3] at HCO
          clear hK1 hK2 hK3 HK
          generalize cmdOf (keysP (d.drop p)) = cc at HN HCO
          go_wp2_with (at_builtin; refine Kd.R_append kC4 (w0 := w) w.heap.size rfl (.tmp 29) (.tmp 31) 68 111 (.agg #[.int .i64 0, .int .i64 0, .int .i64 0, .string ByteArray.empty]) 40 rfl Try.underlying68 infoC4 rfl (by decide) (by omega) v out (K, n, 0, s, ()) [.int .i64 K, .int .i64 n, .int .i64 0, .string s] (fun _ => True) (fun _ => False) (by rfl) (by rw [size_alloc]; rfl) (kC4_M _ _ _ _ _ _ _) (fun _ hk => hk.elim) (fun _ _ => trivial) (by repeat (with_reducible first | exact HO.out | refine Kd.R_alloc ?_ _ | refine Kd.R_below ?_ HB1.out)) (by repeat (with_reducible first | exact HB.out | refine below_alloc ?_ _ | refine below_end ?_ HB1.out)) (by simp only [size_alloc]; omega) (by omega) ?_; intro v1 w2 hR hB hg hat; obtain ⟨A3, c3, e3, he3, he4⟩ := Kd.R_reads hR; clear he3 he4; generalize (out ++ [(K, n, 0, s, ())]).length = L3 at e3; subst e3; have BQ2 := Aside0.mk (blk_grown (blk_alloc BQ1.out (.cells #[.int .i64 K, .int .i64 n, .int .i64 0, .string s] 111)) hg (fun h9 => row_box HO.out BX.out (by decide) h9.symm)); have B22 := Aside0.mk (blk_grown (blk_alloc B21.out (.cells #[.int .i64 K, .int .i64 n, .int .i64 0, .string s] 111)) hg (fun h9 => row_box HO.out BY.out (by decide) h9.symm)); have HR2 := Aside0.mk hR; have HB2 := Aside0.mk hB; have rd3 := blk_cell B22.out; have fr3 := blk_free B22.out; have lt3 := blk_lt B22.out; clear hR hB hg hat)
          go_roundw
          case rel => exact ⟨_, p + u, f - 1, out ++ [cc], by go_num, hup, by rw [List.length_append, List.length_singleton]; omega, ⟨HN.out.1⟩, ⟨HN.out.2.symm.trans HE.out⟩, ⟨by rw [HCO.out]; exact Kd.R_set HR2.out B22.out (fun q hq => kC4_ne hq (by decide)) _ _⟩, ⟨Below.setCell HB2.out (by dsimp only; omega) _⟩, ⟨blk_setO BQ2.out (by omega)⟩, ⟨blk_set B22.out rfl⟩⟩
          case measure => simp [intOf]; omega
      · have HQ2 := Aside0.mk (show keysRes d = (0, (p : Int), out) by rw [HQ.out, ← HE.out, cmdsQ_end (by omega)])
        have rdq := rdb
        have ltq := ltb
        have rd2 := rdy
        have lt2 := lty
        have BQ := BX
        have B2 := BY
        have HB1 := Aside0.mk (Below.refl w.heap.size w)
        obtain ⟨A', c', e, hc', hcc⟩ := Kd.R_reads HO.out
        subst e
        have HCL := Aside0.mk hc'
        clear hc' hcc
        go_wp2
        refine bodyPost_ret (v := .agg #[.int .i64 0, .int .i64 p, .slice A' out.length c']) (by simp [results, Try.results48, go_sem, rdb, ltb, rdq, ltq, rd2, lt2]) rfl ⟨A', c', ?_, ?_, ?_, ?_⟩
        · rw [HQ2.out]
        · rw [HQ2.out]; exact HCL.out
        · rw [HQ2.out]; dsimp only
          repeat (with_reducible first | exact HO.out | refine Kd.R_alloc ?_ _ | refine Kd.R_below ?_ HB1.out | refine Kd.R_set ?_ (by first | exact BQ.out | exact blk_set BQ.out rfl | exact blk_set (blk_set BQ.out rfl) rfl | exact B2.out | exact blk_setO BQ.out (by omega) | exact blk_set (blk_setO BQ.out (by omega)) rfl | exact blk_set (blk_set (blk_setO BQ.out (by omega)) rfl) rfl) (fun q hq => kC4_ne hq (by decide)) _ _)
        · repeat (with_reducible first | exact HB.out | refine below_alloc ?_ _ | refine below_end ?_ HB1.out | refine Below.setCell ?_ (by dsimp only; omega) _)
end Go.Proofs.Ytpfponhaofdbaaa.M
