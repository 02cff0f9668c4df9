import Derived.Test.YtpfponhaofdbaaaKR
set_option linter.unusedVariables false
set_option linter.unusedSimpArgs false
namespace Go.Proofs.Ytpfponhaofdbaaa.M
open Go.RowKit Go.Proofs.YtpfponhaofdbaaaW.PrintWords

/-! marks on rows of commands -/
def mkCmd (k i : Nat) : DC4 := (((k + 4 * i : Nat) : Int), ((k + 4 * i : Nat) : Int) + 1, ((k + 4 * i : Nat) : Int) + 1 + 1, mtP (k + 4 * i + 3), ())
def mkCmdS (n k : Nat) : List DC4 := (List.range n).map fun i => mkCmd k i
theorem mkCmdS_length (n k : Nat) : (mkCmdS n k).length = n := by simp [mkCmdS]
theorem mkCmdS_at (n k i : Nat) (h : i < n) : (mkCmdS n k).getD i zC4 = mkCmd k i := by
  rw [List.getD_eq_getElem?_getD, mkCmdS, List.getElem?_map, List.getElem?_range h]; rfl
theorem cells_far {cur : Array Value} {i o : Nat} {x : DC4} {v : Value} (h : cellsC4 cur i x) (ho : i * 4 + 4 ≤ o) : cellsC4 (cur.setIfInBounds o v) i x := by
  obtain ⟨h0, h1, h2, h3⟩ := h
  exact ⟨by rw [Array.getElem?_setIfInBounds_ne (by omega)]; exact h0, by rw [Array.getElem?_setIfInBounds_ne (by omega)]; exact h1, by rw [Array.getElem?_setIfInBounds_ne (by omega)]; exact h2, by rw [Array.getElem?_setIfInBounds_ne (by omega)]; exact h3⟩
theorem cells_set (cur : Array Value) (i : Nat) (a b c : Int) (s : ByteArray) (h : i * 4 + 3 < cur.size) : cellsC4 ((((cur.setIfInBounds (i * 4) (.int .i64 a)).setIfInBounds (i * 4 + 1) (.int .i64 b)).setIfInBounds (i * 4 + 2) (.int .i64 c)).setIfInBounds (i * 4 + 3) (.string s)) i (a, b, c, s, ()) := by
  refine ⟨?_, ?_, ?_, ?_⟩
  · rw [Array.getElem?_setIfInBounds_ne (by omega), Array.getElem?_setIfInBounds_ne (by omega), Array.getElem?_setIfInBounds_ne (by omega), Array.getElem?_setIfInBounds_self_of_lt (by omega)]
  · rw [Array.getElem?_setIfInBounds_ne (by omega), Array.getElem?_setIfInBounds_ne (by omega), Array.getElem?_setIfInBounds_self_of_lt (by simp; omega)]
  · rw [Array.getElem?_setIfInBounds_ne (by omega), Array.getElem?_setIfInBounds_self_of_lt (by simp; omega)]
  · rw [Array.getElem?_setIfInBounds_self_of_lt (by simp; omega)]
theorem markText_z (z : Int) (k : Nat) (hz : z = k) (w : World) (hk : k < 9223372036854775807) : Calls Try.prog 132 #[.int .i64 z] w fun e w' => e = .returned (.string (mtP k)) ∧ Below w.heap.size w w' := by
  subst hz
  exact markText_c k w hk
theorem cell_ex {W : World} {g o : Nat} {cur : Array Value} (h : W.heap[g]? = some (.cells cur 111 (0, 0))) (ho : o < cur.size) : ∃ v, W.cell? ⟨g, o, none⟩ = some v := ⟨_, (blk_cell h o).trans (Array.getElem?_eq_getElem ho)⟩
set_option maxRecDepth 100000 in
set_option maxHeartbeats 1000000 in
theorem markCmdS_c (A : Option Addr) (c base : Nat) (l : List DC4) (k : Nat) (kz : Int) (hz : kz = k) (w : World) (hr : Kd.R kC4 111 w base (fun _ => True) (.slice A l.length c) l) (hk : k + 4 * l.length ≤ 9223372036854775800) :
    Calls Try.prog 100 #[.slice A l.length c, .int .i64 kz] w fun e w' => e = .returned (.int .i64 (kz + (4 * l.length : Int))) ∧ Kd.R kC4 111 w' base (fun _ => True) (.slice A l.length c) (mkCmdS l.length k) ∧ Upd w w' (fun b => (Value.slice A l.length c).ownBlock = some b) := by
  subst hz
  have hlm := (Kd.C_max (Kd.R_reads' hr).2.2)
  rcases Nat.eq_zero_or_pos l.length with h0 | h0
  · obtain rfl := List.eq_nil_of_length_eq_zero h0
    have HR := Aside0.mk hr
    clear hr
    go_enter Try.func100, Try.ntmps100
    go_wp2
    go_loop [1, 5] (fun kk i => kk = .int .i64 k ∧ i = .int .i64 0) (fun _ _ => 0)
    case atStart => exact ⟨rfl, rfl⟩
    case round =>
      obtain ⟨rfl, rfl⟩ := hrel
      go_wp2
      go_ret
      exact ⟨by show Ending.returned (.int .i64 (k : Int)) = _; simp, HR.out, upd_refl _ _⟩
  · obtain ⟨g, cur, rfl, hh, hcs, hnc, hcm, hbg, hx⟩ := rowC4 hr h0
    have HH := Aside0.mk hh
    have lg := blk_lt hh
    have HCM := Aside0.mk hcm
    have HCS := Aside0.mk hcs
    have hsz : l.length * 4 ≤ cur.size := by omega
    clear hr hh hx hcm hcs
    go_enter Try.func100, Try.ntmps100
    go_wp2
    go_loopw [1, 5] (fun kk i wr => ∃ (j q : Nat) (cu : Array Value), j ≤ l.length ∧ kk = .int .i64 q ∧ i = .int .i64 j ∧ q ≤ k + 4 * j ∧ k + 4 * j ≤ q ∧ Aside0 (cu.size = cur.size) ∧ Aside0 (wr.heap[g]? = some (.cells cu 111 (0, 0))) ∧ Aside0 (∀ i, i < j → cellsC4 cu i (mkCmd k i)) ∧ Aside0 (Upd w wr (fun b => g = b))) (fun _ i _ => l.length - (intOf i).toNat)
    case atStart => exact ⟨0, k, cur, Nat.zero_le _, rfl, rfl, by omega, by omega, ⟨rfl⟩, HH, ⟨fun i hi => absurd hi (by omega)⟩, ⟨upd_refl _ _⟩⟩
    case round =>
      obtain ⟨j, q, cu, hj, rfl, rfl, hq1, hq2, HZ, HB, HC, HU⟩ := hrel
      by_cases hlt : j < l.length
      · have hlc : j * 4 + 3 < cu.size := by rw [HZ.out]; omega
        have HLC := Aside0.mk hlc
        clear hlc
        obtain ⟨v0, c0⟩ := cell_ex (o := j * 4) HB.out (by have := HLC.out; omega)
        have fr0 := blk_free HB.out (j * 4)
        have lg0 := blk_lt HB.out
        go_upto_region 5 with fail
        generalize hw1 : World.setCell wr ⟨g, j * 4, none⟩ (.int .i64 (q : Int)) = w1
        have N1 : w1.heap[g]? = some (.cells (cu.setIfInBounds (j * 4) (.int .i64 (q : Int))) 111 (0, 0)) := by rw [← hw1]; exact blk_set HB.out rfl
        have U1 : Upd w w1 (fun b => g = b) := by rw [← hw1]; exact HU.out.trans (upd_set wr g _ _) (fun _ _ h => h) (fun _ _ h => h.symm)
        have HN1 := Aside0.mk N1
        have HU1 := Aside0.mk U1
        clear hw1 c0 fr0 lg0 N1 U1
        obtain ⟨v1, c1⟩ := cell_ex (o := j * 4 + 1) HN1.out (by have := HLC.out; simp; omega)
        have fr1 := blk_free HN1.out (j * 4 + 1)
        have lg1 := blk_lt HN1.out
        go_upto_region 7 with fail
        generalize hw2 : World.setCell w1 ⟨g, j * 4 + 1, none⟩ (.int .i64 ((q : Int) + 1)) = w2
        have N2 : w2.heap[g]? = some (.cells ((cu.setIfInBounds (j * 4) (.int .i64 (q : Int))).setIfInBounds (j * 4 + 1) (.int .i64 ((q : Int) + 1))) 111 (0, 0)) := by rw [← hw2]; exact blk_set HN1.out rfl
        have U2 : Upd w w2 (fun b => g = b) := by rw [← hw2]; exact HU1.out.trans (upd_set w1 g _ _) (fun _ _ h => h) (fun _ _ h => h.symm)
        have HN2 := Aside0.mk N2
        have HU2 := Aside0.mk U2
        clear hw2 c1 fr1 lg1 N2 U2
        obtain ⟨v2, c2⟩ := cell_ex (o := j * 4 + 2) HN2.out (by have := HLC.out; simp; omega)
        have fr2 := blk_free HN2.out (j * 4 + 2)
        have lg2 := blk_lt HN2.out
        go_upto_region 9 with fail
        generalize hw3 : World.setCell w2 ⟨g, j * 4 + 2, none⟩ (.int .i64 ((q : Int) + 1 + 1)) = w3
        have N3 : w3.heap[g]? = some (.cells (((cu.setIfInBounds (j * 4) (.int .i64 (q : Int))).setIfInBounds (j * 4 + 1) (.int .i64 ((q : Int) + 1))).setIfInBounds (j * 4 + 2) (.int .i64 ((q : Int) + 1 + 1))) 111 (0, 0)) := by rw [← hw3]; exact blk_set HN2.out rfl
        have U3 : Upd w w3 (fun b => g = b) := by rw [← hw3]; exact HU2.out.trans (upd_set w2 g _ _) (fun _ _ h => h) (fun _ _ h => h.symm)
        have HN3 := Aside0.mk N3
        have HU3 := Aside0.mk U3
        clear hw3 c2 fr2 lg2 N3 U3
        go_wp2_with fail
        refine Calls.mono (markText_z _ (q + 3) (by omega) _ (by omega)) ?_
        rintro e w4 ⟨rfl, hb4⟩
        have N4 := blk_below HN3.out hb4
        have HN4 := Aside0.mk N4
        have HU4 := Aside0.mk (HU3.out.trans (Upd.of_below hb4 (fun b => g = b)) (fun _ _ h => h) (fun _ _ h => h))
        obtain ⟨v4, c4⟩ := cell_ex (o := j * 4 + 3) HN4.out (by have := HLC.out; simp; omega)
        have fr4 := blk_free HN4.out (j * 4 + 3)
        have lg4 := blk_lt HN4.out
        clear hb4 N4
        go_wp2
        go_roundw
        case rel =>
          refine ⟨j + 1, q + 4, _, by omega, by go_num, by go_num, by omega, by omega, ⟨?_⟩, ⟨blk_set HN4.out rfl⟩, ⟨fun i hi => ?_⟩, ⟨HU4.out.trans (upd_set w4 g _ _) (fun _ _ h => h) (fun _ _ h => h.symm)⟩⟩
          · simp only [Array.size_setIfInBounds]; exact HZ.out
          · rcases Nat.lt_or_ge i j with h | h
            · exact cells_far (cells_far (cells_far (cells_far (HC.out i h) (by omega)) (by omega)) (by omega)) (by omega)
            · obtain rfl : i = j := by omega
              have e : mkCmd k i = ((q : Int), (q : Int) + 1, (q : Int) + 1 + 1, mtP (q + 3), ()) := by
                obtain rfl : q = k + 4 * i := by omega
                rfl
              rw [e]
              exact cells_set cu i _ _ _ _ HLC.out
        case measure => simp [intOf]; omega
      · obtain rfl : j = l.length := by omega
        obtain rfl : q = k + 4 * l.length := by omega
        go_wp2
        go_ret
        refine ⟨by show Ending.returned (.int .i64 ((k + 4 * l.length : Nat) : Int)) = _; congr 2, ?_, ?_⟩
        · have := rowC4_mk (c := c) (base := base) (l := mkCmdS l.length k) HB.out (HZ.out.trans HCS.out) (by rw [mkCmdS_length]; omega) HCM.out hbg (fun i hi => by rw [mkCmdS_length] at hi; rw [mkCmdS_at _ _ _ hi]; exact HC.out i hi)
          rw [mkCmdS_length] at this
          exact this
        · exact HU.out.mono (fun b _ h => by rw [h]; rfl)
set_option maxRecDepth 100000 in
set_option maxHeartbeats 1000000 in
theorem heldCmdS_c (A : Option Addr) (c n base : Nat) (k : Nat) (kz : Int) (hz : kz = k) (w : World) (hr : Kd.R kC4 111 w base (fun _ => True) (.slice A n c) (mkCmdS n k)) (hk : k + 4 * n ≤ 9223372036854775800) :
    Calls Try.prog 101 #[.slice A n c, .int .i64 kz] w fun e w' => e = .returned (.int .i64 (kz + (4 * n : Int))) ∧ Below w.heap.size w w' := by
  subst hz
  rcases Nat.eq_zero_or_pos n with h0 | h0
  · subst h0
    clear hr
    go_enter Try.func101, Try.ntmps101
    go_wp2
    go_loop [1, 5] (fun kk i => kk = .int .i64 k ∧ i = .int .i64 0) (fun _ _ => 0)
    case atStart => exact ⟨rfl, rfl⟩
    case round =>
      obtain ⟨rfl, rfl⟩ := hrel
      go_wp2
      go_ret
      exact ⟨by show Ending.returned (.int .i64 (k : Int)) = _; simp, Below.refl _ _⟩
  · have hrow := rowC4 (l := mkCmdS n k) (c := c) (A := A) (by rw [mkCmdS_length]; exact hr) (by rw [mkCmdS_length]; exact h0)
    obtain ⟨g, cur, rfl, hh, hcs, hnc, hcm, hbg, hx⟩ := hrow
    rw [mkCmdS_length] at hx
    have HH := Aside0.mk hh
    have HX := Aside0.mk hx
    have lg := blk_lt hh
    clear hr hh hx hcm hcs hnc hbg
    go_enter Try.func101, Try.ntmps101
    go_wp2
    go_loopw [1, 5] (fun kk i wr => ∃ (j q : Nat), j ≤ n ∧ kk = .int .i64 q ∧ i = .int .i64 j ∧ q ≤ k + 4 * j ∧ k + 4 * j ≤ q ∧ Aside0 (Below w.heap.size w wr)) (fun _ i _ => n - (intOf i).toNat)
    case atStart => exact ⟨0, k, Nat.zero_le _, rfl, rfl, by omega, by omega, ⟨Below.refl _ _⟩⟩
    case round =>
      obtain ⟨j, q, hj, rfl, rfl, hq1, hq2, HB⟩ := hrel
      by_cases hlt : j < n
      · have NB := blk_below HH.out HB.out
        have lg1 := blk_lt NB
        obtain ⟨x0, x1, x2, x3⟩ := HX.out j hlt
        rw [mkCmdS_at _ _ _ hlt] at x0 x1 x2 x3
        have e : mkCmd k j = ((q : Int), (q : Int) + 1, (q : Int) + 1 + 1, mtP (q + 3), ()) := by
          obtain rfl : q = k + 4 * j := by omega
          rfl
        rw [e] at x0 x1 x2 x3
        dsimp only at x0 x1 x2 x3
        have c0 := (blk_cell NB (j * 4)).trans x0
        have c1 := (blk_cell NB (j * 4 + 1)).trans x1
        have c2 := (blk_cell NB (j * 4 + 2)).trans x2
        have c3 := (blk_cell NB (j * 4 + 3)).trans x3
        clear NB x0 x1 x2 x3 e
        generalize hmt : mtP (q + 3) = mt at c3
        have HMT := Aside0.mk hmt
        clear hmt
        go_wp2
        go_region_held3 (fun W : World => W.cell? ⟨g, j * 4 + 3, none⟩ = some (.string mt)) (first | go_keep | exact pw_cell_below HB1.out c3)
          ((go_at_call 132; refine Calls.mono (markText_z _ (q + 3) (by omega) _ (by omega)) ?_; rintro e w1 ⟨rfl, hb1⟩; rw [HMT.out]; have HB1 := Aside0.mk hb1; clear hb1))
        all_goals
          go_wp2
          go_roundw
          case rel => exact ⟨j + 1, q + 4, by omega, by go_num, by go_num, by omega, by omega, ⟨by repeat (with_reducible first | exact HB.out | refine below_end ?_ HB1.out | refine below_drew ?_ | refine pw_below_drewN ?_ _)⟩⟩
          case measure => simp [intOf]; omega
      · obtain rfl : j = n := by omega
        obtain rfl : q = k + 4 * j := by omega
        go_wp2
        go_ret
        exact ⟨by show Ending.returned (.int .i64 ((k + 4 * j : Nat) : Int)) = _; congr 2, HB.out⟩

/-! what is answered of keys -/
set_option maxRecDepth 100000 in
theorem eqKeysResult_c (co us : Int) (A : Option Addr) (c : Nat) (l : List DC4) (co' us' : Int) (B : Option Addr) (d : Nat) (m : List DC4) (w : World) (hr : Kd.R kC4 111 w 0 (fun _ => True) (.slice A l.length c) l) (hs : Kd.R kC4 111 w 0 (fun _ => True) (.slice B m.length d) m) :
    Calls Try.prog 51 #[.agg #[.int .i64 co, .int .i64 us, .slice A l.length c], .agg #[.int .i64 co', .int .i64 us', .slice B m.length d]] w fun e w' => e = .returned (.bool (eqv (co, us, l) (co', us', m))) ∧ Below w.heap.size w w' := by
  have HR := Aside0.mk hr
  have HS := Aside0.mk hs
  clear hr hs
  go_enter Try.func51, Try.ntmps51
  go_wp2_with (go_at_call 99; refine Calls.mono (eqCmdS_c A c l B d m 0 0 _ (by repeat (with_reducible first | exact HR.out | refine Kd.R_alloc ?_ _)) (by repeat (with_reducible first | exact HS.out | refine Kd.R_alloc ?_ _))) ?_; rintro e w1 ⟨rfl, hb⟩; have HB := Aside0.mk hb; clear hb)
  all_goals
    go_ret
    refine ⟨by first | (simp_all [eqv]; done) | (simp_all [eqv]; intros; simp_all; done) | (simp_all [eqv]; assumption), ?_⟩
    repeat (with_reducible first | exact Below.refl _ _ | refine below_alloc ?_ _ | refine below_end ?_ HB.out)
set_option maxRecDepth 100000 in
theorem markKeysResult_c (co us : Int) (A : Option Addr) (c : Nat) (l : List DC4) (base k : Nat) (kz : Int) (hz : kz = k) (w : World) (hr : Kd.R kC4 111 w base (fun _ => True) (.slice A l.length c) l) (hk : k + 4 * l.length ≤ 9223372036854775800) :
    Calls Try.prog 54 #[.agg #[.int .i64 co, .int .i64 us, .slice A l.length c], .int .i64 kz] w fun e w' => e = .returned (.int .i64 (kz + (4 * l.length : Int))) ∧ Kd.R kC4 111 w' base (fun _ => True) (.slice A l.length c) (mkCmdS l.length k) ∧ Upd w w' (fun b => (Value.slice A l.length c).ownBlock = some b) := by
  have HR := Aside0.mk hr
  have HZ := Aside0.mk hz
  clear hr hz
  go_enter Try.func54, Try.ntmps54
  go_wp2_with (go_at_call 100; refine Calls.mono (markCmdS_c A c base l k _ HZ.out _ (Kd.R_alloc HR.out _) hk) ?_; rintro e w1 ⟨rfl, hr1, hu⟩; have HR1 := Aside0.mk hr1; have HU := Aside0.mk hu; clear hr1 hu)
  go_ret
  exact ⟨rfl, HR1.out, (Upd.of_below (below_alloc (Below.refl _ _) _) _).trans HU.out (fun _ _ h => h) (fun _ _ h => h)⟩
set_option maxRecDepth 100000 in
theorem heldKeysResult_c (co us : Int) (A : Option Addr) (n c : Nat) (k : Nat) (kz : Int) (hz : kz = k) (w : World) (hr : Kd.R kC4 111 w 0 (fun _ => True) (.slice A n c) (mkCmdS n k)) (hk : k + 4 * n ≤ 9223372036854775800) :
    Calls Try.prog 55 #[.agg #[.int .i64 co, .int .i64 us, .slice A n c], .int .i64 kz] w fun e w' => e = .returned (.int .i64 (kz + (4 * n : Int))) ∧ Below w.heap.size w w' := by
  have HR := Aside0.mk hr
  have HZ := Aside0.mk hz
  have hz0 : 0 ≤ kz := by omega
  have hz1 : kz + 4 * n ≤ 9223372036854775807 := by omega
  clear hr hz
  go_enter Try.func55, Try.ntmps55
  go_wp2_with (go_at_call 101; refine Calls.mono (heldCmdS_c A c n 0 k _ HZ.out _ (Kd.R_alloc HR.out _) hk) ?_; rintro e w1 ⟨rfl, hb⟩; have HB := Aside0.mk hb; clear hb)
  go_ret
  exact ⟨rfl, below_end (below_alloc (Below.refl _ _) _) HB.out⟩
end Go.Proofs.Ytpfponhaofdbaaa.M
