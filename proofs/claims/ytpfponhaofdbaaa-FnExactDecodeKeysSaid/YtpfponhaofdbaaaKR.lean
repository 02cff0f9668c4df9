import Derived.Test.YtpfponhaofdbaaaKC
set_option linter.unusedVariables false
set_option linter.unusedSimpArgs false
namespace Go.Proofs.Ytpfponhaofdbaaa.M
open Go.RowKit Go.Proofs.YtpfponhaofdbaaaW.PrintWords

/-! a row of commands, cell by cell -/
def zC4 : DC4 := (0, 0, 0, ByteArray.empty, ())
def cellsC4 (cur : Array Value) (i : Nat) (x : DC4) : Prop := cur[i * 4]? = some (.int .i64 x.1) ∧ cur[i * 4 + 1]? = some (.int .i64 x.2.1) ∧ cur[i * 4 + 2]? = some (.int .i64 x.2.2.1) ∧ cur[i * 4 + 3]? = some (.string x.2.2.2.1)
theorem kC4_cells {w : World} {base : Nat} {ok : Nat → Prop} {x : DC4} {cs : List Value} (h : kC4.M w base ok x cs) : cs = [.int .i64 x.1, .int .i64 x.2.1, .int .i64 x.2.2.1, .string x.2.2.2.1] := by
  obtain ⟨_, _, e1, rfl, _, _, rfl, rfl, _, _, rfl, rfl, _, _, rfl, rfl, rfl⟩ := h
  exact e1
theorem rowC4 {w : World} {base c : Nat} {ok : Nat → Prop} {A : Option Addr} {l : List DC4} (h : Kd.R kC4 111 w base ok (.slice A l.length c) l) (h0 : 0 < l.length) :
    ∃ g cur, A = some ⟨g, 0, none⟩ ∧ w.heap[g]? = some (.cells cur 111 (0, 0)) ∧ cur.size = c * 4 ∧ l.length ≤ c ∧ c ≤ maxLen ∧ base ≤ g ∧ ∀ i, i < l.length → cellsC4 cur i (l.getD i zC4) := by
  obtain ⟨_, inner, ⟨hl, hv⟩, hr⟩ := h
  rcases hv with ⟨_, e⟩ | ⟨g, cap, cur, e, hb, hh, hnc, hcm, hcs, hin⟩
  · omega
  · injection e with e1 _ e3
    subst e1 e3
    refine ⟨g, cur, rfl, hh, hcs, hnc, hcm, hb, fun i hi => ?_⟩
    have hM := kC4_cells (hr.2 i l[i] (List.getElem?_eq_getElem hi))
    have hg : l.getD i zC4 = l[i] := by rw [List.getD_eq_getElem?_getD, List.getElem?_eq_getElem hi]; rfl
    have hcell : ∀ r, r < 4 → cur[i * 4 + r]? = ([.int .i64 l[i].1, .int .i64 l[i].2.1, .int .i64 l[i].2.2.1, .string l[i].2.2.2.1] : List Value)[r]? := by
      intro r hr4
      rw [← hM, List.getElem?_take, if_pos (show r < kC4.sz from hr4), List.getElem?_drop, ← hin, List.getElem?_take, if_pos (show i * kC4.sz + r < l.length * kC4.sz by show i * 4 + r < l.length * 4; omega), Array.getElem?_toList]
      rfl
    rw [hg]
    exact ⟨hcell 0 (by omega), hcell 1 (by omega), hcell 2 (by omega), hcell 3 (by omega)⟩
theorem rowC4_mk {w : World} {base c g : Nat} {cur : Array Value} {l : List DC4} (hb : w.heap[g]? = some (.cells cur 111 (0, 0))) (hs : cur.size = c * 4) (hn : l.length ≤ c) (hc : c ≤ maxLen) (hbase : base ≤ g) (hx : ∀ i, i < l.length → cellsC4 cur i (l.getD i zC4)) :
    Kd.R kC4 111 w base (fun _ => True) (.slice (some ⟨g, 0, none⟩) l.length c) l := by
  refine ⟨fun _ _ => trivial, cur.toList.take (l.length * 4), ⟨?_, .inr ⟨g, c, cur, rfl, hbase, hb, hn, hc, hs, rfl⟩⟩, ?_, fun i p hp => ?_⟩
  · have hs' : cur.toList.length = c * 4 := by rw [Array.length_toList]; exact hs
    rw [List.length_take, hs']
    show min (l.length * 4) (c * 4) = l.length * 4
    omega
  · have hs' : cur.toList.length = c * 4 := by rw [Array.length_toList]; exact hs
    rw [List.length_take, hs']
    show min (l.length * 4) (c * 4) = l.length * 4
    omega
  · obtain ⟨hi, rfl⟩ := List.getElem?_eq_some_iff.1 hp
    obtain ⟨h0, h1, h2, h3⟩ := hx i hi
    have hg : l.getD i zC4 = l[i] := by rw [List.getD_eq_getElem?_getD, List.getElem?_eq_getElem hi]; rfl
    rw [hg] at h0 h1 h2 h3
    have e : ((cur.toList.take (l.length * 4)).drop (i * kC4.sz)).take kC4.sz = [.int .i64 l[i].1, .int .i64 l[i].2.1, .int .i64 l[i].2.2.1, .string l[i].2.2.2.1] := by
      apply List.ext_getElem?
      intro r
      show (((cur.toList.take (l.length * 4)).drop (i * 4)).take 4)[r]? = _
      rcases Nat.lt_or_ge r 4 with hr | hr
      · rw [List.getElem?_take, if_pos hr, List.getElem?_drop, List.getElem?_take, if_pos (by omega), Array.getElem?_toList]
        rcases (show r = 0 ∨ r = 1 ∨ r = 2 ∨ r = 3 by omega) with rfl | rfl | rfl | rfl
        · exact h0
        · exact h1
        · exact h2
        · exact h3
      · rw [List.getElem?_take, if_neg (by omega), List.getElem?_eq_none (by simpa using hr)]
    rw [e]
    exact kC4_M _ _ _ _ _ _ _
theorem nilC4 {w : World} {base c : Nat} {ok : Nat → Prop} {A : Option Addr} {l : List DC4} (h : Kd.R kC4 111 w base ok (.slice A l.length c) l) (hu : Upd w w (fun _ => False)) : True := trivial
/-- A row of commands, behind what leaves its block alone. -/
theorem R_updQ {w w1 : World} {base : Nat} {v : Value} {l : List DC4} {S : Nat → Prop} (h : Kd.R kC4 111 w base (fun _ => True) v l) (hu : Upd w w1 S) (hn : ∀ b, v.ownBlock = some b → ¬ S b) : Kd.R kC4 111 w1 base (fun _ => True) v l := by
  obtain ⟨A, c, rfl, _, _⟩ := Kd.R_reads h
  rcases Nat.eq_zero_or_pos l.length with h0 | h0
  · obtain rfl := List.eq_nil_of_length_eq_zero h0
    obtain ⟨_, inner, ⟨hl, hv⟩, hr⟩ := h
    rcases hv with ⟨e, _⟩ | ⟨g, cap, cur, e, hb, hh, hnc, hcm, hcs, hin⟩
    · rw [e]; exact Kd.R_nil _ _ _ _ _
    · injection e with e1 _ e3
      subst e1 e3
      exact rowC4_mk (l := []) ((hu.block g (blk_lt hh) (hn g rfl)).trans hh) hcs hnc hcm hb (fun i hi => absurd hi (by simp))
  · obtain ⟨g, cur, rfl, hh, hcs, hnc, hcm, hb, hx⟩ := rowC4 h h0
    exact rowC4_mk ((hu.block g (blk_lt hh) (hn g rfl)).trans hh) hcs hnc hcm hb hx

set_option maxRecDepth 100000 in
theorem eqCmd_c (k : Int) (n : Int) (wd : Int) (tx : ByteArray) (k' : Int) (n' : Int) (wd' : Int) (tx' : ByteArray) (w : World)   :
    Calls Try.prog 131 #[.agg #[.int .i64 k, .int .i64 n, .int .i64 wd, .string tx], .agg #[.int .i64 k', .int .i64 n', .int .i64 wd', .string tx']] w fun e w' => e = .returned (.bool (eqv (k, n, wd, tx) (k', n', wd', tx'))) ∧ Below w.heap.size w w' := by
  go_enter Try.func131, Try.ntmps131
  go_wp2
  all_goals
    go_ret
    refine ⟨by first | (simp_all [eqv, str_eq]; done) | (simp_all [eqv, str_eq]; intros; simp_all; done) | (simp_all [eqv, str_eq]; assumption), ?_⟩
    repeat (first | exact Below.refl _ _ | refine below_alloc ?_ _ | refine pw_below_drewN ?_ _)
set_option maxRecDepth 100000 in
set_option maxHeartbeats 1000000 in
theorem eqCmdS_c (A : Option Addr) (c : Nat) (l : List DC4) (B : Option Addr) (d : Nat) (m : List DC4) (b1 b2 : Nat) (w : World) (hr : Kd.R kC4 111 w b1 (fun _ => True) (.slice A l.length c) l) (hs : Kd.R kC4 111 w b2 (fun _ => True) (.slice B m.length d) m) :
    Calls Try.prog 99 #[.slice A l.length c, .slice B m.length d] w fun e w' => e = .returned (.bool (eqv l m)) ∧ Below w.heap.size w w' := by
  have hlm := (Kd.C_max (Kd.R_reads' hr).2.2)
  have hmm := (Kd.C_max (Kd.R_reads' hs).2.2)
  by_cases hn : l.length = m.length
  · have hb : ((l.length : Int) != (m.length : Int)) = false := by simp [hn]
    have hnb : (l.length != m.length) = false := by simp [hn]
    rcases Nat.eq_zero_or_pos l.length with h0 | h0
    · obtain rfl := List.eq_nil_of_length_eq_zero h0
      obtain rfl := List.eq_nil_of_length_eq_zero (hn.symm.trans h0)
      clear hr hs
      go_enter Try.func99, Try.ntmps99
      go_wp2
      go_loop [5] (fun i => i = .int .i64 0) (fun _ => 0)
      case atStart => rfl
      case round =>
        subst hrel
        go_wp2
        go_ret
        exact ⟨by rw [eqv_self]; rfl, Below.refl _ _⟩
    · obtain ⟨g, cur, rfl, hh, hcs, hnc, hcm, hbg, hx⟩ := rowC4 hr h0
      obtain ⟨g', cur', rfl, hh', hcs', hnc', hcm', hbg', hx'⟩ := rowC4 hs (by omega)
      have HH := Aside0.mk hh
      have HH' := Aside0.mk hh'
      have HX := Aside0.mk hx
      have HX' := Aside0.mk hx'
      have HN := Aside0.mk hn
      have lg := blk_lt hh
      have lg' := blk_lt hh'
      clear hr hs hh hh' hx hx' hn hcs hcs' hnc hnc' hcm hcm' hbg hbg'
      go_enter Try.func99, Try.ntmps99
      go_wp2
      go_loopw [5] (fun i wr => ∃ k : Nat, k ≤ l.length ∧ i = .int .i64 k ∧ Aside0 (∀ j, j < k → l.getD j zC4 = m.getD j zC4) ∧ Aside0 (Below w.heap.size w wr)) (fun i _ => l.length - (intOf i).toNat)
      case atStart => exact ⟨0, Nat.zero_le _, rfl, ⟨fun j hj => absurd hj (by omega)⟩, ⟨Below.refl _ _⟩⟩
      case round =>
        obtain ⟨k, hk, rfl, HJ, HB⟩ := hrel
        by_cases hlt : k < l.length
        · have hlt2 : k < m.length := by rw [← HN.out]; exact hlt
          have NB := blk_below HH.out HB.out
          have NB' := blk_below HH'.out HB.out
          have lt1 := blk_lt NB
          have lt2 := blk_lt NB'
          obtain ⟨x0, x1, x2, x3⟩ := HX.out k hlt
          obtain ⟨y0, y1, y2, y3⟩ := HX'.out k hlt2
          have c0 := (blk_cell NB (k * 4)).trans x0
          have c1 := (blk_cell NB (k * 4 + 1)).trans x1
          have c2 := (blk_cell NB (k * 4 + 2)).trans x2
          have c3 := (blk_cell NB (k * 4 + 3)).trans x3
          have d0 := (blk_cell NB' (k * 4)).trans y0
          have d1 := (blk_cell NB' (k * 4 + 1)).trans y1
          have d2 := (blk_cell NB' (k * 4 + 2)).trans y2
          have d3 := (blk_cell NB' (k * 4 + 3)).trans y3
          clear NB NB' x0 x1 x2 x3 y0 y1 y2 y3
          generalize hu : l.getD k zC4 = u at c0 c1 c2 c3
          generalize hv : m.getD k zC4 = v at d0 d1 d2 d3
          have HU := Aside0.mk hu
          have HV := Aside0.mk hv
          clear hu hv
          obtain ⟨u0, u1, u2, u3, uu⟩ := u
          obtain ⟨v0, v1, v2, v3, vu⟩ := v
          dsimp only at c0 c1 c2 c3 d0 d1 d2 d3
          have HB0 := HB
          by_cases huv : (u0, u1, u2, u3) = (v0, v1, v2, v3)
          · have hq := Aside0.mk (eqv_true huv)
            have HE := Aside0.mk (show l.getD k zC4 = m.getD k zC4 by rw [HU.out, HV.out]; injection huv with e1 e; injection e with e2 e; injection e with e3 e4; rw [e1, e2, e3, e4])
            clear huv
            go_wp2
            go_region_held3 (fun W : World => W.cell? ⟨g, k * 4, none⟩ = some (.int .i64 u0) ∧ W.cell? ⟨g, k * 4 + 1, none⟩ = some (.int .i64 u1) ∧ W.cell? ⟨g, k * 4 + 2, none⟩ = some (.int .i64 u2) ∧ W.cell? ⟨g, k * 4 + 3, none⟩ = some (.string u3) ∧ W.cell? ⟨g', k * 4, none⟩ = some (.int .i64 v0) ∧ W.cell? ⟨g', k * 4 + 1, none⟩ = some (.int .i64 v1) ∧ W.cell? ⟨g', k * 4 + 2, none⟩ = some (.int .i64 v2) ∧ W.cell? ⟨g', k * 4 + 3, none⟩ = some (.string v3)) (first | go_keep | exact ⟨pw_cell_below HB1.out c0, pw_cell_below HB1.out c1, pw_cell_below HB1.out c2, pw_cell_below HB1.out c3, pw_cell_below HB1.out d0, pw_cell_below HB1.out d1, pw_cell_below HB1.out d2, pw_cell_below HB1.out d3⟩)
              ((go_at_call 131; refine Calls.mono (eqCmd_c _ _ _ _ _ _ _ _ _) ?_; rintro e w1 ⟨rfl, hb1⟩; rw [hq.out]; have HB1 := Aside0.mk hb1; clear hb1))
            go_wp2
            go_roundw
            case rel => exact ⟨k + 1, by omega, by go_num, ⟨fun j hj => by
              rcases Nat.lt_or_ge j k with h | h
              · exact HJ.out j h
              · obtain rfl : j = k := by omega
                exact HE.out⟩, ⟨by repeat (with_reducible first | exact HB0.out | refine below_end ?_ HB1.out | refine below_drew ?_ | refine pw_below_drewN ?_ _)⟩⟩
            case measure => simp [intOf]; omega
          · have hq := Aside0.mk (eqv_false huv)
            have HE := Aside0.mk (show ¬ l.getD k zC4 = m.getD k zC4 by rw [HU.out, HV.out]; intro e; injection e with e1 e; injection e with e2 e; injection e with e3 e; injection e with e4 e; exact huv (by rw [e1, e2, e3, e4]))
            clear huv
            go_wp2
            go_region_held3 (fun W : World => W.cell? ⟨g, k * 4, none⟩ = some (.int .i64 u0) ∧ W.cell? ⟨g, k * 4 + 1, none⟩ = some (.int .i64 u1) ∧ W.cell? ⟨g, k * 4 + 2, none⟩ = some (.int .i64 u2) ∧ W.cell? ⟨g, k * 4 + 3, none⟩ = some (.string u3) ∧ W.cell? ⟨g', k * 4, none⟩ = some (.int .i64 v0) ∧ W.cell? ⟨g', k * 4 + 1, none⟩ = some (.int .i64 v1) ∧ W.cell? ⟨g', k * 4 + 2, none⟩ = some (.int .i64 v2) ∧ W.cell? ⟨g', k * 4 + 3, none⟩ = some (.string v3)) (first | go_keep | exact ⟨pw_cell_below HB1.out c0, pw_cell_below HB1.out c1, pw_cell_below HB1.out c2, pw_cell_below HB1.out c3, pw_cell_below HB1.out d0, pw_cell_below HB1.out d1, pw_cell_below HB1.out d2, pw_cell_below HB1.out d3⟩)
              ((go_at_call 131; refine Calls.mono (eqCmd_c _ _ _ _ _ _ _ _ _) ?_; rintro e w1 ⟨rfl, hb1⟩; rw [hq.out]; have HB1 := Aside0.mk hb1; clear hb1))
            go_wp2
            go_ret
            exact ⟨by rw [eqv_false (x := l) (y := m) (fun h => HE.out (by rw [h]))]; rfl, by repeat (with_reducible first | exact HB0.out | refine below_end ?_ HB1.out | refine below_drew ?_ | refine pw_below_drewN ?_ _)⟩
        · go_wp2
          go_ret
          exact ⟨by rw [eqv_true (x := l) (y := m) (eq_of_getD zC4 HN.out (fun j hj => HJ.out j (by omega)))]; rfl, HB.out⟩
  · have hb : ((l.length : Int) != (m.length : Int)) = true := by simp; omega
    have hnb : (l.length != m.length) = true := by simp [hn]
    have HN := Aside0.mk hn
    clear hn hr hs
    go_enter Try.func99, Try.ntmps99
    go_wp2
    go_ret
    exact ⟨by rw [eqv_false (x := l) (y := m) (fun h => HN.out (by rw [h]))]; rfl, Below.refl _ _⟩
end Go.Proofs.Ytpfponhaofdbaaa.M
