import Derived.Test.YtpfponhaofdbaaaQ4
import Derived.Shelf.Bytes.SlIndexAt
import Derived.Deep.DeepCutAuto
set_option linter.unusedVariables false
set_option linter.unusedSimpArgs false
namespace Go.Proofs.Ytpfponhaofdbaaa.M
open Go.RowKit Go.Proofs.YtpfponhaofdbaaaW.PrintWords

def nlI (d : List Int) : Int := if nlP d < d.length then (nlP d : Int) else -1
set_option maxRecDepth 100000 in
theorem bIndexByte_c (A : Option Addr) (c : Nat) (d : List Int) (w : World) (hr : Kd.C (Kd.int .u8) w A d.length d) (hb : ∀ z ∈ d, 0 ≤ z ∧ z ≤ 255) :
    Calls Try.prog 130 #[.slice A d.length c, .int .u8 10] w fun e w' => e = .returned (.int .i64 (nlI d)) ∧ w = w' := by
  have HQ : Aside0 (Lib.indexByte (Lib.bytesOf d) 10 = nlI d) := ⟨idx_nl d hb⟩
  have hrun : (Extern.BytealgIndexByte.indexByte #[.slice A d.length c, .int .u8 10]).run Try.prog w = .ok (.int .i64 (Lib.indexByte (Lib.bytesOf d) 10)) w := by
    cases A with
    | none =>
      have h0 : d = [] := by
        rcases Nat.eq_zero_or_pos d.length with h | h
        · exact List.eq_nil_of_length_eq_zero h
        · obtain ⟨_, h2, _⟩ := hr.2.2 h; cases h2
      subst h0
      exact Lib.run_indexByteNil w 0 c 10
    | some ad => exact Lib.run_indexByteAt w ad d.length c d rfl (fun i hi => by
        obtain ⟨ad', e, hx⟩ := at1 hr 0 i hi
        cases e
        exact hx) 10
  clear hr hb
  go_enter Try.func130, Try.ntmps130
  go_wp2
  rw [run_callFunc_extern Try.func146 (by kernel_rfl) (by kernel_rfl) (by kernel_rfl) (e := Extern.BytealgIndexByte.indexByte) (by kernel_rfl), hrun]
  simp only [Result.andThen]
  rw [Oper.upon_value]
  go_wp2
  go_ret
  exact ⟨by rw [← HQ.out]; rfl, rfl⟩

def keysIs (u : Int) : Int := if u = 0 then 1 else if u < 0 then 0 else 2
def keysV (q : CmdQ) : Value := .tuple #[.agg #[.int .i64 q.1, .int .i64 q.2.1, .int .i64 0, .string (strOfNums q.2.2.1)], .int .i64 (max q.2.2.2 0), .int .i64 (keysIs q.2.2.2)]
theorem keysV_none : keysV (0, 0, [], -1) = .tuple #[.agg #[.int .i64 0, .int .i64 0, .int .i64 0, .string ByteArray.empty], .int .i64 0, .int .i64 0] := rfl
theorem keysV_short : keysV (0, 0, [], 0) = .tuple #[.agg #[.int .i64 0, .int .i64 0, .int .i64 0, .string ByteArray.empty], .int .i64 0, .int .i64 1] := rfl
theorem keysV_right (k n : Int) (t : List Int) (u : Int) (h : 0 < u) : keysV (k, n, t, u) = .tuple #[.agg #[.int .i64 k, .int .i64 n, .int .i64 0, .string (strOfNums t)], .int .i64 u, .int .i64 2] := by
  unfold keysV keysIs
  simp only
  rw [if_neg (by omega), if_neg (by omega), show max u 0 = u by omega]
set_option maxRecDepth 100000 in
set_option maxHeartbeats 3000000 in
theorem readKeys_c (A : Option Addr) (c : Nat) (d : List Int) (w : World) (hr : Kd.C (Kd.int .u8) w A d.length d) (hc : d.length ≤ c) (hl : d.length ≤ 1000) (hb : ∀ z ∈ d, 0 ≤ z ∧ z ≤ 255) :
    Calls Try.prog 98 #[.slice A d.length c] w fun e w' => e = .returned (keysV (keysP d)) ∧ Below w.heap.size w w' := by
  have HR := Aside0.mk hr
  have HBD := Aside0.mk hb
  have hdg := rdg_ge d 3 0 0
  have hdn := rdg_nn d 3 0 0 1 (by omega) (by omega)
  have hdl := hdg.2.2 (Nat.zero_le _)
  have hd3 := hdg.2.1
  have hn1 : (rdg d 3 0 0).1 < 1000 := by have := hdn.2; simp [p10] at this; omega
  have hn0 := hdn.1
  have HKP := Aside0.mk (show keysP d = _ from rfl)
  clear hr hb hdg hdn
  generalize hgm : (rdg d 3 0 0).1 = m at hn0 hn1
  generalize hga : (rdg d 3 0 0).2 = a at hdl hd3
  have HM := Aside0.mk hgm
  have HA := Aside0.mk hga
  clear hgm hga
  go_enter Try.func98, Try.ntmps98
  go_wp2_with fail
  refine Calls.mono (readDigits_c A c d _ (Kd.C_alloc HR.out _) HBD.out) ?_
  rintro e w' ⟨rfl, rfl⟩
  rw [HM.out, HA.out]
  by_cases h1 : d.length ≤ a
  · have e1 : a = d.length := by omega
    have HQ := Aside0.mk (show keysP d = (0, 0, [], 0) by unfold keysP; rw [HA.out, if_pos h1])
    have b1 : ((a : Int) == (d.length : Int)) = true := by rw [e1]; simp
    clear h1 e1
    go_wp2
    refine bodyPost_ret (v := keysV (keysP d)) (by rw [HQ.out, keysV_short]; simp [results, Try.results98, go_sem] <;> rfl) rfl ⟨rfl, ?_⟩
    repeat (with_reducible first | exact Below.refl _ _ | refine below_alloc ?_ _ | refine Below.setCell ?_ (by dsimp only; omega) _)
  · obtain ⟨ad, e, hx⟩ := at1 HR.out 0 a (by omega)
    cases e
    have b1 : ((a : Int) == (d.length : Int)) = false := by simp; omega
    have hlt : a < d.length := by omega
    have hxb := HBD.out (d.getD a 0) (mem_getD hlt)
    have hlb := World.block_lt_of_cell? w _ hx
    clear h1
    generalize hgx : d.getD a 0 = x at hx hxb
    have HX := Aside0.mk hgx
    clear hgx
    go_upto_if 31 with fail
    go_cut [6, 7] (fun v6 v7 wx => ∃ (i : Nat) (k : Int), v6 = .int .i64 i ∧ v7 = .int .u8 k ∧ i ≤ d.length ∧ 0 < i ∧ wx = w.alloc (.cells #[.int .i64 0, .int .i64 0, .int .i64 0, .string ByteArray.empty] 111) ∧ Aside0 (keysP d = doneP (kindP k) m d i))
    case first =>
      by_cases h27 : x = 27
      · subst h27
        obtain ⟨A', hr', hc', hrun⟩ := fromU (some ad) c d (a + 1) w HR.out (by omega) hc
        have hdl' : (d.drop (a + 1)).length = d.length - (a + 1) := List.length_drop
        have HDD := Aside0.mk (fun j : Nat => getD_drop d (a + 1) j)
        have hrun1 := hrun .i64
        rw [Int.natCast_add, Int.natCast_one] at hrun1
        generalize d.drop (a + 1) = r at hr' hc' hrun1 hdl' HDD
        clear hrun
        have hlr : r.length ≤ 1000 := by omega
        by_cases g1 : d.length ≤ a + 1
        · have HQ := Aside0.mk (show keysP d = (0, 0, [], 0) by unfold keysP; rw [HA.out, HX.out, if_neg (by omega), if_pos rfl, if_pos g1])
          have l0 : r.length = 0 := by omega
          have b2 : decide (0 < r.length) = false := decide_eq_false (by omega)
          have b2' : ¬ 0 < r.length := by omega
          have b3 : decide ((r.length : Int) < 2) = true := decide_eq_true (by omega)
          clear hdl' l0
          go_wp2
          refine bodyPost_ret (v := keysV (keysP d)) (by rw [HQ.out, keysV_short]; simp [results, Try.results98, go_sem] <;> rfl) rfl ⟨rfl, ?_⟩
          repeat (with_reducible first | exact Below.refl _ _ | refine below_alloc ?_ _ | refine Below.setCell ?_ (by dsimp only; omega) _)
        · obtain ⟨ad', e, hy⟩ := at1 hr' 0 0 (by omega)
          cases e
          rw [show ad'.add 0 = ad' by simp [Addr.add]] at hy
          have hlb' := World.block_lt_of_cell? w _ hy
          rw [HDD.out 0] at hy
          have hyb := HBD.out (d.getD (a + 1) 0) (mem_getD (by omega))
          have b2 : decide ((r.length : Int) > 0) = true := decide_eq_true (by omega)
          rw [Nat.add_zero] at hy
          generalize hgy : d.getD (a + 1) 0 = y at hy hyb
          have HY := Aside0.mk hgy
          clear hgy
          have lr0 : 0 < r.length := by omega
          by_cases g2 : y = 91
          · subst g2
            by_cases g3 : d.length ≤ a + 2
            · have HQ := Aside0.mk (show keysP d = (0, 0, [], 0) by unfold keysP; rw [HA.out, HX.out, HY.out, if_neg (by omega), if_pos rfl, if_neg g1, if_neg (by simp), if_pos g3])
              have b3 : decide ((r.length : Int) < 2) = true := decide_eq_true (by omega)
              clear hdl'
              go_wp2
              refine bodyPost_ret (v := keysV (keysP d)) (by rw [HQ.out, keysV_short]; simp [results, Try.results98, go_sem] <;> rfl) rfl ⟨rfl, ?_⟩
              repeat (with_reducible first | exact Below.refl _ _ | refine below_alloc ?_ _ | refine Below.setCell ?_ (by dsimp only; omega) _)
            · obtain ⟨ad'', e, hz⟩ := at1 hr' 0 1 (by omega)
              cases e
              rw [show ad'.add 1 = { block := ad'.block, off := ad'.off + 1 } by simp [Addr.add]] at hz
              rw [HDD.out 1] at hz
              have hlb2 := World.block_lt_of_cell? w _ hz
              have hzb := HBD.out (d.getD (a + 2) 0) (mem_getD (by omega))
              have b3 : decide ((r.length : Int) < 2) = false := decide_eq_false (by omega)
              have lr1 : 1 < r.length := by omega
              generalize hgz : d.getD (a + 2) 0 = z at hz hzb
              have HZ := Aside0.mk hgz
              have hz' : w.cell? { block := ad'.block, off := ad'.off + 1 } = some (.int .u8 z) := hz
              clear hgz hz
              have HQ0 := Aside0.mk (show keysP d = doneP (kindP (arrowP z)) m d (a + 3) by unfold keysP; rw [HA.out, HX.out, HY.out, HZ.out, HM.out, if_neg (by omega), if_pos rfl, if_neg g1, if_neg (by simp), if_neg g3])
              clear hdl' g1
              by_cases g4 : z < 65 ∨ 68 < z
              · have HQ := Aside0.mk (show keysP d = (0, 0, [], -1) by
                  rw [HQ0.out, show arrowP z = 0 by unfold arrowP; rw [if_neg (by omega), if_neg (by omega), if_neg (by omega), if_neg (by omega)], kindP_zero]; rfl)
                by_cases g5 : z < 65
                · clear g4
                  go_wp2
                  refine bodyPost_ret (v := keysV (keysP d)) (by rw [HQ.out, keysV_none]; simp [results, Try.results98, go_sem] <;> rfl) rfl ⟨rfl, ?_⟩
                  repeat (with_reducible first | exact Below.refl _ _ | refine below_alloc ?_ _ | refine Below.setCell ?_ (by dsimp only; omega) _)
                · have g6 : z > 68 := by omega
                  clear g4
                  go_wp2
                  refine bodyPost_ret (v := keysV (keysP d)) (by rw [HQ.out, keysV_none]; simp [results, Try.results98, go_sem] <;> rfl) rfl ⟨rfl, ?_⟩
                  repeat (with_reducible first | exact Below.refl _ _ | refine below_alloc ?_ _ | refine Below.setCell ?_ (by dsimp only; omega) _)
              · have g5 : z = 65 ∨ z = 66 ∨ z = 67 ∨ z = 68 := by omega
                clear g4
                rcases g5 with rfl | rfl | rfl | rfl
                all_goals
                  go_wp2
                  go_meet
                  exact ⟨a + 3, _, by go_num, rfl, by omega, by omega, rfl, HQ0⟩
          · have HQ := Aside0.mk (show keysP d = (0, 0, [], -1) by unfold keysP; rw [HA.out, HX.out, HY.out, if_neg (by omega), if_pos rfl, if_neg g1, if_pos (by simpa using g2)])
            have b3 : (y != 91) = true := by simpa using g2
            clear hdl' g1 g2
            go_wp2
            refine bodyPost_ret (v := keysV (keysP d)) (by rw [HQ.out, keysV_none]; simp [results, Try.results98, go_sem] <;> rfl) rfl ⟨rfl, ?_⟩
            repeat (with_reducible first | exact Below.refl _ _ | refine below_alloc ?_ _ | refine Below.setCell ?_ (by dsimp only; omega) _)
      · have b2 : (x == 27) = false := by simpa using h27
        have HQ := Aside0.mk (show keysP d = doneP (kindP x) m d (a + 1) by unfold keysP; rw [HA.out, HX.out, HM.out, if_neg (by omega), if_neg h27])
        clear h27
        go_wp2
        go_meet
        exact ⟨a + 1, x, by go_num, rfl, by omega, by omega, rfl, HQ⟩
    case rest =>
      obtain ⟨i, k, rfl, rfl, hil, hi0, rfl, HQ0⟩ := hcut
      have hkb := kindP_bd k
      have hks := kindP_size k
      generalize hgk : kindP k = K at hkb hks HQ0
      have HK := Aside0.mk hgk
      clear hgk hx hxb hlb
      rcases (show K = 0 ∨ K = 3 ∨ (K = 12 ∨ K = 13) ∨ K = 8 ∨ (K = 1 ∨ K = 2 ∨ K = 9 ∨ K = 10) ∨ (K = 6 ∨ K = 7) ∨ (K = 4 ∨ K = 5 ∨ K = 14) by omega) with rfl | rfl | hk | rfl | hk | hk | hk
      · have HQ := Aside0.mk (show keysP d = (0, 0, [], -1) from HQ0.out)
        go_wp2_with (first | (go_at_call 128; refine Calls.mono (kindOf_c _ _) ?_; rintro e w' ⟨rfl, rfl⟩; rw [HK.out]) | (go_at_call 129; refine Calls.mono (counts_c _ _ (by omega) (by omega)) ?_; rintro e w' ⟨rfl, rfl⟩; rw [show countsP 0 = (0, 0, false) from rfl]))
        refine bodyPost_ret (v := keysV (keysP d)) (by rw [HQ.out, keysV_none]; simp [results, Try.results98, go_sem] <;> rfl) rfl ⟨rfl, ?_⟩
        repeat (with_reducible first | exact Below.refl _ _ | refine below_alloc ?_ _ | refine Below.setCell ?_ (by dsimp only; omega) _)
      · have HQ := Aside0.mk (show keysP d = (3, max (m - 1) 0, [], (i : Int)) by rw [HQ0.out]; show ((3 : Int), max 0 (m - 1), ([] : List Int), (i : Int)) = _; rw [Int.max_comm])
        have hw1 : IntKind.i64.wrap (m - 1) = m - 1 := by rw [IntKind.wrap_i64]; omega
        go_wp2_with (first | (go_at_call 128; refine Calls.mono (kindOf_c _ _) ?_; rintro e w' ⟨rfl, rfl⟩; rw [HK.out]) | (go_at_call 129; refine Calls.mono (counts_c _ _ (by omega) (by omega)) ?_; rintro e w' ⟨rfl, rfl⟩; rw [show countsP 3 = (0, 999, true) from rfl]))
        refine bodyPost_ret (v := keysV (keysP d)) (by rw [HQ.out, keysV_right _ _ _ _ (by omega)]; simp [results, Try.results98, go_sem] <;> rfl) rfl ⟨rfl, ?_⟩
        repeat (with_reducible first | exact Below.refl _ _ | refine below_alloc ?_ _ | refine Below.setCell ?_ (by dsimp only; omega) _)
      · by_cases g1 : d.length ≤ i
        · have HQ := Aside0.mk (show keysP d = (0, 0, [], 0) by rw [HQ0.out]; unfold doneP; rw [if_neg (by omega), if_pos hk, if_pos g1])
          have e1 : i = d.length := by omega
          have b3 : ((i : Int) == (d.length : Int)) = true := by rw [e1]; simp
          clear e1
          rcases hk with rfl | rfl
          all_goals
            go_wp2_with (first | (go_at_call 128; refine Calls.mono (kindOf_c _ _) ?_; rintro e w' ⟨rfl, rfl⟩; rw [HK.out]) | (go_at_call 129; refine Calls.mono (counts_c _ _ (by omega) (by omega)) ?_; rintro e w' ⟨rfl, rfl⟩; rw [show countsP _ = (0, 3, true) from rfl]))
            refine bodyPost_ret (v := keysV (keysP d)) (by rw [HQ.out, keysV_short]; simp [results, Try.results98, go_sem] <;> rfl) rfl ⟨rfl, ?_⟩
            repeat (with_reducible first | exact Below.refl _ _ | refine below_alloc ?_ _ | refine Below.setCell ?_ (by dsimp only; omega) _)
        · obtain ⟨ad', e, hx⟩ := at1 HR.out 0 i (by omega)
          cases e
          have hlb := World.block_lt_of_cell? w _ hx
          have hlt2 : i < d.length := by omega
          have b3 : ((i : Int) == (d.length : Int)) = false := by simp; omega
          have hvb := HBD.out (d.getD i 0) (mem_getD hlt2)
          generalize hgv : d.getD i 0 = v at hx hvb
          have HV := Aside0.mk hgv
          clear hgv
          have hw1 : IntKind.i64.wrap (v - 48) = v - 48 := by rw [IntKind.wrap_i64]; omega
          by_cases g2 : 48 ≤ v ∧ v ≤ 51
          · have HQ := Aside0.mk (show keysP d = (K, v - 48, [], (i : Int) + 1) by rw [HQ0.out]; unfold doneP; rw [if_neg (by omega), if_pos hk, if_neg g1, HV.out, if_pos g2])
            have hwi : within (v - 48) 0 3 = true := by simp [within]; omega
            clear g1 g2
            rcases hk with rfl | rfl
            all_goals
              go_wp2_with (first | (go_at_call 128; refine Calls.mono (kindOf_c _ _) ?_; rintro e w' ⟨rfl, rfl⟩; rw [HK.out]) | (go_at_call 129; refine Calls.mono (counts_c _ _ (by omega) (by omega)) ?_; rintro e w' ⟨rfl, rfl⟩; rw [show countsP _ = (0, 3, true) from rfl]) | (go_at_call 75; refine Calls.mono (within_c _ _ _ _) ?_; rintro e w' ⟨rfl, rfl⟩; rw [hwi]))
              refine bodyPost_ret (v := keysV (keysP d)) (by rw [HQ.out, keysV_right _ _ _ _ (by omega)]; simp [results, Try.results98, go_sem] <;> rfl) rfl ⟨rfl, ?_⟩
              repeat (with_reducible first | exact Below.refl _ _ | refine below_alloc ?_ _ | refine Below.setCell ?_ (by dsimp only; omega) _)
          · have HQ := Aside0.mk (show keysP d = (0, 0, [], -1) by rw [HQ0.out]; unfold doneP; rw [if_neg (by omega), if_pos hk, if_neg g1, HV.out, if_neg g2])
            have hwi : within (v - 48) 0 3 = false := by simp [within]; omega
            clear g1 g2
            rcases hk with rfl | rfl
            all_goals
              go_wp2_with (first | (go_at_call 128; refine Calls.mono (kindOf_c _ _) ?_; rintro e w' ⟨rfl, rfl⟩; rw [HK.out]) | (go_at_call 129; refine Calls.mono (counts_c _ _ (by omega) (by omega)) ?_; rintro e w' ⟨rfl, rfl⟩; rw [show countsP _ = (0, 3, true) from rfl]) | (go_at_call 75; refine Calls.mono (within_c _ _ _ _) ?_; rintro e w' ⟨rfl, rfl⟩; rw [hwi]))
              refine bodyPost_ret (v := keysV (keysP d)) (by rw [HQ.out, keysV_none]; simp [results, Try.results98, go_sem] <;> rfl) rfl ⟨rfl, ?_⟩
              repeat (with_reducible first | exact Below.refl _ _ | refine below_alloc ?_ _ | refine Below.setCell ?_ (by dsimp only; omega) _)
      · have hdn8 : keysP d = if tailP d i ≤ 0 then (0, 0, [], tailP d i) else (8, 0, (d.drop i).take (tailP d i - 1).toNat, (i : Int) + tailP d i) := HQ0.out
        obtain ⟨A', hr', hc', hrun⟩ := fromU (some ad) c d i w HR.out (by omega) hc
        have hrun1 := hrun .i64
        clear hrun
        have hlr : (d.drop i).length = d.length - i := List.length_drop
        have hbr : ∀ z ∈ d.drop i, 0 ≤ z ∧ z ≤ 255 := fun z hz => HBD.out z (List.mem_of_mem_drop hz)
        have htl : tailP d i = if nlP (d.drop i) < (d.drop i).length then (if nlP (d.drop i) ≤ 60 then (nlP (d.drop i) : Int) + 1 else -1) else if (d.drop i).length ≤ 60 then 0 else -1 := rfl
        have hnl : nlI (d.drop i) = if nlP (d.drop i) < (d.drop i).length then (nlP (d.drop i) : Int) else -1 := rfl
        have hmid := fun n h1 h2 => midU (some ad) c d i (i + n) w HR.out h1 h2 hc
        rw [htl] at hdn8
        clear htl
        have HMID := Aside0.mk hmid
        clear hmid
        have HTK := Aside0.mk (fun n : Nat => show (d.take (i + n)).drop i = (d.drop i).take n by rw [List.drop_take, Nat.add_sub_cancel_left])
        have hlq : (d.drop i).length + i = d.length := by omega
        generalize d.drop i = r at hr' hc' hrun1 hlr hlq hbr hnl hdn8 HTK
        have hlr1 : r.length + i ≤ d.length := by omega
        have hlr2 : d.length ≤ r.length + i := by omega
        clear hlr hlq
        have HR' := Aside0.mk hr'
        have HBR := Aside0.mk hbr
        clear hr' hbr
        by_cases g1 : nlP r < r.length
        · rw [if_pos g1] at hdn8 hnl
          have HL := Aside0.mk hnl
          clear hnl
          generalize hgn : nlP r = n at g1 hdn8 HL
          clear hgn
          by_cases g2 : n ≤ 60
          · rw [if_pos g2, if_neg (by omega), show ((n : Int) + 1 - 1).toNat = n by omega] at hdn8
            obtain ⟨A2, hr2, hc2, hrun2⟩ := HMID.out n (by omega) (by omega)
            rw [HTK.out n] at hr2 hc2 hrun2
            have hrn2 := hrun2 .i64 .i64
            rw [Int.natCast_add] at hrn2
            clear hrun2
            have hst := fun W => strU A2 (r.take n).length (c - i) (r.take n) W
            have hst2 := hst _ (Kd.C_alloc (Kd.C_alloc hr2 (.cells #[.int .i64 0, .int .i64 0, .int .i64 0, .string ByteArray.empty] 111)) (.cells #[.int .i64 8, .int .i64 0, .int .i64 0, .string ⟨#[]⟩] 111))
            clear hst hr2
            have HQ := Aside0.mk (show keysP d = (8, 0, r.take n, (i : Int) + ((n : Int) + 1)) from hdn8)
            clear hdn8
            have hl2 : (r.take n).length = n := by rw [List.length_take]; omega
            have b3 : decide ((n : Int) > 60) = false := decide_eq_false (by omega)
            have hn60 : n ≤ 60 := g2
            generalize r.take n = q at hrn2 hc2 hst2 HQ hl2
            have HL2 := Aside0.mk hl2
            clear hl2
            go_wp2_with (first | (go_at_call 128; refine Calls.mono (kindOf_c _ _) ?_; rintro e w' ⟨rfl, rfl⟩; rw [HK.out]) | (go_at_call 129; refine Calls.mono (counts_c _ _ (by omega) (by omega)) ?_; rintro e w' ⟨rfl, rfl⟩; rw [show countsP 8 = (0, 0, false) from rfl]) | (go_at_call 130; refine Calls.mono (bIndexByte_c A' _ r _ (by repeat (with_reducible first | exact HR'.out | refine Kd.C_alloc ?_ _)) HBR.out) ?_; rintro e w' ⟨rfl, rfl⟩; rw [HL.out]))
            refine bodyPost_ret (v := keysV (keysP d)) (by rw [HQ.out, keysV_right _ _ _ _ (by omega)]; simp [results, Try.results98, go_sem] <;> rfl) rfl ⟨rfl, ?_⟩
            repeat (with_reducible first | exact Below.refl _ _ | refine below_alloc ?_ _ | refine Below.setCell ?_ (by dsimp only; omega) _)
          · rw [if_neg g2, if_pos (by omega)] at hdn8
            have HQ := Aside0.mk hdn8
            clear hdn8
            have g3 : 60 < n := by omega
            clear g2
            go_wp2_with (first | (go_at_call 128; refine Calls.mono (kindOf_c _ _) ?_; rintro e w' ⟨rfl, rfl⟩; rw [HK.out]) | (go_at_call 129; refine Calls.mono (counts_c _ _ (by omega) (by omega)) ?_; rintro e w' ⟨rfl, rfl⟩; rw [show countsP 8 = (0, 0, false) from rfl]) | (go_at_call 130; refine Calls.mono (bIndexByte_c A' _ r _ (by repeat (with_reducible first | exact HR'.out | refine Kd.C_alloc ?_ _)) HBR.out) ?_; rintro e w' ⟨rfl, rfl⟩; rw [HL.out]))
            refine bodyPost_ret (v := keysV (keysP d)) (by rw [HQ.out, keysV_none]; simp [results, Try.results98, go_sem] <;> rfl) rfl ⟨rfl, ?_⟩
            repeat (with_reducible first | exact Below.refl _ _ | refine below_alloc ?_ _ | refine Below.setCell ?_ (by dsimp only; omega) _)
        · rw [if_neg g1] at hdn8 hnl
          have HL := Aside0.mk hnl
          clear hnl g1
          by_cases g2 : r.length ≤ 60
          · rw [if_pos g2, if_pos (by omega)] at hdn8
            have HQ := Aside0.mk hdn8
            have g3 : (d.length : Int) - i ≤ 60 := by omega
            clear hdn8
            go_wp2_with (first | (go_at_call 128; refine Calls.mono (kindOf_c _ _) ?_; rintro e w' ⟨rfl, rfl⟩; rw [HK.out]) | (go_at_call 129; refine Calls.mono (counts_c _ _ (by omega) (by omega)) ?_; rintro e w' ⟨rfl, rfl⟩; rw [show countsP 8 = (0, 0, false) from rfl]) | (go_at_call 130; refine Calls.mono (bIndexByte_c A' _ r _ (by repeat (with_reducible first | exact HR'.out | refine Kd.C_alloc ?_ _)) HBR.out) ?_; rintro e w' ⟨rfl, rfl⟩; rw [HL.out]))
            refine bodyPost_ret (v := keysV (keysP d)) (by rw [HQ.out, keysV_short]; simp [results, Try.results98, go_sem] <;> rfl) rfl ⟨rfl, ?_⟩
            repeat (with_reducible first | exact Below.refl _ _ | refine below_alloc ?_ _ | refine Below.setCell ?_ (by dsimp only; omega) _)
          · rw [if_neg g2, if_pos (by omega)] at hdn8
            have HQ := Aside0.mk hdn8
            have g3 : ¬ ((d.length : Int) - i ≤ 60) := by omega
            clear hdn8 g2
            go_wp2_with (first | (go_at_call 128; refine Calls.mono (kindOf_c _ _) ?_; rintro e w' ⟨rfl, rfl⟩; rw [HK.out]) | (go_at_call 129; refine Calls.mono (counts_c _ _ (by omega) (by omega)) ?_; rintro e w' ⟨rfl, rfl⟩; rw [show countsP 8 = (0, 0, false) from rfl]) | (go_at_call 130; refine Calls.mono (bIndexByte_c A' _ r _ (by repeat (with_reducible first | exact HR'.out | refine Kd.C_alloc ?_ _)) HBR.out) ?_; rintro e w' ⟨rfl, rfl⟩; rw [HL.out]))
            refine bodyPost_ret (v := keysV (keysP d)) (by rw [HQ.out, keysV_none]; simp [results, Try.results98, go_sem] <;> rfl) rfl ⟨rfl, ?_⟩
            repeat (with_reducible first | exact Below.refl _ _ | refine below_alloc ?_ _ | refine Below.setCell ?_ (by dsimp only; omega) _)
      · have HQ := Aside0.mk (show keysP d = (K, min (max m 1) 999, [], (i : Int)) by rw [HQ0.out]; rcases hk with rfl | rfl | rfl | rfl <;> (show (_, _, _, _) = _; simp [countP]; try omega))
        rcases hk with rfl | rfl | rfl | rfl
        all_goals
          go_wp2_with (first | (go_at_call 128; refine Calls.mono (kindOf_c _ _) ?_; rintro e w' ⟨rfl, rfl⟩; rw [HK.out]) | (go_at_call 129; refine Calls.mono (counts_c _ _ (by omega) (by omega)) ?_; rintro e w' ⟨rfl, rfl⟩; rw [show countsP _ = (1, 999, true) from rfl]))
          refine bodyPost_ret (v := keysV (keysP d)) (by rw [HQ.out, keysV_right _ _ _ _ (by omega)]; simp [results, Try.results98, go_sem] <;> rfl) rfl ⟨rfl, ?_⟩
          repeat (with_reducible first | exact Below.refl _ _ | refine below_alloc ?_ _ | refine Below.setCell ?_ (by dsimp only; omega) _)
      · have HQ := Aside0.mk (show keysP d = (K, min (max m 1) 400, [], (i : Int)) by rw [HQ0.out]; rcases hk with rfl | rfl <;> (show (_, _, _, _) = _; simp [countP]; try omega))
        rcases hk with rfl | rfl
        all_goals
          go_wp2_with (first | (go_at_call 128; refine Calls.mono (kindOf_c _ _) ?_; rintro e w' ⟨rfl, rfl⟩; rw [HK.out]) | (go_at_call 129; refine Calls.mono (counts_c _ _ (by omega) (by omega)) ?_; rintro e w' ⟨rfl, rfl⟩; rw [show countsP _ = (1, 400, true) from rfl]))
          refine bodyPost_ret (v := keysV (keysP d)) (by rw [HQ.out, keysV_right _ _ _ _ (by omega)]; simp [results, Try.results98, go_sem] <;> rfl) rfl ⟨rfl, ?_⟩
          repeat (with_reducible first | exact Below.refl _ _ | refine below_alloc ?_ _ | refine Below.setCell ?_ (by dsimp only; omega) _)
      · have HQ := Aside0.mk (show keysP d = (K, 0, [], (i : Int)) by rw [HQ0.out]; rcases hk with rfl | rfl | rfl <;> (show (_, _, _, _) = _; simp [countP]; try omega))
        rcases hk with rfl | rfl | rfl
        all_goals
          go_wp2_with (first | (go_at_call 128; refine Calls.mono (kindOf_c _ _) ?_; rintro e w' ⟨rfl, rfl⟩; rw [HK.out]) | (go_at_call 129; refine Calls.mono (counts_c _ _ (by omega) (by omega)) ?_; rintro e w' ⟨rfl, rfl⟩; rw [show countsP _ = (0, 0, false) from rfl]))
          refine bodyPost_ret (v := keysV (keysP d)) (by rw [HQ.out, keysV_right _ _ _ _ (by omega)]; simp [results, Try.results98, go_sem] <;> rfl) rfl ⟨rfl, ?_⟩
          repeat (with_reducible first | exact Below.refl _ _ | refine below_alloc ?_ _ | refine Below.setCell ?_ (by dsimp only; omega) _)
end Go.Proofs.Ytpfponhaofdbaaa.M
