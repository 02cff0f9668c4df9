import Derived.Test.YtpfponhaofdbaaaQ6
import Derived.Deep.DeepCutAuto
import Derived.Deep.CutBlock
set_option linter.unusedVariables false
set_option linter.unusedSimpArgs false
namespace Go.Proofs.Ytpfponhaofdbaaa.M
open Go.RowKit Go.Proofs.YtpfponhaofdbaaaW.PrintWords

def OneCmd (q : CmdQ) (w : World) (e : Ending) (w' : World) : Prop :=
  ∃ (K n : Int) (s : ByteArray), e = .returned (.tuple #[.agg #[.int .i64 K, .int .i64 n, .int .i64 0, .string s], .int .i64 q.2.2.2]) ∧ (0 < q.2.2.2 → K = q.1 ∧ n = q.2.1 ∧ s = strOfNums q.2.2.1) ∧ Below w.heap.size w w'
/-- The reference tells how many bytes from its place on. -/
def shiftP (q : CmdQ) : CmdQ := q
theorem doneP_drop (K m : Int) (d : List Int) (p i : Nat) (hp : p ≤ i) (hi : i ≤ d.length) (u : Int) : doneP K m (d.drop p) (i - p) = if K = 0 then (0, 0, [], -1) else if K = 12 ∨ K = 13 ∨ K = 8 then (if moreP K d i ≤ 0 then (0, 0, [], moreP K d i) else (K, moreN K 0 d i, if K = 8 then (d.drop i).take (tailP d i - 1).toNat else [], (i : Int) - p + moreP K d i)) else (K, countP K m, [], (i : Int) - p) := by
  have e1 : (d.drop p).length = d.length - p := List.length_drop
  have e2 : (d.drop p).getD (i - p) 0 = d.getD i 0 := by rw [getD_drop]; congr 1; omega
  have e3 : (d.drop p).drop (i - p) = d.drop i := by rw [List.drop_drop]; congr 1; omega
  have e4 : tailP (d.drop p) (i - p) = tailP d i := by unfold tailP; rw [e3]
  have e5 : ((i - p : Nat) : Int) = (i : Int) - p := by omega
  unfold doneP
  rw [e2, e3, e4, e1, e5]
  by_cases h0 : K = 0
  · rw [if_pos h0, if_pos h0]
  · rw [if_neg h0, if_neg h0]
    by_cases h12 : K = 12 ∨ K = 13
    · have h8 : K ≠ 8 := by omega
      have hA : K = 12 ∨ K = 13 ∨ K = 8 := by omega
      rw [if_pos h12, if_pos hA, if_neg h8]
      by_cases g1 : d.length ≤ i
      · have g1' : d.length - p ≤ i - p := by omega
        have hm : moreP K d i = 0 := by unfold moreP; rw [if_neg h8, if_pos g1]
        rw [if_pos g1', hm, if_pos (Int.le_refl _)]
      · have g1' : ¬ (d.length - p ≤ i - p) := by omega
        by_cases g2 : 48 ≤ d.getD i 0 ∧ d.getD i 0 ≤ 51
        · have hm : moreP K d i = 1 := by unfold moreP; rw [if_neg h8, if_neg g1, if_pos g2]
          have hn : moreN K 0 d i = d.getD i 0 - 48 := by unfold moreN; rw [if_neg h8, hm, if_pos rfl]
          rw [if_neg g1', if_pos g2, hm, hn, if_neg (by omega)]
        · have hm : moreP K d i = -1 := by unfold moreP; rw [if_neg h8, if_neg g1, if_neg g2]
          rw [if_neg g1', if_neg g2, hm, if_pos (by omega)]
    · rw [if_neg h12]
      by_cases h8 : K = 8
      · subst h8
        have hm : moreP 8 d i = tailP d i := rfl
        have hn : moreN 8 0 d i = 0 := rfl
        rw [if_pos rfl, if_pos (show (8 : Int) = 12 ∨ (8 : Int) = 13 ∨ (8 : Int) = 8 from .inr (.inr rfl)), hm, hn, if_pos rfl]
      · rw [if_neg h8, if_neg (by omega)]

theorem rdg_step {D d : List Int} {p j : Nat} {m : Int} {r : Int × Nat} (h : rdg D (3 - (j - p)) m (j - p) = r) (hD : D = d.drop p) (hp : p ≤ j) (h3 : j < p + 3) (hc : j < d.length ∧ 48 ≤ d.getD j 0 ∧ d.getD j 0 ≤ 57 ∧ (p < j ∨ d.getD j 0 ≠ 48)) : rdg D (3 - (j + 1 - p)) (m * 10 + (d.getD j 0 - 48)) (j + 1 - p) = r := by
  subst hD
  have e : (d.drop p).getD (j - p) 0 = d.getD j 0 := by rw [getD_drop]; congr 1; omega
  have hl : (d.drop p).length = d.length - p := List.length_drop
  have := rdg_go h (by omega) ⟨by omega, by rw [e]; exact hc.2.1, by rw [e]; exact hc.2.2.1, by rw [e]; rcases hc.2.2.2 with h | h; exact .inl (by omega); exact .inr h⟩
  rw [e, Int.mul_comm, show j - p + 1 = j + 1 - p by omega] at this
  exact this
theorem rdg_fin {D d : List Int} {p j : Nat} {m : Int} {r : Int × Nat} (h : rdg D (3 - (j - p)) m (j - p) = r) (hD : D = d.drop p) (hp : p ≤ j) (h3 : j ≤ p + 3) (hc : ¬ (j < d.length ∧ j < p + 3 ∧ 48 ≤ d.getD j 0 ∧ d.getD j 0 ≤ 57 ∧ (p < j ∨ d.getD j 0 ≠ 48))) : r = (m, j - p) := by
  subst hD
  have e : (d.drop p).getD (j - p) 0 = d.getD j 0 := by rw [getD_drop]; congr 1; omega
  have hl : (d.drop p).length = d.length - p := List.length_drop
  refine rdg_end h (by omega) (fun hh => hc ?_)
  rw [e] at hh
  exact ⟨by omega, by omega, hh.2.2.1, hh.2.2.2.1, by rcases hh.2.2.2.2 with h | h; exact .inl (by omega); exact .inr h⟩
theorem moreP_bd (K : Int) (d : List Int) (i : Nat) : -1 ≤ moreP K d i ∧ moreP K d i ≤ 61 := by
  unfold moreP
  have := tailP_bd d i
  split
  · exact ⟨this.1, this.2.1⟩
  · split
    · omega
    · split <;> omega
theorem moreT_of (K : Int) (d : List Int) (i : Nat) (h : 0 < moreP K d i) : moreT K d i = strOfNums (if K = 8 then (d.drop i).take (tailP d i - 1).toNat else []) := by
  unfold moreT
  by_cases h8 : K = 8
  · subst h8
    rw [if_pos ⟨rfl, h⟩, if_pos rfl]
  · rw [if_neg (fun h => h8 h.1), if_neg h8]; rfl
set_option maxRecDepth 100000 in
set_option maxHeartbeats 8000000 in
theorem l12One_c (A : Option Addr) (c : Nat) (d : List Int) (p : Nat) (w : World) (hr : Kd.C (Kd.int .u8) w A d.length d) (hc : d.length ≤ c) (hl : d.length ≤ 1000) (hp : p ≤ d.length) (hb : ∀ z ∈ d, 0 ≤ z ∧ z ≤ 255) :
    Calls Try.prog 97 #[.slice A d.length c, .int .i64 p] w (OneCmd (keysP (d.drop p)) w) := by
  have HR := Aside0.mk hr
  have HBD := Aside0.mk hb
  clear hr hb
  go_enter Try.func97, Try.ntmps97
  go_upto_block 0 with fail
  go_cut [6, 7] (fun v6 v7 wx => ∃ (m : Int) (j : Nat), v6 = .int .i64 m ∧ v7 = .int .i64 j ∧ p ≤ j ∧ j ≤ p + 3 ∧ j ≤ d.length ∧ 0 ≤ m ∧ m ≤ 999 ∧ wx = w.alloc (.cells #[.int .i64 0, .int .i64 0, .int .i64 0, .string ByteArray.empty] 111) ∧ Aside0 (rdg (d.drop p) 3 0 0 = (m, j - p)))
  case first =>
    go_wp2_with fail
    go_loop [6, 7] (fun n i => ∃ (m : Int) (j : Nat), p ≤ j ∧ j ≤ p + 3 ∧ j ≤ d.length ∧ n = .int .i64 m ∧ i = .int .i64 j ∧ 0 ≤ m ∧ Aside0 (m < p10 (j - p)) ∧ Aside0 (rdg (d.drop p) (3 - (j - p)) m (j - p) = rdg (d.drop p) 3 0 0)) (fun _ i => p + 3 - (intOf i).toNat)
    case atStart => exact ⟨0, p, by omega, by omega, hp, rfl, rfl, by omega, ⟨by rw [Nat.sub_self]; decide⟩, ⟨by rw [Nat.sub_self]⟩⟩
    case round =>
      obtain ⟨m, j, hj0, hj3, hjl, rfl, rfl, hm0, HP, HG⟩ := hrel
      have hm9 : m ≤ 999 := by
        have h := HP.out
        rcases (show j - p = 0 ∨ j - p = 1 ∨ j - p = 2 ∨ j - p = 3 by omega) with e | e | e | e <;> rw [e] at h <;> simp [p10] at h <;> omega
      by_cases h1 : j < d.length
      · by_cases h3 : j < p + 3
        · obtain ⟨ad, e, hx⟩ := at1 HR.out 0 j h1
          cases e
          have hlb := World.block_lt_of_cell? w _ hx
          have hpm := p10_small HP.out (by omega)
          have hv := HBD.out (d.getD j 0) (mem_getD h1)
          have HST := Aside0.mk (fun hc => rdg_step (d := d) HG.out rfl hj0 h3 ⟨h1, hc⟩)
          have HFN := Aside0.mk (fun hc => rdg_fin (d := d) HG.out rfl hj0 hj3 hc)
          generalize hgv : d.getD j 0 = v at hx hv HST HFN
          clear hgv
          have hgo : 48 ≤ v ∧ v ≤ 57 ∧ (p < j ∨ v ≠ 48) → Aside0 (rdg (d.drop p) (3 - (j + 1 - p)) (m * 10 + (v - 48)) (j + 1 - p) = rdg (d.drop p) 3 0 0) ∧ Aside0 (m * 10 + (v - 48) < p10 (j + 1 - p)) := fun hc =>
            ⟨⟨HST.out hc⟩, ⟨by have := HP.out; rw [show j + 1 - p = (j - p) + 1 by omega]; show _ < 10 * p10 (j - p); omega⟩⟩
          have hstop : ¬ (48 ≤ v ∧ v ≤ 57 ∧ (p < j ∨ v ≠ 48)) → Aside0 (rdg (d.drop p) 3 0 0 = (m, j - p)) := fun hc => ⟨HFN.out (fun hh => hc hh.2.2)⟩
          have HGO := Aside0.mk hgo
          have HSTOP := Aside0.mk hstop
          clear hgo hstop
          by_cases g1 : 49 ≤ v ∧ v ≤ 57
          · obtain ⟨g1, g2⟩ := g1
            obtain ⟨HG2, HP2⟩ := HGO.out ⟨by omega, by omega, .inr (by omega)⟩
            have hs : IntKind.u8.wrap (v - 48) = v - 48 := by rw [IntKind.wrap_u8]; omega
            go_wp2
            go_round
            case rel => exact ⟨m * 10 + (v - 48), j + 1, by omega, by omega, by omega, by go_num, by go_num, by omega, HP2, HG2⟩
            case measure => simp [intOf]; omega
          · have hg : v < 49 ∨ v > 57 := by omega
            by_cases g4 : p < j ∧ v = 48
            · obtain ⟨g4, rfl⟩ := g4
              obtain ⟨HG2, HP2⟩ := HGO.out ⟨by omega, by omega, .inl g4⟩
              have hs : IntKind.u8.wrap (48 - 48) = 0 := by decide
              clear g1 hg
              go_wp2
              go_round
              case rel => exact ⟨m * 10 + (48 - 48), j + 1, by omega, by omega, by omega, by go_num, by go_num, by omega, HP2, HG2⟩
              case measure => simp [intOf]; omega
            · have HE := HSTOP.out (by omega)
              have b2 : p < j → (v == 48) = false := fun h => by simp; intro h2; exact g4 ⟨h, h2⟩
              rcases hg with hg | hg
              · by_cases g5 : p < j
                · have b3 := b2 g5
                  clear g1 g4 b2
                  go_wp2
                  go_meet
                  exact ⟨m, j, rfl, rfl, hj0, hj3, hjl, hm0, hm9, rfl, HE⟩
                · clear g1 g4 b2
                  go_wp2
                  go_meet
                  exact ⟨m, j, rfl, rfl, hj0, hj3, hjl, hm0, hm9, rfl, HE⟩
              · have g6 : 49 ≤ v := by omega
                by_cases g5 : p < j
                · have b3 := b2 g5
                  clear g1 g4 b2
                  go_wp2
                  go_meet
                  exact ⟨m, j, rfl, rfl, hj0, hj3, hjl, hm0, hm9, rfl, HE⟩
                · clear g1 g4 b2
                  go_wp2
                  go_meet
                  exact ⟨m, j, rfl, rfl, hj0, hj3, hjl, hm0, hm9, rfl, HE⟩
        · have HE := Aside0.mk (rdg_fin (d := d) HG.out rfl hj0 hj3 (fun hh => h3 hh.2.1))
          go_wp2
          go_meet
          exact ⟨m, j, rfl, rfl, hj0, hj3, hjl, hm0, hm9, rfl, HE⟩
      · have HE := Aside0.mk (rdg_fin (d := d) HG.out rfl hj0 hj3 (fun hh => h1 hh.1))
        go_wp2
        go_meet
        exact ⟨m, j, rfl, rfl, hj0, hj3, hjl, hm0, hm9, rfl, HE⟩
  case rest =>
    obtain ⟨m, j, rfl, rfl, hj0, hj3, hjl, hm0, hm9, rfl, HD⟩ := hcut
    have hDl : (d.drop p).length = d.length - p := List.length_drop
    have HDL := Aside0.mk hDl
    clear hDl
    by_cases h1 : d.length ≤ j
    · have HQ := Aside0.mk (show keysP (d.drop p) = (0, 0, [], 0) by unfold keysP; rw [HD.out, if_pos (by rw [HDL.out]; omega)])
      go_wp2
      refine bodyPost_ret (v := .tuple #[.agg #[.int .i64 0, .int .i64 0, .int .i64 0, .string ByteArray.empty], .int .i64 (0)]) (by simp [results, Try.results97, go_sem] <;> rfl) rfl ⟨0, 0, ByteArray.empty, by rw [HQ.out], fun h => absurd h (by rw [HQ.out]; decide), ?_⟩
      repeat (with_reducible first | exact Below.refl _ _ | refine below_alloc ?_ _ | refine Below.setCell ?_ (by dsimp only; omega) _)
    · obtain ⟨ad, e, hx⟩ := at1 HR.out 0 j (by omega)
      cases e
      have hlb := World.block_lt_of_cell? w _ hx
      have hjlt : j < d.length := by omega
      have HXD := Aside0.mk (show (d.drop p).getD (j - p) 0 = d.getD j 0 by rw [getD_drop]; congr 1; omega)
      generalize hgx : d.getD j 0 = x at hx HXD
      clear hgx
      have HN1 := Aside0.mk (show ¬ (d.drop p).length ≤ j - p by rw [HDL.out]; omega)
      clear h1
      go_upto_if 71 with fail
      go_cut [7, 8] (fun v7 v8 wx => ∃ (i : Nat) (k : Int), v7 = .int .i64 i ∧ v8 = .int .u8 k ∧ i ≤ d.length ∧ p ≤ i ∧ wx = w.alloc (.cells #[.int .i64 0, .int .i64 0, .int .i64 0, .string ByteArray.empty] 111) ∧ Aside0 (keysP (d.drop p) = doneP (kindP k) m (d.drop p) (i - p)))
      case first =>
        by_cases h27 : x = 27
        · subst h27
          have HQ1 := Aside0.mk (show keysP (d.drop p) = _ by unfold keysP; rw [HD.out, HXD.out, if_neg HN1.out, if_pos rfl])
          by_cases g1 : d.length ≤ j + 1
          · have HQ := Aside0.mk (show keysP (d.drop p) = (0, 0, [], 0) by rw [HQ1.out, if_pos (by rw [HDL.out]; omega)])
            go_wp2
            refine bodyPost_ret (v := .tuple #[.agg #[.int .i64 0, .int .i64 0, .int .i64 0, .string ByteArray.empty], .int .i64 (0)]) (by simp [results, Try.results97, go_sem] <;> rfl) rfl ⟨0, 0, ByteArray.empty, by rw [HQ.out], fun h => absurd h (by rw [HQ.out]; decide), ?_⟩
            repeat (with_reducible first | exact Below.refl _ _ | refine below_alloc ?_ _ | refine Below.setCell ?_ (by dsimp only; omega) _)
          · obtain ⟨ad', e, hy⟩ := at1 HR.out 0 (j + 1) (by omega)
            cases e
            have hlb' := World.block_lt_of_cell? w _ hy
            rw [show ad.add (j + 1) = { block := ad.block, off := ad.off + (j + 1) } by simp [Addr.add]] at hy hlb'
            have HYD := Aside0.mk (show (d.drop p).getD (j - p + 1) 0 = d.getD (j + 1) 0 by rw [getD_drop]; congr 1; omega)
            generalize hgy : d.getD (j + 1) 0 = y at hy HYD
            clear hgy
            have hj1 : j + 1 < d.length := by omega
            by_cases g2 : y = 91
            · subst g2
              have HQ2 := Aside0.mk (show keysP (d.drop p) = _ by rw [HQ1.out, HYD.out, if_neg (by rw [HDL.out]; omega), if_neg (by simp)])
              by_cases g3 : d.length ≤ j + 2
              · have HQ := Aside0.mk (show keysP (d.drop p) = (0, 0, [], 0) by rw [HQ2.out, if_pos (by rw [HDL.out]; omega)])
                clear g1
                go_wp2
                refine bodyPost_ret (v := .tuple #[.agg #[.int .i64 0, .int .i64 0, .int .i64 0, .string ByteArray.empty], .int .i64 (0)]) (by simp [results, Try.results97, go_sem] <;> rfl) rfl ⟨0, 0, ByteArray.empty, by rw [HQ.out], fun h => absurd h (by rw [HQ.out]; decide), ?_⟩
                repeat (with_reducible first | exact Below.refl _ _ | refine below_alloc ?_ _ | refine Below.setCell ?_ (by dsimp only; omega) _)
              · obtain ⟨ad'', e, hz⟩ := at1 HR.out 0 (j + 2) (by omega)
                cases e
                have hlb2 := World.block_lt_of_cell? w _ hz
                rw [show ad.add (j + 2) = { block := ad.block, off := ad.off + (j + 2) } by simp [Addr.add]] at hz hlb2
                have HZD := Aside0.mk (show (d.drop p).getD (j - p + 2) 0 = d.getD (j + 2) 0 by rw [getD_drop]; congr 1; omega)
                generalize hgz : d.getD (j + 2) 0 = z at hz HZD
                clear hgz
                have hj2 : j + 2 < d.length := by omega
                have hz2 : w.cell? { block := ad.block, off := ad.off + (j + 1 + 1) } = some (.int .u8 z) := hz
                have HQ := Aside0.mk (show keysP (d.drop p) = doneP (kindP (arrowP z)) m (d.drop p) (j + 3 - p) by rw [HQ2.out, HZD.out, if_neg (by rw [HDL.out]; omega)]; congr 1; omega)
                go_wp2_with (go_at_call 123; refine Calls.mono (l12Arrow_c _ _) ?_; rintro e w' ⟨rfl, rfl⟩)
                go_meet
                exact ⟨j + 3, arrowP z, by go_num, rfl, by omega, by omega, rfl, HQ⟩
            · have HQ := Aside0.mk (show keysP (d.drop p) = (0, 0, [], -1) by rw [HQ1.out, HYD.out, if_neg (by rw [HDL.out]; omega), if_pos (by simpa using g2)])
              have b3 : (y != 91) = true := by simpa using g2
              clear g2
              go_wp2
              refine bodyPost_ret (v := .tuple #[.agg #[.int .i64 0, .int .i64 0, .int .i64 0, .string ByteArray.empty], .int .i64 (-1)]) (by simp [results, Try.results97, go_sem] <;> rfl) rfl ⟨0, 0, ByteArray.empty, by rw [HQ.out], fun h => absurd h (by rw [HQ.out]; decide), ?_⟩
              repeat (with_reducible first | exact Below.refl _ _ | refine below_alloc ?_ _ | refine Below.setCell ?_ (by dsimp only; omega) _)
        · have b2 : (x == 27) = false := by simpa using h27
          have HQ := Aside0.mk (show keysP (d.drop p) = doneP (kindP x) m (d.drop p) (j + 1 - p) by unfold keysP; rw [HD.out, HXD.out, if_neg HN1.out, if_neg h27]; congr 1; omega)
          clear h27
          go_wp2
          go_meet
          exact ⟨j + 1, x, by go_num, rfl, by omega, by omega, rfl, HQ⟩
      case rest =>
        obtain ⟨i, k, rfl, rfl, hil, hpi, rfl, HQ0⟩ := hcut
        clear hx hlb
        have hkb := kindP_bd k
        have hks := kindP_size k
        have HQ1 := Aside0.mk (HQ0.out.trans (doneP_drop (kindP k) m d p i hpi hil 0))
        clear HQ0
        generalize hgk : kindP k = K at hkb hks HQ1
        have HK := Aside0.mk hgk
        clear hgk
        go_wp2_with fail
        refine Calls.mono (l12Kind_c _ _) ?_
        rintro e w1 ⟨rfl, hb1⟩
        rw [HK.out]
        have NB1 := blk_below (blk_new (W := w) (.cells #[.int .i64 0, .int .i64 0, .int .i64 0, .string ByteArray.empty] 111)) hb1
        have rd1 := blk_cell NB1
        have fr1 := blk_free NB1
        have BB1 := Aside0.mk NB1
        have lt1 := blk_lt NB1
        have sz1 := hb1.size
        simp only [size_alloc] at sz1
        have HB1 := Aside0.mk hb1
        clear hb1 NB1
        by_cases h0 : K = 0
        · subst h0
          have HQ := Aside0.mk (show keysP (d.drop p) = (0, 0, [], -1) from HQ1.out)
          go_wp2
          refine bodyPost_ret (v := .tuple #[.agg #[.int .i64 0, .int .i64 0, .int .i64 0, .string ByteArray.empty], .int .i64 (-1)]) (by simp [results, Try.results97, go_sem, rd1, lt1] <;> rfl) rfl ⟨0, 0, ByteArray.empty, by rw [HQ.out], fun h => absurd h (by rw [HQ.out]; decide), ?_⟩
          repeat (with_reducible first | exact Below.refl _ _ | refine below_alloc ?_ _ | refine Below.setCell ?_ (by dsimp only; omega) _ | refine below_end ?_ HB1.out)
        · by_cases h8 : K = 12 ∨ K = 13 ∨ K = 8
          · have HQ := Aside0.mk (HQ1.out.trans ((if_neg h0).trans (if_pos h8)))
            have h8' : (K = 12 ∨ K = 13) ∨ K = 8 := by omega
            have hcp : countP K m = 0 := by unfold countP; rw [if_neg (by omega), if_neg (by omega), if_neg (by omega)]
            have HCP := Aside0.mk hcp
            clear hcp HQ1
            have b0 : (K == 0) = false := by simpa using h0
            have g8 : (K == 12) = true ∨ (K == 12) = false ∧ (K == 13) = true ∨ (K == 12) = false ∧ (K == 13) = false ∧ (K == 8) = true := by
              rcases h8 with rfl | rfl | rfl
              · exact .inl rfl
              · exact .inr (.inl ⟨rfl, rfl⟩)
              · exact .inr (.inr ⟨rfl, rfl, rfl⟩)
            have H8 := Aside0.mk h8'
            clear h0 h8 h8'
            have hMb := moreP_bd K d i
            have HMT := Aside0.mk (moreT_of K d i)
            generalize hgM : moreP K d i = M at hMb HMT HQ
            generalize hgN : moreN K 0 d i = N at HQ
            generalize hgT : moreT K d i = T at HMT
            generalize (if K = 8 then (d.drop i).take (tailP d i - 1).toNat else []) = tx at HMT HQ
            have HM := Aside0.mk hgM
            have HN := Aside0.mk hgN
            have HT := Aside0.mk hgT
            clear hgM hgN hgT
            rcases g8 with g | ⟨g, g'⟩ | ⟨g, g', g''⟩
            all_goals
              go_wp2_with (first
                | (go_at_call 125; refine Calls.mono (l12Count_c _ _ _ (by omega) (by omega) (by omega) (by omega)) ?_; rintro e w' ⟨rfl, rfl⟩; rw [HCP.out])
                | fail)
              refine Calls.mono (l12Tail_c (some ad) c d i w1.heap.size K 0 _ (by first | exact blk_new _ | exact blk_set (blk_new _) rfl) (by repeat (with_reducible first | exact HR.out | refine Kd.C_alloc ?_ _ | refine Kd.C_below ?_ HB1.out)) hc hl hil HBD.out H8.out) ?_
              rintro e w4 ⟨rfl, hu4, hb4⟩
              rw [HM.out]
              rw [HN.out, HT.out] at hb4
              have U4 := Aside0.mk hu4
              have NB4 := blk_upd (blk_alloc BB1.out _) hu4 (by intro h9; have h10 : w.heap.size = w1.heap.size := h9; omega)
              have rd4 := blk_cell NB4
              have fr4 := blk_free NB4
              have lt4 := blk_lt NB4
              have rdc := blk_cell hb4
              have ltc := blk_lt hb4
              have ltn : w.heap.size < w1.heap.size := by omega
              clear NB4 hb4 hu4 rd1 fr1 lt1
              have lt1 := ltn
              by_cases hM : M ≤ 0
              · have HQ2 := Aside0.mk (HQ.out.trans (if_pos hM))
                go_wp2
                refine bodyPost_ret (v := .tuple #[.agg #[.int .i64 K, .int .i64 N, .int .i64 0, .string T], .int .i64 M]) (by simp [results, Try.results97, go_sem, rd4, lt4, rdc, ltc] <;> rfl) rfl ⟨K, N, T, by rw [HQ2.out], fun h => absurd h (by rw [HQ2.out]; exact Int.not_lt.2 hM), ?_⟩
                repeat (with_reducible first | exact Below.refl _ _ | refine below_alloc ?_ _ | refine Below.setCell ?_ (by dsimp only; omega) _ | refine below_end ?_ HB1.out | refine below_upd ?_ U4.out (fun k hk hs => by have h9 : k = w1.heap.size := hs; omega))
              · have HQ2 := Aside0.mk (HQ.out.trans (if_neg hM))
                have hT2 := Aside0.mk (HMT.out (by omega))
                go_wp2
                refine bodyPost_ret (v := .tuple #[.agg #[.int .i64 K, .int .i64 N, .int .i64 0, .string T], .int .i64 ((i : Int) - p + M)]) (by simp [results, Try.results97, go_sem, rd4, lt4, rdc, ltc] <;> omega) rfl ⟨K, N, T, by rw [HQ2.out], fun h => by rw [HQ2.out]; exact ⟨rfl, rfl, hT2.out⟩, ?_⟩
                repeat (with_reducible first | exact Below.refl _ _ | refine below_alloc ?_ _ | refine Below.setCell ?_ (by dsimp only; omega) _ | refine below_end ?_ HB1.out | refine below_upd ?_ U4.out (fun k hk hs => by have h9 : k = w1.heap.size := hs; omega))
          · have HQ := Aside0.mk (HQ1.out.trans ((if_neg h0).trans (if_neg h8)))
            have b0 : (K == 0) = false := by simpa using h0
            have b1 : (K == 12) = false := by simp; omega
            have b2 : (K == 13) = false := by simp; omega
            have b3 : (K == 8) = false := by simp; omega
            clear HQ1 h8 h0
            go_wp2_with (first | (go_at_call 125; refine Calls.mono (l12Count_c _ _ _ (by omega) (by omega) (by omega) (by omega)) ?_; rintro e w' ⟨rfl, rfl⟩))
            refine bodyPost_ret (v := .tuple #[.agg #[.int .i64 K, .int .i64 (countP K m), .int .i64 0, .string ByteArray.empty], .int .i64 ((i : Int) - p)]) (by simp [results, Try.results97, go_sem, rd1, lt1] <;> rfl) rfl ⟨K, countP K m, ByteArray.empty, by rw [HQ.out], fun h => by rw [HQ.out]; exact ⟨rfl, rfl, rfl⟩, ?_⟩
            repeat (with_reducible first | exact Below.refl _ _ | refine below_alloc ?_ _ | refine Below.setCell ?_ (by dsimp only; omega) _ | refine below_end ?_ HB1.out)
end Go.Proofs.Ytpfponhaofdbaaa.M
