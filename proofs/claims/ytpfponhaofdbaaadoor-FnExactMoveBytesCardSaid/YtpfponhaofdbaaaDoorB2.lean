import Derived.Test.YtpfponhaofdbaaaDoorB1
import Derived.Test.YtpfponhaofdbaaaDoorBR
set_option linter.unusedVariables false
set_option linter.unusedSimpArgs false
namespace Go.Proofs.YtpfponhaofdbaaaDoor.M
open Go.RowKit Go.Proofs.YtpfponhaofdbaaaDoorW.PrintWords

/-! MoveBytes -/
def moveT (y x : Nat) : ByteArray := ⟨#[27, 91]⟩ ++ digS (y + 1) ++ ⟨#[59]⟩ ++ digS (x + 1) ++ ⟨#[72]⟩
theorem digS_small (n : Nat) (h : n < 100) : (digS n).size ≤ 2 := by rw [digS_size]; exact nDigits_le 1 n (by simpa using h)
theorem moveT_size (y x : Nat) (hy : y < 99) (hx : x < 99) : (moveT y x).size ≤ 8 := by
  have h1 := digS_small (y + 1) (by omega)
  have h2 := digS_small (x + 1) (by omega)
  unfold moveT
  simp only [ByteArray.size_append]
  show 2 + (digS (y + 1)).size + 1 + (digS (x + 1)).size + 1 ≤ 8
  omega
theorem decimal_z (z : Int) (n : Nat) (hz : z = n) (w : World) (hn : n < 100) : Calls Tryd.prog 81 #[.int .i64 z] w fun e w' => e = .returned (.string (digS n)) ∧ w = w' := by
  subst hz
  exact decimal_c n w hn
set_option maxRecDepth 100000 in
theorem moveText_c (y x : Nat) (w : World) (hy : y < 99) (hx : x < 99) : Calls Tryd.prog 66 #[.int .i64 y, .int .i64 x] w fun e w' => e = .returned (.string (moveT y x)) ∧ w = w' := by
  have h1 := digS_small (y + 1) (by omega)
  have h2 := digS_small (x + 1) (by omega)
  have HQ := Aside0.mk (show moveT y x = ⟨#[27, 91]⟩ ++ digS (y + 1) ++ ⟨#[59]⟩ ++ digS (x + 1) ++ ⟨#[72]⟩ from rfl)
  generalize hg1 : digS (y + 1) = s1 at h1 HQ
  generalize hg2 : digS (x + 1) = s2 at h2 HQ
  have HG1 := Aside0.mk hg1
  have HG2 := Aside0.mk hg2
  clear hg1 hg2
  go_enter Tryd.func66, Tryd.ntmps66
  go_wp2_with fail
  refine Calls.mono (decimal_z _ (y + 1) (by omega) _ (by omega)) ?_
  rintro e w' ⟨rfl, rfl⟩
  rw [HG1.out]
  go_wp2_with fail
  refine Calls.mono (decimal_z _ (x + 1) (by omega) _ (by omega)) ?_
  rintro e w' ⟨rfl, rfl⟩
  rw [HG2.out]
  go_wp2
  go_ret
  exact ⟨by rw [HQ.out]; rfl, rfl⟩
set_option maxRecDepth 100000 in
theorem l14Move_c (y x : Nat) (w : World) (hy : y < 99) (hx : x < 99) : Calls Tryd.prog 64 #[.int .i64 y, .int .i64 x] w fun e w' => ∃ (A : Option Addr) (c : Nat), e = .returned (.slice A (bytesOf (moveT y x)).length c) ∧ OB w' w.heap.size (.slice A (bytesOf (moveT y x)).length c) (bytesOf (moveT y x)) ∧ Below w.heap.size w w' := by
  have h1 := digS_small (y + 1) (by omega)
  have h2 := digS_small (x + 1) (by omega)
  have HS := Aside0.mk (moveT_size y x hy hx)
  have HQ := Aside0.mk (show moveT y x = ⟨#[27, 91]⟩ ++ digS (y + 1) ++ ⟨#[59]⟩ ++ digS (x + 1) ++ ⟨#[72]⟩ from rfl)
  generalize hg1 : digS (y + 1) = s1 at h1 HQ
  generalize hg2 : digS (x + 1) = s2 at h2 HQ
  have HG1 := Aside0.mk hg1
  have HG2 := Aside0.mk hg2
  clear hg1 hg2
  have hrun := fun (W : World) (s : ByteArray) => by_run W s
  go_enter Tryd.func64, Tryd.ntmps64
  go_wp2_with fail
  refine Calls.mono (l1Digits_c 1 (y + 1) _ (by omega) _ (by simp; omega) (by omega)) ?_
  rintro e w1 ⟨rfl, hb1⟩
  have HB1 := Aside0.mk hb1
  clear hb1
  rw [HG1.out]
  go_wp2_with fail
  refine Calls.mono (l1Digits_c 1 (x + 1) _ (by omega) _ (by simp; omega) (by omega)) ?_
  rintro e w2 ⟨rfl, hb2⟩
  have HB2 := Aside0.mk hb2
  have hsz : w.heap.size ≤ w2.heap.size := Nat.le_trans HB1.out.size hb2.size
  clear hb2
  rw [HG2.out]
  go_wp2
  go_ret
  rw [bytesOf_len']
  refine ⟨some ⟨w2.heap.size, 0, none⟩, byC w2 (moveT y x), by rw [HQ.out]; simp only [ByteArray.size_append]; rfl, ?_, ?_⟩
  · have := OB_lower (byW_OB w2 (moveT y x) (by have := HS.out; unfold maxLen; omega)) hsz
    rw [HQ.out] at this ⊢
    exact this
  · exact below_end (below_end HB1.out HB2.out) (byW_below w2 _)
def moveRes (y x : Int) : Int × List Int := if within y 0 12 = true ∧ within x 0 39 = true then (0, bytesOf (moveT y.toNat x.toNat)) else (3, [])
theorem moveRes_len (y x : Int) : (moveRes y x).2.length ≤ 8 := by
  unfold moveRes
  split
  · rename_i h
    have h1 := within_bd h.1
    have h2 := within_bd h.2
    show (bytesOf _).length ≤ 8
    rw [bytesOf_len']
    exact moveT_size _ _ (by omega) (by omega)
  · exact Nat.zero_le _
set_option maxRecDepth 100000 in
set_option maxHeartbeats 1000000 in
theorem MoveBytes_c (y x : Int) (w : World) : Calls Tryd.prog 13 #[.int .i64 y, .int .i64 x] w fun e w' => ∃ (A : Option Addr) (c : Nat), e = .returned (.agg #[.int .i64 (moveRes y x).1, .slice A (moveRes y x).2.length c]) ∧ (moveRes y x).2.length ≤ c ∧ OB w' w.heap.size (.slice A (moveRes y x).2.length c) (moveRes y x).2 ∧ Below w.heap.size w w' := by
  have hrun := fun (W : World) (s : ByteArray) => by_run W s
  cases hy : within y 0 12
  · have HQ := Aside0.mk (show moveRes y x = (3, []) by unfold moveRes; rw [hy]; rfl)
    go_enter Tryd.func13, Tryd.ntmps13
    go_wp2_with (go_at_call 65; refine Calls.mono (within_c _ _ _ _) ?_; rintro e w' ⟨rfl, rfl⟩; rw [hy])
    refine bodyPost_ret (v := .agg #[.int .i64 3, .slice none 0 0]) (by simp [results, Tryd.results13, go_sem]) rfl ⟨none, 0, ?_, ?_, ?_, ?_⟩
    · rw [HQ.out]; rfl
    · rw [HQ.out]; exact Nat.le_refl _
    · rw [HQ.out]; exact OB_nil _ _
    · repeat (with_reducible first | exact Below.refl _ _ | refine below_alloc ?_ _ | refine Below.setCell ?_ (by dsimp only; omega) _)
  · cases hx : within x 0 39
    · have HQ := Aside0.mk (show moveRes y x = (3, []) by unfold moveRes; rw [hx]; simp)
      go_enter Tryd.func13, Tryd.ntmps13
      go_wp2_with fail
      refine Calls.mono (within_c _ _ _ _) ?_
      rintro e w' ⟨rfl, rfl⟩
      rw [hy]
      go_wp2_with fail
      refine Calls.mono (within_c _ _ _ _) ?_
      rintro e w' ⟨rfl, rfl⟩
      rw [hx]
      go_wp2
      refine bodyPost_ret (v := .agg #[.int .i64 3, .slice none 0 0]) (by simp [results, Tryd.results13, go_sem]) rfl ⟨none, 0, ?_, ?_, ?_, ?_⟩
      · rw [HQ.out]; rfl
      · rw [HQ.out]; exact Nat.le_refl _
      · rw [HQ.out]; exact OB_nil _ _
      · repeat (with_reducible first | exact Below.refl _ _ | refine below_alloc ?_ _ | refine Below.setCell ?_ (by dsimp only; omega) _)
    · have HQ0 := Aside0.mk (show moveRes y x = (0, bytesOf (moveT y.toNat x.toNat)) by unfold moveRes; rw [if_pos ⟨hy, hx⟩])
      have h1 := within_bd hy
      have h2 := within_bd hx
      obtain ⟨a, rfl⟩ := Int.eq_ofNat_of_zero_le h1.1
      obtain ⟨b, rfl⟩ := Int.eq_ofNat_of_zero_le h2.1
      have ha : a ≤ 12 := by omega
      have hb : b ≤ 39 := by omega
      have HQ := Aside0.mk (show moveRes (a : Int) (b : Int) = (0, bytesOf (moveT a b)) from HQ0.out)
      have HS := Aside0.mk (show (moveT a b).size ≤ maxLen by have := moveT_size a b (by omega) (by omega); unfold maxLen; omega)
      have HY := Aside0.mk hy
      have HX := Aside0.mk hx
      clear h1 h2 HQ0 hy hx
      go_enter Tryd.func13, Tryd.ntmps13
      go_wp2_with fail
      refine Calls.mono (within_c _ _ _ _) ?_
      rintro e w' ⟨rfl, rfl⟩
      rw [HY.out]
      go_wp2_with fail
      refine Calls.mono (within_c _ _ _ _) ?_
      rintro e w' ⟨rfl, rfl⟩
      rw [HX.out]
      go_wp2_with fail
      refine Calls.mono (moveText_c a b _ (by omega) (by omega)) ?_
      rintro e w' ⟨rfl, rfl⟩
      generalize moveT a b = S at HQ HS
      have NB := blk_below (blk_new (W := w) (.cells #[.int .i64 0, .slice none 0 0] 24)) (byW_below (w.alloc (.cells #[.int .i64 0, .slice none 0 0] 24)) S)
      have HOB := Aside0.mk (byW_OB (w.alloc (.cells #[.int .i64 0, .slice none 0 0] 24)) S HS.out)
      have HBW := Aside0.mk (byW_below (w.alloc (.cells #[.int .i64 0, .slice none 0 0] 24)) S)
      have rd := blk_cell NB
      have fr := blk_free NB
      have lt := blk_lt NB
      have HNB := Aside0.mk NB
      clear NB
      go_wp2
      refine bodyPost_ret (v := .agg #[.int .i64 0, .slice (some ⟨w.heap.size + 1, 0, none⟩) S.size (byC (w.alloc (.cells #[.int .i64 0, .slice none 0 0] 24)) S)]) (by simp [results, Tryd.results13, go_sem, rd, lt]) rfl ⟨some ⟨w.heap.size + 1, 0, none⟩, byC (w.alloc (.cells #[.int .i64 0, .slice none 0 0] 24)) S, ?_, ?_, ?_, ?_⟩
      · rw [HQ.out]; dsimp only; rw [bytesOf_len']
      · rw [HQ.out]; dsimp only; rw [bytesOf_len']; exact grownCap_ge _ _ _ _
      · rw [HQ.out]; dsimp only; rw [bytesOf_len']
        have h9 := HOB.out
        rw [size_alloc] at h9
        refine OB_lower (base := w.heap.size + 1) ?_ (by omega)
        repeat (first | exact h9 | refine OB_upd (S := fun k => k = w.heap.size) ?_ (upd_set _ _ _ _) (fun b h1 h2 => by injection h1 with h1; have h3 : w.heap.size + 1 = b := h1; have h4 : b = w.heap.size := h2; omega))
      · repeat (with_reducible first | exact below_end (below_alloc (Below.refl _ _) _) HBW.out | refine Below.setCell ?_ (by dsimp only; omega) _)
set_option maxRecDepth 100000 in
set_option maxHeartbeats 1000000 in
theorem specMoveBytes_c (y x : Int) (w : World) : Calls Tryd.prog 12 #[.int .i64 y, .int .i64 x] w fun e w' => ∃ (A : Option Addr) (c : Nat), e = .returned (.agg #[.int .i64 (moveRes y x).1, .slice A (moveRes y x).2.length c]) ∧ (moveRes y x).2.length ≤ c ∧ OB w' w.heap.size (.slice A (moveRes y x).2.length c) (moveRes y x).2 ∧ Below w.heap.size w w' := by
  have hrun := fun (W : World) (s : ByteArray) => by_run W s
  cases hy : within y 0 12
  · have HQ := Aside0.mk (show moveRes y x = (3, []) by unfold moveRes; rw [hy]; rfl)
    go_enter Tryd.func12, Tryd.ntmps12
    go_wp2_with (go_at_call 63; refine Calls.mono (l1In_c _ _ _ _) ?_; rintro e w' ⟨rfl, rfl⟩; rw [hy])
    refine bodyPost_ret (v := .agg #[.int .i64 3, .slice none 0 0]) (by simp [results, Tryd.results12, go_sem]) rfl ⟨none, 0, ?_, ?_, ?_, ?_⟩
    · rw [HQ.out]; rfl
    · rw [HQ.out]; exact Nat.le_refl _
    · rw [HQ.out]; exact OB_nil _ _
    · repeat (with_reducible first | exact Below.refl _ _ | refine below_alloc ?_ _ | refine Below.setCell ?_ (by dsimp only; omega) _)
  · cases hx : within x 0 39
    · have HQ := Aside0.mk (show moveRes y x = (3, []) by unfold moveRes; rw [hx]; simp)
      go_enter Tryd.func12, Tryd.ntmps12
      go_wp2_with fail
      refine Calls.mono (l1In_c _ _ _ _) ?_
      rintro e w' ⟨rfl, rfl⟩
      rw [hy]
      go_wp2_with fail
      refine Calls.mono (l1In_c _ _ _ _) ?_
      rintro e w' ⟨rfl, rfl⟩
      rw [hx]
      go_wp2
      refine bodyPost_ret (v := .agg #[.int .i64 3, .slice none 0 0]) (by simp [results, Tryd.results12, go_sem]) rfl ⟨none, 0, ?_, ?_, ?_, ?_⟩
      · rw [HQ.out]; rfl
      · rw [HQ.out]; exact Nat.le_refl _
      · rw [HQ.out]; exact OB_nil _ _
      · repeat (with_reducible first | exact Below.refl _ _ | refine below_alloc ?_ _ | refine Below.setCell ?_ (by dsimp only; omega) _)
    · have HQ0 := Aside0.mk (show moveRes y x = (0, bytesOf (moveT y.toNat x.toNat)) by unfold moveRes; rw [if_pos ⟨hy, hx⟩])
      have h1 := within_bd hy
      have h2 := within_bd hx
      obtain ⟨a, rfl⟩ := Int.eq_ofNat_of_zero_le h1.1
      obtain ⟨b, rfl⟩ := Int.eq_ofNat_of_zero_le h2.1
      have ha : a ≤ 12 := by omega
      have hb : b ≤ 39 := by omega
      have HQ := Aside0.mk (show moveRes (a : Int) (b : Int) = (0, bytesOf (moveT a b)) from HQ0.out)
      have HS := Aside0.mk (show (moveT a b).size ≤ maxLen by have := moveT_size a b (by omega) (by omega); unfold maxLen; omega)
      have HY := Aside0.mk hy
      have HX := Aside0.mk hx
      clear h1 h2 HQ0 hy hx
      go_enter Tryd.func12, Tryd.ntmps12
      go_wp2_with fail
      refine Calls.mono (l1In_c _ _ _ _) ?_
      rintro e w' ⟨rfl, rfl⟩
      rw [HY.out]
      go_wp2_with fail
      refine Calls.mono (l1In_c _ _ _ _) ?_
      rintro e w' ⟨rfl, rfl⟩
      rw [HX.out]
      go_wp2_with fail
      refine Calls.mono (l14Move_c a b _ (by omega) (by omega)) ?_
      rintro e w1 ⟨A, c, rfl, hob, hb1⟩
      generalize bytesOf (moveT a b) = S at HQ hob
      have NB := blk_below (blk_new (W := w) (.cells #[.int .i64 0, .slice none 0 0] 24)) hb1
      have rd := blk_cell NB
      have fr := blk_free NB
      have lt := blk_lt NB
      have HB1 := Aside0.mk hb1
      have HOB := Aside0.mk hob
      have HLE := Aside0.mk (OB_reads' hob).2.1
      have HBA := Aside0.mk (OB_base hob)
      clear NB hb1 hob HS
      go_wp2
      refine bodyPost_ret (v := .agg #[.int .i64 0, .slice A S.length c]) (by simp [results, Tryd.results12, go_sem, rd, lt]) rfl ⟨A, c, ?_, ?_, ?_, ?_⟩
      · rw [HQ.out]
      · rw [HQ.out]; exact HLE.out
      · rw [HQ.out]; dsimp only
        have h9 := HOB.out
        have h8 := HBA.out
        rw [size_alloc] at h9 h8
        refine OB_lower (base := w.heap.size + 1) ?_ (by omega)
        repeat (first | exact h9 | refine OB_upd (S := fun k => k = w.heap.size) ?_ (upd_set _ _ _ _) (fun b h1 h2 => by have h3 := h8 b h1; have h4 : b = w.heap.size := h2; omega))
      · repeat (with_reducible first | exact below_end (below_alloc (Below.refl _ _) _) HB1.out | refine Below.setCell ?_ (by dsimp only; omega) _)
end Go.Proofs.YtpfponhaofdbaaaDoor.M
