import Derived.Test.YtpfponhaofdbaaaDoorK
set_option linter.unusedVariables false
set_option linter.unusedSimpArgs false
namespace Go.Proofs.YtpfponhaofdbaaaDoor.M
open Go.RowKit Go.Proofs.YtpfponhaofdbaaaDoorW.PrintWords

/-- What is left of a bound behind so many. -/
def szf (n : Nat) (left : Int) : Int := if left - n < 0 then -1 else left - n
def szfs : List Nat → Int → Int
  | [], left => left
  | n :: l, left => if szf n left < 0 then -1 else szfs l (szf n left)
theorem szf_bd (n : Nat) (left : Int) (h1 : left ≤ 1048576) : szf n left ≤ 1048576 := by unfold szf; split <;> omega
theorem szfs_le : ∀ (l : List Nat) (left : Int), -1 ≤ left → szfs l left ≤ left
  | [], left, _ => Int.le_refl _
  | n :: l, left, h => by
    unfold szfs
    have h1 : szf n left ≤ left := by unfold szf; split <;> omega
    split
    · exact h
    · exact Int.le_trans (szfs_le l _ (by omega)) h1
theorem szfs_nn : ∀ (l : List Nat) (left : Int), 0 ≤ left → ¬ szfs l left < 0 → (l.sum : Int) ≤ left
  | [], left, h0, _ => by simpa using h0
  | n :: l, left, h0, h => by
    unfold szfs at h
    have h1 : ¬ szf n left < 0 := fun h1 => h (by rw [if_pos h1]; omega)
    rw [if_neg h1] at h
    have h2 := szfs_nn l (szf n left) (by omega) h
    have h3 : szf n left = left - n := by unfold szf at h1 ⊢; split <;> simp_all
    rw [h3] at h2
    simp only [List.sum_cons]
    omega
theorem szInt64S_c (A : Option Addr) (n c : Nat) (left : Int) (w : World) (hn : n ≤ 9223372036854775807) (h0 : 0 ≤ left) (h1 : left ≤ 1048576) :
    Calls Tryd.prog 93 #[.slice A n c, .int .i64 left] w fun e w' => e = .returned (.int .i64 (szf n left)) ∧ w = w' := by
  by_cases h : left - (n : Int) < 0
  all_goals
    go_enter Tryd.func93, Tryd.ntmps93
    go_wp2
    go_ret
    exact ⟨by first | (simp [szf, h]; done) | (simp [szf]; omega), rfl⟩
theorem szBoolS_c (A : Option Addr) (n c : Nat) (left : Int) (w : World) (hn : n ≤ 9223372036854775807) (h0 : 0 ≤ left) (h1 : left ≤ 1048576) :
    Calls Tryd.prog 94 #[.slice A n c, .int .i64 left] w fun e w' => e = .returned (.int .i64 (szf n left)) ∧ w = w' := by
  by_cases h : left - (n : Int) < 0
  all_goals
    go_enter Tryd.func94, Tryd.ntmps94
    go_wp2
    go_ret
    exact ⟨by first | (simp [szf, h]; done) | (simp [szf]; omega), rfl⟩

set_option maxRecDepth 100000 in
theorem toInt64S_c (A : Option Addr) (c : Nat) (l : List Int) (w : World) (hr : Kd.C (Kd.int .i64) w A l.length l) (hm : l.length * 8 ≤ 140737488351232) :
    Calls Tryd.prog 97 #[.slice A l.length c] w fun e w' => e = .returned (.slice (some ⟨w.heap.size, 0, none⟩) l.length l.length) ∧ w' = w.alloc (.cells (l.map (Value.int .i64)).toArray 2) := by
  have HR := Aside0.mk hr
  clear hr
  have hmk : ∀ W : World, (Instr.makeSlice 71 (.int .i64 (l.length : Int)) (.int .i64 (l.length : Int))).run Tryd.prog W = .ok (.slice (some ⟨W.heap.size, 0, none⟩) l.length l.length) (W.alloc (.cells (madeCells #[.int .i64 0] l.length) 2)) := fun W => run_make_row' 71 2 (.int .i64 0) 8 Tryd.underlying71 (by kernel_rfl) rfl .i64 .i64 l.length (by omega) (by omega) W
  go_enter Tryd.func97, Tryd.ntmps97
  go_wp2
  clear hmk
  go_loopw [4] (fun i wr => ∃ k : Nat, k ≤ l.length ∧ i = .int .i64 k ∧ wr = w.alloc (.cells (upTo (.int .i64 0) (l.map (Value.int .i64)) k) 2)) (fun i _ => l.length - (intOf i).toNat)
  case atStart => exact ⟨0, Nat.zero_le _, rfl, by rw [← made_upTo, List.length_map]⟩
  case round =>
    obtain ⟨k, hk, rfl, rfl⟩ := hrel
    by_cases hlt : k < l.length
    · obtain ⟨ad, e, hx⟩ := at1 HR.out 0 k hlt
      cases e
      have hlb := World.block_lt_of_cell? w _ hx
      have hold := upTo_at (.int .i64 0) (l.map (Value.int .i64)) k (by rw [List.length_map]; exact hlt)
      go_wp2
      go_roundw
      case rel => exact ⟨k + 1, by omega, by go_num, by rw [upTo_set _ _ k (by rw [List.length_map]; exact hlt) _ (by simp [List.getD_eq_getElem?_getD, List.getElem?_eq_getElem hlt])]⟩
      case measure => simp [intOf]; omega
    · obtain rfl : k = l.length := by omega
      go_wp2
      go_ret
      exact ⟨rfl, by rw [← List.length_map (f := Value.int .i64), upTo_all]⟩
set_option maxRecDepth 100000 in
theorem toBoolS_c (A : Option Addr) (c : Nat) (l : List Bool) (w : World) (hr : Kd.C Kd.bool w A l.length l) (hm : l.length * 1 ≤ 140737488351232) :
    Calls Tryd.prog 98 #[.slice A l.length c] w fun e w' => e = .returned (.slice (some ⟨w.heap.size, 0, none⟩) l.length l.length) ∧ w' = w.alloc (.cells (l.map (Value.bool)).toArray 4) := by
  have HR := Aside0.mk hr
  clear hr
  have hmk : ∀ W : World, (Instr.makeSlice 72 (.int .i64 (l.length : Int)) (.int .i64 (l.length : Int))).run Tryd.prog W = .ok (.slice (some ⟨W.heap.size, 0, none⟩) l.length l.length) (W.alloc (.cells (madeCells #[.bool false] l.length) 4)) := fun W => run_make_row' 72 4 (.bool false) 1 Tryd.underlying72 (by kernel_rfl) rfl .i64 .i64 l.length (by omega) (by omega) W
  go_enter Tryd.func98, Tryd.ntmps98
  go_wp2
  clear hmk
  go_loopw [4] (fun i wr => ∃ k : Nat, k ≤ l.length ∧ i = .int .i64 k ∧ wr = w.alloc (.cells (upTo (.bool false) (l.map (Value.bool)) k) 4)) (fun i _ => l.length - (intOf i).toNat)
  case atStart => exact ⟨0, Nat.zero_le _, rfl, by rw [← made_upTo, List.length_map]⟩
  case round =>
    obtain ⟨k, hk, rfl, rfl⟩ := hrel
    by_cases hlt : k < l.length
    · obtain ⟨ad, e, hx⟩ := at1 HR.out false k hlt
      cases e
      have hlb := World.block_lt_of_cell? w _ hx
      have hold := upTo_at (.bool false) (l.map (Value.bool)) k (by rw [List.length_map]; exact hlt)
      go_wp2
      go_roundw
      case rel => exact ⟨k + 1, by omega, by go_num, by rw [upTo_set _ _ k (by rw [List.length_map]; exact hlt) _ (by simp [List.getD_eq_getElem?_getD, List.getElem?_eq_getElem hlt])]⟩
      case measure => simp [intOf]; omega
    · obtain rfl : k = l.length := by omega
      go_wp2
      go_ret
      exact ⟨rfl, by rw [← List.length_map (f := Value.bool), upTo_all]⟩

set_option maxRecDepth 100000 in
theorem eqInt64S_c (A B : Option Addr) (c d : Nat) (l m : List Int) (w : World) (hr : Kd.C (Kd.int .i64) w A l.length l) (hs : Kd.C (Kd.int .i64) w B m.length m) :
    Calls Tryd.prog 101 #[.slice A l.length c, .slice B m.length d] w fun e w' => e = .returned (.bool (eqv l m)) ∧ Drawn0 w w' := by
  have HR := Aside0.mk hr
  have HS := Aside0.mk hs
  have hl := Kd.C_max hr
  have hm := Kd.C_max hs
  clear hr hs
  by_cases hn : l.length = m.length
  · have hb : ((l.length : Int) != (m.length : Int)) = false := by simp [hn]
    have hnb : (l.length != m.length) = false := by simp [hn]
    have HN := Aside0.mk hn
    clear hn
    go_enter Tryd.func101, Tryd.ntmps101
    go_wp2
    clear hb hnb
    go_loopw [5] (fun i wr => ∃ (k q : Nat), k ≤ l.length ∧ i = .int .i64 k ∧ Aside0 (∀ j, j < k → l.getD j 0 = m.getD j 0) ∧ wr = w.drewN q) (fun i _ => l.length - (intOf i).toNat)
    case atStart => exact ⟨0, 0, Nat.zero_le _, rfl, ⟨fun j hj => absurd hj (by omega)⟩, rfl⟩
    case round =>
      obtain ⟨k, q, hk, rfl, hb, rfl⟩ := hrel
      by_cases hlt : k < l.length
      · obtain ⟨ad, e, hx⟩ := at1 HR.out 0 k hlt
        cases e
        have hlt2 : k < m.length := by rw [← HN.out]; exact hlt
        obtain ⟨bd, e, hy⟩ := at1 HS.out 0 k hlt2
        cases e
        generalize hu : l.getD k 0 = u at hx
        generalize hv : m.getD k 0 = v at hy
        have HU := Aside0.mk hu
        have HV := Aside0.mk hv
        clear hu hv
        by_cases huv : u = v
        · subst huv
          go_wp2
          go_quiet (fail)
          go_wp2
          go_roundw
          case rel => exact ⟨k + 1, _, by omega, by go_num, ⟨fun j hj => by
            rcases Nat.lt_or_ge j k with h | h
            · exact hb.out j h
            · obtain rfl : j = k := by omega
              rw [HU.out, HV.out]⟩, rfl⟩
          case measure => simp [intOf]; omega
        · have hne : (u != v) = true := by simpa using huv
          have HNE := Aside0.mk huv
          skip
          clear huv
          go_wp2
          go_quiet (fail)
          go_wp2
          go_ret
          exact ⟨by rw [eqv_false (x := l) (y := m) (fun h => HNE.out (by rw [← HU.out, ← HV.out, h]))]; rfl, ⟨⟨_, World.drewN_drewN ..⟩⟩⟩
      · go_wp2
        go_ret
        exact ⟨by rw [eqv_true (x := l) (y := m) (eq_of_getD 0 HN.out (fun j hj => hb.out j (by omega)))]; rfl, ⟨⟨_, rfl⟩⟩⟩
  · have hb : ((l.length : Int) != (m.length : Int)) = true := by simp; omega
    have hnb : (l.length != m.length) = true := by simp [hn]
    have HN := Aside0.mk hn
    clear hn
    go_enter Tryd.func101, Tryd.ntmps101
    go_wp2
    go_ret
    exact ⟨by rw [eqv_false (x := l) (y := m) (fun h => HN.out (by rw [h]))]; rfl, .refl _⟩
set_option maxRecDepth 100000 in
theorem eqBoolS_c (A B : Option Addr) (c d : Nat) (l m : List Bool) (w : World) (hr : Kd.C Kd.bool w A l.length l) (hs : Kd.C Kd.bool w B m.length m) :
    Calls Tryd.prog 102 #[.slice A l.length c, .slice B m.length d] w fun e w' => e = .returned (.bool (eqv l m)) ∧ Drawn0 w w' := by
  have HR := Aside0.mk hr
  have HS := Aside0.mk hs
  have hl := Kd.C_max hr
  have hm := Kd.C_max hs
  clear hr hs
  by_cases hn : l.length = m.length
  · have hb : ((l.length : Int) != (m.length : Int)) = false := by simp [hn]
    have hnb : (l.length != m.length) = false := by simp [hn]
    have HN := Aside0.mk hn
    clear hn
    go_enter Tryd.func102, Tryd.ntmps102
    go_wp2
    clear hb hnb
    go_loopw [5] (fun i wr => ∃ (k q : Nat), k ≤ l.length ∧ i = .int .i64 k ∧ Aside0 (∀ j, j < k → l.getD j false = m.getD j false) ∧ wr = w.drewN q) (fun i _ => l.length - (intOf i).toNat)
    case atStart => exact ⟨0, 0, Nat.zero_le _, rfl, ⟨fun j hj => absurd hj (by omega)⟩, rfl⟩
    case round =>
      obtain ⟨k, q, hk, rfl, hb, rfl⟩ := hrel
      by_cases hlt : k < l.length
      · obtain ⟨ad, e, hx⟩ := at1 HR.out false k hlt
        cases e
        have hlt2 : k < m.length := by rw [← HN.out]; exact hlt
        obtain ⟨bd, e, hy⟩ := at1 HS.out false k hlt2
        cases e
        generalize hu : l.getD k false = u at hx
        generalize hv : m.getD k false = v at hy
        have HU := Aside0.mk hu
        have HV := Aside0.mk hv
        clear hu hv
        by_cases huv : u = v
        · subst huv
          go_wp2
          go_quiet (fail)
          go_wp2
          go_roundw
          case rel => exact ⟨k + 1, _, by omega, by go_num, ⟨fun j hj => by
            rcases Nat.lt_or_ge j k with h | h
            · exact hb.out j h
            · obtain rfl : j = k := by omega
              rw [HU.out, HV.out]⟩, rfl⟩
          case measure => simp [intOf]; omega
        · have hne : (u != v) = true := by simpa using huv
          have HNE := Aside0.mk huv
          have hnf : (!u == v) = true := by revert hne; cases u <;> cases v <;> decide
          clear huv
          go_wp2
          go_quiet (fail)
          go_wp2
          go_ret
          exact ⟨by rw [eqv_false (x := l) (y := m) (fun h => HNE.out (by rw [← HU.out, ← HV.out, h]))]; rfl, ⟨⟨_, World.drewN_drewN ..⟩⟩⟩
      · go_wp2
        go_ret
        exact ⟨by rw [eqv_true (x := l) (y := m) (eq_of_getD false HN.out (fun j hj => hb.out j (by omega)))]; rfl, ⟨⟨_, rfl⟩⟩⟩
  · have hb : ((l.length : Int) != (m.length : Int)) = true := by simp; omega
    have hnb : (l.length != m.length) = true := by simp [hn]
    have HN := Aside0.mk hn
    clear hn
    go_enter Tryd.func102, Tryd.ntmps102
    go_wp2
    go_ret
    exact ⟨by rw [eqv_false (x := l) (y := m) (fun h => HN.out (by rw [h]))]; rfl, .refl _⟩
set_option maxRecDepth 100000 in
theorem eqByteS_c (A B : Option Addr) (c d : Nat) (l m : List Int) (w : World) (hr : Kd.C (Kd.int .u8) w A l.length l) (hs : Kd.C (Kd.int .u8) w B m.length m) :
    Calls Tryd.prog 67 #[.slice A l.length c, .slice B m.length d] w fun e w' => e = .returned (.bool (eqv l m)) ∧ Drawn0 w w' := by
  have HR := Aside0.mk hr
  have HS := Aside0.mk hs
  have hl := Kd.C_max hr
  have hm := Kd.C_max hs
  clear hr hs
  by_cases hn : l.length = m.length
  · have hb : ((l.length : Int) != (m.length : Int)) = false := by simp [hn]
    have hnb : (l.length != m.length) = false := by simp [hn]
    have HN := Aside0.mk hn
    clear hn
    go_enter Tryd.func67, Tryd.ntmps67
    go_wp2
    clear hb hnb
    go_loopw [5] (fun i wr => ∃ (k q : Nat), k ≤ l.length ∧ i = .int .i64 k ∧ Aside0 (∀ j, j < k → l.getD j 0 = m.getD j 0) ∧ wr = w.drewN q) (fun i _ => l.length - (intOf i).toNat)
    case atStart => exact ⟨0, 0, Nat.zero_le _, rfl, ⟨fun j hj => absurd hj (by omega)⟩, rfl⟩
    case round =>
      obtain ⟨k, q, hk, rfl, hb, rfl⟩ := hrel
      by_cases hlt : k < l.length
      · obtain ⟨ad, e, hx⟩ := at1 HR.out 0 k hlt
        cases e
        have hlt2 : k < m.length := by rw [← HN.out]; exact hlt
        obtain ⟨bd, e, hy⟩ := at1 HS.out 0 k hlt2
        cases e
        generalize hu : l.getD k 0 = u at hx
        generalize hv : m.getD k 0 = v at hy
        have HU := Aside0.mk hu
        have HV := Aside0.mk hv
        clear hu hv
        by_cases huv : u = v
        · subst huv
          go_wp2
          go_quiet (fail)
          go_wp2
          go_roundw
          case rel => exact ⟨k + 1, _, by omega, by go_num, ⟨fun j hj => by
            rcases Nat.lt_or_ge j k with h | h
            · exact hb.out j h
            · obtain rfl : j = k := by omega
              rw [HU.out, HV.out]⟩, rfl⟩
          case measure => simp [intOf]; omega
        · have hne : (u != v) = true := by simpa using huv
          have HNE := Aside0.mk huv
          skip
          clear huv
          go_wp2
          go_quiet (fail)
          go_wp2
          go_ret
          exact ⟨by rw [eqv_false (x := l) (y := m) (fun h => HNE.out (by rw [← HU.out, ← HV.out, h]))]; rfl, ⟨⟨_, World.drewN_drewN ..⟩⟩⟩
      · go_wp2
        go_ret
        exact ⟨by rw [eqv_true (x := l) (y := m) (eq_of_getD 0 HN.out (fun j hj => hb.out j (by omega)))]; rfl, ⟨⟨_, rfl⟩⟩⟩
  · have hb : ((l.length : Int) != (m.length : Int)) = true := by simp; omega
    have hnb : (l.length != m.length) = true := by simp [hn]
    have HN := Aside0.mk hn
    clear hn
    go_enter Tryd.func67, Tryd.ntmps67
    go_wp2
    go_ret
    exact ⟨by rw [eqv_false (x := l) (y := m) (fun h => HN.out (by rw [h]))]; rfl, .refl _⟩

theorem toInt64S_r (A : Option Addr) (c : Nat) (l : List Int) (w : World) (hr : Kd.C (Kd.int .i64) w A l.length l) (hm : l.length * 8 ≤ 140737488351232) :
    Calls Tryd.prog 97 #[.slice A l.length c] w fun e w' => ∃ (Z : Option Addr) (z : Nat), e = .returned (.slice Z l.length z) ∧ l.length ≤ z ∧ Kd.R (Kd.int .i64) 2 w' w.heap.size (fun _ => True) (.slice Z l.length z) l ∧ Below w.heap.size w w' := by
  refine Calls.mono (toInt64S_c A c l w hr hm) ?_
  rintro e w' ⟨rfl, rfl⟩
  exact ⟨_, _, rfl, Nat.le_refl _, R_at (blk_new _) (Nat.le_refl _) (by omega), below_alloc (Below.refl _ _) _⟩
theorem toBoolS_r (A : Option Addr) (c : Nat) (l : List Bool) (w : World) (hr : Kd.C Kd.bool w A l.length l) (hm : l.length * 1 ≤ 140737488351232) :
    Calls Tryd.prog 98 #[.slice A l.length c] w fun e w' => ∃ (Z : Option Addr) (z : Nat), e = .returned (.slice Z l.length z) ∧ l.length ≤ z ∧ Kd.R Kd.bool 4 w' w.heap.size (fun _ => True) (.slice Z l.length z) l ∧ Below w.heap.size w w' := by
  refine Calls.mono (toBoolS_c A c l w hr hm) ?_
  rintro e w' ⟨rfl, rfl⟩
  exact ⟨_, _, rfl, Nat.le_refl _, R_at (blk_new _) (Nat.le_refl _) (by omega), below_alloc (Below.refl _ _) _⟩
/-! marks -/
def mkInt64S (n : Nat) (k : Nat) : List Int := (List.range n).map fun (i : Nat) => ((k : Int) + i)
theorem mkInt64S_length (n k : Nat) : (mkInt64S n k).length = n := by simp [mkInt64S]
set_option maxRecDepth 100000 in
theorem markInt64S_c (A : Option Addr) (c base : Nat) (l : List Int) (k : Nat) (kz : Int) (hz : kz = k) (w : World) (hr : Kd.R (Kd.int .i64) 2 w base (fun _ => True) (.slice A l.length c) l) (hk : k + l.length ≤ 9223372036854775807) :
    Calls Tryd.prog 103 #[.slice A l.length c, .int .i64 kz] w fun e w' => e = .returned (.int .i64 (kz + (l.length : Int))) ∧ Kd.R (Kd.int .i64) 2 w' base (fun _ => True) (.slice A l.length c) (mkInt64S l.length k) ∧ w.grownBy w' ((Value.slice A l.length c).ownBlock) := by
  subst hz
  have HR := Aside0.mk hr
  clear hr
  go_enter Tryd.func103, Tryd.ntmps103
  go_wp2
  have hlen := Aside0.mk (mkInt64S_length l.length k)
  go_loopw [1, 5] (fun kk i wr => ∃ j : Nat, j ≤ l.length ∧ kk = .int .i64 ((k : Int) + j) ∧ i = .int .i64 j ∧ Aside0 (Kd.R (Kd.int .i64) 2 wr base (fun _ => True) (.slice A l.length c) ((mkInt64S l.length k).take j ++ l.drop j)) ∧ Aside0 (w.grownBy wr (Value.slice A l.length c).ownBlock)) (fun _ i _ => l.length - (intOf i).toNat)
  case atStart => exact ⟨0, Nat.zero_le _, by go_num, rfl, ⟨by rw [List.take_zero, List.drop_zero, List.nil_append]; exact HR.out⟩, ⟨World.grownBy.refl _ _⟩⟩
  case round =>
    obtain ⟨j, hj, rfl, rfl, hR, hG⟩ := hrel
    by_cases hlt : j < l.length
    · have hll : ((mkInt64S l.length k).take j ++ l.drop j).length = l.length := by rw [List.length_append, List.length_take, List.length_drop, hlen.out]; omega
      obtain ⟨g, cap, e, hb, hgl, _⟩ := Kd.R_form hR.out (by omega)
      injection e with e1 e2 e3
      subst e1
      clear e2 e3
      obtain ⟨hx, hf⟩ := Kd.R_celln 0 hR.out (j : Int) (by omega) (by omega)
      have HP := Aside0.mk (Kd.R_putn hR.out (j : Int) ((k : Int) + j))
      rw [Int.toNat_natCast] at hx hf HP
      have HL := Aside0.mk hll
      clear hll
      skip
      go_wp2
      go_roundw
      case rel => exact ⟨j + 1, by omega, by go_num, by go_num, ⟨by rw [← mark_step _ _ j hlen.out hlt _ (by rw [mkInt64S, List.getElem?_map, List.getElem?_range hlt]; rfl)]; exact HP.out⟩, ⟨grown_set hG.out (p := ⟨g, j, none⟩) rfl _⟩⟩
      case measure => simp [intOf]; omega
    · obtain rfl : j = l.length := by omega
      go_wp2
      go_ret
      refine ⟨rfl, ?_, hG.out⟩
      have := hR.out
      rw [List.take_of_length_le (by rw [hlen.out]; exact Nat.le_refl _), List.drop_length, List.append_nil] at this
      exact this
def mkBoolS (n : Nat) (k : Nat) : List Bool := (List.range n).map fun (i : Nat) => (((k : Int) + i) % 3 == 0)
theorem mkBoolS_length (n k : Nat) : (mkBoolS n k).length = n := by simp [mkBoolS]
set_option maxRecDepth 100000 in
theorem markBoolS_c (A : Option Addr) (c base : Nat) (l : List Bool) (k : Nat) (kz : Int) (hz : kz = k) (w : World) (hr : Kd.R Kd.bool 4 w base (fun _ => True) (.slice A l.length c) l) (hk : k + l.length ≤ 9223372036854775807) :
    Calls Tryd.prog 104 #[.slice A l.length c, .int .i64 kz] w fun e w' => e = .returned (.int .i64 (kz + (l.length : Int))) ∧ Kd.R Kd.bool 4 w' base (fun _ => True) (.slice A l.length c) (mkBoolS l.length k) ∧ w.grownBy w' ((Value.slice A l.length c).ownBlock) := by
  subst hz
  have HR := Aside0.mk hr
  clear hr
  go_enter Tryd.func104, Tryd.ntmps104
  go_wp2
  have hlen := Aside0.mk (mkBoolS_length l.length k)
  go_loopw [1, 5] (fun kk i wr => ∃ j : Nat, j ≤ l.length ∧ kk = .int .i64 ((k : Int) + j) ∧ i = .int .i64 j ∧ Aside0 (Kd.R Kd.bool 4 wr base (fun _ => True) (.slice A l.length c) ((mkBoolS l.length k).take j ++ l.drop j)) ∧ Aside0 (w.grownBy wr (Value.slice A l.length c).ownBlock)) (fun _ i _ => l.length - (intOf i).toNat)
  case atStart => exact ⟨0, Nat.zero_le _, by go_num, rfl, ⟨by rw [List.take_zero, List.drop_zero, List.nil_append]; exact HR.out⟩, ⟨World.grownBy.refl _ _⟩⟩
  case round =>
    obtain ⟨j, hj, rfl, rfl, hR, hG⟩ := hrel
    by_cases hlt : j < l.length
    · have hll : ((mkBoolS l.length k).take j ++ l.drop j).length = l.length := by rw [List.length_append, List.length_take, List.length_drop, hlen.out]; omega
      obtain ⟨g, cap, e, hb, hgl, _⟩ := Kd.R_form hR.out (by omega)
      injection e with e1 e2 e3
      subst e1
      clear e2 e3
      obtain ⟨hx, hf⟩ := Kd.R_celln false hR.out (j : Int) (by omega) (by omega)
      have HP := Aside0.mk (Kd.R_putn hR.out (j : Int) (((k : Int) + j) % 3 == 0))
      rw [Int.toNat_natCast] at hx hf HP
      have HL := Aside0.mk hll
      clear hll
      skip
      go_wp2
      go_roundw
      case rel => exact ⟨j + 1, by omega, by go_num, by go_num, ⟨by rw [← mark_step _ _ j hlen.out hlt _ (by rw [mkBoolS, List.getElem?_map, List.getElem?_range hlt]; rfl)]; exact HP.out⟩, ⟨grown_set hG.out (p := ⟨g, j, none⟩) rfl _⟩⟩
      case measure => simp [intOf]; omega
    · obtain rfl : j = l.length := by omega
      go_wp2
      go_ret
      refine ⟨rfl, ?_, hG.out⟩
      have := hR.out
      rw [List.take_of_length_le (by rw [hlen.out]; exact Nat.le_refl _), List.drop_length, List.append_nil] at this
      exact this
def mkByteS (n : Nat) (k : Nat) : List Int := (List.range n).map fun (i : Nat) => (((k : Int) + i) % 256)
theorem mkByteS_length (n k : Nat) : (mkByteS n k).length = n := by simp [mkByteS]
set_option maxRecDepth 100000 in
theorem markByteS_c (A : Option Addr) (c base : Nat) (l : List Int) (k : Nat) (kz : Int) (hz : kz = k) (w : World) (hr : Kd.R (Kd.int .u8) 5 w base (fun _ => True) (.slice A l.length c) l) (hk : k + l.length ≤ 9223372036854775807) :
    Calls Tryd.prog 68 #[.slice A l.length c, .int .i64 kz] w fun e w' => e = .returned (.int .i64 (kz + (l.length : Int))) ∧ Kd.R (Kd.int .u8) 5 w' base (fun _ => True) (.slice A l.length c) (mkByteS l.length k) ∧ w.grownBy w' ((Value.slice A l.length c).ownBlock) := by
  subst hz
  have HR := Aside0.mk hr
  clear hr
  go_enter Tryd.func68, Tryd.ntmps68
  go_wp2
  have hlen := Aside0.mk (mkByteS_length l.length k)
  go_loopw [1, 5] (fun kk i wr => ∃ j : Nat, j ≤ l.length ∧ kk = .int .i64 ((k : Int) + j) ∧ i = .int .i64 j ∧ Aside0 (Kd.R (Kd.int .u8) 5 wr base (fun _ => True) (.slice A l.length c) ((mkByteS l.length k).take j ++ l.drop j)) ∧ Aside0 (w.grownBy wr (Value.slice A l.length c).ownBlock)) (fun _ i _ => l.length - (intOf i).toNat)
  case atStart => exact ⟨0, Nat.zero_le _, by go_num, rfl, ⟨by rw [List.take_zero, List.drop_zero, List.nil_append]; exact HR.out⟩, ⟨World.grownBy.refl _ _⟩⟩
  case round =>
    obtain ⟨j, hj, rfl, rfl, hR, hG⟩ := hrel
    by_cases hlt : j < l.length
    · have hll : ((mkByteS l.length k).take j ++ l.drop j).length = l.length := by rw [List.length_append, List.length_take, List.length_drop, hlen.out]; omega
      obtain ⟨g, cap, e, hb, hgl, _⟩ := Kd.R_form hR.out (by omega)
      injection e with e1 e2 e3
      subst e1
      clear e2 e3
      obtain ⟨hx, hf⟩ := Kd.R_celln 0 hR.out (j : Int) (by omega) (by omega)
      have HP := Aside0.mk (Kd.R_putn hR.out (j : Int) (((k : Int) + j) % 256))
      rw [Int.toNat_natCast] at hx hf HP
      have HL := Aside0.mk hll
      clear hll
      skip
      go_wp2
      go_roundw
      case rel => exact ⟨j + 1, by omega, by go_num, by go_num, ⟨by rw [← mark_step _ _ j hlen.out hlt _ (by rw [mkByteS, List.getElem?_map, List.getElem?_range hlt]; rfl)]; exact HP.out⟩, ⟨grown_set hG.out (p := ⟨g, j, none⟩) rfl _⟩⟩
      case measure => simp [intOf]; omega
    · obtain rfl : j = l.length := by omega
      go_wp2
      go_ret
      refine ⟨rfl, ?_, hG.out⟩
      have := hR.out
      rw [List.take_of_length_le (by rw [hlen.out]; exact Nat.le_refl _), List.drop_length, List.append_nil] at this
      exact this

set_option maxRecDepth 100000 in
theorem heldByteS_c (A : Option Addr) (c n : Nat) (k : Nat) (kz : Int) (hz : kz = k) (w : World) (hr : Kd.C (Kd.int .u8) w A n (mkByteS n k)) (hk : k + n ≤ 9223372036854775807) :
    Calls Tryd.prog 69 #[.slice A n c, .int .i64 kz] w fun e w' => e = .returned (.int .i64 (kz + (n : Int))) ∧ Drawn0 w w' := by
  subst hz
  have HR := Aside0.mk hr
  clear hr
  go_enter Tryd.func69, Tryd.ntmps69
  go_wp2
  go_loopw [1, 5] (fun kk i wr => ∃ j q : Nat, j ≤ n ∧ kk = .int .i64 ((k : Int) + j) ∧ i = .int .i64 j ∧ wr = w.drewN q) (fun _ i _ => n - (intOf i).toNat)
  case atStart => exact ⟨0, 0, Nat.zero_le _, by go_num, rfl, rfl⟩
  case round =>
    obtain ⟨j, q, hj, rfl, rfl, rfl⟩ := hrel
    by_cases hlt : j < n
    · obtain ⟨ad, e, hx⟩ := at1 HR.out 0 j hlt
      cases e
      rw [show (mkByteS n k).getD j 0 = (((k : Int) + j) % 256) from by rw [mkByteS, List.getD_eq_getElem?_getD, List.getElem?_map, List.getElem?_range hlt]; rfl] at hx
      go_wp2
      go_roundw
      case rel => exact ⟨j + 1, _, by omega, by go_num, by go_num, rfl⟩
      case measure => simp [intOf]; omega
    · obtain rfl : j = n := by omega
      go_wp2
      go_ret
      exact ⟨rfl, ⟨⟨_, rfl⟩⟩⟩
end Go.Proofs.YtpfponhaofdbaaaDoor.M
