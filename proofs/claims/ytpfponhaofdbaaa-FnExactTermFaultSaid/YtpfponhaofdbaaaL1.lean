import Derived.Test.YtpfponhaofdbaaaK
set_option linter.unusedVariables false
set_option linter.unusedSimpArgs false
namespace Go.Proofs.Ytpfponhaofdbaaa.M
open Go.RowKit Go.Proofs.YtpfponhaofdbaaaW.PrintWords

/-- What is left of a bound behind so many. -/
def szf (n : Nat) (left : Int) : Int := if left - n < 0 then -1 else left - n
theorem szInt64S_c (A : Option Addr) (n c : Nat) (left : Int) (w : World) (hn : n ≤ 9223372036854775807) (h0 : 0 ≤ left) (h1 : left ≤ 1048576) :
    Calls Try.prog 65 #[.slice A n c, .int .i64 left] w fun e w' => e = .returned (.int .i64 (szf n left)) ∧ w = w' := by
  by_cases h : left - (n : Int) < 0
  all_goals
    go_enter Try.func65, Try.ntmps65
    go_wp2
    go_ret
    exact ⟨by first | (simp [szf, h]; done) | (simp [szf]; omega), rfl⟩
theorem szBoolS_c (A : Option Addr) (n c : Nat) (left : Int) (w : World) (hn : n ≤ 9223372036854775807) (h0 : 0 ≤ left) (h1 : left ≤ 1048576) :
    Calls Try.prog 66 #[.slice A n c, .int .i64 left] w fun e w' => e = .returned (.int .i64 (szf n left)) ∧ w = w' := by
  by_cases h : left - (n : Int) < 0
  all_goals
    go_enter Try.func66, Try.ntmps66
    go_wp2
    go_ret
    exact ⟨by first | (simp [szf, h]; done) | (simp [szf]; omega), rfl⟩

set_option maxRecDepth 100000 in
theorem toInt64S_c (A : Option Addr) (c : Nat) (l : List Int) (w : World) (hr : Kd.C (Kd.int .i64) w A l.length l) (hm : l.length * 8 ≤ 140737488351232) :
    Calls Try.prog 68 #[.slice A l.length c] w fun e w' => e = .returned (.slice (some ⟨w.heap.size, 0, none⟩) l.length l.length) ∧ w' = w.alloc (.cells (l.map (Value.int .i64)).toArray 2) := by
  have HR := Aside0.mk hr
  clear hr
  have hmk : ∀ W : World, (Instr.makeSlice 27 (.int .i64 (l.length : Int)) (.int .i64 (l.length : Int))).run Try.prog W = .ok (.slice (some ⟨W.heap.size, 0, none⟩) l.length l.length) (W.alloc (.cells (madeCells #[.int .i64 0] l.length) 2)) := fun W => run_make_row' 27 2 (.int .i64 0) 8 Try.underlying27 (by kernel_rfl) rfl .i64 .i64 l.length (by omega) (by omega) W
  go_enter Try.func68, Try.ntmps68
  go_wp2
  clear hmk
  go_loopw [4] (fun i wr => ∃ k : Nat, k ≤ l.length ∧ i = .int .i64 k ∧ wr = w.alloc (.cells (upTo (.int .i64 0) (l.map (Value.int .i64)) k) 2)) (fun i _ => l.length - (intOf i).toNat)
  case atStart => exact ⟨0, Nat.zero_le _, rfl, by rw [← made_upTo, List.length_map]⟩
  case round =>
    obtain ⟨k, hk, rfl, rfl⟩ := hrel
    by_cases hlt : k < l.length
    · obtain ⟨ad, e, hx⟩ := at1 HR.out 0 k hlt
      cases e
      have hlb := World.block_lt_of_cell? w _ hx
      have hold := upTo_at (.int .i64 0) (l.map (Value.int .i64)) k (by rw [List.length_map]; exact hlt)
      go_wp2
      go_roundw
      case rel => exact ⟨k + 1, by omega, by go_num, by rw [upTo_set _ _ k (by rw [List.length_map]; exact hlt) _ (by simp [List.getD_eq_getElem?_getD, List.getElem?_eq_getElem hlt])]⟩
      case measure => simp [intOf]; omega
    · obtain rfl : k = l.length := by omega
      go_wp2
      go_ret
      exact ⟨rfl, by rw [← List.length_map (f := Value.int .i64), upTo_all]⟩
set_option maxRecDepth 100000 in
theorem toBoolS_c (A : Option Addr) (c : Nat) (l : List Bool) (w : World) (hr : Kd.C Kd.bool w A l.length l) (hm : l.length * 1 ≤ 140737488351232) :
    Calls Try.prog 69 #[.slice A l.length c] w fun e w' => e = .returned (.slice (some ⟨w.heap.size, 0, none⟩) l.length l.length) ∧ w' = w.alloc (.cells (l.map (Value.bool)).toArray 4) := by
  have HR := Aside0.mk hr
  clear hr
  have hmk : ∀ W : World, (Instr.makeSlice 28 (.int .i64 (l.length : Int)) (.int .i64 (l.length : Int))).run Try.prog W = .ok (.slice (some ⟨W.heap.size, 0, none⟩) l.length l.length) (W.alloc (.cells (madeCells #[.bool false] l.length) 4)) := fun W => run_make_row' 28 4 (.bool false) 1 Try.underlying28 (by kernel_rfl) rfl .i64 .i64 l.length (by omega) (by omega) W
  go_enter Try.func69, Try.ntmps69
  go_wp2
  clear hmk
  go_loopw [4] (fun i wr => ∃ k : Nat, k ≤ l.length ∧ i = .int .i64 k ∧ wr = w.alloc (.cells (upTo (.bool false) (l.map (Value.bool)) k) 4)) (fun i _ => l.length - (intOf i).toNat)
  case atStart => exact ⟨0, Nat.zero_le _, rfl, by rw [← made_upTo, List.length_map]⟩
  case round =>
    obtain ⟨k, hk, rfl, rfl⟩ := hrel
    by_cases hlt : k < l.length
    · obtain ⟨ad, e, hx⟩ := at1 HR.out false k hlt
      cases e
      have hlb := World.block_lt_of_cell? w _ hx
      have hold := upTo_at (.bool false) (l.map (Value.bool)) k (by rw [List.length_map]; exact hlt)
      go_wp2
      go_roundw
      case rel => exact ⟨k + 1, by omega, by go_num, by rw [upTo_set _ _ k (by rw [List.length_map]; exact hlt) _ (by simp [List.getD_eq_getElem?_getD, List.getElem?_eq_getElem hlt])]⟩
      case measure => simp [intOf]; omega
    · obtain rfl : k = l.length := by omega
      go_wp2
      go_ret
      exact ⟨rfl, by rw [← List.length_map (f := Value.bool), upTo_all]⟩
set_option maxRecDepth 100000 in
theorem toByteS_c (A : Option Addr) (c : Nat) (l : List Int) (w : World) (hr : Kd.C (Kd.int .u8) w A l.length l) (hm : l.length * 1 ≤ 140737488351232) :
    Calls Try.prog 49 #[.slice A l.length c] w fun e w' => e = .returned (.slice (some ⟨w.heap.size, 0, none⟩) l.length l.length) ∧ w' = w.alloc (.cells (l.map (Value.int .u8)).toArray 5) := by
  have HR := Aside0.mk hr
  clear hr
  have hmk : ∀ W : World, (Instr.makeSlice 36 (.int .i64 (l.length : Int)) (.int .i64 (l.length : Int))).run Try.prog W = .ok (.slice (some ⟨W.heap.size, 0, none⟩) l.length l.length) (W.alloc (.cells (madeCells #[.int .u8 0] l.length) 5)) := fun W => run_make_row' 36 5 (.int .u8 0) 1 Try.underlying36 (by kernel_rfl) rfl .i64 .i64 l.length (by omega) (by omega) W
  go_enter Try.func49, Try.ntmps49
  go_wp2
  clear hmk
  go_loopw [4] (fun i wr => ∃ k : Nat, k ≤ l.length ∧ i = .int .i64 k ∧ wr = w.alloc (.cells (upTo (.int .u8 0) (l.map (Value.int .u8)) k) 5)) (fun i _ => l.length - (intOf i).toNat)
  case atStart => exact ⟨0, Nat.zero_le _, rfl, by rw [← made_upTo, List.length_map]⟩
  case round =>
    obtain ⟨k, hk, rfl, rfl⟩ := hrel
    by_cases hlt : k < l.length
    · obtain ⟨ad, e, hx⟩ := at1 HR.out 0 k hlt
      cases e
      have hlb := World.block_lt_of_cell? w _ hx
      have hold := upTo_at (.int .u8 0) (l.map (Value.int .u8)) k (by rw [List.length_map]; exact hlt)
      go_wp2
      go_roundw
      case rel => exact ⟨k + 1, by omega, by go_num, by rw [upTo_set _ _ k (by rw [List.length_map]; exact hlt) _ (by simp [List.getD_eq_getElem?_getD, List.getElem?_eq_getElem hlt])]⟩
      case measure => simp [intOf]; omega
    · obtain rfl : k = l.length := by omega
      go_wp2
      go_ret
      exact ⟨rfl, by rw [← List.length_map (f := Value.int .u8), upTo_all]⟩

/-! equality of rows -/
theorem eq_of_getD {α : Type} (z : α) {l m : List α} (hn : l.length = m.length) (h : ∀ j, j < l.length → l.getD j z = m.getD j z) : l = m := by
  apply List.ext_getElem hn
  intro i h1 h2
  have := h i h1
  simpa [List.getD_eq_getElem?_getD, List.getElem?_eq_getElem h1, List.getElem?_eq_getElem h2] using this

set_option maxRecDepth 100000 in
theorem eqInt64S_c (A B : Option Addr) (c d : Nat) (l m : List Int) (w : World) (hr : Kd.C (Kd.int .i64) w A l.length l) (hs : Kd.C (Kd.int .i64) w B m.length m) :
    Calls Try.prog 72 #[.slice A l.length c, .slice B m.length d] w fun e w' => e = .returned (.bool (eqv l m)) ∧ Drawn0 w w' := by
  have HR := Aside0.mk hr
  have HS := Aside0.mk hs
  have hl := Kd.C_max hr
  have hm := Kd.C_max hs
  clear hr hs
  by_cases hn : l.length = m.length
  · have hb : ((l.length : Int) != (m.length : Int)) = false := by simp [hn]
    have hnb : (l.length != m.length) = false := by simp [hn]
    have HN := Aside0.mk hn
    clear hn
    go_enter Try.func72, Try.ntmps72
    go_wp2
    clear hb hnb
    go_loopw [5] (fun i wr => ∃ (k q : Nat), k ≤ l.length ∧ i = .int .i64 k ∧ Aside0 (∀ j, j < k → l.getD j 0 = m.getD j 0) ∧ wr = w.drewN q) (fun i _ => l.length - (intOf i).toNat)
    case atStart => exact ⟨0, 0, Nat.zero_le _, rfl, ⟨fun j hj => absurd hj (by omega)⟩, rfl⟩
    case round =>
      obtain ⟨k, q, hk, rfl, hb, rfl⟩ := hrel
      by_cases hlt : k < l.length
      · obtain ⟨ad, e, hx⟩ := at1 HR.out 0 k hlt
        cases e
        have hlt2 : k < m.length := by rw [← HN.out]; exact hlt
        obtain ⟨bd, e, hy⟩ := at1 HS.out 0 k hlt2
        cases e
        generalize hu : l.getD k 0 = u at hx
        generalize hv : m.getD k 0 = v at hy
        have HU := Aside0.mk hu
        have HV := Aside0.mk hv
        clear hu hv
        by_cases huv : u = v
        · subst huv
          go_wp2
          go_quiet (fail)
          go_wp2
          go_roundw
          case rel => exact ⟨k + 1, _, by omega, by go_num, ⟨fun j hj => by
            rcases Nat.lt_or_ge j k with h | h
            · exact hb.out j h
            · obtain rfl : j = k := by omega
              rw [HU.out, HV.out]⟩, rfl⟩
          case measure => simp [intOf]; omega
        · have hne : (u != v) = true := by simpa using huv
          have HNE := Aside0.mk huv
          skip
          clear huv
          go_wp2
          go_quiet (fail)
          go_wp2
          go_ret
          exact ⟨by rw [eqv_false (x := l) (y := m) (fun h => HNE.out (by rw [← HU.out, ← HV.out, h]))]; rfl, ⟨⟨_, World.drewN_drewN ..⟩⟩⟩
      · go_wp2
        go_ret
        exact ⟨by rw [eqv_true (x := l) (y := m) (eq_of_getD 0 HN.out (fun j hj => hb.out j (by omega)))]; rfl, ⟨⟨_, rfl⟩⟩⟩
  · have hb : ((l.length : Int) != (m.length : Int)) = true := by simp; omega
    have hnb : (l.length != m.length) = true := by simp [hn]
    have HN := Aside0.mk hn
    clear hn
    go_enter Try.func72, Try.ntmps72
    go_wp2
    go_ret
    exact ⟨by rw [eqv_false (x := l) (y := m) (fun h => HN.out (by rw [h]))]; rfl, .refl _⟩
set_option maxRecDepth 100000 in
theorem eqBoolS_c (A B : Option Addr) (c d : Nat) (l m : List Bool) (w : World) (hr : Kd.C Kd.bool w A l.length l) (hs : Kd.C Kd.bool w B m.length m) :
    Calls Try.prog 73 #[.slice A l.length c, .slice B m.length d] w fun e w' => e = .returned (.bool (eqv l m)) ∧ Drawn0 w w' := by
  have HR := Aside0.mk hr
  have HS := Aside0.mk hs
  have hl := Kd.C_max hr
  have hm := Kd.C_max hs
  clear hr hs
  by_cases hn : l.length = m.length
  · have hb : ((l.length : Int) != (m.length : Int)) = false := by simp [hn]
    have hnb : (l.length != m.length) = false := by simp [hn]
    have HN := Aside0.mk hn
    clear hn
    go_enter Try.func73, Try.ntmps73
    go_wp2
    clear hb hnb
    go_loopw [5] (fun i wr => ∃ (k q : Nat), k ≤ l.length ∧ i = .int .i64 k ∧ Aside0 (∀ j, j < k → l.getD j false = m.getD j false) ∧ wr = w.drewN q) (fun i _ => l.length - (intOf i).toNat)
    case atStart => exact ⟨0, 0, Nat.zero_le _, rfl, ⟨fun j hj => absurd hj (by omega)⟩, rfl⟩
    case round =>
      obtain ⟨k, q, hk, rfl, hb, rfl⟩ := hrel
      by_cases hlt : k < l.length
      · obtain ⟨ad, e, hx⟩ := at1 HR.out false k hlt
        cases e
        have hlt2 : k < m.length := by rw [← HN.out]; exact hlt
        obtain ⟨bd, e, hy⟩ := at1 HS.out false k hlt2
        cases e
        generalize hu : l.getD k false = u at hx
        generalize hv : m.getD k false = v at hy
        have HU := Aside0.mk hu
        have HV := Aside0.mk hv
        clear hu hv
        by_cases huv : u = v
        · subst huv
          go_wp2
          go_quiet (fail)
          go_wp2
          go_roundw
          case rel => exact ⟨k + 1, _, by omega, by go_num, ⟨fun j hj => by
            rcases Nat.lt_or_ge j k with h | h
            · exact hb.out j h
            · obtain rfl : j = k := by omega
              rw [HU.out, HV.out]⟩, rfl⟩
          case measure => simp [intOf]; omega
        · have hne : (u != v) = true := by simpa using huv
          have HNE := Aside0.mk huv
          have hnf : (!u == v) = true := by revert hne; cases u <;> cases v <;> decide
          clear huv
          go_wp2
          go_quiet (fail)
          go_wp2
          go_ret
          exact ⟨by rw [eqv_false (x := l) (y := m) (fun h => HNE.out (by rw [← HU.out, ← HV.out, h]))]; rfl, ⟨⟨_, World.drewN_drewN ..⟩⟩⟩
      · go_wp2
        go_ret
        exact ⟨by rw [eqv_true (x := l) (y := m) (eq_of_getD false HN.out (fun j hj => hb.out j (by omega)))]; rfl, ⟨⟨_, rfl⟩⟩⟩
  · have hb : ((l.length : Int) != (m.length : Int)) = true := by simp; omega
    have hnb : (l.length != m.length) = true := by simp [hn]
    have HN := Aside0.mk hn
    clear hn
    go_enter Try.func73, Try.ntmps73
    go_wp2
    go_ret
    exact ⟨by rw [eqv_false (x := l) (y := m) (fun h => HN.out (by rw [h]))]; rfl, .refl _⟩
set_option maxRecDepth 100000 in
theorem eqByteS_c (A B : Option Addr) (c d : Nat) (l m : List Int) (w : World) (hr : Kd.C (Kd.int .u8) w A l.length l) (hs : Kd.C (Kd.int .u8) w B m.length m) :
    Calls Try.prog 52 #[.slice A l.length c, .slice B m.length d] w fun e w' => e = .returned (.bool (eqv l m)) ∧ Drawn0 w w' := by
  have HR := Aside0.mk hr
  have HS := Aside0.mk hs
  have hl := Kd.C_max hr
  have hm := Kd.C_max hs
  clear hr hs
  by_cases hn : l.length = m.length
  · have hb : ((l.length : Int) != (m.length : Int)) = false := by simp [hn]
    have hnb : (l.length != m.length) = false := by simp [hn]
    have HN := Aside0.mk hn
    clear hn
    go_enter Try.func52, Try.ntmps52
    go_wp2
    clear hb hnb
    go_loopw [5] (fun i wr => ∃ (k q : Nat), k ≤ l.length ∧ i = .int .i64 k ∧ Aside0 (∀ j, j < k → l.getD j 0 = m.getD j 0) ∧ wr = w.drewN q) (fun i _ => l.length - (intOf i).toNat)
    case atStart => exact ⟨0, 0, Nat.zero_le _, rfl, ⟨fun j hj => absurd hj (by omega)⟩, rfl⟩
    case round =>
      obtain ⟨k, q, hk, rfl, hb, rfl⟩ := hrel
      by_cases hlt : k < l.length
      · obtain ⟨ad, e, hx⟩ := at1 HR.out 0 k hlt
        cases e
        have hlt2 : k < m.length := by rw [← HN.out]; exact hlt
        obtain ⟨bd, e, hy⟩ := at1 HS.out 0 k hlt2
        cases e
        generalize hu : l.getD k 0 = u at hx
        generalize hv : m.getD k 0 = v at hy
        have HU := Aside0.mk hu
        have HV := Aside0.mk hv
        clear hu hv
        by_cases huv : u = v
        · subst huv
          go_wp2
          go_quiet (fail)
          go_wp2
          go_roundw
          case rel => exact ⟨k + 1, _, by omega, by go_num, ⟨fun j hj => by
            rcases Nat.lt_or_ge j k with h | h
            · exact hb.out j h
            · obtain rfl : j = k := by omega
              rw [HU.out, HV.out]⟩, rfl⟩
          case measure => simp [intOf]; omega
        · have hne : (u != v) = true := by simpa using huv
          have HNE := Aside0.mk huv
          skip
          clear huv
          go_wp2
          go_quiet (fail)
          go_wp2
          go_ret
          exact ⟨by rw [eqv_false (x := l) (y := m) (fun h => HNE.out (by rw [← HU.out, ← HV.out, h]))]; rfl, ⟨⟨_, World.drewN_drewN ..⟩⟩⟩
      · go_wp2
        go_ret
        exact ⟨by rw [eqv_true (x := l) (y := m) (eq_of_getD 0 HN.out (fun j hj => hb.out j (by omega)))]; rfl, ⟨⟨_, rfl⟩⟩⟩
  · have hb : ((l.length : Int) != (m.length : Int)) = true := by simp; omega
    have hnb : (l.length != m.length) = true := by simp [hn]
    have HN := Aside0.mk hn
    clear hn
    go_enter Try.func52, Try.ntmps52
    go_wp2
    go_ret
    exact ⟨by rw [eqv_false (x := l) (y := m) (fun h => HN.out (by rw [h]))]; rfl, .refl _⟩
end Go.Proofs.Ytpfponhaofdbaaa.M
