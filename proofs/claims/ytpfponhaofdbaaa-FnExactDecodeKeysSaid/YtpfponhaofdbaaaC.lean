import Derived.Test.YtpfponhaofdbaaaK
import Derived.Laws.Cover3
set_option linter.unusedVariables false
set_option linter.unusedSimpArgs false
namespace Go.Proofs.Ytpfponhaofdbaaa.M
open Go.RowKit Go.Proofs.YtpfponhaofdbaaaW.PrintWords

theorem run_eqs {P : Program} (t e : TypeId) (a : Option Addr) (l c : Nat) (h : P.underlying t = some (.slice e)) (w : World) : (binOp .eql t (.slice a l c) (.slice none 0 0)).run P w = .ok (.bool a.isNone) w := by
  simp [binOp, run_equal_slice_nil w t e a l c h]

set_option maxRecDepth 100000 in
theorem cloneint64_c (A : Option Addr) (c : Nat) (l : List Int) (w : World) (hr : Kd.C (Kd.int .i64) w A l.length l) (hm : l.length * 8 ≤ 140737488355328) :
    Calls Try.prog 121 #[.slice A l.length c] w fun e w' => ∃ (A' : Option Addr) (c' : Nat), e = .returned (.slice A' l.length c') ∧ l.length ≤ c' ∧ Kd.R (Kd.int .i64) 2 w' w.heap.size (fun _ => True) (.slice A' l.length c') l ∧ Below w.heap.size w w' := by
  have HR := Aside0.mk hr
  rcases A with _ | ad
  · have hl0 : l = [] := by
      rcases Nat.eq_zero_or_pos l.length with h | h
      · exact List.eq_nil_of_length_eq_zero h
      · obtain ⟨_, h2, _⟩ := hr.2.2 h; cases h2
    clear hr
    subst hl0
    have hq := run_eqs (P := Try.prog) 27 2 none 0 c Try.underlying27
    go_enter Try.func121, Try.ntmps121
    go_wp2
    go_ret
    exact ⟨none, 0, by rfl, Nat.le_refl _, Kd.R_nil _ _ _ _ _, Below.refl _ _⟩
  · clear hr
    have hq := run_eqs (P := Try.prog) 27 2 (some ad) l.length c Try.underlying27
    go_enter Try.func121, Try.ntmps121
    go_wp2_with (at_builtin; refine Kd.R_append_row (w0 := w) (Value.int .i64) 0 w.heap.size rfl (.tmp 5) (.tmp 6) 27 2 (.int .i64 0) 8 rfl Try.underlying27 (by kernel_rfl) rfl (by omega) (.slice (some ⟨w.heap.size, 0, none⟩) 0 0) [] l (some ad) l.length c (fun _ => True) rfl rfl (fun _ _ => trivial) (R_at (l := []) (by rw [heap_alloc?, if_pos rfl]; rfl) (Nat.le_refl _) (by simp)) (Kd.C_alloc HR.out _) (below_alloc (Below.refl _ _) _) (by simp) (by simpa using hm) ?_; intro v1 w1 hR hB hg hat)
    rw [List.nil_append] at hR
    obtain ⟨A', c', rfl, hc', _⟩ := Kd.R_reads hR
    go_ret
    exact ⟨A', c', rfl, hc', hR, hB⟩
set_option maxRecDepth 100000 in
theorem clonebool_c (A : Option Addr) (c : Nat) (l : List Bool) (w : World) (hr : Kd.C Kd.bool w A l.length l) (hm : l.length * 1 ≤ 140737488355328) :
    Calls Try.prog 122 #[.slice A l.length c] w fun e w' => ∃ (A' : Option Addr) (c' : Nat), e = .returned (.slice A' l.length c') ∧ l.length ≤ c' ∧ Kd.R Kd.bool 4 w' w.heap.size (fun _ => True) (.slice A' l.length c') l ∧ Below w.heap.size w w' := by
  have HR := Aside0.mk hr
  rcases A with _ | ad
  · have hl0 : l = [] := by
      rcases Nat.eq_zero_or_pos l.length with h | h
      · exact List.eq_nil_of_length_eq_zero h
      · obtain ⟨_, h2, _⟩ := hr.2.2 h; cases h2
    clear hr
    subst hl0
    have hq := run_eqs (P := Try.prog) 28 4 none 0 c Try.underlying28
    go_enter Try.func122, Try.ntmps122
    go_wp2
    go_ret
    exact ⟨none, 0, by rfl, Nat.le_refl _, Kd.R_nil _ _ _ _ _, Below.refl _ _⟩
  · clear hr
    have hq := run_eqs (P := Try.prog) 28 4 (some ad) l.length c Try.underlying28
    go_enter Try.func122, Try.ntmps122
    go_wp2_with (at_builtin; refine Kd.R_append_row (w0 := w) (Value.bool) false w.heap.size rfl (.tmp 5) (.tmp 6) 28 4 (.bool false) 1 rfl Try.underlying28 (by kernel_rfl) rfl (by omega) (.slice (some ⟨w.heap.size, 0, none⟩) 0 0) [] l (some ad) l.length c (fun _ => True) rfl rfl (fun _ _ => trivial) (R_at (l := []) (by rw [heap_alloc?, if_pos rfl]; rfl) (Nat.le_refl _) (by simp)) (Kd.C_alloc HR.out _) (below_alloc (Below.refl _ _) _) (by simp) (by simpa using hm) ?_; intro v1 w1 hR hB hg hat)
    rw [List.nil_append] at hR
    obtain ⟨A', c', rfl, hc', _⟩ := Kd.R_reads hR
    go_ret
    exact ⟨A', c', rfl, hc', hR, hB⟩

set_option maxRecDepth 100000 in
theorem equalint64_c (A B : Option Addr) (c d : Nat) (l m : List Int) (w : World) (hr : Kd.C (Kd.int .i64) w A l.length l) (hs : Kd.C (Kd.int .i64) w B m.length m) :
    Calls Try.prog 70 #[.slice A l.length c, .slice B m.length d] w fun e w' => e = .returned (.bool (eqv l m)) ∧ Drawn0 w w' := by
  have HR := Aside0.mk hr
  have HS := Aside0.mk hs
  have hl := Kd.C_max hr
  have hm := Kd.C_max hs
  clear hr hs
  by_cases hn : l.length = m.length
  · have hb : ((l.length : Int) != (m.length : Int)) = false := by simp [hn]
    have hnb : (l.length != m.length) = false := by simp [hn]
    have HN := Aside0.mk hn
    clear hn
    go_enter Try.func70, Try.ntmps70
    go_wp2
    clear hb hnb
    go_loopw [13] (fun i wr => ∃ (k q : Nat), k ≤ l.length ∧ i = .int .i64 k ∧ Aside0 (∀ j, j < k → l.getD j 0 = m.getD j 0) ∧ wr = w.drewN q) (fun i _ => l.length - (intOf i).toNat)
    case atStart => exact ⟨0, 0, Nat.zero_le _, rfl, ⟨fun j hj => absurd hj (by omega)⟩, rfl⟩
    case round =>
      obtain ⟨k, q, hk, rfl, hb, rfl⟩ := hrel
      by_cases hlt : k < l.length
      · obtain ⟨ad, e, hx⟩ := at1 HR.out 0 k hlt
        cases e
        have hlt2 : k < m.length := by rw [← HN.out]; exact hlt
        obtain ⟨bd, e, hy⟩ := at1 HS.out 0 k hlt2
        cases e
        generalize hu : l.getD k 0 = u at hx
        generalize hv : m.getD k 0 = v at hy
        have HU := Aside0.mk hu
        have HV := Aside0.mk hv
        clear hu hv
        by_cases huv : u = v
        · subst huv
          go_wp2
          go_quiet (fail)
          go_wp2
          go_roundw
          case rel => exact ⟨k + 1, _, by omega, by go_num, ⟨fun j hj => by
            rcases Nat.lt_or_ge j k with h | h
            · exact hb.out j h
            · obtain rfl : j = k := by omega
              rw [HU.out, HV.out]⟩, rfl⟩
          case measure => simp [intOf]; omega
        · have hne : (u != v) = true := by simpa using huv
          have HNE := Aside0.mk huv
          skip
          clear huv
          go_wp2
          go_quiet (fail)
          go_wp2
          go_ret
          exact ⟨by rw [eqv_false (x := l) (y := m) (fun h => HNE.out (by rw [← HU.out, ← HV.out, h]))]; rfl, by repeat (first | exact Drawn0.refl _ | refine Drawn0.step ?_ _)⟩
      · go_wp2
        go_ret
        exact ⟨by rw [eqv_true (x := l) (y := m) (eq_of_getD 0 HN.out (fun j hj => hb.out j (by omega)))]; rfl, ⟨⟨_, rfl⟩⟩⟩
  · have hb : ((l.length : Int) != (m.length : Int)) = true := by simp; omega
    have hnb : (l.length != m.length) = true := by simp [hn]
    have HN := Aside0.mk hn
    clear hn
    go_enter Try.func70, Try.ntmps70
    go_wp2
    go_ret
    exact ⟨by rw [eqv_false (x := l) (y := m) (fun h => HN.out (by rw [h]))]; rfl, .refl _⟩
set_option maxRecDepth 100000 in
theorem equalbool_c (A B : Option Addr) (c d : Nat) (l m : List Bool) (w : World) (hr : Kd.C Kd.bool w A l.length l) (hs : Kd.C Kd.bool w B m.length m) :
    Calls Try.prog 71 #[.slice A l.length c, .slice B m.length d] w fun e w' => e = .returned (.bool (eqv l m)) ∧ Drawn0 w w' := by
  have HR := Aside0.mk hr
  have HS := Aside0.mk hs
  have hl := Kd.C_max hr
  have hm := Kd.C_max hs
  clear hr hs
  by_cases hn : l.length = m.length
  · have hb : ((l.length : Int) != (m.length : Int)) = false := by simp [hn]
    have hnb : (l.length != m.length) = false := by simp [hn]
    have HN := Aside0.mk hn
    clear hn
    go_enter Try.func71, Try.ntmps71
    go_wp2
    clear hb hnb
    go_loopw [13] (fun i wr => ∃ (k q : Nat), k ≤ l.length ∧ i = .int .i64 k ∧ Aside0 (∀ j, j < k → l.getD j false = m.getD j false) ∧ wr = w.drewN q) (fun i _ => l.length - (intOf i).toNat)
    case atStart => exact ⟨0, 0, Nat.zero_le _, rfl, ⟨fun j hj => absurd hj (by omega)⟩, rfl⟩
    case round =>
      obtain ⟨k, q, hk, rfl, hb, rfl⟩ := hrel
      by_cases hlt : k < l.length
      · obtain ⟨ad, e, hx⟩ := at1 HR.out false k hlt
        cases e
        have hlt2 : k < m.length := by rw [← HN.out]; exact hlt
        obtain ⟨bd, e, hy⟩ := at1 HS.out false k hlt2
        cases e
        generalize hu : l.getD k false = u at hx
        generalize hv : m.getD k false = v at hy
        have HU := Aside0.mk hu
        have HV := Aside0.mk hv
        clear hu hv
        by_cases huv : u = v
        · subst huv
          go_wp2
          go_quiet (fail)
          go_wp2
          go_roundw
          case rel => exact ⟨k + 1, _, by omega, by go_num, ⟨fun j hj => by
            rcases Nat.lt_or_ge j k with h | h
            · exact hb.out j h
            · obtain rfl : j = k := by omega
              rw [HU.out, HV.out]⟩, rfl⟩
          case measure => simp [intOf]; omega
        · have hne : (u != v) = true := by simpa using huv
          have HNE := Aside0.mk huv
          have hnf : (!u == v) = true := by revert hne; cases u <;> cases v <;> decide
          clear huv
          go_wp2
          go_quiet (fail)
          go_wp2
          go_ret
          exact ⟨by rw [eqv_false (x := l) (y := m) (fun h => HNE.out (by rw [← HU.out, ← HV.out, h]))]; rfl, by repeat (first | exact Drawn0.refl _ | refine Drawn0.step ?_ _)⟩
      · go_wp2
        go_ret
        exact ⟨by rw [eqv_true (x := l) (y := m) (eq_of_getD false HN.out (fun j hj => hb.out j (by omega)))]; rfl, ⟨⟨_, rfl⟩⟩⟩
  · have hb : ((l.length : Int) != (m.length : Int)) = true := by simp; omega
    have hnb : (l.length != m.length) = true := by simp [hn]
    have HN := Aside0.mk hn
    clear hn
    go_enter Try.func71, Try.ntmps71
    go_wp2
    go_ret
    exact ⟨by rw [eqv_false (x := l) (y := m) (fun h => HN.out (by rw [h]))]; rfl, .refl _⟩
end Go.Proofs.Ytpfponhaofdbaaa.M
