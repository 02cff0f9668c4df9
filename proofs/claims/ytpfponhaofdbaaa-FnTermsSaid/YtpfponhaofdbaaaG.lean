import Derived.Test.YtpfponhaofdbaaaC
import Derived.Test.YtpfponhaofdbaaaS1
set_option linter.unusedVariables false
set_option linter.unusedSimpArgs false
namespace Go.Proofs.Ytpfponhaofdbaaa.M
open Go.RowKit Go.Proofs.YtpfponhaofdbaaaW.PrintWords

/-! SameGrids -/
theorem SameGrids_c (wa : Int) (A B : Option Addr) (c d : Nat) (ca : List Int) (ha : List Bool) (wb : Int) (A' B' : Option Addr) (c' d' : Nat) (cb : List Int) (hb : List Bool) (w : World)
    (hr : Kd.C (Kd.int .i64) w A ca.length ca) (hs : Kd.C Kd.bool w B ha.length ha) (hr' : Kd.C (Kd.int .i64) w A' cb.length cb) (hs' : Kd.C Kd.bool w B' hb.length hb) :
    Calls Try.prog 20 #[.agg #[.int .i64 wa, .slice A ca.length c, .slice B ha.length d], .agg #[.int .i64 wb, .slice A' cb.length c', .slice B' hb.length d']] w fun e w' => e = .returned (.bool (eqv (wa, ca, ha) (wb, cb, hb))) ∧ Below w.heap.size w w' := by
  have HR := Aside0.mk hr
  have HS := Aside0.mk hs
  have HR' := Aside0.mk hr'
  have HS' := Aside0.mk hs'
  clear hr hs hr' hs'
  go_enter Try.func20, Try.ntmps20
  go_wp2_with (first
    | (go_at_call 70; refine Calls.mono (equalint64_c _ _ _ _ ca cb _ (by repeat (first | exact HR.out | refine Kd.C_alloc ?_ _ | refine Kd.C_drewN ?_ _)) (by repeat (first | exact HR'.out | refine Kd.C_alloc ?_ _ | refine Kd.C_drewN ?_ _))) ?_; rintro e w' ⟨rfl, ⟨⟨q, rfl⟩⟩⟩)
    | (go_at_call 71; refine Calls.mono (equalbool_c _ _ _ _ ha hb _ (by repeat (first | exact HS.out | refine Kd.C_alloc ?_ _ | refine Kd.C_drewN ?_ _)) (by repeat (first | exact HS'.out | refine Kd.C_alloc ?_ _ | refine Kd.C_drewN ?_ _))) ?_; rintro e w' ⟨rfl, ⟨⟨q, rfl⟩⟩⟩))
  all_goals
    go_ret
    exact ⟨by simp_all [eqv], (by repeat (first | exact Below.refl _ _ | refine below_alloc ?_ _ | refine below_drew ?_ | refine pw_below_drewN ?_ _ | refine Below.setCell ?_ (by dsimp only; omega) _))⟩

set_option maxRecDepth 100000 in
theorem l14Same_c (g g' : Nat) (wa : Int) (A B : Option Addr) (c d : Nat) (ca : List Int) (ha : List Bool) (wb : Int) (A' B' : Option Addr) (c' d' : Nat) (cb : List Int) (hb : List Bool) (w : World)
    (hg : w.heap[g]? = some (.cells #[.int .i64 wa, .slice A ca.length c, .slice B ha.length d] 33 (0, 0))) (hg' : w.heap[g']? = some (.cells #[.int .i64 wb, .slice A' cb.length c', .slice B' hb.length d'] 33 (0, 0)))
    (hr : Kd.C (Kd.int .i64) w A ca.length ca) (hs : Kd.C Kd.bool w B ha.length ha) (hr' : Kd.C (Kd.int .i64) w A' cb.length cb) (hs' : Kd.C Kd.bool w B' hb.length hb) :
    Calls Try.prog 67 #[.pointer (some ⟨g, 0, none⟩), .pointer (some ⟨g', 0, none⟩)] w fun e w' => e = .returned (.bool (eqv (wa, ca, ha) (wb, cb, hb))) ∧ Drawn0 w w' := by
  have HR := Aside0.mk hr
  have HS := Aside0.mk hs
  have HR' := Aside0.mk hr'
  have HS' := Aside0.mk hs'
  have hm1 := Kd.C_max hr
  have hm2 := Kd.C_max hs
  have hm3 := Kd.C_max hr'
  have hm4 := Kd.C_max hs'
  have c0 := cell_of_row w g 0 _ _ _ hg
  have c1 := cell_of_row w g 1 _ _ _ hg
  have c2 := cell_of_row w g 2 _ _ _ hg
  have d0 := cell_of_row w g' 0 _ _ _ hg'
  have d1 := cell_of_row w g' 1 _ _ _ hg'
  have d2 := cell_of_row w g' 2 _ _ _ hg'
  simp only [List.getElem?_toArray, List.getElem?_cons_zero, List.getElem?_cons_succ] at c0 c1 c2 d0 d1 d2
  clear hr hs hr' hs' hg hg'
  by_cases h1 : wa = wb
  · subst h1
    by_cases h2 : ca.length = cb.length
    · have b2 : (ca.length != cb.length) = false := by simp [h2]
      have b2' : ((ca.length : Int) != (cb.length : Int)) = false := by simp [h2]
      have H2 := Aside0.mk h2
      clear h2
      by_cases h3 : ha.length = hb.length
      · have b3 : (ha.length != hb.length) = false := by simp [h3]
        have b3' : ((ha.length : Int) != (hb.length : Int)) = false := by simp [h3]
        have H3 := Aside0.mk h3
        clear h3
        go_enter Try.func67, Try.ntmps67
        go_wp2
        go_quiet (fail)
        clear b2 b3 b2' b3'
        go_wp2
        go_loopw [5] (fun i wr => ∃ (k q : Nat), k ≤ ca.length ∧ i = .int .i64 k ∧ Aside0 (∀ j, j < k → ca.getD j 0 = cb.getD j 0) ∧ wr = w.drewN q) (fun i _ => ca.length - (intOf i).toNat)
        case atStart => exact ⟨0, _, Nat.zero_le _, rfl, ⟨fun j hj => absurd hj (by omega)⟩, by first | rfl | (simp only [World.drewN_drewN]; rfl)⟩
        case round =>
          obtain ⟨k, q, hk, rfl, hbk, rfl⟩ := hrel
          by_cases hlt : k < ca.length
          · obtain ⟨ad, e, hx⟩ := at1 HR.out 0 k hlt
            cases e
            have hlt2 : k < cb.length := by rw [← H2.out]; exact hlt
            obtain ⟨bd, e, hy⟩ := at1 HR'.out 0 k hlt2
            cases e
            generalize hu : ca.getD k 0 = u at hx
            generalize hv : cb.getD k 0 = v at hy
            have HU := Aside0.mk hu
            have HV := Aside0.mk hv
            clear hu hv
            by_cases huv : u = v
            · subst huv
              go_wp2
              go_quiet (fail)
              go_wp2
              go_roundw
              case rel => exact ⟨k + 1, _, by omega, by go_num, ⟨fun j hj => by
                rcases Nat.lt_or_ge j k with h | h
                · exact hbk.out j h
                · obtain rfl : j = k := by omega
                  rw [HU.out, HV.out]⟩, rfl⟩
              case measure => simp [intOf]; omega
            · have hne : (u != v) = true := by simpa using huv
              have HNE := Aside0.mk huv
              clear huv
              go_wp2
              go_quiet (fail)
              go_wp2
              go_ret
              exact ⟨by rw [eqv_false (fun h => HNE.out (by rw [← HU.out, ← HV.out, (Prod.mk.inj (Prod.mk.inj h).2).1]))]; rfl, by repeat (first | exact Drawn0.refl _ | refine Drawn0.step ?_ _)⟩
          · have HC := Aside0.mk (eq_of_getD 0 H2.out (fun j hj => hbk.out j (by omega)))
            clear hbk
            go_wp2
            go_loopw [6] (fun i wr => ∃ (k q : Nat), k ≤ ha.length ∧ i = .int .i64 k ∧ Aside0 (∀ j, j < k → ha.getD j false = hb.getD j false) ∧ wr = w.drewN q) (fun i _ => ha.length - (intOf i).toNat)
            case atStart => exact ⟨0, _, Nat.zero_le _, rfl, ⟨fun j hj => absurd hj (by omega)⟩, by first | rfl | (simp only [World.drewN_drewN]; rfl)⟩
            case round =>
              obtain ⟨k, q, hk, rfl, hbk, rfl⟩ := hrel
              by_cases hlt : k < ha.length
              · obtain ⟨ad, e, hx⟩ := at1 HS.out false k hlt
                cases e
                have hlt2 : k < hb.length := by rw [← H3.out]; exact hlt
                obtain ⟨bd, e, hy⟩ := at1 HS'.out false k hlt2
                cases e
                generalize hu : ha.getD k false = u at hx
                generalize hv : hb.getD k false = v at hy
                have HU := Aside0.mk hu
                have HV := Aside0.mk hv
                clear hu hv
                by_cases huv : u = v
                · subst huv
                  go_wp2
                  go_quiet (fail)
                  go_wp2
                  go_roundw
                  case rel => exact ⟨k + 1, _, by omega, by go_num, ⟨fun j hj => by
                    rcases Nat.lt_or_ge j k with h | h
                    · exact hbk.out j h
                    · obtain rfl : j = k := by omega
                      rw [HU.out, HV.out]⟩, rfl⟩
                  case measure => simp [intOf]; omega
                · have hne : (u != v) = true := by simpa using huv
                  have hnf : (!u == v) = true := by revert hne; cases u <;> cases v <;> decide
                  have HNE := Aside0.mk huv
                  clear huv
                  go_wp2
                  go_quiet (fail)
                  go_wp2
                  go_ret
                  exact ⟨by rw [eqv_false (fun h => HNE.out (by rw [← HU.out, ← HV.out, (Prod.mk.inj (Prod.mk.inj h).2).2]))]; rfl, by repeat (first | exact Drawn0.refl _ | refine Drawn0.step ?_ _)⟩
              · have HD := Aside0.mk (eq_of_getD false H3.out (fun j hj => hbk.out j (by omega)))
                go_wp2
                go_ret
                exact ⟨by rw [eqv_true (by rw [HC.out, HD.out])]; rfl, by repeat (first | exact Drawn0.refl _ | refine Drawn0.step ?_ _)⟩
      · have b3 : (ha.length != hb.length) = true := by simp [h3]
        have b3' : ((ha.length : Int) != (hb.length : Int)) = true := by simp; omega
        have H3 := Aside0.mk h3
        clear h3
        go_enter Try.func67, Try.ntmps67
        go_wp2
        go_quiet (fail)
        go_wp2
        go_ret
        exact ⟨by rw [eqv_false (fun h => H3.out (by rw [(Prod.mk.inj (Prod.mk.inj h).2).2]))]; rfl, by repeat (first | exact Drawn0.refl _ | refine Drawn0.step ?_ _)⟩
    · have b2 : (ca.length != cb.length) = true := by simp [h2]
      have b2' : ((ca.length : Int) != (cb.length : Int)) = true := by simp; omega
      have H2 := Aside0.mk h2
      clear h2
      go_enter Try.func67, Try.ntmps67
      go_wp2
      go_quiet (fail)
      go_wp2
      go_ret
      exact ⟨by rw [eqv_false (fun h => H2.out (by rw [(Prod.mk.inj (Prod.mk.inj h).2).1]))]; rfl, by repeat (first | exact Drawn0.refl _ | refine Drawn0.step ?_ _)⟩
  · have b1 : (wa != wb) = true := by simpa using h1
    have H1 := Aside0.mk h1
    clear h1
    go_enter Try.func67, Try.ntmps67
    go_wp2
    go_quiet (fail)
    go_wp2
    go_ret
    exact ⟨by rw [eqv_false (fun h => H1.out (Prod.mk.inj h).1)]; rfl, by repeat (first | exact Drawn0.refl _ | refine Drawn0.step ?_ _)⟩

theorem specSameGrids_c (wa : Int) (A B : Option Addr) (c d : Nat) (ca : List Int) (ha : List Bool) (wb : Int) (A' B' : Option Addr) (c' d' : Nat) (cb : List Int) (hb : List Bool) (w : World)
    (hr : Kd.C (Kd.int .i64) w A ca.length ca) (hs : Kd.C Kd.bool w B ha.length ha) (hr' : Kd.C (Kd.int .i64) w A' cb.length cb) (hs' : Kd.C Kd.bool w B' hb.length hb) :
    Calls Try.prog 18 #[.agg #[.int .i64 wa, .slice A ca.length c, .slice B ha.length d], .agg #[.int .i64 wb, .slice A' cb.length c', .slice B' hb.length d']] w fun e w' => e = .returned (.bool (eqv (wa, ca, ha) (wb, cb, hb))) ∧ Below w.heap.size w w' := by
  have HR := Aside0.mk hr
  have HS := Aside0.mk hs
  have HR' := Aside0.mk hr'
  have HS' := Aside0.mk hs'
  clear hr hs hr' hs'
  go_enter Try.func18, Try.ntmps18
  go_wp2_with (go_at_call 67; refine Calls.mono (l14Same_c _ _ wa A B c d ca ha wb A' B' c' d' cb hb _ (by simp only [heap_alloc?, size_alloc]; repeat (first | rfl | rw [if_pos rfl] | rw [if_neg (by omega)])) (by simp only [heap_alloc?, size_alloc]; repeat (first | rfl | rw [if_pos rfl] | rw [if_neg (by omega)])) (by repeat (first | exact HR.out | refine Kd.C_alloc ?_ _ | refine Kd.C_drewN ?_ _)) (by repeat (first | exact HS.out | refine Kd.C_alloc ?_ _ | refine Kd.C_drewN ?_ _)) (by repeat (first | exact HR'.out | refine Kd.C_alloc ?_ _ | refine Kd.C_drewN ?_ _)) (by repeat (first | exact HS'.out | refine Kd.C_alloc ?_ _ | refine Kd.C_drewN ?_ _))) ?_; rintro e w' ⟨rfl, ⟨⟨q, rfl⟩⟩⟩)
  go_ret
  exact ⟨rfl, (by repeat (first | exact Below.refl _ _ | refine below_alloc ?_ _ | refine below_drew ?_ | refine pw_below_drewN ?_ _ | refine Below.setCell ?_ (by dsimp only; omega) _))⟩
end Go.Proofs.Ytpfponhaofdbaaa.M
