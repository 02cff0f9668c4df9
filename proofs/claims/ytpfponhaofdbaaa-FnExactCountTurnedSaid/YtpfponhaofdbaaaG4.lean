import Derived.Test.YtpfponhaofdbaaaG3
set_option linter.unusedVariables false
set_option linter.unusedSimpArgs false
namespace Go.Proofs.Ytpfponhaofdbaaa.M
open Go.RowKit Go.Proofs.YtpfponhaofdbaaaW.PrintWords

theorem isSame_c (wa : Int) (A : Option Addr) (c : Nat) (ca : List Int) (B : Option Addr) (d : Nat) (ha : List Bool) (wb : Int) (A' : Option Addr) (c' : Nat) (cb : List Int) (B' : Option Addr) (d' : Nat) (hb : List Bool) (k : Nat) (w : World)
    (hr : Kd.C (Kd.int .i64) w A ca.length ca) (hs : Kd.C Kd.bool w B ha.length ha) (hr' : Kd.C (Kd.int .i64) w A' cb.length cb) (hs' : Kd.C Kd.bool w B' hb.length hb) (h1 : k < ca.length) (h2 : k < ha.length) (h3 : k < cb.length) (h4 : k < hb.length) :
    Calls Try.prog 88 #[.agg #[.int .i64 wa, .slice A ca.length c, .slice B ha.length d], .agg #[.int .i64 wb, .slice A' cb.length c', .slice B' hb.length d'], .int .i64 k] w fun e w' => e = .returned (.bool (sameAt ca ha cb hb k)) ∧ Below w.heap.size w w' := by
  have HR := Aside0.mk hr
  have HS := Aside0.mk hs
  have HR' := Aside0.mk hr'
  have HS' := Aside0.mk hs'
  have hm1 := Kd.C_max hr
  have hm2 := Kd.C_max hr'
  have hm3 := Kd.C_max hs
  have hm4 := Kd.C_max hs'
  clear hr hs hr' hs'
  obtain ⟨a1, e, x1⟩ := at1 HR.out 0 k h1
  cases e
  obtain ⟨a2, e, x2⟩ := at1 HS.out false k h2
  cases e
  obtain ⟨a3, e, x3⟩ := at1 HR'.out 0 k h3
  cases e
  obtain ⟨a4, e, x4⟩ := at1 HS'.out false k h4
  cases e
  have l1 := World.block_lt_of_cell? w _ x1
  have l2 := World.block_lt_of_cell? w _ x2
  have l3 := World.block_lt_of_cell? w _ x3
  have l4 := World.block_lt_of_cell? w _ x4
  have l1' := Nat.lt_succ_of_lt l1
  have l2' := Nat.lt_succ_of_lt l2
  have l3' := Nat.lt_succ_of_lt l3
  have l4' := Nat.lt_succ_of_lt l4
  have HF := Aside0.mk (show sameAt ca ha cb hb k = ((ca.getD k 0 == cb.getD k 0) && (ha.getD k false == hb.getD k false)) from rfl)
  generalize ca.getD k 0 = y1 at x1 HF
  generalize ha.getD k false = y2 at x2 HF
  generalize cb.getD k 0 = y3 at x3 HF
  generalize hb.getD k false = y4 at x4 HF
  cases e1 : (y1 == y3)
  · go_enter Try.func88, Try.ntmps88
    go_wp2
    go_quiet (fail)
    go_wp2
    go_ret
    exact ⟨by rw [HF.out, e1]; rfl, (by repeat (first | exact Below.refl _ _ | refine below_alloc ?_ _ | refine below_drew ?_ | refine pw_below_drewN ?_ _))⟩
  · go_enter Try.func88, Try.ntmps88
    go_wp2
    go_quiet (fail)
    go_wp2
    go_ret
    exact ⟨by rw [HF.out, e1]; rfl, (by repeat (first | exact Below.refl _ _ | refine below_alloc ?_ _ | refine below_drew ?_ | refine pw_below_drewN ?_ _))⟩

theorem l14At_c (g g' : Nat) (wa : Int) (A : Option Addr) (c : Nat) (ca : List Int) (B : Option Addr) (d : Nat) (ha : List Bool) (wb : Int) (A' : Option Addr) (c' : Nat) (cb : List Int) (B' : Option Addr) (d' : Nat) (hb : List Bool) (k : Nat) (w : World)
    (hg : w.heap[g]? = some (.cells #[.int .i64 wa, .slice A ca.length c, .slice B ha.length d] 33 (0, 0))) (hg' : w.heap[g']? = some (.cells #[.int .i64 wb, .slice A' cb.length c', .slice B' hb.length d'] 33 (0, 0)))
    (hr : Kd.C (Kd.int .i64) w A ca.length ca) (hs : Kd.C Kd.bool w B ha.length ha) (hr' : Kd.C (Kd.int .i64) w A' cb.length cb) (hs' : Kd.C Kd.bool w B' hb.length hb) (h1 : k < ca.length) (h2 : k < ha.length) (h3 : k < cb.length) (h4 : k < hb.length) :
    Calls Try.prog 86 #[.pointer (some ⟨g, 0, none⟩), .pointer (some ⟨g', 0, none⟩), .int .i64 k] w fun e w' => e = .returned (.bool (sameAt ca ha cb hb k)) ∧ Drawn0 w w' := by
  have HR := Aside0.mk hr
  have HS := Aside0.mk hs
  have HR' := Aside0.mk hr'
  have HS' := Aside0.mk hs'
  have hm1 := Kd.C_max hr
  have hm2 := Kd.C_max hr'
  have hm3 := Kd.C_max hs
  have hm4 := Kd.C_max hs'
  have rd := blk_cell hg
  have rd' := blk_cell hg'
  clear hr hs hr' hs' hg hg'
  obtain ⟨a1, e, x1⟩ := at1 HR.out 0 k h1
  cases e
  obtain ⟨a2, e, x2⟩ := at1 HS.out false k h2
  cases e
  obtain ⟨a3, e, x3⟩ := at1 HR'.out 0 k h3
  cases e
  obtain ⟨a4, e, x4⟩ := at1 HS'.out false k h4
  cases e
  have HF := Aside0.mk (show sameAt ca ha cb hb k = ((ca.getD k 0 == cb.getD k 0) && (ha.getD k false == hb.getD k false)) from rfl)
  generalize ca.getD k 0 = y1 at x1 HF
  generalize ha.getD k false = y2 at x2 HF
  generalize cb.getD k 0 = y3 at x3 HF
  generalize hb.getD k false = y4 at x4 HF
  cases e1 : (y1 == y3)
  · go_enter Try.func86, Try.ntmps86
    go_wp2
    go_quiet (fail)
    go_wp2
    go_ret
    exact ⟨by rw [HF.out, e1]; rfl, by repeat (first | exact Drawn0.refl _ | refine Drawn0.step ?_ _)⟩
  · go_enter Try.func86, Try.ntmps86
    go_wp2
    go_quiet (fail)
    go_wp2
    go_ret
    exact ⟨by rw [HF.out, e1]; rfl, by repeat (first | exact Drawn0.refl _ | refine Drawn0.step ?_ _)⟩

theorem l14Asked_c (g g' : Nat) (wa : Int) (A : Option Addr) (c : Nat) (ca : List Int) (B : Option Addr) (d : Nat) (ha : List Bool) (wb : Int) (A' : Option Addr) (c' : Nat) (cb : List Int) (B' : Option Addr) (d' : Nat) (hb : List Bool) (w : World)
    (hg : w.heap[g]? = some (.cells #[.int .i64 wa, .slice A ca.length c, .slice B ha.length d] 33 (0, 0))) (hg' : w.heap[g']? = some (.cells #[.int .i64 wb, .slice A' cb.length c', .slice B' hb.length d'] 33 (0, 0)))
    (hr : Kd.C (Kd.int .i64) w A ca.length ca) (hs : Kd.C Kd.bool w B ha.length ha) (hr' : Kd.C (Kd.int .i64) w A' cb.length cb) (hs' : Kd.C Kd.bool w B' hb.length hb) :
    Calls Try.prog 85 #[.pointer (some ⟨g, 0, none⟩), .pointer (some ⟨g', 0, none⟩)] w fun e w' => e = .returned (.int .i64 (gridsCode wa ca ha wb cb hb)) ∧ Drawn0 w w' := by
  have HR := Aside0.mk hr
  have HS := Aside0.mk hs
  have HR' := Aside0.mk hr'
  have HS' := Aside0.mk hs'
  have HG := Aside0.mk hg
  have HG' := Aside0.mk hg'
  have rd := blk_cell hg
  have rd' := blk_cell hg'
  have hm1 := Kd.C_max hr
  have hm2 := Kd.C_max hr'
  clear hr hs hr' hs' hg hg'
  by_cases g1 : gridFault wa ca ha = 0
  · have b1 : (gridFault wa ca ha != 0) = false := by simpa using g1
    have H1 := Aside0.mk g1
    clear g1
    by_cases g2 : gridFault wb cb hb = 0
    · have b2 : (gridFault wb cb hb != 0) = false := by simpa using g2
      have H2 := Aside0.mk g2
      clear g2
      have F1 := gridFault_form H1.out
      have F2 := gridFault_form H2.out
      cases e1 : (wa != wb)
      · cases e2 : (ca.length != cb.length)
        all_goals
          go_enter Try.func85, Try.ntmps85
          go_wp2_with fail
          refine Calls.mono (l11Grid_c g wa A c ca B d ha _ HG.out HR.out HS.out) ?_
          rintro e w1 ⟨rfl, ⟨⟨q1, rfl⟩⟩⟩
          go_wp2_with fail
          refine Calls.mono (l11Grid_c g' wb A' c' cb B' d' hb _ HG'.out (by repeat (first | exact HR'.out | refine Kd.C_alloc ?_ _ | refine Kd.C_drewN ?_ _)) (by repeat (first | exact HS'.out | refine Kd.C_alloc ?_ _ | refine Kd.C_drewN ?_ _))) ?_
          rintro e w2 ⟨rfl, ⟨⟨q2, rfl⟩⟩⟩
          go_wp2
          have e2' : ((ca.length : Int) != (cb.length : Int)) = (ca.length != cb.length) := by rw [Bool.eq_iff_iff]; simp; omega
          rw [e2] at e2'
          go_quiet (fail)
          go_wp2
          go_ret
          exact ⟨by have := H1.out; have := H2.out; simp_all [gridsCode], by repeat (first | exact Drawn0.refl _ | refine Drawn0.step ?_ _)⟩
      · go_enter Try.func85, Try.ntmps85
        go_wp2_with fail
        refine Calls.mono (l11Grid_c g wa A c ca B d ha _ HG.out HR.out HS.out) ?_
        rintro e w1 ⟨rfl, ⟨⟨q1, rfl⟩⟩⟩
        go_wp2_with fail
        refine Calls.mono (l11Grid_c g' wb A' c' cb B' d' hb _ HG'.out (by repeat (first | exact HR'.out | refine Kd.C_alloc ?_ _ | refine Kd.C_drewN ?_ _)) (by repeat (first | exact HS'.out | refine Kd.C_alloc ?_ _ | refine Kd.C_drewN ?_ _))) ?_
        rintro e w2 ⟨rfl, ⟨⟨q2, rfl⟩⟩⟩
        go_wp2
        go_quiet (fail)
        go_wp2
        go_ret
        exact ⟨by have := H1.out; have := H2.out; simp_all [gridsCode], by repeat (first | exact Drawn0.refl _ | refine Drawn0.step ?_ _)⟩
    · have b2 : (gridFault wb cb hb != 0) = true := by simpa using g2
      have H1 := H1
      have H2 := Aside0.mk g2
      clear g2
      go_enter Try.func85, Try.ntmps85
      go_wp2_with fail
      refine Calls.mono (l11Grid_c g wa A c ca B d ha _ HG.out HR.out HS.out) ?_
      rintro e w1 ⟨rfl, ⟨⟨q1, rfl⟩⟩⟩
      go_wp2_with fail
      refine Calls.mono (l11Grid_c g' wb A' c' cb B' d' hb _ HG'.out (by repeat (first | exact HR'.out | refine Kd.C_alloc ?_ _ | refine Kd.C_drewN ?_ _)) (by repeat (first | exact HS'.out | refine Kd.C_alloc ?_ _ | refine Kd.C_drewN ?_ _))) ?_
      rintro e w2 ⟨rfl, ⟨⟨q2, rfl⟩⟩⟩
      go_wp2
      go_ret
      exact ⟨by have := H1.out; have := H2.out; simp_all [gridsCode], by repeat (first | exact Drawn0.refl _ | refine Drawn0.step ?_ _)⟩
  · have b1 : (gridFault wa ca ha != 0) = true := by simpa using g1
    have H1 := Aside0.mk g1
    have H2 := H1
    clear g1
    go_enter Try.func85, Try.ntmps85
    go_wp2_with fail
    refine Calls.mono (l11Grid_c g wa A c ca B d ha _ HG.out HR.out HS.out) ?_
    rintro e w1 ⟨rfl, ⟨⟨q1, rfl⟩⟩⟩
    go_wp2
    go_ret
    exact ⟨by have := H1.out; have := H2.out; simp_all [gridsCode], by repeat (first | exact Drawn0.refl _ | refine Drawn0.step ?_ _)⟩
end Go.Proofs.Ytpfponhaofdbaaa.M
