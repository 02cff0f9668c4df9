import Derived.Test.YtpfponhaofdbaaaFC
set_option linter.unusedVariables false
set_option linter.unusedSimpArgs false
namespace Go.Proofs.Ytpfponhaofdbaaa.M
open Go.RowKit Go.Proofs.YtpfponhaofdbaaaW.PrintWords
theorem below_updT {w w1 w2 : World} {g a b : Nat} (h : Below w.heap.size w w1) (k : TKeep w1 w2 g a b) (hg : w.heap.size ≤ g) (ha : w.heap.size ≤ a) (hb : w.heap.size ≤ b) : Below w.heap.size w w2 :=
  below_upd h k (fun i hi e => by rcases e with e | e | e <;> omega)

set_option maxRecDepth 100000 in
set_option maxHeartbeats 2000000 in
theorem specFeedTerm_c (wi ro y x : Int) (hi : Bool) (A : Option Addr) (c : Nat) (ch : List Int) (B : Option Addr) (d : Nat) (hs : List Bool) (Ad : Option Addr) (cd : Nat) (da : List Int) (w : World)
    (hr : Kd.C (Kd.int .i64) w A ch.length ch) (hr2 : Kd.C Kd.bool w B hs.length hs) (hrd : Kd.C (Kd.int .u8) w Ad da.length da) (hc : ch.length ≤ c) (hd : hs.length ≤ d) (hcd : da.length ≤ cd) (hbd : ∀ z ∈ da, 0 ≤ z ∧ z ≤ 255) :
    Calls Try.prog 56 #[.agg #[.int .i64 wi, .int .i64 ro, .int .i64 y, .int .i64 x, .bool hi, .slice A ch.length c, .slice B hs.length d], .slice Ad da.length cd] w fun e w' => ∃ (A' : Option Addr) (c' : Nat) (B' : Option Addr) (d' : Nat), e = .returned (.agg #[.int .i64 (feedTermP wi ro y x hi ch hs da).1, .int .i64 (feedTermP wi ro y x hi ch hs da).2.1, .int .i64 (feedTermP wi ro y x hi ch hs da).2.2.1, .int .i64 (feedTermP wi ro y x hi ch hs da).2.2.2.1, .int .i64 (feedTermP wi ro y x hi ch hs da).2.2.2.2.1, .bool (feedTermP wi ro y x hi ch hs da).2.2.2.2.2.1, .slice A' (feedTermP wi ro y x hi ch hs da).2.2.2.2.2.2.1.length c', .slice B' (feedTermP wi ro y x hi ch hs da).2.2.2.2.2.2.2.length d']) ∧ (feedTermP wi ro y x hi ch hs da).2.2.2.2.2.2.1.length ≤ c' ∧ Kd.R (Kd.int .i64) 2 w' w.heap.size (fun _ => True) (.slice A' (feedTermP wi ro y x hi ch hs da).2.2.2.2.2.2.1.length c') (feedTermP wi ro y x hi ch hs da).2.2.2.2.2.2.1 ∧ (feedTermP wi ro y x hi ch hs da).2.2.2.2.2.2.2.length ≤ d' ∧ Kd.R Kd.bool 4 w' w.heap.size (fun _ => True) (.slice B' (feedTermP wi ro y x hi ch hs da).2.2.2.2.2.2.2.length d') (feedTermP wi ro y x hi ch hs da).2.2.2.2.2.2.2 ∧ Below w.heap.size w w' := by
  have HR := Aside0.mk hr
  have HS := Aside0.mk hr2
  have HD := Aside0.mk hrd
  have HBD := Aside0.mk hbd
  have hm := Kd.C_max hr
  have hm2 := Kd.C_max hr2
  have hm3 := Kd.C_max hrd
  have HFAR := Aside0.mk (show ∀ ad, Ad = some ad → 0 < da.length → ad.block < w.heap.size from fun ad e hn => by subst e; exact C_ltU hrd hn)
  clear hr hr2 hrd hbd
  by_cases g : termFault wi ro y x ch hs = 0
  rotate_left
  · have HQ := Aside0.mk (show feedTermP wi ro y x hi ch hs da = (termFault wi ro y x ch hs, 0, 0, 0, 0, false, [], []) from if_neg g)
    have bf : (termFault wi ro y x ch hs != 0) = true := by simpa using g
    generalize hT : termFault wi ro y x ch hs = tf at g bf HQ
    have HT := Aside0.mk hT
    clear hT g
    go_enter Try.func56, Try.ntmps56
    go_wp2_with fail
    refine Calls.mono (l13Fault_c _ wi ro y x hi A B c d ch hs _ (by repeat (with_reducible first | exact blk_new _ | refine blk_new' _ (by simp only [size_alloc]) | refine blk_drewN ?_ _ | refine blk_drew ?_ | refine blk_alloc ?_ _)) (by repeat (with_reducible first | exact HR.out | refine Kd.C_alloc ?_ _ | refine Kd.C_drewN ?_ _ | refine Kd.C_drew ?_)) hm2) ?_
    rintro e w1 ⟨rfl, hd1⟩
    have hb1 := hd1.below
    clear hd1
    rw [HT.out]
    have HB1 := Aside0.mk hb1
    have NZ := blk_below (blk_new' (W := w.alloc (.cells #[.int .i64 wi, .int .i64 ro, .int .i64 y, .int .i64 x, .bool hi, .slice A ch.length c, .slice B hs.length d] 47)) (b := w.heap.size + 1) (.cells #[.int .i64 0, .int .i64 0, .int .i64 0, .int .i64 0, .int .i64 0, .bool false, .slice none 0 0, .slice none 0 0] 52) (by simp only [size_alloc])) hb1
    have rz := blk_cell NZ
    have fz := blk_free NZ
    clear hb1 NZ
    go_wp2
    refine bodyPost_ret (v := .agg #[.int .i64 tf, .int .i64 0, .int .i64 0, .int .i64 0, .int .i64 0, .bool false, .slice none 0 0, .slice none 0 0]) ?hs rfl ⟨none, 0, none, 0, ?_, ?_, ?_, ?_, ?_, ?hbl⟩
    (case hs => simp [results, Try.results56, go_sem, *])
    · rw [HQ.out]; rfl
    · rw [HQ.out]; exact Nat.le_refl _
    · rw [HQ.out]; exact Kd.R_nil _ _ _ _ _
    · rw [HQ.out]; exact Nat.le_refl _
    · rw [HQ.out]; exact Kd.R_nil _ _ _ _ _
    case hbl => exact (by repeat (with_reducible first | exact Below.refl _ _ | refine below_alloc ?_ _ | refine below_drew ?_ | refine pw_below_drewN ?_ _ | refine Below.setCell ?_ (by dsimp only; omega) _ | refine below_end ?_ HB1.out ))
  have ff := termFault_form g
  have hTI := Aside0.mk (TI_of_fault (hi := hi) g)
  have fl := ff.2.2.2.2.2.2.2
  have fl2 : hs.length ≤ 520 := by have := ff.2.2.2.2.2.1; omega
  have lc0 : 0 < ch.length := by have := hTI.out.at.2.2.1; have := hTI.out.at.1; have := hTI.out.w1; dsimp only at *; omega
  have lh0 : 0 < hs.length := by have := hTI.out.lh; dsimp only at *; omega
  clear ff
  have HG := Aside0.mk g
  by_cases g2 : 8000 < da.length
  · have HQ := Aside0.mk (show feedTermP wi ro y x hi ch hs da = (2, 0, 0, 0, 0, false, [], []) from (if_pos g).trans (if_pos g2))
    have g2' : (da.length : Int) > 8000 := by omega
    clear g g2
    go_enter Try.func56, Try.ntmps56
    go_wp2_with fail
    refine Calls.mono (l13Fault_c _ wi ro y x hi A B c d ch hs _ (by repeat (with_reducible first | exact blk_new _ | refine blk_new' _ (by simp only [size_alloc]) | refine blk_drewN ?_ _ | refine blk_drew ?_ | refine blk_alloc ?_ _)) (by repeat (with_reducible first | exact HR.out | refine Kd.C_alloc ?_ _ | refine Kd.C_drewN ?_ _ | refine Kd.C_drew ?_)) hm2) ?_
    rintro e w1 ⟨rfl, hd1⟩
    have hb1 := hd1.below
    clear hd1
    rw [HG.out]
    have HB1 := Aside0.mk hb1
    have NZ := blk_below (blk_new' (W := w.alloc (.cells #[.int .i64 wi, .int .i64 ro, .int .i64 y, .int .i64 x, .bool hi, .slice A ch.length c, .slice B hs.length d] 47)) (b := w.heap.size + 1) (.cells #[.int .i64 0, .int .i64 0, .int .i64 0, .int .i64 0, .int .i64 0, .bool false, .slice none 0 0, .slice none 0 0] 52) (by simp only [size_alloc])) hb1
    have rz := blk_cell NZ
    have fz := blk_free NZ
    clear hb1 NZ
    go_wp2
    refine bodyPost_ret (v := .agg #[.int .i64 2, .int .i64 0, .int .i64 0, .int .i64 0, .int .i64 0, .bool false, .slice none 0 0, .slice none 0 0]) ?hs rfl ⟨none, 0, none, 0, ?_, ?_, ?_, ?_, ?_, ?hbl⟩
    (case hs => simp [results, Try.results56, go_sem, *])
    · rw [HQ.out]; rfl
    · rw [HQ.out]; exact Nat.le_refl _
    · rw [HQ.out]; exact Kd.R_nil _ _ _ _ _
    · rw [HQ.out]; exact Nat.le_refl _
    · rw [HQ.out]; exact Kd.R_nil _ _ _ _ _
    case hbl => exact (by repeat (with_reducible first | exact Below.refl _ _ | refine below_alloc ?_ _ | refine below_drew ?_ | refine pw_below_drewN ?_ _ | refine Below.setCell ?_ (by dsimp only; omega) _ | refine below_end ?_ HB1.out ))
  have g2' : ¬ (da.length : Int) > 8000 := by omega
  have hl8 : da.length ≤ 8000 := by omega
  have HP := Aside0.mk (show feedTermP wi ro y x hi ch hs da = (match feedAll da ⟨wi, ro, y, x, hi, ch, hs⟩ with | none => (5, 0, 0, 0, 0, false, [], []) | some t => (0, t.wi, t.ro, t.y, t.x, t.hi, t.ch, t.hs)) from (if_pos g).trans (if_neg g2))
  have hinv := feedAll_inv _ da ⟨wi, ro, y, x, hi, ch, hs⟩ rfl hTI.out
  clear g g2
  generalize hfe : feedAll da ⟨wi, ro, y, x, hi, ch, hs⟩ = fr at HP hinv
  have HFE := Aside0.mk hfe
  clear hfe
  cases fr with
  | none =>
    have HQ := Aside0.mk (show feedTermP wi ro y x hi ch hs da = (5, 0, 0, 0, 0, false, [], []) from HP.out)
    clear hinv
    go_enter Try.func56, Try.ntmps56
    go_wp2_with fail
    refine Calls.mono (l13Fault_c _ wi ro y x hi A B c d ch hs _ (by repeat (with_reducible first | exact blk_new _ | refine blk_new' _ (by simp only [size_alloc]) | refine blk_drewN ?_ _ | refine blk_drew ?_ | refine blk_alloc ?_ _)) (by repeat (with_reducible first | exact HR.out | refine Kd.C_alloc ?_ _ | refine Kd.C_drewN ?_ _ | refine Kd.C_drew ?_)) hm2) ?_
    rintro e w1 ⟨rfl, hd1⟩
    have hb1 := hd1.below
    clear hd1
    rw [HG.out]
    have HB1 := Aside0.mk hb1
    have sz1 := hb1.size
    simp only [size_alloc] at sz1
    have NX := blk_below (blk_alloc (blk_new (W := w) (.cells #[.int .i64 wi, .int .i64 ro, .int .i64 y, .int .i64 x, .bool hi, .slice A ch.length c, .slice B hs.length d] 47)) (.cells #[.int .i64 0, .int .i64 0, .int .i64 0, .int .i64 0, .int .i64 0, .bool false, .slice none 0 0, .slice none 0 0] 52)) hb1
    have NZ := blk_below (blk_new' (W := w.alloc (.cells #[.int .i64 wi, .int .i64 ro, .int .i64 y, .int .i64 x, .bool hi, .slice A ch.length c, .slice B hs.length d] 47)) (b := w.heap.size + 1) (.cells #[.int .i64 0, .int .i64 0, .int .i64 0, .int .i64 0, .int .i64 0, .bool false, .slice none 0 0, .slice none 0 0] 52) (by simp only [size_alloc])) hb1
    have NX1 := Aside0.mk NX
    have NZ1 := Aside0.mk NZ
    have rx := blk_cell NX
    have l1 : w.heap.size < w1.heap.size := by omega
    clear hb1 NX NZ
    go_wp2_with fail
    refine Calls.mono (l13Copy_c wi ro y x hi A c ch B d hs w1 (by repeat (with_reducible first | exact HR.out | refine Kd.C_below ?_ HB1.out | refine Kd.C_alloc ?_ _ | refine Kd.C_drewN ?_ _ | refine Kd.C_drew ?_)) (by repeat (with_reducible first | exact HS.out | refine Kd.C_below ?_ HB1.out | refine Kd.C_alloc ?_ _ | refine Kd.C_drewN ?_ _ | refine Kd.C_drew ?_)) (by omega) (by omega)) ?_
    rintro e w2 ⟨A1, c', B1, d', rfl, hc1, hR1, hd1, hR2, hb2⟩
    obtain ⟨a, ca, e1, ha1, ha2, _⟩ := Kd.R_form hR1 lc0
    obtain ⟨b, cb, e2, hb3, hb4, _⟩ := Kd.R_form hR2 lh0
    injection e1 with e1 _ e1'
    injection e2 with e2 _ e2'
    subst e1 e2 e1' e2'
    have HB2 := Aside0.mk hb2
    have sz2 := hb2.size
    have NZ2 := Aside0.mk (blk_below NZ1.out hb2)
    have HTA := Aside0.mk (show TAt (w2.alloc (.cells #[.int .i64 wi, .int .i64 ro, .int .i64 y, .int .i64 x, .bool hi, .slice (some ⟨a, 0, none⟩) ch.length c', .slice (some ⟨b, 0, none⟩) hs.length d'] 47)) w2.heap.size a b c' d' w1.heap.size ⟨wi, ro, y, x, hi, ch, hs⟩ from ⟨blk_new _, Kd.R_alloc hR1 _, Kd.R_alloc hR2 _⟩)
    clear hR1 hR2 hc1 hd1 hb2 rx
    go_wp2_with fail
    refine Calls.mono (l13Feed_c w2.heap.size a b c' d' w1.heap.size ⟨wi, ro, y, x, hi, ch, hs⟩ Ad cd da _ HTA.out hTI.out (by repeat (with_reducible first | exact HD.out | refine Kd.C_below ?_ HB2.out | refine Kd.C_below ?_ HB1.out | refine Kd.C_alloc ?_ _ | refine Kd.C_drewN ?_ _ | refine Kd.C_drew ?_)) (by omega) HBD.out (fun ad e hn => by have := HFAR.out ad e hn; exact ⟨by omega, by omega, by omega⟩)) ?_
    rintro e w3 ⟨rfl, hu, s', ht, hte, _⟩
    rw [HFE.out]
    have HU := Aside0.mk hu
    have sz3 := hu.size
    simp only [size_alloc] at sz3
    have NZ3 := blk_upd (blk_alloc NZ2.out _) hu (by rintro (h | h | h) <;> omega)
    have rz := blk_cell NZ3
    have fz := blk_free NZ3
    clear hu NZ3
    go_wp2
    refine bodyPost_ret (v := .agg #[.int .i64 5, .int .i64 0, .int .i64 0, .int .i64 0, .int .i64 0, .bool false, .slice none 0 0, .slice none 0 0]) ?hs rfl ⟨none, 0, none, 0, ?_, ?_, ?_, ?_, ?_, ?hbl⟩
    (case hs => simp [results, Try.results56, go_sem, *])
    · rw [HQ.out]; rfl
    · rw [HQ.out]; exact Nat.le_refl _
    · rw [HQ.out]; exact Kd.R_nil _ _ _ _ _
    · rw [HQ.out]; exact Nat.le_refl _
    · rw [HQ.out]; exact Kd.R_nil _ _ _ _ _
    case hbl => exact (by repeat (with_reducible first | exact Below.refl _ _ | refine below_alloc ?_ _ | refine Below.setCell ?_ (by dsimp only; omega) _ | refine below_updT ?_ HU.out (by omega) (by omega) (by omega) | refine below_end ?_ HB2.out | refine below_end ?_ HB1.out))
  | some t =>
    have HQ := Aside0.mk (show feedTermP wi ro y x hi ch hs da = (0, t.wi, t.ro, t.y, t.x, t.hi, t.ch, t.hs) from HP.out)
    have htl := (hinv t rfl).len
    clear hinv
    go_enter Try.func56, Try.ntmps56
    go_wp2_with fail
    refine Calls.mono (l13Fault_c _ wi ro y x hi A B c d ch hs _ (by repeat (with_reducible first | exact blk_new _ | refine blk_new' _ (by simp only [size_alloc]) | refine blk_drewN ?_ _ | refine blk_drew ?_ | refine blk_alloc ?_ _)) (by repeat (with_reducible first | exact HR.out | refine Kd.C_alloc ?_ _ | refine Kd.C_drewN ?_ _ | refine Kd.C_drew ?_)) hm2) ?_
    rintro e w1 ⟨rfl, hd1⟩
    have hb1 := hd1.below
    clear hd1
    rw [HG.out]
    have HB1 := Aside0.mk hb1
    have sz1 := hb1.size
    simp only [size_alloc] at sz1
    have NX := blk_below (blk_alloc (blk_new (W := w) (.cells #[.int .i64 wi, .int .i64 ro, .int .i64 y, .int .i64 x, .bool hi, .slice A ch.length c, .slice B hs.length d] 47)) (.cells #[.int .i64 0, .int .i64 0, .int .i64 0, .int .i64 0, .int .i64 0, .bool false, .slice none 0 0, .slice none 0 0] 52)) hb1
    have NZ := blk_below (blk_new' (W := w.alloc (.cells #[.int .i64 wi, .int .i64 ro, .int .i64 y, .int .i64 x, .bool hi, .slice A ch.length c, .slice B hs.length d] 47)) (b := w.heap.size + 1) (.cells #[.int .i64 0, .int .i64 0, .int .i64 0, .int .i64 0, .int .i64 0, .bool false, .slice none 0 0, .slice none 0 0] 52) (by simp only [size_alloc])) hb1
    have NX1 := Aside0.mk NX
    have NZ1 := Aside0.mk NZ
    have rx := blk_cell NX
    have l1 : w.heap.size < w1.heap.size := by omega
    clear hb1 NX NZ
    go_wp2_with fail
    refine Calls.mono (l13Copy_c wi ro y x hi A c ch B d hs w1 (by repeat (with_reducible first | exact HR.out | refine Kd.C_below ?_ HB1.out | refine Kd.C_alloc ?_ _ | refine Kd.C_drewN ?_ _ | refine Kd.C_drew ?_)) (by repeat (with_reducible first | exact HS.out | refine Kd.C_below ?_ HB1.out | refine Kd.C_alloc ?_ _ | refine Kd.C_drewN ?_ _ | refine Kd.C_drew ?_)) (by omega) (by omega)) ?_
    rintro e w2 ⟨A1, c', B1, d', rfl, hc1, hR1, hd1, hR2, hb2⟩
    obtain ⟨a, ca, e1, ha1, ha2, _⟩ := Kd.R_form hR1 lc0
    obtain ⟨b, cb, e2, hb3, hb4, _⟩ := Kd.R_form hR2 lh0
    injection e1 with e1 _ e1'
    injection e2 with e2 _ e2'
    subst e1 e2 e1' e2'
    have HB2 := Aside0.mk hb2
    have sz2 := hb2.size
    have NZ2 := Aside0.mk (blk_below NZ1.out hb2)
    have HTA := Aside0.mk (show TAt (w2.alloc (.cells #[.int .i64 wi, .int .i64 ro, .int .i64 y, .int .i64 x, .bool hi, .slice (some ⟨a, 0, none⟩) ch.length c', .slice (some ⟨b, 0, none⟩) hs.length d'] 47)) w2.heap.size a b c' d' w1.heap.size ⟨wi, ro, y, x, hi, ch, hs⟩ from ⟨blk_new _, Kd.R_alloc hR1 _, Kd.R_alloc hR2 _⟩)
    clear hR1 hR2 hc1 hd1 hb2 rx
    go_wp2_with fail
    refine Calls.mono (l13Feed_c w2.heap.size a b c' d' w1.heap.size ⟨wi, ro, y, x, hi, ch, hs⟩ Ad cd da _ HTA.out hTI.out (by repeat (with_reducible first | exact HD.out | refine Kd.C_below ?_ HB2.out | refine Kd.C_below ?_ HB1.out | refine Kd.C_alloc ?_ _ | refine Kd.C_drewN ?_ _ | refine Kd.C_drew ?_)) (by omega) HBD.out (fun ad e hn => by have := HFAR.out ad e hn; exact ⟨by omega, by omega, by omega⟩)) ?_
    rintro e w3 ⟨rfl, hu, s', ht, hte, _⟩
    rw [HFE.out]
    have HU := Aside0.mk hu
    have sz3 := hu.size
    simp only [size_alloc] at sz3
    have NZ3 := blk_upd (blk_alloc NZ2.out _) hu (by rintro (h | h | h) <;> omega)
    have rz := blk_cell NZ3
    have fz := blk_free NZ3
    obtain rfl : t = s' := hte t HFE.out
    have rt := blk_cell ht.1
    have HT := Aside0.mk ht
    clear hu NZ3 ht hte
    go_wp2
    refine bodyPost_ret (v := .agg #[.int .i64 0, .int .i64 t.wi, .int .i64 t.ro, .int .i64 t.y, .int .i64 t.x, .bool t.hi, .slice (some ⟨a, 0, none⟩) t.ch.length c', .slice (some ⟨b, 0, none⟩) t.hs.length d']) ?hs rfl ⟨some ⟨a, 0, none⟩, c', some ⟨b, 0, none⟩, d', ?_, ?_, ?_, ?_, ?_, ?hbl⟩
    case hs => simp [results, Try.results56, go_sem, *]
    case hbl => exact (by repeat (with_reducible first | exact Below.refl _ _ | refine below_alloc ?_ _ | refine Below.setCell ?_ (by dsimp only; omega) _ | refine below_updT ?_ HU.out (by omega) (by omega) (by omega) | refine below_end ?_ HB2.out | refine below_end ?_ HB1.out))
    · rw [HQ.out]
    · rw [HQ.out]; exact (Kd.R_reads' HT.out.2.1).2.1
    · rw [HQ.out]
      refine R_lowI (base := w1.heap.size) _ ?_ (by omega)
      (repeat (with_reducible first | refine R_setI ?_ (by omega)))
      exact HT.out.2.1
    · rw [HQ.out]; exact (Kd.R_reads' HT.out.2.2).2.1
    · rw [HQ.out]
      refine R_lowB (base := w1.heap.size) _ ?_ (by omega)
      (repeat (with_reducible first | refine R_setB ?_ (by omega)))
      exact HT.out.2.2
end Go.Proofs.Ytpfponhaofdbaaa.M
