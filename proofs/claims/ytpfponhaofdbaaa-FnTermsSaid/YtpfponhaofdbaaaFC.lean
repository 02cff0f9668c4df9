import Derived.Test.YtpfponhaofdbaaaFB
set_option linter.unusedVariables false
set_option linter.unusedSimpArgs false
namespace Go.Proofs.Ytpfponhaofdbaaa.M
open Go.RowKit Go.Proofs.YtpfponhaofdbaaaW.PrintWords
theorem below_updG {w w1 w2 : World} {g : Nat} (h : Below w.heap.size w w1) (k : Upd w1 w2 (fun k => k = g)) (hg : w.heap.size ≤ g) : Below w.heap.size w w2 :=
  below_upd h k (fun i hi e => by omega)

set_option maxRecDepth 100000 in
set_option maxHeartbeats 2000000 in
theorem FeedTerm_c (wi ro y x : Int) (hi : Bool) (A : Option Addr) (c : Nat) (ch : List Int) (B : Option Addr) (d : Nat) (hs : List Bool) (Ad : Option Addr) (cd : Nat) (da : List Int) (w : World)
    (hr : Kd.C (Kd.int .i64) w A ch.length ch) (hr2 : Kd.C Kd.bool w B hs.length hs) (hrd : Kd.C (Kd.int .u8) w Ad da.length da) (hc : ch.length ≤ c) (hd : hs.length ≤ d) (hcd : da.length ≤ cd) (hbd : ∀ z ∈ da, 0 ≤ z ∧ z ≤ 255) :
    Calls Try.prog 57 #[.agg #[.int .i64 wi, .int .i64 ro, .int .i64 y, .int .i64 x, .bool hi, .slice A ch.length c, .slice B hs.length d], .slice Ad da.length cd] w fun e w' => ∃ (A' : Option Addr) (c' : Nat) (B' : Option Addr) (d' : Nat), e = .returned (.agg #[.int .i64 (feedTermP wi ro y x hi ch hs da).1, .int .i64 (feedTermP wi ro y x hi ch hs da).2.1, .int .i64 (feedTermP wi ro y x hi ch hs da).2.2.1, .int .i64 (feedTermP wi ro y x hi ch hs da).2.2.2.1, .int .i64 (feedTermP wi ro y x hi ch hs da).2.2.2.2.1, .bool (feedTermP wi ro y x hi ch hs da).2.2.2.2.2.1, .slice A' (feedTermP wi ro y x hi ch hs da).2.2.2.2.2.2.1.length c', .slice B' (feedTermP wi ro y x hi ch hs da).2.2.2.2.2.2.2.length d']) ∧ (feedTermP wi ro y x hi ch hs da).2.2.2.2.2.2.1.length ≤ c' ∧ Kd.R (Kd.int .i64) 2 w' w.heap.size (fun _ => True) (.slice A' (feedTermP wi ro y x hi ch hs da).2.2.2.2.2.2.1.length c') (feedTermP wi ro y x hi ch hs da).2.2.2.2.2.2.1 ∧ (feedTermP wi ro y x hi ch hs da).2.2.2.2.2.2.2.length ≤ d' ∧ Kd.R Kd.bool 4 w' w.heap.size (fun _ => True) (.slice B' (feedTermP wi ro y x hi ch hs da).2.2.2.2.2.2.2.length d') (feedTermP wi ro y x hi ch hs da).2.2.2.2.2.2.2 ∧ Below w.heap.size w w' := by
  have HR := Aside0.mk hr
  have HS := Aside0.mk hr2
  have HD := Aside0.mk hrd
  have HBD := Aside0.mk hbd
  have hm := Kd.C_max hr
  have hm2 := Kd.C_max hr2
  have hm3 := Kd.C_max hrd
  have HFAR := Aside0.mk (show ∀ ad, Ad = some ad → 0 < da.length → ad.block < w.heap.size from fun ad e hn => by subst e; exact C_ltU hrd hn)
  clear hr hr2 hrd hbd
  by_cases g : termFault wi ro y x ch hs = 0
  rotate_left
  · have HQ := Aside0.mk (show feedTermP wi ro y x hi ch hs da = (termFault wi ro y x ch hs, 0, 0, 0, 0, false, [], []) from if_neg g)
    have bf : (termFault wi ro y x ch hs != 0) = true := by simpa using g
    generalize hT : termFault wi ro y x ch hs = tf at g bf HQ
    have HT := Aside0.mk hT
    clear hT g
    go_enter Try.func57, Try.ntmps57
    go_wp2_with fail
    refine Calls.mono (TermFault_c wi ro y x hi A B c d ch hs _ (by repeat (with_reducible first | exact HR.out | refine Kd.C_alloc ?_ _ | refine Kd.C_drewN ?_ _ | refine Kd.C_drew ?_)) hc hm2) ?_
    rintro e w1 ⟨rfl, hb1⟩
    rw [HT.out]
    have HB1 := Aside0.mk hb1
    have NZ := blk_below (blk_new' (W := w.alloc (.cells #[.int .i64 wi, .int .i64 ro, .int .i64 y, .int .i64 x, .bool hi, .slice A ch.length c, .slice B hs.length d] 47)) (b := w.heap.size + 1) (.cells #[.int .i64 0, .int .i64 0, .int .i64 0, .int .i64 0, .int .i64 0, .bool false, .slice none 0 0, .slice none 0 0] 52) (by simp only [size_alloc])) hb1
    have rz := blk_cell NZ
    have fz := blk_free NZ
    clear hb1 NZ
    go_wp2
    refine bodyPost_ret (v := .agg #[.int .i64 tf, .int .i64 0, .int .i64 0, .int .i64 0, .int .i64 0, .bool false, .slice none 0 0, .slice none 0 0]) ?hs rfl ⟨none, 0, none, 0, ?_, ?_, ?_, ?_, ?_, ?hbl⟩
    (case hs => simp [results, Try.results57, go_sem, *])
    · rw [HQ.out]; rfl
    · rw [HQ.out]; exact Nat.le_refl _
    · rw [HQ.out]; exact Kd.R_nil _ _ _ _ _
    · rw [HQ.out]; exact Nat.le_refl _
    · rw [HQ.out]; exact Kd.R_nil _ _ _ _ _
    case hbl => exact (by repeat (with_reducible first | exact Below.refl _ _ | refine below_alloc ?_ _ | refine below_drew ?_ | refine pw_below_drewN ?_ _ | refine Below.setCell ?_ (by dsimp only; omega) _ | refine below_end ?_ HB1.out ))
  have ff := termFault_form g
  have hTI := Aside0.mk (TI_of_fault (hi := hi) g)
  have fl := ff.2.2.2.2.2.2.2
  have fl2 : hs.length ≤ 520 := by have := ff.2.2.2.2.2.1; omega
  clear ff
  have HG := Aside0.mk g
  by_cases g2 : 8000 < da.length
  · have HQ := Aside0.mk (show feedTermP wi ro y x hi ch hs da = (2, 0, 0, 0, 0, false, [], []) from (if_pos g).trans (if_pos g2))
    have g2' : (da.length : Int) > 8000 := by omega
    clear g g2
    go_enter Try.func57, Try.ntmps57
    go_wp2_with fail
    refine Calls.mono (TermFault_c wi ro y x hi A B c d ch hs _ (by repeat (with_reducible first | exact HR.out | refine Kd.C_alloc ?_ _ | refine Kd.C_drewN ?_ _ | refine Kd.C_drew ?_)) hc hm2) ?_
    rintro e w1 ⟨rfl, hb1⟩
    rw [HG.out]
    have HB1 := Aside0.mk hb1
    have NZ := blk_below (blk_new' (W := w.alloc (.cells #[.int .i64 wi, .int .i64 ro, .int .i64 y, .int .i64 x, .bool hi, .slice A ch.length c, .slice B hs.length d] 47)) (b := w.heap.size + 1) (.cells #[.int .i64 0, .int .i64 0, .int .i64 0, .int .i64 0, .int .i64 0, .bool false, .slice none 0 0, .slice none 0 0] 52) (by simp only [size_alloc])) hb1
    have rz := blk_cell NZ
    have fz := blk_free NZ
    clear hb1 NZ
    go_wp2
    refine bodyPost_ret (v := .agg #[.int .i64 2, .int .i64 0, .int .i64 0, .int .i64 0, .int .i64 0, .bool false, .slice none 0 0, .slice none 0 0]) ?hs rfl ⟨none, 0, none, 0, ?_, ?_, ?_, ?_, ?_, ?hbl⟩
    (case hs => simp [results, Try.results57, go_sem, *])
    · rw [HQ.out]; rfl
    · rw [HQ.out]; exact Nat.le_refl _
    · rw [HQ.out]; exact Kd.R_nil _ _ _ _ _
    · rw [HQ.out]; exact Nat.le_refl _
    · rw [HQ.out]; exact Kd.R_nil _ _ _ _ _
    case hbl => exact (by repeat (with_reducible first | exact Below.refl _ _ | refine below_alloc ?_ _ | refine below_drew ?_ | refine pw_below_drewN ?_ _ | refine Below.setCell ?_ (by dsimp only; omega) _ | refine below_end ?_ HB1.out ))
  have g2' : ¬ (da.length : Int) > 8000 := by omega
  have hl8 : da.length ≤ 8000 := by omega
  have HP := Aside0.mk (show feedTermP wi ro y x hi ch hs da = (match feedAll da ⟨wi, ro, y, x, hi, ch, hs⟩ with | none => (5, 0, 0, 0, 0, false, [], []) | some t => (0, t.wi, t.ro, t.y, t.x, t.hi, t.ch, t.hs)) from (if_pos g).trans (if_neg g2))
  have hinv := feedAll_inv _ da ⟨wi, ro, y, x, hi, ch, hs⟩ rfl hTI.out
  clear g g2
  generalize hfe : feedAll da ⟨wi, ro, y, x, hi, ch, hs⟩ = fr at HP hinv
  have HFE := Aside0.mk hfe
  clear hfe
  cases fr with
  | none =>
    have HQ := Aside0.mk (show feedTermP wi ro y x hi ch hs da = (5, 0, 0, 0, 0, false, [], []) from HP.out)
    clear hinv
    go_enter Try.func57, Try.ntmps57
    go_wp2_with fail
    refine Calls.mono (TermFault_c wi ro y x hi A B c d ch hs _ (by repeat (with_reducible first | exact HR.out | refine Kd.C_alloc ?_ _ | refine Kd.C_drewN ?_ _ | refine Kd.C_drew ?_)) hc hm2) ?_
    rintro e w1 ⟨rfl, hb1⟩
    rw [HG.out]
    have HB1 := Aside0.mk hb1
    have sz1 := hb1.size
    simp only [size_alloc] at sz1
    have NX := blk_below (blk_alloc (blk_new (W := w) (.cells #[.int .i64 wi, .int .i64 ro, .int .i64 y, .int .i64 x, .bool hi, .slice A ch.length c, .slice B hs.length d] 47)) (.cells #[.int .i64 0, .int .i64 0, .int .i64 0, .int .i64 0, .int .i64 0, .bool false, .slice none 0 0, .slice none 0 0] 52)) hb1
    have NZ := blk_below (blk_new' (W := w.alloc (.cells #[.int .i64 wi, .int .i64 ro, .int .i64 y, .int .i64 x, .bool hi, .slice A ch.length c, .slice B hs.length d] 47)) (b := w.heap.size + 1) (.cells #[.int .i64 0, .int .i64 0, .int .i64 0, .int .i64 0, .int .i64 0, .bool false, .slice none 0 0, .slice none 0 0] 52) (by simp only [size_alloc])) hb1
    have NX1 := Aside0.mk NX
    have NZ1 := Aside0.mk NZ
    have rx := blk_cell NX
    have l1 : w.heap.size < w1.heap.size := by omega
    clear hb1 NX NZ
    go_wp2_with fail
    refine Calls.mono (feed_c w.heap.size ⟨wi, ro, y, x, hi, ch, hs⟩ A c B d Ad cd da w1 NX1.out (by repeat (with_reducible first | exact HR.out | refine Kd.C_below ?_ HB1.out | refine Kd.C_alloc ?_ _ | refine Kd.C_drewN ?_ _ | refine Kd.C_drew ?_)) (by repeat (with_reducible first | exact HS.out | refine Kd.C_below ?_ HB1.out | refine Kd.C_alloc ?_ _ | refine Kd.C_drewN ?_ _ | refine Kd.C_drew ?_)) hTI.out (by repeat (with_reducible first | exact HD.out | refine Kd.C_below ?_ HB1.out | refine Kd.C_alloc ?_ _ | refine Kd.C_drewN ?_ _ | refine Kd.C_drew ?_)) hcd (by omega) HBD.out (fun ad e hn => Nat.ne_of_lt (HFAR.out ad e hn))) ?_
    rintro e w2 ⟨rfl, hu, a, b, c', d', s', ht, hte⟩
    rw [HFE.out]
    have HU := Aside0.mk hu
    have sz2 := hu.size
    have NZ2 := blk_upd NZ1.out hu (by omega)
    have rz := blk_cell NZ2
    have fz := blk_free NZ2
    clear hu NZ2
    go_wp2
    refine bodyPost_ret (v := .agg #[.int .i64 5, .int .i64 0, .int .i64 0, .int .i64 0, .int .i64 0, .bool false, .slice none 0 0, .slice none 0 0]) ?hs rfl ⟨none, 0, none, 0, ?_, ?_, ?_, ?_, ?_, ?hbl⟩
    (case hs => simp [results, Try.results57, go_sem, *])
    · rw [HQ.out]; rfl
    · rw [HQ.out]; exact Nat.le_refl _
    · rw [HQ.out]; exact Kd.R_nil _ _ _ _ _
    · rw [HQ.out]; exact Nat.le_refl _
    · rw [HQ.out]; exact Kd.R_nil _ _ _ _ _
    case hbl => exact (by repeat (with_reducible first | exact Below.refl _ _ | refine below_alloc ?_ _ | refine Below.setCell ?_ (by dsimp only; omega) _ | refine below_updG ?_ HU.out (Nat.le_refl _) | refine below_end ?_ HB1.out))
  | some t =>
    have HQ := Aside0.mk (show feedTermP wi ro y x hi ch hs da = (0, t.wi, t.ro, t.y, t.x, t.hi, t.ch, t.hs) from HP.out)
    have htl := (hinv t rfl).len
    clear hinv
    go_enter Try.func57, Try.ntmps57
    go_wp2_with fail
    refine Calls.mono (TermFault_c wi ro y x hi A B c d ch hs _ (by repeat (with_reducible first | exact HR.out | refine Kd.C_alloc ?_ _ | refine Kd.C_drewN ?_ _ | refine Kd.C_drew ?_)) hc hm2) ?_
    rintro e w1 ⟨rfl, hb1⟩
    rw [HG.out]
    have HB1 := Aside0.mk hb1
    have sz1 := hb1.size
    simp only [size_alloc] at sz1
    have NX := blk_below (blk_alloc (blk_new (W := w) (.cells #[.int .i64 wi, .int .i64 ro, .int .i64 y, .int .i64 x, .bool hi, .slice A ch.length c, .slice B hs.length d] 47)) (.cells #[.int .i64 0, .int .i64 0, .int .i64 0, .int .i64 0, .int .i64 0, .bool false, .slice none 0 0, .slice none 0 0] 52)) hb1
    have NZ := blk_below (blk_new' (W := w.alloc (.cells #[.int .i64 wi, .int .i64 ro, .int .i64 y, .int .i64 x, .bool hi, .slice A ch.length c, .slice B hs.length d] 47)) (b := w.heap.size + 1) (.cells #[.int .i64 0, .int .i64 0, .int .i64 0, .int .i64 0, .int .i64 0, .bool false, .slice none 0 0, .slice none 0 0] 52) (by simp only [size_alloc])) hb1
    have NX1 := Aside0.mk NX
    have NZ1 := Aside0.mk NZ
    have rx := blk_cell NX
    have l1 : w.heap.size < w1.heap.size := by omega
    clear hb1 NX NZ
    go_wp2_with fail
    refine Calls.mono (feed_c w.heap.size ⟨wi, ro, y, x, hi, ch, hs⟩ A c B d Ad cd da w1 NX1.out (by repeat (with_reducible first | exact HR.out | refine Kd.C_below ?_ HB1.out | refine Kd.C_alloc ?_ _ | refine Kd.C_drewN ?_ _ | refine Kd.C_drew ?_)) (by repeat (with_reducible first | exact HS.out | refine Kd.C_below ?_ HB1.out | refine Kd.C_alloc ?_ _ | refine Kd.C_drewN ?_ _ | refine Kd.C_drew ?_)) hTI.out (by repeat (with_reducible first | exact HD.out | refine Kd.C_below ?_ HB1.out | refine Kd.C_alloc ?_ _ | refine Kd.C_drewN ?_ _ | refine Kd.C_drew ?_)) hcd (by omega) HBD.out (fun ad e hn => Nat.ne_of_lt (HFAR.out ad e hn))) ?_
    rintro e w2 ⟨rfl, hu, a, b, c', d', s', ht, hte⟩
    rw [HFE.out]
    have HU := Aside0.mk hu
    have sz2 := hu.size
    have NZ2 := blk_upd NZ1.out hu (by omega)
    have rz := blk_cell NZ2
    have fz := blk_free NZ2
    obtain rfl : t = s' := hte t HFE.out
    have rt := blk_cell ht.1
    have HT := Aside0.mk ht
    clear hu NZ2 ht hte rx
    go_wp2
    refine bodyPost_ret (v := .agg #[.int .i64 0, .int .i64 t.wi, .int .i64 t.ro, .int .i64 t.y, .int .i64 t.x, .bool t.hi, .slice (some ⟨a, 0, none⟩) t.ch.length c', .slice (some ⟨b, 0, none⟩) t.hs.length d']) ?hs rfl ⟨some ⟨a, 0, none⟩, c', some ⟨b, 0, none⟩, d', ?_, ?_, ?_, ?_, ?_, ?hbl⟩
    case hs => simp [results, Try.results57, go_sem, *]
    case hbl => exact (by repeat (with_reducible first | exact Below.refl _ _ | refine below_alloc ?_ _ | refine Below.setCell ?_ (by dsimp only; omega) _ | refine below_updG ?_ HU.out (Nat.le_refl _) | refine below_end ?_ HB1.out))
    · rw [HQ.out]
    · rw [HQ.out]; exact (Kd.R_reads' HT.out.2.1).2.1
    · rw [HQ.out]
      refine R_lowI (base := w1.heap.size) _ ?_ (by omega)
      (repeat (with_reducible first | refine R_setI ?_ (by omega)))
      exact HT.out.2.1
    · rw [HQ.out]; exact (Kd.R_reads' HT.out.2.2).2.1
    · rw [HQ.out]
      refine R_lowB (base := w1.heap.size) _ ?_ (by omega)
      (repeat (with_reducible first | refine R_setB ?_ (by omega)))
      exact HT.out.2.2
end Go.Proofs.Ytpfponhaofdbaaa.M
