import Derived.Test.YtpfponhaofdbaaaF3b
import Derived.Test.YtpfponhaofdbaaaF5
set_option linter.unusedVariables false
set_option linter.unusedSimpArgs false
namespace Go.Proofs.Ytpfponhaofdbaaa.M
open Go.RowKit Go.Proofs.YtpfponhaofdbaaaW.PrintWords

theorem DecodeAt0_c (A : Option Addr) (c : Nat) (d : List Int) (w : World) (hr : Kd.C (Kd.int .u8) w A d.length d) (hc : d.length ≤ c) (hi : 0 < d.length) (hl : d.length ≤ 1000000) (hb : ∀ z ∈ d, 0 ≤ z ∧ z ≤ 255) :
    Calls Try.prog 152 #[.slice A d.length c, .int .i64 0] w fun e w' => e = .returned (.agg #[.int .i64 (decodeP d).1, .int .i64 (decodeP d).2.1, .int .i64 (decodeP d).2.2]) ∧ Below w.heap.size w w' := by
  have := DecodeAt_c A c d 0 w hr hc hi hl hb
  rw [List.drop_zero] at this
  exact this
theorem oneP_1 {e : List Int} {s : TS} (h : begP e (bytesOf ⟨#[27, 91, 75]⟩) = true) : oneP e s = (eraseP s, 3) := if_pos h
theorem oneP_2 {e : List Int} {s : TS} (h : begP e (bytesOf ⟨#[27, 91, 75]⟩) = false) (h2 : begP e (bytesOf ⟨#[27, 91, 55, 109]⟩) = true) : oneP e s = ({ s with hi := true }, 4) :=
  (if_neg (by rw [show ([27, 91, 75] : List Int) = bytesOf ⟨#[27, 91, 75]⟩ from rfl, h]; simp)).trans (if_pos h2)
theorem oneP_3 {e : List Int} {s : TS} (h : begP e (bytesOf ⟨#[27, 91, 75]⟩) = false) (h2 : begP e (bytesOf ⟨#[27, 91, 55, 109]⟩) = false) (h3 : begP e (bytesOf ⟨#[27, 91, 48, 109]⟩) = true) : oneP e s = ({ s with hi := false }, 4) :=
  (if_neg (by rw [show ([27, 91, 75] : List Int) = bytesOf ⟨#[27, 91, 75]⟩ from rfl, h]; simp)).trans ((if_neg (by rw [show ([27, 91, 55, 109] : List Int) = bytesOf ⟨#[27, 91, 55, 109]⟩ from rfl, h2]; simp)).trans (if_pos h3))
theorem oneP_4 {e : List Int} {s : TS} (h : begP e (bytesOf ⟨#[27, 91, 75]⟩) = false) (h2 : begP e (bytesOf ⟨#[27, 91, 55, 109]⟩) = false) (h3 : begP e (bytesOf ⟨#[27, 91, 48, 109]⟩) = false) (h4 : begP e (bytesOf ⟨#[27, 91]⟩) = true) : oneP e s = movP s e :=
  (if_neg (by rw [show ([27, 91, 75] : List Int) = bytesOf ⟨#[27, 91, 75]⟩ from rfl, h]; simp)).trans ((if_neg (by rw [show ([27, 91, 55, 109] : List Int) = bytesOf ⟨#[27, 91, 55, 109]⟩ from rfl, h2]; simp)).trans ((if_neg (by rw [show ([27, 91, 48, 109] : List Int) = bytesOf ⟨#[27, 91, 48, 109]⟩ from rfl, h3]; simp)).trans (if_pos h4)))
theorem oneP_5 {e : List Int} {s : TS} (h : begP e (bytesOf ⟨#[27, 91, 75]⟩) = false) (h2 : begP e (bytesOf ⟨#[27, 91, 55, 109]⟩) = false) (h3 : begP e (bytesOf ⟨#[27, 91, 48, 109]⟩) = false) (h4 : begP e (bytesOf ⟨#[27, 91]⟩) = false) :
    oneP e s = if (decodeP e).1 = 0 ∧ isSeen (decodeP e).2.1 = true then (putP s (decodeP e).2.1, (decodeP e).2.2.toNat) else (s, 0) :=
  (if_neg (by rw [show ([27, 91, 75] : List Int) = bytesOf ⟨#[27, 91, 75]⟩ from rfl, h]; simp)).trans ((if_neg (by rw [show ([27, 91, 55, 109] : List Int) = bytesOf ⟨#[27, 91, 55, 109]⟩ from rfl, h2]; simp)).trans ((if_neg (by rw [show ([27, 91, 48, 109] : List Int) = bytesOf ⟨#[27, 91, 48, 109]⟩ from rfl, h3]; simp)).trans (if_neg (by rw [show ([27, 91] : List Int) = bytesOf ⟨#[27, 91]⟩ from rfl, h4]; simp))))
theorem decodeP_used (e : List Int) : 0 ≤ (decodeP e).2.2 ∧ (decodeP e).2.2 ≤ 3 ∧ (isSeen (decodeP e).2.1 = true → 0 ≤ (decodeP e).2.1 ∧ (decodeP e).2.1 ≤ 65535) := by
  have h0 : (dcFirst (e.getD 0 0)).2 ≤ 3 := by
    unfold dcFirst
    split
    · exact Nat.le_refl 3
    · split
      · show 2 ≤ 3; omega
      · show 1 ≤ 3; omega
  unfold decodeP
  split
  · exact ⟨by decide, by decide, fun _ => by decide⟩
  · split
    · exact ⟨by show (0 : Int) ≤ ((dcFirst (e.getD 0 0)).2 : Int); omega, by show ((dcFirst (e.getD 0 0)).2 : Int) ≤ 3; omega, fun h => isSeen_bd h⟩
    · exact ⟨by decide, by decide, fun _ => by decide⟩
theorem TAt.hi_set {W : World} {g a b c d base : Nat} {s : TS} (h : TAt W g a b c d base s) (z : Bool) : TAt (W.setCell ⟨g, 4, none⟩ (.bool z)) g a b c d base { s with hi := z } := h.setBox 4 _ _ rfl rfl rfl
theorem TAt.yx_set {W : World} {g a b c d base : Nat} {s : TS} (h : TAt W g a b c d base s) (y x : Int) : TAt ((W.setCell ⟨g, 2, none⟩ (.int .i64 y)).setCell ⟨g, 3, none⟩ (.int .i64 x)) g a b c d base { s with y := y, x := x } :=
  (h.setBox (s' := { s with y := y }) 2 (.int .i64 y) rfl rfl rfl).setBox (s' := { s with y := y, x := x }) 3 (.int .i64 x) rfl rfl rfl
theorem TAt.xy_set {W : World} {g a b c d base : Nat} {s : TS} (h : TAt W g a b c d base s) (y x : Int) : TAt ((W.setCell ⟨g, 3, none⟩ (.int .i64 x)).setCell ⟨g, 2, none⟩ (.int .i64 y)) g a b c d base { s with y := y, x := x } :=
  (h.setBox (s' := { s with x := x }) 3 (.int .i64 x) rfl rfl rfl).setBox (s' := { s with y := y, x := x }) 2 (.int .i64 y) rfl rfl rfl

def C01 (W : World) (g : Nat) (v0 v1 : Value) : Prop := W.cell? ⟨g, 0, none⟩ = some v0 ∧ W.cell? ⟨g, 1, none⟩ = some v1
theorem C01.drew {W : World} {g : Nat} {v0 v1 : Value} (h : C01 W g v0 v1) : C01 W.drew g v0 v1 := h
theorem C01.set {W : World} {g : Nat} {v0 v1 : Value} (h : C01 W g v0 v1) (i : Nat) (v : Value) (hi : 2 ≤ i) : C01 (W.setCell ⟨g, i, none⟩ v) g v0 v1 :=
  ⟨(World.cell?_setCell_other _ _ _ _ (by intro e; injection e with _ e; omega)).trans h.1, (World.cell?_setCell_other _ _ _ _ (by intro e; injection e with _ e; omega)).trans h.2⟩
set_option maxRecDepth 100000 in
set_option maxHeartbeats 2000000 in
theorem one_c (g a b c d base : Nat) (s : TS) (A : Option Addr) (cp : Nat) (ee : List Int) (w : World) (h : TAt w g a b c d base s) (hi : TI s)
    (hr : Kd.C (Kd.int .u8) w A ee.length ee) (hc : ee.length ≤ cp) (hne : 0 < ee.length) (hl : ee.length ≤ 1000000) (hb : ∀ z ∈ ee, 0 ≤ z ∧ z ≤ 255) :
    Calls Try.prog 136 #[.pointer (some ⟨g, 0, none⟩), .slice A ee.length cp] w fun e w' => e = .returned (.int .i64 ((oneP ee s).2 : Int)) ∧ TAt w' g a b c d base (oneP ee s).1 ∧ TKeep w w' g a b := by
  have HT := Aside0.mk h
  have HI := Aside0.mk hi
  have HR := Aside0.mk hr
  have HB := Aside0.mk hb
  have rd0 := blk_cell h.1
  have fr0 := blk_free h.1
  have lt0 := h.lt
  clear h hi hr hb
  cases h1 : begP ee (bytesOf ⟨#[27, 91, 75]⟩)
  rotate_left
  · have HQ := Aside0.mk (oneP_1 (s := s) h1)
    have H1 := Aside0.mk h1
    clear h1 rd0 fr0
    go_enter Try.func136, Try.ntmps136
    go_wp2_with (first
      | (go_at_call 150; refine Calls.mono (begins_c A cp ee _ _ HR.out hc HB.out (by decide)) ?_; rintro e w' ⟨rfl, rfl⟩; rw [H1.out])
      | (go_at_call 151; refine Calls.mono (clear_c g a b c d base s _ HT.out HI.out) ?_; rintro e w1 ⟨⟨v, rfl⟩, ht1, hk1⟩; have HT1 := Aside0.mk ht1; have HK1 := Aside0.mk hk1; clear ht1 hk1))
    go_ret
    exact ⟨by rw [HQ.out]; rfl, by rw [HQ.out]; exact HT1.out, HK1.out⟩
  cases h2 : begP ee (bytesOf ⟨#[27, 91, 55, 109]⟩)
  rotate_left
  · have HQ := Aside0.mk (oneP_2 (s := s) h1 h2)
    have H1 := Aside0.mk h1
    have H2 := Aside0.mk h2
    clear h1 h2
    go_enter Try.func136, Try.ntmps136
    go_wp2_with (first
      | (go_at_call 150; refine Calls.mono (begins_c A cp ee _ _ HR.out hc HB.out (by decide)) ?_; rintro e w' ⟨rfl, rfl⟩; first | rw [H1.out] | rw [H2.out]))
    go_ret
    exact ⟨by rw [HQ.out]; rfl, by rw [HQ.out]; exact HT.out.hi_set true, (TKeep.refl _ _ _ _).setG _ _⟩
  cases h3 : begP ee (bytesOf ⟨#[27, 91, 48, 109]⟩)
  rotate_left
  · have HQ := Aside0.mk (oneP_3 (s := s) h1 h2 h3)
    have H1 := Aside0.mk h1
    have H2 := Aside0.mk h2
    have H3 := Aside0.mk h3
    clear h1 h2 h3
    go_enter Try.func136, Try.ntmps136
    go_wp2_with (first
      | (go_at_call 150; refine Calls.mono (begins_c A cp ee _ _ HR.out hc HB.out (by decide)) ?_; rintro e w' ⟨rfl, rfl⟩; first | rw [H1.out] | rw [H2.out] | rw [H3.out]))
    go_ret
    exact ⟨by rw [HQ.out]; rfl, by rw [HQ.out]; exact HT.out.hi_set false, (TKeep.refl _ _ _ _).setG _ _⟩
  cases h4 : begP ee (bytesOf ⟨#[27, 91]⟩)
  · have HQ := Aside0.mk (oneP_5 (s := s) h1 h2 h3 h4)
    have H1 := Aside0.mk h1
    have H2 := Aside0.mk h2
    have H3 := Aside0.mk h3
    have H4 := Aside0.mk h4
    clear h1 h2 h3 h4
    have hu := decodeP_used ee
    have HD := Aside0.mk (DecodeAt0_c A cp ee w HR.out hc hne hl HB.out)
    generalize decodeP ee = r at *
    obtain ⟨co, ch, us⟩ := r
    dsimp only at hu HD HQ
    have hu1 := hu.1
    have hu2 := hu.2.1
    have HU := Aside0.mk hu.2.2
    clear hu
    by_cases g1 : co = 0
    · have b1 : (co != 0) = false := by simp [g1]
      cases g2 : isSeen ch
      · have HQ2 := Aside0.mk (HQ.out.trans (if_neg (by rw [g2]; simp)))
        have G2 := Aside0.mk g2
        clear g1 g2
        go_enter Try.func136, Try.ntmps136
        go_wp2_with (first
          | (go_at_call 150; refine Calls.mono (begins_c A cp ee _ _ HR.out hc HB.out (by decide)) ?_; rintro e w' ⟨rfl, rfl⟩; first | rw [H1.out] | rw [H2.out] | rw [H3.out] | rw [H4.out])
          | (go_at_call 152; refine Calls.mono HD.out ?_; rintro e w1 ⟨rfl, hb1⟩; have HB1 := Aside0.mk hb1; clear hb1)
          | (go_at_call 81; refine Calls.mono (isSeen_c ch _) ?_; rintro e w' ⟨rfl, rfl⟩; rw [G2.out]))
        go_ret
        exact ⟨by rw [HQ2.out]; rfl, by rw [HQ2.out]; exact (HT.out.below HB1.out).alloc _, ((TKeep.refl _ _ _ _).below HB1.out).alloc _⟩
      · have HQ2 := Aside0.mk (HQ.out.trans (if_pos ⟨g1, g2⟩))
        have G2 := Aside0.mk g2
        clear g1 g2
        go_enter Try.func136, Try.ntmps136
        go_wp2_with (first
          | (go_at_call 150; refine Calls.mono (begins_c A cp ee _ _ HR.out hc HB.out (by decide)) ?_; rintro e w' ⟨rfl, rfl⟩; first | rw [H1.out] | rw [H2.out] | rw [H3.out] | rw [H4.out])
          | (go_at_call 152; refine Calls.mono HD.out ?_; rintro e w1 ⟨rfl, hb1⟩; have HB1 := Aside0.mk hb1; have sz1 := hb1.size; clear hb1)
          | (go_at_call 81; refine Calls.mono (isSeen_c ch _) ?_; rintro e w' ⟨rfl, rfl⟩; rw [G2.out])
          | (go_at_call 153; refine Calls.mono (write_c g a b c d base s ch _ ((HT.out.below HB1.out).alloc _) HI.out) ?_; rintro e w2 ⟨⟨v, rfl⟩, ht2, hk2⟩; have HT2 := Aside0.mk ht2; have HK2 := Aside0.mk hk2; have hbx := blk_cell (blk_upd (blk_new _) hk2 (by rintro (h | h | h) <;> omega)); clear ht2 hk2))
        go_ret
        exact ⟨by rw [HQ2.out]; simp; omega, by rw [HQ2.out]; exact HT2.out, (((TKeep.refl _ _ _ _).below HB1.out).alloc _).trans HK2.out⟩
    · have HQ2 := Aside0.mk (HQ.out.trans (if_neg (fun h => g1 h.1)))
      have b1 : (co != 0) = true := by simp [g1]
      clear g1
      go_enter Try.func136, Try.ntmps136
      go_wp2_with (first
        | (go_at_call 150; refine Calls.mono (begins_c A cp ee _ _ HR.out hc HB.out (by decide)) ?_; rintro e w' ⟨rfl, rfl⟩; first | rw [H1.out] | rw [H2.out] | rw [H3.out] | rw [H4.out])
        | (go_at_call 152; refine Calls.mono HD.out ?_; rintro e w1 ⟨rfl, hb1⟩; have HB1 := Aside0.mk hb1; clear hb1))
      go_ret
      exact ⟨by rw [HQ2.out]; rfl, by rw [HQ2.out]; exact (HT.out.below HB1.out).alloc _, ((TKeep.refl _ _ _ _).below HB1.out).alloc _⟩
  · have HQ := Aside0.mk (oneP_4 (s := s) h1 h2 h3 h4)
    have h2l : 2 ≤ ee.length := by
      unfold begP at h4
      rw [Bool.and_eq_true] at h4
      have := of_decide_eq_true h4.1
      exact this
    have H1 := Aside0.mk h1
    have H2 := Aside0.mk h2
    have H3 := Aside0.mk h3
    have H4 := Aside0.mk h4
    clear h1 h2 h3 h4
    obtain ⟨A2, hc2, hl2, hk2'⟩ := fromU A cp ee 2 w HR.out h2l hc
    have hk2 : ∀ W : World, (Instr.slice 36 (.slice A ee.length cp) (some (.int .i64 2)) none none).run Try.prog W = .ok (.slice A2 (ee.drop 2).length (cp - 2)) W := hk2' .i64
    have RD2 := Aside0.mk (readDigits_c A2 (cp - 2) (ee.drop 2) w hc2 (fun z hz => HB.out z (List.mem_of_mem_drop hz)))
    have hg := rdg_ge (ee.drop 2) 3 0 0
    have hn := rdg_nn (ee.drop 2) 3 0 0 1 (by omega) (by omega)
    have ho := rdg_one (ee.drop 2)
    have HM := Aside0.mk (show movP s ee = movP1 s ee (rdg (ee.drop 2) 3 0 0) from rfl)
    have hl2' : (ee.drop 2).length = ee.length - 2 := List.length_drop
    generalize rdg (ee.drop 2) 3 0 0 = r at *
    obtain ⟨y, a1⟩ := r
    have ha3 : a1 ≤ 3 := by have := hg.2.1; simpa using this
    have hal : 2 + a1 ≤ ee.length := by have := hg.2.2 (Nat.zero_le _); simp only at this; omega
    have hy0 : 0 ≤ y := hn.1
    have hy1 : y < 1000 := by have := hn.2; simpa [p10] using this
    have HO := Aside0.mk ho
    clear hg hn hk2' hc2 ho hl2'
    generalize ee.drop 2 = e2 at *
    by_cases g1 : a1 = 0
    · have HM2 := Aside0.mk (HM.out.trans (if_pos (Or.inl g1)))
      have b1 : ((a1 : Int) == 0) = true := by simp [g1]
      clear g1
      go_enter Try.func136, Try.ntmps136
      go_wp2_with (go_at_call 150; refine Calls.mono (begins_c A cp ee _ _ HR.out hc HB.out (by decide)) ?_; rintro e w' ⟨rfl, rfl⟩; first | rw [H1.out] | rw [H2.out] | rw [H3.out] | rw [H4.out])
      refine Calls.mono RD2.out ?_
      rintro e w' ⟨rfl, rfl⟩
      go_wp2
      go_ret
      exact ⟨by rw [HQ.out, HM2.out]; rfl, by rw [HQ.out, HM2.out]; exact HT.out, TKeep.refl _ _ _ _⟩
    have b1 : ((a1 : Int) == 0) = false := by simp; omega
    have hy2 : 1 ≤ y := HO.out g1
    obtain ⟨A3, hc3, hl3, hk3'⟩ := fromU A cp ee (2 + a1) w HR.out hal hc
    have hk3 := hk3' .i64
    rw [show ((2 + a1 : Nat) : Int) = 2 + (a1 : Int) by omega] at hk3
    have BG3 := Aside0.mk (begins_c A3 (cp - (2 + a1)) (ee.drop (2 + a1)) ⟨#[59]⟩ w hc3 hl3 (fun z hz => HB.out z (List.mem_of_mem_drop hz)) (by decide))
    have hl3' : (ee.drop (2 + a1)).length = ee.length - (2 + a1) := List.length_drop
    clear hc3 hl3 hk3'
    cases g2 : begP (ee.drop (2 + a1)) (bytesOf ⟨#[59]⟩)
    · have HM2 := Aside0.mk (HM.out.trans (if_pos (Or.inr g2)))
      have G2 := Aside0.mk g2
      clear g1 g2 hl3' HM
      generalize ee.drop (2 + a1) = e3 at *
      go_enter Try.func136, Try.ntmps136
      go_wp2_with (go_at_call 150; refine Calls.mono (begins_c A cp ee _ _ HR.out hc HB.out (by decide)) ?_; rintro e w' ⟨rfl, rfl⟩; first | rw [H1.out] | rw [H2.out] | rw [H3.out] | rw [H4.out])
      refine Calls.mono RD2.out ?_
      rintro e w' ⟨rfl, rfl⟩
      go_wp2_with (go_at_call 150; refine Calls.mono BG3.out ?_; rintro e w' ⟨rfl, rfl⟩; rw [G2.out])
      go_ret
      exact ⟨by rw [HQ.out, HM2.out]; rfl, by rw [HQ.out, HM2.out]; exact HT.out, TKeep.refl _ _ _ _⟩
    have HM2 := Aside0.mk (HM.out.trans (if_neg (by rintro (h | h); exact g1 h; rw [show ([59] : List Int) = bytesOf ⟨#[59]⟩ from rfl, g2] at h; cases h)))
    have h3l : 3 + a1 ≤ ee.length := by
      unfold begP at g2
      rw [Bool.and_eq_true] at g2
      have := of_decide_eq_true g2.1
      rw [hl3'] at this
      have hb1 : (bytesOf ⟨#[59]⟩).length = 1 := rfl
      omega
    have G2 := Aside0.mk g2
    clear g1 g2 hl3' HM
    generalize ee.drop (2 + a1) = e3 at *
    obtain ⟨A4, hc4, hl4, hk4'⟩ := fromU A cp ee (3 + a1) w HR.out h3l hc
    have hk4 := hk4' .i64
    rw [show ((3 + a1 : Nat) : Int) = 3 + (a1 : Int) by omega] at hk4
    have RD4 := Aside0.mk (readDigits_c A4 (cp - (3 + a1)) (ee.drop (3 + a1)) w hc4 (fun z hz => HB.out z (List.mem_of_mem_drop hz)))
    have hg := rdg_ge (ee.drop (3 + a1)) 3 0 0
    have hn := rdg_nn (ee.drop (3 + a1)) 3 0 0 1 (by omega) (by omega)
    have ho := rdg_one (ee.drop (3 + a1))
    have hl4' : (ee.drop (3 + a1)).length = ee.length - (3 + a1) := List.length_drop
    generalize rdg (ee.drop (3 + a1)) 3 0 0 = q at *
    obtain ⟨x, a2⟩ := q
    have ha4 : a2 ≤ 3 := by have := hg.2.1; simpa using this
    have hal2 : 3 + a1 + a2 ≤ ee.length := by have := hg.2.2 (Nat.zero_le _); simp only at this; omega
    have hx0 : 0 ≤ x := hn.1
    have hx1 : x < 1000 := by have := hn.2; simpa [p10] using this
    have HO2 := Aside0.mk ho
    clear hg hn hk4' hc4 ho hl4'
    generalize ee.drop (3 + a1) = e4 at *
    by_cases g1 : a2 = 0
    · have HM3 := Aside0.mk (HM2.out.trans (if_pos (Or.inl g1)))
      have b2 : ((a2 : Int) == 0) = true := by simp [g1]
      clear g1
      go_enter Try.func136, Try.ntmps136
      go_wp2_with (go_at_call 150; refine Calls.mono (begins_c A cp ee _ _ HR.out hc HB.out (by decide)) ?_; rintro e w' ⟨rfl, rfl⟩; first | rw [H1.out] | rw [H2.out] | rw [H3.out] | rw [H4.out])
      refine Calls.mono RD2.out ?_
      rintro e w' ⟨rfl, rfl⟩
      go_wp2_with (go_at_call 150; refine Calls.mono BG3.out ?_; rintro e w' ⟨rfl, rfl⟩; rw [G2.out])
      refine Calls.mono RD4.out ?_
      rintro e w' ⟨rfl, rfl⟩
      go_wp2
      go_ret
      exact ⟨by rw [HQ.out, HM3.out]; rfl, by rw [HQ.out, HM3.out]; exact HT.out, TKeep.refl _ _ _ _⟩
    have b2 : ((a2 : Int) == 0) = false := by simp; omega
    have hx2 : 1 ≤ x := HO2.out g1
    obtain ⟨A5, hc5, hl5, hk5'⟩ := fromU A cp ee (3 + a1 + a2) w HR.out hal2 hc
    have hk5 := hk5' .i64
    rw [show ((3 + a1 + a2 : Nat) : Int) = 3 + (a1 : Int) + (a2 : Int) by omega] at hk5
    have BG5 := Aside0.mk (begins_c A5 (cp - (3 + a1 + a2)) (ee.drop (3 + a1 + a2)) ⟨#[72]⟩ w hc5 hl5 (fun z hz => HB.out z (List.mem_of_mem_drop hz)) (by decide))
    clear hc5 hl5 hk5'
    cases g2 : begP (ee.drop (3 + a1 + a2)) (bytesOf ⟨#[72]⟩)
    · have HM3 := Aside0.mk (HM2.out.trans (if_pos (Or.inr g2)))
      have G5 := Aside0.mk g2
      clear g1 g2 HM2
      generalize ee.drop (3 + a1 + a2) = e5 at *
      go_enter Try.func136, Try.ntmps136
      go_wp2_with (go_at_call 150; refine Calls.mono (begins_c A cp ee _ _ HR.out hc HB.out (by decide)) ?_; rintro e w' ⟨rfl, rfl⟩; first | rw [H1.out] | rw [H2.out] | rw [H3.out] | rw [H4.out])
      refine Calls.mono RD2.out ?_
      rintro e w' ⟨rfl, rfl⟩
      go_wp2_with (go_at_call 150; refine Calls.mono BG3.out ?_; rintro e w' ⟨rfl, rfl⟩; rw [G2.out])
      refine Calls.mono RD4.out ?_
      rintro e w' ⟨rfl, rfl⟩
      go_wp2_with (go_at_call 150; refine Calls.mono BG5.out ?_; rintro e w' ⟨rfl, rfl⟩; rw [G5.out])
      go_ret
      exact ⟨by rw [HQ.out, HM3.out]; rfl, by rw [HQ.out, HM3.out]; exact HT.out, TKeep.refl _ _ _ _⟩
    have HM3 := Aside0.mk (HM2.out.trans (if_neg (by rintro (h | h); exact g1 h; rw [show ([72] : List Int) = bytesOf ⟨#[72]⟩ from rfl, g2] at h; cases h)))
    have G5 := Aside0.mk g2
    clear g1 g2 HM2
    generalize ee.drop (3 + a1 + a2) = e5 at *
    have r1 := HI.out.r1
    have r2 := HI.out.r2
    have w1 := HI.out.w1
    have w2 := HI.out.w2
    have hm1 : 0 ≤ min y s.ro - 1 ∧ min y s.ro - 1 ≤ 13 := by omega
    have hm2 : 0 ≤ min x s.wi - 1 ∧ min x s.wi - 1 ≤ 40 := by omega
    have HC01 := Aside0.mk (show C01 w g (.int .i64 s.wi) (.int .i64 s.ro) from ⟨rd0 0, rd0 1⟩)
    have em1 : (if s.ro < y then s.ro else y) = min y s.ro := by split <;> omega
    have em2 : (if s.wi < x then s.wi else x) = min x s.wi := by split <;> omega
    have ew1 : IntKind.i64.wrap (min y s.ro - 1) = min y s.ro - 1 := by rw [IntKind.wrap_i64]; omega
    have ew2 : IntKind.i64.wrap (min x s.wi - 1) = min x s.wi - 1 := by rw [IntKind.wrap_i64]; omega
    go_enter Try.func136, Try.ntmps136
    go_wp2_with (go_at_call 150; refine Calls.mono (begins_c A cp ee _ _ HR.out hc HB.out (by decide)) ?_; rintro e w' ⟨rfl, rfl⟩; first | rw [H1.out] | rw [H2.out] | rw [H3.out] | rw [H4.out])
    refine Calls.mono RD2.out ?_
    rintro e w' ⟨rfl, rfl⟩
    go_wp2_with (go_at_call 150; refine Calls.mono BG3.out ?_; rintro e w' ⟨rfl, rfl⟩; rw [G2.out])
    refine Calls.mono RD4.out ?_
    rintro e w' ⟨rfl, rfl⟩
    go_wp2_with (go_at_call 150; refine Calls.mono BG5.out ?_; rintro e w' ⟨rfl, rfl⟩; rw [G5.out])
    go_region_held3 (fun W : World => W.cell? ⟨g, 0, none⟩ = some (.int .i64 s.wi) ∧ W.cell? ⟨g, 1, none⟩ = some (.int .i64 s.ro)) ((show C01 _ g _ _; repeat (first | exact HC01.out | refine C01.drew ?_ | refine C01.set ?_ _ _ (by decide)))) (fail)
    all_goals
      go_wp2
      go_ret
      refine ⟨by rw [HQ.out, HM3.out]; simp, ?_, ?_⟩
      · rw [HQ.out, HM3.out]
        first | exact HT.out.drew.yx_set _ _ | exact HT.out.drew.xy_set _ _
      · exact (((TKeep.refl _ _ _ _).drew).setG _ _).setG _ _
end Go.Proofs.Ytpfponhaofdbaaa.M
