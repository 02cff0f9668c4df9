import Derived.Test.YtpfponhaofdbaaaJ4
import Derived.Deep.DeepCutAuto
import Derived.Deep.RegionHeld
set_option linter.unusedVariables false
set_option linter.unusedSimpArgs false
namespace Go.Proofs.Ytpfponhaofdbaaa.M
open Go.RowKit Go.Proofs.YtpfponhaofdbaaaW.PrintWords

theorem info_bool' : (Try.prog.info? 4).map (fun i => (i.zero, i.size, i.bytes)) = some (some (.bool false), 1, 1) := by kernel_rfl
theorem C_of_R {α : Type} {d : Kd α} {e base : Nat} {W : World} {ok : Nat → Prop} {A : Option Addr} {c : Nat} {xs : List α} (h : Kd.R d e W base ok (.slice A xs.length c) xs) : Kd.C d W A xs.length xs := (Kd.R_reads' h).2.2
theorem C_setB {W : World} {A : Option Addr} {n : Nat} {xs : List Bool} {b i : Nat} {v : Value} (h : Kd.C Kd.bool W A n xs) (hn : ∀ ad, A = some ad → 0 < n → ad.block ≠ b) : Kd.C Kd.bool (W.setCell ⟨b, i, none⟩ v) A n xs := C_upd h (upd_set W b i v) hn
theorem fromB (A : Option Addr) (c : Nat) (d : List Bool) (i : Nat) (w : World) (hr : Kd.C Kd.bool w A d.length d) (hi : i ≤ d.length) (hc : d.length ≤ c) :
    ∃ A', Kd.C Kd.bool w A' (d.drop i).length (d.drop i) ∧ (d.drop i).length ≤ c - i ∧ (∀ ad, A' = some ad → ∃ ad0, A = some ad0 ∧ ad.block = ad0.block) ∧ ∀ (k : IntKind) (W : World), (Instr.slice 28 (.slice A d.length c) (some (.int k (i : Int))) none none).run Try.prog W = .ok (.slice A' (d.drop i).length (c - i)) W := by
  obtain ⟨j, hj, hz0, hz1, hz2⟩ := info_parts info_bool'
  refine ⟨if c = i then A else A.map (·.add (i * 1)), Kd.C_drop hr hi hc, by rw [List.length_drop]; omega, fun ad e => ?_, fun k W => ?_⟩
  · split at e
    · exact ⟨ad, e, rfl⟩
    · obtain ⟨ad0, h0, rfl⟩ := Option.map_eq_some_iff.1 e
      exact ⟨ad0, h0, by first | rfl | (unfold Addr.add; split <;> rfl) | (simp [Addr.add])⟩
  have := cut_from (P := Try.prog) 28 4 k Try.underlying28 hj 1 hz1 A d.length c (i : Int) (by omega) (by omega) W
  rw [Int.toNat_natCast] at this
  rw [List.length_drop]
  exact this

set_option maxRecDepth 100000 in
set_option maxHeartbeats 1000000 in
theorem l13Bent_c (g : Nat) (A : Option Addr) (c : Nat) (code : List Int) (p : Int) (w : World) (h : Src w g A c code p) (hp : p ≤ 40000) (hl : code.length ≤ 100000000) :
    Calls Try.prog 106 #[.pointer (some ⟨g, 0, none⟩)] w fun e w' => ∃ (wi ro y x : Int) (hi : Bool) (A' B' : Option Addr) (c' d' : Nat) (ch : List Int) (hs : List Bool) (q : Int), e = .returned (.agg #[.int .i64 wi, .int .i64 ro, .int .i64 y, .int .i64 x, .bool hi, .slice A' ch.length c', .slice B' hs.length d']) ∧ Kd.C (Kd.int .i64) w' A' ch.length ch ∧ Kd.C Kd.bool w' B' hs.length hs ∧ ch.length ≤ c' ∧ hs.length ≤ d' ∧ Src w' g A c code q ∧ q ≤ p + 60 ∧ Upd w w' (fun k => k = g) ∧ (∀ ad, A' = some ad → w.heap.size ≤ ad.block) ∧ (∀ ad, B' = some ad → w.heap.size ≤ ad.block) := by
  have gl := src_lt h
  have H := Aside0.mk h
  clear h
  go_enter Try.func106, Try.ntmps106
  go_wp2_with fail
  have hbx := blk_new (W := w) (.cells #[.int .i64 0, .int .i64 0, .int .i64 0, .int .i64 0, .bool false, .slice none 0 0, .slice none 0 0] 47)
  refine Calls.mono (l13Draw_c g A c code p _ (H.out.alloc _) (by omega) hl) ?_
  rintro e w1 ⟨a, b, c1, d1, s, q, rfl, hti, hR1, hR2, hs, hq, hu⟩
  have HTI := Aside0.mk hti
  have HS1 := Aside0.mk hs
  have HU1 := Aside0.mk (upd_trans (upd_alloc (Upd.refl w (fun k => k = g)) _) hu)
  have HX1 := Aside0.mk (blk_upd hbx hu (fun e => by omega))
  have HTA := Aside0.mk (show TAt (w1.alloc (.cells #[.int .i64 s.wi, .int .i64 s.ro, .int .i64 s.y, .int .i64 s.x, .bool s.hi, .slice (some ⟨a, 0, none⟩) s.ch.length c1, .slice (some ⟨b, 0, none⟩) s.hs.length d1] 47)) w1.heap.size a b c1 d1 (w.heap.size + 1) s from ⟨blk_new _, Kd.R_alloc (by simpa only [size_alloc] using hR1) _, Kd.R_alloc (by simpa only [size_alloc] using hR2) _⟩)
  have lx1 := blk_lt HX1.out
  have gl1 := src_lt HS1.out
  clear hti hs hu hbx hR1 hR2
  go_wp2_with fail
  refine Calls.mono (l1Next_c g A c code q 12 _ (HS1.out.alloc _) (by omega) (by omega) hl) ?_
  rintro e w2 ⟨r, rfl, r0, r1, hs, hu⟩
  have HS2 := Aside0.mk hs
  have HU2 := Aside0.mk (upd_trans (upd_alloc HU1.out _) hu)
  have HX2 := Aside0.mk (blk_upd (blk_alloc HX1.out _) hu (fun e => by omega))
  have hab := HTA.out.lt
  have HT2 := Aside0.mk (HTA.out.upd hu (fun e => by omega) (fun e => by omega) (fun e => by omega))
  have hab2 := HT2.out.lt
  have HAB := Aside0.mk hab2
  have gl2 := src_lt HS2.out
  have lx2 := blk_lt HX2.out
  have lt2 := hab2.1
  clear hs hu r1 hab hab2
  by_cases c0 : r = 0
  · have b0 : (r == 0) = true := by simpa using c0
    clear c0
    go_wp2_with fail
    refine Calls.mono (l1Pick_c g A c code (q + 1) (some ⟨w2.heap.size, 0, none⟩) 3 [3, 41, 4] _ (HS2.out.alloc _) (by omega) hl (C_new (h1 := fun _ => rfl) (enc := Value.int .i64) w2 2 [3, 41, 4] (by simp)) (fun ad e _ => by cases e; show w2.heap.size ≠ g; omega) (by simp) (by simp)) ?_
    rintro e w3 ⟨k, rfl, hm, hs, hu⟩
    have hab := HAB.out
    have HS3 := Aside0.mk (hs.set w1.heap.size 0 (.int .i64 k) gl1)
    have HU3 := Aside0.mk (upd_setNew (b := w1.heap.size) (i := 0) (v := .int .i64 k) (upd_trans (upd_alloc HU2.out _) hu) (by omega))
    have HX3 := Aside0.mk (blk_setO (p := w1.heap.size) (i := 0) (v := .int .i64 k) (blk_upd (blk_alloc HX2.out _) hu (fun e => by omega)) (by omega))
    have HT3o := Aside0.mk ((HT2.out.alloc _).upd hu (fun e => by omega) (fun e => by omega) (fun e => by omega))
    have HT3 := Aside0.mk (HT3o.out.setBox 0 (.int .i64 k) { s with wi := k } rfl rfl rfl)
    have rt0 := blk_cell HT3o.out.1
    have ft0 := blk_free HT3o.out.1
    have lt0 := blk_lt HT3o.out.1
    clear hs hu hm hab
    have rt := blk_cell HT3.out.1
    have rz := blk_cell HX3.out
    have fz := blk_free HX3.out
    have lz := blk_lt HX3.out
    have lt1 := blk_lt HT3.out.1
    go_wp2
    refine bodyPost_ret (v := .agg #[.int .i64 ({ s with wi := k }: TS).wi, .int .i64 ({ s with wi := k }: TS).ro, .int .i64 ({ s with wi := k }: TS).y, .int .i64 ({ s with wi := k }: TS).x, .bool ({ s with wi := k }: TS).hi, .slice (some ⟨a, 0, none⟩) ({ s with wi := k }: TS).ch.length c1, .slice (some ⟨b, 0, none⟩) ({ s with wi := k }: TS).hs.length d1]) ?hs rfl ⟨({ s with wi := k }: TS).wi, ({ s with wi := k }: TS).ro, ({ s with wi := k }: TS).y, ({ s with wi := k }: TS).x, ({ s with wi := k }: TS).hi, some ⟨a, 0, none⟩, some ⟨b, 0, none⟩, c1, d1, ({ s with wi := k }: TS).ch, ({ s with wi := k }: TS).hs, q + 1 + 1, rfl, ?_, ?_, ?_, ?_, ?_, ?_, ?_, ?_, ?_⟩
    (case hs => simp [results, Try.results106, go_sem, *])
    · refine C_of_R (e := 2) (c := c1) (base := w.heap.size + 1) (ok := fun _ => True) ?_
      (repeat (with_reducible first | refine R_setI ?_ (Nat.lt_succ_self _)))
      exact HT3.out.2.1
    · refine C_of_R (e := 4) (c := d1) (base := w.heap.size + 1) (ok := fun _ => True) ?_
      (repeat (with_reducible first | refine R_setB ?_ (Nat.lt_succ_self _)))
      exact HT3.out.2.2
    · exact (Kd.R_reads' HT3.out.2.1).2.1
    · exact (Kd.R_reads' HT3.out.2.2).2.1
    · (repeat (with_reducible first | refine Src.set ?_ _ _ _ gl))
      exact HS3.out
    · omega
    · (repeat (with_reducible first | refine upd_setNew ?_ (Nat.le_refl _)))
      exact HU3.out
    · intro ad e; cases e; have := HAB.out; show w.heap.size ≤ a; omega
    · intro ad e; cases e; have := HAB.out; show w.heap.size ≤ b; omega
  have b0 : (r == 0) = false := by simpa using c0
  by_cases c1' : r = 1
  · have b1 : (r == 1) = true := by simpa using c1'
    clear c0 c1'
    go_wp2_with fail
    refine Calls.mono (l1Pick_c g A c code (q + 1) (some ⟨w2.heap.size, 0, none⟩) 2 [-1, 7] _ (HS2.out.alloc _) (by omega) hl (C_new (h1 := fun _ => rfl) (enc := Value.int .i64) w2 2 [-1, 7] (by simp)) (fun ad e _ => by cases e; show w2.heap.size ≠ g; omega) (by simp) (by simp)) ?_
    rintro e w3 ⟨k, rfl, hm, hs, hu⟩
    have hab := HAB.out
    have HS3 := Aside0.mk (hs.set w1.heap.size 3 (.int .i64 k) gl1)
    have HU3 := Aside0.mk (upd_setNew (b := w1.heap.size) (i := 3) (v := .int .i64 k) (upd_trans (upd_alloc HU2.out _) hu) (by omega))
    have HX3 := Aside0.mk (blk_setO (p := w1.heap.size) (i := 3) (v := .int .i64 k) (blk_upd (blk_alloc HX2.out _) hu (fun e => by omega)) (by omega))
    have HT3o := Aside0.mk ((HT2.out.alloc _).upd hu (fun e => by omega) (fun e => by omega) (fun e => by omega))
    have HT3 := Aside0.mk (HT3o.out.setBox 3 (.int .i64 k) { s with x := k } rfl rfl rfl)
    have rt0 := blk_cell HT3o.out.1
    have ft0 := blk_free HT3o.out.1
    have lt0 := blk_lt HT3o.out.1
    clear hs hu hm hab
    have rt := blk_cell HT3.out.1
    have rz := blk_cell HX3.out
    have fz := blk_free HX3.out
    have lz := blk_lt HX3.out
    have lt1 := blk_lt HT3.out.1
    go_wp2
    refine bodyPost_ret (v := .agg #[.int .i64 ({ s with x := k } : TS).wi, .int .i64 ({ s with x := k } : TS).ro, .int .i64 ({ s with x := k } : TS).y, .int .i64 ({ s with x := k } : TS).x, .bool ({ s with x := k } : TS).hi, .slice (some ⟨a, 0, none⟩) ({ s with x := k } : TS).ch.length c1, .slice (some ⟨b, 0, none⟩) ({ s with x := k } : TS).hs.length d1]) ?hs rfl ⟨({ s with x := k } : TS).wi, ({ s with x := k } : TS).ro, ({ s with x := k } : TS).y, ({ s with x := k } : TS).x, ({ s with x := k } : TS).hi, some ⟨a, 0, none⟩, some ⟨b, 0, none⟩, c1, d1, ({ s with x := k } : TS).ch, ({ s with x := k } : TS).hs, q + 1 + 1, rfl, ?_, ?_, ?_, ?_, ?_, ?_, ?_, ?_, ?_⟩
    (case hs => simp [results, Try.results106, go_sem, *])
    · refine C_of_R (e := 2) (c := c1) (base := w.heap.size + 1) (ok := fun _ => True) ?_
      (repeat (with_reducible first | refine R_setI ?_ (Nat.lt_succ_self _)))
      exact HT3.out.2.1
    · refine C_of_R (e := 4) (c := d1) (base := w.heap.size + 1) (ok := fun _ => True) ?_
      (repeat (with_reducible first | refine R_setB ?_ (Nat.lt_succ_self _)))
      exact HT3.out.2.2
    · exact (Kd.R_reads' HT3.out.2.1).2.1
    · exact (Kd.R_reads' HT3.out.2.2).2.1
    · (repeat (with_reducible first | refine Src.set ?_ _ _ _ gl))
      exact HS3.out
    · omega
    · (repeat (with_reducible first | refine upd_setNew ?_ (Nat.le_refl _)))
      exact HU3.out
    · intro ad e; cases e; have := HAB.out; show w.heap.size ≤ a; omega
    · intro ad e; cases e; have := HAB.out; show w.heap.size ≤ b; omega
  have b1 : (r == 1) = false := by simpa using c1'
  by_cases c2 : r = 2
  · have b2 : (r == 2) = true := by simpa using c2
    clear c0 c1' c2
    have rt0 := blk_cell HT2.out.1
    have gap := HTI.out.at
    have hpos : 0 < s.ch.length := by have := HTI.out.w1; omega
    have hposi : (0 : Int) < s.ch.length := by omega
    clear gap
    go_wp2_with fail
    have hab0 := HAB.out
    have ga : ∀ (W : World) (n : Nat) (v : Value) (i : Nat), (W.setCell ⟨a, n, none⟩ v).cell? ⟨w1.heap.size, i, none⟩ = W.cell? ⟨w1.heap.size, i, none⟩ := fun W n v i => World.cell?_setCell_far _ _ _ _ (by dsimp only; have := HT2.out.ne.1; omega)
    clear hab0
    go_region_held3 (fun W : World => (∀ i, W.cell? ⟨w1.heap.size, i, none⟩ = (#[.int .i64 s.wi, .int .i64 s.ro, .int .i64 s.y, .int .i64 s.x, .bool s.hi, .slice (some ⟨a, 0, none⟩) s.ch.length c1, .slice (some ⟨b, 0, none⟩) s.hs.length d1] : Array Value)[i]?)) (first | ((repeat' apply And.intro) <;> (intro i; (repeat (first | (with_reducible refine (cell_drew _ _).trans ?_) | (with_reducible refine (cell_drewN _ _ _).trans ?_) | refine (World.cell?_setCell_far _ _ _ _ (by dsimp only; omega)).trans ?_ | refine (World.cell?_alloc_lt _ _ _ (by dsimp only; (try simp only [size_alloc, size_drew, size_drewN, size_setCell]); omega)).trans ?_)); first | (with_reducible exact rt0 i) | (with_reducible exact rt1 i))) | go_keep)
      ((go_at_call 138; refine Calls.mono (l1Pick_c g A c code (q + 1) (some ⟨w2.heap.size, 0, none⟩) 2 [31, 127] _ (HS2.out.below (by repeat (with_reducible first | exact Below.refl _ _ | refine below_alloc ?_ _ | refine below_drew ?_ | refine pw_below_drewN ?_ _))) (by omega) hl (C_of_R (e := 2) (R_at (h1 := fun _ => rfl) (enc := Value.int .i64) (base := 0) (l := [31, 127]) (show _ = some (Obj.cells #[.int .i64 31, .int .i64 127] 2 (0, 0)) from (by repeat (with_reducible first | exact blk_new _ | refine blk_new' _ (by simp only [size_alloc, size_drew, size_drewN]) | refine blk_alloc ?_ _ | refine blk_drew ?_ | refine blk_drewN ?_ _))) (Nat.zero_le _) (by simp))) (fun ad e _ => by cases e; show w2.heap.size ≠ g; omega) (by simp) (by simp)) ?_; rintro e w3 ⟨k, rfl, hm, hs, hu⟩; have HS3o := Aside0.mk hs; have HU3o := Aside0.mk (upd_trans (upd_below HU2.out (by repeat (with_reducible first | exact Below.refl _ _ | refine below_alloc ?_ _ | refine below_drew ?_ | refine pw_below_drewN ?_ _))) hu); have HX3o := Aside0.mk (blk_upd (blk_below HX2.out (by repeat (with_reducible first | exact Below.refl _ _ | refine below_alloc ?_ _ | refine below_drew ?_ | refine pw_below_drewN ?_ _))) hu (fun e => by omega)); have HT3o := Aside0.mk ((HT2.out.below (by repeat (with_reducible first | exact Below.refl _ _ | refine below_alloc ?_ _ | refine below_drew ?_ | refine pw_below_drewN ?_ _))).upd hu (fun e => by omega) (fun e => by have := HAB.out; omega) (fun e => by have := HAB.out; omega)); have rt1 := blk_cell HT3o.out.1; obtain ⟨ca0, fa0⟩ := HT3o.out.ch 0 hpos; have la0 := HT3o.out.lt.2.1; have lt3 := HT3o.out.lt.1; clear hs hu hm))
    all_goals
      have hab := HAB.out
      have HS3 := Aside0.mk (HS3o.out.set a 0 (.int .i64 k) (by omega))
      have HU3 := Aside0.mk (upd_setNew (b := a) (i := 0) (v := .int .i64 k) HU3o.out (by omega))
      have HX3 := Aside0.mk (blk_setO (p := a) (i := 0) (v := .int .i64 k) HX3o.out (by omega))
      have HT3 := Aside0.mk (HT3o.out.setCh 0 k)
      have rt := blk_cell HT3.out.1
      have rz := blk_cell HX3.out
      have fz := blk_free HX3.out
      have lz := blk_lt HX3.out
      have lt1 := blk_lt HT3.out.1
      simp only [List.length_set] at rt
      have HLen := Aside0.mk (show (s.ch.set 0 k).length = s.ch.length from by simp)
      clear rt1 ca0 fa0 la0 lt3 rt0 hab ga
      go_wp2
      refine bodyPost_ret (v := .agg #[.int .i64 s.wi, .int .i64 s.ro, .int .i64 s.y, .int .i64 s.x, .bool s.hi, .slice (some ⟨a, 0, none⟩) s.ch.length c1, .slice (some ⟨b, 0, none⟩) s.hs.length d1]) ?hs rfl ⟨s.wi, s.ro, s.y, s.x, s.hi, some ⟨a, 0, none⟩, some ⟨b, 0, none⟩, c1, d1, s.ch.set 0 k, s.hs, q + 1 + 1, by rw [HLen.out], ?_, ?_, ?_, ?_, ?_, ?_, ?_, ?_, ?_⟩
      (case hs => simp [results, Try.results106, go_sem, *])
      · refine C_of_R (e := 2) (c := c1) (base := w.heap.size + 1) (ok := fun _ => True) ?_
        (repeat (with_reducible first | refine R_setI ?_ (Nat.lt_succ_self _)))
        exact HT3.out.2.1
      · refine C_of_R (e := 4) (c := d1) (base := w.heap.size + 1) (ok := fun _ => True) ?_
        (repeat (with_reducible first | refine R_setB ?_ (Nat.lt_succ_self _)))
        exact HT3.out.2.2
      · exact (Kd.R_reads' HT3.out.2.1).2.1
      · exact (Kd.R_reads' HT3.out.2.2).2.1
      · (repeat (with_reducible first | refine Src.set ?_ _ _ _ gl))
        exact HS3.out
      · omega
      · (repeat (with_reducible first | refine upd_setNew ?_ (Nat.le_refl _)))
        exact HU3.out
      · intro ad e; cases e; have := HAB.out; show w.heap.size ≤ a; omega
      · intro ad e; cases e; have := HAB.out; show w.heap.size ≤ b; omega
  have b2 : (r == 2) = false := by simpa using c2
  by_cases c3 : r = 3
  · have b3 : (r == 3) = true := by simpa using c3
    clear c0 c1' c2 c3
    have rt0 := blk_cell HT2.out.1
    have ft0 := blk_free HT2.out.1
    have gap := HTI.out.at
    have hpos : 1 ≤ s.hs.length := by have := HTI.out.w1; have := HTI.out.lh; omega
    clear gap
    obtain ⟨B', hCB, hcB, hbB, hslB⟩ := fromB (some ⟨b, 0, none⟩) d1 s.hs 1 w2 (C_of_R HT2.out.2.2) hpos (Kd.R_reads' HT2.out.2.2).2.1
    have HCB := Aside0.mk hCB
    have HcB := Aside0.mk hcB
    have HbB := Aside0.mk hbB
    have hsl1 : ∀ W : World, (Instr.slice 28 (.slice (some ⟨b, 0, none⟩) s.hs.length d1) (some (.int .i64 1)) none none).run Try.prog W = .ok (.slice B' (s.hs.drop 1).length (d1 - 1)) W := hslB .i64
    clear hCB hcB hslB hbB
    generalize hhs : s.hs.drop 1 = hs' at *
    have HX3 := Aside0.mk (blk_setO (p := w1.heap.size) (i := 6) (v := .slice B' hs'.length (d1 - 1)) HX2.out (by omega))
    have HT3 := Aside0.mk (blk_set (i := 6) (v := .slice B' hs'.length (d1 - 1)) HT2.out.1 rfl)
    have rt := blk_cell HT3.out
    have rz := blk_cell HX3.out
    have fz := blk_free HX3.out
    have lz := blk_lt HX3.out
    have lt1 := blk_lt HT3.out
    go_wp2
    have hab := HAB.out
    have HAB' := Aside0.mk hab
    refine bodyPost_ret (v := .agg #[.int .i64 s.wi, .int .i64 s.ro, .int .i64 s.y, .int .i64 s.x, .bool s.hi, .slice (some ⟨a, 0, none⟩) s.ch.length c1, .slice B' hs'.length (d1 - 1)]) ?hs rfl ⟨s.wi, s.ro, s.y, s.x, s.hi, some ⟨a, 0, none⟩, B', c1, d1 - 1, s.ch, hs', q + 1, rfl, ?_, ?_, ?_, ?_, ?_, ?_, ?_, ?_, ?_⟩
    (case hs => simp [results, Try.results106, go_sem, *])
    · refine C_of_R (e := 2) (c := c1) (base := w.heap.size + 1) (ok := fun _ => True) ?_
      (repeat (with_reducible first | refine R_setI ?_ (Nat.lt_succ_self _)))
      exact R_updI HT2.out.2.1 (upd_set _ _ _ _) (fun k hk e => by subst e; exact row_box HT2.out.2.1 HT2.out.1 (by decide) hk)
    · have hne : ∀ ad, B' = some ad → ad.block ≠ w.heap.size ∧ ad.block ≠ w1.heap.size := fun ad e => by
        obtain ⟨ad0, h0, h1⟩ := HbB.out ad e
        injection h0 with h0
        subst h0
        have := HAB'.out
        have n2 := HT2.out.ne.2.1
        rw [h1]
        exact ⟨by show b ≠ _; omega, n2⟩
      (repeat (with_reducible first | refine C_setB ?_ (fun ad e _ => (hne ad e).1) | refine C_setB ?_ (fun ad e _ => (hne ad e).2)))
      exact HCB.out
    · exact (Kd.R_reads' HT2.out.2.1).2.1
    · exact HcB.out
    · (repeat (with_reducible first | refine Src.set ?_ _ _ _ gl))
      exact HS2.out.set _ _ _ gl1
    · omega
    · (repeat (with_reducible first | refine upd_setNew ?_ (Nat.le_refl _)))
      exact upd_setNew HU2.out (by omega)
    · intro ad e; cases e; have := HAB.out; show w.heap.size ≤ a; omega
    · intro ad e; obtain ⟨ad0, h0, h1⟩ := HbB.out ad e; injection h0 with h0; subst h0; have := HAB.out; rw [h1]; show w.heap.size ≤ b; omega
  have b3 : (r == 3) = false := by simpa using c3
  clear c0 c1' c2 c3
  have rt := blk_cell HT2.out.1
  have rz := blk_cell HX2.out
  have fz := blk_free HX2.out
  have lz := blk_lt HX2.out
  have lt1 := blk_lt HT2.out.1
  go_wp2
  refine bodyPost_ret (v := .agg #[.int .i64 s.wi, .int .i64 s.ro, .int .i64 s.y, .int .i64 s.x, .bool s.hi, .slice (some ⟨a, 0, none⟩) s.ch.length c1, .slice (some ⟨b, 0, none⟩) s.hs.length d1]) ?hs rfl ⟨s.wi, s.ro, s.y, s.x, s.hi, some ⟨a, 0, none⟩, some ⟨b, 0, none⟩, c1, d1, s.ch, s.hs, q + 1, rfl, ?_, ?_, ?_, ?_, ?_, ?_, ?_, ?_, ?_⟩
  (case hs => simp [results, Try.results106, go_sem, *])
  · refine C_of_R (e := 2) (c := c1) (base := w.heap.size + 1) (ok := fun _ => True) ?_
    (repeat (with_reducible first | refine R_setI ?_ (Nat.lt_succ_self _)))
    exact HT2.out.2.1
  · refine C_of_R (e := 4) (c := d1) (base := w.heap.size + 1) (ok := fun _ => True) ?_
    (repeat (with_reducible first | refine R_setB ?_ (Nat.lt_succ_self _)))
    exact HT2.out.2.2
  · exact (Kd.R_reads' HT2.out.2.1).2.1
  · exact (Kd.R_reads' HT2.out.2.2).2.1
  · (repeat (with_reducible first | refine Src.set ?_ _ _ _ gl))
    exact HS2.out
  · omega
  · (repeat (with_reducible first | refine upd_setNew ?_ (Nat.le_refl _)))
    exact HU2.out
  · intro ad e; cases e; have := HAB.out; show w.heap.size ≤ a; omega
  · intro ad e; cases e; have := HAB.out; show w.heap.size ≤ b; omega
end Go.Proofs.Ytpfponhaofdbaaa.M
