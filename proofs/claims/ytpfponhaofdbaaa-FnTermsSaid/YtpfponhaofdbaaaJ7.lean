import Derived.Test.YtpfponhaofdbaaaJ6
set_option linter.unusedVariables false
set_option linter.unusedSimpArgs false
namespace Go.Proofs.Ytpfponhaofdbaaa.M
open Go.RowKit Go.Proofs.YtpfponhaofdbaaaW.PrintWords

theorem str7 (k : Nat) (hk : k < 7) : ∃ s : ByteArray, (#[.string (ByteArray.mk #[27]), .string (ByteArray.mk #[27, 91]), .string (ByteArray.mk #[27, 91, 50, 59]), .string (ByteArray.mk #[27, 91, 48, 59, 49, 72]), .string (ByteArray.mk #[27, 91, 57, 109]), .string (ByteArray.mk #[128]), .string (ByteArray.mk #[7])] : Array Value)[k]? = some (.string s) ∧ s.size ≤ 6 := by
  match k, hk with
  | 0, _ => exact ⟨_, rfl, by decide⟩
  | 1, _ => exact ⟨_, rfl, by decide⟩
  | 2, _ => exact ⟨_, rfl, by decide⟩
  | 3, _ => exact ⟨_, rfl, by decide⟩
  | 4, _ => exact ⟨_, rfl, by decide⟩
  | 5, _ => exact ⟨_, rfl, by decide⟩
  | 6, _ => exact ⟨_, rfl, by decide⟩

theorem upd_setX {W0 W : World} {b i : Nat} {v : Value} (hu : Upd W0 W (fun k => k = b)) : Upd W0 (W.setCell ⟨b, i, none⟩ v) (fun k => k = b) := hu.trans (upd_set W b i v) (fun _ _ h => h) (fun _ _ h => h)
theorem below_updG' {w w2 : World} {g : Nat} (k : Upd w w2 (fun k => k = g)) (hg : w.heap.size ≤ g) : Below w.heap.size w w2 :=
  below_upd (Below.refl _ w) k (fun i hi e => by omega)
theorem C_updJ {W W' : World} {A : Option Addr} {xs : List Int} {S : Nat → Prop} (h : Kd.C (Kd.int .i64) W A xs.length xs) (hu : Upd W W' S) (hn : ∀ ad, A = some ad → 0 < xs.length → ¬ S ad.block) : Kd.C (Kd.int .i64) W' A xs.length xs := C_upd h hu hn
theorem C_updJB {W W' : World} {A : Option Addr} {xs : List Bool} {S : Nat → Prop} (h : Kd.C Kd.bool W A xs.length xs) (hu : Upd W W' S) (hn : ∀ ad, A = some ad → 0 < xs.length → ¬ S ad.block) : Kd.C Kd.bool W' A xs.length xs := C_upd h hu hn
/-- What the draw hands out. -/
def Drawn (w w' : World) (wi ro y x : Int) (hi : Bool) (A' B' : Option Addr) (c' d' : Nat) (ch : List Int) (hs : List Bool) (Ad : Option Addr) (cd : Nat) (da : List Int) : Prop :=
  Kd.C (Kd.int .i64) w' A' ch.length ch ∧ Kd.C Kd.bool w' B' hs.length hs ∧ ch.length ≤ c' ∧ hs.length ≤ d' ∧ Kd.C (Kd.int .u8) w' Ad da.length da ∧ da.length ≤ cd ∧ (∀ z ∈ da, 0 ≤ z ∧ z ≤ 255) ∧ da.length ≤ 200 ∧ Below w.heap.size w w'

set_option maxRecDepth 100000 in
set_option maxHeartbeats 1000000 in
theorem drawFeedTerm_c (A : Option Addr) (c : Nat) (code : List Int) (w : World) (hr : Kd.C (Kd.int .u8) w A code.length code) (hb : ∀ z ∈ code, 0 ≤ z ∧ z ≤ 255) (hl : code.length ≤ 100000000) :
    Calls Try.prog 59 #[.slice A code.length c] w fun e w' => ∃ (wi ro y x : Int) (hi : Bool) (A' B' : Option Addr) (c' d' : Nat) (ch : List Int) (hs : List Bool) (Ad : Option Addr) (cd : Nat) (da : List Int), e = .returned (.tuple #[.agg #[.int .i64 wi, .int .i64 ro, .int .i64 y, .int .i64 x, .bool hi, .slice A' ch.length c', .slice B' hs.length d'], .slice Ad da.length cd]) ∧ Drawn w w' wi ro y x hi A' B' c' d' ch hs Ad cd da := by
  have HR := Aside0.mk hr
  have HB := Aside0.mk hb
  clear hr hb
  have hcv := bytes_run
  go_enter Try.func59, Try.ntmps59
  go_wp2_with fail
  have hbx := blk_new (W := w) (.cells #[.int .i64 0, .int .i64 0, .int .i64 0, .int .i64 0, .bool false, .slice none 0 0, .slice none 0 0] 47)
  refine Calls.mono (l1Source_c A c code _ (Kd.C_alloc HR.out _) HB.out) ?_
  rintro e w1 ⟨g, rfl, hg, hs1, hb1⟩
  rw [size_alloc] at hg
  have HS1 := Aside0.mk hs1
  have HX1 := Aside0.mk (blk_below hbx hb1)
  have HU1 := Aside0.mk (upd_below (upd_alloc (Upd.refl w (fun k => k = g)) _) hb1)
  clear hs1 hb1 hbx
  go_wp2_with fail
  refine Calls.mono (l13Bent_c g A c code 0 _ HS1.out (by decide) hl) ?_
  rintro e w2 ⟨wi, ro, y, x, hi, A', B', c', d', ch, hs, q, rfl, hC1, hC2, hc1, hc2, hs2, hq, hu, hnA, hnB⟩
  have HS2 := Aside0.mk hs2
  have HX2 := Aside0.mk (blk_upd HX1.out hu (fun e => by omega))
  have HU2 := Aside0.mk (upd_trans HU1.out hu)
  have HC1 := Aside0.mk hC1
  have HC2 := Aside0.mk hC2
  have HCC := Aside0.mk (And.intro hc1 hc2)
  have gl1 := src_lt HS1.out
  have lx1 := blk_lt HX1.out
  have HNA := Aside0.mk (show ∀ ad, A' = some ad → ad.block ≠ g from fun ad e h => by have := hnA ad e; omega)
  have HNB := Aside0.mk (show ∀ ad, B' = some ad → ad.block ≠ g from fun ad e h => by have := hnB ad e; omega)
  have HNA0 := Aside0.mk (show ∀ ad, A' = some ad → ad.block ≠ w.heap.size from fun ad e h => by have := hnA ad e; omega)
  have HNB0 := Aside0.mk (show ∀ ad, B' = some ad → ad.block ≠ w.heap.size from fun ad e h => by have := hnB ad e; omega)
  have gl2 := src_lt HS2.out
  have lx2 := blk_lt HX2.out
  obtain ⟨w3, hw3⟩ : ∃ w3, w3 = w2.alloc (.cells #[.int .i64 wi, .int .i64 ro, .int .i64 y, .int .i64 x, .bool hi, .slice A' ch.length c', .slice B' hs.length d'] 47) := ⟨_, rfl⟩
  have HT3 := Aside0.mk (show w3.heap[w2.heap.size]? = some (.cells #[.int .i64 wi, .int .i64 ro, .int .i64 y, .int .i64 x, .bool hi, .slice A' ch.length c', .slice B' hs.length d'] 47 (0, 0)) by rw [hw3]; exact blk_new _)
  have s3 : w3.heap.size = w2.heap.size + 1 := by rw [hw3, size_alloc]
  have HS3 := Aside0.mk (show Src w3 g A c code q by rw [hw3]; exact HS2.out.alloc _)
  have HX3 := Aside0.mk (show w3.heap[w.heap.size]? = some (.cells #[.int .i64 0, .int .i64 0, .int .i64 0, .int .i64 0, .bool false, .slice none 0 0, .slice none 0 0] 47 (0, 0)) by rw [hw3]; exact blk_alloc HX2.out _)
  have HU3 := Aside0.mk (show Upd w w3 (fun k => k = g) by rw [hw3]; exact upd_alloc HU2.out _)
  have HD3 := Aside0.mk (show Kd.C (Kd.int .i64) w3 A' ch.length ch by rw [hw3]; exact Kd.C_alloc HC1.out _)
  have HE3 := Aside0.mk (show Kd.C Kd.bool w3 B' hs.length hs by rw [hw3]; exact Kd.C_alloc HC2.out _)
  clear hs2 hu hC1 hC2 hc1 hc2 hnA hnB
  go_wp2_with fail
  rw [← hw3]
  refine Calls.mono (l13Data_c g A c code q _ HS3.out (by omega) hl) ?_
  rintro e w4 ⟨Ad, cd, data, q4, rfl, hcd, hRd, hbd, hld, hs4, hq4, hu⟩
  have HS4 := Aside0.mk hs4
  have HV4 := Aside0.mk hu
  have HR4 := Aside0.mk hRd
  have HBD := Aside0.mk hbd
  have gl3 := src_lt HS3.out
  have HW3 := Aside0.mk hw3
  clear hs4 hu hRd hbd hcd hw3
  go_wp2_with fail
  refine Calls.mono (l1Next_c g A c code q4 5 _ HS4.out (by omega) (by decide) hl) ?_
  rintro e w5 ⟨r, rfl, r0, r1, hs5, hu⟩
  have HS5 := Aside0.mk hs5
  have HV5 := Aside0.mk (upd_trans HV4.out hu)
  have HR5 := Aside0.mk (R_updI HR4.out hu (fun k hk e => by have := Kd.R_base HR4.out k hk; omega))
  clear hs5 hu r1 r0
  by_cases c0 : r = 0
  · have b0 : (r == 0) = true := by simpa using c0
    clear c0
    go_wp2_with fail
    have hb6 := blk_new (W := w5) (.cells #[.string (ByteArray.mk #[27]), .string (ByteArray.mk #[27, 91]), .string (ByteArray.mk #[27, 91, 50, 59]), .string (ByteArray.mk #[27, 91, 48, 59, 49, 72]), .string (ByteArray.mk #[27, 91, 57, 109]), .string (ByteArray.mk #[128]), .string (ByteArray.mk #[7])] 9)
    have gl5 := src_lt HS5.out
    refine Calls.mono (l1Next_c g A c code (q4 + 1) 7 _ (HS5.out.alloc _) (by omega) (by decide) hl) ?_
    rintro e w6 ⟨r, rfl, r0, r1, hs6, hu⟩
    have HV6 := Aside0.mk (upd_trans (upd_alloc HV5.out _) hu)
    have HR6 := Aside0.mk (R_updI (Kd.R_alloc HR5.out _) hu (fun k hk e => by have := Kd.R_base HR5.out k hk; omega))
    have r1' := r1 (by decide)
    obtain ⟨k, rfl⟩ := Int.eq_ofNat_of_zero_le r0
    have hk7 : k < 7 := by omega
    obtain ⟨S, hS, hSz⟩ := str7 k hk7
    have hx := blk_cell (blk_upd hb6 hu (fun e => by omega)) k
    rw [hS] at hx
    clear hs6 hu r1 hb6 hS
    have HC := Aside0.mk (bWorld_C w6 S (by omega))
    have hsB := bWorld_size w6 S
    have hBB := Aside0.mk (bWorld_below w6 S)
    have hz6 := HV6.out.size
    go_wp2_with (at_builtin; refine Kd.R_append_row (w0 := bWorld w6 S) (Value.int .u8) 0 w3.heap.size rfl (.tmp 17) (.tmp 23) 36 5 (.int .u8 0) 1 rfl Try.underlying36 info_u8' rfl (by omega) (.slice Ad data.length cd) data (bytesOf S) (some ⟨w6.heap.size, 0, none⟩) S.size (bCap w6 S) (fun _ => True) rfl rfl (fun _ _ => trivial) (Kd.R_below HR6.out hBB.out) HC.out (Below.refl _ _) (by omega) (by omega) ?_; intro v7 w7 hR7 hB7 hg7 hat7; obtain ⟨Ad7, cd7, rfl, _⟩ := Kd.R_reads hR7; have HR7 := Aside0.mk hR7; have HG7 := Aside0.mk hg7; clear hR7 hB7 hg7 hat7; have HV7 := Aside0.mk (upd_grown (upd_below HV6.out hBB.out) HG7.out (fun k e => Kd.R_base HR6.out k e)); have HY := Aside0.mk (blk_upd HX3.out HV7.out (fun e => by omega)); have HZ := Aside0.mk (blk_upd HT3.out HV7.out (fun e => by omega)); have rz := blk_cell HY.out; have fz := blk_free HY.out; have lz := blk_lt HY.out; have rt := blk_cell HZ.out; have lt1 := blk_lt HZ.out; clear hx)
    refine bodyPost_ret (v := .tuple #[.agg #[.int .i64 wi, .int .i64 ro, .int .i64 y, .int .i64 x, .bool hi, .slice A' ch.length c', .slice B' hs.length d'], .slice Ad7 (data ++ bytesOf S).length cd7]) ?hs rfl ⟨wi, ro, y, x, hi, A', B', c', d', ch, hs, Ad7, cd7, (data ++ bytesOf S), rfl, ?_, ?_, HCC.out.1, HCC.out.2, ?_, ?_, (fun z hz => (List.mem_append.1 hz).elim (HBD.out z) (bytesOf_bd S z)), (by rw [List.length_append, bytesOf_len]; omega), ?_⟩
    (case hs => simp [results, Try.results59, go_sem, *])
    · refine C_updJ (S := fun k => k = w.heap.size) (C_updJ HD3.out HV7.out (fun ad e _ => HNA.out ad e)) ?_ (fun ad e hn h0 => ?_)
      · (repeat (with_reducible first | exact Upd.refl _ _ | refine upd_setX ?_))
      · exact absurd h0 (HNA0.out ad e)
    · refine C_updJB (S := fun k => k = w.heap.size) (C_updJB HE3.out HV7.out (fun ad e _ => HNB.out ad e)) ?_ (fun ad e hn h0 => ?_)
      · (repeat (with_reducible first | exact Upd.refl _ _ | refine upd_setX ?_))
      · exact absurd h0 (HNB0.out ad e)
    · refine C_of_R (e := 5) (base := w3.heap.size) (ok := fun _ => True) (c := cd7) ?_
      (repeat (with_reducible first | refine R_setI ?_ (by omega)))
      exact HR7.out
    · exact (Kd.R_reads' HR7.out).2.1
    · refine below_updG' (g := g) ?_ (by omega)
      (repeat (with_reducible first | refine upd_setNew ?_ (Nat.le_refl _)))
      exact upd_trans HU3.out HV7.out
  have b0 : (r == 0) = false := by simpa using c0
  by_cases c1 : r = 1
  · have b1 : (r == 1) = true := by simpa using c1
    clear c0 c1
    by_cases hz : data.length = 0
    · have hzi : ¬ ((data.length : Int) > 0) := by omega
      have HY := Aside0.mk (blk_upd HX3.out HV5.out (fun e => by omega))
      have HZ := Aside0.mk (blk_upd HT3.out HV5.out (fun e => by omega))
      have rz := blk_cell HY.out
      have fz := blk_free HY.out
      have lz := blk_lt HY.out
      have rt := blk_cell HZ.out
      have lt1 := blk_lt HZ.out
      go_wp2
      refine bodyPost_ret (v := .tuple #[.agg #[.int .i64 wi, .int .i64 ro, .int .i64 y, .int .i64 x, .bool hi, .slice A' ch.length c', .slice B' hs.length d'], .slice Ad data.length cd]) ?hs rfl ⟨wi, ro, y, x, hi, A', B', c', d', ch, hs, Ad, cd, data, rfl, ?_, ?_, HCC.out.1, HCC.out.2, ?_, ?_, HBD.out, (by omega), ?_⟩
      (case hs => simp [results, Try.results59, go_sem, *])
      · refine C_updJ (S := fun k => k = w.heap.size) (C_updJ HD3.out HV5.out (fun ad e _ => HNA.out ad e)) ?_ (fun ad e hn h0 => ?_)
        · (repeat (with_reducible first | exact Upd.refl _ _ | refine upd_setX ?_))
        · exact absurd h0 (HNA0.out ad e)
      · refine C_updJB (S := fun k => k = w.heap.size) (C_updJB HE3.out HV5.out (fun ad e _ => HNB.out ad e)) ?_ (fun ad e hn h0 => ?_)
        · (repeat (with_reducible first | exact Upd.refl _ _ | refine upd_setX ?_))
        · exact absurd h0 (HNB0.out ad e)
      · refine C_of_R (e := 5) (base := w3.heap.size) (ok := fun _ => True) (c := cd) ?_
        (repeat (with_reducible first | refine R_setI ?_ (by omega)))
        exact HR5.out
      · exact (Kd.R_reads' HR5.out).2.1
      · refine below_updG' (g := g) ?_ (by omega)
        (repeat (with_reducible first | refine upd_setNew ?_ (Nat.le_refl _)))
        exact upd_trans HU3.out HV5.out
    · have hzi : (data.length : Int) > 0 := by omega
      obtain ⟨da, ca, e1, ha1, ha2, _⟩ := Kd.R_form HR5.out (by omega)
      injection e1 with e1 el1 e1'
      subst e1 e1'
      clear el1
      go_wp2_with fail
      refine Calls.mono (l1Next_c g A c code (q4 + 1) data.length _ HS5.out (by omega) (by omega) hl) ?_
      rintro e w6 ⟨r, rfl, r0, r1, hs6, hu⟩
      have HS6 := Aside0.mk hs6
      have HV6 := Aside0.mk (upd_trans HV5.out hu)
      have HR6 := Aside0.mk (R_updI HR5.out hu (fun k hk e => by have := Kd.R_base HR5.out k hk; omega))
      have r1' := r1 (by omega)
      obtain ⟨k, rfl⟩ := Int.eq_ofNat_of_zero_le r0
      have hk7 : k < data.length := by omega
      clear hs6 hu r1
      go_wp2_with fail
      refine Calls.mono (l1Next_c g A c code (q4 + 1 + 1) 256 _ HS6.out (by omega) (by decide) hl) ?_
      rintro e w7 ⟨z, rfl, z0, z1, hs7, hu⟩
      have HV7o := Aside0.mk (upd_trans HV6.out hu)
      have HR7o := Aside0.mk (R_updI HR6.out hu (fun k hk e => by have := Kd.R_base HR6.out k hk; omega))
      have z1' := z1 (by decide)
      have ez : IntKind.u8.wrap z = z := by rw [IntKind.wrap_u8]; omega
      have hcl := Kd.R_celln 0 HR7o.out (k : Int) (by omega) (by omega)
      obtain ⟨ck, fk⟩ : w7.cell? ⟨da, k, none⟩ = some (.int .u8 (data.getD k 0)) ∧ w7.frozen? ⟨da, k, none⟩ = false := by simpa [rdOf] using hcl
      have hp := Kd.R_putn HR7o.out (k : Int) z
      rw [Int.toNat_natCast] at hp
      have HR7 := Aside0.mk (show Kd.R (Kd.int .u8) 5 (w7.setCell ⟨da, k, none⟩ (.int .u8 z)) w3.heap.size (fun _ => True) (.slice (some ⟨da, 0, none⟩) (data.set k z).length cd) (data.set k z) by rw [List.length_set]; exact hp)
      have HV7 := Aside0.mk (upd_setNew (b := da) (i := k) (v := .int .u8 z) HV7o.out ha1)
      have HLen := Aside0.mk (show (data.set k z).length = data.length by simp)
      have hki : (k : Int) < data.length := by omega
      generalize data.getD k 0 = z9 at ck
      clear hs7 hu z1 hcl hp ha2
      have HY := Aside0.mk (blk_upd HX3.out HV7.out (fun e => by omega))
      have HZ := Aside0.mk (blk_upd HT3.out HV7.out (fun e => by omega))
      have rz := blk_cell HY.out
      have fz := blk_free HY.out
      have lz := blk_lt HY.out
      have rt := blk_cell HZ.out
      have lt1 := blk_lt HZ.out
      go_wp2
      refine bodyPost_ret (v := .tuple #[.agg #[.int .i64 wi, .int .i64 ro, .int .i64 y, .int .i64 x, .bool hi, .slice A' ch.length c', .slice B' hs.length d'], .slice (some ⟨da, 0, none⟩) data.length cd]) ?hs rfl ⟨wi, ro, y, x, hi, A', B', c', d', ch, hs, (some ⟨da, 0, none⟩), cd, (data.set k z), by rw [HLen.out], ?_, ?_, HCC.out.1, HCC.out.2, ?_, ?_, (fun z' hz => (List.mem_or_eq_of_mem_set hz).elim (HBD.out z') (fun e => by rw [e]; omega)), (by rw [HLen.out]; omega), ?_⟩
      (case hs => simp [results, Try.results59, go_sem, *])
      · refine C_updJ (S := fun k => k = w.heap.size) (C_updJ HD3.out HV7.out (fun ad e _ => HNA.out ad e)) ?_ (fun ad e hn h0 => ?_)
        · (repeat (with_reducible first | exact Upd.refl _ _ | refine upd_setX ?_))
        · exact absurd h0 (HNA0.out ad e)
      · refine C_updJB (S := fun k => k = w.heap.size) (C_updJB HE3.out HV7.out (fun ad e _ => HNB.out ad e)) ?_ (fun ad e hn h0 => ?_)
        · (repeat (with_reducible first | exact Upd.refl _ _ | refine upd_setX ?_))
        · exact absurd h0 (HNB0.out ad e)
      · refine C_of_R (e := 5) (base := w3.heap.size) (ok := fun _ => True) (c := cd) ?_
        (repeat (with_reducible first | refine R_setI ?_ (by omega)))
        exact HR7.out
      · exact (Kd.R_reads' HR7.out).2.1
      · refine below_updG' (g := g) ?_ (by omega)
        (repeat (with_reducible first | refine upd_setNew ?_ (Nat.le_refl _)))
        exact upd_trans HU3.out HV7.out
  have b1 : (r == 1) = false := by simpa using c1
  clear c0 c1
  have HY := Aside0.mk (blk_upd HX3.out HV5.out (fun e => by omega))
  have HZ := Aside0.mk (blk_upd HT3.out HV5.out (fun e => by omega))
  have rz := blk_cell HY.out
  have fz := blk_free HY.out
  have lz := blk_lt HY.out
  have rt := blk_cell HZ.out
  have lt1 := blk_lt HZ.out
  go_wp2
  refine bodyPost_ret (v := .tuple #[.agg #[.int .i64 wi, .int .i64 ro, .int .i64 y, .int .i64 x, .bool hi, .slice A' ch.length c', .slice B' hs.length d'], .slice Ad data.length cd]) ?hs rfl ⟨wi, ro, y, x, hi, A', B', c', d', ch, hs, Ad, cd, data, rfl, ?_, ?_, HCC.out.1, HCC.out.2, ?_, ?_, HBD.out, (by omega), ?_⟩
  (case hs => simp [results, Try.results59, go_sem, *])
  · refine C_updJ (S := fun k => k = w.heap.size) (C_updJ HD3.out HV5.out (fun ad e _ => HNA.out ad e)) ?_ (fun ad e hn h0 => ?_)
    · (repeat (with_reducible first | exact Upd.refl _ _ | refine upd_setX ?_))
    · exact absurd h0 (HNA0.out ad e)
  · refine C_updJB (S := fun k => k = w.heap.size) (C_updJB HE3.out HV5.out (fun ad e _ => HNB.out ad e)) ?_ (fun ad e hn h0 => ?_)
    · (repeat (with_reducible first | exact Upd.refl _ _ | refine upd_setX ?_))
    · exact absurd h0 (HNB0.out ad e)
  · refine C_of_R (e := 5) (base := w3.heap.size) (ok := fun _ => True) (c := cd) ?_
    (repeat (with_reducible first | refine R_setI ?_ (by omega)))
    exact HR5.out
  · exact (Kd.R_reads' HR5.out).2.1
  · refine below_updG' (g := g) ?_ (by omega)
    (repeat (with_reducible first | refine upd_setNew ?_ (Nat.le_refl _)))
    exact upd_trans HU3.out HV5.out
end Go.Proofs.Ytpfponhaofdbaaa.M
