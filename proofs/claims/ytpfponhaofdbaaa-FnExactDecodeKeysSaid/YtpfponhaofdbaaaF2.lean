import Derived.Test.YtpfponhaofdbaaaFP
set_option linter.unusedVariables false
set_option linter.unusedSimpArgs false
namespace Go.Proofs.Ytpfponhaofdbaaa.M
open Go.RowKit Go.Proofs.YtpfponhaofdbaaaW.PrintWords

theorem p10_small {m : Int} {a : Nat} (h : m < p10 a) (ha : a < 3) : m < 100 := by
  rcases (show a = 0 ∨ a = 1 ∨ a = 2 by omega) with rfl | rfl | rfl <;> simp [p10] at h <;> omega
theorem mem_getD {d : List Int} {i : Nat} (h : i < d.length) : d.getD i 0 ∈ d := by
  rw [List.getD_eq_getElem?_getD, List.getElem?_eq_getElem h]; exact List.getElem_mem h
theorem rdg_go {d : List Int} {a : Nat} {m : Int} {r : Int × Nat} (h : rdg d (3 - a) m a = r) (h3 : a < 3) (hc : a < d.length ∧ 48 ≤ d.getD a 0 ∧ d.getD a 0 ≤ 57 ∧ (0 < a ∨ d.getD a 0 ≠ 48)) : rdg d (3 - (a + 1)) (10 * m + (d.getD a 0 - 48)) (a + 1) = r := by
  rw [← h, show 3 - a = (3 - (a + 1)) + 1 by omega, rdg, if_pos hc]
theorem rdg_end {d : List Int} {a : Nat} {m : Int} {r : Int × Nat} (h : rdg d (3 - a) m a = r) (ha : a ≤ 3) (hc : ¬ (a < d.length ∧ a < 3 ∧ 48 ≤ d.getD a 0 ∧ d.getD a 0 ≤ 57 ∧ (0 < a ∨ d.getD a 0 ≠ 48))) : r = (m, a) := by
  rcases Nat.lt_or_ge a 3 with h3 | h3
  · rw [← h, show 3 - a = (3 - (a + 1)) + 1 by omega, rdg, if_neg (fun h => hc ⟨h.1, h3, h.2⟩)]
  · rw [← h, show 3 - a = 0 by omega]; rfl

set_option maxRecDepth 100000 in
theorem readDigits_c (A : Option Addr) (c : Nat) (d : List Int) (w : World) (hr : Kd.C (Kd.int .u8) w A d.length d) (hb : ∀ z ∈ d, 0 ≤ z ∧ z ≤ 255) :
    Calls Try.prog 127 #[.slice A d.length c] w fun e w' => e = .returned (.tuple #[.int .i64 (rdg d 3 0 0).1, .int .i64 ((rdg d 3 0 0).2 : Int)]) ∧ w = w' := by
  have HR := Aside0.mk hr
  have HB := Aside0.mk hb
  have hm := Kd.C_max hr
  clear hr hb
  go_enter Try.func127, Try.ntmps127
  go_wp2
  go_loop [4, 5] (fun n i => ∃ (a : Nat) (m : Int), a ≤ 3 ∧ a ≤ d.length ∧ n = .int .i64 m ∧ i = .int .i64 a ∧ 0 ≤ m ∧ Aside0 (m < p10 a) ∧ Aside0 (rdg d (3 - a) m a = rdg d 3 0 0)) (fun _ i => 3 - (intOf i).toNat)
  case atStart => exact ⟨0, 0, by omega, by omega, rfl, rfl, by omega, ⟨by decide⟩, ⟨rfl⟩⟩
  case round =>
    obtain ⟨a, m, ha, hal, rfl, rfl, hm0, HP, HG⟩ := hrel
    by_cases h1 : a < d.length
    · by_cases h3 : a < 3
      · obtain ⟨ad, e, hx⟩ := at1 HR.out 0 a h1
        cases e
        have hv := HB.out (d.getD a 0) (mem_getD h1)
        have hpm := p10_small HP.out h3
        generalize hgv : d.getD a 0 = v at hx hv
        have HV := Aside0.mk hgv
        clear hgv
        by_cases g1 : 48 ≤ v
        · by_cases g2 : v ≤ 57
          · by_cases g3 : 0 < a
            · have hs : IntKind.u8.wrap (v - 48) = v - 48 := by rw [IntKind.wrap_u8]; omega
              go_wp2
              go_round
              case rel => exact ⟨a + 1, 10 * m + (v - 48), by omega, by omega, by go_num, by go_num, by omega, ⟨by have := HP.out; show _ < 10 * p10 a; omega⟩, ⟨by have := rdg_go HG.out h3 ⟨h1, by rw [HV.out]; exact g1, by rw [HV.out]; exact g2, .inl g3⟩; rw [HV.out] at this; exact this⟩⟩
              case measure => simp [intOf]; omega
            · by_cases g4 : v = 48
              · have HE := Aside0.mk (rdg_end HG.out ha (fun h => by have := h.2.2.2.2; rw [HV.out] at this; omega))
                have b4 : (v != 48) = false := by simp [g4]
                clear g4
                go_wp2
                go_ret2
                exact ⟨by rw [HE.out]; rfl, rfl⟩
              · have b4 : (v != 48) = true := by simp [g4]
                have hs : IntKind.u8.wrap (v - 48) = v - 48 := by rw [IntKind.wrap_u8]; omega
                have g4' : 48 < v := by omega
                clear g4
                go_wp2
                go_round
                case rel => exact ⟨a + 1, 10 * m + (v - 48), by omega, by omega, by go_num, by go_num, by omega, ⟨by have := HP.out; show _ < 10 * p10 a; omega⟩, ⟨by have := rdg_go HG.out h3 ⟨h1, by rw [HV.out]; exact g1, by rw [HV.out]; exact g2, .inr (by rw [HV.out]; omega)⟩; rw [HV.out] at this; exact this⟩⟩
                case measure => simp [intOf]; omega
          · have HE := Aside0.mk (rdg_end HG.out ha (fun h => by have := h.2.2.2.1; rw [HV.out] at this; omega))
            go_wp2
            go_ret2
            exact ⟨by rw [HE.out]; rfl, rfl⟩
        · have HE := Aside0.mk (rdg_end HG.out ha (fun h => by have := h.2.2.1; rw [HV.out] at this; omega))
          go_wp2
          go_ret2
          exact ⟨by rw [HE.out]; rfl, rfl⟩
      · have HE := Aside0.mk (rdg_end HG.out ha (fun h => h3 h.2.1))
        go_wp2
        go_ret2
        exact ⟨by rw [HE.out]; rfl, rfl⟩
    · have HE := Aside0.mk (rdg_end HG.out ha (fun h => h1 h.1))
      go_wp2
      go_ret2
      exact ⟨by rw [HE.out]; rfl, rfl⟩

/-! begins -/
theorem strOf_eq {l : List Int} {s : ByteArray} (hb : ∀ z ∈ l, 0 ≤ z ∧ z ≤ 255) : strOfNums l = s ↔ l = bytesOf s := by
  constructor
  · rintro rfl
    unfold strOfNums bytesOf
    rw [List.toList_toArray, List.map_map]
    conv => lhs; rw [← List.map_id l]
    apply List.map_congr_left
    intro z hz
    have := hb z hz
    simp only [Function.comp, id]
    rw [UInt8.toNat_ofNat']
    omega
  · rintro rfl
    unfold strOfNums bytesOf
    apply ByteArray.ext
    apply Array.ext'
    rw [List.toList_toArray, List.map_map]
    conv => rhs; rw [← List.map_id s.data.toList]
    apply List.map_congr_left
    intro z hz
    simp
set_option maxRecDepth 100000 in
theorem begins_c (A : Option Addr) (c : Nat) (d : List Int) (s : ByteArray) (w : World) (hr : Kd.C (Kd.int .u8) w A d.length d) (hc : d.length ≤ c) (hb : ∀ z ∈ d, 0 ≤ z ∧ z ≤ 255) (hs : s.size ≤ 9223372036854775807) :
    Calls Try.prog 150 #[.slice A d.length c, .string s] w fun e w' => e = .returned (.bool (begP d (bytesOf s))) ∧ w = w' := by
  have hm := Kd.C_max hr
  have hl := bytesOf_length s
  by_cases h1 : s.size ≤ d.length
  · have htk : (d.take s.size).length = s.size := by rw [List.length_take]; omega
    have hct := Kd.C_take hr h1
    rw [htk] at hct
    have hst := Kd.C_string (P := Try.prog) (src := 36) (dst := 9) (c := c) Try.underlying36 Try.underlying5 Try.underlying9 hct
    obtain ⟨i, hi, hz0, hz1, hz2⟩ := info_parts info_u8'
    clear hz0 hz1 hz2
    have hcut := cut_to (P := Try.prog) 36 5 .i64 Try.underlying36 hi A d.length c (s.size : Int) (by omega) (by omega) hc w
    rw [Int.toNat_natCast] at hcut
    have HQ := Aside0.mk (show begP d (bytesOf s) = ((strOfNums (d.take s.size)).toList == s.toList) by
      unfold begP
      rw [hl, Bool.eq_iff_iff]
      simp only [h1, decide_true, Bool.true_and, decide_eq_true_iff, beq_iff_eq, str_eq]
      exact (strOf_eq (fun z hz => hb z (List.mem_of_mem_take hz))).symm)
    clear hr hct htk hl hb
    go_enter Try.func150, Try.ntmps150
    go_wp2
    go_ret
    exact ⟨by rw [HQ.out]; rfl, rfl⟩
  · have HQ := Aside0.mk (show begP d (bytesOf s) = false by unfold begP; rw [hl]; simp [h1])
    clear hl
    go_enter Try.func150, Try.ntmps150
    go_wp2
    go_ret
    exact ⟨by rw [HQ.out]; rfl, rfl⟩

/-! a terminal's box, with its two rows -/
def TAt (W : World) (g a b c d base : Nat) (s : TS) : Prop :=
  W.heap[g]? = some (.cells #[.int .i64 s.wi, .int .i64 s.ro, .int .i64 s.y, .int .i64 s.x, .bool s.hi, .slice (some ⟨a, 0, none⟩) s.ch.length c, .slice (some ⟨b, 0, none⟩) s.hs.length d] 47 (0, 0)) ∧
  Kd.R (Kd.int .i64) 2 W base (fun _ => True) (.slice (some ⟨a, 0, none⟩) s.ch.length c) s.ch ∧ Kd.R Kd.bool 4 W base (fun _ => True) (.slice (some ⟨b, 0, none⟩) s.hs.length d) s.hs
section
variable {W W' : World} {g a b c d base : Nat} {s : TS}
theorem TAt.ne (h : TAt W g a b c d base s) : a ≠ g ∧ b ≠ g ∧ a ≠ b := by
  obtain ⟨h1, h2, h3⟩ := h
  exact ⟨fun e => row_box h2 h1 (by decide) (by rw [← e]; rfl), fun e => row_box h3 h1 (by decide) (by rw [← e]; rfl), fun e => rows_apart h2 h3 (by decide) a rfl (by rw [e]; rfl)⟩
theorem TAt.lt (h : TAt W g a b c d base s) : g < W.heap.size ∧ a < W.heap.size ∧ b < W.heap.size ∧ base ≤ a ∧ base ≤ b :=
  ⟨blk_lt h.1, Kd.R_lt h.2.1 a rfl, Kd.R_lt h.2.2 b rfl, Kd.R_base h.2.1 a rfl, Kd.R_base h.2.2 b rfl⟩
theorem TAt.below (h : TAt W g a b c d base s) (hb : Below W.heap.size W W') : TAt W' g a b c d base s := ⟨blk_below h.1 hb, Kd.R_below h.2.1 hb, Kd.R_below h.2.2 hb⟩
theorem TAt.drew (h : TAt W g a b c d base s) : TAt W.drew g a b c d base s := h.below (below_drew (Below.refl _ _))
theorem TAt.drewN (h : TAt W g a b c d base s) (n : Nat) : TAt (W.drewN n) g a b c d base s := h.below (pw_below_drewN (Below.refl _ _) n)
theorem TAt.alloc (h : TAt W g a b c d base s) (o : Obj) : TAt (W.alloc o) g a b c d base s := h.below (below_alloc (Below.refl _ _) o)
theorem TAt.ch (h : TAt W g a b c d base s) : ∀ i, i < s.ch.length → W.cell? ⟨a, i, none⟩ = some (.int .i64 (s.ch.getD i 0)) ∧ W.frozen? ⟨a, i, none⟩ = false := fun i hi => by
  have := Kd.R_celln 0 h.2.1 (i : Int) (by omega) (by omega)
  simpa [rdOf] using this
theorem TAt.hs (h : TAt W g a b c d base s) : ∀ i, i < s.hs.length → W.cell? ⟨b, i, none⟩ = some (.bool (s.hs.getD i false)) ∧ W.frozen? ⟨b, i, none⟩ = false := fun i hi => by
  have := Kd.R_celln false h.2.2 (i : Int) (by omega) (by omega)
  simpa [rdOf] using this
theorem TAt.setCh (h : TAt W g a b c d base s) (i : Nat) (z : Int) : TAt (W.setCell ⟨a, i, none⟩ (.int .i64 z)) g a b c d base { s with ch := s.ch.set i z } := by
  obtain ⟨n1, n2, n3⟩ := h.ne
  obtain ⟨h1, h2, h3⟩ := h
  have hp := Kd.R_putn h2 (i : Int) z
  rw [Int.toNat_natCast] at hp
  refine ⟨?_, ?_, R_updB h3 (upd_set W a i _) (fun k hk e => n3 (by injection hk with hk; exact e.symm.trans hk.symm))⟩
  · rw [List.length_set]; exact blk_setO h1 n1.symm
  · rw [List.length_set]; exact hp
theorem TAt.setHs (h : TAt W g a b c d base s) (i : Nat) (z : Bool) : TAt (W.setCell ⟨b, i, none⟩ (.bool z)) g a b c d base { s with hs := s.hs.set i z } := by
  obtain ⟨n1, n2, n3⟩ := h.ne
  obtain ⟨h1, h2, h3⟩ := h
  have hp := Kd.R_putn h3 (i : Int) z
  rw [Int.toNat_natCast] at hp
  refine ⟨?_, R_updI h2 (upd_set W b i _) (fun k hk e => n3 (by injection hk with hk; exact hk.trans e)), ?_⟩
  · rw [List.length_set]; exact blk_setO h1 n2.symm
  · rw [List.length_set]; exact hp
theorem TAt.setBox (h : TAt W g a b c d base s) (i : Nat) (v : Value) (s' : TS) (hch : s'.ch = s.ch) (hhs : s'.hs = s.hs)
    (e : (#[.int .i64 s.wi, .int .i64 s.ro, .int .i64 s.y, .int .i64 s.x, .bool s.hi, .slice (some ⟨a, 0, none⟩) s.ch.length c, .slice (some ⟨b, 0, none⟩) s.hs.length d] : Array Value).setIfInBounds i v = #[.int .i64 s'.wi, .int .i64 s'.ro, .int .i64 s'.y, .int .i64 s'.x, .bool s'.hi, .slice (some ⟨a, 0, none⟩) s.ch.length c, .slice (some ⟨b, 0, none⟩) s.hs.length d]) :
    TAt (W.setCell ⟨g, i, none⟩ v) g a b c d base s' := by
  obtain ⟨n1, n2, n3⟩ := h.ne
  obtain ⟨h1, h2, h3⟩ := h
  refine ⟨?_, ?_, ?_⟩
  · rw [hch, hhs]; exact blk_set h1 e
  · rw [hch]; exact R_updI h2 (upd_set W g i _) (fun k hk e => n1 (by injection hk with hk; exact hk.trans e))
  · rw [hhs]; exact R_updB h3 (upd_set W g i _) (fun k hk e => n2 (by injection hk with hk; exact hk.trans e))
/-- What is left untouched: all but the terminal's three blocks. -/
def TKeep (w w' : World) (g a b : Nat) : Prop := Upd w w' (fun k => k = g ∨ k = a ∨ k = b)
theorem TKeep.refl (w : World) (g a b : Nat) : TKeep w w g a b := ⟨rfl, rfl, rfl, Nat.le_refl _, fun _ _ _ => rfl⟩
theorem TKeep.trans {w w1 w2 : World} (h : TKeep w w1 g a b) (k : TKeep w1 w2 g a b) : TKeep w w2 g a b := Upd.trans h k (fun _ _ h => h) (fun _ _ h => h)
theorem TKeep.below {w w1 w2 : World} (h : TKeep w w1 g a b) (k : Below w1.heap.size w1 w2) : TKeep w w2 g a b := h.trans (Upd.of_below k _)
theorem TKeep.drew {w w1 : World} (h : TKeep w w1 g a b) : TKeep w w1.drew g a b := ⟨h.os, h.tape, h.output, h.size, h.block⟩
theorem TKeep.drewN {w w1 : World} (h : TKeep w w1 g a b) (n : Nat) : TKeep w (w1.drewN n) g a b := ⟨h.os, h.tape, h.output, h.size, h.block⟩
theorem TKeep.alloc {w w1 : World} (h : TKeep w w1 g a b) (o : Obj) : TKeep w (w1.alloc o) g a b := h.below (below_alloc (Below.refl _ _) o)
theorem TKeep.setA {w w1 : World} (h : TKeep w w1 g a b) (i : Nat) (v : Value) : TKeep w (w1.setCell ⟨a, i, none⟩ v) g a b := h.trans ((upd_set w1 a i v).mono (fun _ _ h => .inr (.inl h)))
theorem TKeep.setB {w w1 : World} (h : TKeep w w1 g a b) (i : Nat) (v : Value) : TKeep w (w1.setCell ⟨b, i, none⟩ v) g a b := h.trans ((upd_set w1 b i v).mono (fun _ _ h => .inr (.inr h)))
theorem TKeep.setG {w w1 : World} (h : TKeep w w1 g a b) (i : Nat) (v : Value) : TKeep w (w1.setCell ⟨g, i, none⟩ v) g a b := h.trans ((upd_set w1 g i v).mono (fun _ _ h => .inl h))
end
end Go.Proofs.Ytpfponhaofdbaaa.M
