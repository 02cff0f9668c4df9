import Derived.Test.YtpfponhaofdbaaaF4
import Derived.BigQuiet
set_option linter.unusedVariables false
set_option linter.unusedSimpArgs false
namespace Go.Proofs.Ytpfponhaofdbaaa.M
open Go.RowKit Go.Proofs.YtpfponhaofdbaaaW.PrintWords

/-! the source of a draw: a box of bytes and a place in them -/
structure Src (W : World) (g : Nat) (A : Option Addr) (c : Nat) (code : List Int) (p : Int) : Prop where
  box : W.heap[g]? = some (.cells #[.slice A code.length c, .int .i64 p] 149 (0, 0))
  row : Kd.C (Kd.int .u8) W A code.length code
  lt : ∀ ad, A = some ad → 0 < code.length → ad.block < g
  bd : ∀ z ∈ code, 0 ≤ z ∧ z ≤ 255
  p0 : 0 ≤ p
section
variable {W W' : World} {g c : Nat} {A : Option Addr} {code : List Int} {p : Int}
theorem Src.upd {S : Nat → Prop} (h : Src W g A c code p) (hu : Upd W W' S) (hS : ∀ k, S k → g < k) : Src W' g A c code p :=
  ⟨blk_upd h.box hu (fun e => by have := hS g e; omega), C_upd h.row hu (fun ad e hn hs => by have := hS _ hs; have := h.lt ad e hn; omega), h.lt, h.bd, h.p0⟩
theorem Src.below (h : Src W g A c code p) (hb : Below W.heap.size W W') : Src W' g A c code p := ⟨blk_below h.box hb, Kd.C_below h.row hb, h.lt, h.bd, h.p0⟩
theorem Src.drew (h : Src W g A c code p) : Src W.drew g A c code p := h.below (below_drew (Below.refl _ _))
theorem Src.drewN (h : Src W g A c code p) (n : Nat) : Src (W.drewN n) g A c code p := h.below (pw_below_drewN (Below.refl _ _) n)
theorem Src.alloc (h : Src W g A c code p) (o : Obj) : Src (W.alloc o) g A c code p := h.below (below_alloc (Below.refl _ _) o)
theorem Src.set (h : Src W g A c code p) (b i : Nat) (v : Value) (hb : g < b) : Src (W.setCell ⟨b, i, none⟩ v) g A c code p := h.upd (upd_set W b i v) (fun k e => by rw [e]; exact hb)
theorem Src.next (h : Src W g A c code p) : Src (W.setCell ⟨g, 1, none⟩ (.int .i64 (p + 1))) g A c code (p + 1) :=
  ⟨blk_set h.box rfl, C_upd h.row (upd_set W g 1 _) (fun ad e hn e' => by have := h.lt ad e hn; omega), h.lt, h.bd, by have := h.p0; omega⟩
end
theorem upd_drewN {w w1 : World} {S : Nat → Prop} (h : Upd w w1 S) (n : Nat) : Upd w (w1.drewN n) S := ⟨h.os, h.tape, h.output, h.size, h.block⟩
theorem upd_drew {w w1 : World} {S : Nat → Prop} (h : Upd w w1 S) : Upd w w1.drew S := ⟨h.os, h.tape, h.output, h.size, h.block⟩

theorem w64_in (n : Int) (h : -9223372036854775808 ≤ n ∧ n ≤ 9223372036854775807) : wrap64 n = n := by unfold wrap64; omega
theorem l1n_a {z : Int} {s : Nat} (hz : 0 ≤ z ∧ z ≤ 255) (hs : (s : Int) ≤ 100000) : wrap64 (s : Int) = s ∧ wrap64 z = z ∧ wrap64 ((s : Int) * 37) = (s : Int) * 37 ∧ wrap64 (z + (s : Int) * 37) = z + (s : Int) * 37 ∧ 0 ≤ z + (s : Int) * 37 ∧ z + (s : Int) * 37 ≤ 4000000 :=
  ⟨w64_in _ ⟨by omega, by omega⟩, w64_in _ ⟨by omega, by omega⟩, w64_in _ ⟨by omega, by omega⟩, w64_in _ ⟨by omega, by omega⟩, by omega, by omega⟩
theorem l1n_b {v z p : Int} (h0 : 0 ≤ v) (h1 : v ≤ 4000000) (hz : 0 ≤ z ∧ z ≤ 255) (p0 : 0 ≤ p) (hp : p ≤ 100000) : wrap64 (v * 251) = v * 251 ∧ wrap64 z = z ∧ wrap64 (z * 13) = z * 13 ∧ wrap64 (v * 251 + z * 13) = v * 251 + z * 13 ∧ wrap64 (v * 251 + z * 13 + p) = v * 251 + z * 13 + p ∧ 0 ≤ v * 251 + z * 13 + p :=
  ⟨w64_in _ ⟨by omega, by omega⟩, w64_in _ ⟨by omega, by omega⟩, w64_in _ ⟨by omega, by omega⟩, w64_in _ ⟨by omega, by omega⟩, w64_in _ ⟨by omega, by omega⟩, by omega⟩
theorem l1n_c {r n : Int} (h0 : 0 ≤ r) (h1 : r < n) (hn : n ≤ 2000000) : wrap64 r = r := w64_in _ ⟨by omega, by omega⟩

set_option maxRecDepth 100000 in
set_option maxHeartbeats 300000 in
theorem l1Next_c (g : Nat) (A : Option Addr) (c : Nat) (code : List Int) (p n : Int) (w : World) (h : Src w g A c code p) (hp : p ≤ 100000) (hn : n ≤ 2000000) (hl : code.length ≤ 100000000) :
    Calls Try.prog 108 #[.pointer (some ⟨g, 0, none⟩), .int .i64 n] w fun e w' => ∃ r : Int, e = .returned (.int .i64 r) ∧ 0 ≤ r ∧ (1 ≤ n → r < n) ∧ Src w' g A c code (p + 1) ∧ Upd w w' (fun k => k = g) := by
  have p0 := h.p0
  have rd0 := blk_cell h.box
  have fr0 := blk_free h.box
  have lt0 := blk_lt h.box
  have NX := Aside0.mk h.next
  have rd1 := blk_cell NX.out.box
  have UX := Aside0.mk (upd_set w g 1 (.int .i64 (p + 1)))
  have H := Aside0.mk h
  clear h
  have E1W := Aside0.mk (show wrap64 (p + 1) = p + 1 from w64_in _ ⟨by omega, by omega⟩)
  have e1 : IntKind.i64.wrap (p + 1) = p + 1 := by rw [IntKind.wrap_i64]; omega
  have e2 : IntKind.i64.wrap (p + 1 - 1) = p := by rw [IntKind.wrap_i64]; omega
  have e2' : wrap64 p = p := w64_in _ ⟨by omega, by omega⟩
  have e2'' : IntKind.i64.wrap p = p := by rw [IntKind.wrap_i64]; omega
  by_cases hn1 : n < 1
  · go_enter Try.func108, Try.ntmps108
    go_wp2
    go_ret
    exact ⟨0, rfl, Int.le_refl _, fun h => by omega, NX.out, UX.out⟩
  · have n1 : 1 ≤ n := by omega
    have nz : (n == 0) = false := by simp; omega
    by_cases hk : code.length = 0
    · have e3 : IntKind.i64.wrap (p * 7) = p * 7 := by rw [IntKind.wrap_i64]; omega
      have e4 : (p * 7).tmod n = (p * 7) % n := Int.tmod_eq_emod_of_nonneg (by omega)
      have b1 := Int.emod_nonneg (p * 7) (show n ≠ 0 by omega)
      have b2 := Int.emod_lt_of_pos (p * 7) (show 0 < n by omega)
      generalize (p * 7) % n = r at *
      have e5 : IntKind.i64.wrap r = r := by rw [IntKind.wrap_i64]; omega
      go_enter Try.func108, Try.ntmps108
      go_wp2
      go_ret
      exact ⟨r, rfl, b1, by first | exact fun _ => b2 | exact b2, NX.out, UX.out⟩
    · have kz : ((code.length : Int) == 0) = false := by simpa using hk
      obtain ⟨q, hq⟩ := Int.eq_ofNat_of_zero_le p0
      have em : p.tmod (code.length : Int) = ((q % code.length : Nat) : Int) := by rw [hq, Int.tmod_eq_emod_of_nonneg (by omega), Int.natCast_emod]
      have ed : p.tdiv (code.length : Int) = ((q / code.length : Nat) : Int) := by rw [hq, Int.tdiv_eq_ediv_of_nonneg (by omega), Int.natCast_ediv]
      have hm : q % code.length < code.length := Nat.mod_lt _ (by omega)
      have hd : q / code.length ≤ q := Nat.div_le_self _ _
      generalize q % code.length = m at em hm
      generalize q / code.length = s at ed hd
      obtain ⟨ad, e, hx⟩ := at1 NX.out.row 0 m hm
      cases e
      have hzb := H.out.bd (code.getD m 0) (mem_getD hm)
      generalize code.getD m 0 = z at hx hzb
      have hm1 : ((m : Nat) : Int) < code.length := by omega
      obtain ⟨es, ez, e3, e4, hv0, hv1⟩ := l1n_a hzb (show (s : Int) ≤ 100000 by omega)
      by_cases hn2 : n > 200
      · have em2 : (p + 1).tmod (code.length : Int) = (((q + 1) % code.length : Nat) : Int) := by rw [hq, Int.tmod_eq_emod_of_nonneg (by have := Int.natCast_nonneg q; exact Int.le_add_one this), Int.natCast_emod]; rfl
        have hm2 : (q + 1) % code.length < code.length := Nat.mod_lt _ (Nat.pos_of_ne_zero hk)
        generalize (q + 1) % code.length = m2 at em2 hm2
        obtain ⟨ad2, e, hx2⟩ := at1 NX.out.row 0 m2 hm2
        cases e
        have hzb2 := H.out.bd (code.getD m2 0) (mem_getD hm2)
        generalize code.getD m2 0 = z2 at hx2 hzb2
        have hm3 : ((m2 : Nat) : Int) < code.length := Int.ofNat_lt.2 hm2
        generalize hv : z + (s : Int) * 37 = v at *
        obtain ⟨e6, e7, e8, e9, e10, hy0⟩ := l1n_b hv0 hv1 hzb2 p0 hp
        have e11 : (v * 251 + z2 * 13 + p).tmod n = (v * 251 + z2 * 13 + p) % n := Int.tmod_eq_emod_of_nonneg hy0
        have b1 := Int.emod_nonneg (v * 251 + z2 * 13 + p) (fun e : n = 0 => by rw [e] at n1; exact absurd n1 (by decide))
        have b2 := Int.emod_lt_of_pos (v * 251 + z2 * 13 + p) (Int.lt_of_lt_of_le (by decide) n1)
        generalize (v * 251 + z2 * 13 + p) % n = r at *
        have e12 : wrap64 r = r := l1n_c b1 b2 hn
        clear hq p0 hzb hzb2 hv0 hv1 hy0 hd
        go_enter Try.func108, Try.ntmps108
        go_wp2
        go_quiet (fail)
        go_wp2
        rw [e4, ez, es, e3]
        clear es ez e3 e4 hv em ed e1 e2 hx hm1 e2' e2''
        have e1w := E1W.out
        go_quiet (fail)
        rw [e10]
        clear e6 e7 e8 e9 e10 e1w
        go_wp2
        go_ret
        exact ⟨r, rfl, b1, by first | exact fun _ => b2 | exact b2, by first | exact (NX.out.drewN _).drewN _ | exact NX.out.drewN _, by first | exact upd_drewN (upd_drewN UX.out _) _ | exact upd_drewN UX.out _⟩
      · generalize hv : z + (s : Int) * 37 = v at *
        have e11 : v.tmod n = v % n := Int.tmod_eq_emod_of_nonneg hv0
        have b1 := Int.emod_nonneg v (fun e : n = 0 => by rw [e] at n1; exact absurd n1 (by decide))
        have b2 := Int.emod_lt_of_pos v (Int.lt_of_lt_of_le (by decide) n1)
        generalize v % n = r at *
        have e12 : wrap64 r = r := l1n_c b1 b2 hn
        clear hq p0 hzb hv0 hv1 hd
        go_enter Try.func108, Try.ntmps108
        go_wp2
        go_quiet (fail)
        go_wp2
        go_ret
        exact ⟨r, rfl, b1, by first | exact fun _ => b2 | exact b2, NX.out.drewN _, upd_drewN UX.out _⟩
end Go.Proofs.Ytpfponhaofdbaaa.M
