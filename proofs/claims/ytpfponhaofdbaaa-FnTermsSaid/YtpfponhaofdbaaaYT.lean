import Derived.Test.YtpfponhaofdbaaaY
import Derived.Test.YtpfponhaofdbaaaH
set_option linter.unusedVariables false
set_option linter.unusedSimpArgs false
namespace Go.Proofs.Ytpfponhaofdbaaa.M
open Go.RowKit Go.Proofs.YtpfponhaofdbaaaW.PrintWords

set_option maxRecDepth 100000 in
set_option maxHeartbeats 1000000 in
theorem TermText_c (wi ro y x : Int) (hi : Bool) (A : Option Addr) (c : Nat) (ch : List Int) (B : Option Addr) (d : Nat) (hs : List Bool) (w : World)
    (hr : Kd.C (Kd.int .i64) w A ch.length ch) (hr2 : Kd.C Kd.bool w B hs.length hs) (hc : ch.length ≤ c) (hd : hs.length ≤ d) :
    Calls Try.prog 41 #[.agg #[.int .i64 wi, .int .i64 ro, .int .i64 y, .int .i64 x, .bool hi, .slice A ch.length c, .slice B hs.length d]] w fun e w' => e = .returned (.agg #[.int .i64 (termTextP wi ro y x hi ch hs).1, .string (termTextP wi ro y x hi ch hs).2]) ∧ Below w.heap.size w w' := by
  have HR := Aside0.mk hr
  have HS := Aside0.mk hr2
  have hm := Kd.C_max hr
  have hm2 := Kd.C_max hr2
  by_cases g : termFault wi ro y x ch hs = 0
  · have HQ := Aside0.mk (show termTextP wi ro y x hi ch hs = (0, strOfNums (txt wi ch ch.length)) by simp [termTextP, g])
    have ff := termFault_form g
    have HFF := Aside0.mk ff
    obtain ⟨n, rfl⟩ : ∃ n : Nat, wi = n := ⟨wi.toNat, by omega⟩
    obtain ⟨R, rfl⟩ : ∃ R : Nat, ro = R := ⟨ro.toNat, by omega⟩
    have hRn : ch.length = R * n := by have := ff.2.2.2.2.1; rw [← Int.natCast_mul] at this; omega
    have h520 : ch.length ≤ 520 := ff.2.2.2.2.2.2.2
    have hpos : 0 < ch.length := by rw [hRn]; exact Nat.mul_pos (by omega) (by omega)
    obtain ⟨ad, rfl, hz⟩ := at1 hr 0 0 hpos
    have hlt : ad.block < w.heap.size := by
      have := World.block_lt_of_cell? w _ hz
      exact this
    have h4 : 1 ≤ n := by omega
    have h40 : n ≤ 40 := by omega
    clear ff hr hr2 hz
    have HRN := Aside0.mk hRn
    have HG := Aside0.mk g
    clear g hRn
    go_enter Try.func41, Try.ntmps41
    go_wp2_with fail
    refine Calls.mono (TermFault_c n R y x hi (some ad) B c d ch hs _ (by repeat (with_reducible first | exact HR.out | refine Kd.C_alloc ?_ _ | refine Kd.C_drewN ?_ _ | refine Kd.C_drew ?_)) hc hm2) ?_
    rintro e w1 ⟨rfl, hb1⟩
    rw [HG.out]
    have HB1 := Aside0.mk hb1
    obtain ⟨hx1, hf1⟩ := bcell hb1
    have sz1 := hb1.size
    (try simp only [size_alloc, size_drew, size_drewN] at sz1)
    have l1 : w.heap.size + 1 < w1.heap.size := by omega
    clear hb1
    go_wp2_with fail
    refine Calls.mono (termText_c n R R y x hi ad c ch B d hs w1 (by repeat (with_reducible first | exact HR.out | refine Kd.C_below ?_ HB1.out | refine Kd.C_alloc ?_ _ | refine Kd.C_drewN ?_ _ | refine Kd.C_drew ?_)) hc h4 h40 HRN.out (by rw [← HRN.out]; exact h520) HFF.out.2.2.2.2.2.2.1 (by omega)) ?_
    rintro e w2 ⟨rfl, hb2⟩
    have HB2 := Aside0.mk hb2
    obtain ⟨hx2, hf2⟩ := bcell hb2
    have sz2 := hb2.size
    have l2 : w.heap.size + 1 < w2.heap.size := by omega
    clear hb2
    generalize hS : strOfNums (txt (↑n) ch ch.length) = S at *
    have HS0 := Aside0.mk hS
    clear hS
    go_wp2
    refine bodyPost_ret (v := .agg #[.int .i64 0, .string S]) (by simp [results, Try.results41, go_sem, hx1, hx2, l1, l2]) rfl ⟨?_, (by repeat (first | exact Below.refl _ _ | refine below_end ?_ HB2.out | refine below_end ?_ HB1.out | refine below_alloc ?_ _ | refine below_drew ?_ | refine pw_below_drewN ?_ _ | refine Below.setCell ?_ (by dsimp only; omega) _))⟩
    rw [HQ.out]
  · have HQ := Aside0.mk (show termTextP wi ro y x hi ch hs = (termFault wi ro y x ch hs, ByteArray.empty) by simp [termTextP, g])
    have bf : (termFault wi ro y x ch hs != 0) = true := by simpa using g
    clear hr hr2
    generalize hT : termFault wi ro y x ch hs = tf at g bf HQ
    have HT := Aside0.mk hT
    clear hT
    go_enter Try.func41, Try.ntmps41
    go_wp2_with fail
    refine Calls.mono (TermFault_c wi ro y x hi A B c d ch hs _ (by repeat (with_reducible first | exact HR.out | refine Kd.C_alloc ?_ _ | refine Kd.C_drewN ?_ _ | refine Kd.C_drew ?_)) hc hm2) ?_
    rintro e w1 ⟨rfl, hb1⟩
    rw [HT.out]
    have HB1 := Aside0.mk hb1
    obtain ⟨hx1, hf1⟩ := bcell hb1
    have sz1 := hb1.size
    (try simp only [size_alloc, size_drew, size_drewN] at sz1)
    have l1 : w.heap.size + 1 < w1.heap.size := by omega
    clear hb1
    go_wp2
    refine bodyPost_ret (v := .agg #[.int .i64 tf, .string ByteArray.empty]) (by simp [results, Try.results41, go_sem, hx1, l1]; rfl) rfl ⟨?_, (by repeat (first | exact Below.refl _ _ | refine below_end ?_ HB1.out | refine below_alloc ?_ _ | refine below_drew ?_ | refine pw_below_drewN ?_ _ | refine Below.setCell ?_ (by dsimp only; omega) _))⟩
    rw [HQ.out]
end Go.Proofs.Ytpfponhaofdbaaa.M
