import Derived.Test.YtpfponhaofdbaaaJ7
import Derived.Test.YtpfponhaofdbaaaJP2
import Derived.Test.YtpfponhaofdbaaaFD
import Derived.Test.YtpfponhaofdbaaaYT
import Derived.Deep.DeepCutAuto
import Derived.Deep.RegionHeld
set_option linter.unusedVariables false
set_option linter.unusedSimpArgs false
namespace Go.Proofs.Ytpfponhaofdbaaa.M
open Go.RowKit Go.Proofs.YtpfponhaofdbaaaW.PrintWords

set_option maxRecDepth 100000 in
set_option maxHeartbeats 300000 in
theorem lwBig_t (A : Option Addr) (c : Nat) (code : List Int) (w : World) (hl : 1048576 < code.length) :
    Calls Try.prog 58 #[.slice A code.length c] w fun e w' => e = .returned (.bool true) ∧ w = w' := by
  have h : ((code.length : Int) > 1048576) := by omega
  go_enter Try.func58, Try.ntmps58
  go_wp2
  go_ret
  exact ⟨rfl, rfl⟩

theorem C_setI {W : World} {A : Option Addr} {n : Nat} {xs : List Int} {b i : Nat} {v : Value} (h : Kd.C (Kd.int .i64) W A n xs) (hn : ∀ ad, A = some ad → 0 < n → ad.block ≠ b) : Kd.C (Kd.int .i64) (W.setCell ⟨b, i, none⟩ v) A n xs := C_upd h (upd_set W b i v) hn
theorem R_ne {α : Type} {d : Kd α} {e base b : Nat} {W : World} {ok : Nat → Prop} {ad : Addr} {c : Nat} {xs : List α} (h : Kd.R d e W base ok (.slice (some ad) xs.length c) xs) (hn : 0 < xs.length) (hb : b < base) : ad.block ≠ b := by
  obtain ⟨x, cx, ex, hx1, _, _⟩ := Kd.R_form h hn
  injection ex with ex
  injection ex with ex
  subst ex
  show x ≠ b
  omega
theorem below_upW {n : Nat} {a b : World} (h : Below n a b) {m : Nat} (hm : m ≤ n) : Below m a b := h.mono hm
theorem below_trans9 {a b c : World} (h : Below a.heap.size a b) (k : Below b.heap.size b c) : Below a.heap.size a c := below_end h k
theorem fldR0 (a b c d e f g h : Value) (W : World) : (Instr.field 52 (.agg #[a, b, c, d, e, f, g, h]) 0).run Try.prog W = .ok a W := by
  simp [Instr.field, asAgg, go_sem]
theorem fldR1 (a b c d e f g h : Value) (W : World) : (Instr.field 52 (.agg #[a, b, c, d, e, f, g, h]) 1).run Try.prog W = .ok (.agg #[b, c, d, e, f, g, h]) W := by
  simp [Instr.field, asAgg, go_sem]
theorem fldG1 (a b c d : Value) (W : World) : (Instr.field 63 (.agg #[a, b, c, d]) 1).run Try.prog W = .ok (.agg #[b, c, d]) W := by
  simp [Instr.field, asAgg, go_sem]
theorem fldT1 (a b : Value) (W : World) : (Instr.field 23 (.agg #[a, b]) 1).run Try.prog W = .ok b W := by
  simp [Instr.field, asAgg, go_sem]

set_option maxRecDepth 100000 in
set_option maxHeartbeats 12000000 in
theorem fnTerms_c (A : Option Addr) (c : Nat) (code : List Int) (w : World) (hr : Kd.C (Kd.int .u8) w A code.length code) (hb : ∀ z ∈ code, 0 ≤ z ∧ z ≤ 255) :
    Calls Try.prog 13 #[.slice A code.length c] w fun e w' => e = .returned (.bool true) ∧ Below w.heap.size w w' := by
  have HR := Aside0.mk hr
  have HB := Aside0.mk hb
  clear hr hb
  by_cases hbig : 1048576 < code.length
  · go_enter Try.func13, Try.ntmps13
    go_wp2_with fail
    refine Calls.mono (lwBig_t A c code _ hbig) ?_
    rintro e w' ⟨rfl, rfl⟩
    go_wp2
    go_ret
    exact ⟨rfl, Below.refl _ _⟩
  have hl : code.length ≤ 1048576 := by omega
  have hf0 := fldR0
  have hf1 := fldR1
  have hf2 := fldG1
  have hf3 := fldT1
  go_enter Try.func13, Try.ntmps13
  go_wp2_with fail
  refine Calls.mono (lwBig_c A c code _ hl) ?_
  rintro e w' ⟨rfl, rfl⟩
  go_wp2_with fail
  refine Calls.mono (drawFeedTerm_c A c code _ HR.out HB.out (by omega)) ?_
  rintro e w1 ⟨wi, ro, y, x, hi, TA, TB, tc, td, ch, hs, DA, dc, da, rfl, hC1, hC2, hc1, hc2, hCd, hcd, hbd, hld, hb1⟩
  have HK1 := Aside0.mk hC1
  have HK2 := Aside0.mk hC2
  have HKD := Aside0.mk hCd
  have HBD := Aside0.mk hbd
  have HB1 := Aside0.mk hb1
  have HCS := Aside0.mk (And.intro hc1 (And.intro hc2 hcd))
  have hmh := Kd.C_max hC2
  have HCode1 := Aside0.mk (Kd.C_below HR.out hb1)
  clear hC1 hC2 hCd hbd hb1 hc1 hc2 hcd
  by_cases hF : (feedTermP wi ro y x hi ch hs da).1 = 0
  rotate_left
  · generalize hv : feedTermP wi ro y x hi ch hs da = v at hF
    have HV := Aside0.mk hv
    have bF : (v.1 != 0) = true := by simpa using hF
    clear hv hF
    go_wp2_with fail
    refine Calls.mono (FeedTerm_c wi ro y x hi TA tc ch TB td hs DA dc da _ (by repeat (with_reducible first | exact HK1.out | refine Kd.C_alloc ?_ _ | refine Kd.C_drewN ?_ _ | refine Kd.C_drew ?_)) (by repeat (with_reducible first | exact HK2.out | refine Kd.C_alloc ?_ _ | refine Kd.C_drewN ?_ _ | refine Kd.C_drew ?_)) (by repeat (with_reducible first | exact HKD.out | refine Kd.C_alloc ?_ _ | refine Kd.C_drewN ?_ _ | refine Kd.C_drew ?_)) HCS.out.1 HCS.out.2.1 HCS.out.2.2 HBD.out) ?_
    rintro e w2 ⟨RA, rc, RB, rd, he, hrc, hR1, hrd, hR2, hb2⟩
    rw [HV.out] at he hrc hR1 hrd hR2
    subst he
    have HB2 := Aside0.mk hb2
    have sz2 := hb2.size
    simp only [size_alloc] at sz2
    have HT2 := Aside0.mk (show w2.heap[w1.heap.size]? = some (.cells #[.int .i64 wi, .int .i64 ro, .int .i64 y, .int .i64 x, .bool hi, .slice TA ch.length tc, .slice TB hs.length td] 47 (0, 0)) from (by repeat (with_reducible first | exact blk_new _ | refine blk_new' _ (by simp only [size_alloc, size_drew, size_drewN]) | refine blk_drewN ?_ _ | refine blk_drew ?_ | refine blk_alloc ?_ _ | refine blk_below ?_ HB2.out )))
    clear hb2 hR1 hR2 hrc hrd
    have rt := blk_cell (blk_alloc HT2.out (.cells #[.int .i64 v.1, .int .i64 v.2.1, .int .i64 v.2.2.1, .int .i64 v.2.2.2.1, .int .i64 v.2.2.2.2.1, .bool v.2.2.2.2.2.1, .slice RA v.2.2.2.2.2.2.1.length rc, .slice RB v.2.2.2.2.2.2.2.length rd] 52))
    have rr := blk_cell (blk_new (W := w2) (.cells #[.int .i64 v.1, .int .i64 v.2.1, .int .i64 v.2.2.1, .int .i64 v.2.2.2.1, .int .i64 v.2.2.2.2.1, .bool v.2.2.2.2.2.1, .slice RA v.2.2.2.2.2.2.1.length rc, .slice RB v.2.2.2.2.2.2.2.length rd] 52))
    have lt1 : w1.heap.size < w2.heap.size := by omega
    have HR2b := Aside0.mk (blk_new (W := w2) (.cells #[.int .i64 v.1, .int .i64 v.2.1, .int .i64 v.2.2.1, .int .i64 v.2.2.2.1, .int .i64 v.2.2.2.2.1, .bool v.2.2.2.2.2.1, .slice RA v.2.2.2.2.2.2.1.length rc, .slice RB v.2.2.2.2.2.2.2.length rd] 52))
    go_wp2_with fail
    go_region_held3 (fun W : World => (∀ i, W.cell? ⟨w1.heap.size, i, none⟩ = (#[.int .i64 wi, .int .i64 ro, .int .i64 y, .int .i64 x, .bool hi, .slice TA ch.length tc, .slice TB hs.length td] : Array Value)[i]?) ∧ (∀ i, W.cell? ⟨w2.heap.size, i, none⟩ = (#[.int .i64 v.1, .int .i64 v.2.1, .int .i64 v.2.2.1, .int .i64 v.2.2.2.1, .int .i64 v.2.2.2.2.1, .bool v.2.2.2.2.2.1, .slice RA v.2.2.2.2.2.2.1.length rc, .slice RB v.2.2.2.2.2.2.2.length rd] : Array Value)[i]?)) (first | ((repeat' apply And.intro) <;> (intro i; (repeat (first | (with_reducible refine (cell_drew _ _).trans ?_) | (with_reducible refine (cell_drewN _ _ _).trans ?_) | refine (World.cell?_setCell_far _ _ _ _ (by dsimp only; omega)).trans ?_ | refine (World.cell?_alloc_lt _ _ _ (by dsimp only; (try simp only [size_alloc, size_drew, size_drewN, size_setCell]); omega)).trans ?_)); first | (with_reducible exact rt i) | (with_reducible exact rr i) | (with_reducible exact rt3 i) | (with_reducible exact rr3 i) | (with_reducible exact rt4 i) | (with_reducible exact rr4 i) | (with_reducible exact rt5 i) | (with_reducible exact rr5 i))) | go_keep)
      (first
        | (go_at_call 56; refine Calls.mono (specFeedTerm_c wi ro y x hi TA tc ch TB td hs DA dc da _ (by repeat (with_reducible first | exact HK1.out | refine Kd.C_below ?_ HB5.out | refine Kd.C_below ?_ HB4.out | refine Kd.C_below ?_ HB3.out | refine Kd.C_below ?_ HB2.out | refine Kd.C_alloc ?_ _ | refine Kd.C_drewN ?_ _ | refine Kd.C_drew ?_)) (by repeat (with_reducible first | exact HK2.out | refine Kd.C_below ?_ HB5.out | refine Kd.C_below ?_ HB4.out | refine Kd.C_below ?_ HB3.out | refine Kd.C_below ?_ HB2.out | refine Kd.C_alloc ?_ _ | refine Kd.C_drewN ?_ _ | refine Kd.C_drew ?_)) (by repeat (with_reducible first | exact HKD.out | refine Kd.C_below ?_ HB5.out | refine Kd.C_below ?_ HB4.out | refine Kd.C_below ?_ HB3.out | refine Kd.C_below ?_ HB2.out | refine Kd.C_alloc ?_ _ | refine Kd.C_drewN ?_ _ | refine Kd.C_drew ?_)) HCS.out.1 HCS.out.2.1 HCS.out.2.2 HBD.out) ?_; rintro e w3 ⟨SA, sc, SB, sd, he, hrc, hR1, hrd, hR2, hb⟩; rw [HV.out] at he; subst he; clear hrc hR1 hrd hR2; have HB3 := Aside0.mk hb; have sz3 := hb.size; (try simp only [size_alloc, size_drew, size_drewN] at sz3); have rt3 := blk_cell (show w3.heap[w1.heap.size]? = some (.cells #[.int .i64 wi, .int .i64 ro, .int .i64 y, .int .i64 x, .bool hi, .slice TA ch.length tc, .slice TB hs.length td] 47 (0, 0)) from (by repeat (with_reducible first | exact HT2.out | exact blk_new _ | refine blk_new' _ (by simp only [size_alloc, size_drew, size_drewN]) | refine blk_drewN ?_ _ | refine blk_drew ?_ | refine blk_alloc ?_ _ | refine blk_below ?_ HB5.out | refine blk_below ?_ HB4.out | refine blk_below ?_ HB3.out ))); have rr3 := blk_cell (show w3.heap[w2.heap.size]? = some (.cells #[.int .i64 v.1, .int .i64 v.2.1, .int .i64 v.2.2.1, .int .i64 v.2.2.2.1, .int .i64 v.2.2.2.2.1, .bool v.2.2.2.2.2.1, .slice RA v.2.2.2.2.2.2.1.length rc, .slice RB v.2.2.2.2.2.2.2.length rd] 52 (0, 0)) from (by repeat (with_reducible first | exact HR2b.out | exact blk_new _ | refine blk_new' _ (by simp only [size_alloc, size_drew, size_drewN]) | refine blk_drewN ?_ _ | refine blk_drew ?_ | refine blk_alloc ?_ _ | refine blk_below ?_ HB5.out | refine blk_below ?_ HB4.out | refine blk_below ?_ HB3.out ))); clear hb)
        | (go_at_call 30; refine Calls.mono (TermFault_c wi ro y x hi TA TB tc td ch hs _ (by repeat (with_reducible first | exact HK1.out | refine Kd.C_below ?_ HB5.out | refine Kd.C_below ?_ HB4.out | refine Kd.C_below ?_ HB3.out | refine Kd.C_below ?_ HB2.out | refine Kd.C_alloc ?_ _ | refine Kd.C_drewN ?_ _ | refine Kd.C_drew ?_)) HCS.out.1 hmh) ?_; rintro e w4 ⟨rfl, hb⟩; have HB4 := Aside0.mk hb; have sz4 := hb.size; (try simp only [size_alloc, size_drew, size_drewN] at sz4); have rt4 := blk_cell (show w4.heap[w1.heap.size]? = some (.cells #[.int .i64 wi, .int .i64 ro, .int .i64 y, .int .i64 x, .bool hi, .slice TA ch.length tc, .slice TB hs.length td] 47 (0, 0)) from (by repeat (with_reducible first | exact HT2.out | exact blk_new _ | refine blk_new' _ (by simp only [size_alloc, size_drew, size_drewN]) | refine blk_drewN ?_ _ | refine blk_drew ?_ | refine blk_alloc ?_ _ | refine blk_below ?_ HB5.out | refine blk_below ?_ HB4.out | refine blk_below ?_ HB3.out ))); have rr4 := blk_cell (show w4.heap[w2.heap.size]? = some (.cells #[.int .i64 v.1, .int .i64 v.2.1, .int .i64 v.2.2.1, .int .i64 v.2.2.2.1, .int .i64 v.2.2.2.2.1, .bool v.2.2.2.2.2.1, .slice RA v.2.2.2.2.2.2.1.length rc, .slice RB v.2.2.2.2.2.2.2.length rd] 52 (0, 0)) from (by repeat (with_reducible first | exact HR2b.out | exact blk_new _ | refine blk_new' _ (by simp only [size_alloc, size_drew, size_drewN]) | refine blk_drewN ?_ _ | refine blk_drew ?_ | refine blk_alloc ?_ _ | refine blk_below ?_ HB5.out | refine blk_below ?_ HB4.out | refine blk_below ?_ HB3.out ))); clear hb)
        | (go_at_call 28; refine Calls.mono (specTermFault_c wi ro y x hi TA TB tc td ch hs _ (by repeat (with_reducible first | exact HK1.out | refine Kd.C_below ?_ HB5.out | refine Kd.C_below ?_ HB4.out | refine Kd.C_below ?_ HB3.out | refine Kd.C_below ?_ HB2.out | refine Kd.C_alloc ?_ _ | refine Kd.C_drewN ?_ _ | refine Kd.C_drew ?_)) hmh) ?_; rintro e w5 ⟨rfl, hb⟩; have HB5 := Aside0.mk hb; have sz5 := hb.size; (try simp only [size_alloc, size_drew, size_drewN] at sz5); have rt5 := blk_cell (show w5.heap[w1.heap.size]? = some (.cells #[.int .i64 wi, .int .i64 ro, .int .i64 y, .int .i64 x, .bool hi, .slice TA ch.length tc, .slice TB hs.length td] 47 (0, 0)) from (by repeat (with_reducible first | exact HT2.out | exact blk_new _ | refine blk_new' _ (by simp only [size_alloc, size_drew, size_drewN]) | refine blk_drewN ?_ _ | refine blk_drew ?_ | refine blk_alloc ?_ _ | refine blk_below ?_ HB5.out | refine blk_below ?_ HB4.out | refine blk_below ?_ HB3.out ))); have rr5 := blk_cell (show w5.heap[w2.heap.size]? = some (.cells #[.int .i64 v.1, .int .i64 v.2.1, .int .i64 v.2.2.1, .int .i64 v.2.2.2.1, .int .i64 v.2.2.2.2.1, .bool v.2.2.2.2.2.1, .slice RA v.2.2.2.2.2.2.1.length rc, .slice RB v.2.2.2.2.2.2.2.length rd] 52 (0, 0)) from (by repeat (with_reducible first | exact HR2b.out | exact blk_new _ | refine blk_new' _ (by simp only [size_alloc, size_drew, size_drewN]) | refine blk_drewN ?_ _ | refine blk_drew ?_ | refine blk_alloc ?_ _ | refine blk_below ?_ HB5.out | refine blk_below ?_ HB4.out | refine blk_below ?_ HB3.out ))); clear hb))
    all_goals
      go_wp2
      go_ret
      exact ⟨by first | rfl | (simp; done), (by repeat (with_reducible first | exact Below.refl _ _ | refine below_alloc ?_ _ | refine below_drew ?_ | refine pw_below_drewN ?_ _ | refine Below.setCell ?_ (by dsimp only; omega) _ | refine below_end ?_ HB5.out | refine below_end ?_ HB4.out | refine below_end ?_ HB3.out | refine below_end ?_ HB2.out | refine below_end ?_ HB1.out ))⟩
  obtain ⟨t, hti, hts, hfe, hq, hl8, hft⟩ := feed_ok hF
  clear hF
  have HQ := Aside0.mk hq
  have HTI := Aside0.mk hti
  have HTS := Aside0.mk hts
  have HFE := Aside0.mk hfe
  clear hti hts hfe hq hft
  go_wp2_with fail
  refine Calls.mono (FeedTerm_c wi ro y x hi TA tc ch TB td hs DA dc da _ (by repeat (with_reducible first | exact HK1.out | refine Kd.C_alloc ?_ _ | refine Kd.C_drewN ?_ _ | refine Kd.C_drew ?_)) (by repeat (with_reducible first | exact HK2.out | refine Kd.C_alloc ?_ _ | refine Kd.C_drewN ?_ _ | refine Kd.C_drew ?_)) (by repeat (with_reducible first | exact HKD.out | refine Kd.C_alloc ?_ _ | refine Kd.C_drewN ?_ _ | refine Kd.C_drew ?_)) HCS.out.1 HCS.out.2.1 HCS.out.2.2 HBD.out) ?_
  rintro e w2 ⟨RA, rc, RB, rd, he, hrc, hR1, hrd, hR2, hb2⟩
  rw [HQ.out] at he hrc hR1 hrd hR2
  dsimp only at he hrc hR1 hrd hR2
  subst he
  have HB2 := Aside0.mk hb2
  have sz2 := hb2.size
  simp only [size_alloc] at sz2
  have HT2 := Aside0.mk (show w2.heap[w1.heap.size]? = some (.cells #[.int .i64 wi, .int .i64 ro, .int .i64 y, .int .i64 x, .bool hi, .slice TA ch.length tc, .slice TB hs.length td] 47 (0, 0)) from (by repeat (with_reducible first | exact blk_new _ | refine blk_new' _ (by simp only [size_alloc, size_drew, size_drewN]) | refine blk_drewN ?_ _ | refine blk_drew ?_ | refine blk_alloc ?_ _ | refine blk_below ?_ HB2.out )))
  have HKR1 := Aside0.mk (C_of_R hR1)
  have HKR2 := Aside0.mk (C_of_R hR2)
  have HRC := Aside0.mk (And.intro hrc hrd)
  clear hb2 hR1 hR2 hrc hrd
  have lt1 : w1.heap.size < w2.heap.size := by omega
  have HR2b := Aside0.mk (blk_new (W := w2) (.cells #[.int .i64 0, .int .i64 t.wi, .int .i64 t.ro, .int .i64 t.y, .int .i64 t.x, .bool t.hi, .slice RA t.ch.length rc, .slice RB t.hs.length rd] 52))
  have ew : IntKind.i64.wrap ((da.length : Int) + 1) = (da.length : Int) + 1 := by rw [IntKind.wrap_i64]; omega
  go_wp2_with fail
  refine Calls.mono (lwAt_c A c code 3 ((da.length : Int) + 1) _ (by repeat (with_reducible first | exact HCode1.out | refine Kd.C_below ?_ HB2.out | refine Kd.C_alloc ?_ _ | refine Kd.C_drewN ?_ _ | refine Kd.C_drew ?_)) HB.out (by omega) (by decide) (by decide) (by omega)) ?_
  rintro e w3 ⟨k, rfl, k0, k1, hd3⟩
  obtain ⟨kn, rfl⟩ := Int.eq_ofNat_of_zero_le k0
  have hkn : kn ≤ da.length := by have := k1 (by omega); omega
  have HB3 := Aside0.mk hd3.below
  have sz3 := hd3.below.size
  simp only [size_alloc] at sz3
  have HT3 := Aside0.mk (show w3.heap[w1.heap.size]? = some (.cells #[.int .i64 wi, .int .i64 ro, .int .i64 y, .int .i64 x, .bool hi, .slice TA ch.length tc, .slice TB hs.length td] 47 (0, 0)) from (by repeat (with_reducible first | exact HT2.out | exact blk_new _ | refine blk_new' _ (by simp only [size_alloc, size_drew, size_drewN]) | refine blk_drewN ?_ _ | refine blk_drew ?_ | refine blk_alloc ?_ _ | refine blk_below ?_ HB3.out )))
  have HR3 := Aside0.mk (blk_below HR2b.out hd3.below)
  obtain ⟨_, hcut1, hcut2⟩ := toU DA dc da kn w1 HKD.out hkn HCS.out.2.2
  obtain ⟨EA, hEC, hEc, hcut3⟩ := fromU DA dc da kn w1 HKD.out hkn HCS.out.2.2
  have HKE := Aside0.mk hEC
  have HKT := Aside0.mk (toU DA dc da kn w1 HKD.out hkn HCS.out.2.2).1
  have HEC := Aside0.mk hEc
  have HTC := Aside0.mk hcut1
  have hcut4 := hcut2 .i64
  have hcut5 := hcut3 .i64
  have HBT := Aside0.mk (show ∀ z ∈ da.take kn, 0 ≤ z ∧ z ≤ 255 from fun z hz => HBD.out z (List.mem_of_mem_take hz))
  have HBE := Aside0.mk (show ∀ z ∈ da.drop kn, 0 ≤ z ∧ z ≤ 255 from fun z hz => HBD.out z (List.mem_of_mem_drop hz))
  clear hd3 k1 k0 hEC hEc hcut1 hcut2 hcut3 ew
  have HFT := Aside0.mk (show ∀ u : TS, feedAll (da.take kn) ⟨wi, ro, y, x, hi, ch, hs⟩ = some u → TI u → Seen u → feedTermP u.wi u.ro u.y u.x u.hi u.ch u.hs (da.drop kn) = (0, t.wi, t.ro, t.y, t.x, t.hi, t.ch, t.hs) from fun u h1 h2 h3 => feed_two kn HFE.out hl8 h1 h2 h3)
  generalize da.take kn = dT at *
  generalize da.drop kn = dE at *
  generalize hva : feedTermP wi ro y x hi ch hs dT = va
  have HVA := Aside0.mk hva
  generalize hvb : feedTermP va.2.1 va.2.2.1 va.2.2.2.1 va.2.2.2.2.1 va.2.2.2.2.2.1 va.2.2.2.2.2.2.1 va.2.2.2.2.2.2.2 dE = vb
  have HVB := Aside0.mk hvb
  have HAB := Aside0.mk (show va.1 = 0 → ∃ u : TS, va = (0, u.wi, u.ro, u.y, u.x, u.hi, u.ch, u.hs) ∧ vb = (0, t.wi, t.ro, t.y, t.x, t.hi, t.ch, t.hs) from fun h0 => by
    rw [← hva] at h0
    obtain ⟨u, hu1, hu2, hu3, hu4, _, _⟩ := feed_ok h0
    have e1 := hva.symm.trans hu4
    refine ⟨u, e1, ?_⟩
    rw [← hvb, e1]
    exact HFT.out u hu3 hu1 hu2)
  clear hva hvb HFT
  have rt := blk_cell HT3.out
  have lt3 := blk_lt HT3.out
  go_wp2_with fail
  go_cut [7] from 43 to 47 (fun v7 wx => ∃ (ab : Nat) (EA' : Option Addr) (ec : Nat) (EB' : Option Addr) (ed : Nat), v7 = .pointer (some ⟨ab, 0, none⟩) ∧ wx.heap[ab]? = some (.cells #[.int .i64 va.1, .int .i64 va.2.1, .int .i64 va.2.2.1, .int .i64 va.2.2.2.1, .int .i64 va.2.2.2.2.1, .bool va.2.2.2.2.2.1, .slice EA' va.2.2.2.2.2.2.1.length ec, .slice EB' va.2.2.2.2.2.2.2.length ed] 52 (0, 0)) ∧ Kd.C (Kd.int .i64) wx EA' va.2.2.2.2.2.2.1.length va.2.2.2.2.2.2.1 ∧ Kd.C Kd.bool wx EB' va.2.2.2.2.2.2.2.length va.2.2.2.2.2.2.2 ∧ va.2.2.2.2.2.2.1.length ≤ ec ∧ va.2.2.2.2.2.2.2.length ≤ ed ∧ Below w3.heap.size w3 wx ∧ w3.heap.size ≤ ab)
  case first =>
    go_region_with (first
      | (go_at_call 57; refine Calls.mono (FeedTerm_c wi ro y x hi TA tc ch TB td hs DA dc dT _ (by repeat (with_reducible first | exact HK1.out | refine Kd.C_below ?_ HB3.out | refine Kd.C_below ?_ HB2.out | refine Kd.C_alloc ?_ _ | refine Kd.C_drewN ?_ _ | refine Kd.C_drew ?_)) (by repeat (with_reducible first | exact HK2.out | refine Kd.C_below ?_ HB3.out | refine Kd.C_below ?_ HB2.out | refine Kd.C_alloc ?_ _ | refine Kd.C_drewN ?_ _ | refine Kd.C_drew ?_)) (by repeat (with_reducible first | exact HKT.out | refine Kd.C_below ?_ HB3.out | refine Kd.C_below ?_ HB2.out | refine Kd.C_alloc ?_ _ | refine Kd.C_drewN ?_ _ | refine Kd.C_drew ?_)) HCS.out.1 HCS.out.2.1 HTC.out HBT.out) ?_; rintro e w4 ⟨EA', ec, EB', ed, he, hrc, hR1, hrd, hR2, hb⟩; rw [HVA.out] at he hrc hR1 hrd hR2; subst he; have HBx := Aside0.mk hb; have szx := hb.size; (try simp only [size_alloc, size_drew, size_drewN] at szx); (try simp only [size_alloc, size_drew, size_drewN] at hR1); (try simp only [size_alloc, size_drew, size_drewN] at hR2); have HKx1 := Aside0.mk (C_of_R hR1); have HKx2 := Aside0.mk (C_of_R hR2); (try (have hne1 := (show ∀ ad, EA' = some ad → 0 < va.2.2.2.2.2.2.1.length → ad.block ≠ w3.heap.size from fun ad e hn => by subst e; exact R_ne hR1 hn (Nat.lt_succ_self _)))); (try (have hne2 := (show ∀ ad, EB' = some ad → 0 < va.2.2.2.2.2.2.2.length → ad.block ≠ w3.heap.size from fun ad e hn => by subst e; exact R_ne hR2 hn (Nat.lt_succ_self _)))); have HN1 := Aside0.mk True.intro; have HCx := Aside0.mk (And.intro hrc hrd); (try (have HN := Aside0.mk (show w4.heap[w3.heap.size]? = some (.cells #[.int .i64 0, .int .i64 0, .int .i64 0, .int .i64 0, .int .i64 0, .bool false, .slice none 0 0, .slice none 0 0] 52 (0, 0)) from blk_below (blk_new (W := w3.drew) (.cells #[.int .i64 0, .int .i64 0, .int .i64 0, .int .i64 0, .int .i64 0, .bool false, .slice none 0 0, .slice none 0 0] 52)) HBx.out); have rn := blk_cell HN.out; have fn := blk_free HN.out; have ln := blk_lt HN.out)); clear hb hR1 hR2 hrc hrd))
    all_goals
      go_wp2
      go_meet
      refine ⟨_, EA', ec, EB', ed, rfl, ?_, ?_, ?_, HCx.out.1, HCx.out.2, ?_, ?_⟩
      · first | with_reducible exact blk_new _ | exact blk_set (blk_set (blk_set (blk_set (blk_set (blk_set (blk_set (blk_set HN.out rfl) rfl) rfl) rfl) rfl) rfl) rfl) rfl
      · (repeat (with_reducible first | refine Kd.C_alloc ?_ _ | refine C_setI ?_ hne1))
        exact HKx1.out
      · (repeat (with_reducible first | refine Kd.C_alloc ?_ _ | refine C_setB ?_ hne2))
        exact HKx2.out
      · exact (by repeat (with_reducible first | exact Below.refl _ _ | refine below_alloc ?_ _ | refine below_drew ?_ | refine Below.setCell ?_ (by dsimp only; omega) _ | refine below_end ?_ HBx.out))
      · first | exact Nat.le_refl _ | omega
  case rest =>
  obtain ⟨ab, EA', ec, EB', ed, rfl, hA4, hKA1, hKA2, hec, hed, hb4, hab4⟩ := hcut
  obtain ⟨w4, hw4⟩ : ∃ w4, w4 = wc := ⟨_, rfl⟩
  rw [← hw4] at hA4 hKA1 hKA2 hb4 ⊢
  clear hw4
  have HA4 := Aside0.mk hA4
  have HKA1 := Aside0.mk hKA1
  have HKA2 := Aside0.mk hKA2
  have HAC := Aside0.mk (And.intro hec hed)
  have HB4 := Aside0.mk hb4
  have sz4 := hb4.size
  have HT4 := Aside0.mk (blk_below HT3.out hb4)
  have HR4 := Aside0.mk (blk_below HR3.out hb4)
  have ra := blk_cell hA4
  have la := blk_lt hA4
  clear hA4 hKA1 hKA2 hec hed hb4 rt lt3
  go_wp2_with fail
  go_cut [8] from 48 to 53 (fun v8 wx => ∃ (ab : Nat) (FA' : Option Addr) (fc : Nat) (FB' : Option Addr) (fd : Nat), v8 = .pointer (some ⟨ab, 0, none⟩) ∧ wx.heap[ab]? = some (.cells #[.int .i64 vb.1, .int .i64 vb.2.1, .int .i64 vb.2.2.1, .int .i64 vb.2.2.2.1, .int .i64 vb.2.2.2.2.1, .bool vb.2.2.2.2.2.1, .slice FA' vb.2.2.2.2.2.2.1.length fc, .slice FB' vb.2.2.2.2.2.2.2.length fd] 52 (0, 0)) ∧ Kd.C (Kd.int .i64) wx FA' vb.2.2.2.2.2.2.1.length vb.2.2.2.2.2.2.1 ∧ Kd.C Kd.bool wx FB' vb.2.2.2.2.2.2.2.length vb.2.2.2.2.2.2.2 ∧ vb.2.2.2.2.2.2.1.length ≤ fc ∧ vb.2.2.2.2.2.2.2.length ≤ fd ∧ Below w4.heap.size w4 wx ∧ w4.heap.size ≤ ab)
  case first =>
    go_region_with (first
      | (go_at_call 57; refine Calls.mono (FeedTerm_c va.2.1 va.2.2.1 va.2.2.2.1 va.2.2.2.2.1 va.2.2.2.2.2.1 EA' ec va.2.2.2.2.2.2.1 EB' ed va.2.2.2.2.2.2.2 EA (dc - kn) dE _ (by repeat (with_reducible first | exact HKA1.out | refine Kd.C_alloc ?_ _ | refine Kd.C_drewN ?_ _ | refine Kd.C_drew ?_)) (by repeat (with_reducible first | exact HKA2.out | refine Kd.C_alloc ?_ _ | refine Kd.C_drewN ?_ _ | refine Kd.C_drew ?_)) (by repeat (with_reducible first | exact HKE.out | refine Kd.C_below ?_ HB4.out | refine Kd.C_below ?_ HB3.out | refine Kd.C_below ?_ HB2.out | refine Kd.C_alloc ?_ _ | refine Kd.C_drewN ?_ _ | refine Kd.C_drew ?_)) HAC.out.1 HAC.out.2 HEC.out HBE.out) ?_; rintro e w5 ⟨FA', fc, FB', fd, he, hrc, hR1, hrd, hR2, hb⟩; rw [HVB.out] at he hrc hR1 hrd hR2; subst he; have HBx := Aside0.mk hb; have szx := hb.size; (try simp only [size_alloc, size_drew, size_drewN] at szx); (try simp only [size_alloc, size_drew, size_drewN] at hR1); (try simp only [size_alloc, size_drew, size_drewN] at hR2); have HKx1 := Aside0.mk (C_of_R hR1); have HKx2 := Aside0.mk (C_of_R hR2); (try (have hne1 := (show ∀ ad, FA' = some ad → 0 < vb.2.2.2.2.2.2.1.length → ad.block ≠ w4.heap.size from fun ad e hn => by subst e; exact R_ne hR1 hn (Nat.lt_succ_self _)))); (try (have hne2 := (show ∀ ad, FB' = some ad → 0 < vb.2.2.2.2.2.2.2.length → ad.block ≠ w4.heap.size from fun ad e hn => by subst e; exact R_ne hR2 hn (Nat.lt_succ_self _)))); have HN1 := Aside0.mk True.intro; have HCx := Aside0.mk (And.intro hrc hrd); (try (have HN := Aside0.mk (show w5.heap[w4.heap.size]? = some (.cells #[.int .i64 0, .int .i64 0, .int .i64 0, .int .i64 0, .int .i64 0, .bool false, .slice none 0 0, .slice none 0 0] 52 (0, 0)) from blk_below (blk_new (W := w4.drew) (.cells #[.int .i64 0, .int .i64 0, .int .i64 0, .int .i64 0, .int .i64 0, .bool false, .slice none 0 0, .slice none 0 0] 52)) HBx.out); have rn := blk_cell HN.out; have fn := blk_free HN.out; have ln := blk_lt HN.out)); clear hb hR1 hR2 hrc hrd))
    all_goals
      go_wp2
      go_meet
      refine ⟨_, FA', fc, FB', fd, rfl, ?_, ?_, ?_, HCx.out.1, HCx.out.2, ?_, ?_⟩
      · first | with_reducible exact blk_new _ | exact blk_set (blk_set (blk_set (blk_set (blk_set (blk_set (blk_set (blk_set HN.out rfl) rfl) rfl) rfl) rfl) rfl) rfl) rfl
      · (repeat (with_reducible first | refine Kd.C_alloc ?_ _ | refine C_setI ?_ hne1))
        exact HKx1.out
      · (repeat (with_reducible first | refine Kd.C_alloc ?_ _ | refine C_setB ?_ hne2))
        exact HKx2.out
      · exact (by repeat (with_reducible first | exact Below.refl _ _ | refine below_alloc ?_ _ | refine below_drew ?_ | refine Below.setCell ?_ (by dsimp only; omega) _ | refine below_end ?_ HBx.out))
      · first | exact Nat.le_refl _ | omega
  case rest =>
  obtain ⟨bb, FA', fc, FB', fd, rfl, hA5, hKB1, hKB2, hfc, hfd, hb5, hbb5⟩ := hcut
  obtain ⟨w5, hw5⟩ : ∃ w5, w5 = wc := ⟨_, rfl⟩
  rw [← hw5] at hA5 hKB1 hKB2 hb5 ⊢
  clear hw5
  have HBb5 := Aside0.mk hA5
  have HKB1 := Aside0.mk hKB1
  have HKB2 := Aside0.mk hKB2
  have HBC := Aside0.mk (And.intro hfc hfd)
  have HB5 := Aside0.mk hb5
  have sz5 := hb5.size
  have HT5 := Aside0.mk (blk_below HT4.out hb5)
  have HR5 := Aside0.mk (blk_below HR4.out hb5)
  have HA5 := Aside0.mk (blk_below HA4.out hb5)
  have rr := blk_cell HR5.out
  have lr := blk_lt HR5.out
  clear hA5 hKB1 hKB2 hfc hfd hb5 ra la
  have HGO := Aside0.mk (grid_ok HTI.out HTS.out)
  have HTX := Aside0.mk (text_ok HTI.out HTS.out)
  have HT0 := Aside0.mk (termFault_of HTI.out HTS.out)
  have HG0 := Aside0.mk (gridFault_of HTI.out HTS.out)
  generalize strOfNums (txt t.wi t.ch t.ch.length) = S at HTX
  have hSz : 0 < (S.size : Int) := by have := HTX.out.2; omega
  go_wp2_with fail
  refine Calls.mono (GridOf_c t.wi t.ro t.y t.x t.hi RA rc t.ch RB rd t.hs _ (by repeat (with_reducible first | exact HKR1.out | refine Kd.C_below ?_ HB5.out | refine Kd.C_below ?_ HB4.out | refine Kd.C_below ?_ HB3.out | refine Kd.C_alloc ?_ _ | refine Kd.C_drewN ?_ _ | refine Kd.C_drew ?_)) (by repeat (with_reducible first | exact HKR2.out | refine Kd.C_below ?_ HB5.out | refine Kd.C_below ?_ HB4.out | refine Kd.C_below ?_ HB3.out | refine Kd.C_alloc ?_ _ | refine Kd.C_drewN ?_ _ | refine Kd.C_drew ?_)) HRC.out.1 HRC.out.2) ?_
  rintro e w6 ⟨GA, gc, GB, gd, he, hgc, hR1, hgd, hR2, hb⟩
  rw [HGO.out] at he hgc hR1 hgd hR2
  dsimp only at he hgc hR1 hgd hR2
  subst he
  have HB6 := Aside0.mk hb
  have sz6 := hb.size
  have HKG1 := Aside0.mk (C_of_R hR1)
  have HKG2 := Aside0.mk (C_of_R hR2)
  have HGC := Aside0.mk (And.intro hgc hgd)
  have HT6 := Aside0.mk (blk_alloc (blk_below HT5.out hb) (.cells #[.int .i64 0, .int .i64 t.wi, .slice GA t.ch.length gc, .slice GB t.hs.length gd] 63))
  have HR6 := Aside0.mk (blk_alloc (blk_below HR5.out hb) (.cells #[.int .i64 0, .int .i64 t.wi, .slice GA t.ch.length gc, .slice GB t.hs.length gd] 63))
  have HA6 := Aside0.mk (blk_alloc (blk_below HA5.out hb) (.cells #[.int .i64 0, .int .i64 t.wi, .slice GA t.ch.length gc, .slice GB t.hs.length gd] 63))
  have HBb6 := Aside0.mk (blk_alloc (blk_below HBb5.out hb) (.cells #[.int .i64 0, .int .i64 t.wi, .slice GA t.ch.length gc, .slice GB t.hs.length gd] 63))
  have HG6 := Aside0.mk (blk_new (W := w6) (.cells #[.int .i64 0, .int .i64 t.wi, .slice GA t.ch.length gc, .slice GB t.hs.length gd] 63))
  clear hb hgc hR1 hgd hR2 rr lr
  have rr := blk_cell HR6.out
  have lr := blk_lt HR6.out
  go_wp2_with fail
  refine Calls.mono (TermText_c t.wi t.ro t.y t.x t.hi RA rc t.ch RB rd t.hs _ (by repeat (with_reducible first | exact HKR1.out | refine Kd.C_below ?_ HB6.out | refine Kd.C_below ?_ HB5.out | refine Kd.C_below ?_ HB4.out | refine Kd.C_below ?_ HB3.out | refine Kd.C_alloc ?_ _ | refine Kd.C_drewN ?_ _ | refine Kd.C_drew ?_)) (by repeat (with_reducible first | exact HKR2.out | refine Kd.C_below ?_ HB6.out | refine Kd.C_below ?_ HB5.out | refine Kd.C_below ?_ HB4.out | refine Kd.C_below ?_ HB3.out | refine Kd.C_alloc ?_ _ | refine Kd.C_drewN ?_ _ | refine Kd.C_drew ?_)) HRC.out.1 HRC.out.2) ?_
  rintro e w7 ⟨he, hb⟩
  rw [HTX.out.1] at he
  dsimp only at he
  subst he
  have HB7 := Aside0.mk hb
  have sz7 := hb.size
  simp only [size_alloc] at sz7
  obtain ⟨w8, hw8⟩ : ∃ w8, w8 = w7.alloc (.cells #[.int .i64 0, .string S] 23) := ⟨_, rfl⟩
  have HT8 := Aside0.mk (show w8.heap[w1.heap.size]? = some (.cells #[.int .i64 wi, .int .i64 ro, .int .i64 y, .int .i64 x, .bool hi, .slice TA ch.length tc, .slice TB hs.length td] 47 (0, 0)) by rw [hw8]; exact blk_alloc (blk_below HT6.out hb) _)
  have HR8 := Aside0.mk (show w8.heap[w2.heap.size]? = some (.cells #[.int .i64 0, .int .i64 t.wi, .int .i64 t.ro, .int .i64 t.y, .int .i64 t.x, .bool t.hi, .slice RA t.ch.length rc, .slice RB t.hs.length rd] 52 (0, 0)) by rw [hw8]; exact blk_alloc (blk_below HR6.out hb) _)
  have HA8 := Aside0.mk (show w8.heap[ab]? = some (.cells #[.int .i64 va.1, .int .i64 va.2.1, .int .i64 va.2.2.1, .int .i64 va.2.2.2.1, .int .i64 va.2.2.2.2.1, .bool va.2.2.2.2.2.1, .slice EA' va.2.2.2.2.2.2.1.length ec, .slice EB' va.2.2.2.2.2.2.2.length ed] 52 (0, 0)) by rw [hw8]; exact blk_alloc (blk_below HA6.out hb) _)
  have HBb8 := Aside0.mk (show w8.heap[bb]? = some (.cells #[.int .i64 vb.1, .int .i64 vb.2.1, .int .i64 vb.2.2.1, .int .i64 vb.2.2.2.1, .int .i64 vb.2.2.2.2.1, .bool vb.2.2.2.2.2.1, .slice FA' vb.2.2.2.2.2.2.1.length fc, .slice FB' vb.2.2.2.2.2.2.2.length fd] 52 (0, 0)) by rw [hw8]; exact blk_alloc (blk_below HBb6.out hb) _)
  have HG8 := Aside0.mk (show w8.heap[w6.heap.size]? = some (.cells #[.int .i64 0, .int .i64 t.wi, .slice GA t.ch.length gc, .slice GB t.hs.length gd] 63 (0, 0)) by rw [hw8]; exact blk_alloc (blk_below HG6.out hb) _)
  have HX8 := Aside0.mk (show w8.heap[w7.heap.size]? = some (.cells #[.int .i64 0, .string S] 23 (0, 0)) by rw [hw8]; exact blk_new _)
  have HB8 := Aside0.mk (show Below w7.heap.size w7 w8 by rw [hw8]; exact below_alloc (Below.refl _ _) _)
  have sz8 : w8.heap.size = w7.heap.size + 1 := by rw [hw8, size_alloc]
  have HW := Aside0.mk (show Below w.heap.size w w8 from (by repeat (with_reducible first | exact Below.refl _ _ | refine below_alloc ?_ _ | refine below_drew ?_ | refine pw_below_drewN ?_ _ | refine Below.setCell ?_ (by dsimp only; omega) _ | refine below_end ?_ HB8.out | refine below_end ?_ HB7.out | refine below_end ?_ HB6.out | refine below_end ?_ HB5.out | refine below_end ?_ HB4.out | refine below_end ?_ HB3.out | refine below_end ?_ HB2.out | refine below_end ?_ HB1.out )))
  have HKT1 := Aside0.mk (show Kd.C (Kd.int .i64) w8 TA ch.length ch from (by repeat (with_reducible first | exact HK1.out | refine Kd.C_below ?_ HB8.out | refine Kd.C_below ?_ HB7.out | refine Kd.C_below ?_ HB6.out | refine Kd.C_below ?_ HB5.out | refine Kd.C_below ?_ HB4.out | refine Kd.C_below ?_ HB3.out | refine Kd.C_below ?_ HB2.out | refine Kd.C_alloc ?_ _ | refine Kd.C_drewN ?_ _ | refine Kd.C_drew ?_)))
  have HKT2 := Aside0.mk (show Kd.C Kd.bool w8 TB hs.length hs from (by repeat (with_reducible first | exact HK2.out | refine Kd.C_below ?_ HB8.out | refine Kd.C_below ?_ HB7.out | refine Kd.C_below ?_ HB6.out | refine Kd.C_below ?_ HB5.out | refine Kd.C_below ?_ HB4.out | refine Kd.C_below ?_ HB3.out | refine Kd.C_below ?_ HB2.out | refine Kd.C_alloc ?_ _ | refine Kd.C_drewN ?_ _ | refine Kd.C_drew ?_)))
  have HKD8 := Aside0.mk (show Kd.C (Kd.int .u8) w8 DA da.length da from (by repeat (with_reducible first | exact HKD.out | refine Kd.C_below ?_ HB8.out | refine Kd.C_below ?_ HB7.out | refine Kd.C_below ?_ HB6.out | refine Kd.C_below ?_ HB5.out | refine Kd.C_below ?_ HB4.out | refine Kd.C_below ?_ HB3.out | refine Kd.C_below ?_ HB2.out | refine Kd.C_alloc ?_ _ | refine Kd.C_drewN ?_ _ | refine Kd.C_drew ?_)))
  have HKR18 := Aside0.mk (show Kd.C (Kd.int .i64) w8 RA t.ch.length t.ch from (by repeat (with_reducible first | exact HKR1.out | refine Kd.C_below ?_ HB8.out | refine Kd.C_below ?_ HB7.out | refine Kd.C_below ?_ HB6.out | refine Kd.C_below ?_ HB5.out | refine Kd.C_below ?_ HB4.out | refine Kd.C_below ?_ HB3.out | refine Kd.C_alloc ?_ _ | refine Kd.C_drewN ?_ _ | refine Kd.C_drew ?_)))
  have HKR28 := Aside0.mk (show Kd.C Kd.bool w8 RB t.hs.length t.hs from (by repeat (with_reducible first | exact HKR2.out | refine Kd.C_below ?_ HB8.out | refine Kd.C_below ?_ HB7.out | refine Kd.C_below ?_ HB6.out | refine Kd.C_below ?_ HB5.out | refine Kd.C_below ?_ HB4.out | refine Kd.C_below ?_ HB3.out | refine Kd.C_alloc ?_ _ | refine Kd.C_drewN ?_ _ | refine Kd.C_drew ?_)))
  have HKB18 := Aside0.mk (show Kd.C (Kd.int .i64) w8 FA' vb.2.2.2.2.2.2.1.length vb.2.2.2.2.2.2.1 from (by repeat (with_reducible first | exact HKB1.out | refine Kd.C_below ?_ HB8.out | refine Kd.C_below ?_ HB7.out | refine Kd.C_below ?_ HB6.out | refine Kd.C_alloc ?_ _ | refine Kd.C_drewN ?_ _ | refine Kd.C_drew ?_)))
  have HKB28 := Aside0.mk (show Kd.C Kd.bool w8 FB' vb.2.2.2.2.2.2.2.length vb.2.2.2.2.2.2.2 from (by repeat (with_reducible first | exact HKB2.out | refine Kd.C_below ?_ HB8.out | refine Kd.C_below ?_ HB7.out | refine Kd.C_below ?_ HB6.out | refine Kd.C_alloc ?_ _ | refine Kd.C_drewN ?_ _ | refine Kd.C_drew ?_)))
  have HKG18 := Aside0.mk (show Kd.C (Kd.int .i64) w8 GA t.ch.length t.ch from (by repeat (with_reducible first | exact HKG1.out | refine Kd.C_below ?_ HB8.out | refine Kd.C_below ?_ HB7.out | refine Kd.C_alloc ?_ _ | refine Kd.C_drewN ?_ _ | refine Kd.C_drew ?_)))
  have HKG28 := Aside0.mk (show Kd.C Kd.bool w8 GB t.hs.length t.hs from (by repeat (with_reducible first | exact HKG2.out | refine Kd.C_below ?_ HB8.out | refine Kd.C_below ?_ HB7.out | refine Kd.C_alloc ?_ _ | refine Kd.C_drewN ?_ _ | refine Kd.C_drew ?_)))
  have HW8 := Aside0.mk hw8
  clear hb rr lr
  clear hw8
  have lr8 := blk_lt HR8.out
  have la8 := blk_lt HA8.out
  have lb8 := blk_lt HBb8.out
  have lg8 := blk_lt HG8.out
  have lx8 := blk_lt HX8.out
  have lt8 := blk_lt HT8.out
  go_wp2_with fail
  rw [← HW8.out]
  go_cut [104] from 60 to 103 (fun v104 wx => v104 = .bool false ∧ Below w8.heap.size w8 wx)
  case first =>
    by_cases ha0 : va.1 = 0
    · obtain ⟨u, e1, e2⟩ := HAB.out ha0
      subst e1 e2
      clear ha0
      have h1 := HA8.out
      have h2 := HBb8.out
      have h3 := HKB18.out
      have h4 := HKB28.out
      have h5 := HBC.out
      dsimp only at h1 h2 h3 h4 h5
      have HAU := Aside0.mk h1
      have HBU := Aside0.mk h2
      have HKU1 := Aside0.mk h3
      have HKU2 := Aside0.mk h4
      have HUC := Aside0.mk h5
      clear h1 h2 h3 h4 h5
      have ra := blk_cell HAU.out
      have rb := blk_cell HBU.out
      have rr := blk_cell HR8.out
      have rg := blk_cell HG8.out
      go_region_held3 (fun W : World => (∀ i, W.cell? ⟨ab, i, none⟩ = (#[.int .i64 0, .int .i64 u.wi, .int .i64 u.ro, .int .i64 u.y, .int .i64 u.x, .bool u.hi, .slice EA' u.ch.length ec, .slice EB' u.hs.length ed] : Array Value)[i]?) ∧ (∀ i, W.cell? ⟨bb, i, none⟩ = (#[.int .i64 0, .int .i64 t.wi, .int .i64 t.ro, .int .i64 t.y, .int .i64 t.x, .bool t.hi, .slice FA' t.ch.length fc, .slice FB' t.hs.length fd] : Array Value)[i]?) ∧ (∀ i, W.cell? ⟨w2.heap.size, i, none⟩ = (#[.int .i64 0, .int .i64 t.wi, .int .i64 t.ro, .int .i64 t.y, .int .i64 t.x, .bool t.hi, .slice RA t.ch.length rc, .slice RB t.hs.length rd] : Array Value)[i]?) ∧ (∀ i, W.cell? ⟨w6.heap.size, i, none⟩ = (#[.int .i64 0, .int .i64 t.wi, .slice GA t.ch.length gc, .slice GB t.hs.length gd] : Array Value)[i]?)) (first | ((repeat' apply And.intro) <;> (intro i; (repeat (first | (with_reducible refine (cell_drew _ _).trans ?_) | (with_reducible refine (cell_drewN _ _ _).trans ?_) | refine (World.cell?_setCell_far _ _ _ _ (by dsimp only; omega)).trans ?_ | refine (World.cell?_alloc_lt _ _ _ (by dsimp only; (try simp only [size_alloc, size_drew, size_drewN, size_setCell]); omega)).trans ?_)); first | (with_reducible exact ra i) | (with_reducible exact rb i) | (with_reducible exact rr i) | (with_reducible exact rg i) | (with_reducible exact ra10 i) | (with_reducible exact rb10 i) | (with_reducible exact rr10 i) | (with_reducible exact rg10 i) | (with_reducible exact ra11 i) | (with_reducible exact rb11 i) | (with_reducible exact rr11 i) | (with_reducible exact rg11 i))) | go_keep)
        (first
          | (go_at_call 43; refine Calls.mono (GridOf_c t.wi t.ro t.y t.x t.hi FA' fc t.ch FB' fd t.hs _ (by repeat (with_reducible first | exact HKU1.out | refine Kd.C_alloc ?_ _ | refine Kd.C_drewN ?_ _ | refine Kd.C_drew ?_)) (by repeat (with_reducible first | exact HKU2.out | refine Kd.C_alloc ?_ _ | refine Kd.C_drewN ?_ _ | refine Kd.C_drew ?_)) HUC.out.1 HUC.out.2) ?_; rintro e w10 ⟨PA, pc, PB, pd, he, hgc, hR1, hgd, hR2, hb⟩; rw [HGO.out] at he hgc hR1 hgd hR2; dsimp only at he hgc hR1 hgd hR2; subst he; have HB10 := Aside0.mk hb; have sz10 := hb.size; (try simp only [size_alloc, size_drew, size_drewN] at sz10); have HKP1 := Aside0.mk (C_of_R hR1); have HKP2 := Aside0.mk (C_of_R hR2); have ra10 := blk_cell (show w10.heap[ab]? = some (.cells #[.int .i64 0, .int .i64 u.wi, .int .i64 u.ro, .int .i64 u.y, .int .i64 u.x, .bool u.hi, .slice EA' u.ch.length ec, .slice EB' u.hs.length ed] 52 (0, 0)) from (by repeat (with_reducible first | exact HAU.out | exact blk_new _ | refine blk_new' _ (by simp only [size_alloc, size_drew, size_drewN]) | refine blk_drewN ?_ _ | refine blk_drew ?_ | refine blk_alloc ?_ _ | refine blk_below ?_ HB10.out ))); have rb10 := blk_cell (show w10.heap[bb]? = some (.cells #[.int .i64 0, .int .i64 t.wi, .int .i64 t.ro, .int .i64 t.y, .int .i64 t.x, .bool t.hi, .slice FA' t.ch.length fc, .slice FB' t.hs.length fd] 52 (0, 0)) from (by repeat (with_reducible first | exact HBU.out | exact blk_new _ | refine blk_new' _ (by simp only [size_alloc, size_drew, size_drewN]) | refine blk_drewN ?_ _ | refine blk_drew ?_ | refine blk_alloc ?_ _ | refine blk_below ?_ HB10.out ))); have rr10 := blk_cell (show w10.heap[w2.heap.size]? = some (.cells #[.int .i64 0, .int .i64 t.wi, .int .i64 t.ro, .int .i64 t.y, .int .i64 t.x, .bool t.hi, .slice RA t.ch.length rc, .slice RB t.hs.length rd] 52 (0, 0)) from (by repeat (with_reducible first | exact HR8.out | exact blk_new _ | refine blk_new' _ (by simp only [size_alloc, size_drew, size_drewN]) | refine blk_drewN ?_ _ | refine blk_drew ?_ | refine blk_alloc ?_ _ | refine blk_below ?_ HB10.out ))); have rg10 := blk_cell (show w10.heap[w6.heap.size]? = some (.cells #[.int .i64 0, .int .i64 t.wi, .slice GA t.ch.length gc, .slice GB t.hs.length gd] 63 (0, 0)) from (by repeat (with_reducible first | exact HG8.out | exact blk_new _ | refine blk_new' _ (by simp only [size_alloc, size_drew, size_drewN]) | refine blk_drewN ?_ _ | refine blk_drew ?_ | refine blk_alloc ?_ _ | refine blk_below ?_ HB10.out ))); clear hb hgc hR1 hgd hR2)
          | (go_at_call 20; refine Calls.mono (SameGrids_c t.wi PA PB pc pd t.ch t.hs t.wi GA GB gc gd t.ch t.hs _ (by repeat (with_reducible first | exact HKP1.out | refine Kd.C_alloc ?_ _ | refine Kd.C_drewN ?_ _ | refine Kd.C_drew ?_)) (by repeat (with_reducible first | exact HKP2.out | refine Kd.C_alloc ?_ _ | refine Kd.C_drewN ?_ _ | refine Kd.C_drew ?_)) (by repeat (with_reducible first | exact HKG18.out | refine Kd.C_below ?_ HB10.out | refine Kd.C_alloc ?_ _ | refine Kd.C_drewN ?_ _ | refine Kd.C_drew ?_)) (by repeat (with_reducible first | exact HKG28.out | refine Kd.C_below ?_ HB10.out | refine Kd.C_alloc ?_ _ | refine Kd.C_drewN ?_ _ | refine Kd.C_drew ?_))) ?_; rintro e w11 ⟨rfl, hb⟩; rw [eqv_self]; have HB11 := Aside0.mk hb; have sz11 := hb.size; (try simp only [size_alloc, size_drew, size_drewN] at sz11); have ra11 := blk_cell (show w11.heap[ab]? = some (.cells #[.int .i64 0, .int .i64 u.wi, .int .i64 u.ro, .int .i64 u.y, .int .i64 u.x, .bool u.hi, .slice EA' u.ch.length ec, .slice EB' u.hs.length ed] 52 (0, 0)) from (by repeat (with_reducible first | exact HAU.out | exact blk_new _ | refine blk_new' _ (by simp only [size_alloc, size_drew, size_drewN]) | refine blk_drewN ?_ _ | refine blk_drew ?_ | refine blk_alloc ?_ _ | refine blk_below ?_ HB11.out | refine blk_below ?_ HB10.out ))); have rb11 := blk_cell (show w11.heap[bb]? = some (.cells #[.int .i64 0, .int .i64 t.wi, .int .i64 t.ro, .int .i64 t.y, .int .i64 t.x, .bool t.hi, .slice FA' t.ch.length fc, .slice FB' t.hs.length fd] 52 (0, 0)) from (by repeat (with_reducible first | exact HBU.out | exact blk_new _ | refine blk_new' _ (by simp only [size_alloc, size_drew, size_drewN]) | refine blk_drewN ?_ _ | refine blk_drew ?_ | refine blk_alloc ?_ _ | refine blk_below ?_ HB11.out | refine blk_below ?_ HB10.out ))); have rr11 := blk_cell (show w11.heap[w2.heap.size]? = some (.cells #[.int .i64 0, .int .i64 t.wi, .int .i64 t.ro, .int .i64 t.y, .int .i64 t.x, .bool t.hi, .slice RA t.ch.length rc, .slice RB t.hs.length rd] 52 (0, 0)) from (by repeat (with_reducible first | exact HR8.out | exact blk_new _ | refine blk_new' _ (by simp only [size_alloc, size_drew, size_drewN]) | refine blk_drewN ?_ _ | refine blk_drew ?_ | refine blk_alloc ?_ _ | refine blk_below ?_ HB11.out | refine blk_below ?_ HB10.out ))); have rg11 := blk_cell (show w11.heap[w6.heap.size]? = some (.cells #[.int .i64 0, .int .i64 t.wi, .slice GA t.ch.length gc, .slice GB t.hs.length gd] 63 (0, 0)) from (by repeat (with_reducible first | exact HG8.out | exact blk_new _ | refine blk_new' _ (by simp only [size_alloc, size_drew, size_drewN]) | refine blk_drewN ?_ _ | refine blk_drew ?_ | refine blk_alloc ?_ _ | refine blk_below ?_ HB11.out | refine blk_below ?_ HB10.out ))); clear hb))
      all_goals
        go_wp2
        go_meet
        exact ⟨by first | rfl | (simp; done), (by repeat (with_reducible first | exact Below.refl _ _ | refine below_alloc ?_ _ | refine below_drew ?_ | refine pw_below_drewN ?_ _ | refine Below.setCell ?_ (by dsimp only; omega) _ | refine below_end ?_ HB11.out | refine below_end ?_ HB10.out ))⟩
    · have bA : (va.1 == 0) = false := by simpa using ha0
      clear ha0
      have ra := blk_cell HA8.out
      go_quiet (fail)
      go_wp2
      go_meet
      exact ⟨by first | rfl | (simp; done), (by repeat (with_reducible first | exact Below.refl _ _ | refine below_alloc ?_ _ | refine below_drew ?_ | refine pw_below_drewN ?_ _ | refine Below.setCell ?_ (by dsimp only; omega) _ ))⟩
  case rest =>
  obtain ⟨rfl, hbx⟩ := hcut
  obtain ⟨w9, hw9⟩ : ∃ w9, w9 = wc := ⟨_, rfl⟩
  rw [← hw9] at hbx ⊢
  clear hw9
  have HBx := Aside0.mk hbx
  have sz9 := hbx.size
  have HT9 := Aside0.mk (blk_below HT8.out hbx)
  have HR9 := Aside0.mk (blk_below HR8.out hbx)
  have HG9 := Aside0.mk (blk_below HG8.out hbx)
  have HX9 := Aside0.mk (blk_below HX8.out hbx)
  have HKT19 := Aside0.mk (Kd.C_below HKT1.out hbx)
  have HKT29 := Aside0.mk (Kd.C_below HKT2.out hbx)
  have HKD9 := Aside0.mk (Kd.C_below HKD8.out hbx)
  have HKR19 := Aside0.mk (Kd.C_below HKR18.out hbx)
  have HKR29 := Aside0.mk (Kd.C_below HKR28.out hbx)
  have HKG19 := Aside0.mk (Kd.C_below HKG18.out hbx)
  have HKG29 := Aside0.mk (Kd.C_below HKG28.out hbx)
  have hmr := Kd.C_max HKR29.out
  clear hbx
  have rt := blk_cell HT9.out
  have rr := blk_cell HR9.out
  have rg := blk_cell HG9.out
  have rx := blk_cell HX9.out
  have lr9 := blk_lt HR9.out
  have lg9 := blk_lt HG9.out
  have lx9 := blk_lt HX9.out
  have lt9 := blk_lt HT9.out
  go_wp2_with fail
  go_region_held3 (fun W : World => (∀ i, W.cell? ⟨w1.heap.size, i, none⟩ = (#[.int .i64 wi, .int .i64 ro, .int .i64 y, .int .i64 x, .bool hi, .slice TA ch.length tc, .slice TB hs.length td] : Array Value)[i]?) ∧ (∀ i, W.cell? ⟨w2.heap.size, i, none⟩ = (#[.int .i64 0, .int .i64 t.wi, .int .i64 t.ro, .int .i64 t.y, .int .i64 t.x, .bool t.hi, .slice RA t.ch.length rc, .slice RB t.hs.length rd] : Array Value)[i]?) ∧ (∀ i, W.cell? ⟨w6.heap.size, i, none⟩ = (#[.int .i64 0, .int .i64 t.wi, .slice GA t.ch.length gc, .slice GB t.hs.length gd] : Array Value)[i]?) ∧ (∀ i, W.cell? ⟨w7.heap.size, i, none⟩ = (#[.int .i64 0, .string S] : Array Value)[i]?)) (first | ((repeat' apply And.intro) <;> (intro i; (repeat (first | (with_reducible refine (cell_drew _ _).trans ?_) | (with_reducible refine (cell_drewN _ _ _).trans ?_) | refine (World.cell?_setCell_far _ _ _ _ (by dsimp only; omega)).trans ?_ | refine (World.cell?_alloc_lt _ _ _ (by dsimp only; (try simp only [size_alloc, size_drew, size_drewN, size_setCell]); omega)).trans ?_)); first | (with_reducible exact rt i) | (with_reducible exact rr i) | (with_reducible exact rg i) | (with_reducible exact rx i) | (with_reducible exact rt21 i) | (with_reducible exact rr21 i) | (with_reducible exact rg21 i) | (with_reducible exact rx21 i) | (with_reducible exact rt22 i) | (with_reducible exact rr22 i) | (with_reducible exact rg22 i) | (with_reducible exact rx22 i) | (with_reducible exact rt23 i) | (with_reducible exact rr23 i) | (with_reducible exact rg23 i) | (with_reducible exact rx23 i) | (with_reducible exact rt24 i) | (with_reducible exact rr24 i) | (with_reducible exact rg24 i) | (with_reducible exact rx24 i))) | go_keep)
    (first
      | (go_at_call 30; refine Calls.mono (TermFault_c t.wi t.ro t.y t.x t.hi RA RB rc rd t.ch t.hs _ (by repeat (with_reducible first | exact HKR19.out | refine Kd.C_below ?_ HB24.out | refine Kd.C_below ?_ HB23.out | refine Kd.C_below ?_ HB22.out | refine Kd.C_below ?_ HB21.out | refine Kd.C_alloc ?_ _ | refine Kd.C_drewN ?_ _ | refine Kd.C_drew ?_)) HRC.out.1 hmr) ?_; rintro e w21 ⟨rfl, hb⟩; rw [HT0.out]; have HB21 := Aside0.mk hb; have sz21 := hb.size; (try simp only [size_alloc, size_drew, size_drewN] at sz21); have rt21 := blk_cell (show w21.heap[w1.heap.size]? = some (.cells #[.int .i64 wi, .int .i64 ro, .int .i64 y, .int .i64 x, .bool hi, .slice TA ch.length tc, .slice TB hs.length td] 47 (0, 0)) from (by repeat (with_reducible first | exact HT9.out | exact blk_new _ | refine blk_new' _ (by simp only [size_alloc, size_drew, size_drewN]) | refine blk_drewN ?_ _ | refine blk_drew ?_ | refine blk_alloc ?_ _ | refine blk_below ?_ HB24.out | refine blk_below ?_ HB23.out | refine blk_below ?_ HB22.out | refine blk_below ?_ HB21.out ))); have rr21 := blk_cell (show w21.heap[w2.heap.size]? = some (.cells #[.int .i64 0, .int .i64 t.wi, .int .i64 t.ro, .int .i64 t.y, .int .i64 t.x, .bool t.hi, .slice RA t.ch.length rc, .slice RB t.hs.length rd] 52 (0, 0)) from (by repeat (with_reducible first | exact HR9.out | exact blk_new _ | refine blk_new' _ (by simp only [size_alloc, size_drew, size_drewN]) | refine blk_drewN ?_ _ | refine blk_drew ?_ | refine blk_alloc ?_ _ | refine blk_below ?_ HB24.out | refine blk_below ?_ HB23.out | refine blk_below ?_ HB22.out | refine blk_below ?_ HB21.out ))); have rg21 := blk_cell (show w21.heap[w6.heap.size]? = some (.cells #[.int .i64 0, .int .i64 t.wi, .slice GA t.ch.length gc, .slice GB t.hs.length gd] 63 (0, 0)) from (by repeat (with_reducible first | exact HG9.out | exact blk_new _ | refine blk_new' _ (by simp only [size_alloc, size_drew, size_drewN]) | refine blk_drewN ?_ _ | refine blk_drew ?_ | refine blk_alloc ?_ _ | refine blk_below ?_ HB24.out | refine blk_below ?_ HB23.out | refine blk_below ?_ HB22.out | refine blk_below ?_ HB21.out ))); have rx21 := blk_cell (show w21.heap[w7.heap.size]? = some (.cells #[.int .i64 0, .string S] 23 (0, 0)) from (by repeat (with_reducible first | exact HX9.out | exact blk_new _ | refine blk_new' _ (by simp only [size_alloc, size_drew, size_drewN]) | refine blk_drewN ?_ _ | refine blk_drew ?_ | refine blk_alloc ?_ _ | refine blk_below ?_ HB24.out | refine blk_below ?_ HB23.out | refine blk_below ?_ HB22.out | refine blk_below ?_ HB21.out ))); clear hb)
      | (go_at_call 61; refine Calls.mono (GridFault_c t.wi GA gc t.ch GB gd t.hs _ (by repeat (with_reducible first | exact HKG19.out | refine Kd.C_below ?_ HB24.out | refine Kd.C_below ?_ HB23.out | refine Kd.C_below ?_ HB22.out | refine Kd.C_below ?_ HB21.out | refine Kd.C_alloc ?_ _ | refine Kd.C_drewN ?_ _ | refine Kd.C_drew ?_)) (by repeat (with_reducible first | exact HKG29.out | refine Kd.C_below ?_ HB24.out | refine Kd.C_below ?_ HB23.out | refine Kd.C_below ?_ HB22.out | refine Kd.C_below ?_ HB21.out | refine Kd.C_alloc ?_ _ | refine Kd.C_drewN ?_ _ | refine Kd.C_drew ?_)) HGC.out.1 HGC.out.2) ?_; rintro e w22 ⟨rfl, hb⟩; rw [HG0.out]; have HB22 := Aside0.mk hb; have sz22 := hb.size; (try simp only [size_alloc, size_drew, size_drewN] at sz22); have rt22 := blk_cell (show w22.heap[w1.heap.size]? = some (.cells #[.int .i64 wi, .int .i64 ro, .int .i64 y, .int .i64 x, .bool hi, .slice TA ch.length tc, .slice TB hs.length td] 47 (0, 0)) from (by repeat (with_reducible first | exact HT9.out | exact blk_new _ | refine blk_new' _ (by simp only [size_alloc, size_drew, size_drewN]) | refine blk_drewN ?_ _ | refine blk_drew ?_ | refine blk_alloc ?_ _ | refine blk_below ?_ HB24.out | refine blk_below ?_ HB23.out | refine blk_below ?_ HB22.out | refine blk_below ?_ HB21.out ))); have rr22 := blk_cell (show w22.heap[w2.heap.size]? = some (.cells #[.int .i64 0, .int .i64 t.wi, .int .i64 t.ro, .int .i64 t.y, .int .i64 t.x, .bool t.hi, .slice RA t.ch.length rc, .slice RB t.hs.length rd] 52 (0, 0)) from (by repeat (with_reducible first | exact HR9.out | exact blk_new _ | refine blk_new' _ (by simp only [size_alloc, size_drew, size_drewN]) | refine blk_drewN ?_ _ | refine blk_drew ?_ | refine blk_alloc ?_ _ | refine blk_below ?_ HB24.out | refine blk_below ?_ HB23.out | refine blk_below ?_ HB22.out | refine blk_below ?_ HB21.out ))); have rg22 := blk_cell (show w22.heap[w6.heap.size]? = some (.cells #[.int .i64 0, .int .i64 t.wi, .slice GA t.ch.length gc, .slice GB t.hs.length gd] 63 (0, 0)) from (by repeat (with_reducible first | exact HG9.out | exact blk_new _ | refine blk_new' _ (by simp only [size_alloc, size_drew, size_drewN]) | refine blk_drewN ?_ _ | refine blk_drew ?_ | refine blk_alloc ?_ _ | refine blk_below ?_ HB24.out | refine blk_below ?_ HB23.out | refine blk_below ?_ HB22.out | refine blk_below ?_ HB21.out ))); have rx22 := blk_cell (show w22.heap[w7.heap.size]? = some (.cells #[.int .i64 0, .string S] 23 (0, 0)) from (by repeat (with_reducible first | exact HX9.out | exact blk_new _ | refine blk_new' _ (by simp only [size_alloc, size_drew, size_drewN]) | refine blk_drewN ?_ _ | refine blk_drew ?_ | refine blk_alloc ?_ _ | refine blk_below ?_ HB24.out | refine blk_below ?_ HB23.out | refine blk_below ?_ HB22.out | refine blk_below ?_ HB21.out ))); clear hb)
      | (go_at_call 56; refine Calls.mono (specFeedTerm_c wi ro y x hi TA tc ch TB td hs DA dc da _ (by repeat (with_reducible first | exact HKT19.out | refine Kd.C_below ?_ HB24.out | refine Kd.C_below ?_ HB23.out | refine Kd.C_below ?_ HB22.out | refine Kd.C_below ?_ HB21.out | refine Kd.C_alloc ?_ _ | refine Kd.C_drewN ?_ _ | refine Kd.C_drew ?_)) (by repeat (with_reducible first | exact HKT29.out | refine Kd.C_below ?_ HB24.out | refine Kd.C_below ?_ HB23.out | refine Kd.C_below ?_ HB22.out | refine Kd.C_below ?_ HB21.out | refine Kd.C_alloc ?_ _ | refine Kd.C_drewN ?_ _ | refine Kd.C_drew ?_)) (by repeat (with_reducible first | exact HKD9.out | refine Kd.C_below ?_ HB24.out | refine Kd.C_below ?_ HB23.out | refine Kd.C_below ?_ HB22.out | refine Kd.C_below ?_ HB21.out | refine Kd.C_alloc ?_ _ | refine Kd.C_drewN ?_ _ | refine Kd.C_drew ?_)) HCS.out.1 HCS.out.2.1 HCS.out.2.2 HBD.out) ?_; rintro e w23 ⟨QA, qc, QB, qd, he, hgc, hR1, hgd, hR2, hb⟩; rw [HQ.out] at he hgc hR1 hgd hR2; dsimp only at he hgc hR1 hgd hR2; subst he; have HB23 := Aside0.mk hb; have sz23 := hb.size; (try simp only [size_alloc, size_drew, size_drewN] at sz23); have HKQ1 := Aside0.mk (C_of_R hR1); have HKQ2 := Aside0.mk (C_of_R hR2); have HQC := Aside0.mk (And.intro hgc hgd); have rt23 := blk_cell (show w23.heap[w1.heap.size]? = some (.cells #[.int .i64 wi, .int .i64 ro, .int .i64 y, .int .i64 x, .bool hi, .slice TA ch.length tc, .slice TB hs.length td] 47 (0, 0)) from (by repeat (with_reducible first | exact HT9.out | exact blk_new _ | refine blk_new' _ (by simp only [size_alloc, size_drew, size_drewN]) | refine blk_drewN ?_ _ | refine blk_drew ?_ | refine blk_alloc ?_ _ | refine blk_below ?_ HB24.out | refine blk_below ?_ HB23.out | refine blk_below ?_ HB22.out | refine blk_below ?_ HB21.out ))); have rr23 := blk_cell (show w23.heap[w2.heap.size]? = some (.cells #[.int .i64 0, .int .i64 t.wi, .int .i64 t.ro, .int .i64 t.y, .int .i64 t.x, .bool t.hi, .slice RA t.ch.length rc, .slice RB t.hs.length rd] 52 (0, 0)) from (by repeat (with_reducible first | exact HR9.out | exact blk_new _ | refine blk_new' _ (by simp only [size_alloc, size_drew, size_drewN]) | refine blk_drewN ?_ _ | refine blk_drew ?_ | refine blk_alloc ?_ _ | refine blk_below ?_ HB24.out | refine blk_below ?_ HB23.out | refine blk_below ?_ HB22.out | refine blk_below ?_ HB21.out ))); have rg23 := blk_cell (show w23.heap[w6.heap.size]? = some (.cells #[.int .i64 0, .int .i64 t.wi, .slice GA t.ch.length gc, .slice GB t.hs.length gd] 63 (0, 0)) from (by repeat (with_reducible first | exact HG9.out | exact blk_new _ | refine blk_new' _ (by simp only [size_alloc, size_drew, size_drewN]) | refine blk_drewN ?_ _ | refine blk_drew ?_ | refine blk_alloc ?_ _ | refine blk_below ?_ HB24.out | refine blk_below ?_ HB23.out | refine blk_below ?_ HB22.out | refine blk_below ?_ HB21.out ))); have rx23 := blk_cell (show w23.heap[w7.heap.size]? = some (.cells #[.int .i64 0, .string S] 23 (0, 0)) from (by repeat (with_reducible first | exact HX9.out | exact blk_new _ | refine blk_new' _ (by simp only [size_alloc, size_drew, size_drewN]) | refine blk_drewN ?_ _ | refine blk_drew ?_ | refine blk_alloc ?_ _ | refine blk_below ?_ HB24.out | refine blk_below ?_ HB23.out | refine blk_below ?_ HB22.out | refine blk_below ?_ HB21.out ))); clear hb hgc hR1 hgd hR2)
      | (go_at_call 40; refine Calls.mono (specTermText_c t.wi t.ro t.y t.x t.hi QA qc t.ch QB qd t.hs _ (by repeat (with_reducible first | exact HKQ1.out | refine Kd.C_below ?_ HB22.out | refine Kd.C_below ?_ HB21.out | refine Kd.C_alloc ?_ _ | refine Kd.C_drewN ?_ _ | refine Kd.C_drew ?_)) (by repeat (with_reducible first | exact HKQ2.out | refine Kd.C_below ?_ HB22.out | refine Kd.C_below ?_ HB21.out | refine Kd.C_alloc ?_ _ | refine Kd.C_drewN ?_ _ | refine Kd.C_drew ?_)) HQC.out.1 HQC.out.2) ?_; rintro e w24 ⟨he, hb⟩; rw [HTX.out.1] at he; dsimp only at he; subst he; have HB24 := Aside0.mk hb; have sz24 := hb.size; (try simp only [size_alloc, size_drew, size_drewN] at sz24); have rt24 := blk_cell (show w24.heap[w1.heap.size]? = some (.cells #[.int .i64 wi, .int .i64 ro, .int .i64 y, .int .i64 x, .bool hi, .slice TA ch.length tc, .slice TB hs.length td] 47 (0, 0)) from (by repeat (with_reducible first | exact HT9.out | exact blk_new _ | refine blk_new' _ (by simp only [size_alloc, size_drew, size_drewN]) | refine blk_drewN ?_ _ | refine blk_drew ?_ | refine blk_alloc ?_ _ | refine blk_below ?_ HB24.out | refine blk_below ?_ HB23.out | refine blk_below ?_ HB22.out | refine blk_below ?_ HB21.out ))); have rr24 := blk_cell (show w24.heap[w2.heap.size]? = some (.cells #[.int .i64 0, .int .i64 t.wi, .int .i64 t.ro, .int .i64 t.y, .int .i64 t.x, .bool t.hi, .slice RA t.ch.length rc, .slice RB t.hs.length rd] 52 (0, 0)) from (by repeat (with_reducible first | exact HR9.out | exact blk_new _ | refine blk_new' _ (by simp only [size_alloc, size_drew, size_drewN]) | refine blk_drewN ?_ _ | refine blk_drew ?_ | refine blk_alloc ?_ _ | refine blk_below ?_ HB24.out | refine blk_below ?_ HB23.out | refine blk_below ?_ HB22.out | refine blk_below ?_ HB21.out ))); have rg24 := blk_cell (show w24.heap[w6.heap.size]? = some (.cells #[.int .i64 0, .int .i64 t.wi, .slice GA t.ch.length gc, .slice GB t.hs.length gd] 63 (0, 0)) from (by repeat (with_reducible first | exact HG9.out | exact blk_new _ | refine blk_new' _ (by simp only [size_alloc, size_drew, size_drewN]) | refine blk_drewN ?_ _ | refine blk_drew ?_ | refine blk_alloc ?_ _ | refine blk_below ?_ HB24.out | refine blk_below ?_ HB23.out | refine blk_below ?_ HB22.out | refine blk_below ?_ HB21.out ))); have rx24 := blk_cell (show w24.heap[w7.heap.size]? = some (.cells #[.int .i64 0, .string S] 23 (0, 0)) from (by repeat (with_reducible first | exact HX9.out | exact blk_new _ | refine blk_new' _ (by simp only [size_alloc, size_drew, size_drewN]) | refine blk_drewN ?_ _ | refine blk_drew ?_ | refine blk_alloc ?_ _ | refine blk_below ?_ HB24.out | refine blk_below ?_ HB23.out | refine blk_below ?_ HB22.out | refine blk_below ?_ HB21.out ))); clear hb))
  all_goals
    go_wp2
    go_ret
    exact ⟨by first | (simp [hSz]; done) | (simp; omega), Below.trans HW.out (below_upW (below_trans9 HBx.out (by repeat (with_reducible first | exact Below.refl _ _ | refine below_alloc ?_ _ | refine below_drew ?_ | refine pw_below_drewN ?_ _ | refine Below.setCell ?_ (by dsimp only; omega) _ | refine below_end ?_ HB24.out | refine below_end ?_ HB23.out | refine below_end ?_ HB22.out | refine below_end ?_ HB21.out ))) (by have := HW.out.size; omega))⟩
end Go.Proofs.Ytpfponhaofdbaaa.M
