import Derived.Test.YtpfponhaofdbaaaQ5
import Derived.Test.YtpfponhaofdbaaaQ7
import Derived.Test.YtpfponhaofdbaaaO
set_option linter.unusedVariables false
set_option linter.unusedSimpArgs false
namespace Go.Proofs.Ytpfponhaofdbaaa.M
open Go.RowKit Go.Proofs.YtpfponhaofdbaaaW.PrintWords

/-! rows of commands: four cells each -/
abbrev DC4 := Int × Int × Int × ByteArray × Unit
abbrev kC4 : Kd DC4 := kPair (Kd.int .i64) (kPair (Kd.int .i64) (kPair (Kd.int .i64) (kPair Kd.string kUnit)))
theorem kC4_M (w : World) (base : Nat) (ok : Nat → Prop) (k n z : Int) (s : ByteArray) : kC4.M w base ok (k, n, z, s, ()) [.int .i64 k, .int .i64 n, .int .i64 z, .string s] :=
  ⟨[_], _, rfl, rfl, [_], _, rfl, rfl, [_], _, rfl, rfl, [_], [], rfl, rfl, rfl⟩
theorem infoC4 : (Try.prog.info? 111).map (fun i => (i.zero, i.size, i.bytes)) = some (some (.agg #[.int .i64 0, .int .i64 0, .int .i64 0, .string ByteArray.empty]), 4, 40) := by kernel_rfl
def cmdOf (q : CmdQ) : DC4 := (q.1, q.2.1, 0, strOfNums q.2.2.1, ())
/-- The commands in bytes, from a place on. -/
def cmdsQ (d : List Int) : Nat → Nat → List DC4 → List DC4 × Nat
  | 0, p, out => (out, p)
  | f + 1, p, out => if d.length ≤ p then (out, p) else if (keysP (d.drop p)).2.2.2 = 0 then (out, p) else if (keysP (d.drop p)).2.2.2 < 0 then cmdsQ d f (p + 1) out
    else cmdsQ d f (p + (keysP (d.drop p)).2.2.2.toNat) (out ++ [cmdOf (keysP (d.drop p))])
theorem cmdsQ_bd (d : List Int) : ∀ (f p : Nat) (out : List DC4), out.length ≤ p → p ≤ d.length → (cmdsQ d f p out).1.length ≤ (cmdsQ d f p out).2 ∧ (cmdsQ d f p out).2 ≤ d.length
  | 0, p, out, h1, h2 => ⟨h1, h2⟩
  | f + 1, p, out, h1, h2 => by
    unfold cmdsQ
    split
    · exact ⟨h1, h2⟩
    · rename_i hlt
      split
      · exact ⟨h1, h2⟩
      · split
        · exact cmdsQ_bd d f (p + 1) out (by omega) (by omega)
        · have hb := (keysP_bd (d.drop p)).2
          rw [List.length_drop] at hb
          exact cmdsQ_bd d f _ _ (by rw [List.length_append, List.length_singleton]; omega) (by omega)
theorem cmdsQ_end {d : List Int} {f p : Nat} {out : List DC4} (h : d.length ≤ p) : cmdsQ d f p out = (out, p) := by
  cases f with
  | zero => rfl
  | succ f => unfold cmdsQ; rw [if_pos h]
theorem cmdsQ_short {d : List Int} {f p : Nat} {out : List DC4} (h : (keysP (d.drop p)).2.2.2 = 0) : cmdsQ d f p out = (out, p) := by
  cases f with
  | zero => rfl
  | succ f =>
    unfold cmdsQ
    split
    · rfl
    · first | rfl | rw [if_pos h]
theorem cmdsQ_none {d : List Int} {f p : Nat} {out : List DC4} (hf : d.length - p ≤ f) (hp : p < d.length) (h : (keysP (d.drop p)).2.2.2 < 0) : d.length - (p + 1) ≤ f - 1 ∧ cmdsQ d f p out = cmdsQ d (f - 1) (p + 1) out := by
  obtain ⟨f, rfl⟩ : ∃ g, f = g + 1 := ⟨f - 1, by omega⟩
  refine ⟨by omega, ?_⟩
  rw [cmdsQ, if_neg (by omega), if_neg (by omega), if_pos h]; rfl
theorem cmdsQ_some {d : List Int} {f p : Nat} {out : List DC4} {u : Nat} (hf : d.length - p ≤ f) (hp : p < d.length) (h : (keysP (d.drop p)).2.2.2 = (u : Int)) (h0 : 0 < u) : d.length - (p + u) ≤ f - 1 ∧ cmdsQ d f p out = cmdsQ d (f - 1) (p + u) (out ++ [cmdOf (keysP (d.drop p))]) := by
  obtain ⟨f, rfl⟩ : ∃ g, f = g + 1 := ⟨f - 1, by omega⟩
  refine ⟨by omega, ?_⟩
  rw [cmdsQ, if_neg (by omega), if_neg (by omega), if_neg (by omega), h, Int.toNat_natCast]; rfl
def keysRes (d : List Int) : Int × Int × List DC4 := if 120 < d.length then (2, 0, []) else (0, ((cmdsQ d d.length 0 []).2 : Int), (cmdsQ d d.length 0 []).1)
theorem keysRes_len (d : List Int) : (keysRes d).2.2.length ≤ 120 := by
  unfold keysRes
  split
  · exact Nat.zero_le _
  · have := cmdsQ_bd d d.length 0 [] (Nat.le_refl _) (Nat.zero_le _)
    show (cmdsQ d d.length 0 []).1.length ≤ 120
    omega

theorem kC4_ne {q t : Nat} (h : q ∈ 111 :: kC4.E) (ht : 111 ≠ t) : q ≠ t := by
  rcases List.mem_cons.1 h with rfl | h
  · exact ht
  · exact absurd h (by simp [kC4, kPair, kUnit, Kd.int, Kd.string, Kd.scalar])
set_option maxRecDepth 100000 in
set_option maxHeartbeats 4000000 in
theorem DecodeKeys_c (A : Option Addr) (c : Nat) (d : List Int) (w : World) (hr : Kd.C (Kd.int .u8) w A d.length d) (hc : d.length ≤ c) (hb : ∀ z ∈ d, 0 ≤ z ∧ z ≤ 255) :
    Calls Try.prog 50 #[.slice A d.length c] w fun e w' => ∃ (A' : Option Addr) (c' : Nat), e = .returned (.agg #[.int .i64 (keysRes d).1, .int .i64 (keysRes d).2.1, .slice A' (keysRes d).2.2.length c']) ∧ (keysRes d).2.2.length ≤ c' ∧ Kd.R kC4 111 w' w.heap.size (fun _ => True) (.slice A' (keysRes d).2.2.length c') (keysRes d).2.2 ∧ Below w.heap.size w w' := by
  have HR := Aside0.mk hr
  have HBD := Aside0.mk hb
  have hmx := Kd.C_max hr
  clear hr hb
  by_cases h120 : 120 < d.length
  · have HQ := Aside0.mk (show keysRes d = (2, 0, []) from if_pos h120)
    have b1 : ((d.length : Int) > 120) := by omega
    go_enter Try.func50, Try.ntmps50
    go_wp2
    refine bodyPost_ret (v := .agg #[.int .i64 2, .int .i64 0, .slice none 0 0]) (by simp [results, Try.results50, go_sem]) rfl ⟨none, 0, ?_, ?_, ?_, (by repeat (with_reducible first | exact Below.refl _ _ | refine below_alloc ?_ _ | refine below_drew ?_ | refine pw_below_drewN ?_ _ | refine Below.setCell ?_ (by dsimp only; omega) _ ))⟩
    · rw [HQ.out]; rfl
    · rw [HQ.out]; exact Nat.le_refl _
    · rw [HQ.out]; exact Kd.R_nil _ _ _ _ _
  · have HQ := Aside0.mk (show keysRes d = (0, ((cmdsQ d d.length 0 []).2 : Int), (cmdsQ d d.length 0 []).1) from if_neg h120)
    have hl : d.length ≤ 120 := by omega
    clear h120
    go_enter Try.func50, Try.ntmps50
    go_wp2
    go_loopw [3, 4] (fun v i wr => ∃ (p f : Nat) (out : List DC4), i = .int .i64 p ∧ p ≤ d.length ∧ out.length ≤ p ∧ Aside0 (d.length - p ≤ f) ∧ Aside0 (cmdsQ d f p out = cmdsQ d d.length 0 []) ∧ Aside0 (Kd.R kC4 111 wr w.heap.size (fun _ => True) v out) ∧ Aside0 (Below w.heap.size w wr) ∧ Aside0 (wr.heap[w.heap.size]? = some (.cells #[.int .i64 0, .int .i64 0, .slice none 0 0] 70 (0, 0)))) (fun _ i _ => d.length - (intOf i).toNat)
    case atStart => exact ⟨0, d.length, [], rfl, Nat.zero_le _, Nat.le_refl _, ⟨by omega⟩, ⟨rfl⟩, ⟨⟨fun _ _ => trivial, [], ⟨rfl, .inr ⟨w.heap.size + 1, 0, #[], rfl, by omega, blk_new' _ (by simp only [size_alloc]), Nat.le_refl _, by simp [maxLen], rfl, rfl⟩⟩, rfl, fun j p hj => by simp at hj⟩⟩, ⟨(by repeat (with_reducible first | exact Below.refl _ _ | refine below_alloc ?_ _ | refine below_drew ?_ | refine pw_below_drewN ?_ _ | refine Below.setCell ?_ (by dsimp only; omega) _ ))⟩, ⟨blk_alloc (blk_new _) _⟩⟩
    case round =>
      obtain ⟨p, f, out, rfl, hp, ho, HF, HE, HO, HB, BX⟩ := hrel
      have rdb := blk_cell BX.out
      have frb := blk_free BX.out
      have ltb := blk_lt BX.out
      have szb := HB.out.size
      by_cases hlt : p < d.length
      · have hkb := keysP_bd (d.drop p)
        have hlp : (d.drop p).length = d.length - p := List.length_drop
        have HLP := Aside0.mk hlp
        rw [hlp] at hkb
        obtain ⟨A2, hr2, hc2, hrun⟩ := fromU A c d p w HR.out hp hc
        have hrun1 := hrun .i64
        have HRP := Aside0.mk hr2
        have HBP := Aside0.mk (show ∀ z ∈ d.drop p, 0 ≤ z ∧ z ≤ 255 from fun z hz => HBD.out z (List.mem_of_mem_drop hz))
        clear hr2 hrun hlp
        rcases Int.lt_trichotomy (keysP (d.drop p)).2.2.2 0 with h0 | h0 | h0
        · have HN := Aside0.mk (cmdsQ_none (out := out) HF.out hlt h0)
          have HKV := Aside0.mk (show keysV (keysP (d.drop p)) = .tuple #[.agg #[.int .i64 (keysP (d.drop p)).1, .int .i64 (keysP (d.drop p)).2.1, .int .i64 0, .string (strOfNums (keysP (d.drop p)).2.2.1)], .int .i64 0, .int .i64 0] by unfold keysV keysIs; rw [if_neg (by omega), if_pos h0, show max (keysP (d.drop p)).2.2.2 0 = 0 by omega])
          generalize (keysP (d.drop p)).1 = kk at HKV
          generalize (keysP (d.drop p)).2.1 = nn at HKV
          generalize strOfNums (keysP (d.drop p)).2.2.1 = ss at HKV
          clear h0 hkb
          generalize d.drop p = r at hc2 hrun1 HRP HBP HLP HKV
          go_wp2_with fail
          refine Calls.mono (readKeys_c A2 _ r _ (by repeat (with_reducible first | exact HRP.out | refine Kd.C_below ?_ HB.out)) hc2 (by rw [HLP.out]; omega) HBP.out) ?_
          rintro e w1 ⟨rfl, hb1⟩
          rw [HKV.out]
          have BQ1 := Aside0.mk (blk_below BX.out hb1)
          have rdq := blk_cell BQ1.out
          have frq := blk_free BQ1.out
          have ltq := blk_lt BQ1.out
          have sz1 := hb1.size
          have HB1 := Aside0.mk hb1
          clear hb1
          go_wp2
          go_roundw
          case rel => exact ⟨p + 1, f - 1, out, by go_num, by omega, by omega, ⟨HN.out.1⟩, ⟨HN.out.2.symm.trans HE.out⟩, ⟨by repeat (with_reducible first | exact HO.out | refine Kd.R_alloc ?_ _ | refine Kd.R_below ?_ HB1.out)⟩, ⟨(by repeat (with_reducible first | exact HB.out | refine below_alloc ?_ _ | refine below_end ?_ HB1.out))⟩, ⟨by repeat (with_reducible first | exact BQ1.out | refine blk_alloc ?_ _)⟩⟩
          case measure => simp [intOf]; omega
        · have HQ2 := Aside0.mk (show keysRes d = (0, (p : Int), out) by rw [HQ.out, ← HE.out, cmdsQ_short h0])
          have HKV := Aside0.mk (show keysV (keysP (d.drop p)) = .tuple #[.agg #[.int .i64 (keysP (d.drop p)).1, .int .i64 (keysP (d.drop p)).2.1, .int .i64 0, .string (strOfNums (keysP (d.drop p)).2.2.1)], .int .i64 0, .int .i64 1] by unfold keysV keysIs; rw [if_pos h0, show max (keysP (d.drop p)).2.2.2 0 = 0 by omega])
          generalize (keysP (d.drop p)).1 = kk at HKV
          generalize (keysP (d.drop p)).2.1 = nn at HKV
          generalize strOfNums (keysP (d.drop p)).2.2.1 = ss at HKV
          clear h0 hkb
          generalize d.drop p = r at hc2 hrun1 HRP HBP HLP HKV
          go_wp2_with fail
          refine Calls.mono (readKeys_c A2 _ r _ (by repeat (with_reducible first | exact HRP.out | refine Kd.C_below ?_ HB.out)) hc2 (by rw [HLP.out]; omega) HBP.out) ?_
          rintro e w1 ⟨rfl, hb1⟩
          rw [HKV.out]
          have BQ1 := Aside0.mk (blk_below BX.out hb1)
          have rdq := blk_cell BQ1.out
          have frq := blk_free BQ1.out
          have ltq := blk_lt BQ1.out
          have sz1 := hb1.size
          have HB1 := Aside0.mk hb1
          clear hb1
          have BQ := BQ1
          obtain ⟨A', c', rfl, hc', hcc⟩ := Kd.R_reads HO.out
          have HCL := Aside0.mk hc'
          clear hc' hcc
          go_wp2
          refine bodyPost_ret (v := .agg #[.int .i64 0, .int .i64 p, .slice A' out.length c']) (by simp [results, Try.results50, go_sem, rdb, ltb, rdq, ltq]) rfl ⟨A', c', ?_, ?_, ?_, ?_⟩
          · rw [HQ2.out]
          · rw [HQ2.out]; exact HCL.out
          · rw [HQ2.out]; dsimp only
            repeat (with_reducible first | exact HO.out | refine Kd.R_alloc ?_ _ | refine Kd.R_below ?_ HB1.out | refine Kd.R_set ?_ (by first | exact BQ.out | exact blk_set BQ.out rfl | exact blk_set (blk_set BQ.out rfl) rfl) (fun q hq => kC4_ne hq (by decide)) _ _)
          · repeat (with_reducible first | exact HB.out | refine below_alloc ?_ _ | refine below_end ?_ HB1.out | refine Below.setCell ?_ (by dsimp only; omega) _)
        · obtain ⟨u, hu⟩ := Int.eq_ofNat_of_zero_le (Int.le_of_lt h0)
          have hu0 : 0 < u := by omega
          have hup : p + u ≤ d.length := by omega
          have HN := Aside0.mk (cmdsQ_some (out := out) HF.out hlt hu hu0)
          have HKV := Aside0.mk (show keysV (keysP (d.drop p)) = .tuple #[.agg #[.int .i64 (keysP (d.drop p)).1, .int .i64 (keysP (d.drop p)).2.1, .int .i64 0, .string (strOfNums (keysP (d.drop p)).2.2.1)], .int .i64 (u : Int), .int .i64 2] by unfold keysV keysIs; rw [if_neg (by omega), if_neg (by omega), show max (keysP (d.drop p)).2.2.2 0 = (u : Int) by omega])
          have HCO := Aside0.mk (show cmdOf (keysP (d.drop p)) = ((keysP (d.drop p)).1, (keysP (d.drop p)).2.1, 0, strOfNums (keysP (d.drop p)).2.2.1, ()) from rfl)
          generalize (keysP (d.drop p)).1 = kk at HKV HCO
          generalize (keysP (d.drop p)).2.1 = nn at HKV HCO
          generalize strOfNums (keysP (d.drop p)).2.2.1 = ss at HKV HCO
          generalize cmdOf (keysP (d.drop p)) = cc at HN HCO
          clear h0 hkb hu
          generalize d.drop p = r at hc2 hrun1 HRP HBP HLP HKV
          go_wp2_with fail
          refine Calls.mono (readKeys_c A2 _ r _ (by repeat (with_reducible first | exact HRP.out | refine Kd.C_below ?_ HB.out)) hc2 (by rw [HLP.out]; omega) HBP.out) ?_
          rintro e w1 ⟨rfl, hb1⟩
          rw [HKV.out]
          have BQ1 := Aside0.mk (blk_below BX.out hb1)
          have rdq := blk_cell BQ1.out
          have frq := blk_free BQ1.out
          have ltq := blk_lt BQ1.out
          have sz1 := hb1.size
          have HB1 := Aside0.mk hb1
          clear hb1
          go_wp2_with (at_builtin; refine Kd.R_append kC4 (w0 := w) w.heap.size rfl (.tmp 31) (.tmp 33) 68 111 (.agg #[.int .i64 0, .int .i64 0, .int .i64 0, .string ByteArray.empty]) 40 rfl Try.underlying68 infoC4 rfl (by decide) (by omega) u3 out (kk, nn, 0, ss, ()) [.int .i64 kk, .int .i64 nn, .int .i64 0, .string ss] (fun _ => True) (fun _ => False) rfl (by rw [size_alloc]; rfl) (kC4_M _ _ _ _ _ _ _) (fun _ hk => hk.elim) (fun _ _ => trivial) (by repeat (with_reducible first | exact HO.out | refine Kd.R_alloc ?_ _ | refine Kd.R_below ?_ HB1.out)) (by repeat (with_reducible first | exact HB.out | refine below_alloc ?_ _ | refine below_end ?_ HB1.out)) (by simp only [size_alloc]; omega) (by omega) ?_; intro v1 w2 hR hB hg hat)
          have BQ2 := Aside0.mk (blk_grown (blk_alloc BQ1.out (.cells #[.int .i64 kk, .int .i64 nn, .int .i64 0, .string ss] 111)) hg (fun h9 => row_box HO.out BX.out (by decide) h9.symm))
          have HR2 := Aside0.mk hR
          have HB2 := Aside0.mk hB
          clear hR hB hg hat
          go_wp2
          go_roundw
          case rel => exact ⟨p + u, f - 1, out ++ [cc], by go_num, hup, by rw [List.length_append, List.length_singleton]; omega, ⟨HN.out.1⟩, ⟨HN.out.2.symm.trans HE.out⟩, ⟨by rw [HCO.out]; exact HR2.out⟩, HB2, BQ2⟩
          case measure => simp [intOf]; omega
      · have HQ2 := Aside0.mk (show keysRes d = (0, (p : Int), out) by rw [HQ.out, ← HE.out, cmdsQ_end (by omega)])
        have rdq := rdb
        have ltq := ltb
        have BQ := BX
        have HB1 := Aside0.mk (Below.refl w.heap.size w)
        obtain ⟨A', c', rfl, hc', hcc⟩ := Kd.R_reads HO.out
        have HCL := Aside0.mk hc'
        clear hc' hcc
        go_wp2
        refine bodyPost_ret (v := .agg #[.int .i64 0, .int .i64 p, .slice A' out.length c']) (by simp [results, Try.results50, go_sem, rdb, ltb, rdq, ltq]) rfl ⟨A', c', ?_, ?_, ?_, ?_⟩
        · rw [HQ2.out]
        · rw [HQ2.out]; exact HCL.out
        · rw [HQ2.out]; dsimp only
          repeat (with_reducible first | exact HO.out | refine Kd.R_alloc ?_ _ | refine Kd.R_below ?_ HB1.out | refine Kd.R_set ?_ (by first | exact BQ.out | exact blk_set BQ.out rfl | exact blk_set (blk_set BQ.out rfl) rfl) (fun q hq => kC4_ne hq (by decide)) _ _)
        · repeat (with_reducible first | exact HB.out | refine below_alloc ?_ _ | refine below_end ?_ HB1.out | refine Below.setCell ?_ (by dsimp only; omega) _)

end Go.Proofs.Ytpfponhaofdbaaa.M
