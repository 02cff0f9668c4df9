import Derived.Test.YtpfponhaofdbaaaF6
import Derived.Test.YtpfponhaofdbaaaFQ
import Derived.Deep.DeepCutAuto
import Derived.Deep.CutRange
set_option linter.unusedVariables false
set_option linter.unusedSimpArgs false
namespace Go.Proofs.Ytpfponhaofdbaaa.M
open Go.RowKit Go.Proofs.YtpfponhaofdbaaaW.PrintWords

theorem begP_le {d p : List Int} (h : begP d p = true) : p.length ≤ d.length := by
  unfold begP at h
  rw [Bool.and_eq_true] at h
  exact of_decide_eq_true h.1
theorem oneP_le (d : List Int) (s : TS) (hd : 0 < d.length) : (oneP d s).2 ≤ d.length := by
  unfold oneP
  split
  · rename_i h; have := begP_le h; simpa using this
  split
  · rename_i h; have := begP_le h; simpa using this
  split
  · rename_i h; have := begP_le h; simpa using this
  split
  · rename_i h
    have h2 := begP_le h
    have h2 : 2 ≤ d.length := by simpa using h2
    unfold movP movP1 movP2
    split
    · exact Nat.zero_le _
    · rename_i h3
      split
      · exact Nat.zero_le _
      · rename_i h4
        have h5 : begP (d.drop (3 + (rdg (d.drop 2) 3 0 0).2 + (rdg (d.drop (3 + (rdg (d.drop 2) 3 0 0).2)) 3 0 0).2)) [72] = true := by
          cases hh : begP (d.drop (3 + (rdg (d.drop 2) 3 0 0).2 + (rdg (d.drop (3 + (rdg (d.drop 2) 3 0 0).2)) 3 0 0).2)) [72]
          · exact absurd (Or.inr hh) h4
          · rfl
        have := begP_le h5
        rw [List.length_drop] at this
        simp only [List.length_cons, List.length_nil] at this
        show 4 + _ + _ ≤ _
        omega
  split
  · show (decodeP d).2.2.toNat ≤ _
    unfold decodeP
    split
    · show (0 : Int).toNat ≤ _; omega
    · rename_i h1 h2
      split
      · show ((dcFirst (d.getD 0 0)).2 : Int).toNat ≤ _
        rw [Int.toNat_natCast]
        unfold decodeP at h1
        omega
      · show (0 : Int).toNat ≤ _; omega
  · exact Nat.zero_le _
/-- As fromU, with the block. -/
theorem fromUb (A : Option Addr) (c : Nat) (d : List Int) (i : Nat) (w : World) (hr : Kd.C (Kd.int .u8) w A d.length d) (hi : i ≤ d.length) (hc : d.length ≤ c) :
    ∃ A', Kd.C (Kd.int .u8) w A' (d.drop i).length (d.drop i) ∧ (d.drop i).length ≤ c - i ∧ (∀ ad', A' = some ad' → ∃ ad, A = some ad ∧ ad'.block = ad.block) ∧ ∀ (k : IntKind) (W : World), (Instr.slice 36 (.slice A d.length c) (some (.int k (i : Int))) none none).run Try.prog W = .ok (.slice A' (d.drop i).length (c - i)) W := by
  obtain ⟨j, hj, hz0, hz1, hz2⟩ := info_parts info_u8'
  refine ⟨if c = i then A else A.map (·.add (i * 1)), Kd.C_drop hr hi hc, by rw [List.length_drop]; omega, ?_, fun k W => ?_⟩
  · intro ad' h
    by_cases hci : c = i
    · rw [if_pos hci] at h; exact ⟨ad', h, rfl⟩
    · rw [if_neg hci] at h
      cases A with
      | none => cases h
      | some ad => injection h with h; exact ⟨ad, rfl, by rw [← h]; exact add_block ad _⟩
  · have := cut_from (P := Try.prog) 36 5 k Try.underlying36 hj 1 hz1 A d.length c (i : Int) (by omega) (by omega) W
    rw [Int.toNat_natCast] at this
    rw [List.length_drop]
    exact this
theorem C_ltU {w : World} {ad : Addr} {n : Nat} {xs : List Int} {k : IntKind} (h : Kd.C (Kd.int k) w (some ad) n xs) (hn : 0 < n) : ad.block < w.heap.size := by
  obtain ⟨ad', e, hx⟩ := at1 h 0 0 hn
  cases e
  have := World.block_lt_of_cell? w _ hx
  rwa [add_block] at this
/-- A row that came, behind the terminal's own stores. -/
theorem C_keepT {w w1 : World} {A : Option Addr} {n : Nat} {xs : List Int} {g a b : Nat} {k : IntKind} (h : Kd.C (Kd.int k) w A n xs) (hk : TKeep w w1 g a b) (ha : w.heap.size ≤ a) (hb : w.heap.size ≤ b) (hf : ∀ ad, A = some ad → 0 < n → ad.block ≠ g) : Kd.C (Kd.int k) w1 A n xs :=
  C_upd h hk (fun ad e hn => by
    subst e
    have := C_ltU h hn
    have := hf ad rfl hn
    rintro (h | h | h) <;> omega)

theorem updG_set {w w1 : World} {g : Nat} (h : Upd w w1 (fun k => k = g)) (i : Nat) (v : Value) : Upd w (w1.setCell ⟨g, i, none⟩ v) (fun k => k = g) := h.trans (upd_set w1 g i v) (fun _ _ h => h) (fun _ _ h => h)
theorem updG_below {w w1 w2 : World} {g : Nat} (h : Upd w w1 (fun k => k = g)) (hb : Below w1.heap.size w1 w2) : Upd w w2 (fun k => k = g) := h.trans (Upd.of_below hb (fun k => k = g)) (fun _ _ h => h) (fun _ _ h => h)
theorem updG_drew {w w1 : World} {g : Nat} (h : Upd w w1 (fun k => k = g)) : Upd w w1.drew (fun k => k = g) := ⟨h.os, h.tape, h.output, h.size, h.block⟩
set_option maxRecDepth 100000 in
set_option maxHeartbeats 2000000 in
theorem feed_c (g : Nat) (s : TS) (A : Option Addr) (c : Nat) (B : Option Addr) (d : Nat) (Ad : Option Addr) (cp : Nat) (da : List Int) (w : World)
    (hb : w.heap[g]? = some (.cells #[.int .i64 s.wi, .int .i64 s.ro, .int .i64 s.y, .int .i64 s.x, .bool s.hi, .slice A s.ch.length c, .slice B s.hs.length d] 47 (0, 0)))
    (hr : Kd.C (Kd.int .i64) w A s.ch.length s.ch) (hr2 : Kd.C Kd.bool w B s.hs.length s.hs) (hi : TI s)
    (hrd : Kd.C (Kd.int .u8) w Ad da.length da) (hc : da.length ≤ cp) (hl : da.length ≤ 1000000) (hbd : ∀ z ∈ da, 0 ≤ z ∧ z ≤ 255) (hfar : ∀ ad, Ad = some ad → 0 < da.length → ad.block ≠ g) :
    Calls Try.prog 104 #[.pointer (some ⟨g, 0, none⟩), .slice Ad da.length cp] w fun e w' => e = .returned (.bool (feedAll da s).isSome) ∧ Upd w w' (fun k => k = g) ∧ ∃ (a b c' d' : Nat) (s' : TS), TAt w' g a b c' d' w.heap.size s' ∧ (∀ t, feedAll da s = some t → t = s') := by
  have HRA := Aside0.mk hr
  have HRB := Aside0.mk hr2
  have HI := Aside0.mk hi
  have HD := Aside0.mk hrd
  have HBD := Aside0.mk hbd
  have HF := Aside0.mk hfar
  have BB := Aside0.mk hb
  have lt0 := blk_lt hb
  have rd0 := blk_cell hb
  have fr0 := blk_free hb
  have hat := hi.at
  have lc : s.ch.length ≤ 520 := by omega
  have lc0 : 0 < s.ch.length := by have := hi.w1; omega
  have lh : s.hs.length ≤ 520 := by have := hi.lh; omega
  have lh0 : 0 < s.hs.length := by have := hi.lh; omega
  clear hr hr2 hi hrd hbd hfar hb hat
  go_enter Try.func104, Try.ntmps104
  go_wp2
  go_cut [] from 6 to 21 (fun wx => Upd w wx (fun k => k = g) ∧ ∃ (a b c' d' : Nat), TAt wx g a b c' d' w.heap.size s)
  case first =>
    go_region_with (first
      | (go_at_call 121; refine Calls.mono (cloneint64_c A c s.ch _ (by repeat (with_reducible first | exact HRA.out | refine Kd.C_drew ?_ | refine Kd.C_below ?_ HB2.out)) (by omega)) ?_; rintro e w1 ⟨A', c', rfl, hc', hR1, hb1⟩; have HB1 := Aside0.mk hb1; have sz1 := hb1.size; (try simp only [size_alloc, size_drew, size_drewN] at sz1); (try simp only [size_alloc, size_drew, size_drewN] at hR1); have HR1 := Aside0.mk hR1; have NB1 : w1.heap[g]? = some (.cells #[.int .i64 s.wi, .int .i64 s.ro, .int .i64 s.y, .int .i64 s.x, .bool s.hi, .slice A s.ch.length c, .slice B s.hs.length d] 47 (0, 0)) := (by repeat (with_reducible first | exact BB.out | refine blk_drew ?_ | refine blk_below ?_ HB1.out | refine blk_below ?_ HB2.out)); have rd1 := blk_cell NB1; have fr1 := blk_free NB1; clear NB1; have l1 : g < w1.heap.size := (by omega); clear hb1 hR1 hc')
      | (go_at_call 122; refine Calls.mono (clonebool_c B d s.hs _ (by repeat (with_reducible first | exact HRB.out | refine Kd.C_drew ?_ | refine Kd.C_below ?_ HB1.out)) (by omega)) ?_; rintro e w2 ⟨B', d', rfl, hd', hR2, hb2⟩; have HB2 := Aside0.mk hb2; have sz2 := hb2.size; (try simp only [size_alloc, size_drew, size_drewN] at sz2); (try simp only [size_alloc, size_drew, size_drewN] at hR2); have HR2 := Aside0.mk hR2; have NB2 : w2.heap[g]? = some (.cells #[.int .i64 s.wi, .int .i64 s.ro, .int .i64 s.y, .int .i64 s.x, .bool s.hi, .slice A s.ch.length c, .slice B s.hs.length d] 47 (0, 0)) := (by repeat (with_reducible first | exact BB.out | refine blk_drew ?_ | refine blk_below ?_ HB2.out | refine blk_below ?_ HB1.out)); have rd2 := blk_cell NB2; have fr2 := blk_free NB2; clear NB2; have l2 : g < w2.heap.size := (by omega); clear hb2 hR2 hd'))
    all_goals
      go_wp2
      go_meet
      refine ⟨?_, ?_⟩
      · repeat (with_reducible first | exact Upd.of_below (Below.refl _ _) _ | refine updG_set ?_ _ _ | refine updG_below ?_ HB2.out | refine updG_below ?_ HB1.out | refine updG_drew ?_)
      · obtain ⟨a, ca, e1, h1, h2, _⟩ := Kd.R_form HR1.out lc0
        obtain ⟨b, cb, e2, h3, h4, _⟩ := Kd.R_form HR2.out lh0
        injection e1 with e1 _ e1'
        injection e2 with e2 _ e2'
        subst e1 e2 e1' e2'
        refine ⟨a, b, c', d', ?_, ?_, ?_⟩
        · first
            | exact blk_set (blk_set (by repeat (with_reducible first | exact BB.out | refine blk_drew ?_ | refine blk_below ?_ HB2.out | refine blk_below ?_ HB1.out)) rfl) rfl
        · refine R_lowI (base := w.heap.size) _ ?_ (by omega)
          first
            | ((repeat (with_reducible first | exact HR1.out | refine R_setI ?_ lt0 | refine Kd.R_below ?_ HB2.out)); done)
            | (refine R_lowI (base := w2.heap.size) _ ?_ (by omega); repeat (with_reducible first | exact HR1.out | refine R_setI ?_ l2 | refine Kd.R_below ?_ HB2.out))
        · refine R_lowB (base := w.heap.size) _ ?_ (by omega)
          first
            | ((repeat (with_reducible first | exact HR2.out | refine R_setB ?_ lt0 | refine Kd.R_below ?_ HB1.out)); done)
            | (refine R_lowB (base := w1.heap.size) _ ?_ (by omega); repeat (with_reducible first | exact HR2.out | refine R_setB ?_ l1 | refine Kd.R_below ?_ HB1.out))
  case rest =>
    obtain ⟨hu, a, b, c1, d1, ht⟩ := hcut
    have HU := Aside0.mk hu
    have HT0 := Aside0.mk ht
    have lt1 := ht.lt
    clear hu ht rd0 fr0
    go_wp2
    go_loopw [1] (fun v wr => ∃ (A' : Option Addr) (c2 : Nat) (d2 : List Int) (s1 : TS), v = .slice A' d2.length c2 ∧ d2.length ≤ c2 ∧ d2.length ≤ 1000000 ∧ Aside0 (Kd.C (Kd.int .u8) w A' d2.length d2) ∧ Aside0 (∀ ad, A' = some ad → 0 < d2.length → ad.block ≠ g) ∧ Aside0 (∀ z ∈ d2, 0 ≤ z ∧ z ≤ 255) ∧ Aside0 (TAt wr g a b c1 d1 w.heap.size s1) ∧ Aside0 (TI s1) ∧ Aside0 (TKeep w wr g a b) ∧ Aside0 (feedAll da s = feedAll d2 s1)) (fun v _ => match v with | .slice _ n _ => n | _ => 0)
    case atStart => exact ⟨Ad, cp, da, s, rfl, hc, hl, HD, HF, HBD, HT0, HI, ⟨HU.out.mono (fun _ _ h => .inl h)⟩, ⟨rfl⟩⟩
    case round =>
      obtain ⟨A', c2, d2, s1, rfl, hc2, hl2, HC2, HF2, HB2, HT2, HI2, HK2, HE2⟩ := hrel
      rcases Nat.eq_zero_or_pos d2.length with h0 | h0
      · have HQ := Aside0.mk (show feedAll da s = some s1 by rw [HE2.out, List.eq_nil_of_length_eq_zero h0]; rfl)
        have h0' : ¬ (0 : Int) < d2.length := by omega
        clear h0
        go_wp2
        go_ret
        exact ⟨by rw [HQ.out]; rfl, HK2.out.mono (fun i hi h => by rcases h with h | h | h; exact h; omega; omega), a, b, c1, d1, s1, HT2.out, fun t ht => by rw [HQ.out] at ht; injection ht with ht; exact ht.symm⟩
      · have hle := oneP_le d2 s1 h0
        have hinv := oneP_inv HI2.out d2
        have HCK := Aside0.mk (C_keepT HC2.out HK2.out lt1.2.2.2.1 lt1.2.2.2.2 HF2.out)
        have HONE := Aside0.mk (one_c g a b c1 d1 w.heap.size s1 A' c2 d2 wr HT2.out HI2.out HCK.out hc2 h0 hl2 HB2.out)
        have hst := feedAll_step d2 s1 (fun e => by rw [e] at h0; simp at h0)
        have hno := feedAll_none d2 s1 (fun e => by rw [e] at h0; simp at h0)
        generalize oneP d2 s1 = r at *
        obtain ⟨s2, many⟩ := r
        dsimp only at hle hinv HONE hst hno
        have h0' : (0 : Int) < d2.length := by omega
        have HI3 := Aside0.mk hinv
        have HST := Aside0.mk hst
        have HNO := Aside0.mk hno
        clear hinv hst hno
        by_cases hz : many = 0
        · have HQ := Aside0.mk (show feedAll da s = none by rw [HE2.out]; exact HNO.out hz)
          have b1 : ((many : Int) == 0) = true := by simp [hz]
          clear hz
          go_wp2_with (go_at_call 136; refine Calls.mono HONE.out ?_; rintro e w2 ⟨rfl, ht3, hk3⟩; have HT3 := Aside0.mk ht3; have HK3 := Aside0.mk hk3; clear ht3 hk3)
          go_ret
          exact ⟨by rw [HQ.out]; rfl, (HK2.out.trans HK3.out).mono (fun i hi h => by rcases h with h | h | h; exact h; omega; omega), a, b, c1, d1, s2, HT3.out, fun t ht => by rw [HQ.out] at ht; cases ht⟩
        · have b1 : ((many : Int) == 0) = false := by simp; omega
          obtain ⟨A3, hc3, hl3, hb3, hk3⟩ := fromUb A' c2 d2 many w HC2.out hle hc2
          have hk3 := hk3 .i64
          have hd3 : (d2.drop many).length = d2.length - many := List.length_drop
          have hm1 : 1 ≤ many := by omega
          have HE3 := Aside0.mk (show feedAll da s = feedAll (d2.drop many) s2 by rw [HE2.out]; exact HST.out hz)
          have HB3 := Aside0.mk (show ∀ z ∈ d2.drop many, 0 ≤ z ∧ z ≤ 255 from fun z hz => HB2.out z (List.mem_of_mem_drop hz))
          have HC3 := Aside0.mk hc3
          have HF3 := Aside0.mk (show ∀ ad, A3 = some ad → 0 < (d2.drop many).length → ad.block ≠ g from fun ad e hn => by
            obtain ⟨ad0, e0, e1⟩ := hb3 ad e
            rw [e1]
            exact HF2.out ad0 e0 h0)
          have hlt3 : (d2.drop many).length < d2.length := by omega
          clear hz hc3 hb3 hd3
          generalize d2.drop many = d3 at *
          go_wp2_with (go_at_call 136; refine Calls.mono HONE.out ?_; rintro e w2 ⟨rfl, ht3, hk3⟩; have HT3 := Aside0.mk ht3; have HK3 := Aside0.mk hk3; clear ht3 hk3)
          go_roundw
          case rel => exact ⟨A3, c2 - many, d3, s2, rfl, hl3, by omega, HC3, HF3, HB3, HT3, HI3, ⟨HK2.out.trans HK3.out⟩, HE3⟩
          case measure => omega
end Go.Proofs.Ytpfponhaofdbaaa.M
