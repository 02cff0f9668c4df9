import Derived.Test.YtpfponhaofdbaaaJ2
import Derived.Test.YtpfponhaofdbaaaE
import Derived.Test.YtpfponhaofdbaaaX
import Derived.Test.YtpfponhaofdbaaaF4
set_option linter.unusedVariables false
set_option linter.unusedSimpArgs false
namespace Go.Proofs.Ytpfponhaofdbaaa.M
open Go.RowKit Go.Proofs.YtpfponhaofdbaaaW.PrintWords

theorem upd_below {w W w1 : World} {S : Nat → Prop} (hu : Upd w W S) (hb : Below W.heap.size W w1) : Upd w w1 S := hu.trans (Upd.of_below hb S) (fun _ _ h => h) (fun _ _ h => h)
theorem upd_grown {w W w1 : World} {S : Nat → Prop} {row : Option Nat} (hu : Upd w W S) (hg : W.grownBy w1 row) (hrow : ∀ k, row = some k → w.heap.size ≤ k) : Upd w w1 S :=
  hu.trans (Upd.of_grown hg) (fun _ _ h => h) (fun i hi e => by have := hrow i e; omega)
theorem Src.grown {W w1 : World} {g c : Nat} {A : Option Addr} {code : List Int} {p : Int} {row : Option Nat} (h : Src W g A c code p) (hg : W.grownBy w1 row) (hrow : ∀ k, row = some k → g < k) : Src w1 g A c code p := h.upd (Upd.of_grown hg) hrow
theorem src_lt {W : World} {g c : Nat} {A : Option Addr} {code : List Int} {p : Int} (h : Src W g A c code p) : g < W.heap.size := blk_lt h.box
theorem str3 (a b c : ByteArray) (k : Nat) (hk : k < 3) (n : Nat) (h : a.size ≤ n ∧ b.size ≤ n ∧ c.size ≤ n) : ∃ s : ByteArray, (#[Value.string a, .string b, .string c] : Array Value)[k]? = some (.string s) ∧ s.size ≤ n := by
  match k, hk with
  | 0, _ => exact ⟨a, rfl, h.1⟩
  | 1, _ => exact ⟨b, rfl, h.2.1⟩
  | 2, _ => exact ⟨c, rfl, h.2.2⟩

set_option maxRecDepth 100000 in
set_option maxHeartbeats 1000000 in
theorem l13Data_c (g : Nat) (A : Option Addr) (c : Nat) (code : List Int) (p : Int) (w : World) (h : Src w g A c code p) (hp : p ≤ 50000) (hl : code.length ≤ 100000000) :
    Calls Try.prog 107 #[.pointer (some ⟨g, 0, none⟩)] w fun e w' => ∃ (A' : Option Addr) (c' : Nat) (data : List Int) (q : Int), e = .returned (.slice A' data.length c') ∧ data.length ≤ c' ∧ Kd.R (Kd.int .u8) 5 w' w.heap.size (fun _ => True) (.slice A' data.length c') data ∧ (∀ z ∈ data, 0 ≤ z ∧ z ≤ 255) ∧ data.length ≤ 100 ∧ Src w' g A c code q ∧ q ≤ p + 40 ∧ Upd w w' (fun k => k = g) := by
  have gl := src_lt h
  have H := Aside0.mk h
  clear h
  have hcv := bytes_run
  go_enter Try.func107, Try.ntmps107
  go_wp2_with fail
  refine Calls.mono (l1Next_c g A c code p 8 _ (H.out.alloc _) (by omega) (by omega) hl) ?_
  rintro e w1 ⟨r, rfl, r0, r1, hs, hu⟩
  have HS1 := Aside0.mk hs
  have HU1 := Aside0.mk (show Upd w w1 (fun k => k = g) from (Upd.of_below (below_alloc (Below.refl _ _) _) _).trans hu (fun _ _ h => h) (fun _ _ h => h))
  have HR1 := Aside0.mk (R_updI (R_at (t := 5) (base := w.heap.size) (enc := Value.int .u8) (h1 := fun _ => rfl) (l := []) (blk_new (W := w) (.cells #[] 5)) (Nat.le_refl _) (by simp)) hu (fun k hk e => by injection hk with hk; subst e; rw [← hk] at gl; exact absurd gl (Nat.lt_irrefl _)))
  have r1' := r1 (by omega)
  obtain ⟨n0, rfl⟩ := Int.eq_ofNat_of_zero_le r0
  clear hs hu r1
  go_wp2
  go_loopw [3, 4] (fun v k wr => ∃ (n : Nat) (data : List Int) (q : Int), n ≤ 7 ∧ k = .int .i64 n ∧ Aside0 (Kd.R (Kd.int .u8) 5 wr w.heap.size (fun _ => True) v data) ∧ Aside0 ((∀ z ∈ data, 0 ≤ z ∧ z ≤ 255) ∧ data.length ≤ (7 - n) * 8) ∧ Aside0 (Src wr g A c code q) ∧ Aside0 (q ≤ p + 1 + ((7 - n : Nat) : Int) * 4) ∧ Aside0 (Upd w wr (fun k => k = g))) (fun _ k _ => (intOf k).toNat)
  case atStart => exact ⟨n0, [], p + 1, by omega, rfl, HR1, ⟨by simp, by simp⟩, HS1, ⟨by omega⟩, HU1⟩
  case round =>
    obtain ⟨n, data, q, hn, rfl, HR, HD, HS, HQ, HU⟩ := hrel
    by_cases hz : 0 < n
    · have hzi : ((n : Nat) : Int) > 0 := by omega
      have hn1 : IntKind.i64.wrap ((n : Int) - 1) = ((n - 1 : Nat) : Int) := by rw [IntKind.wrap_i64]; omega
      have hq7 : q ≤ p + 29 := by have := HQ.out; omega
      go_wp2_with fail
      refine Calls.mono (l1Next_c g A c code q 6 _ HS.out (by omega) (by omega) hl) ?_
      rintro e w2 ⟨r, rfl, r0, r1, hs, hu⟩
      have HS2 := Aside0.mk hs
      have HU2 := Aside0.mk (HU.out.trans hu (fun _ _ h => h) (fun _ _ h => h))
      have HR2 := Aside0.mk (R_updI HR.out hu (fun k hk e => by have := Kd.R_base HR.out k hk; omega))
      clear hs hu r1 r0
      by_cases c0 : r = 0
      · have b0 : (r == 0) = true := by simpa using c0
        clear c0
        go_wp2_with fail
        refine Calls.mono (l1Next_c g A c code (q + 1) 5 _ HS2.out (by omega) (by omega) hl) ?_
        rintro e w3 ⟨r, rfl, r0, r1, hs, hu⟩
        have HS3 := Aside0.mk hs
        have HU3 := Aside0.mk (HU2.out.trans hu (fun _ _ h => h) (fun _ _ h => h))
        have HR3 := Aside0.mk (R_updI HR2.out hu (fun k hk e => by have := Kd.R_base HR2.out k hk; omega))
        have r1' := r1 (by omega)
        have er : IntKind.i64.wrap (1 + r) = 1 + r := by rw [IntKind.wrap_i64]; omega
        clear hs hu r1
        go_wp2_with fail
        refine Calls.mono (l1Digit_c (1 + r) _ (by omega) (by omega)) ?_
        rintro e w4 ⟨d1, rfl, hd1, hb4⟩
        have HS4 := Aside0.mk (HS3.out.below hb4)
        have HU4 := Aside0.mk (upd_below HU3.out hb4)
        have HR4 := Aside0.mk (Kd.R_below HR3.out hb4)
        clear hb4 er r0 r1'
        go_wp2_with fail
        refine Calls.mono (l1Next_c g A c code (q + 1 + 1) 8 _ HS4.out (by omega) (by omega) hl) ?_
        rintro e w5 ⟨r, rfl, r0, r1, hs, hu⟩
        have HS5 := Aside0.mk hs
        have HU5 := Aside0.mk (HU4.out.trans hu (fun _ _ h => h) (fun _ _ h => h))
        have HR5 := Aside0.mk (R_updI HR4.out hu (fun k hk e => by have := Kd.R_base HR4.out k hk; omega))
        have r1' := r1 (by omega)
        have er : IntKind.i64.wrap (1 + r) = 1 + r := by rw [IntKind.wrap_i64]; omega
        clear hs hu r1
        go_wp2_with fail
        refine Calls.mono (l1Digit_c (1 + r) _ (by omega) (by omega)) ?_
        rintro e w6 ⟨d2, rfl, hd2, hb6⟩
        have HS6 := Aside0.mk (HS5.out.below hb6)
        have HU6 := Aside0.mk (upd_below HU5.out hb6)
        have HR6 := Aside0.mk (Kd.R_below HR5.out hb6)
        clear hb6 er r0 r1'
        obtain ⟨S, hS⟩ : ∃ S, (ByteArray.mk #[27, 91] ++ d1 ++ ByteArray.mk #[59] ++ d2 ++ ByteArray.mk #[72]) = S := ⟨_, rfl⟩
        have hSz : S.size = 6 := by rw [← hS]; simp only [ByteArray.size_append, hd1, hd2]; decide
        have HC := Aside0.mk (bWorld_C w6 S (by omega))
        rw [hSz] at HC
        have HLen := Aside0.mk HD.out.2
        have hlen : data.length ≤ 56 := by have := HD.out.2; omega
        have hsB := bWorld_size w6 S
        have hBB := Aside0.mk (bWorld_below w6 S)
        have hz6 := HU6.out.size
        go_wp2_with (at_builtin; refine Kd.R_append_row (w0 := bWorld w6 S) (Value.int .u8) 0 w.heap.size rfl (.tmp 22) (.tmp 35) 36 5 (.int .u8 0) 1 rfl Try.underlying36 info_u8' rfl (by omega) u3 data (bytesOf S) (some ⟨w6.heap.size, 0, none⟩) 6 (bCap w6 S) (fun _ => True) rfl rfl (fun _ _ => trivial) (Kd.R_below HR6.out hBB.out) HC.out (Below.refl _ _) (by omega) (by omega) ?_; intro v7 w7 hR7 hB7 hg7 hat7; have HR7 := Aside0.mk hR7; have HG7 := Aside0.mk hg7; clear hR7 hB7 hg7 hat7)
        go_roundw
        case rel =>
          have hrow : ∀ k, u3.ownBlock = some k → w.heap.size ≤ k := fun k e => Kd.R_base HR6.out k e
          exact ⟨n - 1, data ++ bytesOf S, q + 1 + 1 + 1, by omega, by first | rfl | go_num, HR7, ⟨fun z hz => (List.mem_append.1 hz).elim (HD.out.1 z) (bytesOf_bd S z), by rw [List.length_append, bytesOf_len, hSz]; have := HD.out.2; omega⟩, ⟨(HS6.out.below hBB.out).grown HG7.out (fun k e => Nat.lt_of_lt_of_le gl (hrow k e))⟩, ⟨by have := HQ.out; omega⟩, ⟨upd_grown (upd_below HU6.out hBB.out) HG7.out hrow⟩⟩
        case measure => simp [intOf]; omega
      · have b0 : (r == 0) = false := by simpa using c0
        by_cases c1 : r = 1
        · have b1 : (r == 1) = true := by simpa using c1
          clear c0 c1
          go_wp2_with fail
          have hb3 := blk_new (W := w2) (.cells #[.string (ByteArray.mk #[27, 91, 75]), .string (ByteArray.mk #[27, 91, 55, 109]), .string (ByteArray.mk #[27, 91, 48, 109])] 9)
          refine Calls.mono (l1Next_c g A c code (q + 1) 3 _ (HS2.out.alloc _) (by omega) (by omega) hl) ?_
          rintro e w3 ⟨r, rfl, r0, r1, hs, hu⟩
          have gl2 := src_lt HS2.out
          have HS3 := Aside0.mk hs
          have HU3 := Aside0.mk ((upd_below HU2.out (below_alloc (Below.refl _ _) _)).trans hu (fun _ _ h => h) (fun _ _ h => h))
          have HR3 := Aside0.mk (R_updI (Kd.R_alloc HR2.out _) hu (fun k hk e => by have := Kd.R_base HR2.out k hk; omega))
          have r1' := r1 (by omega)
          obtain ⟨k, rfl⟩ := Int.eq_ofNat_of_zero_le r0
          have hk3 : k < 3 := by omega
          obtain ⟨S, hS, hSz⟩ := str3 (ByteArray.mk #[27, 91, 75]) (ByteArray.mk #[27, 91, 55, 109]) (ByteArray.mk #[27, 91, 48, 109]) k hk3 4 ⟨by decide, by decide, by decide⟩
          have hx := blk_cell (blk_upd hb3 hu (fun e => by omega)) k
          rw [hS] at hx
          clear hs hu r1 hb3 hS
          have HC := Aside0.mk (bWorld_C w3 S (by omega))
          have hlen : data.length ≤ 56 := by have := HD.out.2; omega
          have hsB := bWorld_size w3 S
          have hBB := Aside0.mk (bWorld_below w3 S)
          have hz6 := HU3.out.size
          go_wp2_with (at_builtin; refine Kd.R_append_row (w0 := bWorld w3 S) (Value.int .u8) 0 w.heap.size rfl (.tmp 39) (.tmp 45) 36 5 (.int .u8 0) 1 rfl Try.underlying36 info_u8' rfl (by omega) u3 data (bytesOf S) (some ⟨w3.heap.size, 0, none⟩) S.size (bCap w3 S) (fun _ => True) rfl rfl (fun _ _ => trivial) (Kd.R_below HR3.out hBB.out) HC.out (Below.refl _ _) (by omega) (by omega) ?_; intro v7 w7 hR7 hB7 hg7 hat7; have HR7 := Aside0.mk hR7; have HG7 := Aside0.mk hg7; clear hR7 hB7 hg7 hat7)
          go_roundw
          case rel =>
            have hrow : ∀ k, u3.ownBlock = some k → w.heap.size ≤ k := fun k e => Kd.R_base HR3.out k e
            exact ⟨n - 1, data ++ bytesOf S, q + 1 + 1, by omega, by first | rfl | go_num, HR7, ⟨fun z hz => (List.mem_append.1 hz).elim (HD.out.1 z) (bytesOf_bd S z), by rw [List.length_append, bytesOf_len]; have := HD.out.2; omega⟩, ⟨(HS3.out.below hBB.out).grown HG7.out (fun k e => Nat.lt_of_lt_of_le gl (hrow k e))⟩, ⟨by have := HQ.out; omega⟩, ⟨upd_grown (upd_below HU3.out hBB.out) HG7.out hrow⟩⟩
          case measure => simp [intOf]; omega
        · have b1 : (r == 1) = false := by simpa using c1
          clear c0 c1
          go_wp2_with fail
          have gl2 := src_lt HS2.out
          refine Calls.mono (l1Pick_c g A c code (q + 1) (some ⟨w2.heap.size, 0, none⟩) 5 [97, 98, 32, 228, 8364] _ (HS2.out.alloc _) (by omega) hl (C_new (h1 := fun _ => rfl) (enc := Value.int .i64) w2 2 [97, 98, 32, 228, 8364] (by simp)) (fun ad e _ => by cases e; show w2.heap.size ≠ g; omega) (by simp) (by simp)) ?_
          rintro e w3 ⟨cc, rfl, hm, hs, hu⟩
          have hcc : 0 ≤ cc ∧ cc ≤ 65535 := by
            simp only [List.mem_cons, List.not_mem_nil, or_false] at hm
            omega
          have HS3 := Aside0.mk hs
          have HU3 := Aside0.mk ((upd_below HU2.out (below_alloc (Below.refl _ _) _)).trans hu (fun _ _ h => h) (fun _ _ h => h))
          have HR3 := Aside0.mk (R_updI (Kd.R_alloc HR2.out _) hu (fun k hk e => by have := Kd.R_base HR2.out k hk; omega))
          clear hs hu hm
          go_wp2_with fail
          refine Calls.mono (l1Encode_c cc _ hcc.1 hcc.2) ?_
          rintro e w4 ⟨rfl, rfl⟩
          have hel := enc_len cc
          have HEB := Aside0.mk (enc_bd hcc.1 hcc.2)
          have hlen : data.length ≤ 56 := by have := HD.out.2; omega
          have hz6 := HU3.out.size
          go_wp2_with (at_builtin; refine Kd.R_append_row (w0 := w3.alloc (.cells ((enc cc).map (Value.int .u8)).toArray 5)) (Value.int .u8) 0 w.heap.size rfl (.tmp 14) (.tmp 18) 36 5 (.int .u8 0) 1 rfl Try.underlying36 info_u8' rfl (by omega) u3 data (enc cc) (some ⟨w3.heap.size, 0, none⟩) (enc cc).length (enc cc).length (fun _ => True) rfl rfl (fun _ _ => trivial) (Kd.R_alloc HR3.out _) (C_new _ _ _ (by omega)) (Below.refl _ _) (by rw [size_alloc]; omega) (by omega) ?_; intro v7 w7 hR7 hB7 hg7 hat7; have HR7 := Aside0.mk hR7; have HG7 := Aside0.mk hg7; clear hR7 hB7 hg7 hat7)
          go_roundw
          case rel =>
            have hrow : ∀ k, u3.ownBlock = some k → w.heap.size ≤ k := fun k e => Kd.R_base HR3.out k e
            exact ⟨n - 1, data ++ enc cc, q + 1 + 1, by omega, by first | rfl | go_num, HR7, ⟨fun z hz => (List.mem_append.1 hz).elim (HD.out.1 z) (HEB.out z), by rw [List.length_append]; have := HD.out.2; omega⟩, ⟨(HS3.out.alloc _).grown HG7.out (fun k e => Nat.lt_of_lt_of_le gl (hrow k e))⟩, ⟨by have := HQ.out; omega⟩, ⟨upd_grown (upd_below HU3.out (below_alloc (Below.refl _ _) _)) HG7.out hrow⟩⟩
          case measure => simp [intOf]; omega
    · obtain rfl : n = 0 := by omega
      obtain ⟨A1, c1, rfl, hc1, _⟩ := Kd.R_reads HR.out
      have HC1 := Aside0.mk hc1
      clear hc1
      go_wp2
      go_ret
      exact ⟨A1, c1, data, q, rfl, HC1.out, HR.out, HD.out.1, by have := HD.out.2; omega, HS.out, by have := HQ.out; omega, HU.out⟩
end Go.Proofs.Ytpfponhaofdbaaa.M
