import Derived.Test.YtpfponhaofdbaaaQ4
set_option linter.unusedVariables false
set_option linter.unusedSimpArgs false
namespace Go.Proofs.Ytpfponhaofdbaaa.M
open Go.RowKit Go.Proofs.YtpfponhaofdbaaaW.PrintWords

theorem nl_ge (d : List Int) (i n : Nat) (h : ∀ j, j < n → d.getD (i + j) 0 ≠ 10) (hn : n ≤ (d.drop i).length) : n ≤ nlP (d.drop i) := by
  rcases Nat.lt_or_ge (nlP (d.drop i)) n with hlt | hge
  · exfalso
    have h1 : nlP (d.drop i) < (d.drop i).length := by omega
    have h2 := List.findIdx_getElem (xs := d.drop i) (p := (· == 10)) (w := h1)
    have h3 : (d.drop i).getD (nlP (d.drop i)) 0 = 10 := by
      rw [List.getD_eq_getElem?_getD, List.getElem?_eq_getElem h1]
      exact eq_of_beq h2
    rw [getD_drop] at h3
    exact h _ hlt h3
  · exact hge
theorem nl_eq (d : List Int) (i n : Nat) (h : n ≤ nlP (d.drop i)) (hn : n < (d.drop i).length) (hx : d.getD (i + n) 0 = 10) : nlP (d.drop i) = n := by
  rcases Nat.lt_or_ge n (nlP (d.drop i)) with hlt | hge
  · exfalso
    have h2 := List.not_of_lt_findIdx hlt
    rw [← getD_drop, List.getD_eq_getElem?_getD, List.getElem?_eq_getElem hn] at hx
    simp only [Option.getD_some] at hx
    rw [hx] at h2
    simp at h2
  · omega
def moreP (K : Int) (d : List Int) (i : Nat) : Int := if K = 8 then tailP d i else if d.length ≤ i then 0 else if 48 ≤ d.getD i 0 ∧ d.getD i 0 ≤ 51 then 1 else -1
def moreN (K n : Int) (d : List Int) (i : Nat) : Int := if K = 8 then n else if moreP K d i = 1 then d.getD i 0 - 48 else n
def moreT (K : Int) (d : List Int) (i : Nat) : ByteArray := if K = 8 ∧ 0 < tailP d i then strOfNums ((d.drop i).take (tailP d i - 1).toNat) else ByteArray.empty
theorem upd_refl (w : World) (S : Nat → Prop) : Upd w w S := ⟨rfl, rfl, rfl, Nat.le_refl _, fun _ _ _ => rfl⟩

set_option maxRecDepth 100000 in
set_option maxHeartbeats 2000000 in
theorem l12Tail_c (A : Option Addr) (c : Nat) (d : List Int) (i g : Nat) (K n : Int) (w : World) (hbx : w.heap[g]? = some (.cells #[.int .i64 K, .int .i64 n, .int .i64 0, .string ByteArray.empty] 111 (0, 0))) (hr : Kd.C (Kd.int .u8) w A d.length d) (hc : d.length ≤ c) (hl : d.length ≤ 1000) (hi : i ≤ d.length) (hb : ∀ z ∈ d, 0 ≤ z ∧ z ≤ 255) (hK : (K = 12 ∨ K = 13) ∨ K = 8) :
    Calls Try.prog 126 #[.slice A d.length c, .int .i64 i, .pointer (some ⟨g, 0, none⟩)] w fun e w' => e = .returned (.int .i64 (moreP K d i)) ∧ Upd w w' (fun k => k = g) ∧ w'.heap[g]? = some (.cells #[.int .i64 K, .int .i64 (moreN K n d i), .int .i64 0, .string (moreT K d i)] 111 (0, 0)) := by
  have BX := Aside0.mk hbx
  have HR := Aside0.mk hr
  have HBD := Aside0.mk hb
  have hlg := blk_lt hbx
  have rd := blk_cell hbx
  have fr := blk_free hbx
  clear hbx hr hb
  rcases hK with hk | rfl
  · have hk8 : K ≠ 8 := by omega
    have HT := Aside0.mk (show moreT K d i = ByteArray.empty by unfold moreT; rw [if_neg (fun h => hk8 h.1)])
    by_cases g1 : d.length ≤ i
    · have HP := Aside0.mk (show moreP K d i = 0 by unfold moreP; rw [if_neg hk8, if_pos g1])
      have HN := Aside0.mk (show moreN K n d i = n by unfold moreN; rw [if_neg hk8, HP.out, if_neg (by omega)])
      clear hk8
      rcases hk with rfl | rfl
      all_goals
        go_enter Try.func126, Try.ntmps126
        go_wp2
        go_ret
        exact ⟨by rw [HP.out]; rfl, upd_refl _ _, by rw [HN.out, HT.out]; exact BX.out⟩
    · obtain ⟨ad, e, hx⟩ := at1 HR.out 0 i (by omega)
      cases e
      have hlt : i < d.length := by omega
      have hvb := HBD.out (d.getD i 0) (mem_getD hlt)
      have HP0 := Aside0.mk (show moreP K d i = if 48 ≤ d.getD i 0 ∧ d.getD i 0 ≤ 51 then 1 else -1 by unfold moreP; rw [if_neg hk8, if_neg g1])
      have HN0 := Aside0.mk (show moreN K n d i = if moreP K d i = 1 then d.getD i 0 - 48 else n by unfold moreN; rw [if_neg hk8])
      generalize hgv : d.getD i 0 = v at hx hvb HP0 HN0
      clear hgv hk8
      by_cases g2 : v < 48
      · have HP := Aside0.mk (HP0.out.trans (if_neg (by omega)))
        have HN := Aside0.mk (HN0.out.trans (if_neg (by rw [HP.out]; omega)))
        rcases hk with rfl | rfl
        all_goals
          go_enter Try.func126, Try.ntmps126
          go_wp2
          go_ret
          exact ⟨by rw [HP.out]; rfl, upd_refl _ _, by rw [HN.out, HT.out]; exact BX.out⟩
      · by_cases g3 : v > 51
        · have HP := Aside0.mk (HP0.out.trans (if_neg (by omega)))
          have HN := Aside0.mk (HN0.out.trans (if_neg (by rw [HP.out]; omega)))
          rcases hk with rfl | rfl
          all_goals
            go_enter Try.func126, Try.ntmps126
            go_wp2
            go_ret
            exact ⟨by rw [HP.out]; rfl, upd_refl _ _, by rw [HN.out, HT.out]; exact BX.out⟩
        · have HP := Aside0.mk (HP0.out.trans (if_pos (by omega)))
          have HN := Aside0.mk (HN0.out.trans (if_pos HP.out))
          have hs : IntKind.u8.wrap (v - 48) = v - 48 := by rw [IntKind.wrap_u8]; omega
          rcases hk with rfl | rfl
          all_goals
            go_enter Try.func126, Try.ntmps126
            go_wp2
            go_ret
            exact ⟨by rw [HP.out]; rfl, upd_set _ _ _ _, by rw [HN.out, HT.out]; exact blk_set BX.out rfl⟩
  · have HP0 := Aside0.mk (show moreP 8 d i = tailP d i from rfl)
    have HN := Aside0.mk (show moreN 8 n d i = n from rfl)
    have HT0 := Aside0.mk (show moreT 8 d i = if 0 < tailP d i then strOfNums ((d.drop i).take (tailP d i - 1).toNat) else ByteArray.empty by unfold moreT; simp only [true_and])
    have hlr : (d.drop i).length = d.length - i := List.length_drop
    have HLR := Aside0.mk hlr
    clear hlr
    go_enter Try.func126, Try.ntmps126
    go_wp2
    go_loop [7] (fun v => ∃ m : Nat, m ≤ 61 ∧ i + m ≤ d.length ∧ v = .int .i64 m ∧ Aside0 (∀ j, j < m → d.getD (i + j) 0 ≠ 10)) (fun v => 62 - (intOf v).toNat)
    case atStart => exact ⟨0, by omega, by omega, rfl, ⟨fun j hj => absurd hj (by omega)⟩⟩
    case round =>
      obtain ⟨m, hm, hml, rfl, HJ⟩ := hrel
      have HGE := Aside0.mk (nl_ge d i m HJ.out (by rw [HLR.out]; omega))
      by_cases h60 : m ≤ 60
      · by_cases hlt : i + m < d.length
        · obtain ⟨ad, e, hx⟩ := at1 HR.out 0 (i + m) hlt
          cases e
          by_cases h10 : d.getD (i + m) 0 = 10
          · have heq := nl_eq d i m HGE.out (by rw [HLR.out]; omega) h10
            have htl : tailP d i = (m : Int) + 1 := by unfold tailP; rw [heq, if_pos (by rw [HLR.out]; omega), if_pos h60]
            have HT := Aside0.mk (show moreT 8 d i = strOfNums ((d.drop i).take m) by rw [HT0.out, htl, if_pos (by omega), show ((m : Int) + 1 - 1).toNat = m by omega])
            have HP := Aside0.mk (HP0.out.trans htl)
            rw [h10] at hx
            obtain ⟨A2, hr2, hc2, hrun2⟩ := midU (some ad) c d i (i + m) w HR.out (by omega) (by omega) hc
            rw [List.drop_take, Nat.add_sub_cancel_left] at hr2 hc2 hrun2
            have hrn2 := hrun2 .i64 .i64
            rw [Int.natCast_add] at hrn2
            clear hrun2 heq htl h10
            have hst2 := strU A2 (List.take m (d.drop i)).length (c - i) (List.take m (d.drop i)) _ hr2
            clear hr2 hc2
            generalize List.take m (d.drop i) = q at hrn2 hst2 HT
            go_wp2
            go_ret
            exact ⟨by rw [HP.out]; rfl, upd_set _ _ _ _, by rw [HN.out, HT.out]; exact blk_set BX.out rfl⟩
          · have HNE := Aside0.mk h10
            generalize hgv : d.getD (i + m) 0 = v at hx h10
            have HV := Aside0.mk hgv
            clear hgv
            have b1 : (v == 10) = false := by simpa using h10
            clear h10
            go_wp2
            go_round
            case rel => exact ⟨m + 1, by omega, by omega, by go_num, ⟨fun j hj => by
              rcases Nat.lt_or_ge j m with h | h
              · exact HJ.out j h
              · obtain rfl : j = m := by omega
                exact HNE.out⟩⟩
            case measure => simp [intOf]; omega
        · have htl : tailP d i = 0 := by
            have := HGE.out
            unfold tailP; rw [if_neg (by rw [HLR.out]; omega), if_pos (by rw [HLR.out]; omega)]
          have HT := Aside0.mk (show moreT 8 d i = ByteArray.empty by rw [HT0.out, htl, if_neg (by omega)])
          have HP := Aside0.mk (HP0.out.trans htl)
          clear htl
          have b1 : ((i : Int) + m ≥ d.length) := by omega
          go_wp2
          go_ret
          exact ⟨by rw [HP.out]; rfl, upd_refl _ _, by rw [HN.out, HT.out]; exact BX.out⟩
      · obtain rfl : m = 61 := by omega
        have htl : tailP d i = -1 := by
          have := HGE.out
          unfold tailP; split
          · rw [if_neg (by omega)]
          · rw [if_neg (by rw [HLR.out]; omega)]
        have HT := Aside0.mk (show moreT 8 d i = ByteArray.empty by rw [HT0.out, htl, if_neg (by omega)])
        have HP := Aside0.mk (HP0.out.trans htl)
        clear htl
        go_wp2
        go_ret
        exact ⟨by rw [HP.out]; rfl, upd_refl _ _, by rw [HN.out, HT.out]; exact BX.out⟩
end Go.Proofs.Ytpfponhaofdbaaa.M
