import Derived.Test.YtpfponhaofdbaaaDoorK
set_option linter.unusedVariables false
set_option linter.unusedSimpArgs false
namespace Go.Proofs.YtpfponhaofdbaaaDoor.M
open Go.RowKit Go.Proofs.YtpfponhaofdbaaaDoorW.PrintWords

/-! Small functions on numbers -/
def within (n lo hi : Int) : Bool := decide (lo ≤ n) && decide (n ≤ hi)
def isChar (c : Int) : Bool := within c 0 65535 && !within c 55296 57343
def isSeen (c : Int) : Bool := isChar c && decide (32 ≤ c) && c != 127

theorem within_bd {n lo hi : Int} (h : within n lo hi = true) : lo ≤ n ∧ n ≤ hi := by simpa [within] using h
theorem within_c (n lo hi : Int) (w : World) : Calls Tryd.prog 65 #[.int .i64 n, .int .i64 lo, .int .i64 hi] w fun e w' => e = .returned (.bool (within n lo hi)) ∧ w = w' := by
  go_enter Tryd.func65, Tryd.ntmps65
  go_wp2
  all_goals
    go_ret
    exact ⟨by first | (simp [within, *]; done) | (simp [within, *]; omega), rfl⟩

theorem isChar_c (c : Int) (w : World) : Calls Tryd.prog 167 #[.int .i64 c] w fun e w' => e = .returned (.bool (isChar c)) ∧ w = w' := by
  go_enter Tryd.func167, Tryd.ntmps167
  go_wp2_with (go_at_call 65; refine Calls.mono (within_c _ _ _ _) ?_; rintro e w' ⟨rfl, rfl⟩)
  all_goals
    go_ret
    exact ⟨by simp [isChar, *], rfl⟩

theorem isSeen_c (c : Int) (w : World) : Calls Tryd.prog 144 #[.int .i64 c] w fun e w' => e = .returned (.bool (isSeen c)) ∧ w = w' := by
  go_enter Tryd.func144, Tryd.ntmps144
  go_wp2_with (go_at_call 167; refine Calls.mono (isChar_c _ _) ?_; rintro e w' ⟨rfl, rfl⟩)
  all_goals
    go_ret
    exact ⟨by first | (simp [isSeen, *]; done) | (simp [isSeen, *]; omega), rfl⟩

theorem termSeen_c (c : Int) (w : World) : Calls Tryd.prog 148 #[.int .i64 c] w fun e w' => e = .returned (.bool (!isSeen c)) ∧ w = w' := by
  go_enter Tryd.func148, Tryd.ntmps148
  go_wp2_with (go_at_call 144; refine Calls.mono (isSeen_c _ _) ?_; rintro e w' ⟨rfl, rfl⟩)
  all_goals
    go_ret
    exact ⟨by simp [*], rfl⟩

/-! slices.IndexFunc, slices.ContainsFunc over whole numbers, at a function that reads nothing -/
def idxF (p : Int → Bool) : List Int → Int
  | [] => -1
  | x :: l => if p x then 0 else if idxF p l < 0 then -1 else idxF p l + 1
theorem idxF_any (p : Int → Bool) (l : List Int) : decide (0 ≤ idxF p l) = l.any p := by
  induction l with
  | nil => rfl
  | cons x l ih =>
    simp only [idxF, List.any_cons]
    by_cases h : p x = true
    · simp [h]
    · simp only [h]
      by_cases h2 : idxF p l < 0
      · rw [if_neg (by simp), if_pos h2]
        simp only [Bool.false_or, ← ih]
        simp
        omega
      · rw [if_neg (by simp), if_neg h2]
        simp only [Bool.false_or, ← ih]
        simp
        omega
theorem idxF_at (p : Int → Bool) : ∀ (l : List Int) (k : Nat), (∀ j, j < k → p (l.getD j 0) = false) → k < l.length → p (l.getD k 0) = true → idxF p l = k
  | [], k, _, h, _ => absurd h (by simp)
  | x :: l, 0, _, _, hp => by simp [idxF, show p x = true from by simpa using hp]
  | x :: l, k + 1, hb, hk, hp => by
    have h0 : p x = false := by simpa using hb 0 (by omega)
    have ih := idxF_at p l k (fun j hj => by simpa using hb (j + 1) (by omega)) (by simpa using hk) (by simpa using hp)
    simp only [idxF, h0]
    rw [if_neg (by simp), if_neg (by omega), ih]
    simp
theorem idxF_none (p : Int → Bool) : ∀ (l : List Int), (∀ j, j < l.length → p (l.getD j 0) = false) → idxF p l = -1
  | [], _ => rfl
  | x :: l, hb => by
    have h0 : p x = false := by simpa using hb 0 (by simp)
    have ih := idxF_none p l (fun j hj => by simpa using hb (j + 1) (by simpa using hj))
    simp only [idxF, h0]
    rw [if_neg (by simp), ih]
    simp

set_option maxRecDepth 100000 in
theorem indexFunc_c (g : Nat) (p : Int → Bool) (hg : ∀ a w, (callFunc g #[a]).run Tryd.prog w = .ok (.enter g #[a]) w) (hp : ∀ c w, Calls Tryd.prog g #[.int .i64 c] w fun e w' => e = .returned (.bool (p c)) ∧ w = w') (A : Option Addr) (c : Nat) (l : List Int) (w : World)
    (hr : Kd.C (Kd.int .i64) w A l.length l) (hc : l.length ≤ c) (hm : l.length ≤ 9223372036854775807) :
    Calls Tryd.prog 166 #[.slice A l.length c, .func (.func g) #[] #[]] w fun e w' => e = .returned (.int .i64 (idxF p l)) ∧ w = w' := by
  have HR := Aside0.mk hr
  clear hr
  have HP := Aside0.mk hp
  clear hp
  go_enter Tryd.func166, Tryd.ntmps166
  go_wp2
  go_loop [4, 5, 8] (fun _ _ i => ∃ k : Nat, k ≤ l.length ∧ i = .int .i64 k ∧ Aside0 (∀ j, j < k → p (l.getD j 0) = false)) (fun _ _ i => l.length - (intOf i).toNat)
  case atStart => exact ⟨0, Nat.zero_le _, rfl, ⟨fun j hj => absurd hj (by omega)⟩⟩
  case round =>
    obtain ⟨k, hk, rfl, hb⟩ := hrel
    by_cases hlt : k < l.length
    · obtain ⟨ad, e, hx⟩ := Kd.at_int HR.out (k : Int) (by omega) (by omega)
      cases e
      rw [Int.toNat_natCast] at hx
      have hgd : rd l (k : Int) = l.getD k 0 := by simp [rd]
      rw [hgd] at hx
      generalize hv : l.getD k 0 = v at hx
      have HV := Aside0.mk hv
      clear hv hgd
      cases hpv : p v with
      | true =>
        go_wp2_with (refine Calls.mono (HP.out _ _) ?_; rintro e w' ⟨rfl, rfl⟩)
        go_ret
        exact ⟨by rw [idxF_at p l k hb.out hlt (by rw [HV.out]; exact hpv)]; rfl, rfl⟩
      | false =>
        go_wp2_with (refine Calls.mono (HP.out _ _) ?_; rintro e w' ⟨rfl, rfl⟩)
        go_round
        case rel => exact ⟨k + 1, by omega, by go_num, ⟨fun j hj => by
          rcases Nat.lt_or_ge j k with h | h
          · exact hb.out j h
          · have : j = k := by omega
            rw [this, HV.out]; exact hpv⟩⟩
        case measure => simp [intOf]; omega
    · go_wp2
      go_ret
      exact ⟨by rw [idxF_none p l (fun j hj => hb.out j (by omega))]; rfl, rfl⟩

theorem containsFunc_c (g : Nat) (p : Int → Bool) (hg : ∀ a w, (callFunc g #[a]).run Tryd.prog w = .ok (.enter g #[a]) w) (hp : ∀ c w, Calls Tryd.prog g #[.int .i64 c] w fun e w' => e = .returned (.bool (p c)) ∧ w = w') (A : Option Addr) (c : Nat) (l : List Int) (w : World)
    (hr : Kd.C (Kd.int .i64) w A l.length l) (hc : l.length ≤ c) (hm : l.length ≤ 9223372036854775807) :
    Calls Tryd.prog 142 #[.slice A l.length c, .func (.func g) #[] #[]] w fun e w' => e = .returned (.bool (l.any p)) ∧ w = w' := by
  have HR := Aside0.mk hr
  clear hr
  have HP := Aside0.mk hp
  clear hp
  have HG := Aside0.mk hg
  clear hg
  have hi := idxF_any p l
  have HI := Aside0.mk hi
  clear hi
  go_enter Tryd.func142, Tryd.ntmps142
  go_wp2_with (go_at_call 166; refine Calls.mono (indexFunc_c g p HG.out HP.out A c l _ HR.out hc hm) ?_; rintro e w' ⟨rfl, rfl⟩)
  go_ret
  exact ⟨by rw [← HI.out]; rfl, rfl⟩

/-! TermFault -/
def anyUnseen (l : List Int) : Bool := l.any (fun c => !isSeen c)
def termFault (wi ro y x : Int) (ch : List Int) (hs : List Bool) : Int :=
  if !within wi 4 40 || !within ro 1 13 || !within y 0 (wrap64 (ro - 1)) || !within x 0 wi then 3
  else if (ch.length : Int) != wrap64 (ro * wi) || hs.length != ch.length then 1
  else if anyUnseen ch then 3 else 0
theorem hg_termSeen : ∀ a w, (callFunc 148 #[a]).run Tryd.prog w = .ok (.enter 148 #[a]) w :=
  fun a w => MuLone.run_callFunc_enter Tryd.func148 (by kernel_rfl) rfl #[a] w

theorem termUnseen_c (A : Option Addr) (c : Nat) (l : List Int) (w : World) (hr : Kd.C (Kd.int .i64) w A l.length l) (hc : l.length ≤ c) :
    Calls Tryd.prog 142 #[.slice A l.length c, .func (.func 148) #[] #[]] w fun e w' => e = .returned (.bool (anyUnseen l)) ∧ w = w' :=
  containsFunc_c 148 _ hg_termSeen termSeen_c A c l w hr hc (Kd.C_max hr)

theorem TermFault_c (wi ro y x : Int) (hi : Bool) (A B : Option Addr) (c d : Nat) (ch : List Int) (hs : List Bool) (w : World)
    (hr : Kd.C (Kd.int .i64) w A ch.length ch) (hc : ch.length ≤ c) (hm2 : hs.length ≤ 9223372036854775807) :
    Calls Tryd.prog 112 #[.agg #[.int .i64 wi, .int .i64 ro, .int .i64 y, .int .i64 x, .bool hi, .slice A ch.length c, .slice B hs.length d]] w fun e w' => e = .returned (.int .i64 (termFault wi ro y x ch hs)) ∧ Below w.heap.size w w' := by
  have HR := Aside0.mk hr
  have hm := Kd.C_max hr
  clear hr
  go_enter Tryd.func112, Tryd.ntmps112
  go_wp2_with (first
    | (go_at_call 65; refine Calls.mono (within_c _ _ _ _) ?_; rintro e w' ⟨rfl, rfl⟩)
    | (go_at_call 142; refine Calls.mono (termUnseen_c A c ch _ (by repeat (first | exact HR.out | refine Kd.C_alloc ?_ _)) hc) ?_; rintro e w' ⟨rfl, rfl⟩))
  all_goals
    go_ret
    refine ⟨?_, ?_⟩
    · first
        | (simp_all [termFault]; done)
        | (simp_all [termFault]; omega)
    · repeat (first | exact Below.refl _ _ | refine below_alloc ?_ _ | refine pw_below_drewN ?_ _)
end Go.Proofs.YtpfponhaofdbaaaDoor.M
