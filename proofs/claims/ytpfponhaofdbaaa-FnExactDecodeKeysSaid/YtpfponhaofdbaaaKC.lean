import Derived.Test.YtpfponhaofdbaaaQ8
import Derived.Test.YtpfponhaofdbaaaL1
set_option linter.unusedVariables false
set_option linter.unusedSimpArgs false
namespace Go.Proofs.Ytpfponhaofdbaaa.M
open Go.RowKit Go.Proofs.YtpfponhaofdbaaaW.PrintWords

/-! the text of a mark -/
def p10n : Nat → Nat
  | 0 => 1
  | f + 1 => 10 * p10n f
def mtF : Nat → Nat → ByteArray → ByteArray
  | 0, _, out => out
  | f + 1, k, out => if k = 0 then out else mtF f (k / 10) (strOfNums [48 + (k : Int) % 10] ++ out)
def mtP (k : Nat) : ByteArray := if k = 0 then ⟨#[109, 48]⟩ else ⟨#[109]⟩ ++ mtF 19 k ⟨#[]⟩
theorem mtF_zero (f : Nat) (out : ByteArray) : mtF f 0 out = out := by
  cases f with
  | zero => rfl
  | succ f => unfold mtF; rw [if_pos rfl]
theorem str1_size (c : Int) : (strOfNums [c]).size = 1 := rfl
set_option maxRecDepth 100000 in
set_option maxHeartbeats 1000000 in
theorem markText_c (k : Nat) (w : World) (hk : k < 9223372036854775807) : Calls Try.prog 132 #[.int .i64 k] w fun e w' => e = .returned (.string (mtP k)) ∧ Below w.heap.size w w' := by
  rcases Nat.eq_zero_or_pos k with rfl | h0
  · go_enter Try.func132, Try.ntmps132
    go_wp2
    go_ret
    exact ⟨rfl, Below.refl _ _⟩
  · have HQ := Aside0.mk (show mtP k = ⟨#[109]⟩ ++ mtF 19 k ⟨#[]⟩ from if_neg (by omega))
    have hk0 : ¬ (k : Int) ≤ 0 := by omega
    have hp : k < p10n 19 := by have : p10n 19 = 10000000000000000000 := rfl; omega
    have HP0 := Aside0.mk hp
    clear hp
    go_enter Try.func132, Try.ntmps132
    go_wp2
    go_loopw [0, 3] (fun kk o wr => ∃ (q f : Nat) (out : ByteArray), kk = .int .i64 q ∧ o = .string out ∧ q ≤ k ∧ out.size + f ≤ 19 ∧ Aside0 (q < p10n f) ∧ Aside0 (mtF f q out = mtF 19 k ⟨#[]⟩) ∧ Aside0 (Below w.heap.size w wr)) (fun kk _ _ => (intOf kk).toNat)
    case atStart => exact ⟨k, 19, ⟨#[]⟩, rfl, rfl, Nat.le_refl _, by decide, HP0, ⟨rfl⟩, ⟨Below.refl _ _⟩⟩
    case round =>
      obtain ⟨q, f, out, rfl, rfl, hq, hs, HP, HE, HB⟩ := hrel
      rcases Nat.eq_zero_or_pos q with rfl | hq0
      · have HF := Aside0.mk (HE.out.symm.trans (mtF_zero f out))
        have hos : out.size ≤ 19 := by omega
        go_wp2
        go_ret
        exact ⟨by rw [HQ.out, HF.out]; rfl, HB.out⟩
      · obtain ⟨f, rfl⟩ : ∃ g, f = g + 1 := by
          rcases f with _ | g
          · have := HP.out; exfalso; simp [p10n] at this; omega
          · exact ⟨g, rfl⟩
        have HN := Aside0.mk (show mtF f (q / 10) (strOfNums [48 + (q : Int) % 10] ++ out) = mtF 19 k ⟨#[]⟩ by rw [← HE.out]; show _ = if q = 0 then out else _; rw [if_neg (by omega)])
        have HP2 := Aside0.mk (show q / 10 < p10n f by have h := HP.out; have e : p10n (f + 1) = 10 * p10n f := rfl; omega)
        have hw1 : IntKind.u8.wrap (48 + (q : Int) % 10) = 48 + (q : Int) % 10 := by rw [IntKind.wrap_u8]; omega
        have hst : (convert 36 9 (.slice (some ⟨wr.heap.size, 0, none⟩) 1 1)).run Try.prog (wr.alloc (.cells #[.int .u8 (48 + (q : Int) % 10)] 5)) = .ok (.string (strOfNums [48 + (q : Int) % 10])) (wr.alloc (.cells #[.int .u8 (48 + (q : Int) % 10)] 5)) :=
          strU (some ⟨wr.heap.size, 0, none⟩) 1 1 [48 + (q : Int) % 10] _ (C_new (enc := Value.int .u8) (h1 := fun _ => rfl) wr 5 [48 + (q : Int) % 10] (by simp))
        have hss := str1_size (48 + (q : Int) % 10)
        generalize strOfNums [48 + (q : Int) % 10] = ds at hst HN hss
        have HSS := Aside0.mk hss
        have hss1 : ds.size ≤ 1 := by omega
        clear hss
        have hos : out.size ≤ 18 := by omega
        have hq1 : (q : Int) > 0 := by omega
        have hq2 : q ≤ 9223372036854775806 := by omega
        have hqd : q / 10 < q := by omega
        go_wp2
        go_roundw
        case rel => exact ⟨q / 10, f, _, by go_num, rfl, by omega, by rw [ByteArray.size_append]; omega, HP2, HN, ⟨below_alloc HB.out _⟩⟩
        case measure => simp [intOf]; omega
end Go.Proofs.Ytpfponhaofdbaaa.M
