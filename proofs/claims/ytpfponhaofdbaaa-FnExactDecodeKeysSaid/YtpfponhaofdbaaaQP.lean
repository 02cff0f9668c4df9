import Derived.Test.YtpfponhaofdbaaaQ3
import Derived.Lib.BytesEntry
set_option linter.unusedVariables false
set_option linter.unusedSimpArgs false
namespace Go.Proofs.Ytpfponhaofdbaaa.M
open Go.RowKit Go.Proofs.YtpfponhaofdbaaaW.PrintWords

/-! a command out of bytes: plain -/
def arrowP (b : Int) : Int := if b = 65 then 107 else if b = 66 then 106 else if b = 67 then 108 else if b = 68 then 104 else 0
def countP (k n : Int) : Int := if k = 1 ∨ k = 2 ∨ k = 9 ∨ k = 10 then max 1 n else if k = 6 ∨ k = 7 then min 400 (max 1 n) else if k = 3 then max 0 (n - 1) else 0
/-- Where the first line feed is (the length: none). -/
def nlP (d : List Int) : Nat := d.findIdx (· == 10)
def tailP (d : List Int) (i : Nat) : Int :=
  if nlP (d.drop i) < (d.drop i).length then (if nlP (d.drop i) ≤ 60 then (nlP (d.drop i) : Int) + 1 else -1) else if (d.drop i).length ≤ 60 then 0 else -1
abbrev CmdQ := Int × Int × List Int × Int
def doneP (k m : Int) (d : List Int) (i : Nat) : CmdQ :=
  if k = 0 then (0, 0, [], -1)
  else if k = 12 ∨ k = 13 then (if d.length ≤ i then (0, 0, [], 0) else if 48 ≤ d.getD i 0 ∧ d.getD i 0 ≤ 51 then (k, d.getD i 0 - 48, [], (i : Int) + 1) else (0, 0, [], -1))
  else if k = 8 then (if tailP d i ≤ 0 then (0, 0, [], tailP d i) else (8, 0, (d.drop i).take (tailP d i - 1).toNat, (i : Int) + tailP d i))
  else (k, countP k m, [], (i : Int))
def keysP (d : List Int) : CmdQ :=
  if d.length ≤ (rdg d 3 0 0).2 then (0, 0, [], 0)
  else if d.getD (rdg d 3 0 0).2 0 = 27 then
    (if d.length ≤ (rdg d 3 0 0).2 + 1 then (0, 0, [], 0)
    else if d.getD ((rdg d 3 0 0).2 + 1) 0 ≠ 91 then (0, 0, [], -1)
    else if d.length ≤ (rdg d 3 0 0).2 + 2 then (0, 0, [], 0)
    else doneP (kindP (arrowP (d.getD ((rdg d 3 0 0).2 + 2) 0))) (rdg d 3 0 0).1 d ((rdg d 3 0 0).2 + 3))
  else doneP (kindP (d.getD (rdg d 3 0 0).2 0)) (rdg d 3 0 0).1 d ((rdg d 3 0 0).2 + 1)
/-- The commands in bytes, from a place on. -/
def cmdsP (d : List Int) : Nat → Nat → List (Int × Int × List Int) → List (Int × Int × List Int) × Nat
  | 0, at', out => (out, at')
  | f + 1, at', out => if d.length ≤ at' then (out, at') else if (keysP (d.drop at')).2.2.2 = 0 then (out, at') else if (keysP (d.drop at')).2.2.2 < 0 then cmdsP d f (at' + 1) out
    else cmdsP d f (at' + (keysP (d.drop at')).2.2.2.toNat) (out ++ [((keysP (d.drop at')).1, (keysP (d.drop at')).2.1, (keysP (d.drop at')).2.2.1)])
theorem nlP_le (d : List Int) : nlP d ≤ d.length := List.findIdx_le_length
theorem tailP_bd (d : List Int) (i : Nat) : -1 ≤ tailP d i ∧ tailP d i ≤ 61 ∧ (0 < tailP d i → (i : Int) + tailP d i ≤ d.length ∧ tailP d i = nlP (d.drop i) + 1 ∧ nlP (d.drop i) < (d.drop i).length) := by
  unfold tailP
  have hl := List.length_drop (i := i) (l := d)
  split
  · split
    · exact ⟨by omega, by omega, fun _ => ⟨by omega, rfl, by omega⟩⟩
    · exact ⟨by omega, by omega, fun h => by omega⟩
  · split
    · exact ⟨by omega, by omega, fun h => by omega⟩
    · exact ⟨by omega, by omega, fun h => by omega⟩
theorem kindP_bd (b : Int) : 0 ≤ kindP b ∧ kindP b ≤ 14 := by
  have h : ∀ (n : Nat) (k : Int), 0 ≤ k → k + n ≤ 15 → 0 ≤ kindFrom b n k ∧ kindFrom b n k ≤ 14 := by
    intro n
    induction n with
    | zero => intro k h0 h1; exact ⟨Int.le_refl _, by show (0 : Int) ≤ 14; omega⟩
    | succ n ih =>
      intro k h0 h1
      unfold kindFrom
      split
      · exact ⟨h0, by omega⟩
      · exact ih (k + 1) (by omega) (by omega)
  exact h 14 1 (by omega) (by omega)
theorem kindP_zero : kindP 0 = 0 := by
  have h : ∀ (n : Nat) (k : Int), kindFrom 0 n k = 0 := by
    intro n
    induction n with
    | zero => intro k; rfl
    | succ n ih => intro k; unfold kindFrom; rw [if_neg (by simp)]; exact ih _
  exact h 14 1
/-- No key has the number of a size. -/
theorem kindP_size (b : Int) : kindP b ≠ 11 := by
  unfold kindP
  intro h
  have hk : keyP 11 = 0 := by decide
  have step : ∀ (n : Nat) (k : Int), (∀ j, k ≤ j → kindFrom b n k = j → b ≠ 0 ∧ keyP j = b ∨ j = 0) := by
    intro n
    induction n with
    | zero => intro k j _ h; right; exact h.symm
    | succ n ih =>
      intro k j hj h
      unfold kindFrom at h
      split at h
      · rename_i hc; subst h; exact .inl hc
      · rcases Int.lt_or_le k j with hlt | hle
        · exact ih (k + 1) j (by omega) h
        · have : j = k := by omega
          subst this
          rcases (show kindFrom b n (j + 1) = 0 ∨ j + 1 ≤ kindFrom b n (j + 1) from by
            clear h ih hj hle
            generalize j + 1 = q
            induction n generalizing q with
            | zero => left; rfl
            | succ n ih =>
              unfold kindFrom
              split
              · right; omega
              · rcases ih (q + 1) with h | h
                · left; exact h
                · right; omega) with h0 | h0
          · right; omega
          · omega
  rcases step 14 1 11 (by omega) h with h | h
  · rw [hk] at h; exact h.1 h.2.symm
  · omega
theorem dkeysP_bd (k m : Int) (d : List Int) (i : Nat) (hi : 0 < i) (hl : i ≤ d.length) : -1 ≤ (doneP k m d i).2.2.2 ∧ (doneP k m d i).2.2.2 ≤ d.length ∧ (0 < (doneP k m d i).2.2.2 → (i : Int) ≤ (doneP k m d i).2.2.2) := by
  have ht := tailP_bd d i
  unfold doneP
  repeat' split
  all_goals (refine ⟨?_, ?_, fun h => ?_⟩ <;> simp only at * <;> omega)
theorem keysP_bd (d : List Int) : -1 ≤ (keysP d).2.2.2 ∧ (keysP d).2.2.2 ≤ d.length := by
  unfold keysP
  repeat' split
  all_goals first
    | (refine ⟨?_, ?_⟩ <;> simp only <;> omega)
    | (have := dkeysP_bd (kindP (arrowP (d.getD ((rdg d 3 0 0).2 + 2) 0))) (rdg d 3 0 0).1 d ((rdg d 3 0 0).2 + 3) (by omega) (by omega); exact ⟨this.1, this.2.1⟩)
    | (have := dkeysP_bd (kindP (d.getD (rdg d 3 0 0).2 0)) (rdg d 3 0 0).1 d ((rdg d 3 0 0).2 + 1) (by omega) (by omega); exact ⟨this.1, this.2.1⟩)
/-- The library's way to say where a byte is. -/
theorem idx_nl : ∀ (d : List Int), (∀ z ∈ d, 0 ≤ z ∧ z ≤ 255) → Lib.indexByte (Lib.bytesOf d) 10 = if nlP d < d.length then (nlP d : Int) else -1
  | [], _ => rfl
  | a :: l, h => by
    have ih := idx_nl l (fun z hz => h z (List.mem_cons_of_mem _ hz))
    have ha := h a List.mem_cons_self
    have e : (a.toNat.toUInt8 == 10) = (a == 10) := by
      rw [Bool.eq_iff_iff]
      simp only [beq_iff_eq]
      constructor
      · intro h1
        have := congrArg UInt8.toNat h1
        simp at this
        omega
      · rintro rfl; rfl
    show (if (a.toNat.toUInt8 == 10) = true then (0 : Int) else if (Lib.indexByte (Lib.bytesOf l) 10 == -1) = true then -1 else Lib.indexByte (Lib.bytesOf l) 10 + 1) = _
    by_cases hc : a = 10
    · subst hc
      have hn : nlP (10 :: l) = 0 := by simp [nlP, List.findIdx_cons]
      rw [hn]
      simp
    · have hn : nlP (a :: l) = nlP l + 1 := by
        have h2 : (a == 10) = false := by simpa using hc
        unfold nlP; rw [List.findIdx_cons, h2]; rfl
      rw [e, ih, hn, if_neg (by simpa using hc), List.length_cons]
      by_cases h1 : nlP l < l.length
      · rw [if_pos h1, if_neg (by simp), if_pos (by omega)]; omega
      · rw [if_neg h1, if_pos (by rfl), if_neg (by omega)]
end Go.Proofs.Ytpfponhaofdbaaa.M
