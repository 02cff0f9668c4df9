import Derived.Test.YtpfponhaofdbaaaF7
import Derived.Test.YtpfponhaofdbaaaG2
set_option linter.unusedVariables false
set_option linter.unusedSimpArgs false
namespace Go.Proofs.Ytpfponhaofdbaaa.M
open Go.RowKit Go.Proofs.YtpfponhaofdbaaaW.PrintWords

/-! bytes heard part by part: plain mathematics -/
theorem begP_append {d e p : List Int} (h : p.length ≤ d.length) : begP (d ++ e) p = begP d p := by
  unfold begP
  rw [List.take_append_of_le_length h, List.length_append]
  simp [h, Nat.le_trans h (Nat.le_add_right _ _)]
theorem begP_app_true {d e p : List Int} (h : begP d p = true) : begP (d ++ e) p = true := by
  rw [begP_append]
  · exact h
  · unfold begP at h; simp at h; exact h.1
theorem begP_len {d p : List Int} (h : begP d p = true) : p.length ≤ d.length := by unfold begP at h; simp at h; exact h.1
theorem rdg_append (e : List Int) : ∀ (k : Nat) (d : List Int) (n : Int) (a : Nat), (rdg d k n a).2 < d.length → rdg (d ++ e) k n a = rdg d k n a
  | 0, d, n, a, _ => rfl
  | k + 1, d, n, a, h => by
    have hge := (rdg_ge d (k + 1) n a).1
    have ha : a < d.length := Nat.lt_of_le_of_lt hge h
    have hg : (d ++ e).getD a 0 = d.getD a 0 := by simp [List.getD_eq_getElem?_getD, List.getElem?_append_left ha]
    unfold rdg at h ⊢
    rw [hg, List.length_append]
    by_cases hc : a < d.length ∧ 48 ≤ d.getD a 0 ∧ d.getD a 0 ≤ 57 ∧ (0 < a ∨ d.getD a 0 ≠ 48)
    · rw [if_pos hc] at h
      rw [if_pos hc, if_pos ⟨by omega, hc.2⟩]
      exact rdg_append e k d _ _ h
    · rw [if_neg hc, if_neg (fun h' => hc ⟨ha, h'.2⟩)]
theorem drop_app {d e : List Int} {k : Nat} (h : k ≤ d.length) : (d ++ e).drop k = d.drop k ++ e := List.drop_append_of_le_length h
theorem movP_append (d e : List Int) (s : TS) (h : (movP s d).2 ≠ 0) : movP s (d ++ e) = movP s d := by
  unfold movP movP1 at h ⊢
  by_cases c1 : (rdg (d.drop 2) 3 0 0).2 = 0 ∨ begP (d.drop (2 + (rdg (d.drop 2) 3 0 0).2)) [59] = false
  · rw [if_pos c1] at h; exact absurd rfl h
  · rw [if_neg c1] at h
    have b1 : begP (d.drop (2 + (rdg (d.drop 2) 3 0 0).2)) [59] = true := by
      cases hb : begP (d.drop (2 + (rdg (d.drop 2) 3 0 0).2)) [59]
      · exact absurd (.inr hb) c1
      · rfl
    have l1 := begP_len b1
    rw [List.length_drop, List.length_cons, List.length_nil] at l1
    have r1 : rdg ((d ++ e).drop 2) 3 0 0 = rdg (d.drop 2) 3 0 0 := by
      rw [drop_app (by omega)]
      exact rdg_append e 3 _ 0 0 (by rw [List.length_drop]; omega)
    rw [r1]
    generalize hr : rdg (d.drop 2) 3 0 0 = r at *
    have b1' : begP ((d ++ e).drop (2 + r.2)) [59] = true := by rw [drop_app (by omega)]; exact begP_app_true b1
    rw [if_neg (by rw [b1']; rintro (h | h); exact c1 (.inl h); cases h), if_neg c1]
    unfold movP2 at h ⊢
    by_cases c2 : (rdg (d.drop (3 + r.2)) 3 0 0).2 = 0 ∨ begP (d.drop (3 + r.2 + (rdg (d.drop (3 + r.2)) 3 0 0).2)) [72] = false
    · rw [if_pos c2] at h; exact absurd rfl h
    · have b2 : begP (d.drop (3 + r.2 + (rdg (d.drop (3 + r.2)) 3 0 0).2)) [72] = true := by
        cases hb : begP (d.drop (3 + r.2 + (rdg (d.drop (3 + r.2)) 3 0 0).2)) [72]
        · exact absurd (.inr hb) c2
        · rfl
      have l2 := begP_len b2
      rw [List.length_drop, List.length_cons, List.length_nil] at l2
      have r2 : rdg ((d ++ e).drop (3 + r.2)) 3 0 0 = rdg (d.drop (3 + r.2)) 3 0 0 := by
        rw [drop_app (by omega)]
        exact rdg_append e 3 _ 0 0 (by rw [List.length_drop]; omega)
      rw [r2]
      generalize rdg (d.drop (3 + r.2)) 3 0 0 = q at *
      have b2' : begP ((d ++ e).drop (3 + r.2 + q.2)) [72] = true := by rw [drop_app (by omega)]; exact begP_app_true b2
      rw [if_neg c2, if_neg (by rw [b2']; rintro (h | h); exact c2 (.inl h); cases h)]
theorem decodeP_append (d e : List Int) (h : (decodeP d).1 = 0) : decodeP (d ++ e) = decodeP d := by
  have hl : ¬ d.length < (dcFirst (d.getD 0 0)).2 := fun hh => by unfold decodeP at h; rw [if_pos hh] at h; exact absurd h (by decide)
  have hp : 0 < d.length := by
    have : 1 ≤ (dcFirst (d.getD 0 0)).2 := by unfold dcFirst; split; · exact (by decide : 1 ≤ 3)
                                              split; · exact (by decide : 1 ≤ 2)
                                              exact Nat.le_refl _
    omega
  have hg : (d ++ e).getD 0 0 = d.getD 0 0 := by simp [List.getD_eq_getElem?_getD, List.getElem?_append_left hp]
  have ht : (d ++ e).take (dcFirst (d.getD 0 0)).2 = d.take (dcFirst (d.getD 0 0)).2 := List.take_append_of_le_length (by omega)
  unfold decodeP dcChar
  rw [hg, ht, if_neg (by rw [List.length_append]; omega), if_neg hl]
/-- Few bytes only: nothing is heard. -/
theorem oneP_short (d : List Int) (s : TS) (h : d = [] ∨ d = [27] ∨ d = [27, 91] ∨ d = [27, 91, 55] ∨ d = [27, 91, 48]) : (oneP d s).2 = 0 := by
  rcases h with rfl | rfl | rfl | rfl | rfl <;> rfl
theorem beg_same {d e p : List Int} (h : begP d p = false) (hs : begP (d ++ e) p = true) : ∃ k, k < p.length ∧ d = p.take k := by
  by_cases hl : p.length ≤ d.length
  · rw [begP_append hl, h] at hs; cases hs
  · refine ⟨d.length, by omega, ?_⟩
    unfold begP at hs
    simp at hs
    have := hs.2
    rw [← this, List.take_take, Nat.min_eq_left (by omega), List.take_append_of_le_length (Nat.le_refl _), List.take_length]
theorem oneP_append (d e : List Int) (s : TS) (h : (oneP d s).2 ≠ 0) : oneP (d ++ e) s = oneP d s := by
  have hno : ¬ (d = [] ∨ d = [27] ∨ d = [27, 91] ∨ d = [27, 91, 55] ∨ d = [27, 91, 48]) := fun hh => h (oneP_short d s hh)
  have k1 : begP (d ++ e) [27, 91, 75] = begP d [27, 91, 75] := by
    cases hb : begP d [27, 91, 75]
    · cases hs : begP (d ++ e) [27, 91, 75]
      · rfl
      · obtain ⟨k, hk, rfl⟩ := beg_same hb hs
        exact absurd (by match k, hk with
          | 0, _ => exact .inl rfl
          | 1, _ => exact .inr (.inl rfl)
          | 2, _ => exact .inr (.inr (.inl rfl))) hno
    · exact begP_app_true hb
  have k2 : begP (d ++ e) [27, 91, 55, 109] = begP d [27, 91, 55, 109] := by
    cases hb : begP d [27, 91, 55, 109]
    · cases hs : begP (d ++ e) [27, 91, 55, 109]
      · rfl
      · obtain ⟨k, hk, rfl⟩ := beg_same hb hs
        exact absurd (by match k, hk with
          | 0, _ => exact .inl rfl
          | 1, _ => exact .inr (.inl rfl)
          | 2, _ => exact .inr (.inr (.inl rfl))
          | 3, _ => exact .inr (.inr (.inr (.inl rfl)))) hno
    · exact begP_app_true hb
  have k3 : begP (d ++ e) [27, 91, 48, 109] = begP d [27, 91, 48, 109] := by
    cases hb : begP d [27, 91, 48, 109]
    · cases hs : begP (d ++ e) [27, 91, 48, 109]
      · rfl
      · obtain ⟨k, hk, rfl⟩ := beg_same hb hs
        exact absurd (by match k, hk with
          | 0, _ => exact .inl rfl
          | 1, _ => exact .inr (.inl rfl)
          | 2, _ => exact .inr (.inr (.inl rfl))
          | 3, _ => exact .inr (.inr (.inr (.inr rfl)))) hno
    · exact begP_app_true hb
  have k4 : begP (d ++ e) [27, 91] = begP d [27, 91] := by
    cases hb : begP d [27, 91]
    · cases hs : begP (d ++ e) [27, 91]
      · rfl
      · obtain ⟨k, hk, rfl⟩ := beg_same hb hs
        exact absurd (by match k, hk with
          | 0, _ => exact .inl rfl
          | 1, _ => exact .inr (.inl rfl)) hno
    · exact begP_app_true hb
  unfold oneP at h ⊢
  rw [k1, k2, k3, k4]
  split
  · rfl
  split
  · rfl
  split
  · rfl
  split
  · rename_i h1 h2 h3 h4
    rw [if_neg h1, if_neg h2, if_neg h3, if_pos h4] at h
    exact movP_append d e s h
  · rename_i h1 h2 h3 h4
    rw [if_neg h1, if_neg h2, if_neg h3, if_neg h4] at h
    by_cases hd : (decodeP d).1 = 0
    · rw [decodeP_append d e hd]
    · rw [if_neg (fun hh => hd hh.1)] at h
      exact absurd rfl h
theorem feedAll_append : ∀ (n : Nat) (d e : List Int) (s t : TS), d.length = n → feedAll d s = some t → feedAll (d ++ e) s = feedAll e t := by
  intro n
  induction n using Nat.strongRecOn with
  | ind n ih =>
    intro d e s t hn h
    by_cases hd : d = []
    · subst hd; rw [feedAll_nil] at h; injection h with h; subst h; rfl
    · by_cases hz : (oneP d s).2 = 0
      · rw [feedAll_none d s hd hz] at h; cases h
      · rw [feedAll_step d s hd hz] at h
        have hl : d.length ≠ 0 := fun e => hd (List.eq_nil_of_length_eq_zero e)
        have hap := oneP_append d e s hz
        rw [feedAll_step (d ++ e) s (by simp [hd]) (by rw [hap]; exact hz), hap]
        by_cases hle : (oneP d s).2 ≤ d.length
        · rw [drop_app hle]
          exact ih _ (by rw [List.length_drop]; omega) _ _ _ _ rfl h
        · exact absurd (oneP_le d s (by omega)) hle
/-- All that is heard can be seen. -/
def Seen (s : TS) : Prop := ∀ c ∈ s.ch, isSeen c = true
theorem setN_mem {α : Type} {l : List α} {a : Nat} {z x : α} : ∀ {k : Nat}, x ∈ setN l a z k → x ∈ l ∨ x = z
  | 0, h => .inl h
  | k + 1, h => by
    rcases List.mem_or_eq_of_mem_set h with h | h
    · exact setN_mem h
    · exact .inr h
theorem oneP_seen {s : TS} (h : Seen s) (d : List Int) : Seen (oneP d s).1 := by
  unfold oneP
  split
  · intro c hc
    rcases setN_mem hc with hc | rfl
    · exact h c hc
    · rfl
  split
  · exact h
  split
  · exact h
  split
  · unfold movP movP1 movP2
    split
    · exact h
    · split <;> exact h
  split
  · rename_i hd
    unfold putP
    split
    · exact h
    · intro c hc
      rcases List.mem_or_eq_of_mem_set hc with hc | rfl
      · exact h c hc
      · exact hd.2
  · exact h
theorem feedAll_seen : ∀ (n : Nat) (d : List Int) (s : TS), d.length = n → Seen s → ∀ s', feedAll d s = some s' → Seen s' := by
  intro n
  induction n using Nat.strongRecOn with
  | ind n ih =>
    intro d s hn h s' he
    by_cases hd : d = []
    · subst hd; rw [feedAll_nil] at he; injection he with he; subst he; exact h
    · by_cases hz : (oneP d s).2 = 0
      · rw [feedAll_none d s hd hz] at he; cases he
      · rw [feedAll_step d s hd hz] at he
        have : d.length ≠ 0 := fun e => hd (List.eq_nil_of_length_eq_zero e)
        exact ih _ (by rw [List.length_drop]; omega) _ _ rfl (oneP_seen h d) s' he
end Go.Proofs.Ytpfponhaofdbaaa.M
