import Derived.Test.YtpfponhaofdbaaaFP
set_option linter.unusedVariables false
set_option linter.unusedSimpArgs false
namespace Go.Proofs.Ytpfponhaofdbaaa.M
open Go.RowKit Go.Proofs.YtpfponhaofdbaaaW.PrintWords

/-! the two ways of reading a character are one -/
theorem deco_eq (d : List Int) (hd : d ≠ []) (hb : ∀ z ∈ d, 0 ≤ z ∧ z ≤ 255) :
    decodeP d = if (deco (d.getD 0 0) (more d 1) (more d 2)).2 = 0 then (5, 0, 0) else (0, (deco (d.getD 0 0) (more d 1) (more d 2)).1, (deco (d.getD 0 0) (more d 1) (more d 2)).2) := by
  match d, hd with
  | b :: l, _ =>
    have h0 := hb b (by simp)
    have e0 : (b :: l).getD 0 0 = b := rfl
    unfold decodeP dcChar
    rw [e0]
    by_cases g1 : b < 128
    · have ef : dcFirst b = (b, 1) := by unfold dcFirst; rw [if_neg (by omega), if_neg (by omega)]
      have ed : deco b (more (b :: l) 1) (more (b :: l) 2) = (b, 1) := by simp [deco, g1]
      have hc : isChar b = true := by simp [isChar, within]; omega
      rw [ef, ed]
      simp [dcFold, enc, g1, hc]
    by_cases g2 : b < 192
    · have ef : dcFirst b = (b, 1) := by unfold dcFirst; rw [if_neg (by omega), if_neg (by omega)]
      have ed : deco b (more (b :: l) 1) (more (b :: l) 2) = (0, 0) := by unfold deco; rw [if_neg g1, if_neg (by omega), if_neg (by omega)]
      rw [ef, ed]
      have : ¬ b ≥ 2048 := by omega
      simp [dcFold, enc, g1]
      intro _ h
      split at h <;> simp at h
    by_cases g3 : b < 224
    · have ef : dcFirst b = (b - 192, 2) := by unfold dcFirst; rw [if_neg (by omega), if_pos (by omega)]
      rw [ef]
      match l with
      | [] =>
        have em : more [b] 1 = -1 := by simp [more]
        have ed : deco b (more [b] 1) (more [b] 2) = (0, 0) := by unfold deco; rw [if_neg g1, if_neg (by omega), if_neg (by omega)]
        rw [ed]; simp
      | x :: l =>
        have hx := hb x (by simp)
        have em : more (b :: x :: l) 1 = if 128 ≤ x ∧ x ≤ 191 then x - 128 else -1 := by simp [more]
        generalize hy : more (b :: x :: l) 2 = y
        rw [em]
        have ec : dcFold (b - 192) (List.drop 1 (List.take 2 (b :: x :: l))) = (b - 192) * 64 + x % 64 := rfl
        rw [ec]
        have et : List.take 2 (b :: x :: l) = [b, x] := rfl
        rw [et]
        have hch : isChar ((b - 192) * 64 + x % 64) = true := by simp [isChar, within]; omega
        rw [if_neg (by simp), hch]
        by_cases g4 : 128 ≤ x ∧ x ≤ 191
        · rw [if_pos g4]
          by_cases g5 : b < 194
          · have ed : deco b (x - 128) y = (0, 0) := by unfold deco; rw [if_neg g1, if_neg (by omega), if_neg (by omega)]
            rw [ed, if_neg]; rfl
            rintro ⟨_, h⟩
            unfold enc at h
            rw [if_pos (by omega)] at h
            simp at h
          · have ed : deco b (x - 128) y = ((b - 192) * 64 + (x - 128), 2) := by unfold deco; rw [if_neg g1, if_pos (by omega)]
            have e2 : (b - 192) * 64 + x % 64 = (b - 192) * 64 + (x - 128) := by omega
            rw [ed, if_pos, e2]; rfl
            refine ⟨rfl, ?_⟩
            unfold enc
            rw [if_neg (by omega), if_pos (by omega)]
            simp
            omega
        · rw [if_neg g4]
          have ed : deco b (-1) y = (0, 0) := by unfold deco; rw [if_neg g1, if_neg (by omega), if_neg (by omega)]
          rw [ed, if_neg]; rfl
          rintro ⟨_, h⟩
          unfold enc at h
          by_cases g5 : (b - 192) * 64 + x % 64 < 128
          · rw [if_pos g5] at h; simp at h
          · rw [if_neg g5, if_pos (by omega)] at h
            simp at h
            omega
    · have ef : dcFirst b = (b - 224, 3) := by unfold dcFirst; rw [if_pos (by omega)]
      rw [ef]
      match l with
      | [] =>
        have em : more [b] 1 = -1 := by simp [more]
        have ed : deco b (more [b] 1) (more [b] 2) = (0, 0) := by unfold deco; rw [if_neg g1, if_neg (by omega), if_neg (by omega)]
        rw [ed]; simp
      | [x] =>
        have em : more [b, x] 2 = -1 := by simp [more]
        have ed : deco b (more [b, x] 1) (more [b, x] 2) = (0, 0) := by unfold deco; rw [if_neg g1, if_neg (by omega), if_neg (by omega)]
        rw [ed]; simp
      | x :: y :: l =>
        have hx := hb x (by simp)
        have hy := hb y (by simp)
        have em : more (b :: x :: y :: l) 1 = if 128 ≤ x ∧ x ≤ 191 then x - 128 else -1 := by simp [more]
        have en : more (b :: x :: y :: l) 2 = if 128 ≤ y ∧ y ≤ 191 then y - 128 else -1 := by simp [more]
        rw [em, en]
        have ec : dcFold (b - 224) (List.drop 1 (List.take 3 (b :: x :: y :: l))) = ((b - 224) * 64 + x % 64) * 64 + y % 64 := rfl
        have et : List.take 3 (b :: x :: y :: l) = [b, x, y] := rfl
        rw [show (b - 224, 3).2 = 3 from rfl, show (b - 224, 3).1 = b - 224 from rfl, ec, et, if_neg (by simp)]
        have ex : ((b - 224) * 64 + x % 64) * 64 + y % 64 = (b - 224) * 4096 + (x % 64) * 64 + y % 64 := by omega
        rw [ex]
        by_cases g6 : b < 240 ∧ (128 ≤ x ∧ x ≤ 191) ∧ (128 ≤ y ∧ y ≤ 191)
        · rw [if_pos g6.2.1, if_pos g6.2.2]
          have e2 : (b - 224) * 4096 + (x % 64) * 64 + y % 64 = decoC b (x - 128) (y - 128) := by unfold decoC; omega
          rw [e2]
          have hdc : decoC b (x - 128) (y - 128) = (b - 224) * 4096 + (x - 128) * 64 + (y - 128) := rfl
          by_cases g7 : 2048 ≤ decoC b (x - 128) (y - 128) ∧ isChar (decoC b (x - 128) (y - 128)) = true
          · have ed : deco b (x - 128) (y - 128) = (decoC b (x - 128) (y - 128), 3) := by unfold deco; rw [if_neg g1, if_neg (by omega), if_pos ⟨by omega, g7⟩]
            rw [ed, if_pos]; rfl
            refine ⟨g7.2, ?_⟩
            unfold enc
            rw [if_neg (by omega), if_neg (by omega), hdc]
            simp
            omega
          · have ed : deco b (x - 128) (y - 128) = (0, 0) := by unfold deco; rw [if_neg g1, if_neg (by omega), if_neg (fun h => g7 h.2)]
            rw [ed, if_neg]; rfl
            rintro ⟨h1, h⟩
            have g8 : decoC b (x - 128) (y - 128) < 2048 := by
              by_cases g : 2048 ≤ decoC b (x - 128) (y - 128)
              · exact absurd ⟨g, h1⟩ g7
              · omega
            unfold enc at h
            by_cases g9 : decoC b (x - 128) (y - 128) < 128
            · rw [if_pos g9] at h; simp at h
            · rw [if_neg g9, if_pos g8] at h; simp at h
        · have ed : deco b (if 128 ≤ x ∧ x ≤ 191 then x - 128 else -1) (if 128 ≤ y ∧ y ≤ 191 then y - 128 else -1) = (0, 0) := by
            unfold deco
            rw [if_neg g1, if_neg (by omega), if_neg]
            rintro ⟨⟨h1, h2, h3, h4⟩, h5⟩
            refine g6 ⟨h2, ?_, ?_⟩
            · by_cases g : 128 ≤ x ∧ x ≤ 191
              · exact g
              · rw [if_neg g] at h3; omega
            · by_cases g : 128 ≤ y ∧ y ≤ 191
              · exact g
              · rw [if_neg g] at h4; omega
          rw [ed, if_neg]; rfl
          rintro ⟨h1, h⟩
          have hcb : (b - 224) * 4096 + x % 64 * 64 + y % 64 ≤ 65535 := by
            simp [isChar, within] at h1
            omega
          have hb240 : b < 240 := by omega
          generalize hg : (b - 224) * 4096 + x % 64 * 64 + y % 64 = cc at *
          unfold enc at h
          by_cases g9 : cc < 128
          · rw [if_pos g9] at h; simp at h
          · by_cases g10 : cc < 2048
            · rw [if_neg g9, if_pos g10] at h; simp at h
            · rw [if_neg g9, if_neg g10] at h
              simp at h
              exact g6 ⟨hb240, by omega, by omega⟩
/-! the reference's step -/
def movS2 (d : List Int) (i : Nat) (s : TS) (r q : Int × Nat) : TS × Nat :=
  if q.1 < 0 ∨ d.length ≤ q.2 ∨ d.getD q.2 0 ≠ 72 then (s, 0) else ({ s with y := min r.1 s.ro - 1, x := min q.1 s.wi - 1 }, q.2 + 1 - i)
def movS1 (d : List Int) (i : Nat) (s : TS) (r : Int × Nat) : TS × Nat :=
  if r.1 < 0 ∨ d.length ≤ r.2 ∨ d.getD r.2 0 ≠ 59 then (s, 0) else movS2 d i s r (numP d (r.2 + 1))
def movS (d : List Int) (i : Nat) (s : TS) : TS × Nat := movS1 d i s (numP d i)
def escS (d : List Int) (i : Nat) (s : TS) : TS × Nat :=
  if i < d.length ∧ d.getD i 0 = 75 then (eraseP s, 1)
  else if i + 1 < d.length ∧ d.getD (i + 1) 0 = 109 ∧ (d.getD i 0 = 55 ∨ d.getD i 0 = 48) then ({ s with hi := d.getD i 0 == 55 }, 2)
  else movS d i s
theorem begP_drop (d : List Int) (k : Nat) (c : Int) : (begP (d.drop k) [c] = false) ↔ (d.length ≤ k ∨ d.getD k 0 ≠ c) := by
  rw [begP_one, getD_drop, List.length_drop, Nat.add_zero]
  simp
  omega
theorem movS_eq (d : List Int) (i : Nat) (s : TS) (hi : 2 ≤ i) : movP s (d.drop (i - 2)) = ((movS d i s).1, if (movS d i s).2 = 0 then 0 else 2 + (movS d i s).2) := by
  unfold movP movS
  rw [numP_rdg d i, List.drop_drop, show i - 2 + 2 = i by omega]
  have hr := rdg_nn (d.drop i) 3 0 0 1 (by omega) (by omega)
  generalize rdg (d.drop i) 3 0 0 = r at hr ⊢
  by_cases h1 : r.2 = 0
  · have eP : movP1 s (d.drop (i - 2)) r = (s, 0) := by unfold movP1; rw [if_pos (Or.inl h1)]
    have eS : movS1 d i s (-1, i) = (s, 0) := by unfold movS1; rw [if_pos (Or.inl (by show (-1 : Int) < 0; omega))]
    rw [eP, if_pos h1, eS]; rfl
  · rw [if_neg h1]
    by_cases h2 : begP (d.drop (i + r.2)) [59] = false
    · have eP : movP1 s (d.drop (i - 2)) r = (s, 0) := by unfold movP1; rw [List.drop_drop, show i - 2 + (2 + r.2) = i + r.2 by omega, if_pos (Or.inr h2)]
      have eS : movS1 d i s (r.1, i + r.2) = (s, 0) := by unfold movS1; rw [if_pos (Or.inr ((begP_drop d (i + r.2) 59).1 h2))]
      rw [eP, eS]; rfl
    · have h2' : ¬ (d.length ≤ i + r.2 ∨ d.getD (i + r.2) 0 ≠ 59) := fun h => h2 ((begP_drop d (i + r.2) 59).2 h)
      have eP : movP1 s (d.drop (i - 2)) r = movP2 s (d.drop (i - 2)) r (rdg (d.drop (i + r.2 + 1)) 3 0 0) := by
        unfold movP1
        rw [List.drop_drop, show i - 2 + (2 + r.2) = i + r.2 by omega, if_neg (by rintro (h | h); exact h1 h; exact h2 h), List.drop_drop, show i - 2 + (3 + r.2) = i + r.2 + 1 by omega]
      have eS : movS1 d i s (r.1, i + r.2) = movS2 d i s (r.1, i + r.2) (numP d (i + r.2 + 1)) := by
        unfold movS1
        rw [if_neg (by rintro (h | h); (have := hr.1; simp only at h; omega); exact h2' h)]
      rw [eP, eS, numP_rdg d (i + r.2 + 1)]
      have hq := rdg_nn (d.drop (i + r.2 + 1)) 3 0 0 1 (by omega) (by omega)
      generalize rdg (d.drop (i + r.2 + 1)) 3 0 0 = q at hq ⊢
      by_cases h3 : q.2 = 0
      · have fP : movP2 s (d.drop (i - 2)) r q = (s, 0) := by unfold movP2; rw [if_pos (Or.inl h3)]
        have fS : movS2 d i s (r.1, i + r.2) (-1, i + r.2 + 1) = (s, 0) := by unfold movS2; rw [if_pos (Or.inl (by show (-1 : Int) < 0; omega))]
        rw [fP, if_pos h3, fS]; rfl
      · rw [if_neg h3]
        by_cases h4 : begP (d.drop (i + r.2 + 1 + q.2)) [72] = false
        · have fP : movP2 s (d.drop (i - 2)) r q = (s, 0) := by unfold movP2; rw [List.drop_drop, show i - 2 + (3 + r.2 + q.2) = i + r.2 + 1 + q.2 by omega, if_pos (Or.inr h4)]
          have fS : movS2 d i s (r.1, i + r.2) (q.1, i + r.2 + 1 + q.2) = (s, 0) := by unfold movS2; rw [if_pos (Or.inr ((begP_drop d (i + r.2 + 1 + q.2) 72).1 h4))]
          rw [fP, fS]; rfl
        · have h4' : ¬ (d.length ≤ i + r.2 + 1 + q.2 ∨ d.getD (i + r.2 + 1 + q.2) 0 ≠ 72) := fun h => h4 ((begP_drop d _ 72).2 h)
          have fP : movP2 s (d.drop (i - 2)) r q = ({ s with y := min r.1 s.ro - 1, x := min q.1 s.wi - 1 }, 4 + r.2 + q.2) := by
            unfold movP2
            rw [List.drop_drop, show i - 2 + (3 + r.2 + q.2) = i + r.2 + 1 + q.2 by omega, if_neg (by rintro (h | h); exact h3 h; exact h4 h)]
          have fS : movS2 d i s (r.1, i + r.2) (q.1, i + r.2 + 1 + q.2) = ({ s with y := min r.1 s.ro - 1, x := min q.1 s.wi - 1 }, 2 + r.2 + q.2) := by
            unfold movS2
            rw [if_neg (by rintro (h | h); (have := hq.1; simp only at h; omega); exact h4' h)]
            simp only
            rw [show i + r.2 + 1 + q.2 + 1 - i = 2 + r.2 + q.2 by omega]
          rw [fP, fS, if_neg (by omega)]
          simp only
          rw [show 2 + (2 + r.2 + q.2) = 4 + r.2 + q.2 by omega]
theorem esc_eq (d : List Int) (i : Nat) (s : TS) (h1 : i + 1 < d.length) (h2 : d.getD i 0 = 27) (h3 : d.getD (i + 1) 0 = 91) :
    oneP (d.drop i) s = ((escS d (i + 2) s).1, if (escS d (i + 2) s).2 = 0 then 0 else 2 + (escS d (i + 2) s).2) := by
  have hm := movS_eq d (i + 2) s (by omega)
  rw [show i + 2 - 2 = i by omega] at hm
  have e1 : d.drop i = 27 :: 91 :: d.drop (i + 2) := by
    rw [List.drop_eq_getElem_cons (by omega), List.drop_eq_getElem_cons (i := i + 1) (by omega)]
    rw [List.getD_eq_getElem?_getD, List.getElem?_eq_getElem (by omega)] at h2
    rw [List.getD_eq_getElem?_getD, List.getElem?_eq_getElem (by omega)] at h3
    simp at h2 h3
    rw [h2, h3]
  unfold oneP
  rw [hm, e1]
  simp only [begP_cons, decide_true, Bool.true_and, begP_nil]
  have k1 : begP (d.drop (i + 2)) [75] = true ↔ (i + 2 < d.length ∧ d.getD (i + 2) 0 = 75) := by rw [begP_one, getD_drop, List.length_drop]; simp; omega
  have kk : ∀ c, begP (d.drop (i + 2)) [c, 109] = true ↔ (i + 3 < d.length ∧ d.getD (i + 2) 0 = c ∧ d.getD (i + 3) 0 = 109) := by
    intro c
    rcases Nat.lt_or_ge (i + 2) d.length with hl | hl
    · rw [List.drop_eq_getElem_cons hl, begP_cons, begP_one, getD_drop, List.length_drop, List.getD_eq_getElem?_getD (i := i + 2), List.getElem?_eq_getElem hl]
      simp
      constructor
      · rintro ⟨h, h', h''⟩; exact ⟨by omega, h, h''⟩
      · rintro ⟨h, h', h''⟩; exact ⟨h', by omega, h''⟩
    · rw [List.drop_of_length_le hl, begP_none]
      simp
      omega
  unfold escS
  by_cases g1 : i + 2 < d.length ∧ d.getD (i + 2) 0 = 75
  · rw [if_pos (k1.2 g1), if_pos g1]; rfl
  · rw [if_neg (fun h => g1 (k1.1 h)), if_neg g1]
    rw [show i + 2 + 1 = i + 3 from rfl]
    by_cases g2 : i + 3 < d.length ∧ d.getD (i + 2) 0 = 55 ∧ d.getD (i + 3) 0 = 109
    · rw [if_pos ((kk 55).2 g2), if_pos ⟨g2.1, g2.2.2, .inl g2.2.1⟩]
      rw [show (d.getD (i + 2) 0 == 55) = true by rw [g2.2.1]; rfl]; rfl
    · rw [if_neg (fun h => g2 ((kk 55).1 h))]
      by_cases g3 : i + 3 < d.length ∧ d.getD (i + 2) 0 = 48 ∧ d.getD (i + 3) 0 = 109
      · rw [if_pos ((kk 48).2 g3), if_pos ⟨g3.1, g3.2.2, .inr g3.2.1⟩]
        rw [show (d.getD (i + 2) 0 == 55) = false by rw [g3.2.1]; rfl]; rfl
      · have gg : ¬ (i + 3 < d.length ∧ d.getD (i + 3) 0 = 109 ∧ (d.getD (i + 2) 0 = 55 ∨ d.getD (i + 2) 0 = 48)) := by
          rintro ⟨h1, h2, h3 | h3⟩
          · exact g2 ⟨h1, h3, h2⟩
          · exact g3 ⟨h1, h3, h2⟩
        rw [if_neg (fun h => g3 ((kk 48).1 h)), if_neg gg]
        rfl
theorem esc_bad (d : List Int) (i : Nat) (s : TS) (hb : ∀ z ∈ d, 0 ≤ z ∧ z ≤ 255) (h1 : i < d.length) (h2 : d.getD i 0 = 27) (h3 : ¬ (i + 1 < d.length ∧ d.getD (i + 1) 0 = 91)) : oneP (d.drop i) s = (s, 0) := by
  have hne : d.drop i ≠ [] := fun e => by have := congrArg List.length e; simp at this; omega
  have hde := deco_eq (d.drop i) hne (fun z hz => hb z (List.mem_of_mem_drop hz))
  rw [getD_drop, Nat.add_zero, h2] at hde
  have ed : ∀ x y, deco 27 x y = (27, 1) := fun x y => rfl
  rw [ed, if_neg (by simp)] at hde
  have e1 : d.drop i = 27 :: d.drop (i + 1) := by
    rw [List.drop_eq_getElem_cons h1]
    rw [List.getD_eq_getElem?_getD, List.getElem?_eq_getElem h1] at h2
    simp at h2
    rw [h2]
  have kb : ∀ p, begP (d.drop i) (27 :: 91 :: p) = false := by
    intro p
    rw [e1, begP_cons]
    rcases Nat.lt_or_ge (i + 1) d.length with hl | hl
    · have : ¬ d.getD (i + 1) 0 = 91 := fun h => h3 ⟨hl, h⟩
      rw [List.getD_eq_getElem?_getD, List.getElem?_eq_getElem hl] at this
      rw [List.drop_eq_getElem_cons hl, begP_cons]
      simp at this ⊢
      simp [this]
    · rw [List.drop_of_length_le hl, begP_none]; simp
  unfold oneP
  rw [kb, kb, kb, kb, hde]
  simp [show isSeen 27 = false from by decide]
theorem chr_eq (d : List Int) (i : Nat) (s : TS) (hb : ∀ z ∈ d, 0 ≤ z ∧ z ≤ 255) (h1 : i < d.length) (h2 : d.getD i 0 ≠ 27) :
    oneP (d.drop i) s = if (deco (d.getD i 0) (more d (i + 1)) (more d (i + 2))).2 ≠ 0 ∧ isSeen (deco (d.getD i 0) (more d (i + 1)) (more d (i + 2))).1 = true then
      (putP s (deco (d.getD i 0) (more d (i + 1)) (more d (i + 2))).1, (deco (d.getD i 0) (more d (i + 1)) (more d (i + 2))).2.toNat) else (s, 0) := by
  have hne : d.drop i ≠ [] := fun e => by have := congrArg List.length e; simp at this; omega
  have hde := deco_eq (d.drop i) hne (fun z hz => hb z (List.mem_of_mem_drop hz))
  have hm : ∀ k, more (d.drop i) k = more d (i + k) := by
    intro k
    unfold more
    rw [getD_drop, List.length_drop]
    by_cases h : i + k < d.length ∧ 128 ≤ d.getD (i + k) 0 ∧ d.getD (i + k) 0 ≤ 191
    · rw [if_pos h, if_pos ⟨by omega, h.2⟩]
    · rw [if_neg h, if_neg (fun h' => h ⟨by omega, h'.2⟩)]
  rw [getD_drop, Nat.add_zero, hm, hm] at hde
  have kb : ∀ p, begP (d.drop i) (27 :: p) = false := by
    intro p
    rw [List.getD_eq_getElem?_getD, List.getElem?_eq_getElem h1] at h2
    simp at h2
    rw [List.drop_eq_getElem_cons h1, begP_cons]
    simp [h2]
  unfold oneP
  rw [kb, kb, kb, kb, hde]
  generalize deco (d.getD i 0) (more d (i + 1)) (more d (i + 2)) = r
  by_cases h : r.2 = 0
  · rw [if_pos h]; simp [h]
  · rw [if_neg h]; simp [h]
end Go.Proofs.Ytpfponhaofdbaaa.M
