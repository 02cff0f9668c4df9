import Derived.Test.YtpfponhaofdbaaaF1
import Derived.Test.YtpfponhaofdbaaaX
set_option linter.unusedVariables false
set_option linter.unusedSimpArgs false
namespace Go.Proofs.Ytpfponhaofdbaaa.M
open Go.RowKit Go.Proofs.YtpfponhaofdbaaaW.PrintWords

/-! what a terminal makes of bytes: plain mathematics -/
structure TS where
  wi : Int
  ro : Int
  y : Int
  x : Int
  hi : Bool
  ch : List Int
  hs : List Bool
structure TI (s : TS) : Prop where
  w1 : 4 ≤ s.wi
  w2 : s.wi ≤ 40
  r1 : 1 ≤ s.ro
  r2 : s.ro ≤ 13
  y1 : 0 ≤ s.y
  y2 : s.y < s.ro
  x1 : 0 ≤ s.x
  x2 : s.x ≤ s.wi
  lc : (s.ch.length : Int) = s.ro * s.wi
  lh : s.hs.length = s.ch.length
def atP (s : TS) : Nat := (s.y * s.wi + s.x).toNat
theorem TI.at {s : TS} (h : TI s) : 0 ≤ s.y * s.wi ∧ ((atP s : Nat) : Int) = s.y * s.wi + s.x ∧ s.y * s.wi + s.wi ≤ s.ch.length ∧ (s.ch.length : Int) ≤ 520 := by
  have h0 : 0 ≤ s.y * s.wi := Int.mul_nonneg h.y1 (by have := h.w1; omega)
  have h1 : (s.y + 1) * s.wi ≤ s.ro * s.wi := Int.mul_le_mul_of_nonneg_right (by have := h.y2; omega) (by have := h.w1; omega)
  have h2 : s.ro * s.wi ≤ 13 * 40 := Int.mul_le_mul h.r2 h.w2 (by have := h.w1; omega) (by omega)
  rw [Int.add_mul] at h1
  have := h.lc
  have := h.x1
  unfold atP
  exact ⟨h0, by omega, by omega, by omega⟩
def setN {α : Type} (l : List α) (a : Nat) (z : α) : Nat → List α
  | 0 => l
  | k + 1 => (setN l a z k).set (a + k) z
theorem setN_length {α : Type} (l : List α) (a : Nat) (z : α) (k : Nat) : (setN l a z k).length = l.length := by
  induction k with
  | zero => rfl
  | succ k ih => rw [setN, List.length_set, ih]
def eraseP (s : TS) : TS := { s with ch := setN s.ch (atP s) 32 (s.wi - s.x).toNat, hs := setN s.hs (atP s) false (s.wi - s.x).toNat }
def putP (s : TS) (c : Int) : TS := if s.x = s.wi then s else { s with ch := s.ch.set (atP s) c, hs := s.hs.set (atP s) s.hi, x := s.x + 1 }
theorem eraseP_inv {s : TS} (h : TI s) : TI (eraseP s) := ⟨h.w1, h.w2, h.r1, h.r2, h.y1, h.y2, h.x1, h.x2, by rw [eraseP, setN_length]; exact h.lc, by rw [eraseP]; simp only [setN_length]; exact h.lh⟩
theorem putP_inv {s : TS} (h : TI s) (c : Int) : TI (putP s c) := by
  unfold putP
  split
  · exact h
  · exact ⟨h.w1, h.w2, h.r1, h.r2, h.y1, h.y2, by have := h.x1; show 0 ≤ s.x + 1; omega, by have := h.x2; show s.x + 1 ≤ s.wi; omega, by simpa using h.lc, by simpa using h.lh⟩
/-- The number that stands ahead (the program's way): at most three digits, no 0 ahead. -/
def rdg (d : List Int) : Nat → Int → Nat → Int × Nat
  | 0, n, a => (n, a)
  | k + 1, n, a => if a < d.length ∧ 48 ≤ d.getD a 0 ∧ d.getD a 0 ≤ 57 ∧ (0 < a ∨ d.getD a 0 ≠ 48) then rdg d k (10 * n + (d.getD a 0 - 48)) (a + 1) else (n, a)
/-- .. and the reference's way. -/
def ndg (d : List Int) : Nat → Int → Nat → Int × Nat
  | 0, n, i => (n, i)
  | k + 1, n, i => if i < d.length ∧ 48 ≤ d.getD i 0 ∧ d.getD i 0 ≤ 57 then ndg d k (n * 10 + (d.getD i 0 - 48)) (i + 1) else (n, i)
def numP (d : List Int) (i : Nat) : Int × Nat := if (ndg d 3 0 i).2 = i ∨ d.getD i 0 = 48 then (-1, i) else ndg d 3 0 i
theorem getD_drop (d : List Int) (i a : Nat) : (d.drop i).getD a 0 = d.getD (i + a) 0 := by
  simp [List.getD_eq_getElem?_getD, List.getElem?_drop]
theorem ndg_rdg (d : List Int) (i : Nat) : ∀ (k : Nat) (n : Int) (a : Nat), 0 < a → ndg d k n (i + a) = ((rdg (d.drop i) k n a).1, i + (rdg (d.drop i) k n a).2)
  | 0, n, a, _ => rfl
  | k + 1, n, a, ha => by
    unfold ndg rdg
    rw [getD_drop, List.length_drop]
    by_cases h : i + a < d.length ∧ 48 ≤ d.getD (i + a) 0 ∧ d.getD (i + a) 0 ≤ 57
    · rw [if_pos h, if_pos ⟨by omega, h.2.1, h.2.2, .inl ha⟩, Nat.add_assoc, ndg_rdg d i k _ (a + 1) (by omega), Int.mul_comm 10 n]
    · rw [if_neg h, if_neg (fun h' => h ⟨by omega, h'.2.1, h'.2.2.1⟩)]
theorem rdg_ge (d : List Int) : ∀ (k : Nat) (n : Int) (a : Nat), a ≤ (rdg d k n a).2 ∧ (rdg d k n a).2 ≤ a + k ∧ (a ≤ d.length → (rdg d k n a).2 ≤ d.length)
  | 0, n, a => ⟨Nat.le_refl _, Nat.le_refl _, fun h => h⟩
  | k + 1, n, a => by
    unfold rdg
    split
    · rename_i h
      have := rdg_ge d k (10 * n + (d.getD a 0 - 48)) (a + 1)
      exact ⟨by omega, by omega, fun _ => this.2.2 (by omega)⟩
    · exact ⟨Nat.le_refl _, by show a ≤ a + (k + 1); omega, fun h => h⟩
def p10 : Nat → Int
  | 0 => 1
  | k + 1 => 10 * p10 k
theorem p10_pos : ∀ k, 1 ≤ p10 k
  | 0 => by decide
  | k + 1 => by have := p10_pos k; show 1 ≤ 10 * p10 k; omega
theorem rdg_nn (d : List Int) : ∀ (k : Nat) (n : Int) (a : Nat) (m : Int), 0 ≤ n → n < m → 0 ≤ (rdg d k n a).1 ∧ (rdg d k n a).1 < m * p10 k
  | 0, n, a, m, h, h2 => ⟨h, by show n < m * 1; omega⟩
  | k + 1, n, a, m, h, h2 => by
    have hp : m * 1 ≤ m * p10 (k + 1) := Int.mul_le_mul_of_nonneg_left (p10_pos (k + 1)) (by omega)
    unfold rdg
    split
    · rename_i hc
      have := rdg_nn d k (10 * n + (d.getD a 0 - 48)) (a + 1) (m * 10) (by omega) (by omega)
      rw [Int.mul_assoc] at this
      exact this
    · exact ⟨h, by show n < m * p10 (k + 1); omega⟩
theorem rdg_pos (d : List Int) : ∀ (k : Nat) (n : Int) (a : Nat), 1 ≤ n → 1 ≤ (rdg d k n a).1
  | 0, n, a, h => h
  | k + 1, n, a, h => by
    unfold rdg
    split
    · rename_i hc
      exact rdg_pos d k _ _ (by omega)
    · exact h
theorem rdg_one (d : List Int) (h : (rdg d 3 0 0).2 ≠ 0) : 1 ≤ (rdg d 3 0 0).1 := by
  revert h
  unfold rdg
  split
  · rename_i hc
    intro _
    refine rdg_pos d 2 _ _ ?_
    rcases hc with ⟨h1, h2, h3, h4 | h4⟩ <;> omega
  · intro h; exact absurd rfl h
theorem numP_rdg (d : List Int) (i : Nat) : numP d i = if (rdg (d.drop i) 3 0 0).2 = 0 then (-1, i) else ((rdg (d.drop i) 3 0 0).1, i + (rdg (d.drop i) 3 0 0).2) := by
  unfold numP
  have e1 : ndg d 3 0 i = if i < d.length ∧ 48 ≤ d.getD i 0 ∧ d.getD i 0 ≤ 57 then ndg d 2 (0 * 10 + (d.getD i 0 - 48)) (i + 1) else (0, i) := rfl
  have e2 : rdg (d.drop i) 3 0 0 = if 0 < (d.drop i).length ∧ 48 ≤ (d.drop i).getD 0 0 ∧ (d.drop i).getD 0 0 ≤ 57 ∧ (0 < 0 ∨ (d.drop i).getD 0 0 ≠ 48) then rdg (d.drop i) 2 (10 * 0 + ((d.drop i).getD 0 0 - 48)) 1 else (0, 0) := rfl
  rw [getD_drop, List.length_drop, Nat.add_zero] at e2
  by_cases h : i < d.length ∧ 48 ≤ d.getD i 0 ∧ d.getD i 0 ≤ 57
  · rw [if_pos h] at e1
    by_cases h0 : d.getD i 0 = 48
    · rw [if_neg (by omega)] at e2
      rw [if_pos (Or.inr h0), e2, if_pos rfl]
    · have hg := rdg_ge (d.drop i) 2 (10 * 0 + (d.getD i 0 - 48)) 1
      rw [if_pos ⟨by omega, h.2.1, h.2.2, .inr h0⟩] at e2
      rw [ndg_rdg d i 2 _ 1 (by omega), show 0 * 10 + (d.getD i 0 - 48) = 10 * 0 + (d.getD i 0 - 48) by omega] at e1
      rw [e1, e2, if_neg (fun hh => by
        rcases hh with hh | hh
        · simp only at hh; omega
        · exact h0 hh), if_neg (by omega)]
  · rw [if_neg h] at e1
    rw [if_neg (by omega)] at e2
    rw [e1, e2, if_pos (Or.inl rfl), if_pos rfl]
/-- Do bytes begin with others? -/
def begP (d p : List Int) : Bool := decide (p.length ≤ d.length) && decide (d.take p.length = p)
theorem begP_one (d : List Int) (c : Int) : begP d [c] = (decide (0 < d.length) && decide (d.getD 0 0 = c)) := by
  cases d with
  | nil => rfl
  | cons a l => simp [begP]
theorem begP_cons (a c : Int) (d p : List Int) : begP (a :: d) (c :: p) = (decide (a = c) && begP d p) := by
  rw [Bool.eq_iff_iff]
  simp [begP]
  constructor
  · rintro ⟨h1, h2, h3⟩; exact ⟨h2, h1, h3⟩
  · rintro ⟨h1, h2, h3⟩; exact ⟨h2, h1, h3⟩
theorem begP_nil (d : List Int) : begP d [] = true := by simp [begP]
theorem begP_none (c : Int) (p : List Int) : begP [] (c :: p) = false := by simp [begP]
/-- A place told: what is read, and how many bytes it has (0: none). -/
def movP2 (s : TS) (d : List Int) (r q : Int × Nat) : TS × Nat :=
  if q.2 = 0 ∨ begP (d.drop (3 + r.2 + q.2)) [72] = false then (s, 0) else ({ s with y := min r.1 s.ro - 1, x := min q.1 s.wi - 1 }, 4 + r.2 + q.2)
def movP1 (s : TS) (d : List Int) (r : Int × Nat) : TS × Nat :=
  if r.2 = 0 ∨ begP (d.drop (2 + r.2)) [59] = false then (s, 0) else movP2 s d r (rdg (d.drop (3 + r.2)) 3 0 0)
def movP (s : TS) (d : List Int) : TS × Nat := movP1 s d (rdg (d.drop 2) 3 0 0)
theorem movP_inv {s : TS} (h : TI s) (d : List Int) : TI (movP s d).1 := by
  unfold movP movP1 movP2
  split
  · exact h
  · rename_i h1
    split
    · exact h
    · rename_i h2
      have p1 := rdg_one (d.drop 2) (fun e => h1 (.inl e))
      have p2 := rdg_one (d.drop (3 + (rdg (d.drop 2) 3 0 0).2)) (fun e => h2 (.inl e))
      have := h.r1
      have := h.w1
      exact ⟨h.w1, h.w2, h.r1, h.r2, by show 0 ≤ min _ s.ro - 1; omega, by show min _ s.ro - 1 < s.ro; omega, by show 0 ≤ min _ s.wi - 1; omega, by show min _ s.wi - 1 ≤ s.wi; omega, h.lc, h.lh⟩
/-- The character that stands ahead: its code, itself, how many bytes it has. -/
def dcFirst (b : Int) : Int × Nat := if b ≥ 224 then (b - 224, 3) else if b ≥ 192 then (b - 192, 2) else (b, 1)
def dcFold (c : Int) (l : List Int) : Int := l.foldl (fun c b => c * 64 + b % 64) c
def dcChar (d : List Int) : Int := dcFold (dcFirst (d.getD 0 0)).1 ((d.take (dcFirst (d.getD 0 0)).2).drop 1)
def decodeP (d : List Int) : Int × Int × Int :=
  if d.length < (dcFirst (d.getD 0 0)).2 then (5, 0, 0)
  else if isChar (dcChar d) = true ∧ enc (dcChar d) = d.take (dcFirst (d.getD 0 0)).2 then (0, dcChar d, (dcFirst (d.getD 0 0)).2) else (5, 0, 0)
def oneP (d : List Int) (s : TS) : TS × Nat :=
  if begP d [27, 91, 75] then (eraseP s, 3)
  else if begP d [27, 91, 55, 109] then ({ s with hi := true }, 4)
  else if begP d [27, 91, 48, 109] then ({ s with hi := false }, 4)
  else if begP d [27, 91] then movP s d
  else if (decodeP d).1 = 0 ∧ isSeen (decodeP d).2.1 = true then (putP s (decodeP d).2.1, (decodeP d).2.2.toNat) else (s, 0)
theorem oneP_inv {s : TS} (h : TI s) (d : List Int) : TI (oneP d s).1 := by
  unfold oneP
  split
  · exact eraseP_inv h
  split
  · exact ⟨h.w1, h.w2, h.r1, h.r2, h.y1, h.y2, h.x1, h.x2, h.lc, h.lh⟩
  split
  · exact ⟨h.w1, h.w2, h.r1, h.r2, h.y1, h.y2, h.x1, h.x2, h.lc, h.lh⟩
  split
  · exact movP_inv h d
  split
  · exact putP_inv h _
  · exact h
def feedP : Nat → List Int → TS → Option TS
  | 0, _, s => some s
  | k + 1, d, s => if d = [] then some s else if (oneP d s).2 = 0 then none else feedP k (d.drop (oneP d s).2) (oneP d s).1
/-- The same with any measure that is long enough. -/
theorem feedP_more : ∀ (k j : Nat) (d : List Int) (s : TS), d.length ≤ k → d.length ≤ j → feedP k d s = feedP j d s
  | 0, 0, _, _, _, _ => rfl
  | 0, j + 1, d, s, h, _ => by
    obtain rfl : d = [] := List.eq_nil_of_length_eq_zero (by omega)
    rfl
  | k + 1, 0, d, s, _, h => by
    obtain rfl : d = [] := List.eq_nil_of_length_eq_zero (by omega)
    rfl
  | k + 1, j + 1, d, s, h, h' => by
    unfold feedP
    by_cases hd : d = []
    · rw [if_pos hd, if_pos hd]
    · rw [if_neg hd, if_neg hd]
      by_cases hz : (oneP d s).2 = 0
      · rw [if_pos hz, if_pos hz]
      · rw [if_neg hz, if_neg hz]
        have : d.length ≠ 0 := fun e => hd (List.eq_nil_of_length_eq_zero e)
        exact feedP_more k j _ _ (by rw [List.length_drop]; omega) (by rw [List.length_drop]; omega)
def feedAll (d : List Int) (s : TS) : Option TS := feedP d.length d s
theorem feedAll_nil (s : TS) : feedAll [] s = some s := rfl
theorem feedAll_none (d : List Int) (s : TS) (hd : d ≠ []) (h : (oneP d s).2 = 0) : feedAll d s = none := by
  cases d with
  | nil => exact absurd rfl hd
  | cons a l => unfold feedAll; rw [List.length_cons, feedP, if_neg hd, if_pos h]
theorem feedAll_step (d : List Int) (s : TS) (hd : d ≠ []) (h : (oneP d s).2 ≠ 0) : feedAll d s = feedAll (d.drop (oneP d s).2) (oneP d s).1 := by
  cases d with
  | nil => exact absurd rfl hd
  | cons a l =>
    unfold feedAll
    rw [List.length_cons, feedP, if_neg hd, if_neg h]
    exact feedP_more _ _ _ _ (by rw [List.length_drop, List.length_cons]; omega) (Nat.le_refl _)
theorem feedAll_inv : ∀ (n : Nat) (d : List Int) (s : TS), d.length = n → TI s → ∀ s', feedAll d s = some s' → TI s' := by
  intro n
  induction n using Nat.strongRecOn with
  | ind n ih =>
    intro d s hn h s' he
    by_cases hd : d = []
    · subst hd; rw [feedAll_nil] at he; injection he with he; subst he; exact h
    · by_cases hz : (oneP d s).2 = 0
      · rw [feedAll_none d s hd hz] at he; cases he
      · rw [feedAll_step d s hd hz] at he
        have : d.length ≠ 0 := fun e => hd (List.eq_nil_of_length_eq_zero e)
        exact ih _ (by rw [List.length_drop]; omega) _ _ rfl (oneP_inv h d) s' he
end Go.Proofs.Ytpfponhaofdbaaa.M
