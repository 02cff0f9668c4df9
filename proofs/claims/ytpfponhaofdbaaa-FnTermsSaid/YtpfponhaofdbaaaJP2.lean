import Derived.Test.YtpfponhaofdbaaaJP
import Derived.Test.YtpfponhaofdbaaaFB
import Derived.Test.YtpfponhaofdbaaaH
import Derived.Test.YtpfponhaofdbaaaX
set_option linter.unusedVariables false
set_option linter.unusedSimpArgs false
namespace Go.Proofs.Ytpfponhaofdbaaa.M
open Go.RowKit Go.Proofs.YtpfponhaofdbaaaW.PrintWords

theorem unseen_of {s : TS} (hs : Seen s) : anyUnseen s.ch = false := by
  unfold anyUnseen
  rw [List.any_eq_false]
  intro c hc
  rw [hs c hc]
  decide
theorem termFault_of {s : TS} (h : TI s) (hs : Seen s) : termFault s.wi s.ro s.y s.x s.ch s.hs = 0 := by
  have hm := h.at
  have hmul : s.ro * s.wi = s.ch.length := h.lc.symm
  have r1 := h.r1
  have r2 := h.r2
  have e1 : wrap64 (s.ro * s.wi) = s.ch.length := by rw [hmul]; unfold wrap64; omega
  have e2 : wrap64 (s.ro - 1) = s.ro - 1 := by unfold wrap64; omega
  have b1 : within s.wi 4 40 = true := by have := h.w1; have := h.w2; simp [within]; omega
  have b2 : within s.ro 1 13 = true := by simp [within]; omega
  have b3 : within s.y 0 (s.ro - 1) = true := by have := h.y1; have := h.y2; simp [within]; omega
  have b4 : within s.x 0 s.wi = true := by have := h.x1; have := h.x2; simp [within]; omega
  unfold termFault
  rw [e1, e2, b1, b2, b3, b4, unseen_of hs, h.lh]
  simp
theorem gridFault_of {s : TS} (h : TI s) (hs : Seen s) : gridFault s.wi s.ch s.hs = 0 := by
  have hm := h.at
  have b1 : within s.wi 4 40 = true := by have := h.w1; have := h.w2; simp [within]; omega
  have hp : 0 < s.ch.length := by have := h.w1; omega
  have hle : (s.ch.length : Int) ≤ 13 * s.wi := by rw [h.lc]; exact Int.mul_le_mul_of_nonneg_right h.r2 (by have := h.w1; omega)
  have hmod : (s.ch.length : Int) % s.wi = 0 := by rw [h.lc]; exact Int.mul_emod_left _ _
  have b2 : gridForm s.wi s.ch.length s.hs.length = false := by
    unfold gridForm
    rw [hmod, h.lh]
    simp
    refine ⟨fun e => by rw [e] at hp; exact absurd hp (by simp), hle⟩
  unfold gridFault
  rw [b1, b2, unseen_of hs]
  rfl
theorem enc_ne (c : Int) : 1 ≤ (enc c).length := (enc_len c).1
theorem txt_pos (wi : Int) (ch : List Int) (k : Nat) : k ≤ (txt wi ch k).length := by
  induction k with
  | zero => exact Nat.zero_le _
  | succ k ih =>
    rw [show txt wi ch (k + 1) = (txt wi ch k ++ enc (ch.getD k 0)) ++ (if ((k : Int) + 1) % wi = 0 then [10] else []) from rfl, List.length_append, List.length_append]
    have := enc_ne (ch.getD k 0)
    omega
theorem strOf_size (l : List Int) : (strOfNums l).size = l.length := by
  show (List.map (fun n => UInt8.ofNat n.toNat) l).toArray.size = l.length
  simp
theorem feed_ok {wi ro y x : Int} {hi : Bool} {ch : List Int} {hs : List Bool} {da : List Int} (h : (feedTermP wi ro y x hi ch hs da).1 = 0) :
    ∃ t : TS, TI t ∧ Seen t ∧ feedAll da ⟨wi, ro, y, x, hi, ch, hs⟩ = some t ∧ feedTermP wi ro y x hi ch hs da = (0, t.wi, t.ro, t.y, t.x, t.hi, t.ch, t.hs) ∧ da.length ≤ 8000 ∧ termFault wi ro y x ch hs = 0 := by
  unfold feedTermP at h ⊢
  by_cases g : termFault wi ro y x ch hs = 0
  · rw [if_pos g] at h ⊢
    by_cases g2 : 8000 < da.length
    · rw [if_pos g2] at h; exact absurd h (by decide)
    · rw [if_neg g2] at h ⊢
      cases hf : feedAll da ⟨wi, ro, y, x, hi, ch, hs⟩ with
      | none => rw [hf] at h; exact absurd h (by decide)
      | some t => exact ⟨t, feedAll_inv _ da _ rfl (TI_of_fault g) t hf, feedAll_seen _ da ⟨wi, ro, y, x, hi, ch, hs⟩ rfl (show Seen _ from (termFault_form g).2.2.2.2.2.2.1) t hf, rfl, rfl, by omega, g⟩
  · rw [if_neg g] at h; exact absurd h g
theorem feed_of {s t : TS} {da : List Int} (hi : TI s) (hs : Seen s) (h : feedAll da s = some t) (hl : da.length ≤ 8000) : feedTermP s.wi s.ro s.y s.x s.hi s.ch s.hs da = (0, t.wi, t.ro, t.y, t.x, t.hi, t.ch, t.hs) := by
  unfold feedTermP
  rw [if_pos (termFault_of hi hs), if_neg (by omega)]
  show (match feedAll da s with | none => _ | some t => _) = _
  rw [h]
theorem feed_two {wi ro y x : Int} {hi : Bool} {ch : List Int} {hs : List Bool} {da : List Int} {t u : TS} (k : Nat) (h : feedAll da ⟨wi, ro, y, x, hi, ch, hs⟩ = some t) (hl : da.length ≤ 8000)
    (h1 : feedAll (da.take k) ⟨wi, ro, y, x, hi, ch, hs⟩ = some u) (hu : TI u) (hsu : Seen u) : feedTermP u.wi u.ro u.y u.x u.hi u.ch u.hs (da.drop k) = (0, t.wi, t.ro, t.y, t.x, t.hi, t.ch, t.hs) := by
  refine feed_of hu hsu ?_ (by rw [List.length_drop]; omega)
  have := feedAll_append _ (da.take k) (da.drop k) _ u rfl h1
  rw [List.take_append_drop] at this
  rw [← this, h]
theorem text_ok {t : TS} (h : TI t) (hs : Seen t) : termTextP t.wi t.ro t.y t.x t.hi t.ch t.hs = (0, strOfNums (txt t.wi t.ch t.ch.length)) ∧ 0 < (strOfNums (txt t.wi t.ch t.ch.length)).size := by
  refine ⟨if_pos (termFault_of h hs), ?_⟩
  rw [strOf_size]
  have := txt_pos t.wi t.ch t.ch.length
  have := h.at
  have := h.w1
  omega
theorem grid_ok {t : TS} (h : TI t) (hs : Seen t) : gridOf t.wi t.ro t.y t.x t.hi t.ch t.hs = (0, t.wi, t.ch, t.hs) := if_pos (termFault_of h hs)
end Go.Proofs.Ytpfponhaofdbaaa.M
