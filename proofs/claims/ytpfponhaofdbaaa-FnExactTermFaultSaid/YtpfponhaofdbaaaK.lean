import Derived.Test.YtpfponhaofdbaaaProg
import Derived.Test.YtpfponhaofdbaaaWWords
import Derived.WalkKit
import Derived.BigQuiet
import Derived.Deep.QuietTactic
import Derived.Conc.MuLone
import Derived.Deep.RegionHeld3
set_option linter.unusedVariables false
set_option linter.unusedSimpArgs false
namespace Go.Proofs.Ytpfponhaofdbaaa.M
open Go.RowKit Go.Proofs.YtpfponhaofdbaaaW.PrintWords

/-- Are two things the same (a test that the walk does not look into)? -/
noncomputable def eqv {α : Type} (x y : α) : Bool := @decide (x = y) (Classical.propDecidable _)
theorem eqv_iff {α : Type} {x y : α} : eqv x y = true ↔ x = y := by simp [eqv]
theorem eqv_true {α : Type} {x y : α} (h : x = y) : eqv x y = true := eqv_iff.2 h
theorem eqv_false {α : Type} {x y : α} (h : ¬ x = y) : eqv x y = false := by simp [eqv, h]
theorem eqv_self {α : Type} (x : α) : eqv x x = true := by simp [eqv]
/-- A row of n cells of which the first k are told, the others are z. -/
def upTo (z : Value) (l : List Value) (k : Nat) : Array Value := (l.take k ++ List.replicate (l.length - k) z).toArray
theorem upTo_zero (z : Value) (l : List Value) : upTo z l 0 = (List.replicate l.length z).toArray := by simp [upTo]
theorem upTo_all (z : Value) (l : List Value) : upTo z l l.length = l.toArray := by simp [upTo]
theorem upTo_set (z : Value) (l : List Value) (k : Nat) (hk : k < l.length) (v : Value) (hv : l[k] = v) : (upTo z l k).setIfInBounds k v = upTo z l (k + 1) := by
  subst hv
  have hr : l.length - k = (l.length - (k + 1)) + 1 := by omega
  have ht : (l.take k).length = k := by rw [List.length_take]; omega
  unfold upTo
  rw [hr, List.replicate_succ, List.setIfInBounds_toArray, List.set_append_right _ _ (by omega), ht, Nat.sub_self, List.set_cons_zero, List.take_succ_eq_append_getElem hk, List.append_assoc]
  rfl
theorem upTo_size (z : Value) (l : List Value) (k : Nat) (hk : k ≤ l.length) : (upTo z l k).size = l.length := by
  simp [upTo]; omega
theorem upTo_at (z : Value) (l : List Value) (k : Nat) (hk : k < l.length) : (upTo z l k)[k]? = some z := by
  have ht : (l.take k).length = k := by rw [List.length_take]; omega
  unfold upTo
  rw [List.getElem?_toArray, List.getElem?_append_right (by omega), ht, Nat.sub_self, List.getElem?_replicate, if_pos (by omega)]
theorem made_upTo (z : Value) (l : List Value) : madeCells #[z] l.length = upTo z l 0 := by
  rw [upTo_zero]
  apply Array.ext
  · simp [madeCells]
  · intro i h1 h2
    simp [madeCells, Nat.mod_one]


section
variable {α : Type} {enc : α → Value} {h1 : ∀ x, (enc x).oneCell' = true} {w w1 : World} {A : Option Addr} {n : Nat} {xs : List α}
theorem at1 (h : (Kd.scalar enc h1).C w A n xs) (z : α) (k : Nat) (hk : k < n) : ∃ ad, A = some ad ∧ w.cell? (ad.add k) = some (enc (xs.getD k z)) := by
  obtain ⟨ad, c, hA, hl, hK, hc⟩ := Kd.C_get h z (k : Int) (by omega) (by omega)
  refine ⟨ad, hA, ?_⟩
  have hK' : c = [enc (xs.getD k z)] := hK
  have := hc 0 (enc (xs.getD k z)) (by rw [hK']; rfl)
  simpa [Kd.scalar] using this
/-- What is read of a literal row of the call's own. -/
theorem C_new (w : World) (t : TypeId) (l : List α) (hm : l.length ≤ 9223372036854775807) : (Kd.scalar enc h1).C (w.alloc (.cells (l.map enc).toArray t)) (some ⟨w.heap.size, 0, none⟩) l.length l := by
  rcases Nat.eq_zero_or_pos l.length with h0 | h0
  · have hl : l = [] := List.eq_nil_of_length_eq_zero h0
    subst hl
    exact ⟨rfl, by simp, fun h => absurd h (by simp)⟩
  · refine Kd.C_of_reads (d := l[0]) ⟨rfl, hm, fun _ => ⟨_, rfl, fun j hj => ?_⟩⟩
    rw [add_plain, cell_of_row _ _ j _ t (0, 0) (heap_alloc_new w _)]
    simp [List.getD_eq_getElem?_getD, List.getElem?_eq_getElem hj]
/-- A literal row of the call's own, told as owned. -/
theorem R_at {W : World} {g t base : Nat} {l : List α} (h : W.heap[g]? = some (.cells (l.map enc).toArray t (0, 0))) (hb : base ≤ g) (hm : l.length ≤ 9223372036854775807) :
    Kd.R (Kd.scalar enc h1) t W base (fun _ => True) (.slice (some ⟨g, 0, none⟩) l.length l.length) l := by
  refine ⟨fun _ _ => trivial, l.map enc, ⟨by simp [Kd.scalar], .inr ⟨g, l.length, (l.map enc).toArray, rfl, hb, h, Nat.le_refl _, by simpa [maxLen] using hm, by simp [Kd.scalar], by rw [List.toList_toArray]; exact List.take_of_length_le (by simp [Kd.scalar])⟩⟩, by simp [Kd.scalar], fun j p hj => ?_⟩
  obtain ⟨hjl, rfl⟩ := List.getElem?_eq_some_iff.1 hj
  show ((l.map enc).drop (j * 1)).take 1 = [enc l[j]]
  rw [Nat.mul_one, List.drop_eq_getElem_cons (by rw [List.length_map]; exact hjl)]
  simp
end
theorem below_end {w w1 w2 : World} (h : Below w.heap.size w w1) (k : Below w1.heap.size w1 w2) : Below w.heap.size w w2 := below_then h h.size k
theorem bcell {W w1 : World} (hb : Below W.heap.size W w1) : (∀ b o, b < W.heap.size → w1.cell? ⟨b, o, none⟩ = W.cell? ⟨b, o, none⟩) ∧ (∀ b o, b < W.heap.size → w1.frozen? ⟨b, o, none⟩ = W.frozen? ⟨b, o, none⟩) :=
  ⟨fun b o h => hb.cell (p := ⟨b, o, none⟩) h, fun b o h => hb.frozen (p := ⟨b, o, none⟩) h⟩
theorem size_alloc (w : World) (o : Obj) : (w.alloc o).heap.size = w.heap.size + 1 := by simp
theorem heap_alloc? (w : World) (o : Obj) (i : Nat) : (w.alloc o).heap[i]? = if i = w.heap.size then some o else w.heap[i]? := by
  have e : (w.alloc o).heap = w.heap.push o := rfl
  rw [e, Array.getElem?_push]
end Go.Proofs.Ytpfponhaofdbaaa.M
