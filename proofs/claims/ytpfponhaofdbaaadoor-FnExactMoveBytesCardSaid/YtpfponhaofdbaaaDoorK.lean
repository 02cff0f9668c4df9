import Derived.Test.YtpfponhaofdbaaaDoorProg
import Derived.Test.YtpfponhaofdbaaaDoorWWords
import Derived.WalkKit
import Derived.BigQuiet
import Derived.Deep.QuietTactic
import Derived.Conc.MuLone
import Derived.Deep.RegionHeld3
import Derived.Deep.RegionWith
set_option linter.unusedVariables false
set_option linter.unusedSimpArgs false
namespace Go.Proofs.YtpfponhaofdbaaaDoor.M
open Go.RowKit Go.Proofs.YtpfponhaofdbaaaDoorW.PrintWords

/-- Are two things the same (a test that the walk does not look into)? -/
noncomputable def eqv {α : Type} (x y : α) : Bool := @decide (x = y) (Classical.propDecidable _)
theorem eqv_iff {α : Type} {x y : α} : eqv x y = true ↔ x = y := by simp [eqv]
theorem eqv_true {α : Type} {x y : α} (h : x = y) : eqv x y = true := eqv_iff.2 h
theorem eqv_false {α : Type} {x y : α} (h : ¬ x = y) : eqv x y = false := by simp [eqv, h]
theorem eqv_self {α : Type} (x : α) : eqv x x = true := by simp [eqv]
/-- A row of n cells of which the first k are told, the others are z. -/
def upTo (z : Value) (l : List Value) (k : Nat) : Array Value := (l.take k ++ List.replicate (l.length - k) z).toArray
theorem upTo_zero (z : Value) (l : List Value) : upTo z l 0 = (List.replicate l.length z).toArray := by simp [upTo]
theorem upTo_all (z : Value) (l : List Value) : upTo z l l.length = l.toArray := by simp [upTo]
theorem upTo_set (z : Value) (l : List Value) (k : Nat) (hk : k < l.length) (v : Value) (hv : l[k] = v) : (upTo z l k).setIfInBounds k v = upTo z l (k + 1) := by
  subst hv
  have hr : l.length - k = (l.length - (k + 1)) + 1 := by omega
  have ht : (l.take k).length = k := by rw [List.length_take]; omega
  unfold upTo
  rw [hr, List.replicate_succ, List.setIfInBounds_toArray, List.set_append_right _ _ (by omega), ht, Nat.sub_self, List.set_cons_zero, List.take_succ_eq_append_getElem hk, List.append_assoc]
  rfl
theorem upTo_size (z : Value) (l : List Value) (k : Nat) (hk : k ≤ l.length) : (upTo z l k).size = l.length := by
  simp [upTo]; omega
theorem upTo_at (z : Value) (l : List Value) (k : Nat) (hk : k < l.length) : (upTo z l k)[k]? = some z := by
  have ht : (l.take k).length = k := by rw [List.length_take]; omega
  unfold upTo
  rw [List.getElem?_toArray, List.getElem?_append_right (by omega), ht, Nat.sub_self, List.getElem?_replicate, if_pos (by omega)]
theorem made_upTo (z : Value) (l : List Value) : madeCells #[z] l.length = upTo z l 0 := by
  rw [upTo_zero]
  apply Array.ext
  · simp [madeCells]
  · intro i h1 h2
    simp [madeCells, Nat.mod_one]


section
variable {α : Type} {enc : α → Value} {h1 : ∀ x, (enc x).oneCell' = true} {w w1 : World} {A : Option Addr} {n : Nat} {xs : List α}
theorem at1 (h : (Kd.scalar enc h1).C w A n xs) (z : α) (k : Nat) (hk : k < n) : ∃ ad, A = some ad ∧ w.cell? (ad.add k) = some (enc (xs.getD k z)) := by
  obtain ⟨ad, c, hA, hl, hK, hc⟩ := Kd.C_get h z (k : Int) (by omega) (by omega)
  refine ⟨ad, hA, ?_⟩
  have hK' : c = [enc (xs.getD k z)] := hK
  have := hc 0 (enc (xs.getD k z)) (by rw [hK']; rfl)
  simpa [Kd.scalar] using this
/-- What is read of a literal row of the call's own. -/
theorem C_new (w : World) (t : TypeId) (l : List α) (hm : l.length ≤ 9223372036854775807) : (Kd.scalar enc h1).C (w.alloc (.cells (l.map enc).toArray t)) (some ⟨w.heap.size, 0, none⟩) l.length l := by
  rcases Nat.eq_zero_or_pos l.length with h0 | h0
  · have hl : l = [] := List.eq_nil_of_length_eq_zero h0
    subst hl
    exact ⟨rfl, by simp, fun h => absurd h (by simp)⟩
  · refine Kd.C_of_reads (d := l[0]) ⟨rfl, hm, fun _ => ⟨_, rfl, fun j hj => ?_⟩⟩
    rw [add_plain, cell_of_row _ _ j _ t (0, 0) (heap_alloc_new w _)]
    simp [List.getD_eq_getElem?_getD, List.getElem?_eq_getElem hj]
/-- A literal row of the call's own, told as owned. -/
theorem R_at {W : World} {g t base : Nat} {l : List α} (h : W.heap[g]? = some (.cells (l.map enc).toArray t (0, 0))) (hb : base ≤ g) (hm : l.length ≤ 9223372036854775807) :
    Kd.R (Kd.scalar enc h1) t W base (fun _ => True) (.slice (some ⟨g, 0, none⟩) l.length l.length) l := by
  refine ⟨fun _ _ => trivial, l.map enc, ⟨by simp [Kd.scalar], .inr ⟨g, l.length, (l.map enc).toArray, rfl, hb, h, Nat.le_refl _, by simpa [maxLen] using hm, by simp [Kd.scalar], by rw [List.toList_toArray]; exact List.take_of_length_le (by simp [Kd.scalar])⟩⟩, by simp [Kd.scalar], fun j p hj => ?_⟩
  obtain ⟨hjl, rfl⟩ := List.getElem?_eq_some_iff.1 hj
  show ((l.map enc).drop (j * 1)).take 1 = [enc l[j]]
  rw [Nat.mul_one, List.drop_eq_getElem_cons (by rw [List.length_map]; exact hjl)]
  simp
end
theorem loop_toList (bs : ByteArray) : ∀ (n i : Nat) (r : List UInt8), bs.size - i = n → i ≤ bs.size → ByteArray.toList.loop bs i r = r.reverse ++ bs.data.toList.drop i
  | 0, i, r, hn, hi => by
    have hs : bs.size = bs.data.toList.length := Array.length_toList.symm
    unfold ByteArray.toList.loop
    rw [if_neg (by omega), List.drop_of_length_le (by omega), List.append_nil]
  | n + 1, i, r, hn, hi => by
    have hs : bs.size = bs.data.toList.length := Array.length_toList.symm
    have hlt : i < bs.size := by omega
    unfold ByteArray.toList.loop
    rw [if_pos hlt, loop_toList bs n (i + 1) _ (by omega) (by omega), List.reverse_cons, List.append_assoc, List.drop_eq_getElem_cons (i := i) (by omega)]
    congr 1
    simp only [List.singleton_append, List.cons.injEq, and_true]
    rw [ByteArray.get!, getElem!_pos bs.data i hlt]
    rfl
theorem toList_data (s : ByteArray) : s.toList = s.data.toList := by
  unfold ByteArray.toList
  rw [loop_toList s s.size 0 [] (by omega) (Nat.zero_le _)]
  simp
theorem str_eq {s u : ByteArray} : (s.toList = u.toList) ↔ s = u :=
  ⟨fun h => by rw [toList_data, toList_data] at h; exact ByteArray.ext (Array.ext' h), fun h => by rw [h]⟩
theorem mark_step {α : Type} (m l : List α) (j : Nat) (hl : m.length = l.length) (hj : j < l.length) (x : α) (hx : m[j]? = some x) : (m.take j ++ l.drop j).set j x = m.take (j + 1) ++ l.drop (j + 1) := by
  have ht : (m.take j).length = j := by rw [List.length_take]; omega
  rw [List.set_append_right _ _ (by omega), ht, Nat.sub_self, List.drop_eq_getElem_cons hj, List.set_cons_zero]
  have hm : j < m.length := by omega
  rw [List.getElem?_eq_getElem hm] at hx
  rw [List.take_succ_eq_append_getElem hm, List.append_assoc, Option.some.inj hx]
  rfl
theorem grown_set {w w' : World} {row : Option Nat} (h : w.grownBy w' row) {p : Addr} (hp : row = some p.block) (u : Value) : w.grownBy (w'.setCell p u) row :=
  h.trans ⟨rfl, rfl, rfl, by simp [World.setCell], fun k hk hn => Below.heap_setCell _ _ _ _ (fun e => hn (by rw [hp, e]))⟩
/-! equality of rows -/
theorem eq_of_getD {α : Type} (z : α) {l m : List α} (hn : l.length = m.length) (h : ∀ j, j < l.length → l.getD j z = m.getD j z) : l = m := by
  apply List.ext_getElem hn
  intro i h1 h2
  have := h i h1
  simpa [List.getD_eq_getElem?_getD, List.getElem?_eq_getElem h1, List.getElem?_eq_getElem h2] using this

/-- The world but for the blocks in S (and new ones) is as it was. -/
structure Upd (w w' : World) (S : Nat → Prop) : Prop where
  os : w'.os = w.os
  tape : w'.tape = w.tape
  output : w'.output = w.output
  size : w.heap.size ≤ w'.heap.size
  block : ∀ k, k < w.heap.size → ¬ S k → w'.heap[k]? = w.heap[k]?
theorem Upd.of_below {w w' : World} (h : Below w.heap.size w w') (S : Nat → Prop) : Upd w w' S := ⟨h.os, h.tape, h.output, h.size, fun k hk _ => h.block k hk⟩
theorem Upd.of_grown {w w' : World} {row : Option Nat} (h : w.grownBy w' row) : Upd w w' (fun k => row = some k) := ⟨h.os, h.tape, h.output, h.size, fun k hk hn => h.block k hk (fun e => hn e.symm)⟩
theorem Upd.trans {a b c : World} {S S' S'' : Nat → Prop} (h : Upd a b S) (k : Upd b c S') (h1 : ∀ i, i < a.heap.size → S i → S'' i) (h2 : ∀ i, i < a.heap.size → S' i → S'' i) : Upd a c S'' :=
  ⟨k.os.trans h.os, k.tape.trans h.tape, k.output.trans h.output, Nat.le_trans h.size k.size, fun i hi hn => (k.block i (Nat.lt_of_lt_of_le hi h.size) (fun e => hn (h2 i hi e))).trans (h.block i hi (fun e => hn (h1 i hi e)))⟩
theorem Upd.mono {a b : World} {S S' : Nat → Prop} (h : Upd a b S) (h1 : ∀ i, i < a.heap.size → S i → S' i) : Upd a b S' := ⟨h.os, h.tape, h.output, h.size, fun i hi hn => h.block i hi (fun e => hn (h1 i hi e))⟩
theorem Upd.cell {w w' : World} {S : Nat → Prop} (h : Upd w w' S) {p : Addr} (hp : p.block < w.heap.size) (hn : ¬ S p.block) : w'.cell? p = w.cell? p := World.cell?_of_block (w := w) (h.block p.block hp hn)
theorem below_upd {w w1 w2 : World} {S : Nat → Prop} (h : Below w.heap.size w w1) (k : Upd w1 w2 S) (hs : ∀ i, i < w.heap.size → ¬ S i) : Below w.heap.size w w2 :=
  h.trans ⟨k.os, k.tape, k.output, k.size, fun i hi => k.block i (Nat.lt_of_lt_of_le hi h.size) (hs i hi)⟩
section
variable {α : Type} {enc : α → Value} {h1 : ∀ x, (enc x).oneCell' = true} {w w1 : World} {A : Option Addr} {n t base : Nat} {xs : List α} {v : Value} {ok : Nat → Prop} {S : Nat → Prop}
theorem C_upd (h : (Kd.scalar enc h1).C w A n xs) (hu : Upd w w1 S) (hn : ∀ ad, A = some ad → 0 < n → ¬ S ad.block) : (Kd.scalar enc h1).C w1 A n xs := by
  rcases Nat.eq_zero_or_pos n with h0 | h0
  · exact ⟨h.1, h.2.1, fun hp => absurd hp (by omega)⟩
  · obtain ⟨ad, rfl, hc⟩ := h.2.2 h0
    refine ⟨h.1, h.2.1, fun _ => ⟨ad, rfl, fun j p hj => ?_⟩⟩
    obtain ⟨c, h2, h3, h4⟩ := hc j p hj
    refine ⟨c, h2, h3, fun i u hiu => ?_⟩
    have hb : ∀ z, (ad.add z).block = ad.block := fun z => by unfold Addr.add; split <;> rfl
    have := h4 i u hiu
    have hlt := World.block_lt_of_cell? w _ this
    rw [hu.cell hlt (by rw [hb]; exact hn ad rfl h0)]
    exact this
theorem C_upd' (c : Nat) (h : (Kd.scalar enc h1).C w A n xs) (hu : Upd w w1 S) (hn : ∀ b, (Value.slice A n c).ownBlock = some b → ¬ S b) : (Kd.scalar enc h1).C w1 A n xs :=
  C_upd h hu (fun ad h0 _ => hn ad.block (by rw [h0]; rfl))
/-- A flat row of the call's own: its own block alone matters. -/
theorem R_narrow (h : (Kd.scalar enc h1).R t w base ok v xs) : (Kd.scalar enc h1).R t w base (fun k => v.ownBlock = some k) v xs := by
  obtain ⟨h0, inner, h2, h3⟩ := h
  exact ⟨fun k hk => hk, inner, h2, h3⟩
theorem R_wide (h : (Kd.scalar enc h1).R t w base ok v xs) : (Kd.scalar enc h1).R t w base (fun _ => True) v xs := Kd.R_mono h (fun _ _ => trivial)
theorem R_upd (h : (Kd.scalar enc h1).R t w base ok v xs) (hu : Upd w w1 S) (hn : ∀ k, v.ownBlock = some k → ¬ S k) : (Kd.scalar enc h1).R t w1 base (fun _ => True) v xs :=
  R_wide (Kd.R_step (R_narrow h) (fun k hk hlt => hu.block k hlt (hn k hk)))
theorem R_base0 (h : (Kd.scalar enc h1).R t w base ok v xs) (base' : Nat) (hb : ∀ k, v.ownBlock = some k → base' ≤ k) : (Kd.scalar enc h1).R t w base' ok v xs := by
  obtain ⟨h0, inner, ⟨h2, h3⟩, h4⟩ := h
  refine ⟨h0, inner, ⟨h2, ?_⟩, ?_⟩
  · rcases h3 with h3 | ⟨g, cap, cur, rfl, hg, r⟩
    · exact .inl h3
    · exact .inr ⟨g, cap, cur, rfl, hb g rfl, r⟩
  · exact h4
end
/-! blocks that are known whole -/
theorem blk_lt {W : World} {b : Nat} {o : Obj} (h : W.heap[b]? = some o) : b < W.heap.size := (Array.getElem?_eq_some_iff.1 h).1
theorem blk_alloc {W : World} {b : Nat} {o' : Obj} (h : W.heap[b]? = some o') (o : Obj) : (W.alloc o).heap[b]? = some o' := (Below.heap_alloc W o b (blk_lt h)).trans h
theorem blk_new {W : World} (o : Obj) : (W.alloc o).heap[W.heap.size]? = some o := heap_alloc_new W o
theorem blk_new' {W : World} {b : Nat} (o : Obj) (h : b = W.heap.size) : (W.alloc o).heap[b]? = some o := by subst h; exact heap_alloc_new W o
theorem blk_drewN {W : World} {b : Nat} {o' : Obj} (h : W.heap[b]? = some o') (n : Nat) : (W.drewN n).heap[b]? = some o' := h
theorem blk_drew {W : World} {b : Nat} {o' : Obj} (h : W.heap[b]? = some o') : W.drew.heap[b]? = some o' := h
theorem blk_below {W W' : World} {b : Nat} {o' : Obj} (h : W.heap[b]? = some o') (hb : Below W.heap.size W W') : W'.heap[b]? = some o' := (hb.block b (blk_lt h)).trans h
theorem blk_upd {W W' : World} {b : Nat} {o' : Obj} {S : Nat → Prop} (h : W.heap[b]? = some o') (hb : Upd W W' S) (hn : ¬ S b) : W'.heap[b]? = some o' := (hb.block b (blk_lt h) hn).trans h
theorem blk_cell {W : World} {b : Nat} {cs : Array Value} {t : TypeId} {fr : Nat × Nat} (h : W.heap[b]? = some (.cells cs t fr)) : ∀ i, W.cell? ⟨b, i, none⟩ = cs[i]? := fun i => cell_of_row W b i cs t fr h
theorem rows_apart {α β : Type} {d : Kd α} {d' : Kd β} {t t' : Nat} {W : World} {b b' : Nat} {ok ok' : Nat → Prop} {v v' : Value} {xs : List α} {ys : List β} (h : Kd.R d t W b ok v xs) (h' : Kd.R d' t' W b' ok' v' ys) (ht : t ≠ t') : ∀ k, v.ownBlock = some k → v'.ownBlock = some k → False := fun k h1 h2 => by
  obtain ⟨c, hc⟩ := Kd.R_typed h k h1
  obtain ⟨c', hc'⟩ := Kd.R_typed h' k h2
  rw [hc] at hc'
  injection hc' with hc'
  injection hc' with _ hc'
  exact ht hc'
theorem row_box {α : Type} {d : Kd α} {t t' : Nat} {W : World} {b g : Nat} {ok : Nat → Prop} {v : Value} {xs : List α} {cs : Array Value} {fr : Nat × Nat} (h : Kd.R d t W b ok v xs) (h' : W.heap[g]? = some (.cells cs t' fr)) (ht : t ≠ t') : v.ownBlock = some g → False := fun h1 => by
  obtain ⟨c, hc⟩ := Kd.R_typed h g h1
  rw [hc] at h'
  injection h' with h'
  injection h' with _ h'
  exact ht h'
theorem below_end {w w1 w2 : World} (h : Below w.heap.size w w1) (k : Below w1.heap.size w1 w2) : Below w.heap.size w w2 := below_then h h.size k
theorem bcell {W w1 : World} (hb : Below W.heap.size W w1) : (∀ b o, b < W.heap.size → w1.cell? ⟨b, o, none⟩ = W.cell? ⟨b, o, none⟩) ∧ (∀ b o, b < W.heap.size → w1.frozen? ⟨b, o, none⟩ = W.frozen? ⟨b, o, none⟩) :=
  ⟨fun b o h => hb.cell (p := ⟨b, o, none⟩) h, fun b o h => hb.frozen (p := ⟨b, o, none⟩) h⟩
theorem size_alloc (w : World) (o : Obj) : (w.alloc o).heap.size = w.heap.size + 1 := by simp
theorem heap_alloc? (w : World) (o : Obj) (i : Nat) : (w.alloc o).heap[i]? = if i = w.heap.size then some o else w.heap[i]? := by
  have e : (w.alloc o).heap = w.heap.push o := rfl
  rw [e, Array.getElem?_push]
end Go.Proofs.YtpfponhaofdbaaaDoor.M
