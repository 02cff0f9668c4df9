import Derived.Test.YtpfponhaofdbaaaDoorK
set_option linter.unusedVariables false
set_option linter.unusedSimpArgs false
namespace Go.Proofs.YtpfponhaofdbaaaDoor.M
open Go.RowKit Go.Proofs.YtpfponhaofdbaaaDoorW.PrintWords
theorem blk_set {W : World} {b i : Nat} {cs cs' : Array Value} {t : TypeId} {fr : Nat × Nat} {v : Value} (h : W.heap[b]? = some (.cells cs t fr)) (e : cs.setIfInBounds i v = cs') : (W.setCell ⟨b, i, none⟩ v).heap[b]? = some (.cells cs' t fr) := by
  subst e
  have hlt := blk_lt h
  have h' : W.heap[b] = .cells cs t fr := by simpa [Array.getElem?_eq_getElem hlt] using h
  show (W.heap.modify b _)[b]? = _
  rw [Array.getElem?_eq_getElem (by simpa using hlt), Array.getElem_modify_self, h']
  rfl
theorem upd_set (W : World) (b i : Nat) (v : Value) : Upd W (W.setCell ⟨b, i, none⟩ v) (fun k => k = b) :=
  ⟨rfl, rfl, rfl, by simp [World.setCell], fun k _ hn => Below.heap_setCell _ _ _ _ hn⟩
section
variable {α : Type} {enc : α → Value} {h1 : ∀ x, (enc x).oneCell' = true} {W : World} {t base b i : Nat} {xs : List α} {v u : Value} {ok : Nat → Prop}
/-- A row of the call's own, behind a store into an older block. -/
theorem R_set (h : (Kd.scalar enc h1).R t W base ok v xs) (hb : b < base) : (Kd.scalar enc h1).R t (W.setCell ⟨b, i, none⟩ u) base (fun _ => True) v xs :=
  R_upd h (upd_set W b i u) (fun k hk e => by have := Kd.R_base h k hk; omega)
theorem R_low (h : (Kd.scalar enc h1).R t W base ok v xs) (base' : Nat) (hb : base' ≤ base) : (Kd.scalar enc h1).R t W base' ok v xs :=
  R_base0 h base' (fun k hk => Nat.le_trans hb (Kd.R_base h k hk))
end
theorem R_readsn {α : Type} {d : Kd α} {W : World} {t base n c : Nat} {ok : Nat → Prop} {A : Option Addr} {xs : List α} (h : d.R t W base ok (.slice A n c) xs) : d.C W A n xs := by
  have h2 := Kd.R_reads' h
  rw [h2.1]
  exact h2.2.2
theorem C_updI {k : IntKind} {w w1 : World} {A : Option Addr} {n : Nat} {xs : List Int} {S : Nat → Prop} (c : Nat) (h : (Kd.int k).C w A n xs) (hu : Upd w w1 S) (hn : ∀ b, (Value.slice A n c).ownBlock = some b → ¬ S b) : (Kd.int k).C w1 A n xs := C_upd' c h hu hn
theorem C_updB {w w1 : World} {A : Option Addr} {n : Nat} {xs : List Bool} {S : Nat → Prop} (c : Nat) (h : Kd.bool.C w A n xs) (hu : Upd w w1 S) (hn : ∀ b, (Value.slice A n c).ownBlock = some b → ¬ S b) : Kd.bool.C w1 A n xs := C_upd' c h hu hn
theorem R_updI {k : IntKind} {w w1 : World} {t base : Nat} {v : Value} {xs : List Int} {S : Nat → Prop} (h : (Kd.int k).R t w base (fun _ => True) v xs) (hu : Upd w w1 S) (hn : ∀ b, v.ownBlock = some b → ¬ S b) : (Kd.int k).R t w1 base (fun _ => True) v xs := R_upd h hu hn
theorem R_updB {w w1 : World} {t base : Nat} {v : Value} {xs : List Bool} {S : Nat → Prop} (h : Kd.bool.R t w base (fun _ => True) v xs) (hu : Upd w w1 S) (hn : ∀ b, v.ownBlock = some b → ¬ S b) : Kd.bool.R t w1 base (fun _ => True) v xs := R_upd h hu hn
theorem cell_drew (w : World) (a : Addr) : w.drew.cell? a = w.cell? a := rfl
theorem cell_drewN (w : World) (n : Nat) (a : Addr) : (w.drewN n).cell? a = w.cell? a := rfl
theorem size_setCell (w : World) (a : Addr) (v : Value) : (w.setCell a v).heap.size = w.heap.size := by simp [World.setCell]
theorem blk_grown {W w1 : World} {b : Nat} {o : Obj} {row : Option Nat} (h : W.heap[b]? = some o) (hg : W.grownBy w1 row) (hn : some b ≠ row) : w1.heap[b]? = some o := (hg.block b (blk_lt h) hn).trans h
theorem blk_grownS {W w1 : World} {b N n c : Nat} {o : Obj} (h : W.heap[b]? = some o) (hg : W.grownBy w1 (Value.slice (some ⟨N, 0, none⟩) n c).ownBlock) (hn : b ≠ N) : w1.heap[b]? = some o := blk_grown h hg (fun e => hn (Option.some.inj e))
theorem R_setI {k : IntKind} {W : World} {t base b i : Nat} {v u : Value} {xs : List Int} (h : (Kd.int k).R t W base (fun _ => True) v xs) (hb : b < base) : (Kd.int k).R t (W.setCell ⟨b, i, none⟩ u) base (fun _ => True) v xs := R_set h hb
theorem R_setB {W : World} {t base b i : Nat} {v u : Value} {xs : List Bool} (h : Kd.bool.R t W base (fun _ => True) v xs) (hb : b < base) : Kd.bool.R t (W.setCell ⟨b, i, none⟩ u) base (fun _ => True) v xs := R_set h hb
theorem R_lowI {k : IntKind} {W : World} {t base : Nat} {v : Value} {xs : List Int} (base' : Nat) (h : (Kd.int k).R t W base (fun _ => True) v xs) (hb : base' ≤ base) : (Kd.int k).R t W base' (fun _ => True) v xs := R_low h base' hb
theorem R_lowB {W : World} {t base : Nat} {v : Value} {xs : List Bool} (base' : Nat) (h : Kd.bool.R t W base (fun _ => True) v xs) (hb : base' ≤ base) : Kd.bool.R t W base' (fun _ => True) v xs := R_low h base' hb
theorem size_drew (w : World) : w.drew.heap.size = w.heap.size := rfl
theorem size_drewN (w : World) (n : Nat) : (w.drewN n).heap.size = w.heap.size := rfl
theorem blk_free {W : World} {b : Nat} {cs : Array Value} {t : TypeId} (h : W.heap[b]? = some (.cells cs t (0, 0))) : ∀ i, W.frozen? ⟨b, i, none⟩ = false := fun i => by simp [World.frozen?, h]
theorem blk_setO {W : World} {b p i : Nat} {o : Obj} {v : Value} (h : W.heap[b]? = some o) (hne : b ≠ p) : (W.setCell ⟨p, i, none⟩ v).heap[b]? = some o := (Below.heap_setCell _ _ _ _ hne).trans h
end Go.Proofs.YtpfponhaofdbaaaDoor.M
