import Derived.Test.YtpfponhaofdbaaaDoorK
import Derived.Deep.Slices
import Derived.ChangeSame
import Derived.ChangeArms
import Derived.WideShapes
set_option linter.unusedVariables false
set_option linter.unusedSimpArgs false
namespace Go.Proofs.YtpfponhaofdbaaaDoor.M
open Go.RowKit Go.Proofs.YtpfponhaofdbaaaDoorW.PrintWords Go.ChangeShapes Go.WideShapes Go.Deep

abbrev wI : Int → Prop := fun n => (Lit.int .i64 n).wf = true
abbrev wU : Int → Prop := fun n => (Lit.int .u8 n).wf = true
abbrev wT : Bool → Prop := fun _ => True
abbrev wS : ByteArray → Prop := fun s => s.size ≤ maxLen
abbrev wE : Unit → Prop := fun _ => True
abbrev wL {α : Type} (W : α → Prop) : List α → Prop := fun l => ∀ x ∈ l, W x
abbrev wPair {α β : Type} (W : α → Prop) (Ws : β → Prop) : α × β → Prop := fun x => W x.1 ∧ Ws x.2
/-! What an argument's cells read as: kinds of structs (pair, unit), and that a type's data open to a kind -/
def kUnit : Kd Unit where
  sz := 0
  E := []
  K := fun _ _ cs => cs = []
  M := fun _ _ _ _ cs => cs = []
  K_len := fun h => by rw [h]; rfl
  K_one := fun h u hu => by rw [h] at hu; simp at hu
  K_below := fun _ h => h
  K_of_M := fun h => h
  M_mono := fun _ h => h
  M_bound := fun h => h
  M_move := fun _ h => h
  M_lower := fun _ h => h
def kPair {α β : Type} (a : Kd α) (b : Kd β) : Kd (α × β) where
  sz := a.sz + b.sz
  E := a.E ++ b.E
  K := fun w x cs => ∃ c1 c2, cs = c1 ++ c2 ∧ a.K w x.1 c1 ∧ b.K w x.2 c2
  M := fun w base ok x cs => ∃ c1 c2, cs = c1 ++ c2 ∧ a.M w base ok x.1 c1 ∧ b.M w base ok x.2 c2
  K_len := fun ⟨c1, c2, h, h1, h2⟩ => by rw [h, List.length_append, a.K_len h1, b.K_len h2]
  K_one := fun ⟨c1, c2, h, h1, h2⟩ u hu => by
    rw [h, List.mem_append] at hu
    rcases hu with hu | hu
    · exact a.K_one h1 u hu
    · exact b.K_one h2 u hu
  K_below := fun hb ⟨c1, c2, h, h1, h2⟩ => ⟨c1, c2, h, a.K_below hb h1, b.K_below hb h2⟩
  K_of_M := fun ⟨c1, c2, h, h1, h2⟩ => ⟨c1, c2, h, a.K_of_M h1, b.K_of_M h2⟩
  M_mono := fun hk ⟨c1, c2, h, h1, h2⟩ => ⟨c1, c2, h, a.M_mono hk h1, b.M_mono hk h2⟩
  M_bound := fun ⟨c1, c2, h, h1, h2⟩ => ⟨c1, c2, h,
    a.M_mono (fun k ⟨h1, h2, h3, q, hq, h4⟩ => ⟨h1, h2, h3, q, List.mem_append_left _ hq, h4⟩) (a.M_bound h1),
    b.M_mono (fun k ⟨h1, h2, h3, q, hq, h4⟩ => ⟨h1, h2, h3, q, List.mem_append_right _ hq, h4⟩) (b.M_bound h2)⟩
  M_move := fun hm ⟨c1, c2, h, h1, h2⟩ => ⟨c1, c2, h, a.M_move hm h1, b.M_move hm h2⟩
  M_lower := fun hb ⟨c1, c2, h, h1, h2⟩ => ⟨c1, c2, h, a.M_lower hb h1, b.M_lower hb h2⟩

def Opens (P : Program) (t : TypeId) {α : Type} (d : Kd α) (W : α → Prop) : Prop :=
  P.cellsOf t = d.sz ∧ ∀ {H : Type} {enc : TypeId × Value → H} {w : World} {base : Nat} {spare : Nat → Bool} {held : Bool} {fuel : Nat} {cs : List Value} {x : DataW H × List MemPlace},
    DataW.trod enc P w base spare held fuel t cs = some x → ∃ a, d.K w a cs ∧ W a
def OpF (P : Program) (fs : List Field) (off : Nat) {α : Type} (d : Kd α) (W : α → Prop) : Prop :=
  ∀ {H : Type} {enc : TypeId × Value → H} {w : World} {base : Nat} {spare : Nat → Bool} {held : Bool} {n : Nat} (cs : List Value),
    (∀ f ∈ fs, ∃ y, DataW.trod enc P w base spare held n f.type ((cs.drop f.offset).take (P.cellsOf f.type)) = some y) → ∃ a, d.K w a ((cs.drop off).take d.sz) ∧ W a
section
variable {P : Program} {t e : TypeId} {α β : Type} {d : Kd α} {ds : Kd β} {W : α → Prop} {Ws : β → Prop}
theorem Opens.int {k : IntKind} (ht : P.underlying t = some (.int k)) (hc : P.cellsOf t = 1) : Opens P t (Kd.int k) (fun n => (Lit.int k n).wf = true) :=
  ⟨hc, fun h => by obtain ⟨n, rfl, _, hw⟩ := DataW.trod_int ht h; exact ⟨n, rfl, hw⟩⟩
theorem Opens.bool (ht : P.underlying t = some .bool) (hc : P.cellsOf t = 1) : Opens P t Kd.bool (fun _ => True) :=
  ⟨hc, fun h => by obtain ⟨n, rfl, _⟩ := DataW.trod_bool ht h; exact ⟨n, rfl, trivial⟩⟩
theorem Opens.string (ht : P.underlying t = some .string) (hc : P.cellsOf t = 1) : Opens P t Kd.string (fun s => s.size ≤ maxLen) :=
  ⟨hc, fun h => by obtain ⟨n, rfl, _, hw⟩ := DataW.trod_string ht h; exact ⟨n, rfl, hw⟩⟩
theorem Opens.slice (ht : P.underlying t = some (.slice e)) (hc : P.cellsOf t = 1) (he : Opens P e d W) : Opens P t (Kd.slice e d) (fun l => ∀ x ∈ l, W x) := by
  refine ⟨hc, fun {H enc w base spare held fuel cs x} h => ?_⟩
  rcases open_slice ht h with ⟨rfl, _⟩ | ⟨a, len, cap, m, n, D, Pl, rfl, _, hl, hm, hmm, _, hi⟩
  · exact ⟨[], ⟨none, 0, rfl, Nat.le_refl _, Kd.C_nil d w⟩, by simp⟩
  · have hlm : len ≤ m := by rw [hmm]; split <;> omega
    have hx : ∀ i : Fin len, ∃ (y : α) (cs' : List Value), w.cells? base (a.add (i * P.cellsOf e)) (P.cellsOf e) = some cs' ∧ d.K w y cs' ∧ W y := fun i => by
      obtain ⟨cs', h1, h2⟩ := hi i (by omega)
      obtain ⟨y, h3, h4⟩ := he.2 h2
      exact ⟨y, cs', h1, h3, h4⟩
    refine ⟨List.ofFn fun i => Classical.choose (hx i), ⟨some a, cap, by rw [List.length_ofFn], by rw [List.length_ofFn]; exact hl, by rw [List.length_ofFn], by rw [List.length_ofFn]; simp only [maxLen] at hm; omega, fun _ => ⟨a, rfl, fun j p hj => ?_⟩⟩, fun x hx' => ?_⟩
    · obtain ⟨hjl, rfl⟩ := List.getElem?_eq_some_iff.1 hj
      have hj2 : j < len := by simpa using hjl
      obtain ⟨cs', h1, h2, _⟩ := Classical.choose_spec (hx ⟨j, hj2⟩)
      obtain ⟨_, hcl, hat⟩ := World.cells?_some h1
      refine ⟨cs', d.K_len h2, by rw [List.getElem_ofFn]; exact h2, fun i u hu => ?_⟩
      have hil : i < P.cellsOf e := by rw [← hcl]; exact (List.getElem?_eq_some_iff.1 hu).1
      have := hat i hil
      rw [Go.Deep.add_add, hu, he.1] at this
      exact this
    · obtain ⟨i, rfl⟩ := List.mem_ofFn.1 hx'
      obtain ⟨_, _, _, h4⟩ := Classical.choose_spec (hx i)
      exact h4
theorem OpF.nil (off : Nat) : OpF P [] off kUnit (fun _ => True) := fun cs _ => ⟨(), by simp [kUnit], trivial⟩
theorem OpF.cons {f : Field} {fs : List Field} {off : Nat} (h0 : f.offset = off) (hf : Opens P f.type d W) (hs : OpF P fs (off + d.sz) ds Ws) : OpF P (f :: fs) off (kPair d ds) (fun x => W x.1 ∧ Ws x.2) := by
  intro H enc w base spare held n cs h
  obtain ⟨y, hy⟩ := h f List.mem_cons_self
  obtain ⟨a, ha, hw⟩ := hf.2 hy
  obtain ⟨b, hb, hws⟩ := hs cs (fun g hg => h g (List.mem_cons_of_mem _ hg))
  refine ⟨(a, b), ⟨_, _, ?_, ha, hb⟩, hw, hws⟩
  rw [h0, hf.1]
  show (cs.drop off).take (d.sz + ds.sz) = _
  rw [List.take_add, List.drop_drop]
theorem Opens.struct {fs : Array Field} (ht : P.underlying t = some (.struct fs)) (hc : P.cellsOf t = d.sz) (h : OpF P fs.toList 0 d W) : Opens P t d W := by
  refine ⟨hc, fun {H enc w base spare held fuel cs x} hx => ?_⟩
  obtain ⟨xs, n, _, _, hl, hlen, hf⟩ := DataW.trod_struct ht hx
  obtain ⟨a, ha, hw⟩ := h (n := n) (enc := enc) (w := w) (base := base) (spare := spare) (held := held) cs (fun f hf' => by
    obtain ⟨i, hi, he⟩ := List.getElem_of_mem hf'
    have hi' : i < fs.size := by simpa using hi
    have h1 := hf i f (by rw [← he]; simp)
    exact ⟨xs[i]'(by omega), by rw [h1, List.getElem?_eq_getElem (by omega)]⟩)
  refine ⟨a, ?_, hw⟩
  rw [List.drop_zero, List.take_of_length_le (by omega)] at ha
  exact ha
end
end Go.Proofs.YtpfponhaofdbaaaDoor.M
