import Derived.Test.YtpfponhaofdbaaaDoorK2
import Derived.Test.YtpfponhaofdbaaaDoorL1
import Derived.Laws.IdiomStrings
set_option linter.unusedVariables false
set_option linter.unusedSimpArgs false
namespace Go.Proofs.YtpfponhaofdbaaaDoor.M
open Go.RowKit Go.Proofs.YtpfponhaofdbaaaDoorW.PrintWords

/-! rows of bytes of the call's own, the bytes of a string among them (a frozen range behind them) -/
def OB (w : World) (base : Nat) (v : Value) (l : List Int) : Prop :=
  (v = .slice none 0 0 ∧ l = []) ∨ ∃ (g c : Nat) (cur : Array Value) (fr : Nat × Nat), v = .slice (some ⟨g, 0, none⟩) l.length c ∧ base ≤ g ∧ w.heap[g]? = some (.cells cur 5 fr) ∧ l.length ≤ c ∧ c ≤ maxLen ∧ (l.length ≤ fr.1 ∨ fr.2 = 0) ∧ ∀ i, i < l.length → cur[i]? = some (.int .u8 (l.getD i 0))
section
variable {w w1 : World} {base : Nat} {v : Value} {l : List Int} {S : Nat → Prop}
theorem OB_move (h : OB w base v l) (hm : ∀ k, v.ownBlock = some k → k < w.heap.size → w1.heap[k]? = w.heap[k]?) : OB w1 base v l := by
  rcases h with h | ⟨g, c, cur, fr, rfl, hb, hh, r⟩
  · exact .inl h
  · exact .inr ⟨g, c, cur, fr, rfl, hb, (hm g rfl (blk_lt hh)).trans hh, r⟩
theorem OB_below (h : OB w base v l) (hb : Below w.heap.size w w1) : OB w1 base v l := OB_move h (fun k _ hk => hb.block k hk)
theorem OB_alloc (h : OB w base v l) (o : Obj) : OB (w.alloc o) base v l := OB_below h (below_alloc (Below.refl _ _) o)
theorem OB_drew (h : OB w base v l) : OB w.drew base v l := OB_below h (below_drew (Below.refl _ _))
theorem OB_drewN (h : OB w base v l) (m : Nat) : OB (w.drewN m) base v l := OB_below h (pw_below_drewN (Below.refl _ _) m)
theorem OB_upd (h : OB w base v l) (hu : Upd w w1 S) (hn : ∀ b, v.ownBlock = some b → ¬ S b) : OB w1 base v l := OB_move h (fun k h1 hk => hu.block k hk (hn k h1))
theorem OB_lower {base' : Nat} (h : OB w base v l) (hb : base' ≤ base) : OB w base' v l := by
  rcases h with h | ⟨g, c, cur, fr, rfl, h1, r⟩
  · exact .inl h
  · exact .inr ⟨g, c, cur, fr, rfl, Nat.le_trans hb h1, r⟩
theorem OB_base (h : OB w base v l) : ∀ k, v.ownBlock = some k → base ≤ k := by
  rcases h with ⟨rfl, _⟩ | ⟨g, c, cur, fr, rfl, h1, r⟩
  · intro k hk; cases hk
  · intro k hk
    obtain rfl : g = k := by simpa [Value.ownBlock] using hk
    exact h1
theorem OB_lt (h : OB w base v l) : ∀ k, v.ownBlock = some k → k < w.heap.size := by
  rcases h with ⟨rfl, _⟩ | ⟨g, c, cur, fr, rfl, h1, h2, r⟩
  · intro k hk; cases hk
  · intro k hk; injection hk with hk; have := blk_lt h2; subst hk; exact this
theorem OB_reads (h : OB w base v l) : ∃ A c, v = .slice A l.length c ∧ l.length ≤ c ∧ Kd.C (Kd.int .u8) w A l.length l := by
  rcases h with ⟨rfl, rfl⟩ | ⟨g, c, cur, fr, rfl, h1, h2, h3, h4, h5, h6⟩
  · exact ⟨none, 0, rfl, Nat.le_refl _, Kd.C_nil _ _⟩
  · refine ⟨some ⟨g, 0, none⟩, c, rfl, h3, Kd.C_of_reads (d := 0) ⟨rfl, by unfold maxLen at h4; omega, fun _ => ⟨_, rfl, fun j hj => ?_⟩⟩⟩
    rw [add_plain, blk_cell h2, h6 j hj]
theorem OB_reads' {A : Option Addr} {n c : Nat} (h : OB w base (.slice A n c) l) : n = l.length ∧ n ≤ c ∧ Kd.C (Kd.int .u8) w A l.length l := by
  obtain ⟨A', c', e, h1, h2⟩ := OB_reads h
  injection e with e1 e2 e3
  subst e1 e2 e3
  exact ⟨rfl, h1, h2⟩
theorem OB_readsn {A : Option Addr} {n c : Nat} (h : OB w base (.slice A n c) l) : Kd.C (Kd.int .u8) w A n l := by
  have h2 := OB_reads' h
  rw [h2.1]
  exact h2.2.2
theorem OB_nil (w : World) (base : Nat) : OB w base (.slice none 0 0) [] := .inl ⟨rfl, rfl⟩
theorem OB_of_R {ok : Nat → Prop} (h : Kd.R (Kd.int .u8) 5 w base ok v l) : OB w base v l := by
  obtain ⟨A, c, rfl, hc, hC⟩ := Kd.R_reads h
  obtain ⟨h0, inner, ⟨hl, hv⟩, hr⟩ := h
  rcases hv with ⟨e, hn⟩ | ⟨g, cap, cur, e, hb, hh, hnc, hcm, hcs, hin⟩
  · rw [e]
    exact .inl ⟨rfl, List.eq_nil_of_length_eq_zero hn⟩
  · injection e with e1 _ e3
    subst e1 e3
    refine .inr ⟨g, c, cur, (0, 0), rfl, hb, hh, hc, hcm, .inr rfl, fun i hi => ?_⟩
    obtain ⟨ad, e, hx⟩ := at1 hC 0 i hi
    cases e
    rw [add_plain, blk_cell hh] at hx
    exact hx
/-- A store into a row. -/
theorem OB_put {g n c : Nat} (h : OB w base (.slice (some ⟨g, 0, none⟩) n c) l) (i : Nat) (hi : i < n) (z : Int) : OB (w.setCell ⟨g, i, none⟩ (.int .u8 z)) base (.slice (some ⟨g, 0, none⟩) n c) (l.set i z) := by
  rcases h with ⟨e, _⟩ | ⟨g', c', cur, fr, e, hb, hh, h3, h4, h5, h6⟩
  · cases e
  · injection e with e1 e2 e3
    injection e1 with e1
    injection e1 with e1
    subst e1 e2 e3
    refine .inr ⟨g, c, cur.setIfInBounds i (.int .u8 z), fr, by rw [List.length_set], hb, blk_set hh rfl, by rw [List.length_set]; exact h3, h4, by rw [List.length_set]; exact h5, fun j hj => ?_⟩
    rw [List.length_set] at hj
    have hlt : j < cur.size := (Array.getElem?_eq_some_iff.1 (h6 j hj)).1
    by_cases hij : i = j
    · subst hij
      rw [Array.getElem?_setIfInBounds_self_of_lt hlt]
      simp [List.getD_eq_getElem?_getD, hj]
    · rw [Array.getElem?_setIfInBounds_ne hij, h6 j hj]
      simp [List.getD_eq_getElem?_getD, List.getElem?_set_ne hij]
theorem OB_cell {g n c : Nat} (h : OB w base (.slice (some ⟨g, 0, none⟩) n c) l) (i : Nat) (hi : i < n) : w.cell? ⟨g, i, none⟩ = some (.int .u8 (l.getD i 0)) ∧ w.frozen? ⟨g, i, none⟩ = false ∧ g < w.heap.size := by
  rcases h with ⟨e, _⟩ | ⟨g', c', cur, fr, e, hb, hh, h3, h4, h5, h6⟩
  · cases e
  · injection e with e1 e2 e3
    injection e1 with e1
    injection e1 with e1
    subst e1 e2 e3
    refine ⟨(blk_cell hh i).trans (h6 i hi), ?_, blk_lt hh⟩
    simp only [World.frozen?, hh]
    rcases h5 with h5 | h5
    · simp; omega
    · simp; omega
end
/-! the bytes of a string -/
def byC (w : World) (s : ByteArray) : Nat := grownCap w s.size 0 5
def byW (w : World) (s : ByteArray) : World := w.drew.alloc (.cells (bytesRow s (byC w s)) 5 ((bytesRow s (byC w s)).size, (bytesRow s (byC w s)).size + 1))
theorem by_run (w : World) (s : ByteArray) : (convert 9 22 (.string s)).run Tryd.prog w = .ok (.slice (some ⟨w.heap.size, 0, none⟩) s.size (byC w s)) (byW w s) :=
  run_bytes_of_string w _ _ _ s Tryd.underlying9 Tryd.underlying22 Tryd.underlying5
theorem byW_size (w : World) (s : ByteArray) : (byW w s).heap.size = w.heap.size + 1 := by unfold byW; rw [size_alloc]; rfl
theorem byW_below (w : World) (s : ByteArray) : Below w.heap.size w (byW w s) := below_alloc (below_drew (Below.refl _ _)) _
theorem bytesOf_len' (s : ByteArray) : (bytesOf s).length = s.size := by unfold bytesOf; rw [List.length_map]; rfl
theorem byW_OB (w : World) (s : ByteArray) (hm : s.size ≤ maxLen) : OB (byW w s) w.heap.size (.slice (some ⟨w.heap.size, 0, none⟩) s.size (byC w s)) (bytesOf s) := by
  have hb : (byW w s).heap[w.heap.size]? = some (.cells (bytesRow s (byC w s)) 5 ((bytesRow s (byC w s)).size, (bytesRow s (byC w s)).size + 1)) := blk_new' (W := w.drew) _ rfl
  refine .inr ⟨w.heap.size, byC w s, _, _, by rw [bytesOf_len'], Nat.le_refl _, hb, by rw [bytesOf_len']; exact grownCap_ge _ _ _ _, grownCap_le_maxLen _ _ _ _ hm, .inl ?_, fun i hi => ?_⟩
  · rw [bytesOf_len']
    unfold bytesRow
    rw [Array.size_append, Array.size_map]
    show s.size ≤ s.data.size + _
    exact Nat.le_add_right _ _
  · rw [bytesOf_len'] at hi
    rw [bytesRow_at s _ i (by exact hi)]
    unfold bytesOf
    have hi' : i < s.data.size := hi
    rw [List.getD_eq_getElem?_getD, List.getElem?_map, Array.getElem?_toList, Array.getElem?_eq_getElem hi']
    rfl
end Go.Proofs.YtpfponhaofdbaaaDoor.M
