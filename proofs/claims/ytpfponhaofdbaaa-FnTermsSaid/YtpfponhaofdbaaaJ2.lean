import Derived.Test.YtpfponhaofdbaaaJ1
import Derived.Test.YtpfponhaofdbaaaF7
import Derived.Laws.IdiomStrings
set_option linter.unusedVariables false
set_option linter.unusedSimpArgs false
namespace Go.Proofs.Ytpfponhaofdbaaa.M
open Go.RowKit Go.Proofs.YtpfponhaofdbaaaW.PrintWords

/-! the bytes of a string -/
def bCap (w : World) (s : ByteArray) : Nat := grownCap w s.size 0 5
def bWorld (w : World) (s : ByteArray) : World := w.drew.alloc (.cells (bytesRow s (bCap w s)) 5 ((bytesRow s (bCap w s)).size, (bytesRow s (bCap w s)).size + 1))
theorem bytes_run (w : World) (s : ByteArray) : (convert 9 36 (.string s)).run Try.prog w = .ok (.slice (some ⟨w.heap.size, 0, none⟩) s.size (bCap w s)) (bWorld w s) :=
  run_bytes_of_string w _ _ _ s Try.underlying9 Try.underlying36 Try.underlying5
theorem bWorld_size (w : World) (s : ByteArray) : (bWorld w s).heap.size = w.heap.size + 1 := by unfold bWorld; rw [size_alloc]; rfl
theorem bWorld_below (w : World) (s : ByteArray) : Below w.heap.size w (bWorld w s) := below_alloc (below_drew (Below.refl _ _)) _
theorem bytesOf_len (s : ByteArray) : (bytesOf s).length = s.size := by unfold bytesOf; rw [List.length_map]; rfl
theorem bytesOf_bd (s : ByteArray) : ∀ z ∈ bytesOf s, 0 ≤ z ∧ z ≤ 255 := by
  intro z hz
  unfold bytesOf at hz
  obtain ⟨b, _, rfl⟩ := List.mem_map.1 hz
  have := b.toNat_lt
  omega
theorem bWorld_C (w : World) (s : ByteArray) (hm : s.size ≤ 9223372036854775807) : Kd.C (Kd.int .u8) (bWorld w s) (some ⟨w.heap.size, 0, none⟩) s.size (bytesOf s) := by
  have hb : (bWorld w s).heap[w.heap.size]? = some (.cells (bytesRow s (bCap w s)) 5 ((bytesRow s (bCap w s)).size, (bytesRow s (bCap w s)).size + 1)) := blk_new' (W := w.drew) _ rfl
  refine Kd.C_of_reads (d := 0) ⟨(bytesOf_len s).symm ▸ rfl, hm, fun _ => ⟨_, rfl, fun j hj => ?_⟩⟩
  rw [add_plain, blk_cell hb, bytesRow_at s _ j (by exact hj)]
  unfold bytesOf
  simp [List.getD_eq_getElem?_getD, hj]

set_option maxRecDepth 100000 in
set_option maxHeartbeats 400000 in
theorem l1Source_c (A : Option Addr) (c : Nat) (code : List Int) (w : World) (hr : Kd.C (Kd.int .u8) w A code.length code) (hb : ∀ z ∈ code, 0 ≤ z ∧ z ≤ 255) :
    Calls Try.prog 105 #[.slice A code.length c] w fun e w' => ∃ g, e = .returned (.pointer (some ⟨g, 0, none⟩)) ∧ w.heap.size ≤ g ∧ Src w' g A c code 0 ∧ Below w.heap.size w w' := by
  have HR := Aside0.mk hr
  have HB := Aside0.mk hb
  clear hr hb
  go_enter Try.func105, Try.ntmps105
  go_wp2
  go_ret
  exact ⟨w.heap.size, rfl, Nat.le_refl _, ⟨blk_new _, Kd.C_alloc HR.out _, fun ad e hn => by subst e; exact C_ltU HR.out hn, HB.out, Int.le_refl _⟩, below_alloc (Below.refl _ _) _⟩

set_option maxRecDepth 100000 in
set_option maxHeartbeats 400000 in
theorem l1Digit_c (n : Int) (w : World) (h0 : 0 ≤ n) (h1 : n < 10) :
    Calls Try.prog 139 #[.int .i64 n] w fun e w' => ∃ s : ByteArray, e = .returned (.string s) ∧ s.size = 1 ∧ Below w.heap.size w w' := by
  have e1 : IntKind.i64.wrap (48 + n) = 48 + n := by rw [IntKind.wrap_i64]; omega
  have hst : (convert 36 9 (.slice (some ⟨w.heap.size, 0, none⟩) 1 1)).run Try.prog (w.alloc (.cells #[.int .u8 (48 + n)] 5)) = .ok (.string (strOfNums [48 + n])) (w.alloc (.cells #[.int .u8 (48 + n)] 5)) := strU (some ⟨w.heap.size, 0, none⟩) 1 1 [48 + n] (w.alloc (.cells ([48 + n].map (Value.int .u8)).toArray 5)) (C_new (h1 := fun _ => rfl) (enc := Value.int .u8) w 5 [48 + n] (by simp))
  generalize hs : strOfNums [48 + n] = s at hst
  have hsz : s.size = 1 := by rw [← hs]; rfl
  have e2 : IntKind.u8.wrap (48 + n) = 48 + n := by rw [IntKind.wrap_u8]; omega
  clear hs
  go_enter Try.func139, Try.ntmps139
  go_wp2
  go_ret
  exact ⟨s, rfl, hsz, below_alloc (Below.refl _ _) _⟩

set_option maxRecDepth 100000 in
set_option maxHeartbeats 400000 in
theorem l1Pick_c (g : Nat) (A : Option Addr) (c : Nat) (code : List Int) (p : Int) (L : Option Addr) (lc : Nat) (list : List Int) (w : World) (h : Src w g A c code p) (hp : p ≤ 100000) (hl : code.length ≤ 100000000)
    (hr : Kd.C (Kd.int .i64) w L list.length list) (hne : ∀ ad, L = some ad → 0 < list.length → ad.block ≠ g) (h1 : 1 ≤ list.length) (h2 : list.length ≤ 1000) :
    Calls Try.prog 138 #[.pointer (some ⟨g, 0, none⟩), .slice L list.length lc] w fun e w' => ∃ r : Int, e = .returned (.int .i64 r) ∧ r ∈ list ∧ Src w' g A c code (p + 1) ∧ Upd w w' (fun k => k = g) := by
  have H := Aside0.mk h
  have HR := Aside0.mk hr
  have HN := Aside0.mk hne
  clear h hr hne
  go_enter Try.func138, Try.ntmps138
  go_wp2_with fail
  refine Calls.mono (l1Next_c g A c code p list.length w H.out hp (by omega) hl) ?_
  rintro e w1 ⟨r, rfl, r0, r1, hs, hu⟩
  have HS := Aside0.mk hs
  have HU := Aside0.mk hu
  obtain ⟨k, rfl⟩ := Int.eq_ofNat_of_zero_le r0
  have hk : k < list.length := by have := r1 (by omega); omega
  obtain ⟨ad, e, hx⟩ := at1 (C_upd HR.out hu (fun ad e hn e' => HN.out ad e hn e')) 0 k hk
  cases e
  have hm := mem_getD hk
  generalize list.getD k 0 = z at hx hm
  clear hs hu r1 r0
  have hk' : (k : Int) < list.length := by omega
  go_wp2
  go_ret
  exact ⟨z, rfl, hm, HS.out, HU.out⟩
end Go.Proofs.Ytpfponhaofdbaaa.M
