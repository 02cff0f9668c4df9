import Derived.Test.YtpfponhaofdbaaaJ3
import Derived.Test.YtpfponhaofdbaaaFA
import Derived.Test.YtpfponhaofdbaaaN
set_option linter.unusedVariables false
set_option linter.unusedSimpArgs false
namespace Go.Proofs.Ytpfponhaofdbaaa.M
open Go.RowKit Go.Proofs.YtpfponhaofdbaaaW.PrintWords

theorem Upd.refl (w : World) (S : Nat → Prop) : Upd w w S := ⟨rfl, rfl, rfl, Nat.le_refl _, fun _ _ _ => rfl⟩
theorem TAt.upd {W W' : World} {g a b c d base : Nat} {s : TS} {S : Nat → Prop} (h : TAt W g a b c d base s) (hu : Upd W W' S) (h1 : ¬ S g) (h2 : ¬ S a) (h3 : ¬ S b) : TAt W' g a b c d base s :=
  ⟨blk_upd h.1 hu h1, R_updI h.2.1 hu (fun k e => by injection e with e; rw [← e]; exact h2), R_updB h.2.2 hu (fun k e => by injection e with e; rw [← e]; exact h3)⟩
theorem upd_keep {w W W' : World} {S : Nat → Prop} {g a b : Nat} (hu : Upd w W S) (hk : TKeep W W' g a b) (h1 : w.heap.size ≤ g) (h2 : w.heap.size ≤ a) (h3 : w.heap.size ≤ b) : Upd w W' S :=
  hu.trans hk (fun _ _ h => h) (fun i hi e => by rcases e with e | e | e <;> omega)
theorem upd_setNew {w W : World} {S : Nat → Prop} {b i : Nat} {v : Value} (hu : Upd w W S) (hb : w.heap.size ≤ b) : Upd w (W.setCell ⟨b, i, none⟩ v) S :=
  hu.trans (upd_set W b i v) (fun _ _ h => h) (fun j hj e => by omega)
theorem upd_alloc {w W : World} {S : Nat → Prop} (hu : Upd w W S) (o : Obj) : Upd w (W.alloc o) S := upd_below hu (below_alloc (Below.refl _ _) o)
theorem upd_trans {w W W' : World} {S : Nat → Prop} (hu : Upd w W S) (hv : Upd W W' S) : Upd w W' S := hu.trans hv (fun _ _ h => h) (fun _ _ h => h)
theorem draw_dims {r k : Int} (r0 : 0 ≤ r) (r1 : r < 3) (hk : k ∈ [(4 : Int), 5, 6]) : ∃ n : Nat, (1 + r) * k = n ∧ n ≤ 18 ∧ 0 < n ∧ 4 ≤ k ∧ k ≤ 6 ∧ TI ⟨k, 1 + r, 0, 0, false, List.replicate n 32, List.replicate n false⟩ := by
  have h : k = 4 ∨ k = 5 ∨ k = 6 := by simpa using hk
  have e : ∃ n : Nat, (1 + r) * k = n ∧ n ≤ 18 ∧ 0 < n := by rcases h with rfl | rfl | rfl <;> first | exact ⟨((1 + r) * 4).toNat, by omega, by omega, by omega⟩ | exact ⟨((1 + r) * 5).toNat, by omega, by omega, by omega⟩ | exact ⟨((1 + r) * 6).toNat, by omega, by omega, by omega⟩
  obtain ⟨n, e1, e2, e3⟩ := e
  exact ⟨n, e1, e2, e3, by omega, by omega, ⟨by show 4 ≤ k; omega, by show k ≤ 40; omega, by show 1 ≤ 1 + r; omega, by show 1 + r ≤ 13; omega, Int.le_refl _, by show 0 < 1 + r; omega, Int.le_refl _, by show 0 ≤ k; omega, by show (((List.replicate n (32 : Int)).length : Nat) : Int) = (1 + r) * k; rw [List.length_replicate, e1], by simp⟩⟩

set_option maxRecDepth 100000 in
set_option maxHeartbeats 1000000 in
theorem l13Draw_c (g : Nat) (A : Option Addr) (c : Nat) (code : List Int) (p : Int) (w : World) (h : Src w g A c code p) (hp : p ≤ 40000) (hl : code.length ≤ 100000000) :
    Calls Try.prog 137 #[.pointer (some ⟨g, 0, none⟩)] w fun e w' => ∃ (a b c' d' : Nat) (s : TS) (q : Int), e = .returned (.agg #[.int .i64 s.wi, .int .i64 s.ro, .int .i64 s.y, .int .i64 s.x, .bool s.hi, .slice (some ⟨a, 0, none⟩) s.ch.length c', .slice (some ⟨b, 0, none⟩) s.hs.length d']) ∧ TI s ∧ Kd.R (Kd.int .i64) 2 w' w.heap.size (fun _ => True) (.slice (some ⟨a, 0, none⟩) s.ch.length c') s.ch ∧ Kd.R Kd.bool 4 w' w.heap.size (fun _ => True) (.slice (some ⟨b, 0, none⟩) s.hs.length d') s.hs ∧ Src w' g A c code q ∧ q ≤ p + 50 ∧ Upd w w' (fun k => k = g) := by
  have gl := src_lt h
  have H := Aside0.mk h
  clear h
  go_enter Try.func137, Try.ntmps137
  go_wp2_with fail
  have hbx := blk_new (W := w) (.cells #[.int .i64 0, .int .i64 0, .int .i64 0, .int .i64 0, .bool false, .slice none 0 0, .slice none 0 0] 47)
  refine Calls.mono (l1Next_c g A c code p 3 _ (H.out.alloc _) (by omega) (by omega) hl) ?_
  rintro e w1 ⟨r, rfl, r0, r1, hs, hu⟩
  have HS1 := Aside0.mk hs
  have HU1 := Aside0.mk (upd_trans (upd_alloc (Upd.refl w (fun k => k = g)) _) hu)
  have HX1 := Aside0.mk (blk_upd hbx hu (fun e => by omega))
  have r1' := r1 (by omega)
  have er : IntKind.i64.wrap (1 + r) = 1 + r := by rw [IntKind.wrap_i64]; omega
  clear hs hu r1 hbx
  go_wp2_with fail
  have gl1 := src_lt HS1.out
  refine Calls.mono (l1Pick_c g A c code (p + 1) (some ⟨w1.heap.size, 0, none⟩) 3 [4, 5, 6] _ (HS1.out.alloc _) (by omega) hl (C_new (h1 := fun _ => rfl) (enc := Value.int .i64) w1 2 [4, 5, 6] (by simp)) (fun ad e _ => by cases e; show w1.heap.size ≠ g; omega) (by simp) (by simp)) ?_
  rintro e w2 ⟨k, rfl, hm, hs, hu⟩
  have HS2 := Aside0.mk hs
  have HU2 := Aside0.mk (upd_trans (upd_alloc HU1.out _) hu)
  have HX2 := Aside0.mk (blk_upd (blk_alloc HX1.out _) hu (fun e => by omega))
  obtain ⟨n, en, n18, n0, k4, k6, hTI⟩ := draw_dims r0 r1' hm
  have HTI := Aside0.mk hTI
  clear hs hu hm hTI
  go_wp2_with fail
  refine Calls.mono (l13New_c (1 + r) k n _ en (by omega)) ?_
  rintro e w3 ⟨A1, c1, B1, d1, rfl, hc1, hR1, hd1, hR2, hb3⟩
  have HS3 := Aside0.mk (HS2.out.below hb3)
  have HU3 := Aside0.mk (upd_below HU2.out hb3)
  have HX3 := Aside0.mk (blk_below HX2.out hb3)
  obtain ⟨a, ca, e1, ha1, ha2, _⟩ := Kd.R_form hR1 (by simpa using n0)
  obtain ⟨b, cb, e2, hb1, hb2, _⟩ := Kd.R_form hR2 (by simpa using n0)
  injection e1 with e1 el1 e1'
  injection e2 with e2 el2 e2'
  clear el1 el2
  subst e1 e2 e1' e2'
  have sz2 := HU2.out.size
  have HTA := Aside0.mk (show TAt (w3.alloc (.cells #[.int .i64 k, .int .i64 (1 + r), .int .i64 0, .int .i64 0, .bool false, .slice (some ⟨a, 0, none⟩) n c1, .slice (some ⟨b, 0, none⟩) n d1] 47)) w3.heap.size a b c1 d1 w2.heap.size ⟨k, 1 + r, 0, 0, false, List.replicate n 32, List.replicate n false⟩ from ⟨by simp only [List.length_replicate]; exact blk_new _, by simp only [List.length_replicate]; exact Kd.R_alloc hR1 _, by simp only [List.length_replicate]; exact Kd.R_alloc hR2 _⟩)
  have gl2 := src_lt HS2.out
  have sz3 := hb3.size
  clear hR1 hR2 hb3 hb1 hb2 ha1 ha2 er r0 r1' en hc1 hd1
  go_wp2_with fail
  refine Calls.mono (l13Data_c g A c code (p + 1 + 1) _ (HS3.out.alloc _) (by omega) hl) ?_
  rintro e w5 ⟨Ad, cd, data, q, rfl, hcd, hRd, hbd, hld, hs, hq, hu⟩
  have HS5 := Aside0.mk hs
  have HU5 := Aside0.mk (upd_trans (upd_alloc HU3.out _) hu)
  have HX5 := Aside0.mk (blk_upd (blk_alloc HX3.out _) hu (fun e => by omega))
  have hab := HTA.out.lt
  have HTA5 := Aside0.mk (HTA.out.upd hu (fun e => by omega) (fun e => by omega) (fun e => by omega))
  have hCd := Aside0.mk (Kd.R_reads' hRd)
  have HBD := Aside0.mk hbd
  have hlow : ∀ ad, Ad = some ad → 0 < data.length → w3.heap.size + 1 ≤ ad.block := fun ad e hn => by
    subst e
    obtain ⟨x, cx, ex, hx1, hx2, _⟩ := Kd.R_form hRd hn
    injection ex with ex
    injection ex with ex
    subst ex
    rw [size_alloc] at hx1
    exact hx1
  have HLOW := Aside0.mk hlow
  have HAB := Aside0.mk hab
  clear hs hu hRd hbd hlow hab
  go_wp2_with fail
  refine Calls.mono (l13Feed_c w3.heap.size a b c1 d1 w2.heap.size _ Ad cd data w5 HTA5.out HTI.out hCd.out.2.2 (by omega) HBD.out (fun ad e hn => by have := HLOW.out ad e hn; have hab := HAB.out; rw [size_alloc] at hab; exact ⟨by omega, by omega, by omega⟩)) ?_
  rintro e w6 ⟨rfl, hk6, s', ht, _, hti⟩
  generalize (feedAll data _).isSome = fs
  have hab := HAB.out
  rw [size_alloc] at hab
  have lx2 := blk_lt HX2.out
  have hx6 := blk_upd HX5.out hk6 (by rintro (h | h | h) <;> omega)
  have rz := blk_cell hx6
  have fz := blk_free hx6
  have rt := blk_cell ht.1
  have HT := Aside0.mk ht
  have HTI' := Aside0.mk hti
  have HU6 := Aside0.mk (upd_keep HU5.out hk6 (by omega) (by omega) (by omega))
  have HS6 := Aside0.mk (HS5.out.upd hk6 (by rintro k (h | h | h) <;> omega))
  have sz6 := hk6.size
  have HQ := Aside0.mk hq
  clear hx6 ht hti hk6 hq hab
  go_wp2
  refine bodyPost_ret (v := .agg #[.int .i64 s'.wi, .int .i64 s'.ro, .int .i64 s'.y, .int .i64 s'.x, .bool s'.hi, .slice (some ⟨a, 0, none⟩) s'.ch.length c1, .slice (some ⟨b, 0, none⟩) s'.hs.length d1]) ?hs rfl ⟨a, b, c1, d1, s', q, rfl, HTI'.out, ?_, ?_, ?_, ?_, ?_⟩
  case hs => simp [results, Try.results137, go_sem, *]
  · refine R_lowI (base := w2.heap.size) _ ?_ (by omega)
    (repeat (with_reducible first | refine R_setI ?_ (by omega)))
    exact HT.out.2.1
  · refine R_lowB (base := w2.heap.size) _ ?_ (by omega)
    (repeat (with_reducible first | refine R_setB ?_ (by omega)))
    exact HT.out.2.2
  · (repeat (with_reducible first | refine Src.set ?_ _ _ _ gl))
    exact HS6.out
  · have := HQ.out; omega
  · (repeat (with_reducible first | refine upd_setNew ?_ (Nat.le_refl _)))
    exact HU6.out

end Go.Proofs.Ytpfponhaofdbaaa.M
