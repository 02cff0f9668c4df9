import Derived.Test.YtpfponhaofdbaaaF3
set_option linter.unusedVariables false
set_option linter.unusedSimpArgs false
namespace Go.Proofs.Ytpfponhaofdbaaa.M
open Go.RowKit Go.Proofs.YtpfponhaofdbaaaW.PrintWords

set_option maxRecDepth 100000 in
set_option maxHeartbeats 1000000 in
theorem l13Put_c (g a b c d base : Nat) (s : TS) (z : Int) (w : World) (h : TAt w g a b c d base s) (hi : TI s) :
    Calls Try.prog 135 #[.pointer (some ⟨g, 0, none⟩), .int .i64 z] w fun e w' => (∃ v, e = .returned v) ∧ TAt w' g a b c d base (putP s z) ∧ TKeep w w' g a b := by
  obtain ⟨wi, ro, y, x, hi0, ch, hs⟩ := s
  obtain ⟨n1, n2, n3⟩ := h.ne
  obtain ⟨k1, k2, k3, k4⟩ := hi.at
  have w1 := hi.w1
  have w2 := hi.w2
  have x1 := hi.x1
  have x2 := hi.x2
  have y1 := hi.y1
  have y2 : y < 13 := by have := hi.y2; have := hi.r2; dsimp only at *; omega
  have lh := hi.lh
  dsimp only at k1 k2 k3 k4 w1 w2 x1 x2 y1 lh
  obtain ⟨m, rfl⟩ := Int.eq_ofNat_of_zero_le (show 0 ≤ wi by omega)
  obtain ⟨q, rfl⟩ := Int.eq_ofNat_of_zero_le x1
  obtain ⟨p, hp⟩ := Int.eq_ofNat_of_zero_le k1
  have hp1 : (y + 1) * (m : Int) = (p : Int) + m := by rw [Int.add_mul, hp]; omega
  have lh1 : ch.length ≤ hs.length := by omega
  have rd0 := blk_cell h.1
  have fr0 := blk_free h.1
  have HT := Aside0.mk h
  dsimp only at rd0
  have ga : ∀ (W : World) (n : Nat) (v : Value) (i : Nat), (W.setCell ⟨a, n, none⟩ v).cell? ⟨g, i, none⟩ = W.cell? ⟨g, i, none⟩ := fun W n v i => World.cell?_setCell_far _ _ _ _ (by dsimp only; omega)
  have gb : ∀ (W : World) (n : Nat) (v : Value) (i : Nat), (W.setCell ⟨b, n, none⟩ v).cell? ⟨g, i, none⟩ = W.cell? ⟨g, i, none⟩ := fun W n v i => World.cell?_setCell_far _ _ _ _ (by dsimp only; omega)
  have ab : ∀ (W : World) (n : Nat) (v : Value) (i : Nat), (W.setCell ⟨a, n, none⟩ v).cell? ⟨b, i, none⟩ = W.cell? ⟨b, i, none⟩ := fun W n v i => World.cell?_setCell_far _ _ _ _ (by dsimp only; omega)
  have ba : ∀ (W : World) (n : Nat) (v : Value) (i : Nat), (W.setCell ⟨b, n, none⟩ v).cell? ⟨a, i, none⟩ = W.cell? ⟨a, i, none⟩ := fun W n v i => World.cell?_setCell_far _ _ _ _ (by dsimp only; omega)
  by_cases hx : (q : Int) = m
  · have HQ := Aside0.mk (putP_full m ro y q hi0 ch hs z hx)
    have bx : decide ((q : Int) ≥ (m : Int)) = true := decide_eq_true (by omega)
    have bx2 : m ≤ q := by omega
    clear hx h hi lh
    go_enter Try.func135, Try.ntmps135
    go_wp2
    go_quiet (fail)
    go_wp2
    refine bodyPost_ret (results_none rfl _ _ _) rfl ⟨⟨_, rfl⟩, ?_, ?_⟩
    · rw [HQ.out]; exact HT.out.drewN _
    · exact (TKeep.refl _ _ _ _).drewN _
  · have HQ := Aside0.mk (putP_put m ro y q hi0 ch hs z hx (p + q) (by omega))
    have bx : decide ((q : Int) ≥ (m : Int)) = false := decide_eq_false (by omega)
    have hlt : q < m := by omega
    obtain ⟨hc1, hf1⟩ := h.ch (p + q) (by show p + q < ch.length; omega)
    obtain ⟨hc2, hf2⟩ := h.hs (p + q) (by show p + q < hs.length; omega)
    have lc1 : (p : Int) + q < ch.length := by omega
    have lc2 : (p : Int) + q < hs.length := by omega
    dsimp only at hc1 hc2
    have T1 := Aside0.mk (fun W (h : TAt W g a b c d base ⟨m, ro, y, q, hi0, ch, hs⟩) => (show TAt (((W.setCell ⟨a, p + q, none⟩ (.int .i64 z)).drew).setCell ⟨b, p + q, none⟩ (.bool hi0)) g a b c d base ⟨m, ro, y, q, hi0, ch.set (p + q) z, hs.set (p + q) hi0⟩ from (h.setCh (p + q) z).drew.setHs (p + q) hi0))
    have T3 := Aside0.mk (fun W (h : TAt W g a b c d base ⟨m, ro, y, q, hi0, ch.set (p + q) z, hs.set (p + q) hi0⟩) => (show TAt (W.setCell ⟨g, 3, none⟩ (.int .i64 ((q : Int) + 1))) g a b c d base ⟨m, ro, y, (q : Int) + 1, hi0, ch.set (p + q) z, hs.set (p + q) hi0⟩ from h.setBox 3 _ _ rfl rfl rfl))
    have e0 : IntKind.i64.wrap (p : Int) = p := by rw [IntKind.wrap_i64]; omega
    have e1 : IntKind.i64.wrap ((p : Int) + q) = (p : Int) + q := by rw [IntKind.wrap_i64]; omega
    have e2 : ((p : Int) + q).toNat = p + q := by omega
    have l0 : (0 : Int) ≤ (p : Int) + q := by omega
    clear hx h hi lh
    go_enter Try.func135, Try.ntmps135
    go_wp2
    go_quiet (fail)
    go_wp2
    go_quiet (fail)
    go_wp2
    go_region_held3 (fun W : World => (∀ i, W.cell? ⟨g, i, none⟩ = (#[.int .i64 m, .int .i64 ro, .int .i64 y, .int .i64 q, .bool hi0, .slice (some ⟨a, 0, none⟩) ch.length c, .slice (some ⟨b, 0, none⟩) hs.length d] : Array Value)[i]?)) (first | ((repeat' apply And.intro) <;> (intro i; (repeat (first | (with_reducible refine (cell_drew _ _).trans ?_) | (with_reducible refine (cell_drewN _ _ _).trans ?_) | refine (World.cell?_setCell_far _ _ _ _ (by dsimp only; omega)).trans ?_ | refine (World.cell?_alloc_lt _ _ _ (by dsimp only; (try simp only [size_alloc, size_drew, size_drewN, size_setCell]); omega)).trans ?_)); first | (with_reducible exact rd0 i))) | go_keep) (fail)
    all_goals
      go_wp2
      go_end0
      refine ⟨⟨_, rfl⟩, ?_, ?_⟩
      · rw [HQ.out]
        refine T3.out _ ?_
        refine T1.out _ ?_
        exact HT.out.drewN _
      · repeat (with_reducible first | exact TKeep.refl _ _ _ _ | refine TKeep.setG ?_ _ _ | refine TKeep.setA ?_ _ _ | refine TKeep.setB ?_ _ _ | refine TKeep.drewN ?_ _ | refine TKeep.drew ?_)

set_option maxRecDepth 100000 in
set_option maxHeartbeats 1000000 in
theorem clear_c (g a b c d base : Nat) (s : TS) (w : World) (h : TAt w g a b c d base s) (hi : TI s) :
    Calls Try.prog 151 #[.pointer (some ⟨g, 0, none⟩)] w fun e w' => (∃ v, e = .returned v) ∧ TAt w' g a b c d base (eraseP s) ∧ TKeep w w' g a b := by
  obtain ⟨wi, ro, y, x, hi0, ch, hs⟩ := s
  obtain ⟨n1, n2, n3⟩ := h.ne
  obtain ⟨k1, k2, k3, k4⟩ := hi.at
  have w1 := hi.w1
  have w2 := hi.w2
  have x1 := hi.x1
  have x2 := hi.x2
  have y1 := hi.y1
  have y2 : y < 13 := by have := hi.y2; have := hi.r2; dsimp only at *; omega
  have lh := hi.lh
  dsimp only at k1 k2 k3 k4 w1 w2 x1 x2 y1 lh
  obtain ⟨m, rfl⟩ := Int.eq_ofNat_of_zero_le (show 0 ≤ wi by omega)
  obtain ⟨q, rfl⟩ := Int.eq_ofNat_of_zero_le x1
  obtain ⟨p, hp⟩ := Int.eq_ofNat_of_zero_le k1
  have hp1 : (y + 1) * (m : Int) = (p : Int) + m := by rw [Int.add_mul, hp]; omega
  have lh1 : ch.length ≤ hs.length := by omega
  have rd0 := blk_cell h.1
  have fr0 := blk_free h.1
  have HT := Aside0.mk h
  dsimp only at rd0
  have ga : ∀ (W : World) (n : Nat) (v : Value) (i : Nat), (W.setCell ⟨a, n, none⟩ v).cell? ⟨g, i, none⟩ = W.cell? ⟨g, i, none⟩ := fun W n v i => World.cell?_setCell_far _ _ _ _ (by dsimp only; omega)
  have gb : ∀ (W : World) (n : Nat) (v : Value) (i : Nat), (W.setCell ⟨b, n, none⟩ v).cell? ⟨g, i, none⟩ = W.cell? ⟨g, i, none⟩ := fun W n v i => World.cell?_setCell_far _ _ _ _ (by dsimp only; omega)
  have ab : ∀ (W : World) (n : Nat) (v : Value) (i : Nat), (W.setCell ⟨a, n, none⟩ v).cell? ⟨b, i, none⟩ = W.cell? ⟨b, i, none⟩ := fun W n v i => World.cell?_setCell_far _ _ _ _ (by dsimp only; omega)
  have ba : ∀ (W : World) (n : Nat) (v : Value) (i : Nat), (W.setCell ⟨b, n, none⟩ v).cell? ⟨a, i, none⟩ = W.cell? ⟨a, i, none⟩ := fun W n v i => World.cell?_setCell_far _ _ _ _ (by dsimp only; omega)
  have e0 : IntKind.i64.wrap (p : Int) = p := by rw [IntKind.wrap_i64]; omega
  have e1 : IntKind.i64.wrap ((p : Int) + q) = (p : Int) + q := by rw [IntKind.wrap_i64]; omega
  have e3 : IntKind.i64.wrap (y + 1) = y + 1 := by rw [IntKind.wrap_i64]; omega
  have e4 : IntKind.i64.wrap ((p : Int) + m) = (p : Int) + m := by rw [IntKind.wrap_i64]; omega
  have HQ := Aside0.mk (show eraseP ⟨m, ro, y, q, hi0, ch, hs⟩ = ⟨m, ro, y, q, hi0, setN ch (p + q) 32 (m - q), setN hs (p + q) false (m - q)⟩ by
    unfold eraseP atP
    simp only [hp]
    rw [show ((p : Int) + q).toNat = p + q by omega, show ((m : Int) - q).toNat = m - q by omega])
  clear h hi lh
  go_enter Try.func151, Try.ntmps151
  go_wp2
  go_quiet (fail)
  go_wp2
  go_loopw [2] (fun i wr => ∃ k : Nat, k ≤ m - q ∧ i = .int .i64 ((p + q + k : Nat) : Int) ∧ Aside0 (TAt wr g a b c d base ⟨m, ro, y, q, hi0, setN ch (p + q) 32 k, setN hs (p + q) false k⟩) ∧ Aside0 (TKeep w wr g a b)) (fun i _ => p + q + m - (intOf i).toNat)
  case atStart => exact ⟨0, Nat.zero_le _, by first | rfl | (simp; done), ⟨by first | exact HT.out | exact HT.out.drewN _⟩, ⟨by first | exact TKeep.refl _ _ _ _ | exact (TKeep.refl _ _ _ _).drewN _⟩⟩
  case round =>
    obtain ⟨k, hk, rfl, HTk, HKk⟩ := hrel
    have rdk := blk_cell HTk.out.1
    have frk := blk_free HTk.out.1
    simp only [setN_length] at rdk
    clear rd0 fr0
    by_cases hlt : k < m - q
    · obtain ⟨hc1, hf1⟩ := HTk.out.ch (p + q + k) (by show p + q + k < (setN ch (p + q) 32 k).length; rw [setN_length]; omega)
      obtain ⟨hc2, hf2⟩ := HTk.out.hs (p + q + k) (by show p + q + k < (setN hs (p + q) false k).length; rw [setN_length]; omega)
      dsimp only at hc1 hc2
      generalize (setN ch (p + q) 32 k).getD (p + q + k) 0 = z1 at hc1
      generalize (setN hs (p + q) false k).getD (p + q + k) false = z2 at hc2
      have lc1 : ((p + q + k : Nat) : Int) < ch.length := by omega
      have lc2 : ((p + q + k : Nat) : Int) < hs.length := by omega
      have l0 : (0 : Int) ≤ ((p + q + k : Nat) : Int) := by omega
      have T1 := Aside0.mk (fun W (h : TAt W g a b c d base ⟨m, ro, y, q, hi0, setN ch (p + q) 32 k, setN hs (p + q) false k⟩) => (show TAt ((W.setCell ⟨a, p + q + k, none⟩ (.int .i64 32)).setCell ⟨b, p + q + k, none⟩ (.bool false)) g a b c d base ⟨m, ro, y, q, hi0, setN ch (p + q) 32 (k + 1), setN hs (p + q) false (k + 1)⟩ from (h.setCh (p + q + k) 32).setHs (p + q + k) false))
      have T2 := Aside0.mk (fun W (h : TAt W g a b c d base ⟨m, ro, y, q, hi0, setN ch (p + q) 32 k, setN hs (p + q) false k⟩) => (show TAt ((W.setCell ⟨b, p + q + k, none⟩ (.bool false)).setCell ⟨a, p + q + k, none⟩ (.int .i64 32)) g a b c d base ⟨m, ro, y, q, hi0, setN ch (p + q) 32 (k + 1), setN hs (p + q) false (k + 1)⟩ from (h.setHs (p + q + k) false).setCh (p + q + k) 32))
      have ht : ((p + q + k : Nat) : Int) < (p : Int) + m := by omega
      generalize hn : p + q + k = n at *
      have HN := Aside0.mk hn
      clear hn
      go_wp2
      go_quiet (fail)
      go_wp2
      go_region_held3 (fun W : World => (∀ i, W.cell? ⟨g, i, none⟩ = (#[.int .i64 m, .int .i64 ro, .int .i64 y, .int .i64 q, .bool hi0, .slice (some ⟨a, 0, none⟩) ch.length c, .slice (some ⟨b, 0, none⟩) hs.length d] : Array Value)[i]?)) (first | ((repeat' apply And.intro) <;> (intro i; (repeat (first | (with_reducible refine (cell_drew _ _).trans ?_) | (with_reducible refine (cell_drewN _ _ _).trans ?_) | refine (World.cell?_setCell_far _ _ _ _ (by dsimp only; omega)).trans ?_ | refine (World.cell?_alloc_lt _ _ _ (by dsimp only; (try simp only [size_alloc, size_drew, size_drewN, size_setCell]); omega)).trans ?_)); first | (with_reducible exact rdk i))) | go_keep) (fail)
      all_goals
        go_wp2
        go_roundw
        case rel => exact ⟨k + 1, by omega, by rw [show p + q + (k + 1) = n + 1 from by rw [← HN.out]; omega]; go_num, ⟨by first | (refine T1.out _ ?_; repeat (first | exact HTk.out | refine TAt.drewN ?_ _)) | (refine T2.out _ ?_; repeat (first | exact HTk.out | refine TAt.drewN ?_ _))⟩, ⟨by repeat (with_reducible first | exact HKk.out | refine TKeep.setA ?_ _ _ | refine TKeep.setB ?_ _ _ | refine TKeep.drewN ?_ _ | refine TKeep.drew ?_)⟩⟩
        case measure => simp [intOf]; omega
    · obtain rfl : k = m - q := by omega
      generalize hn : p + q + (m - q) = n at *
      have ht : ¬ ((n : Int) < (p : Int) + m) := by omega
      clear hn
      go_wp2
      go_quiet (fail)
      go_wp2
      go_end0
      exact ⟨⟨_, rfl⟩, by rw [HQ.out]; exact HTk.out.drewN _, HKk.out.drewN _⟩

set_option maxRecDepth 100000 in
set_option maxHeartbeats 1000000 in
theorem l13Erase_c (g a b c d base : Nat) (s : TS) (w : World) (h : TAt w g a b c d base s) (hi : TI s) :
    Calls Try.prog 147 #[.pointer (some ⟨g, 0, none⟩)] w fun e w' => (∃ v, e = .returned v) ∧ TAt w' g a b c d base (eraseP s) ∧ TKeep w w' g a b := by
  obtain ⟨wi, ro, y, x, hi0, ch, hs⟩ := s
  obtain ⟨n1, n2, n3⟩ := h.ne
  obtain ⟨k1, k2, k3, k4⟩ := hi.at
  have w1 := hi.w1
  have w2 := hi.w2
  have x1 := hi.x1
  have x2 := hi.x2
  have y1 := hi.y1
  have y2 : y < 13 := by have := hi.y2; have := hi.r2; dsimp only at *; omega
  have lh := hi.lh
  dsimp only at k1 k2 k3 k4 w1 w2 x1 x2 y1 lh
  obtain ⟨m, rfl⟩ := Int.eq_ofNat_of_zero_le (show 0 ≤ wi by omega)
  obtain ⟨q, rfl⟩ := Int.eq_ofNat_of_zero_le x1
  obtain ⟨p, hp⟩ := Int.eq_ofNat_of_zero_le k1
  have hp1 : (y + 1) * (m : Int) = (p : Int) + m := by rw [Int.add_mul, hp]; omega
  have lh1 : ch.length ≤ hs.length := by omega
  have rd0 := blk_cell h.1
  have fr0 := blk_free h.1
  have HT := Aside0.mk h
  dsimp only at rd0
  have ga : ∀ (W : World) (n : Nat) (v : Value) (i : Nat), (W.setCell ⟨a, n, none⟩ v).cell? ⟨g, i, none⟩ = W.cell? ⟨g, i, none⟩ := fun W n v i => World.cell?_setCell_far _ _ _ _ (by dsimp only; omega)
  have gb : ∀ (W : World) (n : Nat) (v : Value) (i : Nat), (W.setCell ⟨b, n, none⟩ v).cell? ⟨g, i, none⟩ = W.cell? ⟨g, i, none⟩ := fun W n v i => World.cell?_setCell_far _ _ _ _ (by dsimp only; omega)
  have ab : ∀ (W : World) (n : Nat) (v : Value) (i : Nat), (W.setCell ⟨a, n, none⟩ v).cell? ⟨b, i, none⟩ = W.cell? ⟨b, i, none⟩ := fun W n v i => World.cell?_setCell_far _ _ _ _ (by dsimp only; omega)
  have ba : ∀ (W : World) (n : Nat) (v : Value) (i : Nat), (W.setCell ⟨b, n, none⟩ v).cell? ⟨a, i, none⟩ = W.cell? ⟨a, i, none⟩ := fun W n v i => World.cell?_setCell_far _ _ _ _ (by dsimp only; omega)
  have e0 : IntKind.i64.wrap (p : Int) = p := by rw [IntKind.wrap_i64]; omega
  have e1 : IntKind.i64.wrap ((p : Int) + q) = (p : Int) + q := by rw [IntKind.wrap_i64]; omega
  have e3 : IntKind.i64.wrap (y + 1) = y + 1 := by rw [IntKind.wrap_i64]; omega
  have e4 : IntKind.i64.wrap ((p : Int) + m) = (p : Int) + m := by rw [IntKind.wrap_i64]; omega
  have HQ := Aside0.mk (show eraseP ⟨m, ro, y, q, hi0, ch, hs⟩ = ⟨m, ro, y, q, hi0, setN ch (p + q) 32 (m - q), setN hs (p + q) false (m - q)⟩ by
    unfold eraseP atP
    simp only [hp]
    rw [show ((p : Int) + q).toNat = p + q by omega, show ((m : Int) - q).toNat = m - q by omega])
  clear h hi lh
  go_enter Try.func147, Try.ntmps147
  go_wp2
  go_loopw [2] (fun i wr => ∃ k : Nat, k ≤ m - q ∧ i = .int .i64 ((q + k : Nat) : Int) ∧ Aside0 (TAt wr g a b c d base ⟨m, ro, y, q, hi0, setN ch (p + q) 32 k, setN hs (p + q) false k⟩) ∧ Aside0 (TKeep w wr g a b)) (fun i _ => q + m - (intOf i).toNat)
  case atStart => exact ⟨0, Nat.zero_le _, by first | rfl | (simp; done), ⟨by first | exact HT.out | exact HT.out.drewN _⟩, ⟨by first | exact TKeep.refl _ _ _ _ | exact (TKeep.refl _ _ _ _).drewN _⟩⟩
  case round =>
    obtain ⟨k, hk, rfl, HTk, HKk⟩ := hrel
    have rdk := blk_cell HTk.out.1
    have frk := blk_free HTk.out.1
    simp only [setN_length] at rdk
    clear rd0 fr0
    by_cases hlt : k < m - q
    · obtain ⟨hc1, hf1⟩ := HTk.out.ch (p + q + k) (by show p + q + k < (setN ch (p + q) 32 k).length; rw [setN_length]; omega)
      obtain ⟨hc2, hf2⟩ := HTk.out.hs (p + q + k) (by show p + q + k < (setN hs (p + q) false k).length; rw [setN_length]; omega)
      dsimp only at hc1 hc2
      generalize (setN ch (p + q) 32 k).getD (p + q + k) 0 = z1 at hc1
      generalize (setN hs (p + q) false k).getD (p + q + k) false = z2 at hc2
      have lc1 : ((p + q + k : Nat) : Int) < ch.length := by omega
      have lc2 : ((p + q + k : Nat) : Int) < hs.length := by omega
      have l0 : (0 : Int) ≤ ((p + q + k : Nat) : Int) := by omega
      have T1 := Aside0.mk (fun W (h : TAt W g a b c d base ⟨m, ro, y, q, hi0, setN ch (p + q) 32 k, setN hs (p + q) false k⟩) => (show TAt (((W.setCell ⟨a, p + q + k, none⟩ (.int .i64 32)).drew).setCell ⟨b, p + q + k, none⟩ (.bool false)) g a b c d base ⟨m, ro, y, q, hi0, setN ch (p + q) 32 (k + 1), setN hs (p + q) false (k + 1)⟩ from (h.setCh (p + q + k) 32).drew.setHs (p + q + k) false))
      have T2 := Aside0.mk (fun W (h : TAt W g a b c d base ⟨m, ro, y, q, hi0, setN ch (p + q) 32 k, setN hs (p + q) false k⟩) => (show TAt ((W.setCell ⟨b, p + q + k, none⟩ (.bool false)).setCell ⟨a, p + q + k, none⟩ (.int .i64 32)) g a b c d base ⟨m, ro, y, q, hi0, setN ch (p + q) 32 (k + 1), setN hs (p + q) false (k + 1)⟩ from (h.setHs (p + q + k) false).setCh (p + q + k) 32))
      have e5 : IntKind.i64.wrap ((p : Int) + ((q + k : Nat) : Int)) = ((p + q + k : Nat) : Int) := by rw [IntKind.wrap_i64]; omega
      have hkm : q + k < m := by omega
      generalize hn : p + q + k = n at *
      generalize hj : q + k = j at *
      have HN := Aside0.mk hn
      have HJ := Aside0.mk hj
      clear hn hj
      go_wp2
      go_region_held3 (fun W : World => (∀ i, W.cell? ⟨g, i, none⟩ = (#[.int .i64 m, .int .i64 ro, .int .i64 y, .int .i64 q, .bool hi0, .slice (some ⟨a, 0, none⟩) ch.length c, .slice (some ⟨b, 0, none⟩) hs.length d] : Array Value)[i]?)) (first | ((repeat' apply And.intro) <;> (intro i; (repeat (first | (with_reducible refine (cell_drew _ _).trans ?_) | (with_reducible refine (cell_drewN _ _ _).trans ?_) | refine (World.cell?_setCell_far _ _ _ _ (by dsimp only; omega)).trans ?_ | refine (World.cell?_alloc_lt _ _ _ (by dsimp only; (try simp only [size_alloc, size_drew, size_drewN, size_setCell]); omega)).trans ?_)); first | (with_reducible exact rdk i))) | go_keep) (fail)
      go_wp2
      go_region_held3 (fun W : World => (∀ i, W.cell? ⟨g, i, none⟩ = (#[.int .i64 m, .int .i64 ro, .int .i64 y, .int .i64 q, .bool hi0, .slice (some ⟨a, 0, none⟩) ch.length c, .slice (some ⟨b, 0, none⟩) hs.length d] : Array Value)[i]?)) (first | ((repeat' apply And.intro) <;> (intro i; (repeat (first | (with_reducible refine (cell_drew _ _).trans ?_) | (with_reducible refine (cell_drewN _ _ _).trans ?_) | refine (World.cell?_setCell_far _ _ _ _ (by dsimp only; omega)).trans ?_ | refine (World.cell?_alloc_lt _ _ _ (by dsimp only; (try simp only [size_alloc, size_drew, size_drewN, size_setCell]); omega)).trans ?_)); first | (with_reducible exact rdk i))) | go_keep) (fail)
      all_goals
        go_wp2
        go_roundw
        case rel => exact ⟨k + 1, by omega, by rw [show q + (k + 1) = j + 1 from by rw [← HJ.out]; omega]; go_num, ⟨by first | (refine T1.out _ ?_; repeat (first | exact HTk.out | refine TAt.drewN ?_ _)) | (refine T2.out _ ?_; repeat (first | exact HTk.out | refine TAt.drewN ?_ _))⟩, ⟨by repeat (with_reducible first | exact HKk.out | refine TKeep.setA ?_ _ _ | refine TKeep.setB ?_ _ _ | refine TKeep.drewN ?_ _ | refine TKeep.drew ?_)⟩⟩
        case measure => simp [intOf]; omega
    · obtain rfl : k = m - q := by omega
      have hkm : m ≤ q + (m - q) := by omega
      go_wp2
      go_end0
      exact ⟨⟨_, rfl⟩, by rw [HQ.out]; exact HTk.out, HKk.out⟩
end Go.Proofs.Ytpfponhaofdbaaa.M
