import Derived.Test.YtpfponhaofdbaaaF2
set_option linter.unusedVariables false
set_option linter.unusedSimpArgs false
namespace Go.Proofs.Ytpfponhaofdbaaa.M
open Go.RowKit Go.Proofs.YtpfponhaofdbaaaW.PrintWords

theorem putP_full (wi ro y x : Int) (hi : Bool) (ch : List Int) (hs : List Bool) (z : Int) (h : x = wi) : putP ⟨wi, ro, y, x, hi, ch, hs⟩ z = ⟨wi, ro, y, x, hi, ch, hs⟩ := if_pos h
theorem putP_put (wi ro y x : Int) (hi : Bool) (ch : List Int) (hs : List Bool) (z : Int) (h : ¬ x = wi) (n : Nat) (hn : y * wi + x = n) : putP ⟨wi, ro, y, x, hi, ch, hs⟩ z = ⟨wi, ro, y, x + 1, hi, ch.set n z, hs.set n hi⟩ := by
  unfold putP atP
  rw [if_neg h]
  simp only [hn, Int.toNat_natCast]

set_option maxRecDepth 100000 in
set_option maxHeartbeats 1000000 in
theorem write_c (g a b c d base : Nat) (s : TS) (z : Int) (w : World) (h : TAt w g a b c d base s) (hi : TI s) :
    Calls Try.prog 153 #[.pointer (some ⟨g, 0, none⟩), .int .i64 z] w fun e w' => (∃ v, e = .returned v) ∧ TAt w' g a b c d base (putP s z) ∧ TKeep w w' g a b := by
  obtain ⟨wi, ro, y, x, hi0, ch, hs⟩ := s
  obtain ⟨n1, n2, n3⟩ := h.ne
  obtain ⟨k1, k2, k3, k4⟩ := hi.at
  have w1 := hi.w1
  have w2 := hi.w2
  have x1 := hi.x1
  have x2 := hi.x2
  have lh := hi.lh
  dsimp only at k1 k2 k3 k4 w1 w2 x1 x2 lh
  obtain ⟨q, rfl⟩ := Int.eq_ofNat_of_zero_le x1
  obtain ⟨p, hp⟩ := Int.eq_ofNat_of_zero_le k1
  have rd0 := blk_cell h.1
  have fr0 := blk_free h.1
  have HT := Aside0.mk h
  dsimp only at rd0
  by_cases hx : (q : Int) = wi
  · have HQ := Aside0.mk (putP_full wi ro y q hi0 ch hs z hx)
    have bx : ((q : Int) == wi) = true := by simpa using hx
    clear hx h hi lh
    go_enter Try.func153, Try.ntmps153
    go_wp2
    go_quiet (fail)
    go_wp2
    refine bodyPost_ret (results_none rfl _ _ _) rfl ⟨⟨_, rfl⟩, ?_, ?_⟩
    · rw [HQ.out]; exact HT.out.drewN _
    · exact (TKeep.refl _ _ _ _).drewN _
  · have HQ := Aside0.mk (putP_put wi ro y q hi0 ch hs z hx (p + q) (by omega))
    have bx : ((q : Int) == wi) = false := by simpa using hx
    have hlt : (q : Int) < wi := by omega
    obtain ⟨hc1, hf1⟩ := h.ch (p + q) (by show p + q < ch.length; omega)
    obtain ⟨hc2, hf2⟩ := h.hs (p + q) (by show p + q < hs.length; omega)
    have lc1 : (p : Int) + q < ch.length := by omega
    have lc2 : (p : Int) + q < hs.length := by omega
    dsimp only at hc1 hc2
    have T1 := Aside0.mk (fun W (h : TAt W g a b c d base ⟨wi, ro, y, q, hi0, ch, hs⟩) => (show TAt ((W.setCell ⟨a, p + q, none⟩ (.int .i64 z)).setCell ⟨b, p + q, none⟩ (.bool hi0)) g a b c d base ⟨wi, ro, y, q, hi0, ch.set (p + q) z, hs.set (p + q) hi0⟩ from (h.setCh (p + q) z).setHs (p + q) hi0))
    have T2 := Aside0.mk (fun W (h : TAt W g a b c d base ⟨wi, ro, y, q, hi0, ch, hs⟩) => (show TAt ((W.setCell ⟨b, p + q, none⟩ (.bool hi0)).setCell ⟨a, p + q, none⟩ (.int .i64 z)) g a b c d base ⟨wi, ro, y, q, hi0, ch.set (p + q) z, hs.set (p + q) hi0⟩ from (h.setHs (p + q) hi0).setCh (p + q) z))
    have T3 := Aside0.mk (fun W (h : TAt W g a b c d base ⟨wi, ro, y, q, hi0, ch.set (p + q) z, hs.set (p + q) hi0⟩) => (show TAt (W.setCell ⟨g, 3, none⟩ (.int .i64 ((q : Int) + 1))) g a b c d base ⟨wi, ro, y, (q : Int) + 1, hi0, ch.set (p + q) z, hs.set (p + q) hi0⟩ from h.setBox 3 _ _ rfl rfl rfl))
    have e0 : IntKind.i64.wrap (p : Int) = p := by rw [IntKind.wrap_i64]; omega
    have e1 : IntKind.i64.wrap ((p : Int) + q) = (p : Int) + q := by rw [IntKind.wrap_i64]; omega
    have e2 : ((p : Int) + q).toNat = p + q := by omega
    have l0 : (0 : Int) ≤ (p : Int) + q := by omega
    have ga : ∀ (W : World) (n : Nat) (v : Value) (i : Nat), (W.setCell ⟨a, n, none⟩ v).cell? ⟨g, i, none⟩ = W.cell? ⟨g, i, none⟩ := fun W n v i => World.cell?_setCell_far _ _ _ _ (by dsimp only; omega)
    have gb : ∀ (W : World) (n : Nat) (v : Value) (i : Nat), (W.setCell ⟨b, n, none⟩ v).cell? ⟨g, i, none⟩ = W.cell? ⟨g, i, none⟩ := fun W n v i => World.cell?_setCell_far _ _ _ _ (by dsimp only; omega)
    have ab : ∀ (W : World) (n : Nat) (v : Value) (i : Nat), (W.setCell ⟨a, n, none⟩ v).cell? ⟨b, i, none⟩ = W.cell? ⟨b, i, none⟩ := fun W n v i => World.cell?_setCell_far _ _ _ _ (by dsimp only; omega)
    have ba : ∀ (W : World) (n : Nat) (v : Value) (i : Nat), (W.setCell ⟨b, n, none⟩ v).cell? ⟨a, i, none⟩ = W.cell? ⟨a, i, none⟩ := fun W n v i => World.cell?_setCell_far _ _ _ _ (by dsimp only; omega)
    clear hx h hi lh
    go_enter Try.func153, Try.ntmps153
    go_wp2
    go_quiet (fail)
    go_wp2
    go_quiet (fail)
    go_wp2
    go_region_held3 (fun W : World => (∀ i, W.cell? ⟨g, i, none⟩ = (#[.int .i64 wi, .int .i64 ro, .int .i64 y, .int .i64 q, .bool hi0, .slice (some ⟨a, 0, none⟩) ch.length c, .slice (some ⟨b, 0, none⟩) hs.length d] : Array Value)[i]?)) (first | ((repeat' apply And.intro) <;> (intro i; (repeat (first | (with_reducible refine (cell_drew _ _).trans ?_) | (with_reducible refine (cell_drewN _ _ _).trans ?_) | refine (World.cell?_setCell_far _ _ _ _ (by dsimp only; omega)).trans ?_ | refine (World.cell?_alloc_lt _ _ _ (by dsimp only; (try simp only [size_alloc, size_drew, size_drewN, size_setCell]); omega)).trans ?_)); first | (with_reducible exact rd0 i))) | go_keep) (fail)
    all_goals
      go_wp2
      go_end0
      refine ⟨⟨_, rfl⟩, ?_, ?_⟩
      · rw [HQ.out]
        refine T3.out _ ?_
        first
          | (refine T1.out _ ?_; exact HT.out.drewN _)
          | (refine T2.out _ ?_; exact HT.out.drewN _)
      · repeat (with_reducible first | exact TKeep.refl _ _ _ _ | refine TKeep.setG ?_ _ _ | refine TKeep.setA ?_ _ _ | refine TKeep.setB ?_ _ _ | refine TKeep.drewN ?_ _ | refine TKeep.drew ?_)
end Go.Proofs.Ytpfponhaofdbaaa.M
