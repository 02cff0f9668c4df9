import Derived.Test.YtpfponhaofdbaaaO
set_option linter.unusedVariables false
set_option linter.unusedSimpArgs false
namespace Go.Proofs.Ytpfponhaofdbaaa.M
open Go.RowKit Go.Proofs.YtpfponhaofdbaaaW.PrintWords Go.ChangeShapes Go.WideShapes Go.Deep

abbrev DTerm := Int × Int × Int × Int × Bool × (List Int) × (List Bool) × Unit
abbrev kTerm : Kd DTerm := (kPair (Kd.int .i64) (kPair (Kd.int .i64) (kPair (Kd.int .i64) (kPair (Kd.int .i64) (kPair Kd.bool (kPair (Kd.slice 2 (Kd.int .i64)) (kPair (Kd.slice 4 Kd.bool) kUnit)))))))
abbrev wTerm : DTerm → Prop := (wPair wI (wPair wI (wPair wI (wPair wI (wPair wT (wPair (wL wI) (wPair (wL wT) wE)))))))
set_option maxRecDepth 100000 in
theorem opens_Term : Opens Try.prog 44 kTerm wTerm := Opens.struct Try.underlying44 (by kernel_rfl) (OpF.cons rfl (Opens.int Try.underlying2 (by kernel_rfl)) (OpF.cons rfl (Opens.int Try.underlying2 (by kernel_rfl)) (OpF.cons rfl (Opens.int Try.underlying2 (by kernel_rfl)) (OpF.cons rfl (Opens.int Try.underlying2 (by kernel_rfl)) (OpF.cons rfl (Opens.bool Try.underlying4 (by kernel_rfl)) (OpF.cons rfl (Opens.slice Try.underlying27 (by kernel_rfl) (Opens.int Try.underlying2 (by kernel_rfl))) (OpF.cons rfl (Opens.slice Try.underlying28 (by kernel_rfl) (Opens.bool Try.underlying4 (by kernel_rfl))) (OpF.nil _))))))))
theorem kTerm_form {w : World} {x : DTerm} {cs : Array Value} (h : kTerm.K w x (Value.agg cs).cells.toList) :
    ∃ A_ch c_ch A_hs c_hs, cs = #[.int .i64 (x.1), .int .i64 (x.2.1), .int .i64 (x.2.2.1), .int .i64 (x.2.2.2.1), .bool (x.2.2.2.2.1), .slice A_ch (x.2.2.2.2.2.1).length c_ch, .slice A_hs (x.2.2.2.2.2.2.1).length c_hs] ∧ (x.2.2.2.2.2.1).length ≤ c_ch ∧ Kd.C (Kd.int .i64) w A_ch (x.2.2.2.2.2.1).length (x.2.2.2.2.2.1) ∧ (x.2.2.2.2.2.2.1).length ≤ c_hs ∧ Kd.C Kd.bool w A_hs (x.2.2.2.2.2.2.1).length (x.2.2.2.2.2.2.1) := by
  obtain ⟨_, _, e, rfl, _, _, rfl, rfl, _, _, rfl, rfl, _, _, rfl, rfl, _, _, rfl, rfl, _, _, rfl, ⟨A_ch, c_ch, rfl, hc_ch, hr_ch⟩, _, _, rfl, ⟨A_hs, c_hs, rfl, hc_hs, hr_hs⟩, rfl⟩ := h
  exact ⟨A_ch, c_ch, A_hs, c_hs, by apply Array.ext'; simpa [Value.cells] using e, hc_ch, hr_ch, hc_hs, hr_hs⟩
abbrev DGrid := Int × (List Int) × (List Bool) × Unit
abbrev kGrid : Kd DGrid := (kPair (Kd.int .i64) (kPair (Kd.slice 2 (Kd.int .i64)) (kPair (Kd.slice 4 Kd.bool) kUnit)))
abbrev wGrid : DGrid → Prop := (wPair wI (wPair (wL wI) (wPair (wL wT) wE)))
set_option maxRecDepth 100000 in
theorem opens_Grid : Opens Try.prog 30 kGrid wGrid := Opens.struct Try.underlying30 (by kernel_rfl) (OpF.cons rfl (Opens.int Try.underlying2 (by kernel_rfl)) (OpF.cons rfl (Opens.slice Try.underlying27 (by kernel_rfl) (Opens.int Try.underlying2 (by kernel_rfl))) (OpF.cons rfl (Opens.slice Try.underlying28 (by kernel_rfl) (Opens.bool Try.underlying4 (by kernel_rfl))) (OpF.nil _))))
theorem kGrid_form {w : World} {x : DGrid} {cs : Array Value} (h : kGrid.K w x (Value.agg cs).cells.toList) :
    ∃ A_ch c_ch A_hs c_hs, cs = #[.int .i64 (x.1), .slice A_ch (x.2.1).length c_ch, .slice A_hs (x.2.2.1).length c_hs] ∧ (x.2.1).length ≤ c_ch ∧ Kd.C (Kd.int .i64) w A_ch (x.2.1).length (x.2.1) ∧ (x.2.2.1).length ≤ c_hs ∧ Kd.C Kd.bool w A_hs (x.2.2.1).length (x.2.2.1) := by
  obtain ⟨_, _, e, rfl, _, _, rfl, ⟨A_ch, c_ch, rfl, hc_ch, hr_ch⟩, _, _, rfl, ⟨A_hs, c_hs, rfl, hc_hs, hr_hs⟩, rfl⟩ := h
  exact ⟨A_ch, c_ch, A_hs, c_hs, by apply Array.ext'; simpa [Value.cells] using e, hc_ch, hr_ch, hc_hs, hr_hs⟩
end Go.Proofs.Ytpfponhaofdbaaa.M
