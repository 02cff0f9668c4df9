import Derived.Test.YtpfponhaofdbaaaO
set_option linter.unusedVariables false
set_option linter.unusedSimpArgs false
namespace Go.Proofs.Ytpfponhaofdbaaa.M
open Go.RowKit Go.Proofs.YtpfponhaofdbaaaW.PrintWords Go.ChangeShapes Go.WideShapes Go.Deep

abbrev DTerm := Int × Int × Int × Int × Bool × (List Int) × (List Bool) × Unit
abbrev kTerm : Kd DTerm := (kPair (Kd.int .i64) (kPair (Kd.int .i64) (kPair (Kd.int .i64) (kPair (Kd.int .i64) (kPair Kd.bool (kPair (Kd.slice 2 (Kd.int .i64)) (kPair (Kd.slice 4 Kd.bool) kUnit)))))))
abbrev wTerm : DTerm → Prop := (wPair wI (wPair wI (wPair wI (wPair wI (wPair wT (wPair (wL wI) (wPair (wL wT) wE)))))))
set_option maxRecDepth 100000 in
theorem opens_Term : Opens Try.prog 44 kTerm wTerm := Opens.struct Try.underlying44 (by kernel_rfl) (OpF.cons rfl (Opens.int Try.underlying2 (by kernel_rfl)) (OpF.cons rfl (Opens.int Try.underlying2 (by kernel_rfl)) (OpF.cons rfl (Opens.int Try.underlying2 (by kernel_rfl)) (OpF.cons rfl (Opens.int Try.underlying2 (by kernel_rfl)) (OpF.cons rfl (Opens.bool Try.underlying4 (by kernel_rfl)) (OpF.cons rfl (Opens.slice Try.underlying27 (by kernel_rfl) (Opens.int Try.underlying2 (by kernel_rfl))) (OpF.cons rfl (Opens.slice Try.underlying28 (by kernel_rfl) (Opens.bool Try.underlying4 (by kernel_rfl))) (OpF.nil _))))))))
theorem kTerm_form {w : World} {x : DTerm} {cs : Array Value} (h : kTerm.K w x (Value.agg cs).cells.toList) :
    ∃ A c B d, cs = #[.int .i64 x.1, .int .i64 x.2.1, .int .i64 x.2.2.1, .int .i64 x.2.2.2.1, .bool x.2.2.2.2.1, .slice A x.2.2.2.2.2.1.length c, .slice B x.2.2.2.2.2.2.1.length d] ∧ x.2.2.2.2.2.1.length ≤ c ∧ x.2.2.2.2.2.2.1.length ≤ d ∧ Kd.C (Kd.int .i64) w A x.2.2.2.2.2.1.length x.2.2.2.2.2.1 ∧ Kd.C Kd.bool w B x.2.2.2.2.2.2.1.length x.2.2.2.2.2.2.1 := by
  obtain ⟨_, _, e, rfl, _, _, rfl, rfl, _, _, rfl, rfl, _, _, rfl, rfl, _, _, rfl, rfl, _, _, rfl, ⟨A, c, rfl, hc, hr⟩, _, _, rfl, ⟨B, d, rfl, hd, hs⟩, rfl⟩ := h
  exact ⟨A, c, B, d, by apply Array.ext'; simpa [Value.cells] using e, hc, hd, hr, hs⟩
end Go.Proofs.Ytpfponhaofdbaaa.M
