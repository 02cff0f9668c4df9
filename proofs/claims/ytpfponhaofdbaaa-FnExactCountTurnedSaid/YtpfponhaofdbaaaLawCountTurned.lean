/- FnExactCountTurned: for every two grids the program's CountTurned answers what the reference's answers, and changes nothing. No condition. -/
import Derived.Test.YtpfponhaofdbaaaTCountTurned
import Derived.Test.YtpfponhaofdbaaaD
import Derived.Test.YtpfponhaofdbaaaRows
import Derived.WalkKit
import Derived.ProofKit
import Derived.OpenShut
import Derived.ShutString
import Derived.ChangeOld
import Derived.Below
import Derived.SizedLaws
set_option linter.unusedVariables false
namespace Go.Proofs.Ytpfponhaofdbaaa.M
open Go.ChangeShapes Go.WideShapes Go.ChangeAt Go.RowKit Go.Proofs.YtpfponhaofdbaaaW.PrintWords
open Go.ChangeMaps (open_string shut_string)
theorem law_CountTurned_v (w : World) (x0 : DGrid) (cs0 : Array Value) (h0 : kGrid.K w x0 (Value.agg cs0).cells.toList) (w0 : wGrid x0) (x1 : DGrid) (cs1 : Array Value) (h1 : kGrid.K w x1 (Value.agg cs1).cells.toList) (w1 : wGrid x1) :
    Calls Try.prog 8 #[.agg cs0, .agg cs1] w fun e w' => e = .returned (.bool true) ∧ Below w.heap.size w w' := by
  obtain ⟨A0_1, c0_1, A0_2, c0_2, rfl, hc0_1, hr0_1, hc0_2, hr0_2⟩ := kGrid_form h0
  obtain ⟨A1_1, c1_1, A1_2, c1_2, rfl, hc1_1, hr1_1, hc1_2, hr1_2⟩ := kGrid_form h1
  exact law_CountTurned_c _ _ _ _ _ _ _ _ _ _ _ _ _ _ _ hr0_1 hr0_2 hr1_1 hr1_2 
namespace fnExactCountTurned
theorem own : ownKnob Try.prog.godebug = none := by kernel_rfl
theorem laidOut : laidOutB Try.prog = true := by kernel_rfl
set_option maxRecDepth 100000 in
theorem lifted (os : Os) (started : os.Started) (H : Type) (enc : TypeId × Value → H) :
    ReturnsInHanded {} Try.checked os 8 .any (Rows.fnExactCountTurnedSpec.pre6 enc Try.prog Try.f8 Rows.fnExactCountTurnedRow.domain false) (Rows.fnExactCountTurnedSpec.post enc Try.prog Try.f8 false true false false) := by
  refine returnsInHanded_of_change_sized (C := Try.checked) own started (by kernel_rfl) Try.func8
    (ChangeSpec.witness6 (enc := enc) (C := Try.checked) false ⟨#[], #[.agg #[.int .i64 0, .slice none 0 0, .slice none 0 0], .agg #[.int .i64 0, .slice none 0 0, .slice none 0 0]], []⟩ 8 (by kernel_rfl) (by kernel_rfl) (by kernel_rfl) (by kernel_rfl)) ?_
  intro W base args ds gs before hval0 hW hcnd hsz0 _
  have hval : ∀ (j : Nat) t v, Try.f8.params[j]? = some t → args[j]? = some v → Value.okWide Try.prog W .any base t v := hval0
  have hW' := hW
  obtain ⟨p, q, hA0, hV, rfl, hfz, hnd⟩ := hW
  have hA : DataW.TrodAll enc Try.prog W 0 (fun _ => true) true Try.f8.params.toList args.toList ds p := hA0
  rw [Try.params8] at hA hval
  obtain ⟨v0, vs0, d0, ds0, p0, q0, hargs, rfl, rfl, h0, r0⟩ := trodAll_cons hA
  obtain ⟨v1, vs1, d1, ds1, p1, q1, rfl, rfl, rfl, h1, r1⟩ := trodAll_cons r0
  obtain ⟨rfl, rfl, rfl⟩ := trodAll_nil r1
  obtain rfl : args = #[v0, v1] := by cases args; simp_all
  obtain ⟨rfl, rfl⟩ := trodVars_none hV
  have k0 := h0
  have lt0 : ∀ x ∈ p0, x.block < W.heap.size := by obtain ⟨m, hm⟩ := k0; exact DataW.trod_lt m _ _ _ hm
  obtain ⟨cs0, rfl, _⟩ := okWide_struct Try.underlying30 (hval 0 30 v0 rfl rfl)
  obtain ⟨fu0, hu0⟩ := h0
  obtain ⟨x0, hx0, hw0⟩ := opens_Grid.2 hu0
  have k1 := h1
  have lt1 : ∀ x ∈ p1, x.block < W.heap.size := by obtain ⟨m, hm⟩ := k1; exact DataW.trod_lt m _ _ _ hm
  obtain ⟨cs1, rfl, _⟩ := okWide_struct Try.underlying30 (hval 1 30 v1 rfl rfl)
  obtain ⟨fu1, hu1⟩ := h1
  obtain ⟨x1, hx1, hw1⟩ := opens_Grid.2 hu1
  refine (law_CountTurned_v W x0 cs0 hx0 hw0 x1 cs1 hx1 hw1).mono fun e W' ⟨he, bel⟩ => ?_
  subst he
  exact ⟨_, rfl, _, _, _, [], _, [], hW', trodAll_mk1 (shut_bool Try.underlying4 _), (trodAll_cons_mk (Below.trod laidOut (by kernel_rfl) (of_decide_eq_true (by kernel_rfl)) k0 bel lt0) (trodAll_cons_mk (Below.trod laidOut (by kernel_rfl) (of_decide_eq_true (by kernel_rfl)) k1 bel lt1) trodAll_mk0)), rfl, bel.frame _, fun h => by cases h⟩
theorem over : Rows.fnExactCountTurnedRow.holds Try.pinned (OpenSpec.ofChange Rows.fnExactCountTurnedSpec) :=
  OpenClaim.holds_of_wide 8 Try.f8 rfl rfl rfl rfl rfl rfl rfl ⟨rfl, rfl, rfl, rfl, rfl⟩ rfl rfl rfl rfl rfl (by kernel_rfl) Try.func8 (by kernel_rfl)
    (of_decide_eq_true (by kernel_rfl)) (by unfold Func.isWrapper; first | (rw [if_pos (by decide +kernel)]; kernel_rfl) | (rw [if_neg (by decide +kernel)]; exact ⟨rfl, rfl⟩))
    (fun os started H enc _ => lifted os started H enc)
end fnExactCountTurned
end Go.Proofs.Ytpfponhaofdbaaa.M
namespace Go.Proofs.Ytpfponhaofdbaaa
theorem fnExactCountTurned_holds : Rows.FnExactCountTurnedSaid := M.fnExactCountTurned.over
#print axioms fnExactCountTurned_holds
end Go.Proofs.Ytpfponhaofdbaaa
