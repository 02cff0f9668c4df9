/- FnExactTermText: for every terminal (of less than 2^20 cells) the program's TermText answers what the reference's answers and changes nothing that came. -/
import Derived.Test.YtpfponhaofdbaaaTTermText
import Derived.Test.YtpfponhaofdbaaaD
import Derived.Test.YtpfponhaofdbaaaRows
import Derived.WalkKit
import Derived.ProofKit
import Derived.OpenShut
import Derived.ShutString
import Derived.ChangeOld
import Derived.Below
import Derived.SizedLaws
set_option linter.unusedVariables false
namespace Go.Proofs.Ytpfponhaofdbaaa.M
open Go.ChangeShapes Go.WideShapes Go.ChangeAt Go.RowKit Go.Proofs.YtpfponhaofdbaaaW.PrintWords
open Go.ChangeMaps (open_string shut_string)
theorem law_TermText_v (w : World) (x0 : DTerm) (cs0 : Array Value) (h0 : kTerm.K w x0 (Value.agg cs0).cells.toList) (w0 : wTerm x0) :
    Calls Try.prog 9 #[.agg cs0] w fun e w' => e = .returned (.bool true) ∧ Below w.heap.size w w' := by
  obtain ⟨A0_5, c0_5, A0_6, c0_6, rfl, hc0_5, hr0_5, hc0_6, hr0_6⟩ := kTerm_form h0
  exact law_TermText_c _ _ _ _ _ _ _ _ _ _ _ _ hr0_5 hr0_6 
namespace fnExactTermText
theorem own : ownKnob Try.prog.godebug = none := by kernel_rfl
theorem laidOut : laidOutB Try.prog = true := by kernel_rfl
set_option maxRecDepth 100000 in
theorem lifted (os : Os) (started : os.Started) (H : Type) (enc : TypeId × Value → H) :
    ReturnsInHanded {} Try.checked os 9 .any (Rows.fnExactTermTextSpec.pre6 enc Try.prog Try.f9 Rows.fnExactTermTextRow.domain false) (Rows.fnExactTermTextSpec.post enc Try.prog Try.f9 false true false false) := by
  refine returnsInHanded_of_change_sized (C := Try.checked) own started (by kernel_rfl) Try.func9
    (ChangeSpec.witness6 (enc := enc) (C := Try.checked) false ⟨#[], #[.agg #[.int .i64 0, .int .i64 0, .int .i64 0, .int .i64 0, .bool false, .slice none 0 0, .slice none 0 0]], []⟩ 8 (by kernel_rfl) (by kernel_rfl) (by kernel_rfl) (by kernel_rfl)) ?_
  intro W base args ds gs before hval0 hW hcnd hsz0 _
  have hval : ∀ (j : Nat) t v, Try.f9.params[j]? = some t → args[j]? = some v → Value.okWide Try.prog W .any base t v := hval0
  have hW' := hW
  obtain ⟨p, q, hA0, hV, rfl, hfz, hnd⟩ := hW
  have hA : DataW.TrodAll enc Try.prog W 0 (fun _ => true) true Try.f9.params.toList args.toList ds p := hA0
  rw [Try.params9] at hA hval
  obtain ⟨v0, vs0, d0, ds0, p0, q0, hargs, rfl, rfl, h0, r0⟩ := trodAll_cons hA
  obtain ⟨rfl, rfl, rfl⟩ := trodAll_nil r0
  obtain rfl : args = #[v0] := by cases args; simp_all
  obtain ⟨rfl, rfl⟩ := trodVars_none hV
  have k0 := h0
  have lt0 : ∀ x ∈ p0, x.block < W.heap.size := by obtain ⟨m, hm⟩ := k0; exact DataW.trod_lt m _ _ _ hm
  obtain ⟨cs0, rfl, _⟩ := okWide_struct Try.underlying44 (hval 0 44 v0 rfl rfl)
  obtain ⟨fu0, hu0⟩ := h0
  obtain ⟨x0, hx0, hw0⟩ := opens_Term.2 hu0
  refine (law_TermText_v W x0 cs0 hx0 hw0).mono fun e W' ⟨he, bel⟩ => ?_
  subst he
  exact ⟨_, rfl, _, _, _, [], _, [], hW', trodAll_mk1 (shut_bool Try.underlying4 _), (trodAll_cons_mk (Below.trod laidOut (by kernel_rfl) (of_decide_eq_true (by kernel_rfl)) k0 bel lt0) trodAll_mk0), rfl, bel.frame _, fun h => by cases h⟩
theorem over : Rows.fnExactTermTextRow.holds Try.pinned (OpenSpec.ofChange Rows.fnExactTermTextSpec) :=
  OpenClaim.holds_of_wide 9 Try.f9 rfl rfl rfl rfl rfl rfl rfl ⟨rfl, rfl, rfl, rfl, rfl⟩ rfl rfl rfl rfl rfl (by kernel_rfl) Try.func9 (by kernel_rfl)
    (of_decide_eq_true (by kernel_rfl)) (by unfold Func.isWrapper; first | (rw [if_pos (by decide +kernel)]; kernel_rfl) | (rw [if_neg (by decide +kernel)]; exact ⟨rfl, rfl⟩))
    (fun os started H enc _ => lifted os started H enc)
end fnExactTermText
end Go.Proofs.Ytpfponhaofdbaaa.M
namespace Go.Proofs.Ytpfponhaofdbaaa
theorem fnExactTermText_holds : Rows.FnExactTermTextSaid := M.fnExactTermText.over
#print axioms fnExactTermText_holds
end Go.Proofs.Ytpfponhaofdbaaa
