/- FnExactDecodeKeys: for all bytes (of at most 2^20) the program's DecodeKeys answers what the reference's answers, changes nothing that came, and what it answers shares no memory with its argument or with the answer of another call. -/
import Derived.Test.YtpfponhaofdbaaaTDecodeKeys
import Derived.Test.YtpfponhaofdbaaaD
import Derived.Test.YtpfponhaofdbaaaRows
import Derived.WalkKit
import Derived.ProofKit
import Derived.OpenShut
import Derived.ShutString
import Derived.ChangeOld
import Derived.Below
import Derived.SizedLaws
set_option linter.unusedVariables false
namespace Go.Proofs.Ytpfponhaofdbaaa.M
open Go.ChangeShapes Go.WideShapes Go.ChangeAt Go.RowKit Go.Proofs.YtpfponhaofdbaaaW.PrintWords
open Go.ChangeMaps (open_string shut_string)
theorem law_DecodeKeys_v (w : World) (A0 : Option Addr) (c0 : Nat) (l0 : List Int) (hr0 : Kd.C (Kd.int .u8) w A0 l0.length l0) (hc0 : l0.length ≤ c0) (w0 : wL wU l0) :
    Calls Try.prog 11 #[.slice A0 l0.length c0] w fun e w' => e = .returned (.bool true) ∧ Below w.heap.size w w' := by
  exact law_DecodeKeys_c _ _ _ _ hr0 (fun z hz => u8_bd (w0 z hz))
namespace fnExactDecodeKeys
theorem own : ownKnob Try.prog.godebug = none := by kernel_rfl
theorem laidOut : laidOutB Try.prog = true := by kernel_rfl
set_option maxRecDepth 100000 in
theorem lifted (os : Os) (started : os.Started) (H : Type) (enc : TypeId × Value → H) :
    ReturnsInHanded {} Try.checked os 11 .any (Rows.fnExactDecodeKeysSpec.pre6 enc Try.prog Try.f11 Rows.fnExactDecodeKeysRow.domain false) (Rows.fnExactDecodeKeysSpec.post enc Try.prog Try.f11 false true false false) := by
  refine returnsInHanded_of_change_sized (C := Try.checked) own started (by kernel_rfl) Try.func11
    (ChangeSpec.witness6 (enc := enc) (C := Try.checked) false ⟨#[], #[.slice none 0 0], []⟩ 8 (by kernel_rfl) (by kernel_rfl) (by kernel_rfl) (by kernel_rfl)) ?_
  intro W base args ds gs before hval0 hW hcnd hsz0 _
  have hval : ∀ (j : Nat) t v, Try.f11.params[j]? = some t → args[j]? = some v → Value.okWide Try.prog W .any base t v := hval0
  have hW' := hW
  obtain ⟨p, q, hA0, hV, rfl, hfz, hnd⟩ := hW
  have hA : DataW.TrodAll enc Try.prog W 0 (fun _ => true) true Try.f11.params.toList args.toList ds p := hA0
  rw [Try.params11] at hA hval
  obtain ⟨v0, vs0, d0, ds0, p0, q0, hargs, rfl, rfl, h0, r0⟩ := trodAll_cons hA
  obtain ⟨rfl, rfl, rfl⟩ := trodAll_nil r0
  obtain rfl : args = #[v0] := by cases args; simp_all
  obtain ⟨rfl, rfl⟩ := trodVars_none hV
  have k0 := h0
  have lt0 : ∀ x ∈ p0, x.block < W.heap.size := by obtain ⟨m, hm⟩ := k0; exact DataW.trod_lt m _ _ _ hm
  obtain ⟨A0, len0, cap0, rfl⟩ := okWide_slice Try.underlying36 (hval 0 36 v0 rfl rfl)
  obtain ⟨fu0, hu0⟩ := h0
  obtain ⟨x0, ⟨B0, c0, e0, hc0, hr0⟩, hw0⟩ := (Opens.slice Try.underlying36 (by kernel_rfl) (Opens.int Try.underlying5 (by kernel_rfl))).2 hu0
  obtain ⟨rfl, rfl, rfl⟩ : B0 = A0 ∧ x0.length = len0 ∧ c0 = cap0 := by have h := e0; simp [Value.cells] at h; exact ⟨h.1.symm, h.2.1.symm, h.2.2.symm⟩
  refine (law_DecodeKeys_v W B0 c0 x0 hr0 hc0 hw0).mono fun e W' ⟨he, bel⟩ => ?_
  subst he
  exact ⟨_, rfl, _, _, _, [], _, [], hW', trodAll_mk1 (shut_bool Try.underlying4 _), (trodAll_cons_mk (Below.trod laidOut (by kernel_rfl) (of_decide_eq_true (by kernel_rfl)) k0 bel lt0) trodAll_mk0), rfl, bel.frame _, fun h => by cases h⟩
theorem over : Rows.fnExactDecodeKeysRow.holds Try.pinned (OpenSpec.ofChange Rows.fnExactDecodeKeysSpec) :=
  OpenClaim.holds_of_wide 11 Try.f11 rfl rfl rfl rfl rfl rfl rfl ⟨rfl, rfl, rfl, rfl, rfl⟩ rfl rfl rfl rfl rfl (by kernel_rfl) Try.func11 (by kernel_rfl)
    (of_decide_eq_true (by kernel_rfl)) (by unfold Func.isWrapper; first | (rw [if_pos (by decide +kernel)]; kernel_rfl) | (rw [if_neg (by decide +kernel)]; exact ⟨rfl, rfl⟩))
    (fun os started H enc _ => lifted os started H enc)
end fnExactDecodeKeys
end Go.Proofs.Ytpfponhaofdbaaa.M
namespace Go.Proofs.Ytpfponhaofdbaaa
theorem fnExactDecodeKeys_holds : Rows.FnExactDecodeKeysSaid := M.fnExactDecodeKeys.over
#print axioms fnExactDecodeKeys_holds
end Go.Proofs.Ytpfponhaofdbaaa
