import Derived.Test.YtpfponhaofdbaaaDoorBR
set_option linter.unusedVariables false
set_option linter.unusedSimpArgs false
namespace Go.Proofs.YtpfponhaofdbaaaDoor.M
open Go.RowKit Go.Proofs.YtpfponhaofdbaaaDoorW.PrintWords

set_option maxRecDepth 100000 in
theorem markByteSO_c (A : Option Addr) (c base : Nat) (l : List Int) (k : Nat) (kz : Int) (hz : kz = k) (w : World) (hr : OB w base (.slice A l.length c) l) (hk : k + l.length ≤ 9223372036854775807) :
    Calls Tryd.prog 68 #[.slice A l.length c, .int .i64 kz] w fun e w' => e = .returned (.int .i64 (kz + (l.length : Int))) ∧ OB w' base (.slice A l.length c) (mkByteS l.length k) ∧ Upd w w' (fun b => (Value.slice A l.length c).ownBlock = some b) := by
  subst hz
  have HR := Aside0.mk hr
  clear hr
  go_enter Tryd.func68, Tryd.ntmps68
  go_wp2
  have hlen := Aside0.mk (mkByteS_length l.length k)
  go_loopw [1, 5] (fun kk i wr => ∃ j : Nat, j ≤ l.length ∧ kk = .int .i64 ((k : Int) + j) ∧ i = .int .i64 j ∧ Aside0 (OB wr base (.slice A l.length c) ((mkByteS l.length k).take j ++ l.drop j)) ∧ Aside0 (Upd w wr (fun b => (Value.slice A l.length c).ownBlock = some b))) (fun _ i _ => l.length - (intOf i).toNat)
  case atStart => exact ⟨0, Nat.zero_le _, by go_num, rfl, ⟨by rw [List.take_zero, List.drop_zero, List.nil_append]; exact HR.out⟩, ⟨⟨rfl, rfl, rfl, Nat.le_refl _, fun _ _ _ => rfl⟩⟩⟩
  case round =>
    obtain ⟨j, hj, rfl, rfl, hR, hG⟩ := hrel
    by_cases hlt : j < l.length
    · have hform : ∃ g, A = some ⟨g, 0, none⟩ := by
        rcases hR.out with ⟨e, _⟩ | ⟨g, c', cur, fr, e, _⟩
        · injection e with _ e2; omega
        · injection e with e1; exact ⟨g, e1⟩
      obtain ⟨g, rfl⟩ := hform
      obtain ⟨hx, hf, hgl⟩ := OB_cell hR.out j hlt
      have HP := Aside0.mk (OB_put hR.out j hlt (((k : Int) + j) % 256))
      go_wp2
      go_roundw
      case rel => exact ⟨j + 1, by omega, by go_num, by go_num, ⟨by rw [← mark_step _ _ j hlen.out hlt _ (by rw [mkByteS, List.getElem?_map, List.getElem?_range hlt]; rfl)]; exact HP.out⟩, ⟨hG.out.trans (upd_set _ g j _) (fun _ _ h => h) (fun b _ h => by rw [h]; rfl)⟩⟩
      case measure => simp [intOf]; omega
    · obtain rfl : j = l.length := by omega
      go_wp2
      go_ret
      refine ⟨rfl, ?_, hG.out⟩
      have := hR.out
      rw [List.take_of_length_le (by rw [hlen.out]; exact Nat.le_refl _), List.drop_length, List.append_nil] at this
      exact this
set_option maxRecDepth 100000 in
theorem eqBytesResult_c (co : Int) (A_bs : Option Addr) (c_bs : Nat) (bs : List Int) (co' : Int) (A_bs' : Option Addr) (c_bs' : Nat) (bs' : List Int) (w : World) (hr_bs : Kd.C (Kd.int .u8) w A_bs bs.length bs) (hr_bs' : Kd.C (Kd.int .u8) w A_bs' bs'.length bs') :
    Calls Tryd.prog 14 #[.agg #[.int .i64 co, .slice A_bs bs.length c_bs], .agg #[.int .i64 co', .slice A_bs' bs'.length c_bs']] w fun e w' => e = .returned (.bool (eqv (co, bs) (co', bs'))) ∧ Below w.heap.size w w' := by
  have HR_bs := Aside0.mk hr_bs
  have HS_bs := Aside0.mk hr_bs'
  clear hr_bs hr_bs'
  go_enter Tryd.func14, Tryd.ntmps14
  go_wp2_with (first
    | (go_at_call 67; refine Calls.mono (eqByteS_c _ _ _ _ bs bs' _ (by repeat (first | exact HR_bs.out | refine Kd.C_alloc ?_ _ | refine Kd.C_drewN ?_ _ )) (by repeat (first | exact HS_bs.out | refine Kd.C_alloc ?_ _ | refine Kd.C_drewN ?_ _ ))) ?_; rintro e w' ⟨rfl, ⟨⟨q, rfl⟩⟩⟩))
  all_goals
    go_ret
    refine ⟨by first | (simp_all [eqv, str_eq]; done) | (simp_all [eqv, str_eq]; intros; simp_all; done) | (simp_all [eqv, str_eq]; assumption), ?_⟩
    repeat (first | exact Below.refl _ _ | refine below_alloc ?_ _ | refine pw_below_drewN ?_ _)
set_option maxRecDepth 100000 in
theorem heldBytesResult_c (co : Int) (A_bs : Option Addr) (n_bs c_bs : Nat) (k : Nat) (kz : Int) (hz : kz = k) (w : World) (hr_bs : Kd.C (Kd.int .u8) w A_bs n_bs (mkByteS n_bs k)) (hk : k + n_bs ≤ 9223372036854775807) :
    Calls Tryd.prog 16 #[.agg #[.int .i64 co, .slice A_bs n_bs c_bs], .int .i64 kz] w fun e w' => e = .returned (.int .i64 (kz + (n_bs : Int))) ∧ Below w.heap.size w w' := by
  have HZ := Aside0.mk hz
  have hz0 : 0 ≤ kz := by omega
  have hz1 : kz + n_bs ≤ 9223372036854775807 := by omega
  clear hz
  have HR_bs := Aside0.mk hr_bs
  clear hr_bs
  go_enter Tryd.func16, Tryd.ntmps16
  go_wp2_with fail
  refine Calls.mono (heldByteS_c _ _ _ k _ (by have := HZ.out; omega) _ (by repeat (first | exact HR_bs.out | refine Kd.C_alloc ?_ _ | refine Kd.C_drewN ?_ _ )) (by omega)) ?_
  rintro e w1 ⟨rfl, ⟨⟨q0, rfl⟩⟩⟩
  go_wp2
  go_ret
  refine ⟨by first | rfl | (simp; done) | (simp; omega), ?_⟩
  repeat (first | exact Below.refl _ _ | refine below_alloc ?_ _ | refine pw_below_drewN ?_ _)
set_option maxRecDepth 100000 in
theorem markBytesResultO_c (co : Int) (A : Option Addr) (c : Nat) (l : List Int) (base k : Nat) (kz : Int) (hz : kz = k) (w : World) (hr : OB w base (.slice A l.length c) l) (hk : k + l.length ≤ 9223372036854775807) :
    Calls Tryd.prog 15 #[.agg #[.int .i64 co, .slice A l.length c], .int .i64 kz] w fun e w' => e = .returned (.int .i64 (kz + (l.length : Int))) ∧ OB w' base (.slice A l.length c) (mkByteS l.length k) ∧ Upd w w' (fun b => (Value.slice A l.length c).ownBlock = some b) := by
  have HR := Aside0.mk hr
  have HZ := Aside0.mk hz
  clear hr hz
  go_enter Tryd.func15, Tryd.ntmps15
  go_wp2_with (go_at_call 68; refine Calls.mono (markByteSO_c A c base l k _ HZ.out _ (OB_alloc HR.out _) hk) ?_; rintro e w1 ⟨rfl, hr1, hu⟩; have HR1 := Aside0.mk hr1; have HU := Aside0.mk hu; clear hr1 hu)
  go_ret
  exact ⟨rfl, HR1.out, (Upd.of_below (below_alloc (Below.refl _ _) _) _).trans HU.out (fun _ _ h => h) (fun _ _ h => h)⟩
end Go.Proofs.YtpfponhaofdbaaaDoor.M
