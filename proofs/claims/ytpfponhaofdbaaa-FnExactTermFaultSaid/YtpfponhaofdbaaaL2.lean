import Derived.Test.YtpfponhaofdbaaaL1
set_option linter.unusedVariables false
set_option linter.unusedSimpArgs false
namespace Go.Proofs.Ytpfponhaofdbaaa.M
open Go.RowKit Go.Proofs.YtpfponhaofdbaaaW.PrintWords

def szf2 (n m : Nat) (left : Int) : Int := if szf n left < 0 then -1 else if szf m (szf n left) < 0 then -1 else szf m (szf n left)
theorem szf_bd (n : Nat) (left : Int) (h1 : left ≤ 1048576) : szf n left ≤ 1048576 := by unfold szf; split <;> omega
theorem szTerm_c (wi ro y x : Int) (hi : Bool) (A B : Option Addr) (n c m d : Nat) (left : Int) (w : World) (hn : n ≤ 9223372036854775807) (hm : m ≤ 9223372036854775807) (h0 : 0 ≤ left) (h1 : left ≤ 1048576) :
    Calls Try.prog 27 #[.agg #[.int .i64 wi, .int .i64 ro, .int .i64 y, .int .i64 x, .bool hi, .slice A n c, .slice B m d], .int .i64 left] w fun e w' => e = .returned (.int .i64 (szf2 n m left)) ∧ Below w.heap.size w w' := by
  have hb := szf_bd n left h1
  go_enter Try.func27, Try.ntmps27
  go_wp2_with (first
    | (go_at_call 65; refine (szInt64S_c _ _ _ _ _ hn (by omega) (by omega)).mono ?_; rintro e w' ⟨rfl, rfl⟩)
    | (go_at_call 66; refine (szBoolS_c _ _ _ _ _ hm (by omega) (by omega)).mono ?_; rintro e w' ⟨rfl, rfl⟩))
  all_goals
    go_ret
    exact ⟨by first | (simp [szf2, *]; done) | (unfold szf2; rw [if_neg (by omega), if_neg (by omega)]; rfl), (Below.refl _ _).alloc (Nat.le_refl _) _⟩

set_option maxRecDepth 100000 in
theorem toTerm_c (wi ro y x : Int) (hi : Bool) (A B : Option Addr) (c d : Nat) (ch : List Int) (hs : List Bool) (w : World) (hr : Kd.C (Kd.int .i64) w A ch.length ch) (hs' : Kd.C Kd.bool w B hs.length hs) (hm : ch.length * 8 ≤ 140737488351232) (hm2 : hs.length * 1 ≤ 140737488351232) :
    Calls Try.prog 29 #[.agg #[.int .i64 wi, .int .i64 ro, .int .i64 y, .int .i64 x, .bool hi, .slice A ch.length c, .slice B hs.length d]] w fun e w' => ∃ (A1 : Option Addr) (c1 : Nat) (A2 : Option Addr) (c2 : Nat), e = .returned (.agg #[.int .i64 wi, .int .i64 ro, .int .i64 y, .int .i64 x, .bool hi, .slice A1 ch.length c1, .slice A2 hs.length c2]) ∧ ch.length ≤ c1 ∧ hs.length ≤ c2 ∧ Kd.R (Kd.int .i64) 2 w' w.heap.size (fun _ => True) (.slice A1 ch.length c1) ch ∧ Kd.R Kd.bool 4 w' w.heap.size (fun _ => True) (.slice A2 hs.length c2) hs ∧ Below w.heap.size w w' := by
  have HR := Aside0.mk hr
  have HS := Aside0.mk hs'
  clear hr hs'
  go_enter Try.func29, Try.ntmps29
  go_wp2_with (first
    | (go_at_call 68; refine (toInt64S_c _ _ _ _ (by repeat (first | exact HR.out | refine Kd.C_alloc ?_ _)) hm).mono ?_; rintro e w' ⟨rfl, rfl⟩)
    | (go_at_call 69; refine (toBoolS_c _ _ _ _ (by repeat (first | exact HS.out | refine Kd.C_alloc ?_ _)) hm2).mono ?_; rintro e w' ⟨rfl, rfl⟩))
  refine bodyPost_ret (v := .agg #[.int .i64 wi, .int .i64 ro, .int .i64 y, .int .i64 x, .bool hi, .slice (some ⟨w.heap.size + 1 + 1 + 1, 0, none⟩) ch.length ch.length, .slice (some ⟨w.heap.size + 1 + 1 + 1 + 1, 0, none⟩) hs.length hs.length]) (by simp [results, Try.results29, go_sem]) rfl ⟨_, _, _, _, rfl, Nat.le_refl _, Nat.le_refl _, R_at (by simp only [heap_alloc?, size_alloc]; repeat (first | rfl | rw [if_pos rfl] | rw [if_neg (by omega)])) (by omega) (by omega), R_at (by simp only [heap_alloc?, size_alloc]; repeat (first | rfl | rw [if_pos rfl] | rw [if_neg (by omega)])) (by omega) (by omega), ?_⟩
  repeat (first | exact Below.refl _ _ | refine below_alloc ?_ _)

set_option maxRecDepth 100000 in
theorem eqTerm_c (wi ro y x : Int) (hi : Bool) (A B : Option Addr) (c d : Nat) (ch : List Int) (hs : List Bool) (wi' ro' y' x' : Int) (hi' : Bool) (A' B' : Option Addr) (c' d' : Nat) (ch' : List Int) (hs' : List Bool) (w : World)
    (hr : Kd.C (Kd.int .i64) w A ch.length ch) (hr' : Kd.C Kd.bool w B hs.length hs) (hs1 : Kd.C (Kd.int .i64) w A' ch'.length ch') (hs2 : Kd.C Kd.bool w B' hs'.length hs') :
    Calls Try.prog 31 #[.agg #[.int .i64 wi, .int .i64 ro, .int .i64 y, .int .i64 x, .bool hi, .slice A ch.length c, .slice B hs.length d], .agg #[.int .i64 wi', .int .i64 ro', .int .i64 y', .int .i64 x', .bool hi', .slice A' ch'.length c', .slice B' hs'.length d']] w
      fun e w' => e = .returned (.bool (eqv (wi, ro, y, x, hi, ch, hs) (wi', ro', y', x', hi', ch', hs'))) ∧ Below w.heap.size w w' := by
  have HR := Aside0.mk hr
  have HS := Aside0.mk hr'
  have HT := Aside0.mk hs1
  have HU := Aside0.mk hs2
  clear hr hr' hs1 hs2
  go_enter Try.func31, Try.ntmps31
  go_wp2_with (first
    | (go_at_call 72; refine (eqInt64S_c _ _ _ _ ch ch' _ (by repeat (first | exact HR.out | refine Kd.C_alloc ?_ _ | refine Kd.C_drewN ?_ _)) (by repeat (first | exact HT.out | refine Kd.C_alloc ?_ _ | refine Kd.C_drewN ?_ _))).mono ?_; rintro e w' ⟨rfl, ⟨⟨q, rfl⟩⟩⟩)
    | (go_at_call 73; refine (eqBoolS_c _ _ _ _ hs hs' _ (by repeat (first | exact HS.out | refine Kd.C_alloc ?_ _ | refine Kd.C_drewN ?_ _)) (by repeat (first | exact HU.out | refine Kd.C_alloc ?_ _ | refine Kd.C_drewN ?_ _))).mono ?_; rintro e w' ⟨rfl, ⟨⟨q, rfl⟩⟩⟩))
  all_goals
    go_ret
    refine ⟨by simp_all [eqv], ?_⟩
    repeat (first | exact Below.refl _ _ | refine below_alloc ?_ _ | refine pw_below_drewN ?_ _)
end Go.Proofs.Ytpfponhaofdbaaa.M
