import Derived.Test.YtpfponhaofdbaaaL1
set_option linter.unusedVariables false
set_option linter.unusedSimpArgs false
namespace Go.Proofs.Ytpfponhaofdbaaa.M
open Go.RowKit Go.Proofs.YtpfponhaofdbaaaW.PrintWords

theorem szTerm_c (wi : Int) (ro : Int) (y : Int) (x : Int) (hi : Bool) (A_ch : Option Addr) (n_ch c_ch : Nat) (A_hs : Option Addr) (n_hs c_hs : Nat) (left : Int) (w : World) (hn_ch : n_ch ≤ 9223372036854775807) (hn_hs : n_hs ≤ 9223372036854775807) (h0 : 0 ≤ left) (h1 : left ≤ 1048576) :
    Calls Try.prog 27 #[.agg #[.int .i64 wi, .int .i64 ro, .int .i64 y, .int .i64 x, .bool hi, .slice A_ch n_ch c_ch, .slice A_hs n_hs c_hs], .int .i64 left] w fun e w' => e = .returned (.int .i64 (szfs [n_ch, n_hs] left)) ∧ Below w.heap.size w w' := by
  have hb0 := szf_bd n_ch _ h1
  have hb1 := szf_bd n_hs _ hb0
  go_enter Try.func27, Try.ntmps27
  go_wp2_with (first
    | (go_at_call 65; refine Calls.mono (szInt64S_c _ _ _ _ _ hn_ch (by omega) (by omega)) ?_; rintro e w' ⟨rfl, rfl⟩)
    | (go_at_call 66; refine Calls.mono (szBoolS_c _ _ _ _ _ hn_hs (by omega) (by omega)) ?_; rintro e w' ⟨rfl, rfl⟩))
  all_goals
    go_ret
    refine ⟨by first | (simp [szfs, *]; done) | (simp only [szfs]; repeat (first | rfl | rw [if_neg (by omega)] | rw [if_pos (by omega)])), ?_⟩
    repeat (first | exact Below.refl _ _ | refine below_alloc ?_ _)
theorem szGrid_c (wi : Int) (A_ch : Option Addr) (n_ch c_ch : Nat) (A_hs : Option Addr) (n_hs c_hs : Nat) (left : Int) (w : World) (hn_ch : n_ch ≤ 9223372036854775807) (hn_hs : n_hs ≤ 9223372036854775807) (h0 : 0 ≤ left) (h1 : left ≤ 1048576) :
    Calls Try.prog 17 #[.agg #[.int .i64 wi, .slice A_ch n_ch c_ch, .slice A_hs n_hs c_hs], .int .i64 left] w fun e w' => e = .returned (.int .i64 (szfs [n_ch, n_hs] left)) ∧ Below w.heap.size w w' := by
  have hb0 := szf_bd n_ch _ h1
  have hb1 := szf_bd n_hs _ hb0
  go_enter Try.func17, Try.ntmps17
  go_wp2_with (first
    | (go_at_call 65; refine Calls.mono (szInt64S_c _ _ _ _ _ hn_ch (by omega) (by omega)) ?_; rintro e w' ⟨rfl, rfl⟩)
    | (go_at_call 66; refine Calls.mono (szBoolS_c _ _ _ _ _ hn_hs (by omega) (by omega)) ?_; rintro e w' ⟨rfl, rfl⟩))
  all_goals
    go_ret
    refine ⟨by first | (simp [szfs, *]; done) | (simp only [szfs]; repeat (first | rfl | rw [if_neg (by omega)] | rw [if_pos (by omega)])), ?_⟩
    repeat (first | exact Below.refl _ _ | refine below_alloc ?_ _)
set_option maxRecDepth 100000 in
theorem toTerm_c (wi : Int) (ro : Int) (y : Int) (x : Int) (hi : Bool) (A_ch : Option Addr) (c_ch : Nat) (ch : List Int) (A_hs : Option Addr) (c_hs : Nat) (hs : List Bool) (w : World) (hr_ch : Kd.C (Kd.int .i64) w A_ch ch.length ch) (hr_hs : Kd.C Kd.bool w A_hs hs.length hs) (hm_ch : ch.length * 8 ≤ 140737488351232) (hm_hs : hs.length * 1 ≤ 140737488351232) :
    Calls Try.prog 29 #[.agg #[.int .i64 wi, .int .i64 ro, .int .i64 y, .int .i64 x, .bool hi, .slice A_ch ch.length c_ch, .slice A_hs hs.length c_hs]] w fun e w' => ∃ (Z_ch : Option Addr) (z_ch : Nat) (Z_hs : Option Addr) (z_hs : Nat), e = .returned (.agg #[.int .i64 wi, .int .i64 ro, .int .i64 y, .int .i64 x, .bool hi, .slice Z_ch ch.length z_ch, .slice Z_hs hs.length z_hs]) ∧ ch.length ≤ z_ch ∧ Kd.R (Kd.int .i64) 2 w' w.heap.size (fun _ => True) (.slice Z_ch ch.length z_ch) ch ∧ hs.length ≤ z_hs ∧ Kd.R Kd.bool 4 w' w.heap.size (fun _ => True) (.slice Z_hs hs.length z_hs) hs ∧ Below w.heap.size w w' := by
  have HR_ch := Aside0.mk hr_ch
  have HR_hs := Aside0.mk hr_hs
  clear hr_ch hr_hs
  go_enter Try.func29, Try.ntmps29
  go_wp2_with (first
    | (go_at_call 68; refine Calls.mono (toInt64S_c _ _ ch _ (by repeat (first | exact HR_ch.out | refine Kd.C_alloc ?_ _ | refine Kd.C_drewN ?_ _ )) hm_ch) ?_; rintro e w' ⟨rfl, rfl⟩)
    | (go_at_call 69; refine Calls.mono (toBoolS_c _ _ hs _ (by repeat (first | exact HR_hs.out | refine Kd.C_alloc ?_ _ | refine Kd.C_drewN ?_ _ )) hm_hs) ?_; rintro e w' ⟨rfl, rfl⟩))
  refine bodyPost_ret (v := .agg #[.int .i64 wi, .int .i64 ro, .int .i64 y, .int .i64 x, .bool hi, .slice (some ⟨w.heap.size + 1 + 1 + 1, 0, none⟩) ch.length ch.length, .slice (some ⟨w.heap.size + 1 + 1 + 1 + 1, 0, none⟩) hs.length hs.length]) (by simp [results, Try.results29, go_sem]) rfl ⟨_, _, _, _,  rfl, Nat.le_refl _, R_at (by simp only [heap_alloc?, size_alloc]; repeat (first | rfl | rw [if_pos rfl] | rw [if_neg (by omega)])) (by omega) (by omega), Nat.le_refl _, R_at (by simp only [heap_alloc?, size_alloc]; repeat (first | rfl | rw [if_pos rfl] | rw [if_neg (by omega)])) (by omega) (by omega), ?_⟩
  repeat (first | exact Below.refl _ _ | refine below_alloc ?_ _)
set_option maxRecDepth 100000 in
theorem toGrid_c (wi : Int) (A_ch : Option Addr) (c_ch : Nat) (ch : List Int) (A_hs : Option Addr) (c_hs : Nat) (hs : List Bool) (w : World) (hr_ch : Kd.C (Kd.int .i64) w A_ch ch.length ch) (hr_hs : Kd.C Kd.bool w A_hs hs.length hs) (hm_ch : ch.length * 8 ≤ 140737488351232) (hm_hs : hs.length * 1 ≤ 140737488351232) :
    Calls Try.prog 19 #[.agg #[.int .i64 wi, .slice A_ch ch.length c_ch, .slice A_hs hs.length c_hs]] w fun e w' => ∃ (Z_ch : Option Addr) (z_ch : Nat) (Z_hs : Option Addr) (z_hs : Nat), e = .returned (.agg #[.int .i64 wi, .slice Z_ch ch.length z_ch, .slice Z_hs hs.length z_hs]) ∧ ch.length ≤ z_ch ∧ Kd.R (Kd.int .i64) 2 w' w.heap.size (fun _ => True) (.slice Z_ch ch.length z_ch) ch ∧ hs.length ≤ z_hs ∧ Kd.R Kd.bool 4 w' w.heap.size (fun _ => True) (.slice Z_hs hs.length z_hs) hs ∧ Below w.heap.size w w' := by
  have HR_ch := Aside0.mk hr_ch
  have HR_hs := Aside0.mk hr_hs
  clear hr_ch hr_hs
  go_enter Try.func19, Try.ntmps19
  go_wp2_with (first
    | (go_at_call 68; refine Calls.mono (toInt64S_c _ _ ch _ (by repeat (first | exact HR_ch.out | refine Kd.C_alloc ?_ _ | refine Kd.C_drewN ?_ _ )) hm_ch) ?_; rintro e w' ⟨rfl, rfl⟩)
    | (go_at_call 69; refine Calls.mono (toBoolS_c _ _ hs _ (by repeat (first | exact HR_hs.out | refine Kd.C_alloc ?_ _ | refine Kd.C_drewN ?_ _ )) hm_hs) ?_; rintro e w' ⟨rfl, rfl⟩))
  refine bodyPost_ret (v := .agg #[.int .i64 wi, .slice (some ⟨w.heap.size + 1 + 1 + 1, 0, none⟩) ch.length ch.length, .slice (some ⟨w.heap.size + 1 + 1 + 1 + 1, 0, none⟩) hs.length hs.length]) (by simp [results, Try.results19, go_sem]) rfl ⟨_, _, _, _,  rfl, Nat.le_refl _, R_at (by simp only [heap_alloc?, size_alloc]; repeat (first | rfl | rw [if_pos rfl] | rw [if_neg (by omega)])) (by omega) (by omega), Nat.le_refl _, R_at (by simp only [heap_alloc?, size_alloc]; repeat (first | rfl | rw [if_pos rfl] | rw [if_neg (by omega)])) (by omega) (by omega), ?_⟩
  repeat (first | exact Below.refl _ _ | refine below_alloc ?_ _)
set_option maxRecDepth 100000 in
theorem eqTerm_c (wi : Int) (ro : Int) (y : Int) (x : Int) (hi : Bool) (A_ch : Option Addr) (c_ch : Nat) (ch : List Int) (A_hs : Option Addr) (c_hs : Nat) (hs : List Bool) (wi' : Int) (ro' : Int) (y' : Int) (x' : Int) (hi' : Bool) (A_ch' : Option Addr) (c_ch' : Nat) (ch' : List Int) (A_hs' : Option Addr) (c_hs' : Nat) (hs' : List Bool) (w : World) (hr_ch : Kd.C (Kd.int .i64) w A_ch ch.length ch) (hr_hs : Kd.C Kd.bool w A_hs hs.length hs) (hr_ch' : Kd.C (Kd.int .i64) w A_ch' ch'.length ch') (hr_hs' : Kd.C Kd.bool w A_hs' hs'.length hs') :
    Calls Try.prog 31 #[.agg #[.int .i64 wi, .int .i64 ro, .int .i64 y, .int .i64 x, .bool hi, .slice A_ch ch.length c_ch, .slice A_hs hs.length c_hs], .agg #[.int .i64 wi', .int .i64 ro', .int .i64 y', .int .i64 x', .bool hi', .slice A_ch' ch'.length c_ch', .slice A_hs' hs'.length c_hs']] w fun e w' => e = .returned (.bool (eqv (wi, ro, y, x, hi, ch, hs) (wi', ro', y', x', hi', ch', hs'))) ∧ Below w.heap.size w w' := by
  have HR_ch := Aside0.mk hr_ch
  have HS_ch := Aside0.mk hr_ch'
  have HR_hs := Aside0.mk hr_hs
  have HS_hs := Aside0.mk hr_hs'
  clear hr_ch hr_ch' hr_hs hr_hs'
  go_enter Try.func31, Try.ntmps31
  go_wp2_with (first
    | (go_at_call 72; refine Calls.mono (eqInt64S_c _ _ _ _ ch ch' _ (by repeat (first | exact HR_ch.out | refine Kd.C_alloc ?_ _ | refine Kd.C_drewN ?_ _ )) (by repeat (first | exact HS_ch.out | refine Kd.C_alloc ?_ _ | refine Kd.C_drewN ?_ _ ))) ?_; rintro e w' ⟨rfl, ⟨⟨q, rfl⟩⟩⟩)
    | (go_at_call 73; refine Calls.mono (eqBoolS_c _ _ _ _ hs hs' _ (by repeat (first | exact HR_hs.out | refine Kd.C_alloc ?_ _ | refine Kd.C_drewN ?_ _ )) (by repeat (first | exact HS_hs.out | refine Kd.C_alloc ?_ _ | refine Kd.C_drewN ?_ _ ))) ?_; rintro e w' ⟨rfl, ⟨⟨q, rfl⟩⟩⟩))
  all_goals
    go_ret
    refine ⟨by first | (simp_all [eqv, str_eq]; done) | (simp_all [eqv, str_eq]; intros; simp_all; done) | (simp_all [eqv, str_eq]; assumption), ?_⟩
    repeat (first | exact Below.refl _ _ | refine below_alloc ?_ _ | refine pw_below_drewN ?_ _)
set_option maxRecDepth 100000 in
theorem eqTermResult_c (co : Int) (t_wi : Int) (t_ro : Int) (t_y : Int) (t_x : Int) (t_hi : Bool) (A_t_ch : Option Addr) (c_t_ch : Nat) (t_ch : List Int) (A_t_hs : Option Addr) (c_t_hs : Nat) (t_hs : List Bool) (co' : Int) (t_wi' : Int) (t_ro' : Int) (t_y' : Int) (t_x' : Int) (t_hi' : Bool) (A_t_ch' : Option Addr) (c_t_ch' : Nat) (t_ch' : List Int) (A_t_hs' : Option Addr) (c_t_hs' : Nat) (t_hs' : List Bool) (w : World) (hr_t_ch : Kd.C (Kd.int .i64) w A_t_ch t_ch.length t_ch) (hr_t_hs : Kd.C Kd.bool w A_t_hs t_hs.length t_hs) (hr_t_ch' : Kd.C (Kd.int .i64) w A_t_ch' t_ch'.length t_ch') (hr_t_hs' : Kd.C Kd.bool w A_t_hs' t_hs'.length t_hs') :
    Calls Try.prog 34 #[.agg #[.int .i64 co, .int .i64 t_wi, .int .i64 t_ro, .int .i64 t_y, .int .i64 t_x, .bool t_hi, .slice A_t_ch t_ch.length c_t_ch, .slice A_t_hs t_hs.length c_t_hs], .agg #[.int .i64 co', .int .i64 t_wi', .int .i64 t_ro', .int .i64 t_y', .int .i64 t_x', .bool t_hi', .slice A_t_ch' t_ch'.length c_t_ch', .slice A_t_hs' t_hs'.length c_t_hs']] w fun e w' => e = .returned (.bool (eqv (co, t_wi, t_ro, t_y, t_x, t_hi, t_ch, t_hs) (co', t_wi', t_ro', t_y', t_x', t_hi', t_ch', t_hs'))) ∧ Below w.heap.size w w' := by
  have HR_t_ch := Aside0.mk hr_t_ch
  have HS_t_ch := Aside0.mk hr_t_ch'
  have HR_t_hs := Aside0.mk hr_t_hs
  have HS_t_hs := Aside0.mk hr_t_hs'
  clear hr_t_ch hr_t_ch' hr_t_hs hr_t_hs'
  go_enter Try.func34, Try.ntmps34
  go_wp2_with (first
    | (go_at_call 31; refine Calls.mono (eqTerm_c _ _ _ _ _ _ _ t_ch _ _ t_hs _ _ _ _ _ _ _ t_ch' _ _ t_hs' _ (by repeat (first | exact HR_t_ch.out | refine Kd.C_alloc ?_ _ | refine Kd.C_drewN ?_ _ )) (by repeat (first | exact HR_t_hs.out | refine Kd.C_alloc ?_ _ | refine Kd.C_drewN ?_ _ )) (by repeat (first | exact HS_t_ch.out | refine Kd.C_alloc ?_ _ | refine Kd.C_drewN ?_ _ )) (by repeat (first | exact HS_t_hs.out | refine Kd.C_alloc ?_ _ | refine Kd.C_drewN ?_ _ ))) ?_; rintro e w1 ⟨rfl, hb⟩; have HB_t := Aside0.mk hb; clear hb))
  all_goals
    go_ret
    refine ⟨by first | (simp_all [eqv, str_eq]; done) | (simp_all [eqv, str_eq]; intros; simp_all; done) | (simp_all [eqv, str_eq]; assumption), ?_⟩
    repeat (first | exact Below.refl _ _ | refine below_end ?_ HB_t.out | refine below_alloc ?_ _ | refine pw_below_drewN ?_ _)
set_option maxRecDepth 100000 in
theorem eqGrid_c (wi : Int) (A_ch : Option Addr) (c_ch : Nat) (ch : List Int) (A_hs : Option Addr) (c_hs : Nat) (hs : List Bool) (wi' : Int) (A_ch' : Option Addr) (c_ch' : Nat) (ch' : List Int) (A_hs' : Option Addr) (c_hs' : Nat) (hs' : List Bool) (w : World) (hr_ch : Kd.C (Kd.int .i64) w A_ch ch.length ch) (hr_hs : Kd.C Kd.bool w A_hs hs.length hs) (hr_ch' : Kd.C (Kd.int .i64) w A_ch' ch'.length ch') (hr_hs' : Kd.C Kd.bool w A_hs' hs'.length hs') :
    Calls Try.prog 21 #[.agg #[.int .i64 wi, .slice A_ch ch.length c_ch, .slice A_hs hs.length c_hs], .agg #[.int .i64 wi', .slice A_ch' ch'.length c_ch', .slice A_hs' hs'.length c_hs']] w fun e w' => e = .returned (.bool (eqv (wi, ch, hs) (wi', ch', hs'))) ∧ Below w.heap.size w w' := by
  have HR_ch := Aside0.mk hr_ch
  have HS_ch := Aside0.mk hr_ch'
  have HR_hs := Aside0.mk hr_hs
  have HS_hs := Aside0.mk hr_hs'
  clear hr_ch hr_ch' hr_hs hr_hs'
  go_enter Try.func21, Try.ntmps21
  go_wp2_with (first
    | (go_at_call 72; refine Calls.mono (eqInt64S_c _ _ _ _ ch ch' _ (by repeat (first | exact HR_ch.out | refine Kd.C_alloc ?_ _ | refine Kd.C_drewN ?_ _ )) (by repeat (first | exact HS_ch.out | refine Kd.C_alloc ?_ _ | refine Kd.C_drewN ?_ _ ))) ?_; rintro e w' ⟨rfl, ⟨⟨q, rfl⟩⟩⟩)
    | (go_at_call 73; refine Calls.mono (eqBoolS_c _ _ _ _ hs hs' _ (by repeat (first | exact HR_hs.out | refine Kd.C_alloc ?_ _ | refine Kd.C_drewN ?_ _ )) (by repeat (first | exact HS_hs.out | refine Kd.C_alloc ?_ _ | refine Kd.C_drewN ?_ _ ))) ?_; rintro e w' ⟨rfl, ⟨⟨q, rfl⟩⟩⟩))
  all_goals
    go_ret
    refine ⟨by first | (simp_all [eqv, str_eq]; done) | (simp_all [eqv, str_eq]; intros; simp_all; done) | (simp_all [eqv, str_eq]; assumption), ?_⟩
    repeat (first | exact Below.refl _ _ | refine below_alloc ?_ _ | refine pw_below_drewN ?_ _)
set_option maxRecDepth 100000 in
theorem eqGridResult_c (co : Int) (g_wi : Int) (A_g_ch : Option Addr) (c_g_ch : Nat) (g_ch : List Int) (A_g_hs : Option Addr) (c_g_hs : Nat) (g_hs : List Bool) (co' : Int) (g_wi' : Int) (A_g_ch' : Option Addr) (c_g_ch' : Nat) (g_ch' : List Int) (A_g_hs' : Option Addr) (c_g_hs' : Nat) (g_hs' : List Bool) (w : World) (hr_g_ch : Kd.C (Kd.int .i64) w A_g_ch g_ch.length g_ch) (hr_g_hs : Kd.C Kd.bool w A_g_hs g_hs.length g_hs) (hr_g_ch' : Kd.C (Kd.int .i64) w A_g_ch' g_ch'.length g_ch') (hr_g_hs' : Kd.C Kd.bool w A_g_hs' g_hs'.length g_hs') :
    Calls Try.prog 44 #[.agg #[.int .i64 co, .int .i64 g_wi, .slice A_g_ch g_ch.length c_g_ch, .slice A_g_hs g_hs.length c_g_hs], .agg #[.int .i64 co', .int .i64 g_wi', .slice A_g_ch' g_ch'.length c_g_ch', .slice A_g_hs' g_hs'.length c_g_hs']] w fun e w' => e = .returned (.bool (eqv (co, g_wi, g_ch, g_hs) (co', g_wi', g_ch', g_hs'))) ∧ Below w.heap.size w w' := by
  have HR_g_ch := Aside0.mk hr_g_ch
  have HS_g_ch := Aside0.mk hr_g_ch'
  have HR_g_hs := Aside0.mk hr_g_hs
  have HS_g_hs := Aside0.mk hr_g_hs'
  clear hr_g_ch hr_g_ch' hr_g_hs hr_g_hs'
  go_enter Try.func44, Try.ntmps44
  go_wp2_with (first
    | (go_at_call 21; refine Calls.mono (eqGrid_c _ _ _ g_ch _ _ g_hs _ _ _ g_ch' _ _ g_hs' _ (by repeat (first | exact HR_g_ch.out | refine Kd.C_alloc ?_ _ | refine Kd.C_drewN ?_ _ )) (by repeat (first | exact HR_g_hs.out | refine Kd.C_alloc ?_ _ | refine Kd.C_drewN ?_ _ )) (by repeat (first | exact HS_g_ch.out | refine Kd.C_alloc ?_ _ | refine Kd.C_drewN ?_ _ )) (by repeat (first | exact HS_g_hs.out | refine Kd.C_alloc ?_ _ | refine Kd.C_drewN ?_ _ ))) ?_; rintro e w1 ⟨rfl, hb⟩; have HB_g := Aside0.mk hb; clear hb))
  all_goals
    go_ret
    refine ⟨by first | (simp_all [eqv, str_eq]; done) | (simp_all [eqv, str_eq]; intros; simp_all; done) | (simp_all [eqv, str_eq]; assumption), ?_⟩
    repeat (first | exact Below.refl _ _ | refine below_end ?_ HB_g.out | refine below_alloc ?_ _ | refine pw_below_drewN ?_ _)
set_option maxRecDepth 100000 in
theorem eqIntResult_c (co : Int) (va : Int) (co' : Int) (va' : Int) (w : World)   :
    Calls Try.prog 39 #[.agg #[.int .i64 co, .int .i64 va], .agg #[.int .i64 co', .int .i64 va']] w fun e w' => e = .returned (.bool (eqv (co, va) (co', va'))) ∧ Below w.heap.size w w' := by
  go_enter Try.func39, Try.ntmps39
  go_wp2
  all_goals
    go_ret
    refine ⟨by first | (simp_all [eqv, str_eq]; done) | (simp_all [eqv, str_eq]; intros; simp_all; done) | (simp_all [eqv, str_eq]; assumption), ?_⟩
    repeat (first | exact Below.refl _ _ | refine below_alloc ?_ _ | refine pw_below_drewN ?_ _)
set_option maxRecDepth 100000 in
theorem eqTextResult_c (co : Int) (tx : ByteArray) (co' : Int) (tx' : ByteArray) (w : World)   :
    Calls Try.prog 16 #[.agg #[.int .i64 co, .string tx], .agg #[.int .i64 co', .string tx']] w fun e w' => e = .returned (.bool (eqv (co, tx) (co', tx'))) ∧ Below w.heap.size w w' := by
  go_enter Try.func16, Try.ntmps16
  go_wp2
  all_goals
    go_ret
    refine ⟨by first | (simp_all [eqv, str_eq]; done) | (simp_all [eqv, str_eq]; intros; simp_all; done) | (simp_all [eqv, str_eq]; assumption), ?_⟩
    repeat (first | exact Below.refl _ _ | refine below_alloc ?_ _ | refine pw_below_drewN ?_ _)
set_option maxRecDepth 100000 in
theorem eqBytesResult_c (co : Int) (A_bs : Option Addr) (c_bs : Nat) (bs : List Int) (co' : Int) (A_bs' : Option Addr) (c_bs' : Nat) (bs' : List Int) (w : World) (hr_bs : Kd.C (Kd.int .u8) w A_bs bs.length bs) (hr_bs' : Kd.C (Kd.int .u8) w A_bs' bs'.length bs') :
    Calls Try.prog 24 #[.agg #[.int .i64 co, .slice A_bs bs.length c_bs], .agg #[.int .i64 co', .slice A_bs' bs'.length c_bs']] w fun e w' => e = .returned (.bool (eqv (co, bs) (co', bs'))) ∧ Below w.heap.size w w' := by
  have HR_bs := Aside0.mk hr_bs
  have HS_bs := Aside0.mk hr_bs'
  clear hr_bs hr_bs'
  go_enter Try.func24, Try.ntmps24
  go_wp2_with (first
    | (go_at_call 52; refine Calls.mono (eqByteS_c _ _ _ _ bs bs' _ (by repeat (first | exact HR_bs.out | refine Kd.C_alloc ?_ _ | refine Kd.C_drewN ?_ _ )) (by repeat (first | exact HS_bs.out | refine Kd.C_alloc ?_ _ | refine Kd.C_drewN ?_ _ ))) ?_; rintro e w' ⟨rfl, ⟨⟨q, rfl⟩⟩⟩))
  all_goals
    go_ret
    refine ⟨by first | (simp_all [eqv, str_eq]; done) | (simp_all [eqv, str_eq]; intros; simp_all; done) | (simp_all [eqv, str_eq]; assumption), ?_⟩
    repeat (first | exact Below.refl _ _ | refine below_alloc ?_ _ | refine pw_below_drewN ?_ _)
set_option maxRecDepth 100000 in
theorem markTerm_c (wi : Int) (ro : Int) (y : Int) (x : Int) (hi : Bool) (A_ch : Option Addr) (c_ch : Nat) (ch : List Int) (A_hs : Option Addr) (c_hs : Nat) (hs : List Bool) (base k : Nat) (kz : Int) (hz : kz = k) (w : World) (hr_ch : Kd.R (Kd.int .i64) 2 w base (fun _ => True) (.slice A_ch ch.length c_ch) ch) (hr_hs : Kd.R Kd.bool 4 w base (fun _ => True) (.slice A_hs hs.length c_hs) hs) (hd_ch_hs : ∀ b, (Value.slice A_ch ch.length c_ch).ownBlock = some b → (Value.slice A_hs hs.length c_hs).ownBlock = some b → False) (hk : k + ch.length + hs.length ≤ 9223372036854775807) :
    Calls Try.prog 45 #[.agg #[.int .i64 wi, .int .i64 ro, .int .i64 y, .int .i64 x, .bool hi, .slice A_ch ch.length c_ch, .slice A_hs hs.length c_hs], .int .i64 kz] w fun e w' => e = .returned (.int .i64 (kz + (ch.length : Int) + (hs.length : Int))) ∧ Kd.R (Kd.int .i64) 2 w' base (fun _ => True) (.slice A_ch ch.length c_ch) (mkInt64S ch.length k) ∧ Kd.R Kd.bool 4 w' base (fun _ => True) (.slice A_hs hs.length c_hs) (mkBoolS hs.length (k + ch.length)) ∧ Upd w w' (fun b => (Value.slice A_ch ch.length c_ch).ownBlock = some b ∨ (Value.slice A_hs hs.length c_hs).ownBlock = some b) := by
  have HR_ch := Aside0.mk hr_ch
  have HR_hs := Aside0.mk hr_hs
  have HD_ch_hs := Aside0.mk hd_ch_hs
  have HT_ch := Aside0.mk (Kd.R_lt hr_ch)
  have HT_hs := Aside0.mk (Kd.R_lt hr_hs)
  clear hr_ch hr_hs hd_ch_hs
  have HZ := Aside0.mk hz
  clear hz
  go_enter Try.func45, Try.ntmps45
  go_wp2_with fail
  refine Calls.mono (markInt64S_c _ _ base ch k _ (by have := HZ.out; omega) _ (by repeat (first | exact HR_ch.out | refine Kd.R_alloc ?_ _ | refine Kd.R_drewN ?_ _ )) (by omega)) ?_
  rintro e w1 ⟨rfl, hr, hg⟩
  have U0 := Aside0.mk (Upd.of_grown hg)
  have HQ_ch := Aside0.mk hr
  clear hr hg HR_ch
  have HR_ch := HQ_ch
  clear HQ_ch
  have hs0 : w.heap.size < w1.heap.size := by have := U0.out.size; (try simp only [size_alloc] at this); omega
  have hx0 := fun o => U0.out.cell (p := ⟨w.heap.size, o, none⟩) (by show w.heap.size < _; rw [size_alloc]; omega) (fun hS => Nat.lt_irrefl w.heap.size (HT_ch.out _ hS))
  go_wp2_with fail
  refine Calls.mono (markBoolS_c _ _ base hs (k + ch.length) _ (by have := HZ.out; omega) _ (by repeat (first | exact HR_hs.out | refine Kd.R_alloc ?_ _ | refine Kd.R_drewN ?_ _ | refine R_upd (ok := fun _ => True) ?_ U0.out (fun b h1 hS => HD_ch_hs.out b hS h1) )) (by omega)) ?_
  rintro e w2 ⟨rfl, hr, hg⟩
  have U1 := Aside0.mk (Upd.of_grown hg)
  have HQ_hs := Aside0.mk hr
  clear hr hg HR_hs
  have HR_hs := HQ_hs
  clear HQ_hs
  have hs1 : w.heap.size < w2.heap.size := by have := U1.out.size; (try simp only [size_alloc] at this); omega
  have hx1 := fun o => U1.out.cell (p := ⟨w.heap.size, o, none⟩) hs0 (fun hS => Nat.lt_irrefl w.heap.size (HT_hs.out _ hS))
  go_wp2
  go_ret
  refine ⟨by first | rfl | (simp; done) | (simp; omega), (by repeat (first | exact HR_ch.out | refine Kd.R_alloc ?_ _ | refine Kd.R_drewN ?_ _ | refine R_upd (ok := fun _ => True) ?_ U1.out (fun b h1 hS => HD_ch_hs.out b h1 hS) )), (by repeat (first | exact HR_hs.out | refine Kd.R_alloc ?_ _ | refine Kd.R_drewN ?_ _ | refine R_upd (ok := fun _ => True) ?_ U0.out (fun b h1 hS => HD_ch_hs.out b hS h1) )), ?_⟩
  exact ((Upd.of_below (below_alloc (Below.refl _ _) _) _).trans U0.out (fun b _ h => h) (fun b _ h => Or.inl h)).trans U1.out (fun b _ h => h) (fun b _ h => Or.inr (h))
set_option maxRecDepth 100000 in
theorem markTermResult_c (co : Int) (t_wi : Int) (t_ro : Int) (t_y : Int) (t_x : Int) (t_hi : Bool) (A_t_ch : Option Addr) (c_t_ch : Nat) (t_ch : List Int) (A_t_hs : Option Addr) (c_t_hs : Nat) (t_hs : List Bool) (base k : Nat) (kz : Int) (hz : kz = k) (w : World) (hr_t_ch : Kd.R (Kd.int .i64) 2 w base (fun _ => True) (.slice A_t_ch t_ch.length c_t_ch) t_ch) (hr_t_hs : Kd.R Kd.bool 4 w base (fun _ => True) (.slice A_t_hs t_hs.length c_t_hs) t_hs) (hd_t_ch_t_hs : ∀ b, (Value.slice A_t_ch t_ch.length c_t_ch).ownBlock = some b → (Value.slice A_t_hs t_hs.length c_t_hs).ownBlock = some b → False) (hk : k + t_ch.length + t_hs.length ≤ 9223372036854775807) :
    Calls Try.prog 35 #[.agg #[.int .i64 co, .int .i64 t_wi, .int .i64 t_ro, .int .i64 t_y, .int .i64 t_x, .bool t_hi, .slice A_t_ch t_ch.length c_t_ch, .slice A_t_hs t_hs.length c_t_hs], .int .i64 kz] w fun e w' => e = .returned (.int .i64 (kz + (t_ch.length : Int) + (t_hs.length : Int))) ∧ Kd.R (Kd.int .i64) 2 w' base (fun _ => True) (.slice A_t_ch t_ch.length c_t_ch) (mkInt64S t_ch.length k) ∧ Kd.R Kd.bool 4 w' base (fun _ => True) (.slice A_t_hs t_hs.length c_t_hs) (mkBoolS t_hs.length (k + t_ch.length)) ∧ Upd w w' (fun b => (Value.slice A_t_ch t_ch.length c_t_ch).ownBlock = some b ∨ (Value.slice A_t_hs t_hs.length c_t_hs).ownBlock = some b) := by
  have HR_t_ch := Aside0.mk hr_t_ch
  have HR_t_hs := Aside0.mk hr_t_hs
  have HD_t_ch_t_hs := Aside0.mk hd_t_ch_t_hs
  have HT_t_ch := Aside0.mk (Kd.R_lt hr_t_ch)
  have HT_t_hs := Aside0.mk (Kd.R_lt hr_t_hs)
  clear hr_t_ch hr_t_hs hd_t_ch_t_hs
  have HZ := Aside0.mk hz
  clear hz
  go_enter Try.func35, Try.ntmps35
  go_wp2_with fail
  refine Calls.mono (markTerm_c _ _ _ _ _ _ _ t_ch _ _ t_hs base k _ (by have := HZ.out; omega) _ (by repeat (first | exact HR_t_ch.out | refine Kd.R_alloc ?_ _ | refine Kd.R_drewN ?_ _ )) (by repeat (first | exact HR_t_hs.out | refine Kd.R_alloc ?_ _ | refine Kd.R_drewN ?_ _ )) HD_t_ch_t_hs.out (by omega)) ?_
  rintro e w1 ⟨rfl, hr0, hr1, hu⟩
  have U0 := Aside0.mk hu
  have HQ_t_ch := Aside0.mk hr0
  have HQ_t_hs := Aside0.mk hr1
  clear hu hr0 hr1 HR_t_ch HR_t_hs
  have HR_t_ch := HQ_t_ch
  clear HQ_t_ch
  have HR_t_hs := HQ_t_hs
  clear HQ_t_hs
  have hs0 : w.heap.size < w1.heap.size := by have := U0.out.size; (try simp only [size_alloc] at this); omega
  have hx0 := fun o => U0.out.cell (p := ⟨w.heap.size, o, none⟩) (by show w.heap.size < _; rw [size_alloc]; omega) (fun hS => Nat.lt_irrefl w.heap.size (by rcases hS with hS | hS <;> first | exact HT_t_ch.out _ hS | exact HT_t_hs.out _ hS))
  go_wp2
  go_ret
  refine ⟨by first | rfl | (simp; done) | (simp; omega), (by repeat (first | exact HR_t_ch.out | refine Kd.R_alloc ?_ _ | refine Kd.R_drewN ?_ _ )), (by repeat (first | exact HR_t_hs.out | refine Kd.R_alloc ?_ _ | refine Kd.R_drewN ?_ _ )), ?_⟩
  exact (Upd.of_below (below_alloc (Below.refl _ _) _) _).trans U0.out (fun b _ h => h) (fun b _ h => by rcases h with h | h <;> first | exact Or.inl h | exact Or.inr (h))
set_option maxRecDepth 100000 in
theorem markGrid_c (wi : Int) (A_ch : Option Addr) (c_ch : Nat) (ch : List Int) (A_hs : Option Addr) (c_hs : Nat) (hs : List Bool) (base k : Nat) (kz : Int) (hz : kz = k) (w : World) (hr_ch : Kd.R (Kd.int .i64) 2 w base (fun _ => True) (.slice A_ch ch.length c_ch) ch) (hr_hs : Kd.R Kd.bool 4 w base (fun _ => True) (.slice A_hs hs.length c_hs) hs) (hd_ch_hs : ∀ b, (Value.slice A_ch ch.length c_ch).ownBlock = some b → (Value.slice A_hs hs.length c_hs).ownBlock = some b → False) (hk : k + ch.length + hs.length ≤ 9223372036854775807) :
    Calls Try.prog 95 #[.agg #[.int .i64 wi, .slice A_ch ch.length c_ch, .slice A_hs hs.length c_hs], .int .i64 kz] w fun e w' => e = .returned (.int .i64 (kz + (ch.length : Int) + (hs.length : Int))) ∧ Kd.R (Kd.int .i64) 2 w' base (fun _ => True) (.slice A_ch ch.length c_ch) (mkInt64S ch.length k) ∧ Kd.R Kd.bool 4 w' base (fun _ => True) (.slice A_hs hs.length c_hs) (mkBoolS hs.length (k + ch.length)) ∧ Upd w w' (fun b => (Value.slice A_ch ch.length c_ch).ownBlock = some b ∨ (Value.slice A_hs hs.length c_hs).ownBlock = some b) := by
  have HR_ch := Aside0.mk hr_ch
  have HR_hs := Aside0.mk hr_hs
  have HD_ch_hs := Aside0.mk hd_ch_hs
  have HT_ch := Aside0.mk (Kd.R_lt hr_ch)
  have HT_hs := Aside0.mk (Kd.R_lt hr_hs)
  clear hr_ch hr_hs hd_ch_hs
  have HZ := Aside0.mk hz
  clear hz
  go_enter Try.func95, Try.ntmps95
  go_wp2_with fail
  refine Calls.mono (markInt64S_c _ _ base ch k _ (by have := HZ.out; omega) _ (by repeat (first | exact HR_ch.out | refine Kd.R_alloc ?_ _ | refine Kd.R_drewN ?_ _ )) (by omega)) ?_
  rintro e w1 ⟨rfl, hr, hg⟩
  have U0 := Aside0.mk (Upd.of_grown hg)
  have HQ_ch := Aside0.mk hr
  clear hr hg HR_ch
  have HR_ch := HQ_ch
  clear HQ_ch
  have hs0 : w.heap.size < w1.heap.size := by have := U0.out.size; (try simp only [size_alloc] at this); omega
  have hx0 := fun o => U0.out.cell (p := ⟨w.heap.size, o, none⟩) (by show w.heap.size < _; rw [size_alloc]; omega) (fun hS => Nat.lt_irrefl w.heap.size (HT_ch.out _ hS))
  go_wp2_with fail
  refine Calls.mono (markBoolS_c _ _ base hs (k + ch.length) _ (by have := HZ.out; omega) _ (by repeat (first | exact HR_hs.out | refine Kd.R_alloc ?_ _ | refine Kd.R_drewN ?_ _ | refine R_upd (ok := fun _ => True) ?_ U0.out (fun b h1 hS => HD_ch_hs.out b hS h1) )) (by omega)) ?_
  rintro e w2 ⟨rfl, hr, hg⟩
  have U1 := Aside0.mk (Upd.of_grown hg)
  have HQ_hs := Aside0.mk hr
  clear hr hg HR_hs
  have HR_hs := HQ_hs
  clear HQ_hs
  have hs1 : w.heap.size < w2.heap.size := by have := U1.out.size; (try simp only [size_alloc] at this); omega
  have hx1 := fun o => U1.out.cell (p := ⟨w.heap.size, o, none⟩) hs0 (fun hS => Nat.lt_irrefl w.heap.size (HT_hs.out _ hS))
  go_wp2
  go_ret
  refine ⟨by first | rfl | (simp; done) | (simp; omega), (by repeat (first | exact HR_ch.out | refine Kd.R_alloc ?_ _ | refine Kd.R_drewN ?_ _ | refine R_upd (ok := fun _ => True) ?_ U1.out (fun b h1 hS => HD_ch_hs.out b h1 hS) )), (by repeat (first | exact HR_hs.out | refine Kd.R_alloc ?_ _ | refine Kd.R_drewN ?_ _ | refine R_upd (ok := fun _ => True) ?_ U0.out (fun b h1 hS => HD_ch_hs.out b hS h1) )), ?_⟩
  exact ((Upd.of_below (below_alloc (Below.refl _ _) _) _).trans U0.out (fun b _ h => h) (fun b _ h => Or.inl h)).trans U1.out (fun b _ h => h) (fun b _ h => Or.inr (h))
set_option maxRecDepth 100000 in
theorem markGridResult_c (co : Int) (g_wi : Int) (A_g_ch : Option Addr) (c_g_ch : Nat) (g_ch : List Int) (A_g_hs : Option Addr) (c_g_hs : Nat) (g_hs : List Bool) (base k : Nat) (kz : Int) (hz : kz = k) (w : World) (hr_g_ch : Kd.R (Kd.int .i64) 2 w base (fun _ => True) (.slice A_g_ch g_ch.length c_g_ch) g_ch) (hr_g_hs : Kd.R Kd.bool 4 w base (fun _ => True) (.slice A_g_hs g_hs.length c_g_hs) g_hs) (hd_g_ch_g_hs : ∀ b, (Value.slice A_g_ch g_ch.length c_g_ch).ownBlock = some b → (Value.slice A_g_hs g_hs.length c_g_hs).ownBlock = some b → False) (hk : k + g_ch.length + g_hs.length ≤ 9223372036854775807) :
    Calls Try.prog 46 #[.agg #[.int .i64 co, .int .i64 g_wi, .slice A_g_ch g_ch.length c_g_ch, .slice A_g_hs g_hs.length c_g_hs], .int .i64 kz] w fun e w' => e = .returned (.int .i64 (kz + (g_ch.length : Int) + (g_hs.length : Int))) ∧ Kd.R (Kd.int .i64) 2 w' base (fun _ => True) (.slice A_g_ch g_ch.length c_g_ch) (mkInt64S g_ch.length k) ∧ Kd.R Kd.bool 4 w' base (fun _ => True) (.slice A_g_hs g_hs.length c_g_hs) (mkBoolS g_hs.length (k + g_ch.length)) ∧ Upd w w' (fun b => (Value.slice A_g_ch g_ch.length c_g_ch).ownBlock = some b ∨ (Value.slice A_g_hs g_hs.length c_g_hs).ownBlock = some b) := by
  have HR_g_ch := Aside0.mk hr_g_ch
  have HR_g_hs := Aside0.mk hr_g_hs
  have HD_g_ch_g_hs := Aside0.mk hd_g_ch_g_hs
  have HT_g_ch := Aside0.mk (Kd.R_lt hr_g_ch)
  have HT_g_hs := Aside0.mk (Kd.R_lt hr_g_hs)
  clear hr_g_ch hr_g_hs hd_g_ch_g_hs
  have HZ := Aside0.mk hz
  clear hz
  go_enter Try.func46, Try.ntmps46
  go_wp2_with fail
  refine Calls.mono (markGrid_c _ _ _ g_ch _ _ g_hs base k _ (by have := HZ.out; omega) _ (by repeat (first | exact HR_g_ch.out | refine Kd.R_alloc ?_ _ | refine Kd.R_drewN ?_ _ )) (by repeat (first | exact HR_g_hs.out | refine Kd.R_alloc ?_ _ | refine Kd.R_drewN ?_ _ )) HD_g_ch_g_hs.out (by omega)) ?_
  rintro e w1 ⟨rfl, hr0, hr1, hu⟩
  have U0 := Aside0.mk hu
  have HQ_g_ch := Aside0.mk hr0
  have HQ_g_hs := Aside0.mk hr1
  clear hu hr0 hr1 HR_g_ch HR_g_hs
  have HR_g_ch := HQ_g_ch
  clear HQ_g_ch
  have HR_g_hs := HQ_g_hs
  clear HQ_g_hs
  have hs0 : w.heap.size < w1.heap.size := by have := U0.out.size; (try simp only [size_alloc] at this); omega
  have hx0 := fun o => U0.out.cell (p := ⟨w.heap.size, o, none⟩) (by show w.heap.size < _; rw [size_alloc]; omega) (fun hS => Nat.lt_irrefl w.heap.size (by rcases hS with hS | hS <;> first | exact HT_g_ch.out _ hS | exact HT_g_hs.out _ hS))
  go_wp2
  go_ret
  refine ⟨by first | rfl | (simp; done) | (simp; omega), (by repeat (first | exact HR_g_ch.out | refine Kd.R_alloc ?_ _ | refine Kd.R_drewN ?_ _ )), (by repeat (first | exact HR_g_hs.out | refine Kd.R_alloc ?_ _ | refine Kd.R_drewN ?_ _ )), ?_⟩
  exact (Upd.of_below (below_alloc (Below.refl _ _) _) _).trans U0.out (fun b _ h => h) (fun b _ h => by rcases h with h | h <;> first | exact Or.inl h | exact Or.inr (h))
set_option maxRecDepth 100000 in
theorem markBytesResult_c (co : Int) (A_bs : Option Addr) (c_bs : Nat) (bs : List Int) (base k : Nat) (kz : Int) (hz : kz = k) (w : World) (hr_bs : Kd.R (Kd.int .u8) 5 w base (fun _ => True) (.slice A_bs bs.length c_bs) bs)  (hk : k + bs.length ≤ 9223372036854775807) :
    Calls Try.prog 25 #[.agg #[.int .i64 co, .slice A_bs bs.length c_bs], .int .i64 kz] w fun e w' => e = .returned (.int .i64 (kz + (bs.length : Int))) ∧ Kd.R (Kd.int .u8) 5 w' base (fun _ => True) (.slice A_bs bs.length c_bs) (mkByteS bs.length k) ∧ Upd w w' (fun b => (Value.slice A_bs bs.length c_bs).ownBlock = some b) := by
  have HR_bs := Aside0.mk hr_bs
  have HT_bs := Aside0.mk (Kd.R_lt hr_bs)
  clear hr_bs
  have HZ := Aside0.mk hz
  clear hz
  go_enter Try.func25, Try.ntmps25
  go_wp2_with fail
  refine Calls.mono (markByteS_c _ _ base bs k _ (by have := HZ.out; omega) _ (by repeat (first | exact HR_bs.out | refine Kd.R_alloc ?_ _ | refine Kd.R_drewN ?_ _ )) (by omega)) ?_
  rintro e w1 ⟨rfl, hr, hg⟩
  have U0 := Aside0.mk (Upd.of_grown hg)
  have HQ_bs := Aside0.mk hr
  clear hr hg HR_bs
  have HR_bs := HQ_bs
  clear HQ_bs
  have hs0 : w.heap.size < w1.heap.size := by have := U0.out.size; (try simp only [size_alloc] at this); omega
  have hx0 := fun o => U0.out.cell (p := ⟨w.heap.size, o, none⟩) (by show w.heap.size < _; rw [size_alloc]; omega) (fun hS => Nat.lt_irrefl w.heap.size (HT_bs.out _ hS))
  go_wp2
  go_ret
  refine ⟨by first | rfl | (simp; done) | (simp; omega), (by repeat (first | exact HR_bs.out | refine Kd.R_alloc ?_ _ | refine Kd.R_drewN ?_ _ )), ?_⟩
  exact (Upd.of_below (below_alloc (Below.refl _ _) _) _).trans U0.out (fun b _ h => h) (fun b _ h => h)
set_option maxRecDepth 100000 in
theorem heldTerm_c (wi : Int) (ro : Int) (y : Int) (x : Int) (hi : Bool) (A_ch : Option Addr) (n_ch c_ch : Nat) (A_hs : Option Addr) (n_hs c_hs : Nat) (k : Nat) (kz : Int) (hz : kz = k) (w : World) (hr_ch : Kd.C (Kd.int .i64) w A_ch n_ch (mkInt64S n_ch k)) (hr_hs : Kd.C Kd.bool w A_hs n_hs (mkBoolS n_hs (k + n_ch))) (hk : k + n_ch + n_hs ≤ 9223372036854775807) :
    Calls Try.prog 84 #[.agg #[.int .i64 wi, .int .i64 ro, .int .i64 y, .int .i64 x, .bool hi, .slice A_ch n_ch c_ch, .slice A_hs n_hs c_hs], .int .i64 kz] w fun e w' => e = .returned (.int .i64 (kz + (n_ch : Int) + (n_hs : Int))) ∧ Below w.heap.size w w' := by
  have HZ := Aside0.mk hz
  have hz0 : 0 ≤ kz := by omega
  have hz1 : kz + n_ch + n_hs ≤ 9223372036854775807 := by omega
  clear hz
  have HR_ch := Aside0.mk hr_ch
  have HR_hs := Aside0.mk hr_hs
  clear hr_ch hr_hs
  go_enter Try.func84, Try.ntmps84
  go_wp2_with fail
  refine Calls.mono (heldInt64S_c _ _ _ k _ (by have := HZ.out; omega) _ (by repeat (first | exact HR_ch.out | refine Kd.C_alloc ?_ _ | refine Kd.C_drewN ?_ _ )) (by omega)) ?_
  rintro e w1 ⟨rfl, ⟨⟨q0, rfl⟩⟩⟩
  go_wp2_with fail
  refine Calls.mono (heldBoolS_c _ _ _ (k + n_ch) _ (by have := HZ.out; omega) _ (by repeat (first | exact HR_hs.out | refine Kd.C_alloc ?_ _ | refine Kd.C_drewN ?_ _ )) (by omega)) ?_
  rintro e w2 ⟨rfl, ⟨⟨q1, rfl⟩⟩⟩
  go_wp2
  go_ret
  refine ⟨by first | rfl | (simp; done) | (simp; omega), ?_⟩
  repeat (first | exact Below.refl _ _ | refine below_alloc ?_ _ | refine pw_below_drewN ?_ _)
set_option maxRecDepth 100000 in
theorem heldTermResult_c (co : Int) (t_wi : Int) (t_ro : Int) (t_y : Int) (t_x : Int) (t_hi : Bool) (A_t_ch : Option Addr) (n_t_ch c_t_ch : Nat) (A_t_hs : Option Addr) (n_t_hs c_t_hs : Nat) (k : Nat) (kz : Int) (hz : kz = k) (w : World) (hr_t_ch : Kd.C (Kd.int .i64) w A_t_ch n_t_ch (mkInt64S n_t_ch k)) (hr_t_hs : Kd.C Kd.bool w A_t_hs n_t_hs (mkBoolS n_t_hs (k + n_t_ch))) (hk : k + n_t_ch + n_t_hs ≤ 9223372036854775807) :
    Calls Try.prog 36 #[.agg #[.int .i64 co, .int .i64 t_wi, .int .i64 t_ro, .int .i64 t_y, .int .i64 t_x, .bool t_hi, .slice A_t_ch n_t_ch c_t_ch, .slice A_t_hs n_t_hs c_t_hs], .int .i64 kz] w fun e w' => e = .returned (.int .i64 (kz + (n_t_ch : Int) + (n_t_hs : Int))) ∧ Below w.heap.size w w' := by
  have HZ := Aside0.mk hz
  have hz0 : 0 ≤ kz := by omega
  have hz1 : kz + n_t_ch + n_t_hs ≤ 9223372036854775807 := by omega
  clear hz
  have HR_t_ch := Aside0.mk hr_t_ch
  have HR_t_hs := Aside0.mk hr_t_hs
  clear hr_t_ch hr_t_hs
  go_enter Try.func36, Try.ntmps36
  go_wp2_with fail
  refine Calls.mono (heldTerm_c _ _ _ _ _ _ _ _ _ _ _ k _ (by have := HZ.out; omega) _ (by repeat (first | exact HR_t_ch.out | refine Kd.C_alloc ?_ _ | refine Kd.C_drewN ?_ _ )) (by repeat (first | exact HR_t_hs.out | refine Kd.C_alloc ?_ _ | refine Kd.C_drewN ?_ _ )) (by omega)) ?_
  rintro e w1 ⟨rfl, hb⟩
  have HB0 := Aside0.mk hb
  clear hb
  go_wp2
  go_ret
  refine ⟨by first | rfl | (simp; done) | (simp; omega), ?_⟩
  repeat (first | exact Below.refl _ _ | refine below_end ?_ HB0.out | refine below_alloc ?_ _ | refine pw_below_drewN ?_ _)
set_option maxRecDepth 100000 in
theorem heldGrid_c (wi : Int) (A_ch : Option Addr) (n_ch c_ch : Nat) (A_hs : Option Addr) (n_hs c_hs : Nat) (k : Nat) (kz : Int) (hz : kz = k) (w : World) (hr_ch : Kd.C (Kd.int .i64) w A_ch n_ch (mkInt64S n_ch k)) (hr_hs : Kd.C Kd.bool w A_hs n_hs (mkBoolS n_hs (k + n_ch))) (hk : k + n_ch + n_hs ≤ 9223372036854775807) :
    Calls Try.prog 96 #[.agg #[.int .i64 wi, .slice A_ch n_ch c_ch, .slice A_hs n_hs c_hs], .int .i64 kz] w fun e w' => e = .returned (.int .i64 (kz + (n_ch : Int) + (n_hs : Int))) ∧ Below w.heap.size w w' := by
  have HZ := Aside0.mk hz
  have hz0 : 0 ≤ kz := by omega
  have hz1 : kz + n_ch + n_hs ≤ 9223372036854775807 := by omega
  clear hz
  have HR_ch := Aside0.mk hr_ch
  have HR_hs := Aside0.mk hr_hs
  clear hr_ch hr_hs
  go_enter Try.func96, Try.ntmps96
  go_wp2_with fail
  refine Calls.mono (heldInt64S_c _ _ _ k _ (by have := HZ.out; omega) _ (by repeat (first | exact HR_ch.out | refine Kd.C_alloc ?_ _ | refine Kd.C_drewN ?_ _ )) (by omega)) ?_
  rintro e w1 ⟨rfl, ⟨⟨q0, rfl⟩⟩⟩
  go_wp2_with fail
  refine Calls.mono (heldBoolS_c _ _ _ (k + n_ch) _ (by have := HZ.out; omega) _ (by repeat (first | exact HR_hs.out | refine Kd.C_alloc ?_ _ | refine Kd.C_drewN ?_ _ )) (by omega)) ?_
  rintro e w2 ⟨rfl, ⟨⟨q1, rfl⟩⟩⟩
  go_wp2
  go_ret
  refine ⟨by first | rfl | (simp; done) | (simp; omega), ?_⟩
  repeat (first | exact Below.refl _ _ | refine below_alloc ?_ _ | refine pw_below_drewN ?_ _)
set_option maxRecDepth 100000 in
theorem heldGridResult_c (co : Int) (g_wi : Int) (A_g_ch : Option Addr) (n_g_ch c_g_ch : Nat) (A_g_hs : Option Addr) (n_g_hs c_g_hs : Nat) (k : Nat) (kz : Int) (hz : kz = k) (w : World) (hr_g_ch : Kd.C (Kd.int .i64) w A_g_ch n_g_ch (mkInt64S n_g_ch k)) (hr_g_hs : Kd.C Kd.bool w A_g_hs n_g_hs (mkBoolS n_g_hs (k + n_g_ch))) (hk : k + n_g_ch + n_g_hs ≤ 9223372036854775807) :
    Calls Try.prog 47 #[.agg #[.int .i64 co, .int .i64 g_wi, .slice A_g_ch n_g_ch c_g_ch, .slice A_g_hs n_g_hs c_g_hs], .int .i64 kz] w fun e w' => e = .returned (.int .i64 (kz + (n_g_ch : Int) + (n_g_hs : Int))) ∧ Below w.heap.size w w' := by
  have HZ := Aside0.mk hz
  have hz0 : 0 ≤ kz := by omega
  have hz1 : kz + n_g_ch + n_g_hs ≤ 9223372036854775807 := by omega
  clear hz
  have HR_g_ch := Aside0.mk hr_g_ch
  have HR_g_hs := Aside0.mk hr_g_hs
  clear hr_g_ch hr_g_hs
  go_enter Try.func47, Try.ntmps47
  go_wp2_with fail
  refine Calls.mono (heldGrid_c _ _ _ _ _ _ _ k _ (by have := HZ.out; omega) _ (by repeat (first | exact HR_g_ch.out | refine Kd.C_alloc ?_ _ | refine Kd.C_drewN ?_ _ )) (by repeat (first | exact HR_g_hs.out | refine Kd.C_alloc ?_ _ | refine Kd.C_drewN ?_ _ )) (by omega)) ?_
  rintro e w1 ⟨rfl, hb⟩
  have HB0 := Aside0.mk hb
  clear hb
  go_wp2
  go_ret
  refine ⟨by first | rfl | (simp; done) | (simp; omega), ?_⟩
  repeat (first | exact Below.refl _ _ | refine below_end ?_ HB0.out | refine below_alloc ?_ _ | refine pw_below_drewN ?_ _)
set_option maxRecDepth 100000 in
theorem heldBytesResult_c (co : Int) (A_bs : Option Addr) (n_bs c_bs : Nat) (k : Nat) (kz : Int) (hz : kz = k) (w : World) (hr_bs : Kd.C (Kd.int .u8) w A_bs n_bs (mkByteS n_bs k)) (hk : k + n_bs ≤ 9223372036854775807) :
    Calls Try.prog 26 #[.agg #[.int .i64 co, .slice A_bs n_bs c_bs], .int .i64 kz] w fun e w' => e = .returned (.int .i64 (kz + (n_bs : Int))) ∧ Below w.heap.size w w' := by
  have HZ := Aside0.mk hz
  have hz0 : 0 ≤ kz := by omega
  have hz1 : kz + n_bs ≤ 9223372036854775807 := by omega
  clear hz
  have HR_bs := Aside0.mk hr_bs
  clear hr_bs
  go_enter Try.func26, Try.ntmps26
  go_wp2_with fail
  refine Calls.mono (heldByteS_c _ _ _ k _ (by have := HZ.out; omega) _ (by repeat (first | exact HR_bs.out | refine Kd.C_alloc ?_ _ | refine Kd.C_drewN ?_ _ )) (by omega)) ?_
  rintro e w1 ⟨rfl, ⟨⟨q0, rfl⟩⟩⟩
  go_wp2
  go_ret
  refine ⟨by first | rfl | (simp; done) | (simp; omega), ?_⟩
  repeat (first | exact Below.refl _ _ | refine below_alloc ?_ _ | refine pw_below_drewN ?_ _)
end Go.Proofs.Ytpfponhaofdbaaa.M
