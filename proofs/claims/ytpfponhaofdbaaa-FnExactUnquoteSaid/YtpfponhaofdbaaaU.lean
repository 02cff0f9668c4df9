import Derived.Test.YtpfponhaofdbaaaM1
import Derived.Test.YtpfponhaofdbaaaK2
import Derived.Lib.Bytealg
import Derived.Laws.Externs
set_option linter.unusedVariables false
set_option linter.unusedSimpArgs false
namespace Go.Proofs.Ytpfponhaofdbaaa.M
open Go.RowKit Go.Proofs.YtpfponhaofdbaaaW.PrintWords

/-! strings.IndexByte -/
set_option maxRecDepth 100000 in
theorem slIndexByte_c (s : ByteArray) (c : Int) (w : World) : Calls Try.prog 111 #[.string s, .int .u8 c] w fun e w' => e = .returned (.int .i64 (Lib.indexByte s.data.toList c.toNat.toUInt8)) ∧ w = w' := by
  go_enter Try.func111, Try.ntmps111
  go_wp2
  rw [run_callFunc_extern Try.func140 (by kernel_rfl) (by kernel_rfl) (by kernel_rfl) (e := Extern.BytealgIndexByte.indexByte) (by kernel_rfl), Lib.run_indexByteString]
  simp only [Result.andThen]
  rw [Oper.upon_value]
  go_wp2
  go_ret
  exact ⟨rfl, rfl⟩
theorem indexByte_c (s : ByteArray) (c : Int) (w : World) : Calls Try.prog 76 #[.string s, .int .u8 c] w fun e w' => e = .returned (.int .i64 (Lib.indexByte s.data.toList c.toNat.toUInt8)) ∧ w = w' := by
  go_enter Try.func76, Try.ntmps76
  go_wp2_with (go_at_call 111; refine Calls.mono (slIndexByte_c _ _ _) ?_; rintro e w' ⟨rfl, rfl⟩)
  all_goals
    go_ret
    exact ⟨rfl, rfl⟩

/-! the escapes -/
def escOf (c : Int) : Int := if c = 110 then 10 else if c = 115 then 32 else if c = 101 then 27 else if c = 116 then 9 else if c = 92 then 92 else 0
theorem escOf_bd (c : Int) : 0 ≤ escOf c ∧ escOf c ≤ 92 := by
  unfold escOf
  repeat' split
  all_goals omega
def escFrom : ByteArray := ⟨#[110, 115, 101, 116, 92]⟩
def escTo : ByteArray := ⟨#[10, 32, 27, 9, 92]⟩
theorem esc_idx (c : Int) (h0 : 0 ≤ c) (h1 : c ≤ 255) : (escOf c = 0 ∧ Lib.indexByte escFrom.data.toList c.toNat.toUInt8 = -1) ∨ (escOf c ≠ 0 ∧ ∃ k : Nat, k < 5 ∧ Lib.indexByte escFrom.data.toList c.toNat.toUInt8 = (k : Int) ∧ bt escTo k = escOf c) := by
  obtain ⟨n, rfl⟩ := Int.eq_ofNat_of_zero_le h0
  have hn : n < 256 := by omega
  have H : ∀ m : Fin 256, (escOf (m.val : Int) = 0 ∧ Lib.indexByte escFrom.data.toList (m.val : Int).toNat.toUInt8 = -1) ∨ (escOf (m.val : Int) ≠ 0 ∧ ∃ k : Fin 5, Lib.indexByte escFrom.data.toList (m.val : Int).toNat.toUInt8 = (k.val : Int) ∧ bt escTo (k.val : Int) = escOf (m.val : Int)) := by decide +kernel
  rcases H ⟨n, hn⟩ with h | ⟨h, k, h2, h3⟩
  · exact .inl h
  · exact .inr ⟨h, k.val, k.isLt, h2, h3⟩

theorem escB (c : Int) : escOf c = cond (c == 110) 10 (cond (c == 115) 32 (cond (c == 101) 27 (cond (c == 116) 9 (cond (c == 92) 92 0)))) := by
  simp only [escOf, cond_eq_ite, beq_iff_eq]
theorem l16Escape_c (c : Int) (w : World) : Calls Try.prog 110 #[.int .u8 c] w fun e w' => e = .returned (.int .u8 (escOf c)) ∧ w = w' := by
  go_enter Try.func110, Try.ntmps110
  go_wp2
  all_goals
    go_ret
    exact ⟨by simp only [escB, *, cond_true, cond_false]; rfl, rfl⟩

/-- Behind the bytes ahead of i: what is told, none where a byte cannot be. -/
def unqGo (s : ByteArray) (i : Nat) (out : List Int) : Option (List Int) :=
  if i < s.size then
    if bt s i < 33 ∨ 126 < bt s i then none
    else if bt s i = 92 then
      if i + 1 < s.size then if escOf (bt s ((i + 1 : Nat) : Int)) = 0 then none else unqGo s (i + 2) (out ++ [escOf (bt s ((i + 1 : Nat) : Int))]) else none
    else unqGo s (i + 1) (out ++ [bt s i])
  else some out
termination_by s.size - i
def unquote (s : ByteArray) : Int × List Int :=
  if 400 < s.size then (2, []) else match unqGo s 0 [] with
  | none => (5, [])
  | some l => (0, l)
theorem unq_bad {s : ByteArray} {i : Nat} {out : List Int} (h : i < s.size) (hb : bt s i < 33 ∨ 126 < bt s i) : unqGo s i out = none := by
  rw [unqGo, if_pos h, if_pos hb]
theorem unq_one {s : ByteArray} {i : Nat} {out : List Int} (h : i < s.size) (hb : ¬ (bt s i < 33 ∨ 126 < bt s i)) (h2 : ¬ bt s i = 92) : unqGo s i out = unqGo s (i + 1) (out ++ [bt s i]) := by
  rw [unqGo, if_pos h, if_neg hb, if_neg h2]
theorem unq_end {s : ByteArray} {i : Nat} {out : List Int} (h : i < s.size) (h2 : bt s i = 92) (h3 : ¬ i + 1 < s.size) : unqGo s i out = none := by
  rw [unqGo, if_pos h, if_neg (by omega), if_pos h2, if_neg h3]
theorem unq_no {s : ByteArray} {i : Nat} {out : List Int} (h : i < s.size) (h2 : bt s i = 92) (h3 : i + 1 < s.size) (h4 : escOf (bt s ((i + 1 : Nat) : Int)) = 0) : unqGo s i out = none := by
  rw [unqGo, if_pos h, if_neg (by omega), if_pos h2, if_pos h3, if_pos h4]
theorem unq_two {s : ByteArray} {i : Nat} {out : List Int} (h : i < s.size) (h2 : bt s i = 92) (h3 : i + 1 < s.size) (h4 : ¬ escOf (bt s ((i + 1 : Nat) : Int)) = 0) : unqGo s i out = unqGo s (i + 2) (out ++ [escOf (bt s ((i + 1 : Nat) : Int))]) := by
  rw [unqGo, if_pos h, if_neg (by omega), if_pos h2, if_pos h3, if_neg h4]
theorem unq_out {s : ByteArray} {i : Nat} {out : List Int} (h : ¬ i < s.size) : unqGo s i out = some out := by
  rw [unqGo, if_neg h]
theorem info_u8 : (Try.prog.info? 5).map (fun i => (i.zero, i.size, i.bytes)) = some (some (.int .u8 0), 1, 1) := by kernel_rfl

set_option maxRecDepth 100000 in
set_option maxHeartbeats 2000000 in
theorem l16Unquote_c (s : ByteArray) (w : World) (hs : s.size ≤ 400) :
    Calls Try.prog 74 #[.string s] w fun e w' => ∃ v, e = .returned (.tuple #[v, .bool (unqGo s 0 []).isSome]) ∧ Kd.R (Kd.int .u8) 5 w' w.heap.size (fun _ => True) v ((unqGo s 0 []).getD []) ∧ Below w.heap.size w w' := by
  go_enter Try.func74, Try.ntmps74
  go_wp2
  go_loopw [4, 5] (fun v i wr => ∃ (k : Nat) (out : List Int), i = .int .i64 k ∧ k ≤ s.size ∧ out.length ≤ k ∧ Aside0 (unqGo s k out = unqGo s 0 []) ∧ Aside0 (Kd.R (Kd.int .u8) 5 wr w.heap.size (fun _ => True) v out) ∧ Aside0 (Below w.heap.size w wr)) (fun _ i _ => s.size - (intOf i).toNat)
  case atStart => exact ⟨0, [], rfl, Nat.zero_le _, Nat.le_refl _, ⟨rfl⟩, ⟨R_at (l := []) (by rw [heap_alloc?, if_pos rfl]; rfl) (Nat.le_refl _) (by simp)⟩, ⟨below_alloc (Below.refl _ _) _⟩⟩
  case round =>
    obtain ⟨k, out, rfl, hk, hl, HU, HR, HB⟩ := hrel
    by_cases hlt : k < s.size
    · have p6 : (0 ≤ (k : Int)) = True := eq_true (by omega)
      have q6 : ((k : Int) < (s.size : Int)) = True := eq_true (by omega)
      have hx6 : ∀ h : k < s.size, ((s[k]'h).toNat : Int) = bt s k := fun h => bt_at s k h
      have hb := bt_range s k
      generalize hq : bt s k = c at hx6 hb
      have HX := Aside0.mk hq
      clear hq
      by_cases hc : c < 33 ∨ 126 < c
      · have HN := Aside0.mk (HU.out.symm.trans (unq_bad (out := out) hlt (by rw [HX.out]; exact hc)))
        by_cases h1 : c < 33
        · have b1 : decide (c < 33) = true := decide_eq_true h1
          clear hc h1
          go_wp2
          exact bodyPost_ret (v := .tuple #[.slice none 0 0, .bool false]) (by simp [results, Try.results74, go_sem]) rfl ⟨_, by rw [HN.out]; rfl, by rw [HN.out]; exact Kd.R_nil _ _ _ _ _, (by repeat (first | exact Below.refl _ _ | refine below_end ?_ HB.out | refine below_alloc ?_ _ | refine below_drew ?_ | refine pw_below_drewN ?_ _ | refine Below.setCell ?_ (by dsimp only; omega) _))⟩
        · have b1 : decide (c < 33) = false := decide_eq_false h1
          have b2 : decide (c > 126) = true := decide_eq_true (by omega)
          clear hc h1
          go_wp2
          exact bodyPost_ret (v := .tuple #[.slice none 0 0, .bool false]) (by simp [results, Try.results74, go_sem]) rfl ⟨_, by rw [HN.out]; rfl, by rw [HN.out]; exact Kd.R_nil _ _ _ _ _, (by repeat (first | exact Below.refl _ _ | refine below_end ?_ HB.out | refine below_alloc ?_ _ | refine below_drew ?_ | refine pw_below_drewN ?_ _ | refine Below.setCell ?_ (by dsimp only; omega) _))⟩
      · have HC := Aside0.mk hc
        have b1 : decide (c < 33) = false := decide_eq_false (by omega)
        have b2 : decide (c > 126) = false := decide_eq_false (by omega)
        clear hc
        by_cases h3 : c = 92
        · have b3 : (c == 92) = true := by simpa using h3
          have hz : RowKit.wrap64 ((k : Int) + 1) = ((k + 1 : Nat) : Int) := by unfold RowKit.wrap64; omega
          by_cases h4 : k + 1 < s.size
          · have b4 : decide ((s.size : Int) ≤ (k : Int) + 1) = false := decide_eq_false (by omega)
            have p7 : (0 ≤ (k : Int) + 1) = True := eq_true (by omega)
            have q7 : ((k : Int) + 1 < (s.size : Int)) = True := eq_true (by omega)
            have hx7 : ∀ h : k + 1 < s.size, ((s[k + 1]'h).toNat : Int) = bt s ((k + 1 : Nat) : Int) := fun h => bt_at s ((k + 1 : Nat) : Int) h
            generalize hq7 : bt s ((k + 1 : Nat) : Int) = c' at hx7
            have HX7 := Aside0.mk hq7
            clear hq7
            by_cases h5 : escOf c' = 0
            · have HN := Aside0.mk (HU.out.symm.trans (unq_no (out := out) hlt (by rw [HX.out]; exact h3) h4 (by rw [HX7.out]; exact h5)))
              have HE := Aside0.mk h5
              subst h3
              clear h5
              go_wp2_with (go_at_call 110; refine Calls.mono (l16Escape_c _ _) ?_; rintro e w' ⟨rfl, rfl⟩; rw [HE.out])
              go_ret2
              exact ⟨_, by rw [HN.out]; rfl, by rw [HN.out]; exact Kd.R_nil _ _ _ _ _, (by repeat (first | exact Below.refl _ _ | refine below_end ?_ HB.out | refine below_alloc ?_ _ | refine below_drew ?_ | refine pw_below_drewN ?_ _ | refine Below.setCell ?_ (by dsimp only; omega) _))⟩
            · have HN := Aside0.mk ((unq_two (out := out) hlt (by rw [HX.out]; exact h3) h4 (by rw [HX7.out]; exact h5)).symm.trans HU.out)
              have b5 : (escOf c' == 0) = false := by simpa using h5
              rw [HX7.out] at HN
              subst h3
              clear h5
              generalize hv : escOf c' = v at b5 HN
              have HV := Aside0.mk hv
              clear hv
              go_wp2_with (first
                | (go_at_call 110; refine Calls.mono (l16Escape_c _ _) ?_; rintro e w' ⟨rfl, rfl⟩; rw [HV.out])
                | (at_builtin; refine Kd.R_append (Kd.int .u8) (w0 := w) w.heap.size rfl (.tmp 42) (.tmp 44) 36 5 (.int .u8 0) 1 rfl Try.underlying36 info_u8 rfl (by decide) (by omega) u4 out v [.int .u8 v] (fun _ => True) (fun _ => False) rfl rfl rfl (fun _ hk => hk.elim) (fun _ _ => trivial) (by repeat (first | exact HR.out | refine Kd.R_alloc ?_ _)) (by repeat (first | exact Below.refl _ _ | refine below_end ?_ HB.out | refine below_alloc ?_ _ | refine below_drew ?_ | refine pw_below_drewN ?_ _ | refine Below.setCell ?_ (by dsimp only; omega) _)) (below_size (by repeat (first | exact Below.refl _ _ | refine below_end ?_ HB.out | refine below_alloc ?_ _ | refine below_drew ?_ | refine pw_below_drewN ?_ _ | refine Below.setCell ?_ (by dsimp only; omega) _))) (by omega) ?_; intro v1 w1 hR hB hg hat; have HR1 := Aside0.mk hR; have HB1 := Aside0.mk hB; clear hR hB hg hat))
              go_roundw
              case rel => exact ⟨k + 2, out ++ [v], by go_num, by omega, by simp; omega, HN, HR1, HB1⟩
              case measure => simp [intOf]; omega
          · have HN := Aside0.mk (HU.out.symm.trans (unq_end (out := out) hlt (by rw [HX.out]; exact h3) h4))
            have b4 : decide ((s.size : Int) ≤ (k : Int) + 1) = true := decide_eq_true (by omega)
            clear h3
            go_wp2
            exact bodyPost_ret (v := .tuple #[.slice none 0 0, .bool false]) (by simp [results, Try.results74, go_sem]) rfl ⟨_, by rw [HN.out]; rfl, by rw [HN.out]; exact Kd.R_nil _ _ _ _ _, (by repeat (first | exact Below.refl _ _ | refine below_end ?_ HB.out | refine below_alloc ?_ _ | refine below_drew ?_ | refine pw_below_drewN ?_ _ | refine Below.setCell ?_ (by dsimp only; omega) _))⟩
        · have b3 : (c == 92) = false := by simpa using h3
          have HN := Aside0.mk (HU.out.symm.trans (unq_one (out := out) hlt (by rw [HX.out]; exact HC.out) (by rw [HX.out]; exact h3)))
          rw [HX.out] at HN
          clear h3
          go_wp2_with (at_builtin; refine Kd.R_append (Kd.int .u8) (w0 := w) w.heap.size rfl (.tmp 42) (.tmp 44) 36 5 (.int .u8 0) 1 rfl Try.underlying36 info_u8 rfl (by decide) (by omega) u4 out c [.int .u8 c] (fun _ => True) (fun _ => False) rfl rfl rfl (fun _ hk => hk.elim) (fun _ _ => trivial) (by repeat (first | exact HR.out | refine Kd.R_alloc ?_ _)) (by repeat (first | exact Below.refl _ _ | refine below_end ?_ HB.out | refine below_alloc ?_ _ | refine below_drew ?_ | refine pw_below_drewN ?_ _ | refine Below.setCell ?_ (by dsimp only; omega) _)) (below_size (by repeat (first | exact Below.refl _ _ | refine below_end ?_ HB.out | refine below_alloc ?_ _ | refine below_drew ?_ | refine pw_below_drewN ?_ _ | refine Below.setCell ?_ (by dsimp only; omega) _))) (by omega) ?_; intro v1 w1 hR hB hg hat; have HR1 := Aside0.mk hR; have HB1 := Aside0.mk hB; clear hR hB hg hat)
          go_roundw
          case rel => exact ⟨k + 1, out ++ [c], by go_num, by omega, by simp; omega, ⟨HN.out.symm⟩, HR1, HB1⟩
          case measure => simp [intOf]; omega
    · have HN := Aside0.mk (HU.out.symm.trans (unq_out (out := out) hlt))
      go_wp2
      exact bodyPost_ret (v := .tuple #[u4, .bool true]) (by simp [results, Try.results74, go_sem]) rfl ⟨_, by rw [HN.out]; rfl, by rw [HN.out]; exact HR.out, (by repeat (first | exact Below.refl _ _ | refine below_end ?_ HB.out | refine below_alloc ?_ _ | refine below_drew ?_ | refine pw_below_drewN ?_ _ | refine Below.setCell ?_ (by dsimp only; omega) _))⟩

set_option maxRecDepth 100000 in
set_option maxHeartbeats 2000000 in
theorem specUnquote_c (s : ByteArray) (w : World) :
    Calls Try.prog 22 #[.string s] w fun e w' => ∃ (A : Option Addr) (c : Nat), e = .returned (.agg #[.int .i64 (unquote s).1, .slice A (unquote s).2.length c]) ∧ (unquote s).2.length ≤ c ∧ Kd.R (Kd.int .u8) 5 w' w.heap.size (fun _ => True) (.slice A (unquote s).2.length c) (unquote s).2 ∧ Below w.heap.size w w' := by
  by_cases g : 400 < s.size
  · have HQ := Aside0.mk (show unquote s = (2, []) by simp [unquote, g])
    have b1 : decide ((s.size : Int) > 400) = true := decide_eq_true (by omega)
    clear g
    go_enter Try.func22, Try.ntmps22
    go_wp2
    refine bodyPost_ret (v := .agg #[.int .i64 2, .slice none 0 0]) (by simp [results, Try.results22, go_sem]) rfl ⟨none, 0, ?_, ?_, ?_, (by repeat (first | exact Below.refl _ _ | refine below_alloc ?_ _ | refine below_drew ?_ | refine pw_below_drewN ?_ _ | refine Below.setCell ?_ (by dsimp only; omega) _))⟩
    · rw [HQ.out]; rfl
    · rw [HQ.out]; exact Nat.le_refl _
    · rw [HQ.out]; exact Kd.R_nil _ _ _ _ _
  · have b1 : decide ((s.size : Int) > 400) = false := decide_eq_false (by omega)
    have hs : s.size ≤ 400 := by omega
    clear g
    rcases hu : unqGo s 0 [] with _ | l
    · have HQ := Aside0.mk (show unquote s = (5, []) by simp [unquote, hu, show ¬ 400 < s.size by omega])
      have HU := Aside0.mk hu
      clear hu
      go_enter Try.func22, Try.ntmps22
      go_wp2_with (go_at_call 74; refine Calls.mono (l16Unquote_c s _ hs) ?_; rintro e w1 ⟨v, rfl, hr, hb⟩; rw [HU.out]; have HB := Aside0.mk hb; obtain ⟨hx1, hf1⟩ := bcell hb; have hz1 := hb.size; rw [size_alloc] at hz1; clear hr hb)
      refine bodyPost_ret (v := .agg #[.int .i64 5, .slice none 0 0]) (by simp [results, Try.results22, go_sem, hx1]) rfl ⟨none, 0, ?_, ?_, ?_, (by repeat (first | exact Below.refl _ _ | refine below_end ?_ HB.out | refine below_alloc ?_ _ | refine below_drew ?_ | refine pw_below_drewN ?_ _ | refine Below.setCell ?_ (by dsimp only; omega) _))⟩
      · rw [HQ.out]; rfl
      · rw [HQ.out]; exact Nat.le_refl _
      · rw [HQ.out]; exact Kd.R_nil _ _ _ _ _
    · have HQ := Aside0.mk (show unquote s = (0, l) by simp [unquote, hu, show ¬ 400 < s.size by omega])
      have HU := Aside0.mk hu
      clear hu
      go_enter Try.func22, Try.ntmps22
      go_wp2_with (go_at_call 74; refine Calls.mono (l16Unquote_c s _ hs) ?_; rintro e w1 ⟨v, rfl, hr, hb⟩; rw [HU.out] at hr ⊢; (try dsimp only [Option.getD_some, Option.isSome_some] at hr ⊢); have HB := Aside0.mk hb; obtain ⟨hx1, hf1⟩ := bcell hb; have hz1 := hb.size; rw [size_alloc] at hz1; rw [size_alloc] at hr; have HR := Aside0.mk hr; obtain ⟨A', c', rfl, hc', _⟩ := Kd.R_reads hr; have HC' := Aside0.mk hc'; clear hr hb hc')
      refine bodyPost_ret (v := .agg #[.int .i64 0, .slice A' l.length c']) (by simp [results, Try.results22, go_sem, hx1]) rfl ⟨A', c', ?_, ?_, ?_, (by repeat (first | exact Below.refl _ _ | refine below_end ?_ HB.out | refine below_alloc ?_ _ | refine below_drew ?_ | refine pw_below_drewN ?_ _ | refine Below.setCell ?_ (by dsimp only; omega) _))⟩
      · rw [HQ.out]
      · rw [HQ.out]; exact HC'.out
      · rw [HQ.out]; exact R_low (R_set (R_set HR.out (by omega)) (by omega)) _ (by omega)

theorem unquote_bad {s : ByteArray} (hs : s.size ≤ 400) (h : unqGo s 0 [] = none) : unquote s = (5, []) := by simp [unquote, h, show ¬ 400 < s.size by omega]
theorem unquote_good {s : ByteArray} (hs : s.size ≤ 400) {l : List Int} (h : unqGo s 0 [] = some l) : unquote s = (0, l) := by simp [unquote, h, show ¬ 400 < s.size by omega]

set_option maxRecDepth 100000 in
set_option maxHeartbeats 4000000 in
theorem Unquote_c (s : ByteArray) (w : World) :
    Calls Try.prog 23 #[.string s] w fun e w' => ∃ (A : Option Addr) (c : Nat), e = .returned (.agg #[.int .i64 (unquote s).1, .slice A (unquote s).2.length c]) ∧ (unquote s).2.length ≤ c ∧ Kd.R (Kd.int .u8) 5 w' w.heap.size (fun _ => True) (.slice A (unquote s).2.length c) (unquote s).2 ∧ Below w.heap.size w w' := by
  by_cases g : 400 < s.size
  · have HQ := Aside0.mk (show unquote s = (2, []) by simp [unquote, g])
    have b1 : decide ((s.size : Int) > 400) = true := decide_eq_true (by omega)
    clear g
    go_enter Try.func23, Try.ntmps23
    go_wp2
    refine bodyPost_ret (v := .agg #[.int .i64 2, .slice none 0 0]) (by simp [results, Try.results23, go_sem]) rfl ⟨none, 0, ?_, ?_, ?_, (by repeat (first | exact Below.refl _ _ | refine below_alloc ?_ _ | refine below_drew ?_ | refine pw_below_drewN ?_ _ | refine Below.setCell ?_ (by dsimp only; omega) _))⟩
    · rw [HQ.out]; rfl
    · rw [HQ.out]; exact Nat.le_refl _
    · rw [HQ.out]; exact Kd.R_nil _ _ _ _ _
  · have b1 : decide ((s.size : Int) > 400) = false := decide_eq_false (by omega)
    have hs : s.size ≤ 400 := by omega
    clear g
    go_enter Try.func23, Try.ntmps23
    go_wp2
    clear b1
    go_loopw [3, 4] (fun v i wr => ∃ (k : Nat) (out : List Int), i = .int .i64 k ∧ k ≤ s.size ∧ out.length ≤ k ∧ Aside0 (unqGo s k out = unqGo s 0 []) ∧ Aside0 (Kd.R (Kd.int .u8) 5 wr (w.alloc (.cells #[.int .i64 0, .slice none 0 0] 38)).heap.size (fun _ => True) v out) ∧ Aside0 (Below (w.alloc (.cells #[.int .i64 0, .slice none 0 0] 38)).heap.size (w.alloc (.cells #[.int .i64 0, .slice none 0 0] 38)) wr)) (fun _ i _ => s.size - (intOf i).toNat)
    case atStart => exact ⟨0, [], rfl, Nat.zero_le _, Nat.le_refl _, ⟨rfl⟩, ⟨R_at (l := []) (blk_new' _ (by simp only [size_alloc])) (by simp only [size_alloc]; omega) (by simp)⟩, ⟨below_alloc (Below.refl _ _) _⟩⟩
    case round =>
      obtain ⟨k, out, rfl, hk, hl, HU, HR, HB⟩ := hrel
      obtain ⟨hx, hf⟩ := bcell HB.out
      have hz := HB.out.size
      rw [size_alloc] at hz
      by_cases hlt : k < s.size
      · have p6 : (0 ≤ (k : Int)) = True := eq_true (by omega)
        have q6 : ((k : Int) < (s.size : Int)) = True := eq_true (by omega)
        have hx6 : ∀ h : k < s.size, ((s[k]'h).toNat : Int) = bt s k := fun h => bt_at s k h
        have hb := bt_range s k
        generalize hq : bt s k = c at hx6 hb
        have HX := Aside0.mk hq
        clear hq
        by_cases hc : c < 33 ∨ 126 < c
        · have HQ := Aside0.mk (unquote_bad hs (HU.out.symm.trans (unq_bad (out := out) hlt (by rw [HX.out]; exact hc))))
          have HW := Aside0.mk (show within c 33 126 = false by simp [within]; omega)
          clear hc
          go_wp2_with (go_at_call 75; refine Calls.mono (within_c _ _ _ _) ?_; rintro e w' ⟨rfl, rfl⟩; rw [HW.out])
          refine bodyPost_ret (v := .agg #[.int .i64 5, .slice none 0 0]) (by simp [results, Try.results23, go_sem, hx, hz]) rfl ⟨none, 0, ?_, ?_, ?_, (by repeat (first | exact Below.refl _ _ | refine below_end ?_ HB.out | refine below_alloc ?_ _ | refine below_drew ?_ | refine pw_below_drewN ?_ _ | refine Below.setCell ?_ (by dsimp only; omega) _))⟩
          · rw [HQ.out]; rfl
          · rw [HQ.out]; exact Nat.le_refl _
          · rw [HQ.out]; exact Kd.R_nil _ _ _ _ _
        · have HC := Aside0.mk hc
          have HW := Aside0.mk (show within c 33 126 = true by simp [within]; omega)
          clear hc
          by_cases h3 : c = 92
          · have b3 : (c == 92) = true := by simpa using h3
            by_cases h4 : k + 1 < s.size
            · have b4 : decide ((k : Int) + 1 < (s.size : Int)) = true := decide_eq_true (by omega)
              have p7 : (0 ≤ (k : Int) + 1) = True := eq_true (by omega)
              have q7 : ((k : Int) + 1 < (s.size : Int)) = True := eq_true (by omega)
              have hx7 : ∀ h : k + 1 < s.size, ((s[k + 1]'h).toNat : Int) = bt s ((k + 1 : Nat) : Int) := fun h => bt_at s ((k + 1 : Nat) : Int) h
              have hr7 := bt_range s ((k + 1 : Nat) : Int)
              generalize hq7 : bt s ((k + 1 : Nat) : Int) = c' at hx7 hr7
              have HX7 := Aside0.mk hq7
              clear hq7
              rcases esc_idx c' hr7.1 hr7.2 with ⟨h5, h6⟩ | ⟨h5, j, hj, h6, h7⟩
              · have HQ := Aside0.mk (unquote_bad hs (HU.out.symm.trans (unq_no (out := out) hlt (by rw [HX.out]; exact h3) h4 (by rw [HX7.out]; exact h5))))
                have HE := Aside0.mk h6
                subst h3
                clear h5 h6 hr7
                go_wp2_with (first
                  | (go_at_call 75; refine Calls.mono (within_c _ _ _ _) ?_; rintro e w' ⟨rfl, rfl⟩; rw [HW.out])
                  | (go_at_call 76; refine Calls.mono (indexByte_c escFrom _ _) ?_; rintro e w' ⟨rfl, rfl⟩; rw [HE.out]))
                refine bodyPost_ret (v := .agg #[.int .i64 5, .slice none 0 0]) (by simp [results, Try.results23, go_sem, hx, hz]) rfl ⟨none, 0, ?_, ?_, ?_, (by repeat (first | exact Below.refl _ _ | refine below_end ?_ HB.out | refine below_alloc ?_ _ | refine below_drew ?_ | refine pw_below_drewN ?_ _ | refine Below.setCell ?_ (by dsimp only; omega) _))⟩
                · rw [HQ.out]; rfl
                · rw [HQ.out]; exact Nat.le_refl _
                · rw [HQ.out]; exact Kd.R_nil _ _ _ _ _
              · have HN := Aside0.mk ((unq_two (out := out) hlt (by rw [HX.out]; exact h3) h4 (by rw [HX7.out]; exact h5)).symm.trans HU.out)
                have HE := Aside0.mk h6
                rw [HX7.out] at HN
                have p8 : (0 ≤ (j : Int)) = True := eq_true (by omega)
                have q8 : ((j : Int) < 5) = True := eq_true (by omega)
                have b8 : decide ((j : Int) < 0) = false := decide_eq_false (by omega)
                have hx8 : ∀ h : j < (ByteArray.mk #[10, 32, 27, 9, 92]).size, (((ByteArray.mk #[10, 32, 27, 9, 92])[j]'h).toNat : Int) = bt escTo (j : Int) := fun h => bt_at escTo (j : Int) h
                rw [h7] at hx8
                subst h3
                clear h5 h6 hr7 h7
                generalize escOf c' = v at hx8 HN
                go_wp2_with (first
                  | (go_at_call 75; refine Calls.mono (within_c _ _ _ _) ?_; rintro e w' ⟨rfl, rfl⟩; rw [HW.out])
                  | (go_at_call 76; refine Calls.mono (indexByte_c escFrom _ _) ?_; rintro e w' ⟨rfl, rfl⟩; rw [HE.out])
                  | (at_builtin; refine Kd.R_append (Kd.int .u8) (w0 := (w.alloc (.cells #[.int .i64 0, .slice none 0 0] 38))) (w.alloc (.cells #[.int .i64 0, .slice none 0 0] 38)).heap.size rfl (.tmp 43) (.tmp 45) 36 5 (.int .u8 0) 1 rfl Try.underlying36 info_u8 rfl (by decide) (by omega) u3 out v [.int .u8 v] (fun _ => True) (fun _ => False) rfl rfl rfl (fun _ hk => hk.elim) (fun _ _ => trivial) (by repeat (first | exact HR.out | refine Kd.R_alloc ?_ _)) (by repeat (first | exact HB.out | refine below_alloc ?_ _)) (below_size (by repeat (first | exact HB.out | refine below_alloc ?_ _))) (by omega) ?_; intro v1 w1 hR hB hg hat; have HR1 := Aside0.mk hR; have HB1 := Aside0.mk hB; clear hR hB hg hat))
                go_roundw
                case rel => exact ⟨k + 2, out ++ [v], by go_num, by omega, by simp; omega, HN, HR1, HB1⟩
                case measure => simp [intOf]; omega
            · have HQ := Aside0.mk (unquote_bad hs (HU.out.symm.trans (unq_end (out := out) hlt (by rw [HX.out]; exact h3) h4)))
              have b4 : decide ((k : Int) + 1 < (s.size : Int)) = false := decide_eq_false (by omega)
              subst h3
              go_wp2_with (go_at_call 75; refine Calls.mono (within_c _ _ _ _) ?_; rintro e w' ⟨rfl, rfl⟩; rw [HW.out])
              refine bodyPost_ret (v := .agg #[.int .i64 5, .slice none 0 0]) (by simp [results, Try.results23, go_sem, hx, hz]) rfl ⟨none, 0, ?_, ?_, ?_, (by repeat (first | exact Below.refl _ _ | refine below_end ?_ HB.out | refine below_alloc ?_ _ | refine below_drew ?_ | refine pw_below_drewN ?_ _ | refine Below.setCell ?_ (by dsimp only; omega) _))⟩
              · rw [HQ.out]; rfl
              · rw [HQ.out]; exact Nat.le_refl _
              · rw [HQ.out]; exact Kd.R_nil _ _ _ _ _
          · have b3 : (c == 92) = false := by simpa using h3
            have HN := Aside0.mk (HU.out.symm.trans (unq_one (out := out) hlt (by rw [HX.out]; exact HC.out) (by rw [HX.out]; exact h3)))
            rw [HX.out] at HN
            clear h3
            go_wp2_with (first
              | (go_at_call 75; refine Calls.mono (within_c _ _ _ _) ?_; rintro e w' ⟨rfl, rfl⟩; rw [HW.out])
              | (at_builtin; refine Kd.R_append (Kd.int .u8) (w0 := (w.alloc (.cells #[.int .i64 0, .slice none 0 0] 38))) (w.alloc (.cells #[.int .i64 0, .slice none 0 0] 38)).heap.size rfl (.tmp 43) (.tmp 45) 36 5 (.int .u8 0) 1 rfl Try.underlying36 info_u8 rfl (by decide) (by omega) u3 out c [.int .u8 c] (fun _ => True) (fun _ => False) rfl rfl rfl (fun _ hk => hk.elim) (fun _ _ => trivial) (by repeat (first | exact HR.out | refine Kd.R_alloc ?_ _)) (by repeat (first | exact HB.out | refine below_alloc ?_ _)) (below_size (by repeat (first | exact HB.out | refine below_alloc ?_ _))) (by omega) ?_; intro v1 w1 hR hB hg hat; have HR1 := Aside0.mk hR; have HB1 := Aside0.mk hB; clear hR hB hg hat))
            go_roundw
            case rel => exact ⟨k + 1, out ++ [c], by go_num, by omega, by simp; omega, ⟨HN.out.symm⟩, HR1, HB1⟩
            case measure => simp [intOf]; omega
      · have HQ := Aside0.mk (unquote_good hs (HU.out.symm.trans (unq_out (out := out) hlt)))
        obtain ⟨A', c', rfl, hc', _⟩ := Kd.R_reads HR.out
        have HC' := Aside0.mk hc'
        clear hc'
        go_wp2
        refine bodyPost_ret (v := .agg #[.int .i64 0, .slice A' out.length c']) (by simp [results, Try.results23, go_sem, hx, hz]) rfl ⟨A', c', ?_, ?_, ?_, (by repeat (first | exact Below.refl _ _ | refine below_end ?_ HB.out | refine below_alloc ?_ _ | refine below_drew ?_ | refine pw_below_drewN ?_ _ | refine Below.setCell ?_ (by dsimp only; omega) _))⟩
        · rw [HQ.out]
        · rw [HQ.out]; exact HC'.out
        · rw [HQ.out]; exact R_low (R_set (R_set HR.out (by simp only [size_alloc]; omega)) (by simp only [size_alloc]; omega)) _ (by simp only [size_alloc]; omega)

theorem unqGo_len (s : ByteArray) (n : Nat) : ∀ (i : Nat) (out l : List Int), s.size - i ≤ n → unqGo s i out = some l → l.length ≤ out.length + (s.size - i) := by
  induction n with
  | zero => intro i out l h e; rw [unq_out (by omega)] at e; injection e with e; subst e; omega
  | succ n ih =>
    intro i out l h e
    by_cases hi : i < s.size
    · by_cases h1 : bt s i < 33 ∨ 126 < bt s i
      · rw [unq_bad hi h1] at e; cases e
      · by_cases h2 : bt s i = 92
        · by_cases h3 : i + 1 < s.size
          · by_cases h4 : escOf (bt s ((i + 1 : Nat) : Int)) = 0
            · rw [unq_no hi h2 h3 h4] at e; cases e
            · rw [unq_two hi h2 h3 h4] at e
              have := ih _ _ _ (by omega) e
              simp at this
              omega
          · rw [unq_end hi h2 h3] at e; cases e
        · rw [unq_one hi h1 h2] at e
          have := ih _ _ _ (by omega) e
          simp at this
          omega
    · rw [unq_out hi] at e; injection e with e; subst e; omega
theorem unquote_len (s : ByteArray) : (unquote s).2.length ≤ 400 := by
  unfold unquote
  by_cases g : 400 < s.size
  · rw [if_pos g]; simp
  · rw [if_neg g]
    split
    · simp
    · rename_i l h
      have := unqGo_len s s.size 0 [] l (by omega) h
      simp at this
      show l.length ≤ 400
      omega
end Go.Proofs.Ytpfponhaofdbaaa.M
