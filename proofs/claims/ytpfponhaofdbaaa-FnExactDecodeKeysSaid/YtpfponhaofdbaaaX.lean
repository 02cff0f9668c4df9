import Derived.Test.YtpfponhaofdbaaaE
import Derived.Test.YtpfponhaofdbaaaN
set_option linter.unusedVariables false
set_option linter.unusedSimpArgs false
namespace Go.Proofs.Ytpfponhaofdbaaa.M
open Go.RowKit Go.Proofs.YtpfponhaofdbaaaW.PrintWords

/-! the text of a terminal -/
def txt (wi : Int) (ch : List Int) : Nat → List Int
  | 0 => []
  | k + 1 => (txt wi ch k ++ enc (ch.getD k 0)) ++ (if ((k : Int) + 1) % wi = 0 then [10] else [])
theorem txt_len (wi : Int) (ch : List Int) (k : Nat) : (txt wi ch k).length ≤ 4 * k := by
  induction k with
  | zero => simp [txt]
  | succ k ih =>
    have h := (enc_len (ch.getD k 0)).2
    rw [show txt wi ch (k + 1) = (txt wi ch k ++ enc (ch.getD k 0)) ++ (if ((k : Int) + 1) % wi = 0 then [10] else []) from rfl, List.length_append, List.length_append]
    have h2 : (if ((k : Int) + 1) % wi = 0 then [(10 : Int)] else []).length ≤ 1 := by split <;> simp
    omega
def termTextP (wi ro y x : Int) (hi : Bool) (ch : List Int) (hs : List Bool) : Int × ByteArray :=
  if termFault wi ro y x ch hs = 0 then (0, strOfNums (txt wi ch ch.length)) else (termFault wi ro y x ch hs, ByteArray.empty)
theorem isSeen_bd {c : Int} (h : isSeen c = true) : 0 ≤ c ∧ c ≤ 65535 := by
  unfold isSeen isChar at h
  simp [within] at h
  omega
theorem info_u8' : (Try.prog.info? 5).map (fun i => (i.zero, i.size, i.bytes)) = some (some (.int .u8 0), 1, 1) := by kernel_rfl

set_option maxRecDepth 100000 in
set_option maxHeartbeats 2000000 in
theorem specTermText_c (wi ro y x : Int) (hi : Bool) (A : Option Addr) (c : Nat) (ch : List Int) (B : Option Addr) (d : Nat) (hs : List Bool) (w : World)
    (hr : Kd.C (Kd.int .i64) w A ch.length ch) (hr2 : Kd.C Kd.bool w B hs.length hs) (hc : ch.length ≤ c) (hd : hs.length ≤ d) :
    Calls Try.prog 40 #[.agg #[.int .i64 wi, .int .i64 ro, .int .i64 y, .int .i64 x, .bool hi, .slice A ch.length c, .slice B hs.length d]] w fun e w' => e = .returned (.agg #[.int .i64 (termTextP wi ro y x hi ch hs).1, .string (termTextP wi ro y x hi ch hs).2]) ∧ Below w.heap.size w w' := by
  have HR := Aside0.mk hr
  have HS := Aside0.mk hr2
  have hm := Kd.C_max hr
  have hm2 := Kd.C_max hr2
  clear hr hr2
  by_cases g : termFault wi ro y x ch hs = 0
  · have HQ := Aside0.mk (show termTextP wi ro y x hi ch hs = (0, strOfNums (txt wi ch ch.length)) by simp [termTextP, g])
    have ff := termFault_form g
    have fl := ff.2.2.2.2.2.2.2
    have hwi := ff.1
    have HSE := Aside0.mk ff.2.2.2.2.2.2.1
    clear ff
    have HG := Aside0.mk g
    clear g
    go_enter Try.func40, Try.ntmps40
    go_wp2_with fail
    refine Calls.mono (l13Fault_c _ wi ro y x hi A B c d ch hs _ (by repeat (with_reducible first | exact blk_new _ | refine blk_new' _ (by simp only [size_alloc]) | refine blk_drewN ?_ _ | refine blk_drew ?_ | refine blk_alloc ?_ _)) (by repeat (with_reducible first | exact HR.out | refine Kd.C_alloc ?_ _ | refine Kd.C_drewN ?_ _ | refine Kd.C_drew ?_)) hm2) ?_
    rintro e w1 ⟨rfl, hd1⟩
    have hb1 := hd1.below
    clear hd1
    rw [HG.out]
    have HB1 := Aside0.mk hb1
    have sz1 := hb1.size
    (try simp only [size_alloc, size_drew, size_drewN] at sz1)
    have l1 : w.heap.size + 1 < w1.heap.size := by omega
    have NB1 : w1.heap[w.heap.size]? = some (.cells #[.int .i64 wi, .int .i64 ro, .int .i64 y, .int .i64 x, .bool hi, .slice A ch.length c, .slice B hs.length d] 47 (0, 0)) := (by repeat (with_reducible first | exact blk_new _ | refine blk_new' _ (by simp only [size_alloc]) | refine blk_drewN ?_ _ | refine blk_drew ?_ | refine blk_alloc ?_ _ | refine blk_below ?_ HB1.out))
    have NR1 : w1.heap[w.heap.size + 1]? = some (.cells #[.int .i64 0, .string ⟨#[]⟩] 23 (0, 0)) := (by repeat (with_reducible first | exact blk_new _ | refine blk_new' _ (by simp only [size_alloc]) | refine blk_drewN ?_ _ | refine blk_drew ?_ | refine blk_alloc ?_ _ | refine blk_below ?_ HB1.out))
    have BB1 := Aside0.mk NB1
    have BR1 := Aside0.mk NR1
    clear hb1 NB1 NR1
    go_wp2
    go_loopw [4, 5] (fun v i wr => ∃ k : Nat, k ≤ ch.length ∧ i = .int .i64 k ∧ Aside0 (Kd.R (Kd.int .u8) 5 wr w1.heap.size (fun _ => True) v (txt wi ch k)) ∧ Aside0 (Below w1.heap.size w1 wr)) (fun _ i _ => ch.length - (intOf i).toNat)
    case atStart => exact ⟨0, Nat.zero_le _, rfl, ⟨R_at (l := []) (blk_new' _ rfl) (Nat.le_refl _) (by simp)⟩, ⟨below_alloc (Below.refl _ _) _⟩⟩
    case round =>
      obtain ⟨k, hk, rfl, HT, HB⟩ := hrel
      have NBk := blk_below BB1.out HB.out
      have rd := blk_cell NBk
      have hl := txt_len wi ch k
      by_cases hlt : k < ch.length
      · have hrk : Kd.C (Kd.int .i64) wr A ch.length ch := by repeat (with_reducible first | exact HR.out | refine Kd.C_alloc ?_ _ | refine Kd.C_below ?_ HB.out | refine Kd.C_below ?_ HB1.out)
        obtain ⟨ad, e, hx⟩ := at1 hrk 0 k hlt
        clear hrk
        cases e
        have hcs := HSE.out (ch.getD k 0) (by rw [List.getD_eq_getElem?_getD, List.getElem?_eq_getElem hlt]; exact List.getElem_mem hlt)
        have hcb := isSeen_bd hcs
        have HX := Aside0.mk (show txt wi ch (k + 1) = (txt wi ch k ++ enc (ch.getD k 0)) ++ (if ((k : Int) + 1) % wi = 0 then [10] else []) from rfl)
        have hel := enc_len (ch.getD k 0)
        clear hcs
        generalize ch.getD k 0 = cc at hx hcb HX hel
        have hb1 := hcb.1
        have hb2 := hcb.2
        have ew : IntKind.i64.wrap ((k : Int) + 1) = (k : Int) + 1 := by rw [IntKind.wrap_i64]; omega
        have em : ((k : Int) + 1).tmod wi = ((k : Int) + 1) % wi := Int.tmod_eq_emod_of_nonneg (by omega)
        have ez : (wi == 0) = false := by simp; omega
        by_cases hz : ((k : Int) + 1) % wi = 0
        · have HZ := Aside0.mk (HX.out.trans (by rw [if_pos hz]))
          have bz : (((k : Int) + 1) % wi == 0) = true := by simpa using hz
          go_wp2_with (first
            | (go_at_call 89; refine Calls.mono (l1Encode_c cc _ hb1 hb2) ?_; rintro e w2 ⟨rfl, rfl⟩)
            | (at_builtin; refine Kd.R_append_row (w0 := w1) (Value.int .u8) 0 w1.heap.size rfl (.tmp 19) (.tmp 25) 36 5 (.int .u8 0) 1 rfl Try.underlying36 info_u8' rfl (by omega) u4 (txt wi ch k) (enc cc) (some ⟨wr.heap.size, 0, none⟩) (enc cc).length (enc cc).length (fun _ => True) rfl rfl (fun _ _ => trivial) (Kd.R_alloc HT.out _) (C_new _ _ _ (by omega)) (below_alloc HB.out _) (below_size (below_alloc HB.out _)) (by omega) ?_; intro v2 w2 hR hB hg hat; have HT2 := Aside0.mk hR; have HB2 := Aside0.mk hB; have rd2 := blk_cell (blk_below BB1.out hB); clear hR hB hg hat)
            | (at_builtin; refine Kd.R_append (Kd.int .u8) (w0 := w1) w1.heap.size rfl (.tmp 33) (.tmp 34) 36 5 (.int .u8 0) 1 rfl Try.underlying36 info_u8' rfl (by decide) (by omega) v2 (txt wi ch k ++ enc cc) 10 [.int .u8 10] (fun _ => True) (fun _ => False) rfl rfl rfl (fun _ hk => hk.elim) (fun _ _ => trivial) HT2.out HB2.out (below_size HB2.out) (by rw [List.length_append]; omega) ?_; intro v3 w3 hR hB hg hat; have HT3 := Aside0.mk hR; have HB3 := Aside0.mk hB; clear hR hB hg hat))
          go_roundw
          case rel => exact ⟨k + 1, by omega, by go_num, ⟨by rw [HZ.out]; exact HT3.out⟩, HB3⟩
          case measure => simp [intOf]; omega
        · have HZ := Aside0.mk (HX.out.trans (by rw [if_neg hz, List.append_nil]))
          have bz : (((k : Int) + 1) % wi == 0) = false := by simpa using hz
          go_wp2_with (first
            | (go_at_call 89; refine Calls.mono (l1Encode_c cc _ hb1 hb2) ?_; rintro e w2 ⟨rfl, rfl⟩)
            | (at_builtin; refine Kd.R_append_row (w0 := w1) (Value.int .u8) 0 w1.heap.size rfl (.tmp 19) (.tmp 25) 36 5 (.int .u8 0) 1 rfl Try.underlying36 info_u8' rfl (by omega) u4 (txt wi ch k) (enc cc) (some ⟨wr.heap.size, 0, none⟩) (enc cc).length (enc cc).length (fun _ => True) rfl rfl (fun _ _ => trivial) (Kd.R_alloc HT.out _) (C_new _ _ _ (by omega)) (below_alloc HB.out _) (below_size (below_alloc HB.out _)) (by omega) ?_; intro v2 w2 hR hB hg hat; have HT2 := Aside0.mk hR; have HB2 := Aside0.mk hB; have rd2 := blk_cell (blk_below BB1.out hB); clear hR hB hg hat))
          go_roundw
          case rel => exact ⟨k + 1, by omega, by go_num, ⟨by rw [HZ.out]; exact HT2.out⟩, HB2⟩
          case measure => simp [intOf]; omega
      · obtain rfl : k = ch.length := by omega
        obtain ⟨A', c', ev, hc', hC⟩ := Kd.R_reads HT.out
        subst ev
        have hst := Kd.C_string (P := Try.prog) (src := 36) (dst := 9) (c := c') Try.underlying36 Try.underlying5 Try.underlying9 hC
        have NRk := blk_below BR1.out HB.out
        have hy := blk_cell NRk
        have hfy := blk_free NRk
        have hly := blk_lt NRk
        go_wp2
        refine bodyPost_ret (v := .agg #[.int .i64 0, .string (strOfNums (txt wi ch ch.length))]) (by simp [results, Try.results40, go_sem, hy]) rfl ⟨?_, (by repeat (with_reducible first | exact Below.refl _ _ | refine below_alloc ?_ _ | refine below_drew ?_ | refine pw_below_drewN ?_ _ | refine Below.setCell ?_ (by dsimp only; omega) _ | refine below_end ?_ HB.out | refine below_end ?_ HB1.out ))⟩
        rw [HQ.out]
  · have HQ := Aside0.mk (show termTextP wi ro y x hi ch hs = (termFault wi ro y x ch hs, ByteArray.empty) by simp [termTextP, g])
    have bf : (termFault wi ro y x ch hs != 0) = true := by simpa using g
    generalize hT : termFault wi ro y x ch hs = tf at g bf HQ
    have HT := Aside0.mk hT
    clear hT
    go_enter Try.func40, Try.ntmps40
    go_wp2_with fail
    refine Calls.mono (l13Fault_c _ wi ro y x hi A B c d ch hs _ (by repeat (with_reducible first | exact blk_new _ | refine blk_new' _ (by simp only [size_alloc]) | refine blk_drewN ?_ _ | refine blk_drew ?_ | refine blk_alloc ?_ _)) (by repeat (with_reducible first | exact HR.out | refine Kd.C_alloc ?_ _ | refine Kd.C_drewN ?_ _ | refine Kd.C_drew ?_)) hm2) ?_
    rintro e w1 ⟨rfl, hd1⟩
    have hb1 := hd1.below
    clear hd1
    rw [HT.out]
    have HB1 := Aside0.mk hb1
    obtain ⟨hx1, hf1⟩ := bcell hb1
    have sz1 := hb1.size
    (try simp only [size_alloc, size_drew, size_drewN] at sz1)
    have l1 : w.heap.size + 1 < w1.heap.size := by omega
    clear hb1
    go_wp2
    refine bodyPost_ret (v := .agg #[.int .i64 tf, .string ByteArray.empty]) (by simp [results, Try.results40, go_sem, hx1, l1]; rfl) rfl ⟨?_, (by repeat (with_reducible first | exact Below.refl _ _ | refine below_alloc ?_ _ | refine below_drew ?_ | refine pw_below_drewN ?_ _ | refine Below.setCell ?_ (by dsimp only; omega) _ | refine below_end ?_ HB1.out ))⟩
    rw [HQ.out]
end Go.Proofs.Ytpfponhaofdbaaa.M
