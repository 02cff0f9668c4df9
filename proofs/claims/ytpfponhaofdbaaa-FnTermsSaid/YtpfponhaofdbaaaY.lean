import Derived.Test.YtpfponhaofdbaaaW
import Derived.Test.YtpfponhaofdbaaaF4
set_option linter.unusedVariables false
set_option linter.unusedSimpArgs false
namespace Go.Proofs.Ytpfponhaofdbaaa.M
open Go.RowKit Go.Proofs.YtpfponhaofdbaaaW.PrintWords
attribute [local go_sem] Oper.semAt_some

def encUpto (wi : Nat) (ch : List Int) (k m : Nat) : List Int := (List.range m).flatMap (fun j => enc (ch.getD (k * wi + j) 0))
def rowsTxt {R : Nat} (wi : Nat) (ch : List Int) (pre : List (Fin R)) : List Int := pre.flatMap (fun x => encUpto wi ch x.val wi ++ [10])

theorem keepsOthers_grown {W w1 : World} {row : Option Nat} (hg : W.grownBy w1 row) (hc : ∀ j, row = some j → ∃ cs t fr, W.heap[j]? = some (.cells cs t fr)) : KeepsOthers W w1 :=
  ⟨hg.size, fun k o hk ho => (hg.block k (blk_lt hk) (fun e => by
    obtain ⟨cs, t, fr, h⟩ := hc k e.symm
    rw [h] at hk
    injection hk with hk
    subst hk
    simp [Obj.isCells] at ho)).trans hk⟩
theorem encUpto_succ (wi : Nat) (ch : List Int) (k m : Nat) : encUpto wi ch k (m + 1) = encUpto wi ch k m ++ enc (ch.getD (k * wi + m) 0) := by
  unfold encUpto; rw [List.range_succ, List.flatMap_append]; simp
theorem encUpto_len (wi : Nat) (ch : List Int) (k m : Nat) : (encUpto wi ch k m).length ≤ 3 * m := by
  induction m with
  | zero => simp [encUpto]
  | succ m ih => rw [encUpto_succ, List.length_append]; have := enc_len (ch.getD (k * wi + m) 0); omega
theorem rowsTxt_len {R : Nat} (wi : Nat) (ch : List Int) (pre : List (Fin R)) : (rowsTxt wi ch pre).length ≤ pre.length * (3 * wi + 1) := by
  induction pre with
  | nil => simp [rowsTxt]
  | cons x pre ih =>
    unfold rowsTxt at ih ⊢
    rw [List.flatMap_cons, List.length_append, List.length_append]
    show _ ≤ (pre.length + 1) * (3 * wi + 1)
    rw [Nat.add_mul]
    have := encUpto_len wi ch x.val wi
    simp only [List.length_cons, List.length_nil]
    omega
theorem rowsTxt_snoc {R : Nat} (wi : Nat) (ch : List Int) (pre : List (Fin R)) (x : Fin R) : rowsTxt wi ch (pre ++ [x]) = rowsTxt wi ch pre ++ (encUpto wi ch x.val wi ++ [10]) := by
  unfold rowsTxt; rw [List.flatMap_append]; simp
/-- The rows one by one are the text. -/
theorem txt_row (wi : Nat) (hw : 1 ≤ wi) (ch : List Int) (k : Nat) : ∀ m, m < wi → txt wi ch (k * wi + m) = txt wi ch (k * wi) ++ encUpto wi ch k m
  | 0, _ => by simp [encUpto]
  | m + 1, hm => by
    have ih := txt_row wi hw ch k m (by omega)
    rw [show k * wi + (m + 1) = (k * wi + m) + 1 from rfl, txt, ih, encUpto_succ, if_neg, List.append_nil, List.append_assoc]
    intro h
    have e : ((k * wi + m : Nat) : Int) + 1 = (k : Int) * wi + ((m + 1 : Nat) : Int) := by rw [Int.natCast_add, Int.natCast_mul]; omega
    rw [e, Int.add_comm, Int.add_mul_emod_self_right, Int.emod_eq_of_lt (by omega) (by omega)] at h
    omega
theorem txt_rows (wi : Nat) (hw : 1 ≤ wi) (ch : List Int) : ∀ k, txt wi ch (k * wi) = (List.range k).flatMap (fun j => encUpto wi ch j wi ++ [10])
  | 0 => by simp [txt]
  | k + 1 => by
    obtain ⟨m, rfl⟩ : ∃ m, wi = m + 1 := ⟨wi - 1, by omega⟩
    have h := txt_row (m + 1) hw ch k m (by omega)
    rw [Nat.succ_mul, show k * (m + 1) + (m + 1) = (k * (m + 1) + m) + 1 from rfl, txt, h, txt_rows (m + 1) hw ch k, List.range_succ, List.flatMap_append]
    rw [if_pos]
    · simp only [List.flatMap_cons, List.flatMap_nil, List.append_nil, List.append_assoc]
      rw [encUpto_succ, List.append_assoc]
    · have e : ((k * (m + 1) + m : Nat) : Int) + 1 = ((k + 1 : Nat) : Int) * ((m + 1 : Nat) : Int) := by rw [Int.natCast_add, Int.natCast_mul, Int.natCast_add k 1, Int.add_mul]; omega
      rw [e]
      exact Int.mul_emod_left _ _
theorem rowsTxt_all {R : Nat} (wi : Nat) (hw : 1 ≤ wi) (ch : List Int) (ys : List (Fin R)) (h : ys.map Fin.val = List.range R) : rowsTxt wi ch ys = txt wi ch (R * wi) := by
  rw [txt_rows wi hw ch R, ← h]
  unfold rowsTxt
  rw [List.flatMap_map]

set_option maxRecDepth 100000 in
set_option maxHeartbeats 2000000 in
theorem termText_c (wi R : Nat) (ro y xx : Int) (hi : Bool) (ad : Addr) (c : Nat) (ch : List Int) (B : Option Addr) (d : Nat) (hs : List Bool) (w : World)
    (hr : Kd.C (Kd.int .i64) w (some ad) ch.length ch) (hc : ch.length ≤ c) (hw : 1 ≤ wi) (hw2 : wi ≤ 40) (hR : ch.length = R * wi) (hR2 : R * wi ≤ 520) (hseen : ∀ z ∈ ch, isSeen z = true) (hlt : ad.block < w.heap.size) :
    Calls Try.prog 90 #[.agg #[.int .i64 (wi : Int), .int .i64 ro, .int .i64 y, .int .i64 xx, .bool hi, .slice (some ad) ch.length c, .slice B hs.length d]] w fun e w' => e = .returned (.string (strOfNums (txt wi ch ch.length))) ∧ Below w.heap.size w w' := by
  have HR := Aside0.mk hr
  have HSE := Aside0.mk hseen
  have HRW := Aside0.mk hR
  have hlen : ch.length ≤ 520 := by omega
  clear hr hseen hR
  have hwi : (1 : Int) ≤ (wi : Int) := by omega
  refine (callsIn_wide (n := 8)).1 ?_
  refine callsIn_of_wp_marks Try.func90 rfl trivial ?_ rfl
  simp only [Try.ntmps90, List.size_toArray, List.length_cons, List.length_nil, Nat.reduceAdd, Nat.reduceSub, Array.replicate_succ, Array.replicate_zero, List.push_toArray, List.append_toArray, List.nil_append, List.cons_append]
  gi_wp2_with fail
  refine ⟨trivial, (callsIn_wide.2 (chunk_c (some ad) ch.length c (wi : Int) _ hwi)).mono ?_⟩
  rintro e w' ⟨rfl, rfl⟩
  gi_wp2
  obtain ⟨w3, hw3⟩ : ∃ w3, w3 = ((w.alloc (.cells #[.int .i64 (wi : Int), .int .i64 ro, .int .i64 y, .int .i64 xx, .bool hi, .slice (some ad) ch.length c, .slice B hs.length d] 47)).alloc (.cells #[] 5)).alloc (.cells #[.slice (some ⟨w.heap.size + 1, 0, none⟩) 0 0] 36) := ⟨_, rfl⟩
  obtain ⟨w5, hw5⟩ : ∃ w5, w5 = (w3.alloc (.cells #[.slice (some ad) ch.length c] 27)).alloc (.cells #[.int .i64 (wi : Int)] 3) := ⟨_, rfl⟩
  have s3 : w3.heap.size = w.heap.size + 1 + 1 + 1 := by rw [hw3]; simp only [size_alloc]
  have s5 : w5.heap.size = w.heap.size + 1 + 1 + 1 + 1 + 1 := by rw [hw5]; simp only [size_alloc]; omega
  rw [← hw3, ← hw5]
  have NS5 : w5.heap[w.heap.size + 1 + 1 + 1]? = some (.cells #[.slice (some ad) ch.length c] 27 (0, 0)) := by rw [hw5]; repeat (with_reducible first | exact blk_new _ | refine blk_new' _ (by simp only [size_alloc, s3]; done) | refine blk_alloc ?_ _)
  have NN5 : w5.heap[w.heap.size + 1 + 1 + 1 + 1]? = some (.cells #[.int .i64 (wi : Int)] 3 (0, 0)) := by rw [hw5]; repeat (with_reducible first | exact blk_new _ | refine blk_new' _ (by simp only [size_alloc, s3]; done) | refine blk_alloc ?_ _)
  have NO5 : w5.heap[w.heap.size + 1 + 1]? = some (.cells #[.slice (some ⟨w.heap.size + 1, 0, none⟩) 0 0] 36 (0, 0)) := by rw [hw5, hw3]; repeat (with_reducible first | exact blk_new _ | refine blk_new' _ (by simp only [size_alloc]; done) | refine blk_alloc ?_ _)
  have NL5 : w5.heap[w.heap.size + 1]? = some (.cells #[] 5 (0, 0)) := by rw [hw5, hw3]; repeat (with_reducible first | exact blk_new _ | refine blk_new' _ (by simp only [size_alloc]; done) | refine blk_alloc ?_ _)
  have HB5 : Below w.heap.size w w5 := by rw [hw5, hw3]; repeat (with_reducible first | exact Below.refl _ _ | refine below_alloc ?_ _)
  have cS := blk_cell NS5 0
  have cN := blk_cell NN5 0
  refine wpIn_rangeFunc_ownG rfl (by omega) (gf := 143) (lb := #[.pointer (some ⟨w.heap.size + 1 + 1 + 1, 0, none⟩), .pointer (some ⟨w.heap.size + 1 + 1 + 1 + 1, 0, none⟩)]) ?hg trivial (enters_of Try.func143 (by kernel_rfl) rfl)
    (chunk_stops 7 (by omega) (w.heap.size + 1 + 1 + 1) (w.heap.size + 1 + 1 + 1 + 1) ad wi R c hw hw2 hR2 (by rw [← HRW.out]; exact hc) w5 (by omega) (by omega) (by rw [← HRW.out]; exact cS) cN) Two.trans (two_b _ _ _) (Below.refl _ _) (fun _ => rfl)
    (fun (pre : List (Fin R)) (W : World) => (∃ v, W.heap[w.heap.size + 1 + 1]? = some (.cells #[v] 36 (0, 0)) ∧ Kd.R (Kd.int .u8) 5 W w.heap.size (fun _ => True) v (rowsTxt wi ch pre)) ∧ Below w.heap.size w W ∧ W.heap[w.heap.size + 1 + 1 + 1]? = some (.cells #[.slice (some ad) ch.length c] 27 (0, 0)) ∧ W.heap[w.heap.size + 1 + 1 + 1 + 1]? = some (.cells #[.int .i64 (wi : Int)] 3 (0, 0)))
    (fun _ _ _ => False) ?hI (fun _ _ _ _ _ hs _ _ => hs) ?h0
    (fun x => { tmps := #[.agg #[.int .i64 (wi : Int), .int .i64 ro, .int .i64 y, .int .i64 xx, .bool hi, .slice (some ad) ch.length c, .slice B hs.length d], .pointer (some ⟨w.heap.size, 0, none⟩), .string ⟨#[]⟩, .pointer (some ⟨w.heap.size + 1 + 1, 0, none⟩), (.slice (some (ad.add (x.val * wi))) wi wi), undef, undef, .slice (some ⟨w.heap.size + 1, 0, none⟩) 0 0, .pointer (some ⟨w.heap.size, 5, none⟩), .slice (some ad) ch.length c, .pointer (some ⟨w.heap.size, 0, none⟩), .int .i64 (wi : Int), .func (.func 143) #[] #[.pointer (some ⟨w.heap.size + 1 + 1 + 1, 0, none⟩), .pointer (some ⟨w.heap.size + 1 + 1 + 1 + 1, 0, none⟩)], (.slice (some (ad.add (x.val * wi))) wi wi), undef, undef, undef, undef, undef, undef, undef, undef, undef, undef, undef, undef, undef, undef, undef, undef], defers := [] }) ?assign ?body ?done ?stop
  case hg => rfl
  case hI =>
    rintro pre A B row ⟨⟨v, hbox, hRv⟩, hB, hS, hN⟩ hg hr
    have ne : ∀ (k : Nat) (o : Obj), A.heap[k]? = some o → o.isCells = true → B.heap[k]? = some o := fun (k : Nat) (o : Obj) (h : A.heap[k]? = some o) (ho : o.isCells = true) => (hg.block k (blk_lt h) (fun e => by
      obtain ⟨_, o', h', ho'⟩ := hr k e.symm
      rw [h] at h'; cases h'; rw [ho] at ho'; cases ho')).trans h
    refine ⟨⟨v, ne _ _ hbox rfl, R_updI hRv (Upd.of_grown hg) (fun k hk e => ?_)⟩, hB.grown hg hB.size (fun k e => by have := (hr k e).1; omega), ne _ _ hS rfl, ne _ _ hN rfl⟩
    obtain ⟨cs, h⟩ := Kd.R_typed hRv k hk
    obtain ⟨_, o', h', ho'⟩ := hr k e
    rw [h] at h'; cases h'; cases ho'
  case h0 =>
    refine ⟨⟨_, NO5, ?_⟩, HB5, NS5, NN5⟩
    exact R_at (l := []) NL5 (Nat.le_succ _) (by simp)
  case assign =>
    intro l x W K hK
    gi_wp2
    exact hK
  case body =>
    rintro l pre x W ⟨⟨v, hbox, hRv⟩, hB, hS, hN⟩ hlt
    have hxw : x.val * wi + wi ≤ ch.length := by rw [HRW.out, ← Nat.succ_mul]; exact Nat.mul_le_mul_right _ x.isLt
    generalize hxv : x.val * wi = xw at *
    gi_wp2
    gi_loopw [16] (fun i wr => ∃ (m : Nat) (v : Value), m ≤ wi ∧ i = .int .i64 m ∧ Aside0 (wr.heap[w.heap.size + 1 + 1]? = some (.cells #[v] 36 (0, 0))) ∧ Aside0 (Kd.R (Kd.int .u8) 5 wr w.heap.size (fun _ => True) v (rowsTxt wi ch pre ++ encUpto wi ch x.val m)) ∧ Aside0 (Below w.heap.size w wr) ∧ Aside0 (wr.heap[w.heap.size + 1 + 1 + 1]? = some (.cells #[.slice (some ad) ch.length c] 27 (0, 0))) ∧ Aside0 (wr.heap[w.heap.size + 1 + 1 + 1 + 1]? = some (.cells #[.int .i64 (wi : Int)] 3 (0, 0))) ∧ Aside0 (KeepsFrom w5.heap.size W wr)) (fun i _ => wi - (intOf i).toNat)
    case atStart => exact ⟨0, v, Nat.zero_le _, rfl, ⟨hbox⟩, ⟨by simpa [encUpto] using hRv⟩, ⟨hB⟩, ⟨hS⟩, ⟨hN⟩, ⟨KeepsFrom.refl _ _⟩⟩
    case round =>
      obtain ⟨m, v, hm, rfl, HBX, HRV, HB, HS5, HN5, HK5⟩ := hrel
      by_cases hmw : m < wi
      · have hrk := Kd.C_below HR.out HB.out
        obtain ⟨ad', e, hx⟩ := at1 hrk 0 (xw + m) (by omega)
        clear hrk
        cases e
        have hx' : wr.cell? ((ad.add xw).add m) = some (.int .i64 (ch.getD (xw + m) 0)) := by rw [add_add]; exact hx
        have hcs := HSE.out (ch.getD (xw + m) 0) (by rw [List.getD_eq_getElem?_getD, List.getElem?_eq_getElem (by omega)]; exact List.getElem_mem _)
        have hcb := isSeen_bd hcs
        clear hx hcs
        have hcc : enc (ch.getD (xw + m) 0) = enc (ch.getD (x.val * wi + m) 0) := by rw [hxv]
        generalize ch.getD (xw + m) 0 = cc at hx' hcb hcc
        have HCC := Aside0.mk hcc
        clear hcc
        have hbc := blk_cell HBX.out 0
        have HLEN := Aside0.mk (show (rowsTxt wi ch pre).length ≤ 520 * 121 from Nat.le_trans (rowsTxt_len wi ch pre) (Nat.mul_le_mul (by have : R ≤ R * wi := Nat.le_mul_of_pos_right R (by omega); omega) (by omega)))
        have hbl := blk_lt HBX.out
        gi_wp2
        refine wpIn_region_any (by kernel_rfl) ?_
        (try (change wpAnyIn _ _ _ _ _ _ _ _ _ (World.drew _)))
        refine wpAnyIn_ready (rs := [0, 1]) (by kernel_rfl) (by simp) ?_
        refine AllReadyIn.cons rfl (fun K hK => ?_) (AllReadyIn.cons rfl (fun K hK => ?_) AllReadyIn.nil)
        · go_simp
          refine hK _ _ ?_
          clear hK K
          refine wpAnyIn_ready (rs := [1]) (by kernel_rfl) (by simp) ?_
          refine AllReadyIn.cons rfl (fun K hK => ?_) AllReadyIn.nil
          go_simp
          refine hK _ _ ?_
          clear hK K
          refine wpAnyIn_ready (rs := [2]) (by kernel_rfl) (by simp) ?_
          refine AllReadyIn.cons rfl (fun K hK => ?_) AllReadyIn.nil
          go_simp
          refine ⟨trivial, (CallsIn.inRound l (callsIn_wide.2 (encoded_c cc _ hcb.1 hcb.2))).mono ?_⟩
          rintro e w' ⟨rfl, rfl⟩
          refine hK _ _ ?_
          clear hK K
          refine wpAnyIn_ready (rs := [3]) (by kernel_rfl) (by simp) ?_
          refine AllReadyIn.cons rfl (fun K hK => ?_) AllReadyIn.nil
          refine append_rows_in (Kd.int .u8) (w0 := w) w.heap.size (by rfl) (.tmp 20) (.tmp 22) 36 5 (.int .u8 0) 1 (by rfl) Try.underlying36 info_u8' rfl (by decide) (by omega) v (rowsTxt wi ch pre ++ encUpto wi ch x.val m) (enc cc) (some ⟨wr.heap.size, 0, none⟩) (enc cc).length (enc cc).length (fun _ => True) (fun _ => False) (by rfl) (by rfl) (Kd.R_alloc (Kd.R_drew HRV.out) _) (C_new wr.drew 5 (enc cc) (by have := enc_len cc; omega)) (fun _ _ h => h) (fun _ h => h.elim) (fun _ _ => trivial) (below_alloc (below_drew HB.out) _) (by have := HB.out.size; simp only [size_alloc, size_drew]; omega) (by rw [List.length_append]; have := HLEN.out; have := encUpto_len wi ch x.val m; have := enc_len cc; omega) ?_
          intro v1 w1 hR1 hB1 hg1 hat1
          obtain ⟨L1, hL1⟩ : ∃ L1, (rowsTxt wi ch pre ++ encUpto wi ch x.val m) ++ enc cc = L1 := ⟨_, rfl⟩
          rw [hL1] at hR1
          have HL1 := Aside0.mk (show L1 = rowsTxt wi ch pre ++ encUpto wi ch x.val (m + 1) by rw [← hL1, encUpto_succ, List.append_assoc]; rw [HCC.out])
          clear hL1
          obtain ⟨A1, c1, rfl, _⟩ := Kd.R_reads hR1
          refine hK _ _ ?_
          clear hK K
          have hko := keepsOthers_grown hg1 (fun j e => by obtain ⟨cs, h⟩ := Kd.R_typed (Kd.R_alloc (Kd.R_drew HRV.out) (.cells ((enc cc).map (Value.int .u8)).toArray 5)) j e; exact ⟨cs, _, _, h⟩)
          have hvb : ∀ k, v.ownBlock = some k → ∃ cs, wr.heap[k]? = some (.cells cs 5 (0, 0)) := Kd.R_typed HRV.out
          have nb := fun (k : Nat) (o : Obj) (h : wr.heap[k]? = some o) (hn : v.ownBlock ≠ some k) => ((hg1.block k (by have := blk_lt h; simp only [size_alloc, size_drew]; omega) (fun e => hn e.symm)).trans (blk_alloc (blk_drew h) _))
          have nbo := nb _ _ HBX.out (fun e => row_box HRV.out HBX.out (by decide) e)
          have nbs := nb _ _ HS5.out (fun e => row_box HRV.out HS5.out (by decide) e)
          have nbn := nb _ _ HN5.out (fun e => row_box HRV.out HN5.out (by decide) e)
          have NBO := Aside0.mk nbo
          have NBS := Aside0.mk nbs
          have NBN := Aside0.mk nbn
          have rdo := blk_cell nbo 0
          have fro := blk_free nbo 0
          have HR1 := Aside0.mk hR1
          have HB1 := Aside0.mk hB1
          have HKO := Aside0.mk hko
          clear hR1 hB1 hg1 hat1 hko hvb nb nbo nbs nbn
          refine wpAnyIn_ready (rs := [4]) (by kernel_rfl) (by simp) ?_
          refine AllReadyIn.cons rfl (fun K hK => ?_) AllReadyIn.nil
          go_simp
          refine hK _ _ ?_
          clear hK K
          refine wpAnyIn_done (by kernel_rfl) ?_ _
          gi_wp2
          go_roundw
          case rel => exact ⟨m + 1, _, by omega, by go_num, ⟨blk_set NBO.out rfl⟩, ⟨by rw [← HL1.out]; exact R_updI HR1.out (upd_set _ _ _ _) (fun k hk e => by subst e; exact row_box HR1.out NBO.out (by decide) hk)⟩, ⟨HB1.out.setCell (by dsimp only; omega) _⟩, ⟨blk_setO NBS.out (by omega)⟩, ⟨blk_setO NBN.out (by omega)⟩, ⟨by first | exact HK5.out.trans (((KeepsOthers.drew _).trans (((KeepsOthers.alloc _ _).trans HKO.out).trans (KeepsOthers.setCell _ _ _))).from _) | exact HK5.out.trans ((((KeepsOthers.alloc _ _).trans (KeepsOthers.drew _)).trans (HKO.out.trans (KeepsOthers.setCell _ _ _))).from _)⟩⟩
          case measure => simp [intOf]; omega
        · go_simp
          refine hK _ _ ?_
          clear hK K
          refine wpAnyIn_ready (rs := [0, 2]) (by kernel_rfl) (by simp) ?_
          refine AllReadyIn.cons rfl (fun K hK => ?_) (AllReadyIn.cons rfl (fun K hK => ?_) AllReadyIn.nil)
          · go_simp
            refine hK _ _ ?_
            clear hK K
            refine wpAnyIn_ready (rs := [2]) (by kernel_rfl) (by simp) ?_
            refine AllReadyIn.cons rfl (fun K hK => ?_) AllReadyIn.nil
            go_simp
            refine ⟨trivial, (CallsIn.inRound l (callsIn_wide.2 (encoded_c cc _ hcb.1 hcb.2))).mono ?_⟩
            rintro e w' ⟨rfl, rfl⟩
            refine hK _ _ ?_
            clear hK K
            refine wpAnyIn_ready (rs := [3]) (by kernel_rfl) (by simp) ?_
            refine AllReadyIn.cons rfl (fun K hK => ?_) AllReadyIn.nil
            refine append_rows_in (Kd.int .u8) (w0 := w) w.heap.size (by rfl) (.tmp 20) (.tmp 22) 36 5 (.int .u8 0) 1 (by rfl) Try.underlying36 info_u8' rfl (by decide) (by omega) v (rowsTxt wi ch pre ++ encUpto wi ch x.val m) (enc cc) (some ⟨wr.heap.size, 0, none⟩) (enc cc).length (enc cc).length (fun _ => True) (fun _ => False) (by rfl) (by rfl) (Kd.R_alloc (Kd.R_drew HRV.out) _) (C_new wr.drew 5 (enc cc) (by have := enc_len cc; omega)) (fun _ _ h => h) (fun _ h => h.elim) (fun _ _ => trivial) (below_alloc (below_drew HB.out) _) (by have := HB.out.size; simp only [size_alloc, size_drew]; omega) (by rw [List.length_append]; have := HLEN.out; have := encUpto_len wi ch x.val m; have := enc_len cc; omega) ?_
            intro v1 w1 hR1 hB1 hg1 hat1
            obtain ⟨L1, hL1⟩ : ∃ L1, (rowsTxt wi ch pre ++ encUpto wi ch x.val m) ++ enc cc = L1 := ⟨_, rfl⟩
            rw [hL1] at hR1
            have HL1 := Aside0.mk (show L1 = rowsTxt wi ch pre ++ encUpto wi ch x.val (m + 1) by rw [← hL1, encUpto_succ, List.append_assoc]; rw [HCC.out])
            clear hL1
            obtain ⟨A1, c1, rfl, _⟩ := Kd.R_reads hR1
            refine hK _ _ ?_
            clear hK K
            have hko := keepsOthers_grown hg1 (fun j e => by obtain ⟨cs, h⟩ := Kd.R_typed (Kd.R_alloc (Kd.R_drew HRV.out) (.cells ((enc cc).map (Value.int .u8)).toArray 5)) j e; exact ⟨cs, _, _, h⟩)
            have hvb : ∀ k, v.ownBlock = some k → ∃ cs, wr.heap[k]? = some (.cells cs 5 (0, 0)) := Kd.R_typed HRV.out
            have nb := fun (k : Nat) (o : Obj) (h : wr.heap[k]? = some o) (hn : v.ownBlock ≠ some k) => ((hg1.block k (by have := blk_lt h; simp only [size_alloc, size_drew]; omega) (fun e => hn e.symm)).trans (blk_alloc (blk_drew h) _))
            have nbo := nb _ _ HBX.out (fun e => row_box HRV.out HBX.out (by decide) e)
            have nbs := nb _ _ HS5.out (fun e => row_box HRV.out HS5.out (by decide) e)
            have nbn := nb _ _ HN5.out (fun e => row_box HRV.out HN5.out (by decide) e)
            have NBO := Aside0.mk nbo
            have NBS := Aside0.mk nbs
            have NBN := Aside0.mk nbn
            have rdo := blk_cell nbo 0
            have fro := blk_free nbo 0
            have HR1 := Aside0.mk hR1
            have HB1 := Aside0.mk hB1
            have HKO := Aside0.mk hko
            clear hR1 hB1 hg1 hat1 hko hvb nb nbo nbs nbn
            refine wpAnyIn_ready (rs := [4]) (by kernel_rfl) (by simp) ?_
            refine AllReadyIn.cons rfl (fun K hK => ?_) AllReadyIn.nil
            go_simp
            refine hK _ _ ?_
            clear hK K
            refine wpAnyIn_done (by kernel_rfl) ?_ _
            gi_wp2
            go_roundw
            case rel => exact ⟨m + 1, _, by omega, by go_num, ⟨blk_set NBO.out rfl⟩, ⟨by rw [← HL1.out]; exact R_updI HR1.out (upd_set _ _ _ _) (fun k hk e => by subst e; exact row_box HR1.out NBO.out (by decide) hk)⟩, ⟨HB1.out.setCell (by dsimp only; omega) _⟩, ⟨blk_setO NBS.out (by omega)⟩, ⟨blk_setO NBN.out (by omega)⟩, ⟨by first | exact HK5.out.trans (((KeepsOthers.drew _).trans (((KeepsOthers.alloc _ _).trans HKO.out).trans (KeepsOthers.setCell _ _ _))).from _) | exact HK5.out.trans ((((KeepsOthers.alloc _ _).trans (KeepsOthers.drew _)).trans (HKO.out.trans (KeepsOthers.setCell _ _ _))).from _)⟩⟩
            case measure => simp [intOf]; omega
          · go_simp
            refine ⟨trivial, (CallsIn.inRound l (callsIn_wide.2 (encoded_c cc _ hcb.1 hcb.2))).mono ?_⟩
            rintro e w' ⟨rfl, rfl⟩
            refine hK _ _ ?_
            clear hK K
            refine wpAnyIn_ready (rs := [0]) (by kernel_rfl) (by simp) ?_
            refine AllReadyIn.cons rfl (fun K hK => ?_) AllReadyIn.nil
            go_simp
            refine hK _ _ ?_
            clear hK K
            refine wpAnyIn_ready (rs := [3]) (by kernel_rfl) (by simp) ?_
            refine AllReadyIn.cons rfl (fun K hK => ?_) AllReadyIn.nil
            refine append_rows_in (Kd.int .u8) (w0 := w) w.heap.size (by rfl) (.tmp 20) (.tmp 22) 36 5 (.int .u8 0) 1 (by rfl) Try.underlying36 info_u8' rfl (by decide) (by omega) v (rowsTxt wi ch pre ++ encUpto wi ch x.val m) (enc cc) (some ⟨wr.heap.size, 0, none⟩) (enc cc).length (enc cc).length (fun _ => True) (fun _ => False) (by rfl) (by rfl) (Kd.R_alloc (Kd.R_drew HRV.out) _) (C_new wr.drew 5 (enc cc) (by have := enc_len cc; omega)) (fun _ _ h => h) (fun _ h => h.elim) (fun _ _ => trivial) (below_alloc (below_drew HB.out) _) (by have := HB.out.size; simp only [size_alloc, size_drew]; omega) (by rw [List.length_append]; have := HLEN.out; have := encUpto_len wi ch x.val m; have := enc_len cc; omega) ?_
            intro v1 w1 hR1 hB1 hg1 hat1
            obtain ⟨L1, hL1⟩ : ∃ L1, (rowsTxt wi ch pre ++ encUpto wi ch x.val m) ++ enc cc = L1 := ⟨_, rfl⟩
            rw [hL1] at hR1
            have HL1 := Aside0.mk (show L1 = rowsTxt wi ch pre ++ encUpto wi ch x.val (m + 1) by rw [← hL1, encUpto_succ, List.append_assoc]; rw [HCC.out])
            clear hL1
            obtain ⟨A1, c1, rfl, _⟩ := Kd.R_reads hR1
            refine hK _ _ ?_
            clear hK K
            have hko := keepsOthers_grown hg1 (fun j e => by obtain ⟨cs, h⟩ := Kd.R_typed (Kd.R_alloc (Kd.R_drew HRV.out) (.cells ((enc cc).map (Value.int .u8)).toArray 5)) j e; exact ⟨cs, _, _, h⟩)
            have hvb : ∀ k, v.ownBlock = some k → ∃ cs, wr.heap[k]? = some (.cells cs 5 (0, 0)) := Kd.R_typed HRV.out
            have nb := fun (k : Nat) (o : Obj) (h : wr.heap[k]? = some o) (hn : v.ownBlock ≠ some k) => ((hg1.block k (by have := blk_lt h; simp only [size_alloc, size_drew]; omega) (fun e => hn e.symm)).trans (blk_alloc (blk_drew h) _))
            have nbo := nb _ _ HBX.out (fun e => row_box HRV.out HBX.out (by decide) e)
            have nbs := nb _ _ HS5.out (fun e => row_box HRV.out HS5.out (by decide) e)
            have nbn := nb _ _ HN5.out (fun e => row_box HRV.out HN5.out (by decide) e)
            have NBO := Aside0.mk nbo
            have NBS := Aside0.mk nbs
            have NBN := Aside0.mk nbn
            have rdo := blk_cell nbo 0
            have fro := blk_free nbo 0
            have HR1 := Aside0.mk hR1
            have HB1 := Aside0.mk hB1
            have HKO := Aside0.mk hko
            clear hR1 hB1 hg1 hat1 hko hvb nb nbo nbs nbn
            refine wpAnyIn_ready (rs := [4]) (by kernel_rfl) (by simp) ?_
            refine AllReadyIn.cons rfl (fun K hK => ?_) AllReadyIn.nil
            go_simp
            refine hK _ _ ?_
            clear hK K
            refine wpAnyIn_done (by kernel_rfl) ?_ _
            gi_wp2
            go_roundw
            case rel => exact ⟨m + 1, _, by omega, by go_num, ⟨blk_set NBO.out rfl⟩, ⟨by rw [← HL1.out]; exact R_updI HR1.out (upd_set _ _ _ _) (fun k hk e => by subst e; exact row_box HR1.out NBO.out (by decide) hk)⟩, ⟨HB1.out.setCell (by dsimp only; omega) _⟩, ⟨blk_setO NBS.out (by omega)⟩, ⟨blk_setO NBN.out (by omega)⟩, ⟨by first | exact HK5.out.trans (((KeepsOthers.drew _).trans (((KeepsOthers.alloc _ _).trans HKO.out).trans (KeepsOthers.setCell _ _ _))).from _) | exact HK5.out.trans ((((KeepsOthers.alloc _ _).trans (KeepsOthers.drew _)).trans (HKO.out.trans (KeepsOthers.setCell _ _ _))).from _)⟩⟩
            case measure => simp [intOf]; omega
      · obtain rfl : m = wi := by omega
        have hbc := blk_cell HBX.out 0
        have hbl := blk_lt HBX.out
        have HLEN := Aside0.mk (show (rowsTxt m ch pre).length ≤ 520 * 121 from Nat.le_trans (rowsTxt_len m ch pre) (Nat.mul_le_mul (by have : R ≤ R * m := Nat.le_mul_of_pos_right R (by omega); omega) (by omega)))
        gi_wp2_with (gi_at_builtin; refine append_rows_list (Kd.int .u8) (w0 := w) w.heap.size rfl (.tmp 25) (.tmp 26) 36 5 (.int .u8 0) 1 rfl Try.underlying36 info_u8' rfl (by decide) (by omega) v (rowsTxt m ch pre ++ encUpto m ch x.val m) [10] (some ⟨wr.heap.size, 0, none⟩) 1 1 (fun _ => True) (fun _ => False) rfl rfl (Kd.R_alloc HRV.out _) (C_new (h1 := fun _ => rfl) (enc := Value.int .u8) wr 5 [10] (by simp)) (fun _ _ h => h) (fun _ h => h.elim) (fun _ _ => trivial) (below_alloc HB.out _) (by have := HB.out.size; simp only [size_alloc]; omega) (by rw [List.length_append]; have := HLEN.out; have := encUpto_len m ch x.val m; omega) ?_; intro v1 w1 hR1 hB1 hg1 hat1; obtain ⟨L1, hL1⟩ : ∃ L1, (rowsTxt m ch pre ++ encUpto m ch x.val m) ++ [10] = L1 := ⟨_, rfl⟩; rw [hL1] at hR1; have HL1 := Aside0.mk (show L1 = rowsTxt m ch (pre ++ [x]) by rw [← hL1, rowsTxt_snoc, List.append_assoc]); clear hL1; obtain ⟨A1, c1, rfl, _⟩ := Kd.R_reads hR1; have hko := keepsOthers_grown hg1 (fun j e => by obtain ⟨cs, h⟩ := Kd.R_typed (Kd.R_alloc HRV.out _) j e; exact ⟨cs, _, _, h⟩); have nb := fun (k : Nat) (o : Obj) (h : wr.heap[k]? = some o) (hn : v.ownBlock ≠ some k) => ((hg1.block k (by have := blk_lt h; simp only [size_alloc]; omega) (fun e => hn e.symm)).trans (blk_alloc h _)); have nbo := nb _ _ HBX.out (fun e => row_box HRV.out HBX.out (by decide) e); have nbs := nb _ _ HS5.out (fun e => row_box HRV.out HS5.out (by decide) e); have nbn := nb _ _ HN5.out (fun e => row_box HRV.out HN5.out (by decide) e); have NBO := Aside0.mk nbo; have NBS := Aside0.mk nbs; have NBN := Aside0.mk nbn; have rdo := blk_cell nbo 0; have fro := blk_free nbo 0; have HR1 := Aside0.mk hR1; have HB1 := Aside0.mk hB1; have HKO := Aside0.mk hko; clear hR1 hB1 hg1 hat1 hko nb nbo nbs nbn)
        refine ⟨HK5.out.trans (((KeepsOthers.alloc _ _).trans (HKO.out.trans (KeepsOthers.setCell _ _ _))).from _), ?_, ⟨_, blk_set NBO.out rfl, ?_⟩, HB1.out.setCell (by dsimp only; omega) _, blk_setO NBS.out (by omega), blk_setO NBN.out (by omega)⟩
        · intro g u hg hu
          have e1 := blk_cell hS 0
          have e2 := blk_cell hN 0
          have e3 := blk_cell (blk_setO (i := 0) (v := .slice A1 L1.length c1) (p := w.heap.size + 1 + 1) NBS.out (by omega)) 0
          have e4 := blk_cell (blk_setO (i := 0) (v := .slice A1 L1.length c1) (p := w.heap.size + 1 + 1) NBN.out (by omega)) 0
          rcases hg with rfl | rfl
          · rw [e3, ← hu, e1]
          · rw [e4, ← hu, e2]
        · rw [← HL1.out]; exact R_updI HR1.out (upd_set _ _ _ _) (fun k hk e => by subst e; exact row_box HR1.out NBO.out (by decide) hk)
  case done => 
    rintro D xs W hD hS ⟨⟨v, hbox, hRv⟩, hB, hS5, hN5⟩ hd
    have hrows := rowsTxt_all wi hw ch xs hS
    rw [hrows, ← HRW.out] at hRv
    obtain ⟨A1, c1, rfl, hcap, hC1⟩ := Kd.R_reads hRv
    have hst : (convert 36 9 (.slice A1 (txt wi ch ch.length).length c1)).run Try.prog W = .ok (.string (strOfNums (txt wi ch ch.length))) W := strU _ _ _ _ _ hC1
    have hbc := blk_cell hbox 0
    have hbl := blk_lt hbox
    generalize hT : txt wi ch ch.length = T at *
    gi_wp2
    rw [hT]
    refine ⟨by simp, .inl ⟨_, _, rfl, run_takeDeferred hd, ?_⟩⟩
    exact ⟨_, results_tmp rfl _ _ _, rfl, hB.trans (belowK_b (w := w) (Nat.le_refl _) W D _ _ (by omega) hd rfl rfl)⟩
  case stop =>
    rintro D cc pre W _ _ h _
    exact h.elim
end Go.Proofs.Ytpfponhaofdbaaa.M
