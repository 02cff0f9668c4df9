import Derived.Test.YtpfponhaofdbaaaX
import Derived.RangeFuncNested
import Derived.RangeFuncBound
import Derived.RangeFuncCalls
import Derived.RangeFuncLeaves
import Derived.Shelf.Abstract
import Derived.OwnWalkIn
import Derived.TacticsInMore
import Derived.LoopNIn
import Derived.LoopIn
import Derived.Sort.QuietIn
set_option linter.unusedVariables false
set_option linter.unusedSimpArgs false
namespace Go.Proofs.Ytpfponhaofdbaaa.M
open Go.RowKit Go.Proofs.YtpfponhaofdbaaaW.PrintWords
attribute [local go_sem] Oper.semAt_some

/-! slices.Chunk: its closure reads two boxes of its own between two rounds (Two: what a round keeps of them) -/
def Two (b b' : Nat) (W W' : World) : Prop := ∀ g v, (g = b ∨ g = b') → W.cell? ⟨g, 0, none⟩ = some v → W'.cell? ⟨g, 0, none⟩ = some v
theorem Two.trans {b b' : Nat} {A B C : World} (h : Two b b' A B) (k : Two b b' B C) : Two b b' A C := fun g v hg hv => k g v hg (h g v hg hv)

set_option maxRecDepth 100000 in
set_option maxHeartbeats 2000000 in
theorem chunk1_in (n : Nat) (hn : 1 ≤ n) (l Bs Bn : Nat) (ad : Addr) (wi R cap : Nat) (hw : 1 ≤ wi) (hw2 : wi ≤ 40) (hR : R * wi ≤ 520) (hcap : R * wi ≤ cap) (J Jx : List (Fin R) → World → Prop) (hJ : ∀ s W q, J s W → J s (World.drewN W q))
    (hY : ∀ pre x W, J pre W → pre.length < R → YieldAt Fence.wide (n - 1) Try.prog l #[.slice (some (ad.add (x.val * wi))) wi wi] W fun e W' =>
      (e = .returned (.bool true) ∧ J (pre ++ [x]) W' ∧ Two Bs Bn W W') ∨ (e = .returned (.bool false) ∧ Jx (pre ++ [x]) W'))
    (W : World) (hBs : W.cell? ⟨Bs, 0, none⟩ = some (.slice (some ad) (R * wi) cap)) (hBn : W.cell? ⟨Bn, 0, none⟩ = some (.int .i64 (wi : Int))) (h0 : J [] W) :
    CallsIn Fence.wide n Try.prog 143 #[.func (.yield l) #[] #[], .pointer (some ⟨Bs, 0, none⟩), .pointer (some ⟨Bn, 0, none⟩)] W fun e W' => (∃ v, e = .returned v) ∧
      ((∃ ys : List (Fin R), ys.map Fin.val = List.range R ∧ J ys W') ∨ (∃ pre, True ∧ Jx pre W')) := by
  refine callsIn_of_wp Try.func143 rfl trivial ?_ rfl
  simp only [Try.ntmps143, List.size_toArray, List.length_cons, List.length_nil, Nat.reduceAdd, Nat.reduceSub, Array.replicate_succ, Array.replicate_zero, List.push_toArray, List.append_toArray, List.nil_append, List.cons_append]
  gi_wp2
  gi_loopw [4] (fun i wr => ∃ (k : Nat) (pre : List (Fin R)), k ≤ R ∧ i = .int .i64 ((k * wi : Nat) : Int) ∧ pre.map Fin.val = List.range k ∧ J pre wr ∧ wr.cell? ⟨Bs, 0, none⟩ = some (.slice (some ad) (R * wi) cap) ∧ wr.cell? ⟨Bn, 0, none⟩ = some (.int .i64 (wi : Int))) (fun i _ => R * wi - (intOf i).toNat)
  case atStart => exact ⟨0, [], Nat.zero_le _, by simp, rfl, h0, hBs, hBn⟩
  case round =>
    obtain ⟨k, pre, hk, rfl, hpre, hJs, c1, c2⟩ := hrel
    have hpl : pre.length = k := by have := congrArg List.length hpre; simpa using this
    have HPRE := Aside0.mk hpre
    clear hpre
    by_cases hlt : k < R
    · have hk1 : k * wi + wi ≤ R * wi := by rw [← Nat.succ_mul]; exact Nat.mul_le_mul_right _ hlt
      have hYq := fun q => hY pre ⟨k, hlt⟩ (wr.drewN q) (hJ _ _ q hJs) (by rw [hpl]; exact hlt)
      dsimp only at hYq
      clear hpl
      generalize hkw : k * wi = kw at *
      generalize hRw : R * wi = Rw at *
      have p1 : kw ≤ Rw := by omega
      gi_wp2
      gi_quiet (fail)
      obtain ⟨fn, tmps, assign, body, hy, hRR⟩ := hYq nq
      clear hYq
      gi_wp2
      refine hRR.mono ?_
      rintro e W3 (⟨rfl, hJ3, hk3⟩ | ⟨rfl, hJx3⟩)
      · have c1' := hk3 Bs _ (.inl rfl) c1
        have c2' := hk3 Bn _ (.inr rfl) c2
        gi_wp2
        go_roundw
        case rel => exact ⟨k + 1, pre ++ [⟨k, hlt⟩], by omega, by rw [Nat.succ_mul, hkw, Int.natCast_add], by rw [List.map_append, HPRE.out, List.range_succ]; rfl, hJ3, c1', c2'⟩
        case measure => simp [intOf]; omega
      · gi_wp2
        refine bodyPost_ret (results_none rfl _ _ _) rfl ?_
        exact ⟨⟨_, rfl⟩, .inr ⟨_, trivial, hJx3⟩⟩
    · obtain rfl : k = R := by omega
      gi_wp2
      go_end0
      exact ⟨⟨_, rfl⟩, .inl ⟨_, HPRE.out, hJs⟩⟩

theorem grown_drewN (W : World) (q : Nat) : W.grownBy (W.drewN q) none := ⟨rfl, rfl, rfl, Nat.le_refl _, fun _ _ _ => rfl⟩
theorem chunk_stops (n : Nat) (hn : 1 ≤ n) (Bs Bn : Nat) (ad : Addr) (wi R cap : Nat) (hw : 1 ≤ wi) (hw2 : wi ≤ 40) (hR : R * wi ≤ 520) (hcap : R * wi ≤ cap) (w : World) (h1 : Bs < w.heap.size) (h2 : Bn < w.heap.size)
    (hBs : w.cell? ⟨Bs, 0, none⟩ = some (.slice (some ad) (R * wi) cap)) (hBn : w.cell? ⟨Bn, 0, none⟩ = some (.int .i64 (wi : Int))) :
    SeqStopsK Fence.wide n Try.prog 143 #[.pointer (some ⟨Bs, 0, none⟩), .pointer (some ⟨Bn, 0, none⟩)] (fun x : Fin R => #[.slice (some (ad.add (x.val * wi))) wi wi]) (Two Bs Bn) (fun ys => ys.map Fin.val = List.range R) (fun _ => True) R w := fun l J Jx W hW hJ hJx hY h0 =>
  chunk1_in n hn l Bs Bn ad wi R cap hw hw2 hR hcap J Jx (fun s W q h => hJ s W _ none h (grown_drewN W q) (fun r e => by cases e)) hY W
    ((hW.cell (p := ⟨Bs, 0, none⟩) h1).trans hBs) ((hW.cell (p := ⟨Bn, 0, none⟩) h2).trans hBn) h0
theorem two_b (Bs Bn : Nat) (B : Nat) (W : World) (l : Nat) (o o' : Obj) (_ : B ≤ l) (ho : W.heap[l]? = some o) (hc : o.isCells = false) (_ : o.isWalk = false) : Two Bs Bn W (W.putObj l o') := fun g v _ hv =>
  Go.cell_kept hv (grownBy_putObj' W l o') (fun r e => by cases e; exact ⟨_, ho, hc⟩)
theorem chunk_c (A : Option Addr) (len cap : Nat) (wi : Int) (w : World) (hw : 1 ≤ wi) :
    Calls Try.prog 119 #[.slice A len cap, .int .i64 wi] w fun e w' => e = .returned (.func (.func 143) #[] #[.pointer (some ⟨w.heap.size, 0, none⟩), .pointer (some ⟨w.heap.size + 1, 0, none⟩)]) ∧ w' = (w.alloc (.cells #[.slice A len cap] 27)).alloc (.cells #[.int .i64 wi] 3) := by
  have b1 : decide (wi < 1) = false := decide_eq_false (by omega)
  go_enter Try.func119, Try.ntmps119
  go_wp2
  go_ret
  exact ⟨rfl, rfl⟩
end Go.Proofs.Ytpfponhaofdbaaa.M
