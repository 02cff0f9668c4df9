/-
  No cell of these rows narrows 'for every input' (looked for: loops, veiled, ifaces, maps, wideKeys, modest, calm, conditions, laid).
  DERIVED. THE GIVEN ROWS OF THIS SEAT. 11 by the template 'for every input the law returns true; each argument reads behind the call as it read before'; 0 by the template 'total and deterministic' (their statements: YtpfponhaofdbaaaTotals.lean).
  GIVEN WITH THE SEED: the statements are not yours to turn. If you find one false, say at which input.
  Laid BY PROGRAM, IN A SANDBOX (cutbox-rows.mjs): the forced cells as the released guide's own fill.sh prints them over the translation 9866f068f956508d… (all of the seat's roots in one cut). By AI agents, Wed Nov 11 2026. No macro, syntax, notation, axiom, sorry.
-/
import Derived.Test.YtpfponhaofdbaaaChecked
import GoSem.Claim
import GoSem.ClaimJoined
import GoSem.ClaimMapViews
import Derived.JoinedTies
import Derived.KernelRfl
namespace Go.Proofs.Ytpfponhaofdbaaa
/- THE CELL 'sum', in the pinned program and in every row, IS THE sha256 OF THE DUMP (.gsa) THAT YtpfponhaofdbaaaProg.lean LOADS. Nothing in Lean hashes anything: it is a label: what it is worth is what the hold of that sum in a sandbox is worth. -/
noncomputable def Try.pinned : Pinned := { name := "ytpfponhaofdbaaa", sum := "9866f068f956508d09e090c6537a4d07df69370ee7b720a99bdb0791b67ec2cd", checked := Try.checked }
namespace Rows
def none {H : Type} : Left H := { results := [], args := [] }

/-- 'laws.FnExactKeyName': WHATEVER THE INPUT: true; the input reads as it did. -/
def fnExactKeyNameSpec : ChangeSpec := { name := "fnExactKeyName", fn := fun _ => fun
  | [d] => { results := [.lit (.bool true)], args := [d] }
  | _ => none }
def fnExactKeyNameRow : OpenClaim := { program := "ytpfponhaofdbaaa", sum := "9866f068f956508d09e090c6537a4d07df69370ee7b720a99bdb0791b67ec2cd", func := "loop.example/g00414/laws.FnExactKeyName", spec := "fnExactKeyName", apart := false }
def FnExactKeyNameSaid : Prop := fnExactKeyNameRow.holds Try.pinned (OpenSpec.ofChange fnExactKeyNameSpec)

/-- ITS FALSE NEIGHBOUR: 'it returns false'. Refute it at one input. -/
def fnExactKeyNameWrong : ChangeSpec := { name := "fnExactKeyName", fn := fun _ => fun
  | [d] => { results := [.lit (.bool false)], args := [d] }
  | _ => none }
def FnExactKeyNameWrongFalsely : Prop := fnExactKeyNameRow.holds Try.pinned (OpenSpec.ofChange fnExactKeyNameWrong)

/-- 'laws.FnExactSameGrids': WHATEVER THE INPUT: true; the input reads as it did. -/
def fnExactSameGridsSpec : ChangeSpec := { name := "fnExactSameGrids", fn := fun _ => fun
  | [d1, d2] => { results := [.lit (.bool true)], args := [d1, d2] }
  | _ => none }
def fnExactSameGridsRow : OpenClaim := { program := "ytpfponhaofdbaaa", sum := "9866f068f956508d09e090c6537a4d07df69370ee7b720a99bdb0791b67ec2cd", func := "loop.example/g00414/laws.FnExactSameGrids", spec := "fnExactSameGrids", apart := false }
def FnExactSameGridsSaid : Prop := fnExactSameGridsRow.holds Try.pinned (OpenSpec.ofChange fnExactSameGridsSpec)

/-- ITS FALSE NEIGHBOUR: 'it returns false'. Refute it at one input. -/
def fnExactSameGridsWrong : ChangeSpec := { name := "fnExactSameGrids", fn := fun _ => fun
  | [d1, d2] => { results := [.lit (.bool false)], args := [d1, d2] }
  | _ => none }
def FnExactSameGridsWrongFalsely : Prop := fnExactSameGridsRow.holds Try.pinned (OpenSpec.ofChange fnExactSameGridsWrong)

/-- 'laws.FnExactUnquote': WHATEVER THE INPUT: true; the input reads as it did. -/
def fnExactUnquoteSpec : ChangeSpec := { name := "fnExactUnquote", fn := fun _ => fun
  | [d] => { results := [.lit (.bool true)], args := [d] }
  | _ => none }
def fnExactUnquoteRow : OpenClaim := { program := "ytpfponhaofdbaaa", sum := "9866f068f956508d09e090c6537a4d07df69370ee7b720a99bdb0791b67ec2cd", func := "loop.example/g00414/laws.FnExactUnquote", spec := "fnExactUnquote", inPlace := ["internal/bytealg.IndexByteString"], apart := false }
def FnExactUnquoteSaid : Prop := fnExactUnquoteRow.holds Try.pinned (OpenSpec.ofChange fnExactUnquoteSpec)

/-- ITS FALSE NEIGHBOUR: 'it returns false'. Refute it at one input. -/
def fnExactUnquoteWrong : ChangeSpec := { name := "fnExactUnquote", fn := fun _ => fun
  | [d] => { results := [.lit (.bool false)], args := [d] }
  | _ => none }
def FnExactUnquoteWrongFalsely : Prop := fnExactUnquoteRow.holds Try.pinned (OpenSpec.ofChange fnExactUnquoteWrong)

/-- 'laws.FnExactTermFault': WHATEVER THE INPUT: true; the input reads as it did. -/
def fnExactTermFaultSpec : ChangeSpec := { name := "fnExactTermFault", fn := fun _ => fun
  | [d] => { results := [.lit (.bool true)], args := [d] }
  | _ => none }
def fnExactTermFaultRow : OpenClaim := { program := "ytpfponhaofdbaaa", sum := "9866f068f956508d09e090c6537a4d07df69370ee7b720a99bdb0791b67ec2cd", func := "loop.example/g00414/laws.FnExactTermFault", spec := "fnExactTermFault", unfollowed := true, recurses := true, apart := false }
def FnExactTermFaultSaid : Prop := fnExactTermFaultRow.holds Try.pinned (OpenSpec.ofChange fnExactTermFaultSpec)

/-- ITS FALSE NEIGHBOUR: 'it returns false'. Refute it at one input. -/
def fnExactTermFaultWrong : ChangeSpec := { name := "fnExactTermFault", fn := fun _ => fun
  | [d] => { results := [.lit (.bool false)], args := [d] }
  | _ => none }
def FnExactTermFaultWrongFalsely : Prop := fnExactTermFaultRow.holds Try.pinned (OpenSpec.ofChange fnExactTermFaultWrong)

/-- 'laws.FnExactNewTerm': WHATEVER THE INPUT: true; the input reads as it did. -/
def fnExactNewTermSpec : ChangeSpec := { name := "fnExactNewTerm", fn := fun _ => fun
  | [d1, d2] => { results := [.lit (.bool true)], args := [d1, d2] }
  | _ => none }
def fnExactNewTermRow : OpenClaim := { program := "ytpfponhaofdbaaa", sum := "9866f068f956508d09e090c6537a4d07df69370ee7b720a99bdb0791b67ec2cd", func := "loop.example/g00414/laws.FnExactNewTerm", spec := "fnExactNewTerm", apart := false }
def FnExactNewTermSaid : Prop := fnExactNewTermRow.holds Try.pinned (OpenSpec.ofChange fnExactNewTermSpec)

/-- ITS FALSE NEIGHBOUR: 'it returns false'. Refute it at one input. -/
def fnExactNewTermWrong : ChangeSpec := { name := "fnExactNewTerm", fn := fun _ => fun
  | [d1, d2] => { results := [.lit (.bool false)], args := [d1, d2] }
  | _ => none }
def FnExactNewTermWrongFalsely : Prop := fnExactNewTermRow.holds Try.pinned (OpenSpec.ofChange fnExactNewTermWrong)

/-- 'laws.FnExactCountTurned': WHATEVER THE INPUT: true; the input reads as it did. -/
def fnExactCountTurnedSpec : ChangeSpec := { name := "fnExactCountTurned", fn := fun _ => fun
  | [d1, d2] => { results := [.lit (.bool true)], args := [d1, d2] }
  | _ => none }
def fnExactCountTurnedRow : OpenClaim := { program := "ytpfponhaofdbaaa", sum := "9866f068f956508d09e090c6537a4d07df69370ee7b720a99bdb0791b67ec2cd", func := "loop.example/g00414/laws.FnExactCountTurned", spec := "fnExactCountTurned", unfollowed := true, recurses := true, apart := false }
def FnExactCountTurnedSaid : Prop := fnExactCountTurnedRow.holds Try.pinned (OpenSpec.ofChange fnExactCountTurnedSpec)

/-- ITS FALSE NEIGHBOUR: 'it returns false'. Refute it at one input. -/
def fnExactCountTurnedWrong : ChangeSpec := { name := "fnExactCountTurned", fn := fun _ => fun
  | [d1, d2] => { results := [.lit (.bool false)], args := [d1, d2] }
  | _ => none }
def FnExactCountTurnedWrongFalsely : Prop := fnExactCountTurnedRow.holds Try.pinned (OpenSpec.ofChange fnExactCountTurnedWrong)

/-- 'laws.FnExactTermText': WHATEVER THE INPUT: true; the input reads as it did. -/
def fnExactTermTextSpec : ChangeSpec := { name := "fnExactTermText", fn := fun _ => fun
  | [d] => { results := [.lit (.bool true)], args := [d] }
  | _ => none }
def fnExactTermTextRow : OpenClaim := { program := "ytpfponhaofdbaaa", sum := "9866f068f956508d09e090c6537a4d07df69370ee7b720a99bdb0791b67ec2cd", func := "loop.example/g00414/laws.FnExactTermText", spec := "fnExactTermText", unfollowed := true, recurses := true, apart := false }
def FnExactTermTextSaid : Prop := fnExactTermTextRow.holds Try.pinned (OpenSpec.ofChange fnExactTermTextSpec)

/-- ITS FALSE NEIGHBOUR: 'it returns false'. Refute it at one input. -/
def fnExactTermTextWrong : ChangeSpec := { name := "fnExactTermText", fn := fun _ => fun
  | [d] => { results := [.lit (.bool false)], args := [d] }
  | _ => none }
def FnExactTermTextWrongFalsely : Prop := fnExactTermTextRow.holds Try.pinned (OpenSpec.ofChange fnExactTermTextWrong)

/-- 'laws.FnExactGridOf': WHATEVER THE INPUT: true; the input reads as it did. -/
def fnExactGridOfSpec : ChangeSpec := { name := "fnExactGridOf", fn := fun _ => fun
  | [d] => { results := [.lit (.bool true)], args := [d] }
  | _ => none }
def fnExactGridOfRow : OpenClaim := { program := "ytpfponhaofdbaaa", sum := "9866f068f956508d09e090c6537a4d07df69370ee7b720a99bdb0791b67ec2cd", func := "loop.example/g00414/laws.FnExactGridOf", spec := "fnExactGridOf", unfollowed := true, recurses := true, apart := false }
def FnExactGridOfSaid : Prop := fnExactGridOfRow.holds Try.pinned (OpenSpec.ofChange fnExactGridOfSpec)

/-- ITS FALSE NEIGHBOUR: 'it returns false'. Refute it at one input. -/
def fnExactGridOfWrong : ChangeSpec := { name := "fnExactGridOf", fn := fun _ => fun
  | [d] => { results := [.lit (.bool false)], args := [d] }
  | _ => none }
def FnExactGridOfWrongFalsely : Prop := fnExactGridOfRow.holds Try.pinned (OpenSpec.ofChange fnExactGridOfWrong)

/-- 'laws.FnExactDecodeKeys': WHATEVER THE INPUT: true; the input reads as it did. -/
def fnExactDecodeKeysSpec : ChangeSpec := { name := "fnExactDecodeKeys", fn := fun _ => fun
  | [d] => { results := [.lit (.bool true)], args := [d] }
  | _ => none }
def fnExactDecodeKeysRow : OpenClaim := { program := "ytpfponhaofdbaaa", sum := "9866f068f956508d09e090c6537a4d07df69370ee7b720a99bdb0791b67ec2cd", func := "loop.example/g00414/laws.FnExactDecodeKeys", spec := "fnExactDecodeKeys", inPlace := ["internal/bytealg.IndexByte"], apart := false }
def FnExactDecodeKeysSaid : Prop := fnExactDecodeKeysRow.holds Try.pinned (OpenSpec.ofChange fnExactDecodeKeysSpec)

/-- ITS FALSE NEIGHBOUR: 'it returns false'. Refute it at one input. -/
def fnExactDecodeKeysWrong : ChangeSpec := { name := "fnExactDecodeKeys", fn := fun _ => fun
  | [d] => { results := [.lit (.bool false)], args := [d] }
  | _ => none }
def FnExactDecodeKeysWrongFalsely : Prop := fnExactDecodeKeysRow.holds Try.pinned (OpenSpec.ofChange fnExactDecodeKeysWrong)

/-- 'laws.FnExactFeedTerm': WHATEVER THE INPUT: true; the input reads as it did. -/
def fnExactFeedTermSpec : ChangeSpec := { name := "fnExactFeedTerm", fn := fun _ => fun
  | [d1, d2] => { results := [.lit (.bool true)], args := [d1, d2] }
  | _ => none }
def fnExactFeedTermRow : OpenClaim := { program := "ytpfponhaofdbaaa", sum := "9866f068f956508d09e090c6537a4d07df69370ee7b720a99bdb0791b67ec2cd", func := "loop.example/g00414/laws.FnExactFeedTerm", spec := "fnExactFeedTerm", unfollowed := true, recurses := true, apart := false }
def FnExactFeedTermSaid : Prop := fnExactFeedTermRow.holds Try.pinned (OpenSpec.ofChange fnExactFeedTermSpec)

/-- ITS FALSE NEIGHBOUR: 'it returns false'. Refute it at one input. -/
def fnExactFeedTermWrong : ChangeSpec := { name := "fnExactFeedTerm", fn := fun _ => fun
  | [d1, d2] => { results := [.lit (.bool false)], args := [d1, d2] }
  | _ => none }
def FnExactFeedTermWrongFalsely : Prop := fnExactFeedTermRow.holds Try.pinned (OpenSpec.ofChange fnExactFeedTermWrong)

/-- 'laws.FnTerms': WHATEVER THE INPUT: true; the input reads as it did. -/
def fnTermsSpec : ChangeSpec := { name := "fnTerms", fn := fun _ => fun
  | [d] => { results := [.lit (.bool true)], args := [d] }
  | _ => none }
def fnTermsRow : OpenClaim := { program := "ytpfponhaofdbaaa", sum := "9866f068f956508d09e090c6537a4d07df69370ee7b720a99bdb0791b67ec2cd", func := "loop.example/g00414/laws.FnTerms", spec := "fnTerms", unfollowed := true, recurses := true, apart := false }
def FnTermsSaid : Prop := fnTermsRow.holds Try.pinned (OpenSpec.ofChange fnTermsSpec)

/-- ITS FALSE NEIGHBOUR: 'it returns false'. Refute it at one input. -/
def fnTermsWrong : ChangeSpec := { name := "fnTerms", fn := fun _ => fun
  | [d] => { results := [.lit (.bool false)], args := [d] }
  | _ => none }
def FnTermsWrongFalsely : Prop := fnTermsRow.holds Try.pinned (OpenSpec.ofChange fnTermsWrong)

/- THE SECOND FORM. 'bulk': how many values and letters a reading holds, each counted each time it is reached (what is shared counts as often as it is met; a slice's spare places count too). A statement '..UptoSaid' is the law's where the arguments, and the package variables that the reading takes, are together of bulk at most 1048576: NARROWER than '..Said'. Prove '..Said' where nothing that the law and all that it calls make is longer than what came in: it says more and counts as full. Else prove '..UptoSaid'. A law counts once. -/
mutual
def uptoBulk {H : Type} : DataW H → Nat
  | .lit (.string bytes) => bytes.length + 1
  | .lit _ => 1
  | .nil => 1
  | .ptr d => uptoBulk d + 1
  | .slice elems spare => uptoBulkAll elems + uptoBulkAll spare + 1
  | .agg parts => uptoBulkAll parts + 1
  | .iface _ d => uptoBulk d + 1
  | .map entries => uptoBulkEntries entries + 1
  | .held _ => 1
def uptoBulkAll {H : Type} : List (DataW H) → Nat
  | [] => 0
  | d :: r => uptoBulk d + uptoBulkAll r
def uptoBulkEntries {H : Type} : List (Lit × DataW H) → Nat
  | [] => 0
  | x :: r => uptoBulkEntry x + uptoBulkEntries r
def uptoBulkEntry {H : Type} : Lit × DataW H → Nat
  | (.string bytes, d) => bytes.length + uptoBulk d + 1
  | (_, d) => uptoBulk d + 1
 end
def uptoSmall : (H : Type) → List (DataW H) → Bool := fun _ ds => decide (uptoBulkAll ds ≤ 1048576)
def OpenSpec.upto (s : _root_.Go.ChangeSpec) : _root_.Go.OpenSpec := { _root_.Go.OpenSpec.ofChange s with cond := some uptoSmall }

/-- 'laws.FnExactKeyName', WHERE WHAT IT READS IS OF BULK AT MOST 1048576: true; the input reads as it did. -/
def fnExactKeyNameUptoRow : OpenClaim := { program := "ytpfponhaofdbaaa", sum := "9866f068f956508d09e090c6537a4d07df69370ee7b720a99bdb0791b67ec2cd", func := "loop.example/g00414/laws.FnExactKeyName", spec := "fnExactKeyName", apart := false, narrowed := true }
def FnExactKeyNameUptoSaid : Prop := fnExactKeyNameUptoRow.holds Try.pinned (OpenSpec.upto fnExactKeyNameSpec)

/-- 'laws.FnExactSameGrids', WHERE WHAT IT READS IS OF BULK AT MOST 1048576: true; the input reads as it did. -/
def fnExactSameGridsUptoRow : OpenClaim := { program := "ytpfponhaofdbaaa", sum := "9866f068f956508d09e090c6537a4d07df69370ee7b720a99bdb0791b67ec2cd", func := "loop.example/g00414/laws.FnExactSameGrids", spec := "fnExactSameGrids", apart := false, narrowed := true }
def FnExactSameGridsUptoSaid : Prop := fnExactSameGridsUptoRow.holds Try.pinned (OpenSpec.upto fnExactSameGridsSpec)

/-- 'laws.FnExactUnquote', WHERE WHAT IT READS IS OF BULK AT MOST 1048576: true; the input reads as it did. -/
def fnExactUnquoteUptoRow : OpenClaim := { program := "ytpfponhaofdbaaa", sum := "9866f068f956508d09e090c6537a4d07df69370ee7b720a99bdb0791b67ec2cd", func := "loop.example/g00414/laws.FnExactUnquote", spec := "fnExactUnquote", inPlace := ["internal/bytealg.IndexByteString"], apart := false, narrowed := true }
def FnExactUnquoteUptoSaid : Prop := fnExactUnquoteUptoRow.holds Try.pinned (OpenSpec.upto fnExactUnquoteSpec)

/-- 'laws.FnExactTermFault', WHERE WHAT IT READS IS OF BULK AT MOST 1048576: true; the input reads as it did. -/
def fnExactTermFaultUptoRow : OpenClaim := { program := "ytpfponhaofdbaaa", sum := "9866f068f956508d09e090c6537a4d07df69370ee7b720a99bdb0791b67ec2cd", func := "loop.example/g00414/laws.FnExactTermFault", spec := "fnExactTermFault", unfollowed := true, recurses := true, apart := false, narrowed := true }
def FnExactTermFaultUptoSaid : Prop := fnExactTermFaultUptoRow.holds Try.pinned (OpenSpec.upto fnExactTermFaultSpec)

/-- 'laws.FnExactNewTerm', WHERE WHAT IT READS IS OF BULK AT MOST 1048576: true; the input reads as it did. -/
def fnExactNewTermUptoRow : OpenClaim := { program := "ytpfponhaofdbaaa", sum := "9866f068f956508d09e090c6537a4d07df69370ee7b720a99bdb0791b67ec2cd", func := "loop.example/g00414/laws.FnExactNewTerm", spec := "fnExactNewTerm", apart := false, narrowed := true }
def FnExactNewTermUptoSaid : Prop := fnExactNewTermUptoRow.holds Try.pinned (OpenSpec.upto fnExactNewTermSpec)

/-- 'laws.FnExactCountTurned', WHERE WHAT IT READS IS OF BULK AT MOST 1048576: true; the input reads as it did. -/
def fnExactCountTurnedUptoRow : OpenClaim := { program := "ytpfponhaofdbaaa", sum := "9866f068f956508d09e090c6537a4d07df69370ee7b720a99bdb0791b67ec2cd", func := "loop.example/g00414/laws.FnExactCountTurned", spec := "fnExactCountTurned", unfollowed := true, recurses := true, apart := false, narrowed := true }
def FnExactCountTurnedUptoSaid : Prop := fnExactCountTurnedUptoRow.holds Try.pinned (OpenSpec.upto fnExactCountTurnedSpec)

/-- 'laws.FnExactTermText', WHERE WHAT IT READS IS OF BULK AT MOST 1048576: true; the input reads as it did. -/
def fnExactTermTextUptoRow : OpenClaim := { program := "ytpfponhaofdbaaa", sum := "9866f068f956508d09e090c6537a4d07df69370ee7b720a99bdb0791b67ec2cd", func := "loop.example/g00414/laws.FnExactTermText", spec := "fnExactTermText", unfollowed := true, recurses := true, apart := false, narrowed := true }
def FnExactTermTextUptoSaid : Prop := fnExactTermTextUptoRow.holds Try.pinned (OpenSpec.upto fnExactTermTextSpec)

/-- 'laws.FnExactGridOf', WHERE WHAT IT READS IS OF BULK AT MOST 1048576: true; the input reads as it did. -/
def fnExactGridOfUptoRow : OpenClaim := { program := "ytpfponhaofdbaaa", sum := "9866f068f956508d09e090c6537a4d07df69370ee7b720a99bdb0791b67ec2cd", func := "loop.example/g00414/laws.FnExactGridOf", spec := "fnExactGridOf", unfollowed := true, recurses := true, apart := false, narrowed := true }
def FnExactGridOfUptoSaid : Prop := fnExactGridOfUptoRow.holds Try.pinned (OpenSpec.upto fnExactGridOfSpec)

/-- 'laws.FnExactDecodeKeys', WHERE WHAT IT READS IS OF BULK AT MOST 1048576: true; the input reads as it did. -/
def fnExactDecodeKeysUptoRow : OpenClaim := { program := "ytpfponhaofdbaaa", sum := "9866f068f956508d09e090c6537a4d07df69370ee7b720a99bdb0791b67ec2cd", func := "loop.example/g00414/laws.FnExactDecodeKeys", spec := "fnExactDecodeKeys", inPlace := ["internal/bytealg.IndexByte"], apart := false, narrowed := true }
def FnExactDecodeKeysUptoSaid : Prop := fnExactDecodeKeysUptoRow.holds Try.pinned (OpenSpec.upto fnExactDecodeKeysSpec)

/-- 'laws.FnExactFeedTerm', WHERE WHAT IT READS IS OF BULK AT MOST 1048576: true; the input reads as it did. -/
def fnExactFeedTermUptoRow : OpenClaim := { program := "ytpfponhaofdbaaa", sum := "9866f068f956508d09e090c6537a4d07df69370ee7b720a99bdb0791b67ec2cd", func := "loop.example/g00414/laws.FnExactFeedTerm", spec := "fnExactFeedTerm", unfollowed := true, recurses := true, apart := false, narrowed := true }
def FnExactFeedTermUptoSaid : Prop := fnExactFeedTermUptoRow.holds Try.pinned (OpenSpec.upto fnExactFeedTermSpec)

/-- 'laws.FnTerms', WHERE WHAT IT READS IS OF BULK AT MOST 1048576: true; the input reads as it did. -/
def fnTermsUptoRow : OpenClaim := { program := "ytpfponhaofdbaaa", sum := "9866f068f956508d09e090c6537a4d07df69370ee7b720a99bdb0791b67ec2cd", func := "loop.example/g00414/laws.FnTerms", spec := "fnTerms", unfollowed := true, recurses := true, apart := false, narrowed := true }
def FnTermsUptoSaid : Prop := fnTermsUptoRow.holds Try.pinned (OpenSpec.upto fnTermsSpec)

end Rows
end Go.Proofs.Ytpfponhaofdbaaa
