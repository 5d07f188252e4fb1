/-
  No cell of these rows narrows 'for every input' (looked for: loops, veiled, ifaces, maps, wideKeys, modest, calm, conditions, laid).
  DERIVED. THE GIVEN ROWS OF THIS SEAT. 12 by the template 'for every input the law returns true; each argument reads behind the call as it read before'; 0 by the template 'total and deterministic' (their statements: YtfmiaoelggfnjaaTotals.lean).
  GIVEN WITH THE SEED: the statements are not yours to turn. If you find one false, say at which input.
  Laid BY PROGRAM, IN A SANDBOX (cutbox-rows.mjs): the forced cells as the released guide's own fill.sh prints them over the translation 46d7a2c5a8994528… (all of the seat's roots in one cut). By AI agents, Wed Nov 11 2026. No macro, syntax, notation, axiom, sorry.
-/
import Derived.Test.YtfmiaoelggfnjaaChecked
import GoSem.Claim
import GoSem.ClaimJoined
import GoSem.ClaimMapViews
import Derived.JoinedTies
import Derived.KernelRfl
namespace Go.Proofs.Ytfmiaoelggfnjaa
/- THE CELL 'sum', in the pinned program and in every row, IS THE sha256 OF THE DUMP (.gsa) THAT YtfmiaoelggfnjaaProg.lean LOADS. Nothing in Lean hashes anything: it is a label: what it is worth is what the hold of that sum in a sandbox is worth. -/
noncomputable def Try.pinned : Pinned := { name := "ytfmiaoelggfnjaa", sum := "46d7a2c5a89945289db2967d4542ab8f4af02a1ba26ef79938c597929515301b", checked := Try.checked }
namespace Rows
def none {H : Type} : Left H := { results := [], args := [] }

/-- 'laws.FnExactTrueDelay': WHATEVER THE INPUT: true; the input reads as it did. -/
def fnExactTrueDelaySpec : ChangeSpec := { name := "fnExactTrueDelay", fn := fun _ => fun
  | [d1, d2] => { results := [.lit (.bool true)], args := [d1, d2] }
  | _ => none }
def fnExactTrueDelayRow : OpenClaim := { program := "ytfmiaoelggfnjaa", sum := "46d7a2c5a89945289db2967d4542ab8f4af02a1ba26ef79938c597929515301b", func := "loop.example/g00958/laws.FnExactTrueDelay", spec := "fnExactTrueDelay", apart := false }
def FnExactTrueDelaySaid : Prop := fnExactTrueDelayRow.holds Try.pinned (OpenSpec.ofChange fnExactTrueDelaySpec)

/-- ITS FALSE NEIGHBOUR: 'it returns false'. Refute it at one input. -/
def fnExactTrueDelayWrong : ChangeSpec := { name := "fnExactTrueDelay", fn := fun _ => fun
  | [d1, d2] => { results := [.lit (.bool false)], args := [d1, d2] }
  | _ => none }
def FnExactTrueDelayWrongFalsely : Prop := fnExactTrueDelayRow.holds Try.pinned (OpenSpec.ofChange fnExactTrueDelayWrong)

/-- 'laws.FnExactLieOf': WHATEVER THE INPUT: true; the input reads as it did. -/
def fnExactLieOfSpec : ChangeSpec := { name := "fnExactLieOf", fn := fun _ => fun
  | [d1, d2] => { results := [.lit (.bool true)], args := [d1, d2] }
  | _ => none }
def fnExactLieOfRow : OpenClaim := { program := "ytfmiaoelggfnjaa", sum := "46d7a2c5a89945289db2967d4542ab8f4af02a1ba26ef79938c597929515301b", func := "loop.example/g00958/laws.FnExactLieOf", spec := "fnExactLieOf", apart := false }
def FnExactLieOfSaid : Prop := fnExactLieOfRow.holds Try.pinned (OpenSpec.ofChange fnExactLieOfSpec)

/-- ITS FALSE NEIGHBOUR: 'it returns false'. Refute it at one input. -/
def fnExactLieOfWrong : ChangeSpec := { name := "fnExactLieOf", fn := fun _ => fun
  | [d1, d2] => { results := [.lit (.bool false)], args := [d1, d2] }
  | _ => none }
def FnExactLieOfWrongFalsely : Prop := fnExactLieOfRow.holds Try.pinned (OpenSpec.ofChange fnExactLieOfWrong)

/-- 'laws.FnExactIsHonest': WHATEVER THE INPUT: true; the input reads as it did. -/
def fnExactIsHonestSpec : ChangeSpec := { name := "fnExactIsHonest", fn := fun _ => fun
  | [d1, d2] => { results := [.lit (.bool true)], args := [d1, d2] }
  | _ => none }
def fnExactIsHonestRow : OpenClaim := { program := "ytfmiaoelggfnjaa", sum := "46d7a2c5a89945289db2967d4542ab8f4af02a1ba26ef79938c597929515301b", func := "loop.example/g00958/laws.FnExactIsHonest", spec := "fnExactIsHonest", apart := false }
def FnExactIsHonestSaid : Prop := fnExactIsHonestRow.holds Try.pinned (OpenSpec.ofChange fnExactIsHonestSpec)

/-- ITS FALSE NEIGHBOUR: 'it returns false'. Refute it at one input. -/
def fnExactIsHonestWrong : ChangeSpec := { name := "fnExactIsHonest", fn := fun _ => fun
  | [d1, d2] => { results := [.lit (.bool false)], args := [d1, d2] }
  | _ => none }
def FnExactIsHonestWrongFalsely : Prop := fnExactIsHonestRow.holds Try.pinned (OpenSpec.ofChange fnExactIsHonestWrong)

/-- 'laws.FnExactTrueBad': WHATEVER THE INPUT: true; the input reads as it did. -/
def fnExactTrueBadSpec : ChangeSpec := { name := "fnExactTrueBad", fn := fun _ => fun
  | [d1, d2] => { results := [.lit (.bool true)], args := [d1, d2] }
  | _ => none }
def fnExactTrueBadRow : OpenClaim := { program := "ytfmiaoelggfnjaa", sum := "46d7a2c5a89945289db2967d4542ab8f4af02a1ba26ef79938c597929515301b", func := "loop.example/g00958/laws.FnExactTrueBad", spec := "fnExactTrueBad", unfollowed := true, recurses := true, apart := false }
def FnExactTrueBadSaid : Prop := fnExactTrueBadRow.holds Try.pinned (OpenSpec.ofChange fnExactTrueBadSpec)

/-- ITS FALSE NEIGHBOUR: 'it returns false'. Refute it at one input. -/
def fnExactTrueBadWrong : ChangeSpec := { name := "fnExactTrueBad", fn := fun _ => fun
  | [d1, d2] => { results := [.lit (.bool false)], args := [d1, d2] }
  | _ => none }
def FnExactTrueBadWrongFalsely : Prop := fnExactTrueBadRow.holds Try.pinned (OpenSpec.ofChange fnExactTrueBadWrong)

/-- 'laws.FnExactEqualWorlds': WHATEVER THE INPUT: true; the input reads as it did. -/
def fnExactEqualWorldsSpec : ChangeSpec := { name := "fnExactEqualWorlds", fn := fun _ => fun
  | [d1, d2] => { results := [.lit (.bool true)], args := [d1, d2] }
  | _ => none }
def fnExactEqualWorldsRow : OpenClaim := { program := "ytfmiaoelggfnjaa", sum := "46d7a2c5a89945289db2967d4542ab8f4af02a1ba26ef79938c597929515301b", func := "loop.example/g00958/laws.FnExactEqualWorlds", spec := "fnExactEqualWorlds", unfollowed := true, recurses := true, apart := false }
def FnExactEqualWorldsSaid : Prop := fnExactEqualWorldsRow.holds Try.pinned (OpenSpec.ofChange fnExactEqualWorldsSpec)

/-- ITS FALSE NEIGHBOUR: 'it returns false'. Refute it at one input. -/
def fnExactEqualWorldsWrong : ChangeSpec := { name := "fnExactEqualWorlds", fn := fun _ => fun
  | [d1, d2] => { results := [.lit (.bool false)], args := [d1, d2] }
  | _ => none }
def FnExactEqualWorldsWrongFalsely : Prop := fnExactEqualWorldsRow.holds Try.pinned (OpenSpec.ofChange fnExactEqualWorldsWrong)

/-- 'laws.FnExactLooksAlike': WHATEVER THE INPUT: true; the input reads as it did. -/
def fnExactLooksAlikeSpec : ChangeSpec := { name := "fnExactLooksAlike", fn := fun _ => fun
  | [d1, d2] => { results := [.lit (.bool true)], args := [d1, d2] }
  | _ => none }
def fnExactLooksAlikeRow : OpenClaim := { program := "ytfmiaoelggfnjaa", sum := "46d7a2c5a89945289db2967d4542ab8f4af02a1ba26ef79938c597929515301b", func := "loop.example/g00958/laws.FnExactLooksAlike", spec := "fnExactLooksAlike", unfollowed := true, recurses := true, apart := false }
def FnExactLooksAlikeSaid : Prop := fnExactLooksAlikeRow.holds Try.pinned (OpenSpec.ofChange fnExactLooksAlikeSpec)

/-- ITS FALSE NEIGHBOUR: 'it returns false'. Refute it at one input. -/
def fnExactLooksAlikeWrong : ChangeSpec := { name := "fnExactLooksAlike", fn := fun _ => fun
  | [d1, d2] => { results := [.lit (.bool false)], args := [d1, d2] }
  | _ => none }
def FnExactLooksAlikeWrongFalsely : Prop := fnExactLooksAlikeRow.holds Try.pinned (OpenSpec.ofChange fnExactLooksAlikeWrong)

/-- 'laws.FnExactObserve': WHATEVER THE INPUT: true; the input reads as it did. -/
def fnExactObserveSpec : ChangeSpec := { name := "fnExactObserve", fn := fun _ => fun
  | [d1, d2] => { results := [.lit (.bool true)], args := [d1, d2] }
  | _ => none }
def fnExactObserveRow : OpenClaim := { program := "ytfmiaoelggfnjaa", sum := "46d7a2c5a89945289db2967d4542ab8f4af02a1ba26ef79938c597929515301b", func := "loop.example/g00958/laws.FnExactObserve", spec := "fnExactObserve", unfollowed := true, recurses := true, apart := false }
def FnExactObserveSaid : Prop := fnExactObserveRow.holds Try.pinned (OpenSpec.ofChange fnExactObserveSpec)

/-- ITS FALSE NEIGHBOUR: 'it returns false'. Refute it at one input. -/
def fnExactObserveWrong : ChangeSpec := { name := "fnExactObserve", fn := fun _ => fun
  | [d1, d2] => { results := [.lit (.bool false)], args := [d1, d2] }
  | _ => none }
def FnExactObserveWrongFalsely : Prop := fnExactObserveRow.holds Try.pinned (OpenSpec.ofChange fnExactObserveWrong)

/-- 'laws.FnExactWorldMatrix': WHATEVER THE INPUT: true; the input reads as it did. -/
def fnExactWorldMatrixSpec : ChangeSpec := { name := "fnExactWorldMatrix", fn := fun _ => fun
  | [d] => { results := [.lit (.bool true)], args := [d] }
  | _ => none }
def fnExactWorldMatrixRow : OpenClaim := { program := "ytfmiaoelggfnjaa", sum := "46d7a2c5a89945289db2967d4542ab8f4af02a1ba26ef79938c597929515301b", func := "loop.example/g00958/laws.FnExactWorldMatrix", spec := "fnExactWorldMatrix", apart := false }
def FnExactWorldMatrixSaid : Prop := fnExactWorldMatrixRow.holds Try.pinned (OpenSpec.ofChange fnExactWorldMatrixSpec)

/-- ITS FALSE NEIGHBOUR: 'it returns false'. Refute it at one input. -/
def fnExactWorldMatrixWrong : ChangeSpec := { name := "fnExactWorldMatrix", fn := fun _ => fun
  | [d] => { results := [.lit (.bool false)], args := [d] }
  | _ => none }
def FnExactWorldMatrixWrongFalsely : Prop := fnExactWorldMatrixRow.holds Try.pinned (OpenSpec.ofChange fnExactWorldMatrixWrong)

/-- 'laws.FnExactIsBetter': WHATEVER THE INPUT: true; the input reads as it did. -/
def fnExactIsBetterSpec : ChangeSpec := { name := "fnExactIsBetter", fn := fun _ => fun
  | [d1, d2, d3] => { results := [.lit (.bool true)], args := [d1, d2, d3] }
  | _ => none }
def fnExactIsBetterRow : OpenClaim := { program := "ytfmiaoelggfnjaa", sum := "46d7a2c5a89945289db2967d4542ab8f4af02a1ba26ef79938c597929515301b", func := "loop.example/g00958/laws.FnExactIsBetter", spec := "fnExactIsBetter", recurses := true, apart := false }
def FnExactIsBetterSaid : Prop := fnExactIsBetterRow.holds Try.pinned (OpenSpec.ofChange fnExactIsBetterSpec)

/-- ITS FALSE NEIGHBOUR: 'it returns false'. Refute it at one input. -/
def fnExactIsBetterWrong : ChangeSpec := { name := "fnExactIsBetter", fn := fun _ => fun
  | [d1, d2, d3] => { results := [.lit (.bool false)], args := [d1, d2, d3] }
  | _ => none }
def FnExactIsBetterWrongFalsely : Prop := fnExactIsBetterRow.holds Try.pinned (OpenSpec.ofChange fnExactIsBetterWrong)

/-- 'laws.FnExactIsWorse': WHATEVER THE INPUT: true; the input reads as it did. -/
def fnExactIsWorseSpec : ChangeSpec := { name := "fnExactIsWorse", fn := fun _ => fun
  | [d1, d2, d3] => { results := [.lit (.bool true)], args := [d1, d2, d3] }
  | _ => none }
def fnExactIsWorseRow : OpenClaim := { program := "ytfmiaoelggfnjaa", sum := "46d7a2c5a89945289db2967d4542ab8f4af02a1ba26ef79938c597929515301b", func := "loop.example/g00958/laws.FnExactIsWorse", spec := "fnExactIsWorse", recurses := true, apart := false }
def FnExactIsWorseSaid : Prop := fnExactIsWorseRow.holds Try.pinned (OpenSpec.ofChange fnExactIsWorseSpec)

/-- ITS FALSE NEIGHBOUR: 'it returns false'. Refute it at one input. -/
def fnExactIsWorseWrong : ChangeSpec := { name := "fnExactIsWorse", fn := fun _ => fun
  | [d1, d2, d3] => { results := [.lit (.bool false)], args := [d1, d2, d3] }
  | _ => none }
def FnExactIsWorseWrongFalsely : Prop := fnExactIsWorseRow.holds Try.pinned (OpenSpec.ofChange fnExactIsWorseWrong)

/-- 'laws.FnExactRowsOf': WHATEVER THE INPUT: true; the input reads as it did. -/
def fnExactRowsOfSpec : ChangeSpec := { name := "fnExactRowsOf", fn := fun _ => fun
  | [d] => { results := [.lit (.bool true)], args := [d] }
  | _ => none }
def fnExactRowsOfRow : OpenClaim := { program := "ytfmiaoelggfnjaa", sum := "46d7a2c5a89945289db2967d4542ab8f4af02a1ba26ef79938c597929515301b", func := "loop.example/g00958/laws.FnExactRowsOf", spec := "fnExactRowsOf", apart := false }
def FnExactRowsOfSaid : Prop := fnExactRowsOfRow.holds Try.pinned (OpenSpec.ofChange fnExactRowsOfSpec)

/-- ITS FALSE NEIGHBOUR: 'it returns false'. Refute it at one input. -/
def fnExactRowsOfWrong : ChangeSpec := { name := "fnExactRowsOf", fn := fun _ => fun
  | [d] => { results := [.lit (.bool false)], args := [d] }
  | _ => none }
def FnExactRowsOfWrongFalsely : Prop := fnExactRowsOfRow.holds Try.pinned (OpenSpec.ofChange fnExactRowsOfWrong)

/-- 'laws.FnObserved': WHATEVER THE INPUT: true; the input reads as it did. -/
def fnObservedSpec : ChangeSpec := { name := "fnObserved", fn := fun _ => fun
  | [d] => { results := [.lit (.bool true)], args := [d] }
  | _ => none }
def fnObservedRow : OpenClaim := { program := "ytfmiaoelggfnjaa", sum := "46d7a2c5a89945289db2967d4542ab8f4af02a1ba26ef79938c597929515301b", func := "loop.example/g00958/laws.FnObserved", spec := "fnObserved", unfollowed := true, recurses := true, apart := false }
def FnObservedSaid : Prop := fnObservedRow.holds Try.pinned (OpenSpec.ofChange fnObservedSpec)

/-- ITS FALSE NEIGHBOUR: 'it returns false'. Refute it at one input. -/
def fnObservedWrong : ChangeSpec := { name := "fnObserved", fn := fun _ => fun
  | [d] => { results := [.lit (.bool false)], args := [d] }
  | _ => none }
def FnObservedWrongFalsely : Prop := fnObservedRow.holds Try.pinned (OpenSpec.ofChange fnObservedWrong)

/- THE SECOND FORM. 'bulk': how many values and letters a reading holds, each counted each time it is reached (what is shared counts as often as it is met; a slice's spare places count too). A statement '..UptoSaid' is the law's where the arguments, and the package variables that the reading takes, are together of bulk at most 1048576: NARROWER than '..Said'. Prove '..Said' where nothing that the law and all that it calls make is longer than what came in: it says more and counts as full. Else prove '..UptoSaid'. A law counts once. -/
mutual
def uptoBulk {H : Type} : DataW H → Nat
  | .lit (.string bytes) => bytes.length + 1
  | .lit _ => 1
  | .nil => 1
  | .ptr d => uptoBulk d + 1
  | .slice elems spare => uptoBulkAll elems + uptoBulkAll spare + 1
  | .agg parts => uptoBulkAll parts + 1
  | .iface _ d => uptoBulk d + 1
  | .map entries => uptoBulkEntries entries + 1
  | .held _ => 1
def uptoBulkAll {H : Type} : List (DataW H) → Nat
  | [] => 0
  | d :: r => uptoBulk d + uptoBulkAll r
def uptoBulkEntries {H : Type} : List (Lit × DataW H) → Nat
  | [] => 0
  | x :: r => uptoBulkEntry x + uptoBulkEntries r
def uptoBulkEntry {H : Type} : Lit × DataW H → Nat
  | (.string bytes, d) => bytes.length + uptoBulk d + 1
  | (_, d) => uptoBulk d + 1
 end
def uptoSmall : (H : Type) → List (DataW H) → Bool := fun _ ds => decide (uptoBulkAll ds ≤ 1048576)
def OpenSpec.upto (s : _root_.Go.ChangeSpec) : _root_.Go.OpenSpec := { _root_.Go.OpenSpec.ofChange s with cond := some uptoSmall }

/-- 'laws.FnExactTrueDelay', WHERE WHAT IT READS IS OF BULK AT MOST 1048576: true; the input reads as it did. -/
def fnExactTrueDelayUptoRow : OpenClaim := { program := "ytfmiaoelggfnjaa", sum := "46d7a2c5a89945289db2967d4542ab8f4af02a1ba26ef79938c597929515301b", func := "loop.example/g00958/laws.FnExactTrueDelay", spec := "fnExactTrueDelay", apart := false, narrowed := true }
def FnExactTrueDelayUptoSaid : Prop := fnExactTrueDelayUptoRow.holds Try.pinned (OpenSpec.upto fnExactTrueDelaySpec)

/-- 'laws.FnExactLieOf', WHERE WHAT IT READS IS OF BULK AT MOST 1048576: true; the input reads as it did. -/
def fnExactLieOfUptoRow : OpenClaim := { program := "ytfmiaoelggfnjaa", sum := "46d7a2c5a89945289db2967d4542ab8f4af02a1ba26ef79938c597929515301b", func := "loop.example/g00958/laws.FnExactLieOf", spec := "fnExactLieOf", apart := false, narrowed := true }
def FnExactLieOfUptoSaid : Prop := fnExactLieOfUptoRow.holds Try.pinned (OpenSpec.upto fnExactLieOfSpec)

/-- 'laws.FnExactIsHonest', WHERE WHAT IT READS IS OF BULK AT MOST 1048576: true; the input reads as it did. -/
def fnExactIsHonestUptoRow : OpenClaim := { program := "ytfmiaoelggfnjaa", sum := "46d7a2c5a89945289db2967d4542ab8f4af02a1ba26ef79938c597929515301b", func := "loop.example/g00958/laws.FnExactIsHonest", spec := "fnExactIsHonest", apart := false, narrowed := true }
def FnExactIsHonestUptoSaid : Prop := fnExactIsHonestUptoRow.holds Try.pinned (OpenSpec.upto fnExactIsHonestSpec)

/-- 'laws.FnExactTrueBad', WHERE WHAT IT READS IS OF BULK AT MOST 1048576: true; the input reads as it did. -/
def fnExactTrueBadUptoRow : OpenClaim := { program := "ytfmiaoelggfnjaa", sum := "46d7a2c5a89945289db2967d4542ab8f4af02a1ba26ef79938c597929515301b", func := "loop.example/g00958/laws.FnExactTrueBad", spec := "fnExactTrueBad", unfollowed := true, recurses := true, apart := false, narrowed := true }
def FnExactTrueBadUptoSaid : Prop := fnExactTrueBadUptoRow.holds Try.pinned (OpenSpec.upto fnExactTrueBadSpec)

/-- 'laws.FnExactEqualWorlds', WHERE WHAT IT READS IS OF BULK AT MOST 1048576: true; the input reads as it did. -/
def fnExactEqualWorldsUptoRow : OpenClaim := { program := "ytfmiaoelggfnjaa", sum := "46d7a2c5a89945289db2967d4542ab8f4af02a1ba26ef79938c597929515301b", func := "loop.example/g00958/laws.FnExactEqualWorlds", spec := "fnExactEqualWorlds", unfollowed := true, recurses := true, apart := false, narrowed := true }
def FnExactEqualWorldsUptoSaid : Prop := fnExactEqualWorldsUptoRow.holds Try.pinned (OpenSpec.upto fnExactEqualWorldsSpec)

/-- 'laws.FnExactLooksAlike', WHERE WHAT IT READS IS OF BULK AT MOST 1048576: true; the input reads as it did. -/
def fnExactLooksAlikeUptoRow : OpenClaim := { program := "ytfmiaoelggfnjaa", sum := "46d7a2c5a89945289db2967d4542ab8f4af02a1ba26ef79938c597929515301b", func := "loop.example/g00958/laws.FnExactLooksAlike", spec := "fnExactLooksAlike", unfollowed := true, recurses := true, apart := false, narrowed := true }
def FnExactLooksAlikeUptoSaid : Prop := fnExactLooksAlikeUptoRow.holds Try.pinned (OpenSpec.upto fnExactLooksAlikeSpec)

/-- 'laws.FnExactObserve', WHERE WHAT IT READS IS OF BULK AT MOST 1048576: true; the input reads as it did. -/
def fnExactObserveUptoRow : OpenClaim := { program := "ytfmiaoelggfnjaa", sum := "46d7a2c5a89945289db2967d4542ab8f4af02a1ba26ef79938c597929515301b", func := "loop.example/g00958/laws.FnExactObserve", spec := "fnExactObserve", unfollowed := true, recurses := true, apart := false, narrowed := true }
def FnExactObserveUptoSaid : Prop := fnExactObserveUptoRow.holds Try.pinned (OpenSpec.upto fnExactObserveSpec)

/-- 'laws.FnExactWorldMatrix', WHERE WHAT IT READS IS OF BULK AT MOST 1048576: true; the input reads as it did. -/
def fnExactWorldMatrixUptoRow : OpenClaim := { program := "ytfmiaoelggfnjaa", sum := "46d7a2c5a89945289db2967d4542ab8f4af02a1ba26ef79938c597929515301b", func := "loop.example/g00958/laws.FnExactWorldMatrix", spec := "fnExactWorldMatrix", apart := false, narrowed := true }
def FnExactWorldMatrixUptoSaid : Prop := fnExactWorldMatrixUptoRow.holds Try.pinned (OpenSpec.upto fnExactWorldMatrixSpec)

/-- 'laws.FnExactIsBetter', WHERE WHAT IT READS IS OF BULK AT MOST 1048576: true; the input reads as it did. -/
def fnExactIsBetterUptoRow : OpenClaim := { program := "ytfmiaoelggfnjaa", sum := "46d7a2c5a89945289db2967d4542ab8f4af02a1ba26ef79938c597929515301b", func := "loop.example/g00958/laws.FnExactIsBetter", spec := "fnExactIsBetter", recurses := true, apart := false, narrowed := true }
def FnExactIsBetterUptoSaid : Prop := fnExactIsBetterUptoRow.holds Try.pinned (OpenSpec.upto fnExactIsBetterSpec)

/-- 'laws.FnExactIsWorse', WHERE WHAT IT READS IS OF BULK AT MOST 1048576: true; the input reads as it did. -/
def fnExactIsWorseUptoRow : OpenClaim := { program := "ytfmiaoelggfnjaa", sum := "46d7a2c5a89945289db2967d4542ab8f4af02a1ba26ef79938c597929515301b", func := "loop.example/g00958/laws.FnExactIsWorse", spec := "fnExactIsWorse", recurses := true, apart := false, narrowed := true }
def FnExactIsWorseUptoSaid : Prop := fnExactIsWorseUptoRow.holds Try.pinned (OpenSpec.upto fnExactIsWorseSpec)

/-- 'laws.FnExactRowsOf', WHERE WHAT IT READS IS OF BULK AT MOST 1048576: true; the input reads as it did. -/
def fnExactRowsOfUptoRow : OpenClaim := { program := "ytfmiaoelggfnjaa", sum := "46d7a2c5a89945289db2967d4542ab8f4af02a1ba26ef79938c597929515301b", func := "loop.example/g00958/laws.FnExactRowsOf", spec := "fnExactRowsOf", apart := false, narrowed := true }
def FnExactRowsOfUptoSaid : Prop := fnExactRowsOfUptoRow.holds Try.pinned (OpenSpec.upto fnExactRowsOfSpec)

/-- 'laws.FnObserved', WHERE WHAT IT READS IS OF BULK AT MOST 1048576: true; the input reads as it did. -/
def fnObservedUptoRow : OpenClaim := { program := "ytfmiaoelggfnjaa", sum := "46d7a2c5a89945289db2967d4542ab8f4af02a1ba26ef79938c597929515301b", func := "loop.example/g00958/laws.FnObserved", spec := "fnObserved", unfollowed := true, recurses := true, apart := false, narrowed := true }
def FnObservedUptoSaid : Prop := fnObservedUptoRow.holds Try.pinned (OpenSpec.upto fnObservedSpec)

end Rows
end Go.Proofs.Ytfmiaoelggfnjaa
