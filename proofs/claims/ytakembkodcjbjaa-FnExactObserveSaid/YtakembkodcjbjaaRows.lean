/-
  No cell of these rows narrows 'for every input' (looked for: loops, veiled, ifaces, maps, wideKeys, modest, calm, conditions, laid).
  DERIVED. THE GIVEN ROWS OF THIS SEAT. 12 by the template 'for every input the law returns true; each argument reads behind the call as it read before'; 0 by the template 'total and deterministic' (their statements: YtakembkodcjbjaaTotals.lean).
  GIVEN WITH THE SEED: the statements are not yours to turn. If you find one false, say at which input.
  Laid BY PROGRAM, IN A SANDBOX (cutbox-rows.mjs): the forced cells as the released guide's own fill.sh prints them over the translation 2dabced57724ae41… (all of the seat's roots in one cut). By AI agents, Wed Nov 11 2026. No macro, syntax, notation, axiom, sorry.
-/
import Derived.Test.YtakembkodcjbjaaChecked
import GoSem.Claim
import GoSem.ClaimJoined
import GoSem.ClaimMapViews
import Derived.JoinedTies
import Derived.KernelRfl
namespace Go.Proofs.Ytakembkodcjbjaa
/- THE CELL 'sum', in the pinned program and in every row, IS THE sha256 OF THE DUMP (.gsa) THAT YtakembkodcjbjaaProg.lean LOADS. Nothing in Lean hashes anything: it is a label: what it is worth is what the hold of that sum in a sandbox is worth. -/
noncomputable def Try.pinned : Pinned := { name := "ytakembkodcjbjaa", sum := "2dabced57724ae413a1b28bc269e7099adcaa8060795818a011a492b35782d9f", checked := Try.checked }
namespace Rows
def none {H : Type} : Left H := { results := [], args := [] }

/-- 'laws.FnExactWithoutOwners': WHATEVER THE INPUT: true; the input reads as it did. -/
def fnExactWithoutOwnersSpec : ChangeSpec := { name := "fnExactWithoutOwners", fn := fun _ => fun
  | [d1, d2, d3] => { results := [.lit (.bool true)], args := [d1, d2, d3] }
  | _ => none }
def fnExactWithoutOwnersRow : OpenClaim := { program := "ytakembkodcjbjaa", sum := "2dabced57724ae413a1b28bc269e7099adcaa8060795818a011a492b35782d9f", func := "loop.example/g00958/laws.FnExactWithoutOwners", spec := "fnExactWithoutOwners", apart := false }
def FnExactWithoutOwnersSaid : Prop := fnExactWithoutOwnersRow.holds Try.pinned (OpenSpec.ofChange fnExactWithoutOwnersSpec)

/-- ITS FALSE NEIGHBOUR: 'it returns false'. Refute it at one input. -/
def fnExactWithoutOwnersWrong : ChangeSpec := { name := "fnExactWithoutOwners", fn := fun _ => fun
  | [d1, d2, d3] => { results := [.lit (.bool false)], args := [d1, d2, d3] }
  | _ => none }
def FnExactWithoutOwnersWrongFalsely : Prop := fnExactWithoutOwnersRow.holds Try.pinned (OpenSpec.ofChange fnExactWithoutOwnersWrong)

/-- 'laws.FnOverlays': WHATEVER THE INPUT: true; the input reads as it did. -/
def fnOverlaysSpec : ChangeSpec := { name := "fnOverlays", fn := fun _ => fun
  | [d] => { results := [.lit (.bool true)], args := [d] }
  | _ => none }
def fnOverlaysRow : OpenClaim := { program := "ytakembkodcjbjaa", sum := "2dabced57724ae413a1b28bc269e7099adcaa8060795818a011a492b35782d9f", func := "loop.example/g00958/laws.FnOverlays", spec := "fnOverlays", apart := false }
def FnOverlaysSaid : Prop := fnOverlaysRow.holds Try.pinned (OpenSpec.ofChange fnOverlaysSpec)

/-- ITS FALSE NEIGHBOUR: 'it returns false'. Refute it at one input. -/
def fnOverlaysWrong : ChangeSpec := { name := "fnOverlays", fn := fun _ => fun
  | [d] => { results := [.lit (.bool false)], args := [d] }
  | _ => none }
def FnOverlaysWrongFalsely : Prop := fnOverlaysRow.holds Try.pinned (OpenSpec.ofChange fnOverlaysWrong)

/-- 'laws.FnExactBestTimes': WHATEVER THE INPUT: true; the input reads as it did. -/
def fnExactBestTimesSpec : ChangeSpec := { name := "fnExactBestTimes", fn := fun _ => fun
  | [d] => { results := [.lit (.bool true)], args := [d] }
  | _ => none }
def fnExactBestTimesRow : OpenClaim := { program := "ytakembkodcjbjaa", sum := "2dabced57724ae413a1b28bc269e7099adcaa8060795818a011a492b35782d9f", func := "loop.example/g00958/laws.FnExactBestTimes", spec := "fnExactBestTimes", apart := false }
def FnExactBestTimesSaid : Prop := fnExactBestTimesRow.holds Try.pinned (OpenSpec.ofChange fnExactBestTimesSpec)

/-- ITS FALSE NEIGHBOUR: 'it returns false'. Refute it at one input. -/
def fnExactBestTimesWrong : ChangeSpec := { name := "fnExactBestTimes", fn := fun _ => fun
  | [d] => { results := [.lit (.bool false)], args := [d] }
  | _ => none }
def FnExactBestTimesWrongFalsely : Prop := fnExactBestTimesRow.holds Try.pinned (OpenSpec.ofChange fnExactBestTimesWrong)

/-- 'laws.FnExactTrueBad': WHATEVER THE INPUT: true; the input reads as it did. -/
def fnExactTrueBadSpec : ChangeSpec := { name := "fnExactTrueBad", fn := fun _ => fun
  | [d1, d2] => { results := [.lit (.bool true)], args := [d1, d2] }
  | _ => none }
def fnExactTrueBadRow : OpenClaim := { program := "ytakembkodcjbjaa", sum := "2dabced57724ae413a1b28bc269e7099adcaa8060795818a011a492b35782d9f", func := "loop.example/g00958/laws.FnExactTrueBad", spec := "fnExactTrueBad", unfollowed := true, recurses := true, apart := false }
def FnExactTrueBadSaid : Prop := fnExactTrueBadRow.holds Try.pinned (OpenSpec.ofChange fnExactTrueBadSpec)

/-- ITS FALSE NEIGHBOUR: 'it returns false'. Refute it at one input. -/
def fnExactTrueBadWrong : ChangeSpec := { name := "fnExactTrueBad", fn := fun _ => fun
  | [d1, d2] => { results := [.lit (.bool false)], args := [d1, d2] }
  | _ => none }
def FnExactTrueBadWrongFalsely : Prop := fnExactTrueBadRow.holds Try.pinned (OpenSpec.ofChange fnExactTrueBadWrong)

/-- 'laws.FnExactEqualWorlds': WHATEVER THE INPUT: true; the input reads as it did. -/
def fnExactEqualWorldsSpec : ChangeSpec := { name := "fnExactEqualWorlds", fn := fun _ => fun
  | [d1, d2] => { results := [.lit (.bool true)], args := [d1, d2] }
  | _ => none }
def fnExactEqualWorldsRow : OpenClaim := { program := "ytakembkodcjbjaa", sum := "2dabced57724ae413a1b28bc269e7099adcaa8060795818a011a492b35782d9f", func := "loop.example/g00958/laws.FnExactEqualWorlds", spec := "fnExactEqualWorlds", unfollowed := true, recurses := true, apart := false }
def FnExactEqualWorldsSaid : Prop := fnExactEqualWorldsRow.holds Try.pinned (OpenSpec.ofChange fnExactEqualWorldsSpec)

/-- ITS FALSE NEIGHBOUR: 'it returns false'. Refute it at one input. -/
def fnExactEqualWorldsWrong : ChangeSpec := { name := "fnExactEqualWorlds", fn := fun _ => fun
  | [d1, d2] => { results := [.lit (.bool false)], args := [d1, d2] }
  | _ => none }
def FnExactEqualWorldsWrongFalsely : Prop := fnExactEqualWorldsRow.holds Try.pinned (OpenSpec.ofChange fnExactEqualWorldsWrong)

/-- 'laws.FnExactLooksAlike': WHATEVER THE INPUT: true; the input reads as it did. -/
def fnExactLooksAlikeSpec : ChangeSpec := { name := "fnExactLooksAlike", fn := fun _ => fun
  | [d1, d2] => { results := [.lit (.bool true)], args := [d1, d2] }
  | _ => none }
def fnExactLooksAlikeRow : OpenClaim := { program := "ytakembkodcjbjaa", sum := "2dabced57724ae413a1b28bc269e7099adcaa8060795818a011a492b35782d9f", func := "loop.example/g00958/laws.FnExactLooksAlike", spec := "fnExactLooksAlike", unfollowed := true, recurses := true, apart := false }
def FnExactLooksAlikeSaid : Prop := fnExactLooksAlikeRow.holds Try.pinned (OpenSpec.ofChange fnExactLooksAlikeSpec)

/-- ITS FALSE NEIGHBOUR: 'it returns false'. Refute it at one input. -/
def fnExactLooksAlikeWrong : ChangeSpec := { name := "fnExactLooksAlike", fn := fun _ => fun
  | [d1, d2] => { results := [.lit (.bool false)], args := [d1, d2] }
  | _ => none }
def FnExactLooksAlikeWrongFalsely : Prop := fnExactLooksAlikeRow.holds Try.pinned (OpenSpec.ofChange fnExactLooksAlikeWrong)

/-- 'laws.FnExactObserve': WHATEVER THE INPUT: true; the input reads as it did. -/
def fnExactObserveSpec : ChangeSpec := { name := "fnExactObserve", fn := fun _ => fun
  | [d1, d2] => { results := [.lit (.bool true)], args := [d1, d2] }
  | _ => none }
def fnExactObserveRow : OpenClaim := { program := "ytakembkodcjbjaa", sum := "2dabced57724ae413a1b28bc269e7099adcaa8060795818a011a492b35782d9f", func := "loop.example/g00958/laws.FnExactObserve", spec := "fnExactObserve", unfollowed := true, recurses := true, apart := false }
def FnExactObserveSaid : Prop := fnExactObserveRow.holds Try.pinned (OpenSpec.ofChange fnExactObserveSpec)

/-- ITS FALSE NEIGHBOUR: 'it returns false'. Refute it at one input. -/
def fnExactObserveWrong : ChangeSpec := { name := "fnExactObserve", fn := fun _ => fun
  | [d1, d2] => { results := [.lit (.bool false)], args := [d1, d2] }
  | _ => none }
def FnExactObserveWrongFalsely : Prop := fnExactObserveRow.holds Try.pinned (OpenSpec.ofChange fnExactObserveWrong)

/-- 'laws.FnObserved': WHATEVER THE INPUT: true; the input reads as it did. -/
def fnObservedSpec : ChangeSpec := { name := "fnObserved", fn := fun _ => fun
  | [d] => { results := [.lit (.bool true)], args := [d] }
  | _ => none }
def fnObservedRow : OpenClaim := { program := "ytakembkodcjbjaa", sum := "2dabced57724ae413a1b28bc269e7099adcaa8060795818a011a492b35782d9f", func := "loop.example/g00958/laws.FnObserved", spec := "fnObserved", unfollowed := true, recurses := true, apart := false }
def FnObservedSaid : Prop := fnObservedRow.holds Try.pinned (OpenSpec.ofChange fnObservedSpec)

/-- ITS FALSE NEIGHBOUR: 'it returns false'. Refute it at one input. -/
def fnObservedWrong : ChangeSpec := { name := "fnObserved", fn := fun _ => fun
  | [d] => { results := [.lit (.bool false)], args := [d] }
  | _ => none }
def FnObservedWrongFalsely : Prop := fnObservedRow.holds Try.pinned (OpenSpec.ofChange fnObservedWrong)

/-- 'laws.FnExactIsBetter': WHATEVER THE INPUT: true; the input reads as it did. -/
def fnExactIsBetterSpec : ChangeSpec := { name := "fnExactIsBetter", fn := fun _ => fun
  | [d1, d2, d3] => { results := [.lit (.bool true)], args := [d1, d2, d3] }
  | _ => none }
def fnExactIsBetterRow : OpenClaim := { program := "ytakembkodcjbjaa", sum := "2dabced57724ae413a1b28bc269e7099adcaa8060795818a011a492b35782d9f", func := "loop.example/g00958/laws.FnExactIsBetter", spec := "fnExactIsBetter", recurses := true, apart := false }
def FnExactIsBetterSaid : Prop := fnExactIsBetterRow.holds Try.pinned (OpenSpec.ofChange fnExactIsBetterSpec)

/-- ITS FALSE NEIGHBOUR: 'it returns false'. Refute it at one input. -/
def fnExactIsBetterWrong : ChangeSpec := { name := "fnExactIsBetter", fn := fun _ => fun
  | [d1, d2, d3] => { results := [.lit (.bool false)], args := [d1, d2, d3] }
  | _ => none }
def FnExactIsBetterWrongFalsely : Prop := fnExactIsBetterRow.holds Try.pinned (OpenSpec.ofChange fnExactIsBetterWrong)

/-- 'laws.FnExactIsWorse': WHATEVER THE INPUT: true; the input reads as it did. -/
def fnExactIsWorseSpec : ChangeSpec := { name := "fnExactIsWorse", fn := fun _ => fun
  | [d1, d2, d3] => { results := [.lit (.bool true)], args := [d1, d2, d3] }
  | _ => none }
def fnExactIsWorseRow : OpenClaim := { program := "ytakembkodcjbjaa", sum := "2dabced57724ae413a1b28bc269e7099adcaa8060795818a011a492b35782d9f", func := "loop.example/g00958/laws.FnExactIsWorse", spec := "fnExactIsWorse", recurses := true, apart := false }
def FnExactIsWorseSaid : Prop := fnExactIsWorseRow.holds Try.pinned (OpenSpec.ofChange fnExactIsWorseSpec)

/-- ITS FALSE NEIGHBOUR: 'it returns false'. Refute it at one input. -/
def fnExactIsWorseWrong : ChangeSpec := { name := "fnExactIsWorse", fn := fun _ => fun
  | [d1, d2, d3] => { results := [.lit (.bool false)], args := [d1, d2, d3] }
  | _ => none }
def FnExactIsWorseWrongFalsely : Prop := fnExactIsWorseRow.holds Try.pinned (OpenSpec.ofChange fnExactIsWorseWrong)

/-- 'laws.FnExactWorldMatrix': WHATEVER THE INPUT: true; the input reads as it did. -/
def fnExactWorldMatrixSpec : ChangeSpec := { name := "fnExactWorldMatrix", fn := fun _ => fun
  | [d] => { results := [.lit (.bool true)], args := [d] }
  | _ => none }
def fnExactWorldMatrixRow : OpenClaim := { program := "ytakembkodcjbjaa", sum := "2dabced57724ae413a1b28bc269e7099adcaa8060795818a011a492b35782d9f", func := "loop.example/g00958/laws.FnExactWorldMatrix", spec := "fnExactWorldMatrix", apart := false }
def FnExactWorldMatrixSaid : Prop := fnExactWorldMatrixRow.holds Try.pinned (OpenSpec.ofChange fnExactWorldMatrixSpec)

/-- ITS FALSE NEIGHBOUR: 'it returns false'. Refute it at one input. -/
def fnExactWorldMatrixWrong : ChangeSpec := { name := "fnExactWorldMatrix", fn := fun _ => fun
  | [d] => { results := [.lit (.bool false)], args := [d] }
  | _ => none }
def FnExactWorldMatrixWrongFalsely : Prop := fnExactWorldMatrixRow.holds Try.pinned (OpenSpec.ofChange fnExactWorldMatrixWrong)

/-- 'laws.FnExactRowsOf': WHATEVER THE INPUT: true; the input reads as it did. -/
def fnExactRowsOfSpec : ChangeSpec := { name := "fnExactRowsOf", fn := fun _ => fun
  | [d] => { results := [.lit (.bool true)], args := [d] }
  | _ => none }
def fnExactRowsOfRow : OpenClaim := { program := "ytakembkodcjbjaa", sum := "2dabced57724ae413a1b28bc269e7099adcaa8060795818a011a492b35782d9f", func := "loop.example/g00958/laws.FnExactRowsOf", spec := "fnExactRowsOf", apart := false }
def FnExactRowsOfSaid : Prop := fnExactRowsOfRow.holds Try.pinned (OpenSpec.ofChange fnExactRowsOfSpec)

/-- ITS FALSE NEIGHBOUR: 'it returns false'. Refute it at one input. -/
def fnExactRowsOfWrong : ChangeSpec := { name := "fnExactRowsOf", fn := fun _ => fun
  | [d] => { results := [.lit (.bool false)], args := [d] }
  | _ => none }
def FnExactRowsOfWrongFalsely : Prop := fnExactRowsOfRow.holds Try.pinned (OpenSpec.ofChange fnExactRowsOfWrong)

/- THE SECOND FORM. 'bulk': how many values and letters a reading holds, each counted each time it is reached (what is shared counts as often as it is met; a slice's spare places count too). A statement '..UptoSaid' is the law's where the arguments, and the package variables that the reading takes, are together of bulk at most 1048576: NARROWER than '..Said'. Prove '..Said' where nothing that the law and all that it calls make is longer than what came in: it says more and counts as full. Else prove '..UptoSaid'. A law counts once. -/
mutual
def uptoBulk {H : Type} : DataW H → Nat
  | .lit (.string bytes) => bytes.length + 1
  | .lit _ => 1
  | .nil => 1
  | .ptr d => uptoBulk d + 1
  | .slice elems spare => uptoBulkAll elems + uptoBulkAll spare + 1
  | .agg parts => uptoBulkAll parts + 1
  | .iface _ d => uptoBulk d + 1
  | .map entries => uptoBulkEntries entries + 1
  | .held _ => 1
def uptoBulkAll {H : Type} : List (DataW H) → Nat
  | [] => 0
  | d :: r => uptoBulk d + uptoBulkAll r
def uptoBulkEntries {H : Type} : List (Lit × DataW H) → Nat
  | [] => 0
  | x :: r => uptoBulkEntry x + uptoBulkEntries r
def uptoBulkEntry {H : Type} : Lit × DataW H → Nat
  | (.string bytes, d) => bytes.length + uptoBulk d + 1
  | (_, d) => uptoBulk d + 1
 end
def uptoSmall : (H : Type) → List (DataW H) → Bool := fun _ ds => decide (uptoBulkAll ds ≤ 1048576)
def OpenSpec.upto (s : _root_.Go.ChangeSpec) : _root_.Go.OpenSpec := { _root_.Go.OpenSpec.ofChange s with cond := some uptoSmall }

/-- 'laws.FnExactWithoutOwners', WHERE WHAT IT READS IS OF BULK AT MOST 1048576: true; the input reads as it did. -/
def fnExactWithoutOwnersUptoRow : OpenClaim := { program := "ytakembkodcjbjaa", sum := "2dabced57724ae413a1b28bc269e7099adcaa8060795818a011a492b35782d9f", func := "loop.example/g00958/laws.FnExactWithoutOwners", spec := "fnExactWithoutOwners", apart := false, narrowed := true }
def FnExactWithoutOwnersUptoSaid : Prop := fnExactWithoutOwnersUptoRow.holds Try.pinned (OpenSpec.upto fnExactWithoutOwnersSpec)

/-- 'laws.FnOverlays', WHERE WHAT IT READS IS OF BULK AT MOST 1048576: true; the input reads as it did. -/
def fnOverlaysUptoRow : OpenClaim := { program := "ytakembkodcjbjaa", sum := "2dabced57724ae413a1b28bc269e7099adcaa8060795818a011a492b35782d9f", func := "loop.example/g00958/laws.FnOverlays", spec := "fnOverlays", apart := false, narrowed := true }
def FnOverlaysUptoSaid : Prop := fnOverlaysUptoRow.holds Try.pinned (OpenSpec.upto fnOverlaysSpec)

/-- 'laws.FnExactBestTimes', WHERE WHAT IT READS IS OF BULK AT MOST 1048576: true; the input reads as it did. -/
def fnExactBestTimesUptoRow : OpenClaim := { program := "ytakembkodcjbjaa", sum := "2dabced57724ae413a1b28bc269e7099adcaa8060795818a011a492b35782d9f", func := "loop.example/g00958/laws.FnExactBestTimes", spec := "fnExactBestTimes", apart := false, narrowed := true }
def FnExactBestTimesUptoSaid : Prop := fnExactBestTimesUptoRow.holds Try.pinned (OpenSpec.upto fnExactBestTimesSpec)

/-- 'laws.FnExactTrueBad', WHERE WHAT IT READS IS OF BULK AT MOST 1048576: true; the input reads as it did. -/
def fnExactTrueBadUptoRow : OpenClaim := { program := "ytakembkodcjbjaa", sum := "2dabced57724ae413a1b28bc269e7099adcaa8060795818a011a492b35782d9f", func := "loop.example/g00958/laws.FnExactTrueBad", spec := "fnExactTrueBad", unfollowed := true, recurses := true, apart := false, narrowed := true }
def FnExactTrueBadUptoSaid : Prop := fnExactTrueBadUptoRow.holds Try.pinned (OpenSpec.upto fnExactTrueBadSpec)

/-- 'laws.FnExactEqualWorlds', WHERE WHAT IT READS IS OF BULK AT MOST 1048576: true; the input reads as it did. -/
def fnExactEqualWorldsUptoRow : OpenClaim := { program := "ytakembkodcjbjaa", sum := "2dabced57724ae413a1b28bc269e7099adcaa8060795818a011a492b35782d9f", func := "loop.example/g00958/laws.FnExactEqualWorlds", spec := "fnExactEqualWorlds", unfollowed := true, recurses := true, apart := false, narrowed := true }
def FnExactEqualWorldsUptoSaid : Prop := fnExactEqualWorldsUptoRow.holds Try.pinned (OpenSpec.upto fnExactEqualWorldsSpec)

/-- 'laws.FnExactLooksAlike', WHERE WHAT IT READS IS OF BULK AT MOST 1048576: true; the input reads as it did. -/
def fnExactLooksAlikeUptoRow : OpenClaim := { program := "ytakembkodcjbjaa", sum := "2dabced57724ae413a1b28bc269e7099adcaa8060795818a011a492b35782d9f", func := "loop.example/g00958/laws.FnExactLooksAlike", spec := "fnExactLooksAlike", unfollowed := true, recurses := true, apart := false, narrowed := true }
def FnExactLooksAlikeUptoSaid : Prop := fnExactLooksAlikeUptoRow.holds Try.pinned (OpenSpec.upto fnExactLooksAlikeSpec)

/-- 'laws.FnExactObserve', WHERE WHAT IT READS IS OF BULK AT MOST 1048576: true; the input reads as it did. -/
def fnExactObserveUptoRow : OpenClaim := { program := "ytakembkodcjbjaa", sum := "2dabced57724ae413a1b28bc269e7099adcaa8060795818a011a492b35782d9f", func := "loop.example/g00958/laws.FnExactObserve", spec := "fnExactObserve", unfollowed := true, recurses := true, apart := false, narrowed := true }
def FnExactObserveUptoSaid : Prop := fnExactObserveUptoRow.holds Try.pinned (OpenSpec.upto fnExactObserveSpec)

/-- 'laws.FnObserved', WHERE WHAT IT READS IS OF BULK AT MOST 1048576: true; the input reads as it did. -/
def fnObservedUptoRow : OpenClaim := { program := "ytakembkodcjbjaa", sum := "2dabced57724ae413a1b28bc269e7099adcaa8060795818a011a492b35782d9f", func := "loop.example/g00958/laws.FnObserved", spec := "fnObserved", unfollowed := true, recurses := true, apart := false, narrowed := true }
def FnObservedUptoSaid : Prop := fnObservedUptoRow.holds Try.pinned (OpenSpec.upto fnObservedSpec)

/-- 'laws.FnExactIsBetter', WHERE WHAT IT READS IS OF BULK AT MOST 1048576: true; the input reads as it did. -/
def fnExactIsBetterUptoRow : OpenClaim := { program := "ytakembkodcjbjaa", sum := "2dabced57724ae413a1b28bc269e7099adcaa8060795818a011a492b35782d9f", func := "loop.example/g00958/laws.FnExactIsBetter", spec := "fnExactIsBetter", recurses := true, apart := false, narrowed := true }
def FnExactIsBetterUptoSaid : Prop := fnExactIsBetterUptoRow.holds Try.pinned (OpenSpec.upto fnExactIsBetterSpec)

/-- 'laws.FnExactIsWorse', WHERE WHAT IT READS IS OF BULK AT MOST 1048576: true; the input reads as it did. -/
def fnExactIsWorseUptoRow : OpenClaim := { program := "ytakembkodcjbjaa", sum := "2dabced57724ae413a1b28bc269e7099adcaa8060795818a011a492b35782d9f", func := "loop.example/g00958/laws.FnExactIsWorse", spec := "fnExactIsWorse", recurses := true, apart := false, narrowed := true }
def FnExactIsWorseUptoSaid : Prop := fnExactIsWorseUptoRow.holds Try.pinned (OpenSpec.upto fnExactIsWorseSpec)

/-- 'laws.FnExactWorldMatrix', WHERE WHAT IT READS IS OF BULK AT MOST 1048576: true; the input reads as it did. -/
def fnExactWorldMatrixUptoRow : OpenClaim := { program := "ytakembkodcjbjaa", sum := "2dabced57724ae413a1b28bc269e7099adcaa8060795818a011a492b35782d9f", func := "loop.example/g00958/laws.FnExactWorldMatrix", spec := "fnExactWorldMatrix", apart := false, narrowed := true }
def FnExactWorldMatrixUptoSaid : Prop := fnExactWorldMatrixUptoRow.holds Try.pinned (OpenSpec.upto fnExactWorldMatrixSpec)

/-- 'laws.FnExactRowsOf', WHERE WHAT IT READS IS OF BULK AT MOST 1048576: true; the input reads as it did. -/
def fnExactRowsOfUptoRow : OpenClaim := { program := "ytakembkodcjbjaa", sum := "2dabced57724ae413a1b28bc269e7099adcaa8060795818a011a492b35782d9f", func := "loop.example/g00958/laws.FnExactRowsOf", spec := "fnExactRowsOf", apart := false, narrowed := true }
def FnExactRowsOfUptoSaid : Prop := fnExactRowsOfUptoRow.holds Try.pinned (OpenSpec.upto fnExactRowsOfSpec)

end Rows
end Go.Proofs.Ytakembkodcjbjaa
