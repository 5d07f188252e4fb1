/-
  No cell of these rows narrows 'for every input' (looked for: loops, veiled, ifaces, maps, wideKeys, modest, calm, conditions, laid).
  DERIVED. THE GIVEN ROWS OF THIS SEAT. 12 by the template 'for every input the law returns true; each argument reads behind the call as it read before'; 0 by the template 'total and deterministic' (their statements: YtkimiekgghfoiaaTotals.lean).
  GIVEN WITH THE SEED: the statements are not yours to turn. If you find one false, say at which input.
  Laid BY PROGRAM, IN A SANDBOX (cutbox-rows.mjs): the forced cells as the released guide's own fill.sh prints them over the translation b1e0e5da2ced625f… (all of the seat's roots in one cut). By AI agents, Wed Nov 11 2026. No macro, syntax, notation, axiom, sorry.
-/
import Derived.Test.YtkimiekgghfoiaaChecked
import GoSem.Claim
import GoSem.ClaimJoined
import GoSem.ClaimMapViews
import Derived.JoinedTies
import Derived.KernelRfl
namespace Go.Proofs.Ytkimiekgghfoiaa
/- THE CELL 'sum', in the pinned program and in every row, IS THE sha256 OF THE DUMP (.gsa) THAT YtkimiekgghfoiaaProg.lean LOADS. Nothing in Lean hashes anything: it is a label: what it is worth is what the hold of that sum in a sandbox is worth. -/
noncomputable def Try.pinned : Pinned := { name := "ytkimiekgghfoiaa", sum := "b1e0e5da2ced625fd3e548cd28b8e55af84428deac4b0e15afeecc1b03edbe09", checked := Try.checked }
namespace Rows
def none {H : Type} : Left H := { results := [], args := [] }

/-- 'laws.FnExactEqualWorlds': WHATEVER THE INPUT: true; the input reads as it did. -/
def fnExactEqualWorldsSpec : ChangeSpec := { name := "fnExactEqualWorlds", fn := fun _ => fun
  | [d1, d2] => { results := [.lit (.bool true)], args := [d1, d2] }
  | _ => none }
def fnExactEqualWorldsRow : OpenClaim := { program := "ytkimiekgghfoiaa", sum := "b1e0e5da2ced625fd3e548cd28b8e55af84428deac4b0e15afeecc1b03edbe09", func := "loop.example/g00958/laws.FnExactEqualWorlds", spec := "fnExactEqualWorlds", unfollowed := true, recurses := true, apart := false }
def FnExactEqualWorldsSaid : Prop := fnExactEqualWorldsRow.holds Try.pinned (OpenSpec.ofChange fnExactEqualWorldsSpec)

/-- ITS FALSE NEIGHBOUR: 'it returns false'. Refute it at one input. -/
def fnExactEqualWorldsWrong : ChangeSpec := { name := "fnExactEqualWorlds", fn := fun _ => fun
  | [d1, d2] => { results := [.lit (.bool false)], args := [d1, d2] }
  | _ => none }
def FnExactEqualWorldsWrongFalsely : Prop := fnExactEqualWorldsRow.holds Try.pinned (OpenSpec.ofChange fnExactEqualWorldsWrong)

/-- 'laws.FnExactLooksAlike': WHATEVER THE INPUT: true; the input reads as it did. -/
def fnExactLooksAlikeSpec : ChangeSpec := { name := "fnExactLooksAlike", fn := fun _ => fun
  | [d1, d2] => { results := [.lit (.bool true)], args := [d1, d2] }
  | _ => none }
def fnExactLooksAlikeRow : OpenClaim := { program := "ytkimiekgghfoiaa", sum := "b1e0e5da2ced625fd3e548cd28b8e55af84428deac4b0e15afeecc1b03edbe09", func := "loop.example/g00958/laws.FnExactLooksAlike", spec := "fnExactLooksAlike", unfollowed := true, recurses := true, apart := false }
def FnExactLooksAlikeSaid : Prop := fnExactLooksAlikeRow.holds Try.pinned (OpenSpec.ofChange fnExactLooksAlikeSpec)

/-- ITS FALSE NEIGHBOUR: 'it returns false'. Refute it at one input. -/
def fnExactLooksAlikeWrong : ChangeSpec := { name := "fnExactLooksAlike", fn := fun _ => fun
  | [d1, d2] => { results := [.lit (.bool false)], args := [d1, d2] }
  | _ => none }
def FnExactLooksAlikeWrongFalsely : Prop := fnExactLooksAlikeRow.holds Try.pinned (OpenSpec.ofChange fnExactLooksAlikeWrong)

/-- 'laws.FnExactIsBetter': WHATEVER THE INPUT: true; the input reads as it did. -/
def fnExactIsBetterSpec : ChangeSpec := { name := "fnExactIsBetter", fn := fun _ => fun
  | [d1, d2, d3] => { results := [.lit (.bool true)], args := [d1, d2, d3] }
  | _ => none }
def fnExactIsBetterRow : OpenClaim := { program := "ytkimiekgghfoiaa", sum := "b1e0e5da2ced625fd3e548cd28b8e55af84428deac4b0e15afeecc1b03edbe09", func := "loop.example/g00958/laws.FnExactIsBetter", spec := "fnExactIsBetter", recurses := true, apart := false }
def FnExactIsBetterSaid : Prop := fnExactIsBetterRow.holds Try.pinned (OpenSpec.ofChange fnExactIsBetterSpec)

/-- ITS FALSE NEIGHBOUR: 'it returns false'. Refute it at one input. -/
def fnExactIsBetterWrong : ChangeSpec := { name := "fnExactIsBetter", fn := fun _ => fun
  | [d1, d2, d3] => { results := [.lit (.bool false)], args := [d1, d2, d3] }
  | _ => none }
def FnExactIsBetterWrongFalsely : Prop := fnExactIsBetterRow.holds Try.pinned (OpenSpec.ofChange fnExactIsBetterWrong)

/-- 'laws.FnExactIsWorse': WHATEVER THE INPUT: true; the input reads as it did. -/
def fnExactIsWorseSpec : ChangeSpec := { name := "fnExactIsWorse", fn := fun _ => fun
  | [d1, d2, d3] => { results := [.lit (.bool true)], args := [d1, d2, d3] }
  | _ => none }
def fnExactIsWorseRow : OpenClaim := { program := "ytkimiekgghfoiaa", sum := "b1e0e5da2ced625fd3e548cd28b8e55af84428deac4b0e15afeecc1b03edbe09", func := "loop.example/g00958/laws.FnExactIsWorse", spec := "fnExactIsWorse", recurses := true, apart := false }
def FnExactIsWorseSaid : Prop := fnExactIsWorseRow.holds Try.pinned (OpenSpec.ofChange fnExactIsWorseSpec)

/-- ITS FALSE NEIGHBOUR: 'it returns false'. Refute it at one input. -/
def fnExactIsWorseWrong : ChangeSpec := { name := "fnExactIsWorse", fn := fun _ => fun
  | [d1, d2, d3] => { results := [.lit (.bool false)], args := [d1, d2, d3] }
  | _ => none }
def FnExactIsWorseWrongFalsely : Prop := fnExactIsWorseRow.holds Try.pinned (OpenSpec.ofChange fnExactIsWorseWrong)

/-- 'laws.FnExactWorldMatrix': WHATEVER THE INPUT: true; the input reads as it did. -/
def fnExactWorldMatrixSpec : ChangeSpec := { name := "fnExactWorldMatrix", fn := fun _ => fun
  | [d] => { results := [.lit (.bool true)], args := [d] }
  | _ => none }
def fnExactWorldMatrixRow : OpenClaim := { program := "ytkimiekgghfoiaa", sum := "b1e0e5da2ced625fd3e548cd28b8e55af84428deac4b0e15afeecc1b03edbe09", func := "loop.example/g00958/laws.FnExactWorldMatrix", spec := "fnExactWorldMatrix", apart := false }
def FnExactWorldMatrixSaid : Prop := fnExactWorldMatrixRow.holds Try.pinned (OpenSpec.ofChange fnExactWorldMatrixSpec)

/-- ITS FALSE NEIGHBOUR: 'it returns false'. Refute it at one input. -/
def fnExactWorldMatrixWrong : ChangeSpec := { name := "fnExactWorldMatrix", fn := fun _ => fun
  | [d] => { results := [.lit (.bool false)], args := [d] }
  | _ => none }
def FnExactWorldMatrixWrongFalsely : Prop := fnExactWorldMatrixRow.holds Try.pinned (OpenSpec.ofChange fnExactWorldMatrixWrong)

/-- 'laws.FnExactRowsOf': WHATEVER THE INPUT: true; the input reads as it did. -/
def fnExactRowsOfSpec : ChangeSpec := { name := "fnExactRowsOf", fn := fun _ => fun
  | [d] => { results := [.lit (.bool true)], args := [d] }
  | _ => none }
def fnExactRowsOfRow : OpenClaim := { program := "ytkimiekgghfoiaa", sum := "b1e0e5da2ced625fd3e548cd28b8e55af84428deac4b0e15afeecc1b03edbe09", func := "loop.example/g00958/laws.FnExactRowsOf", spec := "fnExactRowsOf", apart := false }
def FnExactRowsOfSaid : Prop := fnExactRowsOfRow.holds Try.pinned (OpenSpec.ofChange fnExactRowsOfSpec)

/-- ITS FALSE NEIGHBOUR: 'it returns false'. Refute it at one input. -/
def fnExactRowsOfWrong : ChangeSpec := { name := "fnExactRowsOf", fn := fun _ => fun
  | [d] => { results := [.lit (.bool false)], args := [d] }
  | _ => none }
def FnExactRowsOfWrongFalsely : Prop := fnExactRowsOfRow.holds Try.pinned (OpenSpec.ofChange fnExactRowsOfWrong)

/-- 'laws.FnExactDecideTrial': WHATEVER THE INPUT: true; the input reads as it did. -/
def fnExactDecideTrialSpec : ChangeSpec := { name := "fnExactDecideTrial", fn := fun _ => fun
  | [d1, d2, d3, d4, d5, d6] => { results := [.lit (.bool true)], args := [d1, d2, d3, d4, d5, d6] }
  | _ => none }
def fnExactDecideTrialRow : OpenClaim := { program := "ytkimiekgghfoiaa", sum := "b1e0e5da2ced625fd3e548cd28b8e55af84428deac4b0e15afeecc1b03edbe09", func := "loop.example/g00958/laws.FnExactDecideTrial", spec := "fnExactDecideTrial", recurses := true, apart := false }
def FnExactDecideTrialSaid : Prop := fnExactDecideTrialRow.holds Try.pinned (OpenSpec.ofChange fnExactDecideTrialSpec)

/-- ITS FALSE NEIGHBOUR: 'it returns false'. Refute it at one input. -/
def fnExactDecideTrialWrong : ChangeSpec := { name := "fnExactDecideTrial", fn := fun _ => fun
  | [d1, d2, d3, d4, d5, d6] => { results := [.lit (.bool false)], args := [d1, d2, d3, d4, d5, d6] }
  | _ => none }
def FnExactDecideTrialWrongFalsely : Prop := fnExactDecideTrialRow.holds Try.pinned (OpenSpec.ofChange fnExactDecideTrialWrong)

/-- 'laws.FnExactIsChecked': WHATEVER THE INPUT: true; the input reads as it did. -/
def fnExactIsCheckedSpec : ChangeSpec := { name := "fnExactIsChecked", fn := fun _ => fun
  | [d1, d2, d3] => { results := [.lit (.bool true)], args := [d1, d2, d3] }
  | _ => none }
def fnExactIsCheckedRow : OpenClaim := { program := "ytkimiekgghfoiaa", sum := "b1e0e5da2ced625fd3e548cd28b8e55af84428deac4b0e15afeecc1b03edbe09", func := "loop.example/g00958/laws.FnExactIsChecked", spec := "fnExactIsChecked", unfollowed := true, recurses := true, apart := false }
def FnExactIsCheckedSaid : Prop := fnExactIsCheckedRow.holds Try.pinned (OpenSpec.ofChange fnExactIsCheckedSpec)

/-- ITS FALSE NEIGHBOUR: 'it returns false'. Refute it at one input. -/
def fnExactIsCheckedWrong : ChangeSpec := { name := "fnExactIsChecked", fn := fun _ => fun
  | [d1, d2, d3] => { results := [.lit (.bool false)], args := [d1, d2, d3] }
  | _ => none }
def FnExactIsCheckedWrongFalsely : Prop := fnExactIsCheckedRow.holds Try.pinned (OpenSpec.ofChange fnExactIsCheckedWrong)

/-- 'laws.FnExactFewestLiars': WHATEVER THE INPUT: true; the input reads as it did. -/
def fnExactFewestLiarsSpec : ChangeSpec := { name := "fnExactFewestLiars", fn := fun _ => fun
  | [d1, d2, d3, d4] => { results := [.lit (.bool true)], args := [d1, d2, d3, d4] }
  | _ => none }
def fnExactFewestLiarsRow : OpenClaim := { program := "ytkimiekgghfoiaa", sum := "b1e0e5da2ced625fd3e548cd28b8e55af84428deac4b0e15afeecc1b03edbe09", func := "loop.example/g00958/laws.FnExactFewestLiars", spec := "fnExactFewestLiars", unfollowed := true, recurses := true, apart := false }
def FnExactFewestLiarsSaid : Prop := fnExactFewestLiarsRow.holds Try.pinned (OpenSpec.ofChange fnExactFewestLiarsSpec)

/-- ITS FALSE NEIGHBOUR: 'it returns false'. Refute it at one input. -/
def fnExactFewestLiarsWrong : ChangeSpec := { name := "fnExactFewestLiars", fn := fun _ => fun
  | [d1, d2, d3, d4] => { results := [.lit (.bool false)], args := [d1, d2, d3, d4] }
  | _ => none }
def FnExactFewestLiarsWrongFalsely : Prop := fnExactFewestLiarsRow.holds Try.pinned (OpenSpec.ofChange fnExactFewestLiarsWrong)

/-- 'laws.FnObserved': WHATEVER THE INPUT: true; the input reads as it did. -/
def fnObservedSpec : ChangeSpec := { name := "fnObserved", fn := fun _ => fun
  | [d] => { results := [.lit (.bool true)], args := [d] }
  | _ => none }
def fnObservedRow : OpenClaim := { program := "ytkimiekgghfoiaa", sum := "b1e0e5da2ced625fd3e548cd28b8e55af84428deac4b0e15afeecc1b03edbe09", func := "loop.example/g00958/laws.FnObserved", spec := "fnObserved", unfollowed := true, recurses := true, apart := false }
def FnObservedSaid : Prop := fnObservedRow.holds Try.pinned (OpenSpec.ofChange fnObservedSpec)

/-- ITS FALSE NEIGHBOUR: 'it returns false'. Refute it at one input. -/
def fnObservedWrong : ChangeSpec := { name := "fnObserved", fn := fun _ => fun
  | [d] => { results := [.lit (.bool false)], args := [d] }
  | _ => none }
def FnObservedWrongFalsely : Prop := fnObservedRow.holds Try.pinned (OpenSpec.ofChange fnObservedWrong)

/-- 'laws.FnTrials': WHATEVER THE INPUT: true; the input reads as it did. -/
def fnTrialsSpec : ChangeSpec := { name := "fnTrials", fn := fun _ => fun
  | [d] => { results := [.lit (.bool true)], args := [d] }
  | _ => none }
def fnTrialsRow : OpenClaim := { program := "ytkimiekgghfoiaa", sum := "b1e0e5da2ced625fd3e548cd28b8e55af84428deac4b0e15afeecc1b03edbe09", func := "loop.example/g00958/laws.FnTrials", spec := "fnTrials", recurses := true, apart := false }
def FnTrialsSaid : Prop := fnTrialsRow.holds Try.pinned (OpenSpec.ofChange fnTrialsSpec)

/-- ITS FALSE NEIGHBOUR: 'it returns false'. Refute it at one input. -/
def fnTrialsWrong : ChangeSpec := { name := "fnTrials", fn := fun _ => fun
  | [d] => { results := [.lit (.bool false)], args := [d] }
  | _ => none }
def FnTrialsWrongFalsely : Prop := fnTrialsRow.holds Try.pinned (OpenSpec.ofChange fnTrialsWrong)

/-- 'laws.FnLiars': WHATEVER THE INPUT: true; the input reads as it did. -/
def fnLiarsSpec : ChangeSpec := { name := "fnLiars", fn := fun _ => fun
  | [d] => { results := [.lit (.bool true)], args := [d] }
  | _ => none }
def fnLiarsRow : OpenClaim := { program := "ytkimiekgghfoiaa", sum := "b1e0e5da2ced625fd3e548cd28b8e55af84428deac4b0e15afeecc1b03edbe09", func := "loop.example/g00958/laws.FnLiars", spec := "fnLiars", unfollowed := true, recurses := true, apart := false }
def FnLiarsSaid : Prop := fnLiarsRow.holds Try.pinned (OpenSpec.ofChange fnLiarsSpec)

/-- ITS FALSE NEIGHBOUR: 'it returns false'. Refute it at one input. -/
def fnLiarsWrong : ChangeSpec := { name := "fnLiars", fn := fun _ => fun
  | [d] => { results := [.lit (.bool false)], args := [d] }
  | _ => none }
def FnLiarsWrongFalsely : Prop := fnLiarsRow.holds Try.pinned (OpenSpec.ofChange fnLiarsWrong)

/- THE SECOND FORM. 'bulk': how many values and letters a reading holds, each counted each time it is reached (what is shared counts as often as it is met; a slice's spare places count too). A statement '..UptoSaid' is the law's where the arguments, and the package variables that the reading takes, are together of bulk at most 1048576: NARROWER than '..Said'. Prove '..Said' where nothing that the law and all that it calls make is longer than what came in: it says more and counts as full. Else prove '..UptoSaid'. A law counts once. -/
mutual
def uptoBulk {H : Type} : DataW H → Nat
  | .lit (.string bytes) => bytes.length + 1
  | .lit _ => 1
  | .nil => 1
  | .ptr d => uptoBulk d + 1
  | .slice elems spare => uptoBulkAll elems + uptoBulkAll spare + 1
  | .agg parts => uptoBulkAll parts + 1
  | .iface _ d => uptoBulk d + 1
  | .map entries => uptoBulkEntries entries + 1
  | .held _ => 1
def uptoBulkAll {H : Type} : List (DataW H) → Nat
  | [] => 0
  | d :: r => uptoBulk d + uptoBulkAll r
def uptoBulkEntries {H : Type} : List (Lit × DataW H) → Nat
  | [] => 0
  | x :: r => uptoBulkEntry x + uptoBulkEntries r
def uptoBulkEntry {H : Type} : Lit × DataW H → Nat
  | (.string bytes, d) => bytes.length + uptoBulk d + 1
  | (_, d) => uptoBulk d + 1
 end
def uptoSmall : (H : Type) → List (DataW H) → Bool := fun _ ds => decide (uptoBulkAll ds ≤ 1048576)
def OpenSpec.upto (s : _root_.Go.ChangeSpec) : _root_.Go.OpenSpec := { _root_.Go.OpenSpec.ofChange s with cond := some uptoSmall }

/-- 'laws.FnExactEqualWorlds', WHERE WHAT IT READS IS OF BULK AT MOST 1048576: true; the input reads as it did. -/
def fnExactEqualWorldsUptoRow : OpenClaim := { program := "ytkimiekgghfoiaa", sum := "b1e0e5da2ced625fd3e548cd28b8e55af84428deac4b0e15afeecc1b03edbe09", func := "loop.example/g00958/laws.FnExactEqualWorlds", spec := "fnExactEqualWorlds", unfollowed := true, recurses := true, apart := false, narrowed := true }
def FnExactEqualWorldsUptoSaid : Prop := fnExactEqualWorldsUptoRow.holds Try.pinned (OpenSpec.upto fnExactEqualWorldsSpec)

/-- 'laws.FnExactLooksAlike', WHERE WHAT IT READS IS OF BULK AT MOST 1048576: true; the input reads as it did. -/
def fnExactLooksAlikeUptoRow : OpenClaim := { program := "ytkimiekgghfoiaa", sum := "b1e0e5da2ced625fd3e548cd28b8e55af84428deac4b0e15afeecc1b03edbe09", func := "loop.example/g00958/laws.FnExactLooksAlike", spec := "fnExactLooksAlike", unfollowed := true, recurses := true, apart := false, narrowed := true }
def FnExactLooksAlikeUptoSaid : Prop := fnExactLooksAlikeUptoRow.holds Try.pinned (OpenSpec.upto fnExactLooksAlikeSpec)

/-- 'laws.FnExactIsBetter', WHERE WHAT IT READS IS OF BULK AT MOST 1048576: true; the input reads as it did. -/
def fnExactIsBetterUptoRow : OpenClaim := { program := "ytkimiekgghfoiaa", sum := "b1e0e5da2ced625fd3e548cd28b8e55af84428deac4b0e15afeecc1b03edbe09", func := "loop.example/g00958/laws.FnExactIsBetter", spec := "fnExactIsBetter", recurses := true, apart := false, narrowed := true }
def FnExactIsBetterUptoSaid : Prop := fnExactIsBetterUptoRow.holds Try.pinned (OpenSpec.upto fnExactIsBetterSpec)

/-- 'laws.FnExactIsWorse', WHERE WHAT IT READS IS OF BULK AT MOST 1048576: true; the input reads as it did. -/
def fnExactIsWorseUptoRow : OpenClaim := { program := "ytkimiekgghfoiaa", sum := "b1e0e5da2ced625fd3e548cd28b8e55af84428deac4b0e15afeecc1b03edbe09", func := "loop.example/g00958/laws.FnExactIsWorse", spec := "fnExactIsWorse", recurses := true, apart := false, narrowed := true }
def FnExactIsWorseUptoSaid : Prop := fnExactIsWorseUptoRow.holds Try.pinned (OpenSpec.upto fnExactIsWorseSpec)

/-- 'laws.FnExactWorldMatrix', WHERE WHAT IT READS IS OF BULK AT MOST 1048576: true; the input reads as it did. -/
def fnExactWorldMatrixUptoRow : OpenClaim := { program := "ytkimiekgghfoiaa", sum := "b1e0e5da2ced625fd3e548cd28b8e55af84428deac4b0e15afeecc1b03edbe09", func := "loop.example/g00958/laws.FnExactWorldMatrix", spec := "fnExactWorldMatrix", apart := false, narrowed := true }
def FnExactWorldMatrixUptoSaid : Prop := fnExactWorldMatrixUptoRow.holds Try.pinned (OpenSpec.upto fnExactWorldMatrixSpec)

/-- 'laws.FnExactRowsOf', WHERE WHAT IT READS IS OF BULK AT MOST 1048576: true; the input reads as it did. -/
def fnExactRowsOfUptoRow : OpenClaim := { program := "ytkimiekgghfoiaa", sum := "b1e0e5da2ced625fd3e548cd28b8e55af84428deac4b0e15afeecc1b03edbe09", func := "loop.example/g00958/laws.FnExactRowsOf", spec := "fnExactRowsOf", apart := false, narrowed := true }
def FnExactRowsOfUptoSaid : Prop := fnExactRowsOfUptoRow.holds Try.pinned (OpenSpec.upto fnExactRowsOfSpec)

/-- 'laws.FnExactDecideTrial', WHERE WHAT IT READS IS OF BULK AT MOST 1048576: true; the input reads as it did. -/
def fnExactDecideTrialUptoRow : OpenClaim := { program := "ytkimiekgghfoiaa", sum := "b1e0e5da2ced625fd3e548cd28b8e55af84428deac4b0e15afeecc1b03edbe09", func := "loop.example/g00958/laws.FnExactDecideTrial", spec := "fnExactDecideTrial", recurses := true, apart := false, narrowed := true }
def FnExactDecideTrialUptoSaid : Prop := fnExactDecideTrialUptoRow.holds Try.pinned (OpenSpec.upto fnExactDecideTrialSpec)

/-- 'laws.FnExactIsChecked', WHERE WHAT IT READS IS OF BULK AT MOST 1048576: true; the input reads as it did. -/
def fnExactIsCheckedUptoRow : OpenClaim := { program := "ytkimiekgghfoiaa", sum := "b1e0e5da2ced625fd3e548cd28b8e55af84428deac4b0e15afeecc1b03edbe09", func := "loop.example/g00958/laws.FnExactIsChecked", spec := "fnExactIsChecked", unfollowed := true, recurses := true, apart := false, narrowed := true }
def FnExactIsCheckedUptoSaid : Prop := fnExactIsCheckedUptoRow.holds Try.pinned (OpenSpec.upto fnExactIsCheckedSpec)

/-- 'laws.FnExactFewestLiars', WHERE WHAT IT READS IS OF BULK AT MOST 1048576: true; the input reads as it did. -/
def fnExactFewestLiarsUptoRow : OpenClaim := { program := "ytkimiekgghfoiaa", sum := "b1e0e5da2ced625fd3e548cd28b8e55af84428deac4b0e15afeecc1b03edbe09", func := "loop.example/g00958/laws.FnExactFewestLiars", spec := "fnExactFewestLiars", unfollowed := true, recurses := true, apart := false, narrowed := true }
def FnExactFewestLiarsUptoSaid : Prop := fnExactFewestLiarsUptoRow.holds Try.pinned (OpenSpec.upto fnExactFewestLiarsSpec)

/-- 'laws.FnObserved', WHERE WHAT IT READS IS OF BULK AT MOST 1048576: true; the input reads as it did. -/
def fnObservedUptoRow : OpenClaim := { program := "ytkimiekgghfoiaa", sum := "b1e0e5da2ced625fd3e548cd28b8e55af84428deac4b0e15afeecc1b03edbe09", func := "loop.example/g00958/laws.FnObserved", spec := "fnObserved", unfollowed := true, recurses := true, apart := false, narrowed := true }
def FnObservedUptoSaid : Prop := fnObservedUptoRow.holds Try.pinned (OpenSpec.upto fnObservedSpec)

/-- 'laws.FnTrials', WHERE WHAT IT READS IS OF BULK AT MOST 1048576: true; the input reads as it did. -/
def fnTrialsUptoRow : OpenClaim := { program := "ytkimiekgghfoiaa", sum := "b1e0e5da2ced625fd3e548cd28b8e55af84428deac4b0e15afeecc1b03edbe09", func := "loop.example/g00958/laws.FnTrials", spec := "fnTrials", recurses := true, apart := false, narrowed := true }
def FnTrialsUptoSaid : Prop := fnTrialsUptoRow.holds Try.pinned (OpenSpec.upto fnTrialsSpec)

/-- 'laws.FnLiars', WHERE WHAT IT READS IS OF BULK AT MOST 1048576: true; the input reads as it did. -/
def fnLiarsUptoRow : OpenClaim := { program := "ytkimiekgghfoiaa", sum := "b1e0e5da2ced625fd3e548cd28b8e55af84428deac4b0e15afeecc1b03edbe09", func := "loop.example/g00958/laws.FnLiars", spec := "fnLiars", unfollowed := true, recurses := true, apart := false, narrowed := true }
def FnLiarsUptoSaid : Prop := fnLiarsUptoRow.holds Try.pinned (OpenSpec.upto fnLiarsSpec)

end Rows
end Go.Proofs.Ytkimiekgghfoiaa
