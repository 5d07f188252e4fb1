/-
  No cell of these rows narrows 'for every input' (looked for: loops, veiled, ifaces, maps, wideKeys, modest, calm, conditions, laid).
  DERIVED. THE GIVEN ROWS OF THIS SEAT. 12 by the template 'for every input the law returns true; each argument reads behind the call as it read before'; 0 by the template 'total and deterministic' (their statements: YtjhbpiboemajeaaTotals.lean).
  GIVEN WITH THE SEED: the statements are not yours to turn. If you find one false, say at which input.
  Laid BY PROGRAM, IN A SANDBOX (cutbox-rows.mjs): the forced cells as the released guide's own fill.sh prints them over the translation 955b8a1e88869223… (all of the seat's roots in one cut). By AI agents, Wed Nov 11 2026. No macro, syntax, notation, axiom, sorry.
-/
import Derived.Test.YtjhbpiboemajeaaChecked
import GoSem.Claim
import GoSem.ClaimJoined
import GoSem.ClaimMapViews
import Derived.JoinedTies
import Derived.KernelRfl
namespace Go.Proofs.Ytjhbpiboemajeaa
/- THE CELL 'sum', in the pinned program and in every row, IS THE sha256 OF THE DUMP (.gsa) THAT YtjhbpiboemajeaaProg.lean LOADS. Nothing in Lean hashes anything: it is a label: what it is worth is what the hold of that sum in a sandbox is worth. -/
noncomputable def Try.pinned : Pinned := { name := "ytjhbpiboemajeaa", sum := "955b8a1e88869223e0a1a753ef033cb0ccb6be99110030de7a5546e2b4f31511", checked := Try.checked }
namespace Rows
def none {H : Type} : Left H := { results := [], args := [] }

/-- 'laws.FnExactSeriesOf': WHATEVER THE INPUT: true; the input reads as it did. -/
def fnExactSeriesOfSpec : ChangeSpec := { name := "fnExactSeriesOf", fn := fun _ => fun
  | [d1, d2] => { results := [.lit (.bool true)], args := [d1, d2] }
  | _ => none }
def fnExactSeriesOfRow : OpenClaim := { program := "ytjhbpiboemajeaa", sum := "955b8a1e88869223e0a1a753ef033cb0ccb6be99110030de7a5546e2b4f31511", func := "loop.example/g00958/laws.FnExactSeriesOf", spec := "fnExactSeriesOf", apart := false }
def FnExactSeriesOfSaid : Prop := fnExactSeriesOfRow.holds Try.pinned (OpenSpec.ofChange fnExactSeriesOfSpec)

/-- ITS FALSE NEIGHBOUR: 'it returns false'. Refute it at one input. -/
def fnExactSeriesOfWrong : ChangeSpec := { name := "fnExactSeriesOf", fn := fun _ => fun
  | [d1, d2] => { results := [.lit (.bool false)], args := [d1, d2] }
  | _ => none }
def FnExactSeriesOfWrongFalsely : Prop := fnExactSeriesOfRow.holds Try.pinned (OpenSpec.ofChange fnExactSeriesOfWrong)

/-- 'laws.FnExactAreOwned': WHATEVER THE INPUT: true; the input reads as it did. -/
def fnExactAreOwnedSpec : ChangeSpec := { name := "fnExactAreOwned", fn := fun _ => fun
  | [d1, d2, d3, d4] => { results := [.lit (.bool true)], args := [d1, d2, d3, d4] }
  | _ => none }
def fnExactAreOwnedRow : OpenClaim := { program := "ytjhbpiboemajeaa", sum := "955b8a1e88869223e0a1a753ef033cb0ccb6be99110030de7a5546e2b4f31511", func := "loop.example/g00958/laws.FnExactAreOwned", spec := "fnExactAreOwned", apart := false }
def FnExactAreOwnedSaid : Prop := fnExactAreOwnedRow.holds Try.pinned (OpenSpec.ofChange fnExactAreOwnedSpec)

/-- ITS FALSE NEIGHBOUR: 'it returns false'. Refute it at one input. -/
def fnExactAreOwnedWrong : ChangeSpec := { name := "fnExactAreOwned", fn := fun _ => fun
  | [d1, d2, d3, d4] => { results := [.lit (.bool false)], args := [d1, d2, d3, d4] }
  | _ => none }
def FnExactAreOwnedWrongFalsely : Prop := fnExactAreOwnedRow.holds Try.pinned (OpenSpec.ofChange fnExactAreOwnedWrong)

/-- 'laws.FnExactSeenAt': WHATEVER THE INPUT: true; the input reads as it did. -/
def fnExactSeenAtSpec : ChangeSpec := { name := "fnExactSeenAt", fn := fun _ => fun
  | [d1, d2] => { results := [.lit (.bool true)], args := [d1, d2] }
  | _ => none }
def fnExactSeenAtRow : OpenClaim := { program := "ytjhbpiboemajeaa", sum := "955b8a1e88869223e0a1a753ef033cb0ccb6be99110030de7a5546e2b4f31511", func := "loop.example/g00958/laws.FnExactSeenAt", spec := "fnExactSeenAt", apart := false }
def FnExactSeenAtSaid : Prop := fnExactSeenAtRow.holds Try.pinned (OpenSpec.ofChange fnExactSeenAtSpec)

/-- ITS FALSE NEIGHBOUR: 'it returns false'. Refute it at one input. -/
def fnExactSeenAtWrong : ChangeSpec := { name := "fnExactSeenAt", fn := fun _ => fun
  | [d1, d2] => { results := [.lit (.bool false)], args := [d1, d2] }
  | _ => none }
def FnExactSeenAtWrongFalsely : Prop := fnExactSeenAtRow.holds Try.pinned (OpenSpec.ofChange fnExactSeenAtWrong)

/-- 'laws.FnExactBestRelay': WHATEVER THE INPUT: true; the input reads as it did. -/
def fnExactBestRelaySpec : ChangeSpec := { name := "fnExactBestRelay", fn := fun _ => fun
  | [d1, d2, d3] => { results := [.lit (.bool true)], args := [d1, d2, d3] }
  | _ => none }
def fnExactBestRelayRow : OpenClaim := { program := "ytjhbpiboemajeaa", sum := "955b8a1e88869223e0a1a753ef033cb0ccb6be99110030de7a5546e2b4f31511", func := "loop.example/g00958/laws.FnExactBestRelay", spec := "fnExactBestRelay", apart := false }
def FnExactBestRelaySaid : Prop := fnExactBestRelayRow.holds Try.pinned (OpenSpec.ofChange fnExactBestRelaySpec)

/-- ITS FALSE NEIGHBOUR: 'it returns false'. Refute it at one input. -/
def fnExactBestRelayWrong : ChangeSpec := { name := "fnExactBestRelay", fn := fun _ => fun
  | [d1, d2, d3] => { results := [.lit (.bool false)], args := [d1, d2, d3] }
  | _ => none }
def FnExactBestRelayWrongFalsely : Prop := fnExactBestRelayRow.holds Try.pinned (OpenSpec.ofChange fnExactBestRelayWrong)

/-- 'laws.FnExactWithoutOwners': WHATEVER THE INPUT: true; the input reads as it did. -/
def fnExactWithoutOwnersSpec : ChangeSpec := { name := "fnExactWithoutOwners", fn := fun _ => fun
  | [d1, d2, d3] => { results := [.lit (.bool true)], args := [d1, d2, d3] }
  | _ => none }
def fnExactWithoutOwnersRow : OpenClaim := { program := "ytjhbpiboemajeaa", sum := "955b8a1e88869223e0a1a753ef033cb0ccb6be99110030de7a5546e2b4f31511", func := "loop.example/g00958/laws.FnExactWithoutOwners", spec := "fnExactWithoutOwners", apart := false }
def FnExactWithoutOwnersSaid : Prop := fnExactWithoutOwnersRow.holds Try.pinned (OpenSpec.ofChange fnExactWithoutOwnersSpec)

/-- ITS FALSE NEIGHBOUR: 'it returns false'. Refute it at one input. -/
def fnExactWithoutOwnersWrong : ChangeSpec := { name := "fnExactWithoutOwners", fn := fun _ => fun
  | [d1, d2, d3] => { results := [.lit (.bool false)], args := [d1, d2, d3] }
  | _ => none }
def FnExactWithoutOwnersWrongFalsely : Prop := fnExactWithoutOwnersRow.holds Try.pinned (OpenSpec.ofChange fnExactWithoutOwnersWrong)

/-- 'laws.FnExactSumOfAll': WHATEVER THE INPUT: true; the input reads as it did. -/
def fnExactSumOfAllSpec : ChangeSpec := { name := "fnExactSumOfAll", fn := fun _ => fun
  | [d] => { results := [.lit (.bool true)], args := [d] }
  | _ => none }
def fnExactSumOfAllRow : OpenClaim := { program := "ytjhbpiboemajeaa", sum := "955b8a1e88869223e0a1a753ef033cb0ccb6be99110030de7a5546e2b4f31511", func := "loop.example/g00958/laws.FnExactSumOfAll", spec := "fnExactSumOfAll", apart := false }
def FnExactSumOfAllSaid : Prop := fnExactSumOfAllRow.holds Try.pinned (OpenSpec.ofChange fnExactSumOfAllSpec)

/-- ITS FALSE NEIGHBOUR: 'it returns false'. Refute it at one input. -/
def fnExactSumOfAllWrong : ChangeSpec := { name := "fnExactSumOfAll", fn := fun _ => fun
  | [d] => { results := [.lit (.bool false)], args := [d] }
  | _ => none }
def FnExactSumOfAllWrongFalsely : Prop := fnExactSumOfAllRow.holds Try.pinned (OpenSpec.ofChange fnExactSumOfAllWrong)

/-- 'laws.FnExactGoodOnes': WHATEVER THE INPUT: true; the input reads as it did. -/
def fnExactGoodOnesSpec : ChangeSpec := { name := "fnExactGoodOnes", fn := fun _ => fun
  | [d1, d2] => { results := [.lit (.bool true)], args := [d1, d2] }
  | _ => none }
def fnExactGoodOnesRow : OpenClaim := { program := "ytjhbpiboemajeaa", sum := "955b8a1e88869223e0a1a753ef033cb0ccb6be99110030de7a5546e2b4f31511", func := "loop.example/g00958/laws.FnExactGoodOnes", spec := "fnExactGoodOnes", apart := false }
def FnExactGoodOnesSaid : Prop := fnExactGoodOnesRow.holds Try.pinned (OpenSpec.ofChange fnExactGoodOnesSpec)

/-- ITS FALSE NEIGHBOUR: 'it returns false'. Refute it at one input. -/
def fnExactGoodOnesWrong : ChangeSpec := { name := "fnExactGoodOnes", fn := fun _ => fun
  | [d1, d2] => { results := [.lit (.bool false)], args := [d1, d2] }
  | _ => none }
def FnExactGoodOnesWrongFalsely : Prop := fnExactGoodOnesRow.holds Try.pinned (OpenSpec.ofChange fnExactGoodOnesWrong)

/-- 'laws.FnSeen': WHATEVER THE INPUT: true; the input reads as it did. -/
def fnSeenSpec : ChangeSpec := { name := "fnSeen", fn := fun _ => fun
  | [d] => { results := [.lit (.bool true)], args := [d] }
  | _ => none }
def fnSeenRow : OpenClaim := { program := "ytjhbpiboemajeaa", sum := "955b8a1e88869223e0a1a753ef033cb0ccb6be99110030de7a5546e2b4f31511", func := "loop.example/g00958/laws.FnSeen", spec := "fnSeen", apart := false }
def FnSeenSaid : Prop := fnSeenRow.holds Try.pinned (OpenSpec.ofChange fnSeenSpec)

/-- ITS FALSE NEIGHBOUR: 'it returns false'. Refute it at one input. -/
def fnSeenWrong : ChangeSpec := { name := "fnSeen", fn := fun _ => fun
  | [d] => { results := [.lit (.bool false)], args := [d] }
  | _ => none }
def FnSeenWrongFalsely : Prop := fnSeenRow.holds Try.pinned (OpenSpec.ofChange fnSeenWrong)

/-- 'laws.FnExactGain': WHATEVER THE INPUT: true; the input reads as it did. -/
def fnExactGainSpec : ChangeSpec := { name := "fnExactGain", fn := fun _ => fun
  | [d1, d2, d3] => { results := [.lit (.bool true)], args := [d1, d2, d3] }
  | _ => none }
def fnExactGainRow : OpenClaim := { program := "ytjhbpiboemajeaa", sum := "955b8a1e88869223e0a1a753ef033cb0ccb6be99110030de7a5546e2b4f31511", func := "loop.example/g00958/laws.FnExactGain", spec := "fnExactGain", apart := false }
def FnExactGainSaid : Prop := fnExactGainRow.holds Try.pinned (OpenSpec.ofChange fnExactGainSpec)

/-- ITS FALSE NEIGHBOUR: 'it returns false'. Refute it at one input. -/
def fnExactGainWrong : ChangeSpec := { name := "fnExactGain", fn := fun _ => fun
  | [d1, d2, d3] => { results := [.lit (.bool false)], args := [d1, d2, d3] }
  | _ => none }
def FnExactGainWrongFalsely : Prop := fnExactGainRow.holds Try.pinned (OpenSpec.ofChange fnExactGainWrong)

/-- 'laws.FnOverlays': WHATEVER THE INPUT: true; the input reads as it did. -/
def fnOverlaysSpec : ChangeSpec := { name := "fnOverlays", fn := fun _ => fun
  | [d] => { results := [.lit (.bool true)], args := [d] }
  | _ => none }
def fnOverlaysRow : OpenClaim := { program := "ytjhbpiboemajeaa", sum := "955b8a1e88869223e0a1a753ef033cb0ccb6be99110030de7a5546e2b4f31511", func := "loop.example/g00958/laws.FnOverlays", spec := "fnOverlays", apart := false }
def FnOverlaysSaid : Prop := fnOverlaysRow.holds Try.pinned (OpenSpec.ofChange fnOverlaysSpec)

/-- ITS FALSE NEIGHBOUR: 'it returns false'. Refute it at one input. -/
def fnOverlaysWrong : ChangeSpec := { name := "fnOverlays", fn := fun _ => fun
  | [d] => { results := [.lit (.bool false)], args := [d] }
  | _ => none }
def FnOverlaysWrongFalsely : Prop := fnOverlaysRow.holds Try.pinned (OpenSpec.ofChange fnOverlaysWrong)

/-- 'laws.FnSecrets': WHATEVER THE INPUT: true; the input reads as it did. -/
def fnSecretsSpec : ChangeSpec := { name := "fnSecrets", fn := fun _ => fun
  | [d] => { results := [.lit (.bool true)], args := [d] }
  | _ => none }
def fnSecretsRow : OpenClaim := { program := "ytjhbpiboemajeaa", sum := "955b8a1e88869223e0a1a753ef033cb0ccb6be99110030de7a5546e2b4f31511", func := "loop.example/g00958/laws.FnSecrets", spec := "fnSecrets", apart := false }
def FnSecretsSaid : Prop := fnSecretsRow.holds Try.pinned (OpenSpec.ofChange fnSecretsSpec)

/-- ITS FALSE NEIGHBOUR: 'it returns false'. Refute it at one input. -/
def fnSecretsWrong : ChangeSpec := { name := "fnSecrets", fn := fun _ => fun
  | [d] => { results := [.lit (.bool false)], args := [d] }
  | _ => none }
def FnSecretsWrongFalsely : Prop := fnSecretsRow.holds Try.pinned (OpenSpec.ofChange fnSecretsWrong)

/-- 'laws.FnExactBestTimes': WHATEVER THE INPUT: true; the input reads as it did. -/
def fnExactBestTimesSpec : ChangeSpec := { name := "fnExactBestTimes", fn := fun _ => fun
  | [d] => { results := [.lit (.bool true)], args := [d] }
  | _ => none }
def fnExactBestTimesRow : OpenClaim := { program := "ytjhbpiboemajeaa", sum := "955b8a1e88869223e0a1a753ef033cb0ccb6be99110030de7a5546e2b4f31511", func := "loop.example/g00958/laws.FnExactBestTimes", spec := "fnExactBestTimes", apart := false }
def FnExactBestTimesSaid : Prop := fnExactBestTimesRow.holds Try.pinned (OpenSpec.ofChange fnExactBestTimesSpec)

/-- ITS FALSE NEIGHBOUR: 'it returns false'. Refute it at one input. -/
def fnExactBestTimesWrong : ChangeSpec := { name := "fnExactBestTimes", fn := fun _ => fun
  | [d] => { results := [.lit (.bool false)], args := [d] }
  | _ => none }
def FnExactBestTimesWrongFalsely : Prop := fnExactBestTimesRow.holds Try.pinned (OpenSpec.ofChange fnExactBestTimesWrong)

/- THE SECOND FORM. 'bulk': how many values and letters a reading holds, each counted each time it is reached (what is shared counts as often as it is met; a slice's spare places count too). A statement '..UptoSaid' is the law's where the arguments, and the package variables that the reading takes, are together of bulk at most 1048576: NARROWER than '..Said'. Prove '..Said' where nothing that the law and all that it calls make is longer than what came in: it says more and counts as full. Else prove '..UptoSaid'. A law counts once. -/
mutual
def uptoBulk {H : Type} : DataW H → Nat
  | .lit (.string bytes) => bytes.length + 1
  | .lit _ => 1
  | .nil => 1
  | .ptr d => uptoBulk d + 1
  | .slice elems spare => uptoBulkAll elems + uptoBulkAll spare + 1
  | .agg parts => uptoBulkAll parts + 1
  | .iface _ d => uptoBulk d + 1
  | .map entries => uptoBulkEntries entries + 1
  | .held _ => 1
def uptoBulkAll {H : Type} : List (DataW H) → Nat
  | [] => 0
  | d :: r => uptoBulk d + uptoBulkAll r
def uptoBulkEntries {H : Type} : List (Lit × DataW H) → Nat
  | [] => 0
  | x :: r => uptoBulkEntry x + uptoBulkEntries r
def uptoBulkEntry {H : Type} : Lit × DataW H → Nat
  | (.string bytes, d) => bytes.length + uptoBulk d + 1
  | (_, d) => uptoBulk d + 1
 end
def uptoSmall : (H : Type) → List (DataW H) → Bool := fun _ ds => decide (uptoBulkAll ds ≤ 1048576)
def OpenSpec.upto (s : _root_.Go.ChangeSpec) : _root_.Go.OpenSpec := { _root_.Go.OpenSpec.ofChange s with cond := some uptoSmall }

/-- 'laws.FnExactSeriesOf', WHERE WHAT IT READS IS OF BULK AT MOST 1048576: true; the input reads as it did. -/
def fnExactSeriesOfUptoRow : OpenClaim := { program := "ytjhbpiboemajeaa", sum := "955b8a1e88869223e0a1a753ef033cb0ccb6be99110030de7a5546e2b4f31511", func := "loop.example/g00958/laws.FnExactSeriesOf", spec := "fnExactSeriesOf", apart := false, narrowed := true }
def FnExactSeriesOfUptoSaid : Prop := fnExactSeriesOfUptoRow.holds Try.pinned (OpenSpec.upto fnExactSeriesOfSpec)

/-- 'laws.FnExactAreOwned', WHERE WHAT IT READS IS OF BULK AT MOST 1048576: true; the input reads as it did. -/
def fnExactAreOwnedUptoRow : OpenClaim := { program := "ytjhbpiboemajeaa", sum := "955b8a1e88869223e0a1a753ef033cb0ccb6be99110030de7a5546e2b4f31511", func := "loop.example/g00958/laws.FnExactAreOwned", spec := "fnExactAreOwned", apart := false, narrowed := true }
def FnExactAreOwnedUptoSaid : Prop := fnExactAreOwnedUptoRow.holds Try.pinned (OpenSpec.upto fnExactAreOwnedSpec)

/-- 'laws.FnExactSeenAt', WHERE WHAT IT READS IS OF BULK AT MOST 1048576: true; the input reads as it did. -/
def fnExactSeenAtUptoRow : OpenClaim := { program := "ytjhbpiboemajeaa", sum := "955b8a1e88869223e0a1a753ef033cb0ccb6be99110030de7a5546e2b4f31511", func := "loop.example/g00958/laws.FnExactSeenAt", spec := "fnExactSeenAt", apart := false, narrowed := true }
def FnExactSeenAtUptoSaid : Prop := fnExactSeenAtUptoRow.holds Try.pinned (OpenSpec.upto fnExactSeenAtSpec)

/-- 'laws.FnExactBestRelay', WHERE WHAT IT READS IS OF BULK AT MOST 1048576: true; the input reads as it did. -/
def fnExactBestRelayUptoRow : OpenClaim := { program := "ytjhbpiboemajeaa", sum := "955b8a1e88869223e0a1a753ef033cb0ccb6be99110030de7a5546e2b4f31511", func := "loop.example/g00958/laws.FnExactBestRelay", spec := "fnExactBestRelay", apart := false, narrowed := true }
def FnExactBestRelayUptoSaid : Prop := fnExactBestRelayUptoRow.holds Try.pinned (OpenSpec.upto fnExactBestRelaySpec)

/-- 'laws.FnExactWithoutOwners', WHERE WHAT IT READS IS OF BULK AT MOST 1048576: true; the input reads as it did. -/
def fnExactWithoutOwnersUptoRow : OpenClaim := { program := "ytjhbpiboemajeaa", sum := "955b8a1e88869223e0a1a753ef033cb0ccb6be99110030de7a5546e2b4f31511", func := "loop.example/g00958/laws.FnExactWithoutOwners", spec := "fnExactWithoutOwners", apart := false, narrowed := true }
def FnExactWithoutOwnersUptoSaid : Prop := fnExactWithoutOwnersUptoRow.holds Try.pinned (OpenSpec.upto fnExactWithoutOwnersSpec)

/-- 'laws.FnExactSumOfAll', WHERE WHAT IT READS IS OF BULK AT MOST 1048576: true; the input reads as it did. -/
def fnExactSumOfAllUptoRow : OpenClaim := { program := "ytjhbpiboemajeaa", sum := "955b8a1e88869223e0a1a753ef033cb0ccb6be99110030de7a5546e2b4f31511", func := "loop.example/g00958/laws.FnExactSumOfAll", spec := "fnExactSumOfAll", apart := false, narrowed := true }
def FnExactSumOfAllUptoSaid : Prop := fnExactSumOfAllUptoRow.holds Try.pinned (OpenSpec.upto fnExactSumOfAllSpec)

/-- 'laws.FnExactGoodOnes', WHERE WHAT IT READS IS OF BULK AT MOST 1048576: true; the input reads as it did. -/
def fnExactGoodOnesUptoRow : OpenClaim := { program := "ytjhbpiboemajeaa", sum := "955b8a1e88869223e0a1a753ef033cb0ccb6be99110030de7a5546e2b4f31511", func := "loop.example/g00958/laws.FnExactGoodOnes", spec := "fnExactGoodOnes", apart := false, narrowed := true }
def FnExactGoodOnesUptoSaid : Prop := fnExactGoodOnesUptoRow.holds Try.pinned (OpenSpec.upto fnExactGoodOnesSpec)

/-- 'laws.FnSeen', WHERE WHAT IT READS IS OF BULK AT MOST 1048576: true; the input reads as it did. -/
def fnSeenUptoRow : OpenClaim := { program := "ytjhbpiboemajeaa", sum := "955b8a1e88869223e0a1a753ef033cb0ccb6be99110030de7a5546e2b4f31511", func := "loop.example/g00958/laws.FnSeen", spec := "fnSeen", apart := false, narrowed := true }
def FnSeenUptoSaid : Prop := fnSeenUptoRow.holds Try.pinned (OpenSpec.upto fnSeenSpec)

/-- 'laws.FnExactGain', WHERE WHAT IT READS IS OF BULK AT MOST 1048576: true; the input reads as it did. -/
def fnExactGainUptoRow : OpenClaim := { program := "ytjhbpiboemajeaa", sum := "955b8a1e88869223e0a1a753ef033cb0ccb6be99110030de7a5546e2b4f31511", func := "loop.example/g00958/laws.FnExactGain", spec := "fnExactGain", apart := false, narrowed := true }
def FnExactGainUptoSaid : Prop := fnExactGainUptoRow.holds Try.pinned (OpenSpec.upto fnExactGainSpec)

/-- 'laws.FnOverlays', WHERE WHAT IT READS IS OF BULK AT MOST 1048576: true; the input reads as it did. -/
def fnOverlaysUptoRow : OpenClaim := { program := "ytjhbpiboemajeaa", sum := "955b8a1e88869223e0a1a753ef033cb0ccb6be99110030de7a5546e2b4f31511", func := "loop.example/g00958/laws.FnOverlays", spec := "fnOverlays", apart := false, narrowed := true }
def FnOverlaysUptoSaid : Prop := fnOverlaysUptoRow.holds Try.pinned (OpenSpec.upto fnOverlaysSpec)

/-- 'laws.FnSecrets', WHERE WHAT IT READS IS OF BULK AT MOST 1048576: true; the input reads as it did. -/
def fnSecretsUptoRow : OpenClaim := { program := "ytjhbpiboemajeaa", sum := "955b8a1e88869223e0a1a753ef033cb0ccb6be99110030de7a5546e2b4f31511", func := "loop.example/g00958/laws.FnSecrets", spec := "fnSecrets", apart := false, narrowed := true }
def FnSecretsUptoSaid : Prop := fnSecretsUptoRow.holds Try.pinned (OpenSpec.upto fnSecretsSpec)

/-- 'laws.FnExactBestTimes', WHERE WHAT IT READS IS OF BULK AT MOST 1048576: true; the input reads as it did. -/
def fnExactBestTimesUptoRow : OpenClaim := { program := "ytjhbpiboemajeaa", sum := "955b8a1e88869223e0a1a753ef033cb0ccb6be99110030de7a5546e2b4f31511", func := "loop.example/g00958/laws.FnExactBestTimes", spec := "fnExactBestTimes", apart := false, narrowed := true }
def FnExactBestTimesUptoSaid : Prop := fnExactBestTimesUptoRow.holds Try.pinned (OpenSpec.upto fnExactBestTimesSpec)

end Rows
end Go.Proofs.Ytjhbpiboemajeaa
