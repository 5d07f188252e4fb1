/-
  No cell of these rows narrows 'for every input' (looked for: loops, veiled, ifaces, maps, wideKeys, modest, calm, conditions, laid).
  DERIVED. THE GIVEN ROWS OF THIS SEAT. 12 by the template 'for every input the law returns true; each argument reads behind the call as it read before'; 0 by the template 'total and deterministic' (their statements: YtdhdjlngelcgbaaTotals.lean).
  GIVEN WITH THE SEED: the statements are not yours to turn. If you find one false, say at which input.
  Laid BY PROGRAM, IN A SANDBOX (cutbox-rows.mjs): the forced cells as the released guide's own fill.sh prints them over the translation 70eb09589c665ea7… (all of the seat's roots in one cut). By AI agents, Wed Nov 11 2026. No macro, syntax, notation, axiom, sorry.
-/
import Derived.Test.YtdhdjlngelcgbaaChecked
import GoSem.Claim
import GoSem.ClaimJoined
import GoSem.ClaimMapViews
import Derived.JoinedTies
import Derived.KernelRfl
namespace Go.Proofs.Ytdhdjlngelcgbaa
/- THE CELL 'sum', in the pinned program and in every row, IS THE sha256 OF THE DUMP (.gsa) THAT YtdhdjlngelcgbaaProg.lean LOADS. Nothing in Lean hashes anything: it is a label: what it is worth is what the hold of that sum in a sandbox is worth. -/
noncomputable def Try.pinned : Pinned := { name := "ytdhdjlngelcgbaa", sum := "70eb09589c665ea7292547610ced84e3036e8da6a24c3ff774037a2df0ca9600", checked := Try.checked }
namespace Rows
def none {H : Type} : Left H := { results := [], args := [] }

/-- 'laws.FnExactTrialName': WHATEVER THE INPUT: true; the input reads as it did. -/
def fnExactTrialNameSpec : ChangeSpec := { name := "fnExactTrialName", fn := fun _ => fun
  | [d] => { results := [.lit (.bool true)], args := [d] }
  | _ => none }
def fnExactTrialNameRow : OpenClaim := { program := "ytdhdjlngelcgbaa", sum := "70eb09589c665ea7292547610ced84e3036e8da6a24c3ff774037a2df0ca9600", func := "loop.example/g00958/laws.FnExactTrialName", spec := "fnExactTrialName", apart := false }
def FnExactTrialNameSaid : Prop := fnExactTrialNameRow.holds Try.pinned (OpenSpec.ofChange fnExactTrialNameSpec)

/-- ITS FALSE NEIGHBOUR: 'it returns false'. Refute it at one input. -/
def fnExactTrialNameWrong : ChangeSpec := { name := "fnExactTrialName", fn := fun _ => fun
  | [d] => { results := [.lit (.bool false)], args := [d] }
  | _ => none }
def FnExactTrialNameWrongFalsely : Prop := fnExactTrialNameRow.holds Try.pinned (OpenSpec.ofChange fnExactTrialNameWrong)

/-- 'laws.FnExactJoinShares': WHATEVER THE INPUT: true; the input reads as it did. -/
def fnExactJoinSharesSpec : ChangeSpec := { name := "fnExactJoinShares", fn := fun _ => fun
  | [d] => { results := [.lit (.bool true)], args := [d] }
  | _ => none }
def fnExactJoinSharesRow : OpenClaim := { program := "ytdhdjlngelcgbaa", sum := "70eb09589c665ea7292547610ced84e3036e8da6a24c3ff774037a2df0ca9600", func := "loop.example/g00958/laws.FnExactJoinShares", spec := "fnExactJoinShares", apart := false }
def FnExactJoinSharesSaid : Prop := fnExactJoinSharesRow.holds Try.pinned (OpenSpec.ofChange fnExactJoinSharesSpec)

/-- ITS FALSE NEIGHBOUR: 'it returns false'. Refute it at one input. -/
def fnExactJoinSharesWrong : ChangeSpec := { name := "fnExactJoinShares", fn := fun _ => fun
  | [d] => { results := [.lit (.bool false)], args := [d] }
  | _ => none }
def FnExactJoinSharesWrongFalsely : Prop := fnExactJoinSharesRow.holds Try.pinned (OpenSpec.ofChange fnExactJoinSharesWrong)

/-- 'laws.FnExactLatestOf': WHATEVER THE INPUT: true; the input reads as it did. -/
def fnExactLatestOfSpec : ChangeSpec := { name := "fnExactLatestOf", fn := fun _ => fun
  | [d1, d2, d3] => { results := [.lit (.bool true)], args := [d1, d2, d3] }
  | _ => none }
def fnExactLatestOfRow : OpenClaim := { program := "ytdhdjlngelcgbaa", sum := "70eb09589c665ea7292547610ced84e3036e8da6a24c3ff774037a2df0ca9600", func := "loop.example/g00958/laws.FnExactLatestOf", spec := "fnExactLatestOf", apart := false }
def FnExactLatestOfSaid : Prop := fnExactLatestOfRow.holds Try.pinned (OpenSpec.ofChange fnExactLatestOfSpec)

/-- ITS FALSE NEIGHBOUR: 'it returns false'. Refute it at one input. -/
def fnExactLatestOfWrong : ChangeSpec := { name := "fnExactLatestOf", fn := fun _ => fun
  | [d1, d2, d3] => { results := [.lit (.bool false)], args := [d1, d2, d3] }
  | _ => none }
def FnExactLatestOfWrongFalsely : Prop := fnExactLatestOfRow.holds Try.pinned (OpenSpec.ofChange fnExactLatestOfWrong)

/-- 'laws.FnExactCountSecrets': WHATEVER THE INPUT: true; the input reads as it did. -/
def fnExactCountSecretsSpec : ChangeSpec := { name := "fnExactCountSecrets", fn := fun _ => fun
  | [d1, d2] => { results := [.lit (.bool true)], args := [d1, d2] }
  | _ => none }
def fnExactCountSecretsRow : OpenClaim := { program := "ytdhdjlngelcgbaa", sum := "70eb09589c665ea7292547610ced84e3036e8da6a24c3ff774037a2df0ca9600", func := "loop.example/g00958/laws.FnExactCountSecrets", spec := "fnExactCountSecrets", apart := false }
def FnExactCountSecretsSaid : Prop := fnExactCountSecretsRow.holds Try.pinned (OpenSpec.ofChange fnExactCountSecretsSpec)

/-- ITS FALSE NEIGHBOUR: 'it returns false'. Refute it at one input. -/
def fnExactCountSecretsWrong : ChangeSpec := { name := "fnExactCountSecrets", fn := fun _ => fun
  | [d1, d2] => { results := [.lit (.bool false)], args := [d1, d2] }
  | _ => none }
def FnExactCountSecretsWrongFalsely : Prop := fnExactCountSecretsRow.holds Try.pinned (OpenSpec.ofChange fnExactCountSecretsWrong)

/-- 'laws.FnExactAreSeen': WHATEVER THE INPUT: true; the input reads as it did. -/
def fnExactAreSeenSpec : ChangeSpec := { name := "fnExactAreSeen", fn := fun _ => fun
  | [d1, d2, d3] => { results := [.lit (.bool true)], args := [d1, d2, d3] }
  | _ => none }
def fnExactAreSeenRow : OpenClaim := { program := "ytdhdjlngelcgbaa", sum := "70eb09589c665ea7292547610ced84e3036e8da6a24c3ff774037a2df0ca9600", func := "loop.example/g00958/laws.FnExactAreSeen", spec := "fnExactAreSeen", apart := false }
def FnExactAreSeenSaid : Prop := fnExactAreSeenRow.holds Try.pinned (OpenSpec.ofChange fnExactAreSeenSpec)

/-- ITS FALSE NEIGHBOUR: 'it returns false'. Refute it at one input. -/
def fnExactAreSeenWrong : ChangeSpec := { name := "fnExactAreSeen", fn := fun _ => fun
  | [d1, d2, d3] => { results := [.lit (.bool false)], args := [d1, d2, d3] }
  | _ => none }
def FnExactAreSeenWrongFalsely : Prop := fnExactAreSeenRow.holds Try.pinned (OpenSpec.ofChange fnExactAreSeenWrong)

/-- 'laws.FnExactExampleNet': WHATEVER THE INPUT: true; the input reads as it did. -/
def fnExactExampleNetSpec : ChangeSpec := { name := "fnExactExampleNet", fn := fun _ => fun
  | [d] => { results := [.lit (.bool true)], args := [d] }
  | _ => none }
def fnExactExampleNetRow : OpenClaim := { program := "ytdhdjlngelcgbaa", sum := "70eb09589c665ea7292547610ced84e3036e8da6a24c3ff774037a2df0ca9600", func := "loop.example/g00958/laws.FnExactExampleNet", spec := "fnExactExampleNet", apart := false }
def FnExactExampleNetSaid : Prop := fnExactExampleNetRow.holds Try.pinned (OpenSpec.ofChange fnExactExampleNetSpec)

/-- ITS FALSE NEIGHBOUR: 'it returns false'. Refute it at one input. -/
def fnExactExampleNetWrong : ChangeSpec := { name := "fnExactExampleNet", fn := fun _ => fun
  | [d] => { results := [.lit (.bool false)], args := [d] }
  | _ => none }
def FnExactExampleNetWrongFalsely : Prop := fnExactExampleNetRow.holds Try.pinned (OpenSpec.ofChange fnExactExampleNetWrong)

/-- 'laws.FnExactSharesOf': WHATEVER THE INPUT: true; the input reads as it did. -/
def fnExactSharesOfSpec : ChangeSpec := { name := "fnExactSharesOf", fn := fun _ => fun
  | [d1, d2] => { results := [.lit (.bool true)], args := [d1, d2] }
  | _ => none }
def fnExactSharesOfRow : OpenClaim := { program := "ytdhdjlngelcgbaa", sum := "70eb09589c665ea7292547610ced84e3036e8da6a24c3ff774037a2df0ca9600", func := "loop.example/g00958/laws.FnExactSharesOf", spec := "fnExactSharesOf", apart := false }
def FnExactSharesOfSaid : Prop := fnExactSharesOfRow.holds Try.pinned (OpenSpec.ofChange fnExactSharesOfSpec)

/-- ITS FALSE NEIGHBOUR: 'it returns false'. Refute it at one input. -/
def fnExactSharesOfWrong : ChangeSpec := { name := "fnExactSharesOf", fn := fun _ => fun
  | [d1, d2] => { results := [.lit (.bool false)], args := [d1, d2] }
  | _ => none }
def FnExactSharesOfWrongFalsely : Prop := fnExactSharesOfRow.holds Try.pinned (OpenSpec.ofChange fnExactSharesOfWrong)

/-- 'laws.FnExactIsTimes': WHATEVER THE INPUT: true; the input reads as it did. -/
def fnExactIsTimesSpec : ChangeSpec := { name := "fnExactIsTimes", fn := fun _ => fun
  | [d] => { results := [.lit (.bool true)], args := [d] }
  | _ => none }
def fnExactIsTimesRow : OpenClaim := { program := "ytdhdjlngelcgbaa", sum := "70eb09589c665ea7292547610ced84e3036e8da6a24c3ff774037a2df0ca9600", func := "loop.example/g00958/laws.FnExactIsTimes", spec := "fnExactIsTimes", apart := false }
def FnExactIsTimesSaid : Prop := fnExactIsTimesRow.holds Try.pinned (OpenSpec.ofChange fnExactIsTimesSpec)

/-- ITS FALSE NEIGHBOUR: 'it returns false'. Refute it at one input. -/
def fnExactIsTimesWrong : ChangeSpec := { name := "fnExactIsTimes", fn := fun _ => fun
  | [d] => { results := [.lit (.bool false)], args := [d] }
  | _ => none }
def FnExactIsTimesWrongFalsely : Prop := fnExactIsTimesRow.holds Try.pinned (OpenSpec.ofChange fnExactIsTimesWrong)

/-- 'laws.FnExactAddShares': WHATEVER THE INPUT: true; the input reads as it did. -/
def fnExactAddSharesSpec : ChangeSpec := { name := "fnExactAddShares", fn := fun _ => fun
  | [d1, d2] => { results := [.lit (.bool true)], args := [d1, d2] }
  | _ => none }
def fnExactAddSharesRow : OpenClaim := { program := "ytdhdjlngelcgbaa", sum := "70eb09589c665ea7292547610ced84e3036e8da6a24c3ff774037a2df0ca9600", func := "loop.example/g00958/laws.FnExactAddShares", spec := "fnExactAddShares", apart := false }
def FnExactAddSharesSaid : Prop := fnExactAddSharesRow.holds Try.pinned (OpenSpec.ofChange fnExactAddSharesSpec)

/-- ITS FALSE NEIGHBOUR: 'it returns false'. Refute it at one input. -/
def fnExactAddSharesWrong : ChangeSpec := { name := "fnExactAddShares", fn := fun _ => fun
  | [d1, d2] => { results := [.lit (.bool false)], args := [d1, d2] }
  | _ => none }
def FnExactAddSharesWrongFalsely : Prop := fnExactAddSharesRow.holds Try.pinned (OpenSpec.ofChange fnExactAddSharesWrong)

/-- 'laws.FnExactTimeOver': WHATEVER THE INPUT: true; the input reads as it did. -/
def fnExactTimeOverSpec : ChangeSpec := { name := "fnExactTimeOver", fn := fun _ => fun
  | [d1, d2, d3, d4] => { results := [.lit (.bool true)], args := [d1, d2, d3, d4] }
  | _ => none }
def fnExactTimeOverRow : OpenClaim := { program := "ytdhdjlngelcgbaa", sum := "70eb09589c665ea7292547610ced84e3036e8da6a24c3ff774037a2df0ca9600", func := "loop.example/g00958/laws.FnExactTimeOver", spec := "fnExactTimeOver", apart := false }
def FnExactTimeOverSaid : Prop := fnExactTimeOverRow.holds Try.pinned (OpenSpec.ofChange fnExactTimeOverSpec)

/-- ITS FALSE NEIGHBOUR: 'it returns false'. Refute it at one input. -/
def fnExactTimeOverWrong : ChangeSpec := { name := "fnExactTimeOver", fn := fun _ => fun
  | [d1, d2, d3, d4] => { results := [.lit (.bool false)], args := [d1, d2, d3, d4] }
  | _ => none }
def FnExactTimeOverWrongFalsely : Prop := fnExactTimeOverRow.holds Try.pinned (OpenSpec.ofChange fnExactTimeOverWrong)

/-- 'laws.FnExactHideAs': WHATEVER THE INPUT: true; the input reads as it did. -/
def fnExactHideAsSpec : ChangeSpec := { name := "fnExactHideAs", fn := fun _ => fun
  | [d1, d2, d3] => { results := [.lit (.bool true)], args := [d1, d2, d3] }
  | _ => none }
def fnExactHideAsRow : OpenClaim := { program := "ytdhdjlngelcgbaa", sum := "70eb09589c665ea7292547610ced84e3036e8da6a24c3ff774037a2df0ca9600", func := "loop.example/g00958/laws.FnExactHideAs", spec := "fnExactHideAs", apart := false }
def FnExactHideAsSaid : Prop := fnExactHideAsRow.holds Try.pinned (OpenSpec.ofChange fnExactHideAsSpec)

/-- ITS FALSE NEIGHBOUR: 'it returns false'. Refute it at one input. -/
def fnExactHideAsWrong : ChangeSpec := { name := "fnExactHideAs", fn := fun _ => fun
  | [d1, d2, d3] => { results := [.lit (.bool false)], args := [d1, d2, d3] }
  | _ => none }
def FnExactHideAsWrongFalsely : Prop := fnExactHideAsRow.holds Try.pinned (OpenSpec.ofChange fnExactHideAsWrong)

/-- 'laws.FnExactForgetSeen': WHATEVER THE INPUT: true; the input reads as it did. -/
def fnExactForgetSeenSpec : ChangeSpec := { name := "fnExactForgetSeen", fn := fun _ => fun
  | [d1, d2] => { results := [.lit (.bool true)], args := [d1, d2] }
  | _ => none }
def fnExactForgetSeenRow : OpenClaim := { program := "ytdhdjlngelcgbaa", sum := "70eb09589c665ea7292547610ced84e3036e8da6a24c3ff774037a2df0ca9600", func := "loop.example/g00958/laws.FnExactForgetSeen", spec := "fnExactForgetSeen", apart := false }
def FnExactForgetSeenSaid : Prop := fnExactForgetSeenRow.holds Try.pinned (OpenSpec.ofChange fnExactForgetSeenSpec)

/-- ITS FALSE NEIGHBOUR: 'it returns false'. Refute it at one input. -/
def fnExactForgetSeenWrong : ChangeSpec := { name := "fnExactForgetSeen", fn := fun _ => fun
  | [d1, d2] => { results := [.lit (.bool false)], args := [d1, d2] }
  | _ => none }
def FnExactForgetSeenWrongFalsely : Prop := fnExactForgetSeenRow.holds Try.pinned (OpenSpec.ofChange fnExactForgetSeenWrong)

/- THE SECOND FORM. 'bulk': how many values and letters a reading holds, each counted each time it is reached (what is shared counts as often as it is met; a slice's spare places count too). A statement '..UptoSaid' is the law's where the arguments, and the package variables that the reading takes, are together of bulk at most 1048576: NARROWER than '..Said'. Prove '..Said' where nothing that the law and all that it calls make is longer than what came in: it says more and counts as full. Else prove '..UptoSaid'. A law counts once. -/
mutual
def uptoBulk {H : Type} : DataW H → Nat
  | .lit (.string bytes) => bytes.length + 1
  | .lit _ => 1
  | .nil => 1
  | .ptr d => uptoBulk d + 1
  | .slice elems spare => uptoBulkAll elems + uptoBulkAll spare + 1
  | .agg parts => uptoBulkAll parts + 1
  | .iface _ d => uptoBulk d + 1
  | .map entries => uptoBulkEntries entries + 1
  | .held _ => 1
def uptoBulkAll {H : Type} : List (DataW H) → Nat
  | [] => 0
  | d :: r => uptoBulk d + uptoBulkAll r
def uptoBulkEntries {H : Type} : List (Lit × DataW H) → Nat
  | [] => 0
  | x :: r => uptoBulkEntry x + uptoBulkEntries r
def uptoBulkEntry {H : Type} : Lit × DataW H → Nat
  | (.string bytes, d) => bytes.length + uptoBulk d + 1
  | (_, d) => uptoBulk d + 1
 end
def uptoSmall : (H : Type) → List (DataW H) → Bool := fun _ ds => decide (uptoBulkAll ds ≤ 1048576)
def OpenSpec.upto (s : _root_.Go.ChangeSpec) : _root_.Go.OpenSpec := { _root_.Go.OpenSpec.ofChange s with cond := some uptoSmall }

/-- 'laws.FnExactTrialName', WHERE WHAT IT READS IS OF BULK AT MOST 1048576: true; the input reads as it did. -/
def fnExactTrialNameUptoRow : OpenClaim := { program := "ytdhdjlngelcgbaa", sum := "70eb09589c665ea7292547610ced84e3036e8da6a24c3ff774037a2df0ca9600", func := "loop.example/g00958/laws.FnExactTrialName", spec := "fnExactTrialName", apart := false, narrowed := true }
def FnExactTrialNameUptoSaid : Prop := fnExactTrialNameUptoRow.holds Try.pinned (OpenSpec.upto fnExactTrialNameSpec)

/-- 'laws.FnExactJoinShares', WHERE WHAT IT READS IS OF BULK AT MOST 1048576: true; the input reads as it did. -/
def fnExactJoinSharesUptoRow : OpenClaim := { program := "ytdhdjlngelcgbaa", sum := "70eb09589c665ea7292547610ced84e3036e8da6a24c3ff774037a2df0ca9600", func := "loop.example/g00958/laws.FnExactJoinShares", spec := "fnExactJoinShares", apart := false, narrowed := true }
def FnExactJoinSharesUptoSaid : Prop := fnExactJoinSharesUptoRow.holds Try.pinned (OpenSpec.upto fnExactJoinSharesSpec)

/-- 'laws.FnExactLatestOf', WHERE WHAT IT READS IS OF BULK AT MOST 1048576: true; the input reads as it did. -/
def fnExactLatestOfUptoRow : OpenClaim := { program := "ytdhdjlngelcgbaa", sum := "70eb09589c665ea7292547610ced84e3036e8da6a24c3ff774037a2df0ca9600", func := "loop.example/g00958/laws.FnExactLatestOf", spec := "fnExactLatestOf", apart := false, narrowed := true }
def FnExactLatestOfUptoSaid : Prop := fnExactLatestOfUptoRow.holds Try.pinned (OpenSpec.upto fnExactLatestOfSpec)

/-- 'laws.FnExactCountSecrets', WHERE WHAT IT READS IS OF BULK AT MOST 1048576: true; the input reads as it did. -/
def fnExactCountSecretsUptoRow : OpenClaim := { program := "ytdhdjlngelcgbaa", sum := "70eb09589c665ea7292547610ced84e3036e8da6a24c3ff774037a2df0ca9600", func := "loop.example/g00958/laws.FnExactCountSecrets", spec := "fnExactCountSecrets", apart := false, narrowed := true }
def FnExactCountSecretsUptoSaid : Prop := fnExactCountSecretsUptoRow.holds Try.pinned (OpenSpec.upto fnExactCountSecretsSpec)

/-- 'laws.FnExactAreSeen', WHERE WHAT IT READS IS OF BULK AT MOST 1048576: true; the input reads as it did. -/
def fnExactAreSeenUptoRow : OpenClaim := { program := "ytdhdjlngelcgbaa", sum := "70eb09589c665ea7292547610ced84e3036e8da6a24c3ff774037a2df0ca9600", func := "loop.example/g00958/laws.FnExactAreSeen", spec := "fnExactAreSeen", apart := false, narrowed := true }
def FnExactAreSeenUptoSaid : Prop := fnExactAreSeenUptoRow.holds Try.pinned (OpenSpec.upto fnExactAreSeenSpec)

/-- 'laws.FnExactExampleNet', WHERE WHAT IT READS IS OF BULK AT MOST 1048576: true; the input reads as it did. -/
def fnExactExampleNetUptoRow : OpenClaim := { program := "ytdhdjlngelcgbaa", sum := "70eb09589c665ea7292547610ced84e3036e8da6a24c3ff774037a2df0ca9600", func := "loop.example/g00958/laws.FnExactExampleNet", spec := "fnExactExampleNet", apart := false, narrowed := true }
def FnExactExampleNetUptoSaid : Prop := fnExactExampleNetUptoRow.holds Try.pinned (OpenSpec.upto fnExactExampleNetSpec)

/-- 'laws.FnExactSharesOf', WHERE WHAT IT READS IS OF BULK AT MOST 1048576: true; the input reads as it did. -/
def fnExactSharesOfUptoRow : OpenClaim := { program := "ytdhdjlngelcgbaa", sum := "70eb09589c665ea7292547610ced84e3036e8da6a24c3ff774037a2df0ca9600", func := "loop.example/g00958/laws.FnExactSharesOf", spec := "fnExactSharesOf", apart := false, narrowed := true }
def FnExactSharesOfUptoSaid : Prop := fnExactSharesOfUptoRow.holds Try.pinned (OpenSpec.upto fnExactSharesOfSpec)

/-- 'laws.FnExactIsTimes', WHERE WHAT IT READS IS OF BULK AT MOST 1048576: true; the input reads as it did. -/
def fnExactIsTimesUptoRow : OpenClaim := { program := "ytdhdjlngelcgbaa", sum := "70eb09589c665ea7292547610ced84e3036e8da6a24c3ff774037a2df0ca9600", func := "loop.example/g00958/laws.FnExactIsTimes", spec := "fnExactIsTimes", apart := false, narrowed := true }
def FnExactIsTimesUptoSaid : Prop := fnExactIsTimesUptoRow.holds Try.pinned (OpenSpec.upto fnExactIsTimesSpec)

/-- 'laws.FnExactAddShares', WHERE WHAT IT READS IS OF BULK AT MOST 1048576: true; the input reads as it did. -/
def fnExactAddSharesUptoRow : OpenClaim := { program := "ytdhdjlngelcgbaa", sum := "70eb09589c665ea7292547610ced84e3036e8da6a24c3ff774037a2df0ca9600", func := "loop.example/g00958/laws.FnExactAddShares", spec := "fnExactAddShares", apart := false, narrowed := true }
def FnExactAddSharesUptoSaid : Prop := fnExactAddSharesUptoRow.holds Try.pinned (OpenSpec.upto fnExactAddSharesSpec)

/-- 'laws.FnExactTimeOver', WHERE WHAT IT READS IS OF BULK AT MOST 1048576: true; the input reads as it did. -/
def fnExactTimeOverUptoRow : OpenClaim := { program := "ytdhdjlngelcgbaa", sum := "70eb09589c665ea7292547610ced84e3036e8da6a24c3ff774037a2df0ca9600", func := "loop.example/g00958/laws.FnExactTimeOver", spec := "fnExactTimeOver", apart := false, narrowed := true }
def FnExactTimeOverUptoSaid : Prop := fnExactTimeOverUptoRow.holds Try.pinned (OpenSpec.upto fnExactTimeOverSpec)

/-- 'laws.FnExactHideAs', WHERE WHAT IT READS IS OF BULK AT MOST 1048576: true; the input reads as it did. -/
def fnExactHideAsUptoRow : OpenClaim := { program := "ytdhdjlngelcgbaa", sum := "70eb09589c665ea7292547610ced84e3036e8da6a24c3ff774037a2df0ca9600", func := "loop.example/g00958/laws.FnExactHideAs", spec := "fnExactHideAs", apart := false, narrowed := true }
def FnExactHideAsUptoSaid : Prop := fnExactHideAsUptoRow.holds Try.pinned (OpenSpec.upto fnExactHideAsSpec)

/-- 'laws.FnExactForgetSeen', WHERE WHAT IT READS IS OF BULK AT MOST 1048576: true; the input reads as it did. -/
def fnExactForgetSeenUptoRow : OpenClaim := { program := "ytdhdjlngelcgbaa", sum := "70eb09589c665ea7292547610ced84e3036e8da6a24c3ff774037a2df0ca9600", func := "loop.example/g00958/laws.FnExactForgetSeen", spec := "fnExactForgetSeen", apart := false, narrowed := true }
def FnExactForgetSeenUptoSaid : Prop := fnExactForgetSeenUptoRow.holds Try.pinned (OpenSpec.upto fnExactForgetSeenSpec)

end Rows
end Go.Proofs.Ytdhdjlngelcgbaa
