/-
  No cell of these rows narrows 'for every input' (looked for: loops, veiled, ifaces, maps, wideKeys, modest, calm, conditions, laid).
  DERIVED. THE GIVEN ROWS OF THIS SEAT. 9 by the template 'for every input the law returns true; each argument reads behind the call as it read before'; 0 by the template 'total and deterministic' (their statements: YtiipcophnnfnoaaTotals.lean).
  GIVEN WITH THE SEED: the statements are not yours to turn. If you find one false, say at which input.
  Laid BY PROGRAM, IN A SANDBOX (cutbox-rows.mjs): the forced cells as the released guide's own fill.sh prints them over the translation 0753b1e030e5bf3f… (all of the seat's roots in one cut). By AI agents, Wed Nov 11 2026. No macro, syntax, notation, axiom, sorry.
-/
import Derived.Test.YtiipcophnnfnoaaChecked
import GoSem.Claim
import GoSem.ClaimJoined
import GoSem.ClaimMapViews
import Derived.JoinedTies
import Derived.KernelRfl
namespace Go.Proofs.Ytiipcophnnfnoaa
/- THE CELL 'sum', in the pinned program and in every row, IS THE sha256 OF THE DUMP (.gsa) THAT YtiipcophnnfnoaaProg.lean LOADS. Nothing in Lean hashes anything: it is a label: what it is worth is what the hold of that sum in a sandbox is worth. -/
noncomputable def Try.pinned : Pinned := { name := "ytiipcophnnfnoaa", sum := "0753b1e030e5bf3f2e722ba94ea67edd60a3732c82048661a5d4ed7f70c9d640", checked := Try.checked }
namespace Rows
def none {H : Type} : Left H := { results := [], args := [] }

/-- 'laws.FnExactWorldMatrix': WHATEVER THE INPUT: true; the input reads as it did. -/
def fnExactWorldMatrixSpec : ChangeSpec := { name := "fnExactWorldMatrix", fn := fun _ => fun
  | [d] => { results := [.lit (.bool true)], args := [d] }
  | _ => none }
def fnExactWorldMatrixRow : OpenClaim := { program := "ytiipcophnnfnoaa", sum := "0753b1e030e5bf3f2e722ba94ea67edd60a3732c82048661a5d4ed7f70c9d640", func := "loop.example/g00958/laws.FnExactWorldMatrix", spec := "fnExactWorldMatrix", apart := false }
def FnExactWorldMatrixSaid : Prop := fnExactWorldMatrixRow.holds Try.pinned (OpenSpec.ofChange fnExactWorldMatrixSpec)

/-- ITS FALSE NEIGHBOUR: 'it returns false'. Refute it at one input. -/
def fnExactWorldMatrixWrong : ChangeSpec := { name := "fnExactWorldMatrix", fn := fun _ => fun
  | [d] => { results := [.lit (.bool false)], args := [d] }
  | _ => none }
def FnExactWorldMatrixWrongFalsely : Prop := fnExactWorldMatrixRow.holds Try.pinned (OpenSpec.ofChange fnExactWorldMatrixWrong)

/-- 'laws.FnExactRowsOf': WHATEVER THE INPUT: true; the input reads as it did. -/
def fnExactRowsOfSpec : ChangeSpec := { name := "fnExactRowsOf", fn := fun _ => fun
  | [d] => { results := [.lit (.bool true)], args := [d] }
  | _ => none }
def fnExactRowsOfRow : OpenClaim := { program := "ytiipcophnnfnoaa", sum := "0753b1e030e5bf3f2e722ba94ea67edd60a3732c82048661a5d4ed7f70c9d640", func := "loop.example/g00958/laws.FnExactRowsOf", spec := "fnExactRowsOf", apart := false }
def FnExactRowsOfSaid : Prop := fnExactRowsOfRow.holds Try.pinned (OpenSpec.ofChange fnExactRowsOfSpec)

/-- ITS FALSE NEIGHBOUR: 'it returns false'. Refute it at one input. -/
def fnExactRowsOfWrong : ChangeSpec := { name := "fnExactRowsOf", fn := fun _ => fun
  | [d] => { results := [.lit (.bool false)], args := [d] }
  | _ => none }
def FnExactRowsOfWrongFalsely : Prop := fnExactRowsOfRow.holds Try.pinned (OpenSpec.ofChange fnExactRowsOfWrong)

/-- 'laws.FnExactFewestLiars': WHATEVER THE INPUT: true; the input reads as it did. -/
def fnExactFewestLiarsSpec : ChangeSpec := { name := "fnExactFewestLiars", fn := fun _ => fun
  | [d1, d2, d3, d4] => { results := [.lit (.bool true)], args := [d1, d2, d3, d4] }
  | _ => none }
def fnExactFewestLiarsRow : OpenClaim := { program := "ytiipcophnnfnoaa", sum := "0753b1e030e5bf3f2e722ba94ea67edd60a3732c82048661a5d4ed7f70c9d640", func := "loop.example/g00958/laws.FnExactFewestLiars", spec := "fnExactFewestLiars", unfollowed := true, recurses := true, apart := false }
def FnExactFewestLiarsSaid : Prop := fnExactFewestLiarsRow.holds Try.pinned (OpenSpec.ofChange fnExactFewestLiarsSpec)

/-- ITS FALSE NEIGHBOUR: 'it returns false'. Refute it at one input. -/
def fnExactFewestLiarsWrong : ChangeSpec := { name := "fnExactFewestLiars", fn := fun _ => fun
  | [d1, d2, d3, d4] => { results := [.lit (.bool false)], args := [d1, d2, d3, d4] }
  | _ => none }
def FnExactFewestLiarsWrongFalsely : Prop := fnExactFewestLiarsRow.holds Try.pinned (OpenSpec.ofChange fnExactFewestLiarsWrong)

/-- 'laws.FnObserved': WHATEVER THE INPUT: true; the input reads as it did. -/
def fnObservedSpec : ChangeSpec := { name := "fnObserved", fn := fun _ => fun
  | [d] => { results := [.lit (.bool true)], args := [d] }
  | _ => none }
def fnObservedRow : OpenClaim := { program := "ytiipcophnnfnoaa", sum := "0753b1e030e5bf3f2e722ba94ea67edd60a3732c82048661a5d4ed7f70c9d640", func := "loop.example/g00958/laws.FnObserved", spec := "fnObserved", unfollowed := true, recurses := true, apart := false }
def FnObservedSaid : Prop := fnObservedRow.holds Try.pinned (OpenSpec.ofChange fnObservedSpec)

/-- ITS FALSE NEIGHBOUR: 'it returns false'. Refute it at one input. -/
def fnObservedWrong : ChangeSpec := { name := "fnObserved", fn := fun _ => fun
  | [d] => { results := [.lit (.bool false)], args := [d] }
  | _ => none }
def FnObservedWrongFalsely : Prop := fnObservedRow.holds Try.pinned (OpenSpec.ofChange fnObservedWrong)

/-- 'laws.FnLiars': WHATEVER THE INPUT: true; the input reads as it did. -/
def fnLiarsSpec : ChangeSpec := { name := "fnLiars", fn := fun _ => fun
  | [d] => { results := [.lit (.bool true)], args := [d] }
  | _ => none }
def fnLiarsRow : OpenClaim := { program := "ytiipcophnnfnoaa", sum := "0753b1e030e5bf3f2e722ba94ea67edd60a3732c82048661a5d4ed7f70c9d640", func := "loop.example/g00958/laws.FnLiars", spec := "fnLiars", unfollowed := true, recurses := true, apart := false }
def FnLiarsSaid : Prop := fnLiarsRow.holds Try.pinned (OpenSpec.ofChange fnLiarsSpec)

/-- ITS FALSE NEIGHBOUR: 'it returns false'. Refute it at one input. -/
def fnLiarsWrong : ChangeSpec := { name := "fnLiars", fn := fun _ => fun
  | [d] => { results := [.lit (.bool false)], args := [d] }
  | _ => none }
def FnLiarsWrongFalsely : Prop := fnLiarsRow.holds Try.pinned (OpenSpec.ofChange fnLiarsWrong)

/-- 'laws.FnExactSureLiars': WHATEVER THE INPUT: true; the input reads as it did. -/
def fnExactSureLiarsSpec : ChangeSpec := { name := "fnExactSureLiars", fn := fun _ => fun
  | [d1, d2, d3, d4] => { results := [.lit (.bool true)], args := [d1, d2, d3, d4] }
  | _ => none }
def fnExactSureLiarsRow : OpenClaim := { program := "ytiipcophnnfnoaa", sum := "0753b1e030e5bf3f2e722ba94ea67edd60a3732c82048661a5d4ed7f70c9d640", func := "loop.example/g00958/laws.FnExactSureLiars", spec := "fnExactSureLiars", unfollowed := true, recurses := true, apart := false }
def FnExactSureLiarsSaid : Prop := fnExactSureLiarsRow.holds Try.pinned (OpenSpec.ofChange fnExactSureLiarsSpec)

/-- ITS FALSE NEIGHBOUR: 'it returns false'. Refute it at one input. -/
def fnExactSureLiarsWrong : ChangeSpec := { name := "fnExactSureLiars", fn := fun _ => fun
  | [d1, d2, d3, d4] => { results := [.lit (.bool false)], args := [d1, d2, d3, d4] }
  | _ => none }
def FnExactSureLiarsWrongFalsely : Prop := fnExactSureLiarsRow.holds Try.pinned (OpenSpec.ofChange fnExactSureLiarsWrong)

/-- 'laws.FnExactIsWorld': WHATEVER THE INPUT: true; the input reads as it did. -/
def fnExactIsWorldSpec : ChangeSpec := { name := "fnExactIsWorld", fn := fun _ => fun
  | [d] => { results := [.lit (.bool true)], args := [d] }
  | _ => none }
def fnExactIsWorldRow : OpenClaim := { program := "ytiipcophnnfnoaa", sum := "0753b1e030e5bf3f2e722ba94ea67edd60a3732c82048661a5d4ed7f70c9d640", func := "loop.example/g00958/laws.FnExactIsWorld", spec := "fnExactIsWorld", unfollowed := true, recurses := true, apart := false }
def FnExactIsWorldSaid : Prop := fnExactIsWorldRow.holds Try.pinned (OpenSpec.ofChange fnExactIsWorldSpec)

/-- ITS FALSE NEIGHBOUR: 'it returns false'. Refute it at one input. -/
def fnExactIsWorldWrong : ChangeSpec := { name := "fnExactIsWorld", fn := fun _ => fun
  | [d] => { results := [.lit (.bool false)], args := [d] }
  | _ => none }
def FnExactIsWorldWrongFalsely : Prop := fnExactIsWorldRow.holds Try.pinned (OpenSpec.ofChange fnExactIsWorldWrong)

/-- 'laws.FnExactNewWorld': WHATEVER THE INPUT: true; the input reads as it did. -/
def fnExactNewWorldSpec : ChangeSpec := { name := "fnExactNewWorld", fn := fun _ => fun
  | [d1, d2, d3, d4] => { results := [.lit (.bool true)], args := [d1, d2, d3, d4] }
  | _ => none }
def fnExactNewWorldRow : OpenClaim := { program := "ytiipcophnnfnoaa", sum := "0753b1e030e5bf3f2e722ba94ea67edd60a3732c82048661a5d4ed7f70c9d640", func := "loop.example/g00958/laws.FnExactNewWorld", spec := "fnExactNewWorld", unfollowed := true, recurses := true, apart := false }
def FnExactNewWorldSaid : Prop := fnExactNewWorldRow.holds Try.pinned (OpenSpec.ofChange fnExactNewWorldSpec)

/-- ITS FALSE NEIGHBOUR: 'it returns false'. Refute it at one input. -/
def fnExactNewWorldWrong : ChangeSpec := { name := "fnExactNewWorld", fn := fun _ => fun
  | [d1, d2, d3, d4] => { results := [.lit (.bool false)], args := [d1, d2, d3, d4] }
  | _ => none }
def FnExactNewWorldWrongFalsely : Prop := fnExactNewWorldRow.holds Try.pinned (OpenSpec.ofChange fnExactNewWorldWrong)

/-- 'laws.FnWorlds': WHATEVER THE INPUT: true; the input reads as it did. -/
def fnWorldsSpec : ChangeSpec := { name := "fnWorlds", fn := fun _ => fun
  | [d] => { results := [.lit (.bool true)], args := [d] }
  | _ => none }
def fnWorldsRow : OpenClaim := { program := "ytiipcophnnfnoaa", sum := "0753b1e030e5bf3f2e722ba94ea67edd60a3732c82048661a5d4ed7f70c9d640", func := "loop.example/g00958/laws.FnWorlds", spec := "fnWorlds", unfollowed := true, recurses := true, apart := false }
def FnWorldsSaid : Prop := fnWorldsRow.holds Try.pinned (OpenSpec.ofChange fnWorldsSpec)

/-- ITS FALSE NEIGHBOUR: 'it returns false'. Refute it at one input. -/
def fnWorldsWrong : ChangeSpec := { name := "fnWorlds", fn := fun _ => fun
  | [d] => { results := [.lit (.bool false)], args := [d] }
  | _ => none }
def FnWorldsWrongFalsely : Prop := fnWorldsRow.holds Try.pinned (OpenSpec.ofChange fnWorldsWrong)

/- THE SECOND FORM. 'bulk': how many values and letters a reading holds, each counted each time it is reached (what is shared counts as often as it is met; a slice's spare places count too). A statement '..UptoSaid' is the law's where the arguments, and the package variables that the reading takes, are together of bulk at most 1048576: NARROWER than '..Said'. Prove '..Said' where nothing that the law and all that it calls make is longer than what came in: it says more and counts as full. Else prove '..UptoSaid'. A law counts once. -/
mutual
def uptoBulk {H : Type} : DataW H → Nat
  | .lit (.string bytes) => bytes.length + 1
  | .lit _ => 1
  | .nil => 1
  | .ptr d => uptoBulk d + 1
  | .slice elems spare => uptoBulkAll elems + uptoBulkAll spare + 1
  | .agg parts => uptoBulkAll parts + 1
  | .iface _ d => uptoBulk d + 1
  | .map entries => uptoBulkEntries entries + 1
  | .held _ => 1
def uptoBulkAll {H : Type} : List (DataW H) → Nat
  | [] => 0
  | d :: r => uptoBulk d + uptoBulkAll r
def uptoBulkEntries {H : Type} : List (Lit × DataW H) → Nat
  | [] => 0
  | x :: r => uptoBulkEntry x + uptoBulkEntries r
def uptoBulkEntry {H : Type} : Lit × DataW H → Nat
  | (.string bytes, d) => bytes.length + uptoBulk d + 1
  | (_, d) => uptoBulk d + 1
 end
def uptoSmall : (H : Type) → List (DataW H) → Bool := fun _ ds => decide (uptoBulkAll ds ≤ 1048576)
def OpenSpec.upto (s : _root_.Go.ChangeSpec) : _root_.Go.OpenSpec := { _root_.Go.OpenSpec.ofChange s with cond := some uptoSmall }

/-- 'laws.FnExactWorldMatrix', WHERE WHAT IT READS IS OF BULK AT MOST 1048576: true; the input reads as it did. -/
def fnExactWorldMatrixUptoRow : OpenClaim := { program := "ytiipcophnnfnoaa", sum := "0753b1e030e5bf3f2e722ba94ea67edd60a3732c82048661a5d4ed7f70c9d640", func := "loop.example/g00958/laws.FnExactWorldMatrix", spec := "fnExactWorldMatrix", apart := false, narrowed := true }
def FnExactWorldMatrixUptoSaid : Prop := fnExactWorldMatrixUptoRow.holds Try.pinned (OpenSpec.upto fnExactWorldMatrixSpec)

/-- 'laws.FnExactRowsOf', WHERE WHAT IT READS IS OF BULK AT MOST 1048576: true; the input reads as it did. -/
def fnExactRowsOfUptoRow : OpenClaim := { program := "ytiipcophnnfnoaa", sum := "0753b1e030e5bf3f2e722ba94ea67edd60a3732c82048661a5d4ed7f70c9d640", func := "loop.example/g00958/laws.FnExactRowsOf", spec := "fnExactRowsOf", apart := false, narrowed := true }
def FnExactRowsOfUptoSaid : Prop := fnExactRowsOfUptoRow.holds Try.pinned (OpenSpec.upto fnExactRowsOfSpec)

/-- 'laws.FnExactFewestLiars', WHERE WHAT IT READS IS OF BULK AT MOST 1048576: true; the input reads as it did. -/
def fnExactFewestLiarsUptoRow : OpenClaim := { program := "ytiipcophnnfnoaa", sum := "0753b1e030e5bf3f2e722ba94ea67edd60a3732c82048661a5d4ed7f70c9d640", func := "loop.example/g00958/laws.FnExactFewestLiars", spec := "fnExactFewestLiars", unfollowed := true, recurses := true, apart := false, narrowed := true }
def FnExactFewestLiarsUptoSaid : Prop := fnExactFewestLiarsUptoRow.holds Try.pinned (OpenSpec.upto fnExactFewestLiarsSpec)

/-- 'laws.FnObserved', WHERE WHAT IT READS IS OF BULK AT MOST 1048576: true; the input reads as it did. -/
def fnObservedUptoRow : OpenClaim := { program := "ytiipcophnnfnoaa", sum := "0753b1e030e5bf3f2e722ba94ea67edd60a3732c82048661a5d4ed7f70c9d640", func := "loop.example/g00958/laws.FnObserved", spec := "fnObserved", unfollowed := true, recurses := true, apart := false, narrowed := true }
def FnObservedUptoSaid : Prop := fnObservedUptoRow.holds Try.pinned (OpenSpec.upto fnObservedSpec)

/-- 'laws.FnLiars', WHERE WHAT IT READS IS OF BULK AT MOST 1048576: true; the input reads as it did. -/
def fnLiarsUptoRow : OpenClaim := { program := "ytiipcophnnfnoaa", sum := "0753b1e030e5bf3f2e722ba94ea67edd60a3732c82048661a5d4ed7f70c9d640", func := "loop.example/g00958/laws.FnLiars", spec := "fnLiars", unfollowed := true, recurses := true, apart := false, narrowed := true }
def FnLiarsUptoSaid : Prop := fnLiarsUptoRow.holds Try.pinned (OpenSpec.upto fnLiarsSpec)

/-- 'laws.FnExactSureLiars', WHERE WHAT IT READS IS OF BULK AT MOST 1048576: true; the input reads as it did. -/
def fnExactSureLiarsUptoRow : OpenClaim := { program := "ytiipcophnnfnoaa", sum := "0753b1e030e5bf3f2e722ba94ea67edd60a3732c82048661a5d4ed7f70c9d640", func := "loop.example/g00958/laws.FnExactSureLiars", spec := "fnExactSureLiars", unfollowed := true, recurses := true, apart := false, narrowed := true }
def FnExactSureLiarsUptoSaid : Prop := fnExactSureLiarsUptoRow.holds Try.pinned (OpenSpec.upto fnExactSureLiarsSpec)

/-- 'laws.FnExactIsWorld', WHERE WHAT IT READS IS OF BULK AT MOST 1048576: true; the input reads as it did. -/
def fnExactIsWorldUptoRow : OpenClaim := { program := "ytiipcophnnfnoaa", sum := "0753b1e030e5bf3f2e722ba94ea67edd60a3732c82048661a5d4ed7f70c9d640", func := "loop.example/g00958/laws.FnExactIsWorld", spec := "fnExactIsWorld", unfollowed := true, recurses := true, apart := false, narrowed := true }
def FnExactIsWorldUptoSaid : Prop := fnExactIsWorldUptoRow.holds Try.pinned (OpenSpec.upto fnExactIsWorldSpec)

/-- 'laws.FnExactNewWorld', WHERE WHAT IT READS IS OF BULK AT MOST 1048576: true; the input reads as it did. -/
def fnExactNewWorldUptoRow : OpenClaim := { program := "ytiipcophnnfnoaa", sum := "0753b1e030e5bf3f2e722ba94ea67edd60a3732c82048661a5d4ed7f70c9d640", func := "loop.example/g00958/laws.FnExactNewWorld", spec := "fnExactNewWorld", unfollowed := true, recurses := true, apart := false, narrowed := true }
def FnExactNewWorldUptoSaid : Prop := fnExactNewWorldUptoRow.holds Try.pinned (OpenSpec.upto fnExactNewWorldSpec)

/-- 'laws.FnWorlds', WHERE WHAT IT READS IS OF BULK AT MOST 1048576: true; the input reads as it did. -/
def fnWorldsUptoRow : OpenClaim := { program := "ytiipcophnnfnoaa", sum := "0753b1e030e5bf3f2e722ba94ea67edd60a3732c82048661a5d4ed7f70c9d640", func := "loop.example/g00958/laws.FnWorlds", spec := "fnWorlds", unfollowed := true, recurses := true, apart := false, narrowed := true }
def FnWorldsUptoSaid : Prop := fnWorldsUptoRow.holds Try.pinned (OpenSpec.upto fnWorldsSpec)

end Rows
end Go.Proofs.Ytiipcophnnfnoaa
