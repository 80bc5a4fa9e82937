/-
  No cell of these rows narrows 'for every input' (looked for: loops, veiled, ifaces, maps, wideKeys, modest, calm, conditions, laid).
  DERIVED. THE GIVEN ROWS OF THIS SEAT. 5 by the template 'for every input the law returns true; each argument reads behind the call as it read before'; 0 by the template 'total and deterministic' (their statements: YtbajgpadmlnffaaGreatTotals.lean).
  GIVEN WITH THE SEED: the statements are not yours to turn. If you find one false, say at which input.
  Laid BY PROGRAM, IN A SANDBOX (cutbox-rows.mjs): the forced cells as the released guide's own fill.sh prints them over the translation 0e22b95ade9f3604… (all of the seat's roots in one cut). By AI agents, Wed Nov 11 2026. No macro, syntax, notation, axiom, sorry.
-/
import Derived.Test.YtbajgpadmlnffaaGreatChecked
import GoSem.Claim
import GoSem.ClaimJoined
import GoSem.ClaimMapViews
import Derived.JoinedTies
import Derived.KernelRfl
namespace Go.Proofs.YtbajgpadmlnffaaGreat
/- THE CELL 'sum', in the pinned program and in every row, IS THE sha256 OF THE DUMP (.gsa) THAT YtbajgpadmlnffaaGreatProg.lean LOADS. Nothing in Lean hashes anything: it is a label: what it is worth is what the hold of that sum in a sandbox is worth. -/
noncomputable def Tryz.pinned : Pinned := { name := "ytbajgpadmlnffaagreat", sum := "0e22b95ade9f3604caf3742b96f646640a0f5b2cc632efb466f4654d847fbcda", checked := Tryz.checked }
namespace Rows
def none {H : Type} : Left H := { results := [], args := [] }

/-- 'crannoglaw08.DiffBoth': WHATEVER THE INPUT: true; the input reads as it did. -/
def diffBothSpec : ChangeSpec := { name := "diffBoth", fn := fun _ => fun
  | [d1, d2] => { results := [.lit (.bool true)], args := [d1, d2] }
  | _ => none }
def diffBothRow : OpenClaim := { program := "ytbajgpadmlnffaagreat", sum := "0e22b95ade9f3604caf3742b96f646640a0f5b2cc632efb466f4654d847fbcda", func := "crannog/crannoglaw08.DiffBoth", spec := "diffBoth", unfollowed := true, recurses := true, apart := false }
def DiffBothSaid : Prop := diffBothRow.holds Tryz.pinned (OpenSpec.ofChange diffBothSpec)

/-- ITS FALSE NEIGHBOUR: 'it returns false'. Refute it at one input. -/
def diffBothWrong : ChangeSpec := { name := "diffBoth", fn := fun _ => fun
  | [d1, d2] => { results := [.lit (.bool false)], args := [d1, d2] }
  | _ => none }
def DiffBothWrongFalsely : Prop := diffBothRow.holds Tryz.pinned (OpenSpec.ofChange diffBothWrong)

/-- 'crannoglaw08.DiffBytes': WHATEVER THE INPUT: true; the input reads as it did. -/
def diffBytesSpec : ChangeSpec := { name := "diffBytes", fn := fun _ => fun
  | [d1, d2] => { results := [.lit (.bool true)], args := [d1, d2] }
  | _ => none }
def diffBytesRow : OpenClaim := { program := "ytbajgpadmlnffaagreat", sum := "0e22b95ade9f3604caf3742b96f646640a0f5b2cc632efb466f4654d847fbcda", func := "crannog/crannoglaw08.DiffBytes", spec := "diffBytes", unfollowed := true, recurses := true, apart := false }
def DiffBytesSaid : Prop := diffBytesRow.holds Tryz.pinned (OpenSpec.ofChange diffBytesSpec)

/-- ITS FALSE NEIGHBOUR: 'it returns false'. Refute it at one input. -/
def diffBytesWrong : ChangeSpec := { name := "diffBytes", fn := fun _ => fun
  | [d1, d2] => { results := [.lit (.bool false)], args := [d1, d2] }
  | _ => none }
def DiffBytesWrongFalsely : Prop := diffBytesRow.holds Tryz.pinned (OpenSpec.ofChange diffBytesWrong)

/-- 'crannoglaw08.DiffBack': WHATEVER THE INPUT: true; the input reads as it did. -/
def diffBackSpec : ChangeSpec := { name := "diffBack", fn := fun _ => fun
  | [d] => { results := [.lit (.bool true)], args := [d] }
  | _ => none }
def diffBackRow : OpenClaim := { program := "ytbajgpadmlnffaagreat", sum := "0e22b95ade9f3604caf3742b96f646640a0f5b2cc632efb466f4654d847fbcda", func := "crannog/crannoglaw08.DiffBack", spec := "diffBack", unfollowed := true, recurses := true, apart := false }
def DiffBackSaid : Prop := diffBackRow.holds Tryz.pinned (OpenSpec.ofChange diffBackSpec)

/-- ITS FALSE NEIGHBOUR: 'it returns false'. Refute it at one input. -/
def diffBackWrong : ChangeSpec := { name := "diffBack", fn := fun _ => fun
  | [d] => { results := [.lit (.bool false)], args := [d] }
  | _ => none }
def DiffBackWrongFalsely : Prop := diffBackRow.holds Tryz.pinned (OpenSpec.ofChange diffBackWrong)

/-- 'crannoglaw08.DiffTrees': WHATEVER THE INPUT: true; the input reads as it did. -/
def diffTreesSpec : ChangeSpec := { name := "diffTrees", fn := fun _ => fun
  | [d1, d2] => { results := [.lit (.bool true)], args := [d1, d2] }
  | _ => none }
def diffTreesRow : OpenClaim := { program := "ytbajgpadmlnffaagreat", sum := "0e22b95ade9f3604caf3742b96f646640a0f5b2cc632efb466f4654d847fbcda", func := "crannog/crannoglaw08.DiffTrees", spec := "diffTrees", unfollowed := true, recurses := true, apart := false }
def DiffTreesSaid : Prop := diffTreesRow.holds Tryz.pinned (OpenSpec.ofChange diffTreesSpec)

/-- ITS FALSE NEIGHBOUR: 'it returns false'. Refute it at one input. -/
def diffTreesWrong : ChangeSpec := { name := "diffTrees", fn := fun _ => fun
  | [d1, d2] => { results := [.lit (.bool false)], args := [d1, d2] }
  | _ => none }
def DiffTreesWrongFalsely : Prop := diffTreesRow.holds Tryz.pinned (OpenSpec.ofChange diffTreesWrong)

/-- 'crannoglaw08.DiffApplies': WHATEVER THE INPUT: true; the input reads as it did. -/
def diffAppliesSpec : ChangeSpec := { name := "diffApplies", fn := fun _ => fun
  | [d1, d2] => { results := [.lit (.bool true)], args := [d1, d2] }
  | _ => none }
def diffAppliesRow : OpenClaim := { program := "ytbajgpadmlnffaagreat", sum := "0e22b95ade9f3604caf3742b96f646640a0f5b2cc632efb466f4654d847fbcda", func := "crannog/crannoglaw08.DiffApplies", spec := "diffApplies", unfollowed := true, recurses := true, apart := false }
def DiffAppliesSaid : Prop := diffAppliesRow.holds Tryz.pinned (OpenSpec.ofChange diffAppliesSpec)

/-- ITS FALSE NEIGHBOUR: 'it returns false'. Refute it at one input. -/
def diffAppliesWrong : ChangeSpec := { name := "diffApplies", fn := fun _ => fun
  | [d1, d2] => { results := [.lit (.bool false)], args := [d1, d2] }
  | _ => none }
def DiffAppliesWrongFalsely : Prop := diffAppliesRow.holds Tryz.pinned (OpenSpec.ofChange diffAppliesWrong)

/- THE SECOND FORM. 'bulk': how many values and letters a reading holds, each counted each time it is reached (what is shared counts as often as it is met; a slice's spare places count too). A statement '..UptoSaid' is the law's where the arguments, and the package variables that the reading takes, are together of bulk at most 1048576: NARROWER than '..Said'. Prove '..Said' where nothing that the law and all that it calls make is longer than what came in: it says more and counts as full. Else prove '..UptoSaid'. A law counts once. -/
mutual
def uptoBulk {H : Type} : DataW H → Nat
  | .lit (.string bytes) => bytes.length + 1
  | .lit _ => 1
  | .nil => 1
  | .ptr d => uptoBulk d + 1
  | .slice elems spare => uptoBulkAll elems + uptoBulkAll spare + 1
  | .agg parts => uptoBulkAll parts + 1
  | .iface _ d => uptoBulk d + 1
  | .map entries => uptoBulkEntries entries + 1
  | .held _ => 1
def uptoBulkAll {H : Type} : List (DataW H) → Nat
  | [] => 0
  | d :: r => uptoBulk d + uptoBulkAll r
def uptoBulkEntries {H : Type} : List (Lit × DataW H) → Nat
  | [] => 0
  | x :: r => uptoBulkEntry x + uptoBulkEntries r
def uptoBulkEntry {H : Type} : Lit × DataW H → Nat
  | (.string bytes, d) => bytes.length + uptoBulk d + 1
  | (_, d) => uptoBulk d + 1
 end
def uptoSmall : (H : Type) → List (DataW H) → Bool := fun _ ds => decide (uptoBulkAll ds ≤ 1048576)
def OpenSpec.upto (s : _root_.Go.ChangeSpec) : _root_.Go.OpenSpec := { _root_.Go.OpenSpec.ofChange s with cond := some uptoSmall }

/-- 'crannoglaw08.DiffBoth', WHERE WHAT IT READS IS OF BULK AT MOST 1048576: true; the input reads as it did. -/
def diffBothUptoRow : OpenClaim := { program := "ytbajgpadmlnffaagreat", sum := "0e22b95ade9f3604caf3742b96f646640a0f5b2cc632efb466f4654d847fbcda", func := "crannog/crannoglaw08.DiffBoth", spec := "diffBoth", unfollowed := true, recurses := true, apart := false, narrowed := true }
def DiffBothUptoSaid : Prop := diffBothUptoRow.holds Tryz.pinned (OpenSpec.upto diffBothSpec)

/-- 'crannoglaw08.DiffBytes', WHERE WHAT IT READS IS OF BULK AT MOST 1048576: true; the input reads as it did. -/
def diffBytesUptoRow : OpenClaim := { program := "ytbajgpadmlnffaagreat", sum := "0e22b95ade9f3604caf3742b96f646640a0f5b2cc632efb466f4654d847fbcda", func := "crannog/crannoglaw08.DiffBytes", spec := "diffBytes", unfollowed := true, recurses := true, apart := false, narrowed := true }
def DiffBytesUptoSaid : Prop := diffBytesUptoRow.holds Tryz.pinned (OpenSpec.upto diffBytesSpec)

/-- 'crannoglaw08.DiffBack', WHERE WHAT IT READS IS OF BULK AT MOST 1048576: true; the input reads as it did. -/
def diffBackUptoRow : OpenClaim := { program := "ytbajgpadmlnffaagreat", sum := "0e22b95ade9f3604caf3742b96f646640a0f5b2cc632efb466f4654d847fbcda", func := "crannog/crannoglaw08.DiffBack", spec := "diffBack", unfollowed := true, recurses := true, apart := false, narrowed := true }
def DiffBackUptoSaid : Prop := diffBackUptoRow.holds Tryz.pinned (OpenSpec.upto diffBackSpec)

/-- 'crannoglaw08.DiffTrees', WHERE WHAT IT READS IS OF BULK AT MOST 1048576: true; the input reads as it did. -/
def diffTreesUptoRow : OpenClaim := { program := "ytbajgpadmlnffaagreat", sum := "0e22b95ade9f3604caf3742b96f646640a0f5b2cc632efb466f4654d847fbcda", func := "crannog/crannoglaw08.DiffTrees", spec := "diffTrees", unfollowed := true, recurses := true, apart := false, narrowed := true }
def DiffTreesUptoSaid : Prop := diffTreesUptoRow.holds Tryz.pinned (OpenSpec.upto diffTreesSpec)

/-- 'crannoglaw08.DiffApplies', WHERE WHAT IT READS IS OF BULK AT MOST 1048576: true; the input reads as it did. -/
def diffAppliesUptoRow : OpenClaim := { program := "ytbajgpadmlnffaagreat", sum := "0e22b95ade9f3604caf3742b96f646640a0f5b2cc632efb466f4654d847fbcda", func := "crannog/crannoglaw08.DiffApplies", spec := "diffApplies", unfollowed := true, recurses := true, apart := false, narrowed := true }
def DiffAppliesUptoSaid : Prop := diffAppliesUptoRow.holds Tryz.pinned (OpenSpec.upto diffAppliesSpec)

end Rows
end Go.Proofs.YtbajgpadmlnffaaGreat
