/-
  No cell of these rows narrows 'for every input' (looked for: loops, veiled, ifaces, maps, wideKeys, modest, calm, conditions, laid).
  DERIVED. THE GIVEN ROWS OF THIS SEAT. 4 by the template 'for every input the law returns true; each argument reads behind the call as it read before'; 0 by the template 'total and deterministic' (their statements: YtbhckhblonkajaaTotals.lean).
  GIVEN WITH THE SEED: the statements are not yours to turn. If you find one false, say at which input.
  Laid BY PROGRAM, IN A SANDBOX (cutbox-rows.mjs): the forced cells as the released guide's own fill.sh prints them over the translation 6804fa33593917bb… (all of the seat's roots in one cut). By AI agents, Wed Nov 11 2026. No macro, syntax, notation, axiom, sorry.
-/
import Derived.Test.YtbhckhblonkajaaChecked
import GoSem.Claim
import GoSem.ClaimJoined
import GoSem.ClaimMapViews
import Derived.JoinedTies
import Derived.KernelRfl
namespace Go.Proofs.Ytbhckhblonkajaa
/- THE CELL 'sum', in the pinned program and in every row, IS THE sha256 OF THE DUMP (.gsa) THAT YtbhckhblonkajaaProg.lean LOADS. Nothing in Lean hashes anything: it is a label: what it is worth is what the hold of that sum in a sandbox is worth. -/
noncomputable def Try.pinned : Pinned := { name := "ytbhckhblonkajaa", sum := "6804fa33593917bb017eea50d9643afeb0f7799f1395eb1867b11debd141a513", checked := Try.checked }
namespace Rows
def none {H : Type} : Left H := { results := [], args := [] }

/-- 'laws.FnExactIsBinary': WHATEVER THE INPUT: true; the input reads as it did. -/
def fnExactIsBinarySpec : ChangeSpec := { name := "fnExactIsBinary", fn := fun _ => fun
  | [d] => { results := [.lit (.bool true)], args := [d] }
  | _ => none }
def fnExactIsBinaryRow : OpenClaim := { program := "ytbhckhblonkajaa", sum := "6804fa33593917bb017eea50d9643afeb0f7799f1395eb1867b11debd141a513", func := "loop.example/g00593/laws.FnExactIsBinary", spec := "fnExactIsBinary", unfollowed := true, recurses := true, apart := false }
def FnExactIsBinarySaid : Prop := fnExactIsBinaryRow.holds Try.pinned (OpenSpec.ofChange fnExactIsBinarySpec)

/-- ITS FALSE NEIGHBOUR: 'it returns false'. Refute it at one input. -/
def fnExactIsBinaryWrong : ChangeSpec := { name := "fnExactIsBinary", fn := fun _ => fun
  | [d] => { results := [.lit (.bool false)], args := [d] }
  | _ => none }
def FnExactIsBinaryWrongFalsely : Prop := fnExactIsBinaryRow.holds Try.pinned (OpenSpec.ofChange fnExactIsBinaryWrong)

/-- 'laws.FnExactIsTernary': WHATEVER THE INPUT: true; the input reads as it did. -/
def fnExactIsTernarySpec : ChangeSpec := { name := "fnExactIsTernary", fn := fun _ => fun
  | [d] => { results := [.lit (.bool true)], args := [d] }
  | _ => none }
def fnExactIsTernaryRow : OpenClaim := { program := "ytbhckhblonkajaa", sum := "6804fa33593917bb017eea50d9643afeb0f7799f1395eb1867b11debd141a513", func := "loop.example/g00593/laws.FnExactIsTernary", spec := "fnExactIsTernary", unfollowed := true, recurses := true, apart := false }
def FnExactIsTernarySaid : Prop := fnExactIsTernaryRow.holds Try.pinned (OpenSpec.ofChange fnExactIsTernarySpec)

/-- ITS FALSE NEIGHBOUR: 'it returns false'. Refute it at one input. -/
def fnExactIsTernaryWrong : ChangeSpec := { name := "fnExactIsTernary", fn := fun _ => fun
  | [d] => { results := [.lit (.bool false)], args := [d] }
  | _ => none }
def FnExactIsTernaryWrongFalsely : Prop := fnExactIsTernaryRow.holds Try.pinned (OpenSpec.ofChange fnExactIsTernaryWrong)

/-- 'laws.FnExactIsRegular': WHATEVER THE INPUT: true; the input reads as it did. -/
def fnExactIsRegularSpec : ChangeSpec := { name := "fnExactIsRegular", fn := fun _ => fun
  | [d] => { results := [.lit (.bool true)], args := [d] }
  | _ => none }
def fnExactIsRegularRow : OpenClaim := { program := "ytbhckhblonkajaa", sum := "6804fa33593917bb017eea50d9643afeb0f7799f1395eb1867b11debd141a513", func := "loop.example/g00593/laws.FnExactIsRegular", spec := "fnExactIsRegular", unfollowed := true, recurses := true, apart := false }
def FnExactIsRegularSaid : Prop := fnExactIsRegularRow.holds Try.pinned (OpenSpec.ofChange fnExactIsRegularSpec)

/-- ITS FALSE NEIGHBOUR: 'it returns false'. Refute it at one input. -/
def fnExactIsRegularWrong : ChangeSpec := { name := "fnExactIsRegular", fn := fun _ => fun
  | [d] => { results := [.lit (.bool false)], args := [d] }
  | _ => none }
def FnExactIsRegularWrongFalsely : Prop := fnExactIsRegularRow.holds Try.pinned (OpenSpec.ofChange fnExactIsRegularWrong)

/-- 'laws.FnExactFindMatrix': WHATEVER THE INPUT: true; the input reads as it did. -/
def fnExactFindMatrixSpec : ChangeSpec := { name := "fnExactFindMatrix", fn := fun _ => fun
  | [d1, d2] => { results := [.lit (.bool true)], args := [d1, d2] }
  | _ => none }
def fnExactFindMatrixRow : OpenClaim := { program := "ytbhckhblonkajaa", sum := "6804fa33593917bb017eea50d9643afeb0f7799f1395eb1867b11debd141a513", func := "loop.example/g00593/laws.FnExactFindMatrix", spec := "fnExactFindMatrix", unfollowed := true, recurses := true, apart := false }
def FnExactFindMatrixSaid : Prop := fnExactFindMatrixRow.holds Try.pinned (OpenSpec.ofChange fnExactFindMatrixSpec)

/-- ITS FALSE NEIGHBOUR: 'it returns false'. Refute it at one input. -/
def fnExactFindMatrixWrong : ChangeSpec := { name := "fnExactFindMatrix", fn := fun _ => fun
  | [d1, d2] => { results := [.lit (.bool false)], args := [d1, d2] }
  | _ => none }
def FnExactFindMatrixWrongFalsely : Prop := fnExactFindMatrixRow.holds Try.pinned (OpenSpec.ofChange fnExactFindMatrixWrong)

/- THE SECOND FORM. 'bulk': how many values and letters a reading holds, each counted each time it is reached (what is shared counts as often as it is met; a slice's spare places count too). A statement '..UptoSaid' is the law's where the arguments, and the package variables that the reading takes, are together of bulk at most 1048576: NARROWER than '..Said'. Prove '..Said' where nothing that the law and all that it calls make is longer than what came in: it says more and counts as full. Else prove '..UptoSaid'. A law counts once. -/
mutual
def uptoBulk {H : Type} : DataW H → Nat
  | .lit (.string bytes) => bytes.length + 1
  | .lit _ => 1
  | .nil => 1
  | .ptr d => uptoBulk d + 1
  | .slice elems spare => uptoBulkAll elems + uptoBulkAll spare + 1
  | .agg parts => uptoBulkAll parts + 1
  | .iface _ d => uptoBulk d + 1
  | .map entries => uptoBulkEntries entries + 1
  | .held _ => 1
def uptoBulkAll {H : Type} : List (DataW H) → Nat
  | [] => 0
  | d :: r => uptoBulk d + uptoBulkAll r
def uptoBulkEntries {H : Type} : List (Lit × DataW H) → Nat
  | [] => 0
  | x :: r => uptoBulkEntry x + uptoBulkEntries r
def uptoBulkEntry {H : Type} : Lit × DataW H → Nat
  | (.string bytes, d) => bytes.length + uptoBulk d + 1
  | (_, d) => uptoBulk d + 1
 end
def uptoSmall : (H : Type) → List (DataW H) → Bool := fun _ ds => decide (uptoBulkAll ds ≤ 1048576)
def OpenSpec.upto (s : _root_.Go.ChangeSpec) : _root_.Go.OpenSpec := { _root_.Go.OpenSpec.ofChange s with cond := some uptoSmall }

/-- 'laws.FnExactIsBinary', WHERE WHAT IT READS IS OF BULK AT MOST 1048576: true; the input reads as it did. -/
def fnExactIsBinaryUptoRow : OpenClaim := { program := "ytbhckhblonkajaa", sum := "6804fa33593917bb017eea50d9643afeb0f7799f1395eb1867b11debd141a513", func := "loop.example/g00593/laws.FnExactIsBinary", spec := "fnExactIsBinary", unfollowed := true, recurses := true, apart := false, narrowed := true }
def FnExactIsBinaryUptoSaid : Prop := fnExactIsBinaryUptoRow.holds Try.pinned (OpenSpec.upto fnExactIsBinarySpec)

/-- 'laws.FnExactIsTernary', WHERE WHAT IT READS IS OF BULK AT MOST 1048576: true; the input reads as it did. -/
def fnExactIsTernaryUptoRow : OpenClaim := { program := "ytbhckhblonkajaa", sum := "6804fa33593917bb017eea50d9643afeb0f7799f1395eb1867b11debd141a513", func := "loop.example/g00593/laws.FnExactIsTernary", spec := "fnExactIsTernary", unfollowed := true, recurses := true, apart := false, narrowed := true }
def FnExactIsTernaryUptoSaid : Prop := fnExactIsTernaryUptoRow.holds Try.pinned (OpenSpec.upto fnExactIsTernarySpec)

/-- 'laws.FnExactIsRegular', WHERE WHAT IT READS IS OF BULK AT MOST 1048576: true; the input reads as it did. -/
def fnExactIsRegularUptoRow : OpenClaim := { program := "ytbhckhblonkajaa", sum := "6804fa33593917bb017eea50d9643afeb0f7799f1395eb1867b11debd141a513", func := "loop.example/g00593/laws.FnExactIsRegular", spec := "fnExactIsRegular", unfollowed := true, recurses := true, apart := false, narrowed := true }
def FnExactIsRegularUptoSaid : Prop := fnExactIsRegularUptoRow.holds Try.pinned (OpenSpec.upto fnExactIsRegularSpec)

/-- 'laws.FnExactFindMatrix', WHERE WHAT IT READS IS OF BULK AT MOST 1048576: true; the input reads as it did. -/
def fnExactFindMatrixUptoRow : OpenClaim := { program := "ytbhckhblonkajaa", sum := "6804fa33593917bb017eea50d9643afeb0f7799f1395eb1867b11debd141a513", func := "loop.example/g00593/laws.FnExactFindMatrix", spec := "fnExactFindMatrix", unfollowed := true, recurses := true, apart := false, narrowed := true }
def FnExactFindMatrixUptoSaid : Prop := fnExactFindMatrixUptoRow.holds Try.pinned (OpenSpec.upto fnExactFindMatrixSpec)

end Rows
end Go.Proofs.Ytbhckhblonkajaa
