/-
  No cell of these rows narrows 'for every input' (looked for: loops, veiled, ifaces, maps, wideKeys, modest, calm, conditions, laid).
  DERIVED. THE GIVEN ROWS OF THIS SEAT. 4 by the template 'for every input the law returns true; each argument reads behind the call as it read before'; 0 by the template 'total and deterministic' (their statements: YtlhhjdhbkhjhjaaTotals.lean).
  GIVEN WITH THE SEED: the statements are not yours to turn. If you find one false, say at which input.
  Laid BY PROGRAM, IN A SANDBOX (cutbox-rows.mjs): the forced cells as the released guide's own fill.sh prints them over the translation 18592aa6a46f553e… (all of the seat's roots in one cut). By AI agents, Wed Nov 11 2026. No macro, syntax, notation, axiom, sorry.
-/
import Derived.Test.YtlhhjdhbkhjhjaaChecked
import GoSem.Claim
import GoSem.ClaimJoined
import GoSem.ClaimMapViews
import Derived.JoinedTies
import Derived.KernelRfl
namespace Go.Proofs.Ytlhhjdhbkhjhjaa
/- THE CELL 'sum', in the pinned program and in every row, IS THE sha256 OF THE DUMP (.gsa) THAT YtlhhjdhbkhjhjaaProg.lean LOADS. Nothing in Lean hashes anything: it is a label: what it is worth is what the hold of that sum in a sandbox is worth. -/
noncomputable def Try.pinned : Pinned := { name := "ytlhhjdhbkhjhjaa", sum := "18592aa6a46f553eb1514ee73cb2f67977be86a5f395741214ecee3eedfada91", checked := Try.checked }
namespace Rows
def none {H : Type} : Left H := { results := [], args := [] }

/-- 'mailcoachlaw05.PolyTags': WHATEVER THE INPUT: true; the input reads as it did. -/
def polyTagsSpec : ChangeSpec := { name := "polyTags", fn := fun _ => fun
  | [d1, d2] => { results := [.lit (.bool true)], args := [d1, d2] }
  | _ => none }
def polyTagsRow : OpenClaim := { program := "ytlhhjdhbkhjhjaa", sum := "18592aa6a46f553eb1514ee73cb2f67977be86a5f395741214ecee3eedfada91", func := "mailcoach/mailcoachlaw05.PolyTags", spec := "polyTags", unfollowed := true, recurses := true, apart := false }
def PolyTagsSaid : Prop := polyTagsRow.holds Try.pinned (OpenSpec.ofChange polyTagsSpec)

/-- ITS FALSE NEIGHBOUR: 'it returns false'. Refute it at one input. -/
def polyTagsWrong : ChangeSpec := { name := "polyTags", fn := fun _ => fun
  | [d1, d2] => { results := [.lit (.bool false)], args := [d1, d2] }
  | _ => none }
def PolyTagsWrongFalsely : Prop := polyTagsRow.holds Try.pinned (OpenSpec.ofChange polyTagsWrong)

/-- 'mailcoachlaw05.PolyAdds': WHATEVER THE INPUT: true; the input reads as it did. -/
def polyAddsSpec : ChangeSpec := { name := "polyAdds", fn := fun _ => fun
  | [d1, d2] => { results := [.lit (.bool true)], args := [d1, d2] }
  | _ => none }
def polyAddsRow : OpenClaim := { program := "ytlhhjdhbkhjhjaa", sum := "18592aa6a46f553eb1514ee73cb2f67977be86a5f395741214ecee3eedfada91", func := "mailcoach/mailcoachlaw05.PolyAdds", spec := "polyAdds", unfollowed := true, recurses := true, apart := false }
def PolyAddsSaid : Prop := polyAddsRow.holds Try.pinned (OpenSpec.ofChange polyAddsSpec)

/-- ITS FALSE NEIGHBOUR: 'it returns false'. Refute it at one input. -/
def polyAddsWrong : ChangeSpec := { name := "polyAdds", fn := fun _ => fun
  | [d1, d2] => { results := [.lit (.bool false)], args := [d1, d2] }
  | _ => none }
def PolyAddsWrongFalsely : Prop := polyAddsRow.holds Try.pinned (OpenSpec.ofChange polyAddsWrong)

/-- 'mailcoachlaw05.PolyCleared': WHATEVER THE INPUT: true; the input reads as it did. -/
def polyClearedSpec : ChangeSpec := { name := "polyCleared", fn := fun _ => fun
  | [d1, d2, d3] => { results := [.lit (.bool true)], args := [d1, d2, d3] }
  | _ => none }
def polyClearedRow : OpenClaim := { program := "ytlhhjdhbkhjhjaa", sum := "18592aa6a46f553eb1514ee73cb2f67977be86a5f395741214ecee3eedfada91", func := "mailcoach/mailcoachlaw05.PolyCleared", spec := "polyCleared", unfollowed := true, recurses := true, apart := false }
def PolyClearedSaid : Prop := polyClearedRow.holds Try.pinned (OpenSpec.ofChange polyClearedSpec)

/-- ITS FALSE NEIGHBOUR: 'it returns false'. Refute it at one input. -/
def polyClearedWrong : ChangeSpec := { name := "polyCleared", fn := fun _ => fun
  | [d1, d2, d3] => { results := [.lit (.bool false)], args := [d1, d2, d3] }
  | _ => none }
def PolyClearedWrongFalsely : Prop := polyClearedRow.holds Try.pinned (OpenSpec.ofChange polyClearedWrong)

/-- 'mailcoachlaw05.PolyShort': WHATEVER THE INPUT: true; the input reads as it did. -/
def polyShortSpec : ChangeSpec := { name := "polyShort", fn := fun _ => fun
  | [d1, d2] => { results := [.lit (.bool true)], args := [d1, d2] }
  | _ => none }
def polyShortRow : OpenClaim := { program := "ytlhhjdhbkhjhjaa", sum := "18592aa6a46f553eb1514ee73cb2f67977be86a5f395741214ecee3eedfada91", func := "mailcoach/mailcoachlaw05.PolyShort", spec := "polyShort", unfollowed := true, recurses := true, apart := false }
def PolyShortSaid : Prop := polyShortRow.holds Try.pinned (OpenSpec.ofChange polyShortSpec)

/-- ITS FALSE NEIGHBOUR: 'it returns false'. Refute it at one input. -/
def polyShortWrong : ChangeSpec := { name := "polyShort", fn := fun _ => fun
  | [d1, d2] => { results := [.lit (.bool false)], args := [d1, d2] }
  | _ => none }
def PolyShortWrongFalsely : Prop := polyShortRow.holds Try.pinned (OpenSpec.ofChange polyShortWrong)

/- THE SECOND FORM. 'bulk': how many values and letters a reading holds, each counted each time it is reached (what is shared counts as often as it is met; a slice's spare places count too). A statement '..UptoSaid' is the law's where the arguments, and the package variables that the reading takes, are together of bulk at most 1048576: NARROWER than '..Said'. Prove '..Said' where nothing that the law and all that it calls make is longer than what came in: it says more and counts as full. Else prove '..UptoSaid'. A law counts once. -/
mutual
def uptoBulk {H : Type} : DataW H → Nat
  | .lit (.string bytes) => bytes.length + 1
  | .lit _ => 1
  | .nil => 1
  | .ptr d => uptoBulk d + 1
  | .slice elems spare => uptoBulkAll elems + uptoBulkAll spare + 1
  | .agg parts => uptoBulkAll parts + 1
  | .iface _ d => uptoBulk d + 1
  | .map entries => uptoBulkEntries entries + 1
  | .held _ => 1
def uptoBulkAll {H : Type} : List (DataW H) → Nat
  | [] => 0
  | d :: r => uptoBulk d + uptoBulkAll r
def uptoBulkEntries {H : Type} : List (Lit × DataW H) → Nat
  | [] => 0
  | x :: r => uptoBulkEntry x + uptoBulkEntries r
def uptoBulkEntry {H : Type} : Lit × DataW H → Nat
  | (.string bytes, d) => bytes.length + uptoBulk d + 1
  | (_, d) => uptoBulk d + 1
 end
def uptoSmall : (H : Type) → List (DataW H) → Bool := fun _ ds => decide (uptoBulkAll ds ≤ 1048576)
def OpenSpec.upto (s : _root_.Go.ChangeSpec) : _root_.Go.OpenSpec := { _root_.Go.OpenSpec.ofChange s with cond := some uptoSmall }

/-- 'mailcoachlaw05.PolyTags', WHERE WHAT IT READS IS OF BULK AT MOST 1048576: true; the input reads as it did. -/
def polyTagsUptoRow : OpenClaim := { program := "ytlhhjdhbkhjhjaa", sum := "18592aa6a46f553eb1514ee73cb2f67977be86a5f395741214ecee3eedfada91", func := "mailcoach/mailcoachlaw05.PolyTags", spec := "polyTags", unfollowed := true, recurses := true, apart := false, narrowed := true }
def PolyTagsUptoSaid : Prop := polyTagsUptoRow.holds Try.pinned (OpenSpec.upto polyTagsSpec)

/-- 'mailcoachlaw05.PolyAdds', WHERE WHAT IT READS IS OF BULK AT MOST 1048576: true; the input reads as it did. -/
def polyAddsUptoRow : OpenClaim := { program := "ytlhhjdhbkhjhjaa", sum := "18592aa6a46f553eb1514ee73cb2f67977be86a5f395741214ecee3eedfada91", func := "mailcoach/mailcoachlaw05.PolyAdds", spec := "polyAdds", unfollowed := true, recurses := true, apart := false, narrowed := true }
def PolyAddsUptoSaid : Prop := polyAddsUptoRow.holds Try.pinned (OpenSpec.upto polyAddsSpec)

/-- 'mailcoachlaw05.PolyCleared', WHERE WHAT IT READS IS OF BULK AT MOST 1048576: true; the input reads as it did. -/
def polyClearedUptoRow : OpenClaim := { program := "ytlhhjdhbkhjhjaa", sum := "18592aa6a46f553eb1514ee73cb2f67977be86a5f395741214ecee3eedfada91", func := "mailcoach/mailcoachlaw05.PolyCleared", spec := "polyCleared", unfollowed := true, recurses := true, apart := false, narrowed := true }
def PolyClearedUptoSaid : Prop := polyClearedUptoRow.holds Try.pinned (OpenSpec.upto polyClearedSpec)

/-- 'mailcoachlaw05.PolyShort', WHERE WHAT IT READS IS OF BULK AT MOST 1048576: true; the input reads as it did. -/
def polyShortUptoRow : OpenClaim := { program := "ytlhhjdhbkhjhjaa", sum := "18592aa6a46f553eb1514ee73cb2f67977be86a5f395741214ecee3eedfada91", func := "mailcoach/mailcoachlaw05.PolyShort", spec := "polyShort", unfollowed := true, recurses := true, apart := false, narrowed := true }
def PolyShortUptoSaid : Prop := polyShortUptoRow.holds Try.pinned (OpenSpec.upto polyShortSpec)

end Rows
end Go.Proofs.Ytlhhjdhbkhjhjaa
