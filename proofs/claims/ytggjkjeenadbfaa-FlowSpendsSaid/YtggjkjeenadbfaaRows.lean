/-
  No cell of these rows narrows 'for every input' (looked for: loops, veiled, ifaces, maps, wideKeys, modest, calm, conditions, laid).
  DERIVED. THE GIVEN ROWS OF THIS SEAT. 5 by the template 'for every input the law returns true; each argument reads behind the call as it read before'; 0 by the template 'total and deterministic' (their statements: YtggjkjeenadbfaaTotals.lean).
  GIVEN WITH THE SEED: the statements are not yours to turn. If you find one false, say at which input.
  Laid BY PROGRAM, IN A SANDBOX (cutbox-rows.mjs): the forced cells as the released guide's own fill.sh prints them over the translation 661f0adb09c2e361… (all of the seat's roots in one cut). By AI agents, Wed Nov 11 2026. No macro, syntax, notation, axiom, sorry.
-/
import Derived.Test.YtggjkjeenadbfaaChecked
import GoSem.Claim
import GoSem.ClaimJoined
import GoSem.ClaimMapViews
import Derived.JoinedTies
import Derived.KernelRfl
namespace Go.Proofs.Ytggjkjeenadbfaa
/- THE CELL 'sum', in the pinned program and in every row, IS THE sha256 OF THE DUMP (.gsa) THAT YtggjkjeenadbfaaProg.lean LOADS. Nothing in Lean hashes anything: it is a label: what it is worth is what the hold of that sum in a sandbox is worth. -/
noncomputable def Try.pinned : Pinned := { name := "ytggjkjeenadbfaa", sum := "661f0adb09c2e3617e6a264de0e34193e20e8632275a89d75e412cdd5fa92a2a", checked := Try.checked }
namespace Rows
def none {H : Type} : Left H := { results := [], args := [] }

/-- 'mailcoachlaw14.FlowSpends': WHATEVER THE INPUT: true; the input reads as it did. -/
def flowSpendsSpec : ChangeSpec := { name := "flowSpends", fn := fun _ => fun
  | [d1, d2] => { results := [.lit (.bool true)], args := [d1, d2] }
  | _ => none }
def flowSpendsRow : OpenClaim := { program := "ytggjkjeenadbfaa", sum := "661f0adb09c2e3617e6a264de0e34193e20e8632275a89d75e412cdd5fa92a2a", func := "mailcoach/mailcoachlaw14.FlowSpends", spec := "flowSpends", apart := false }
def FlowSpendsSaid : Prop := flowSpendsRow.holds Try.pinned (OpenSpec.ofChange flowSpendsSpec)

/-- ITS FALSE NEIGHBOUR: 'it returns false'. Refute it at one input. -/
def flowSpendsWrong : ChangeSpec := { name := "flowSpends", fn := fun _ => fun
  | [d1, d2] => { results := [.lit (.bool false)], args := [d1, d2] }
  | _ => none }
def FlowSpendsWrongFalsely : Prop := flowSpendsRow.holds Try.pinned (OpenSpec.ofChange flowSpendsWrong)

/-- 'mailcoachlaw14.FlowStreams': WHATEVER THE INPUT: true; the input reads as it did. -/
def flowStreamsSpec : ChangeSpec := { name := "flowStreams", fn := fun _ => fun
  | [d1, d2, d3] => { results := [.lit (.bool true)], args := [d1, d2, d3] }
  | _ => none }
def flowStreamsRow : OpenClaim := { program := "ytggjkjeenadbfaa", sum := "661f0adb09c2e3617e6a264de0e34193e20e8632275a89d75e412cdd5fa92a2a", func := "mailcoach/mailcoachlaw14.FlowStreams", spec := "flowStreams", apart := false }
def FlowStreamsSaid : Prop := flowStreamsRow.holds Try.pinned (OpenSpec.ofChange flowStreamsSpec)

/-- ITS FALSE NEIGHBOUR: 'it returns false'. Refute it at one input. -/
def flowStreamsWrong : ChangeSpec := { name := "flowStreams", fn := fun _ => fun
  | [d1, d2, d3] => { results := [.lit (.bool false)], args := [d1, d2, d3] }
  | _ => none }
def FlowStreamsWrongFalsely : Prop := flowStreamsRow.holds Try.pinned (OpenSpec.ofChange flowStreamsWrong)

/-- 'mailcoachlaw14.FlowBack': WHATEVER THE INPUT: true; the input reads as it did. -/
def flowBackSpec : ChangeSpec := { name := "flowBack", fn := fun _ => fun
  | [d] => { results := [.lit (.bool true)], args := [d] }
  | _ => none }
def flowBackRow : OpenClaim := { program := "ytggjkjeenadbfaa", sum := "661f0adb09c2e3617e6a264de0e34193e20e8632275a89d75e412cdd5fa92a2a", func := "mailcoach/mailcoachlaw14.FlowBack", spec := "flowBack", apart := false }
def FlowBackSaid : Prop := flowBackRow.holds Try.pinned (OpenSpec.ofChange flowBackSpec)

/-- ITS FALSE NEIGHBOUR: 'it returns false'. Refute it at one input. -/
def flowBackWrong : ChangeSpec := { name := "flowBack", fn := fun _ => fun
  | [d] => { results := [.lit (.bool false)], args := [d] }
  | _ => none }
def FlowBackWrongFalsely : Prop := flowBackRow.holds Try.pinned (OpenSpec.ofChange flowBackWrong)

/-- 'mailcoachlaw14.FlowCredits': WHATEVER THE INPUT: true; the input reads as it did. -/
def flowCreditsSpec : ChangeSpec := { name := "flowCredits", fn := fun _ => fun
  | [d1, d2, d3] => { results := [.lit (.bool true)], args := [d1, d2, d3] }
  | _ => none }
def flowCreditsRow : OpenClaim := { program := "ytggjkjeenadbfaa", sum := "661f0adb09c2e3617e6a264de0e34193e20e8632275a89d75e412cdd5fa92a2a", func := "mailcoach/mailcoachlaw14.FlowCredits", spec := "flowCredits", apart := false }
def FlowCreditsSaid : Prop := flowCreditsRow.holds Try.pinned (OpenSpec.ofChange flowCreditsSpec)

/-- ITS FALSE NEIGHBOUR: 'it returns false'. Refute it at one input. -/
def flowCreditsWrong : ChangeSpec := { name := "flowCredits", fn := fun _ => fun
  | [d1, d2, d3] => { results := [.lit (.bool false)], args := [d1, d2, d3] }
  | _ => none }
def FlowCreditsWrongFalsely : Prop := flowCreditsRow.holds Try.pinned (OpenSpec.ofChange flowCreditsWrong)

/-- 'mailcoachlaw14.FlowGoes': WHATEVER THE INPUT: true; the input reads as it did. -/
def flowGoesSpec : ChangeSpec := { name := "flowGoes", fn := fun _ => fun
  | [d1, d2] => { results := [.lit (.bool true)], args := [d1, d2] }
  | _ => none }
def flowGoesRow : OpenClaim := { program := "ytggjkjeenadbfaa", sum := "661f0adb09c2e3617e6a264de0e34193e20e8632275a89d75e412cdd5fa92a2a", func := "mailcoach/mailcoachlaw14.FlowGoes", spec := "flowGoes", apart := false }
def FlowGoesSaid : Prop := flowGoesRow.holds Try.pinned (OpenSpec.ofChange flowGoesSpec)

/-- ITS FALSE NEIGHBOUR: 'it returns false'. Refute it at one input. -/
def flowGoesWrong : ChangeSpec := { name := "flowGoes", fn := fun _ => fun
  | [d1, d2] => { results := [.lit (.bool false)], args := [d1, d2] }
  | _ => none }
def FlowGoesWrongFalsely : Prop := flowGoesRow.holds Try.pinned (OpenSpec.ofChange flowGoesWrong)

/- THE SECOND FORM. 'bulk': how many values and letters a reading holds, each counted each time it is reached (what is shared counts as often as it is met; a slice's spare places count too). A statement '..UptoSaid' is the law's where the arguments, and the package variables that the reading takes, are together of bulk at most 1048576: NARROWER than '..Said'. Prove '..Said' where nothing that the law and all that it calls make is longer than what came in: it says more and counts as full. Else prove '..UptoSaid'. A law counts once. -/
mutual
def uptoBulk {H : Type} : DataW H → Nat
  | .lit (.string bytes) => bytes.length + 1
  | .lit _ => 1
  | .nil => 1
  | .ptr d => uptoBulk d + 1
  | .slice elems spare => uptoBulkAll elems + uptoBulkAll spare + 1
  | .agg parts => uptoBulkAll parts + 1
  | .iface _ d => uptoBulk d + 1
  | .map entries => uptoBulkEntries entries + 1
  | .held _ => 1
def uptoBulkAll {H : Type} : List (DataW H) → Nat
  | [] => 0
  | d :: r => uptoBulk d + uptoBulkAll r
def uptoBulkEntries {H : Type} : List (Lit × DataW H) → Nat
  | [] => 0
  | x :: r => uptoBulkEntry x + uptoBulkEntries r
def uptoBulkEntry {H : Type} : Lit × DataW H → Nat
  | (.string bytes, d) => bytes.length + uptoBulk d + 1
  | (_, d) => uptoBulk d + 1
 end
def uptoSmall : (H : Type) → List (DataW H) → Bool := fun _ ds => decide (uptoBulkAll ds ≤ 1048576)
def OpenSpec.upto (s : _root_.Go.ChangeSpec) : _root_.Go.OpenSpec := { _root_.Go.OpenSpec.ofChange s with cond := some uptoSmall }

/-- 'mailcoachlaw14.FlowSpends', WHERE WHAT IT READS IS OF BULK AT MOST 1048576: true; the input reads as it did. -/
def flowSpendsUptoRow : OpenClaim := { program := "ytggjkjeenadbfaa", sum := "661f0adb09c2e3617e6a264de0e34193e20e8632275a89d75e412cdd5fa92a2a", func := "mailcoach/mailcoachlaw14.FlowSpends", spec := "flowSpends", apart := false, narrowed := true }
def FlowSpendsUptoSaid : Prop := flowSpendsUptoRow.holds Try.pinned (OpenSpec.upto flowSpendsSpec)

/-- 'mailcoachlaw14.FlowStreams', WHERE WHAT IT READS IS OF BULK AT MOST 1048576: true; the input reads as it did. -/
def flowStreamsUptoRow : OpenClaim := { program := "ytggjkjeenadbfaa", sum := "661f0adb09c2e3617e6a264de0e34193e20e8632275a89d75e412cdd5fa92a2a", func := "mailcoach/mailcoachlaw14.FlowStreams", spec := "flowStreams", apart := false, narrowed := true }
def FlowStreamsUptoSaid : Prop := flowStreamsUptoRow.holds Try.pinned (OpenSpec.upto flowStreamsSpec)

/-- 'mailcoachlaw14.FlowBack', WHERE WHAT IT READS IS OF BULK AT MOST 1048576: true; the input reads as it did. -/
def flowBackUptoRow : OpenClaim := { program := "ytggjkjeenadbfaa", sum := "661f0adb09c2e3617e6a264de0e34193e20e8632275a89d75e412cdd5fa92a2a", func := "mailcoach/mailcoachlaw14.FlowBack", spec := "flowBack", apart := false, narrowed := true }
def FlowBackUptoSaid : Prop := flowBackUptoRow.holds Try.pinned (OpenSpec.upto flowBackSpec)

/-- 'mailcoachlaw14.FlowCredits', WHERE WHAT IT READS IS OF BULK AT MOST 1048576: true; the input reads as it did. -/
def flowCreditsUptoRow : OpenClaim := { program := "ytggjkjeenadbfaa", sum := "661f0adb09c2e3617e6a264de0e34193e20e8632275a89d75e412cdd5fa92a2a", func := "mailcoach/mailcoachlaw14.FlowCredits", spec := "flowCredits", apart := false, narrowed := true }
def FlowCreditsUptoSaid : Prop := flowCreditsUptoRow.holds Try.pinned (OpenSpec.upto flowCreditsSpec)

/-- 'mailcoachlaw14.FlowGoes', WHERE WHAT IT READS IS OF BULK AT MOST 1048576: true; the input reads as it did. -/
def flowGoesUptoRow : OpenClaim := { program := "ytggjkjeenadbfaa", sum := "661f0adb09c2e3617e6a264de0e34193e20e8632275a89d75e412cdd5fa92a2a", func := "mailcoach/mailcoachlaw14.FlowGoes", spec := "flowGoes", apart := false, narrowed := true }
def FlowGoesUptoSaid : Prop := flowGoesUptoRow.holds Try.pinned (OpenSpec.upto flowGoesSpec)

end Rows
end Go.Proofs.Ytggjkjeenadbfaa
