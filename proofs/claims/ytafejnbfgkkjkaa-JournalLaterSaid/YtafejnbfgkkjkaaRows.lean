/-
  No cell of these rows narrows 'for every input' (looked for: loops, veiled, ifaces, maps, wideKeys, modest, calm, conditions, laid).
  DERIVED. THE GIVEN ROWS OF THIS SEAT. 4 by the template 'for every input the law returns true; each argument reads behind the call as it read before'; 0 by the template 'total and deterministic' (their statements: YtafejnbfgkkjkaaTotals.lean).
  GIVEN WITH THE SEED: the statements are not yours to turn. If you find one false, say at which input.
  Laid BY PROGRAM, IN A SANDBOX (cutbox-rows.mjs): the forced cells as the released guide's own fill.sh prints them over the translation 774ad8d49e313cec… (all of the seat's roots in one cut). By AI agents, Wed Nov 11 2026. No macro, syntax, notation, axiom, sorry.
-/
import Derived.Test.YtafejnbfgkkjkaaChecked
import GoSem.Claim
import GoSem.ClaimJoined
import GoSem.ClaimMapViews
import Derived.JoinedTies
import Derived.KernelRfl
namespace Go.Proofs.Ytafejnbfgkkjkaa
/- THE CELL 'sum', in the pinned program and in every row, IS THE sha256 OF THE DUMP (.gsa) THAT YtafejnbfgkkjkaaProg.lean LOADS. Nothing in Lean hashes anything: it is a label: what it is worth is what the hold of that sum in a sandbox is worth. -/
noncomputable def Try.pinned : Pinned := { name := "ytafejnbfgkkjkaa", sum := "774ad8d49e313cecd31adbb38ccf85d3a9852d664ebd196f267e64058e9e39e4", checked := Try.checked }
namespace Rows
def none {H : Type} : Left H := { results := [], args := [] }

/-- 'cashboxlaw06.JournalTails': WHATEVER THE INPUT: true; the input reads as it did. -/
def journalTailsSpec : ChangeSpec := { name := "journalTails", fn := fun _ => fun
  | [d1, d2] => { results := [.lit (.bool true)], args := [d1, d2] }
  | _ => none }
def journalTailsRow : OpenClaim := { program := "ytafejnbfgkkjkaa", sum := "774ad8d49e313cecd31adbb38ccf85d3a9852d664ebd196f267e64058e9e39e4", func := "cashbox/cashboxlaw06.JournalTails", spec := "journalTails", unfollowed := true, recurses := true, apart := false }
def JournalTailsSaid : Prop := journalTailsRow.holds Try.pinned (OpenSpec.ofChange journalTailsSpec)

/-- ITS FALSE NEIGHBOUR: 'it returns false'. Refute it at one input. -/
def journalTailsWrong : ChangeSpec := { name := "journalTails", fn := fun _ => fun
  | [d1, d2] => { results := [.lit (.bool false)], args := [d1, d2] }
  | _ => none }
def JournalTailsWrongFalsely : Prop := journalTailsRow.holds Try.pinned (OpenSpec.ofChange journalTailsWrong)

/-- 'cashboxlaw06.JournalLater': WHATEVER THE INPUT: true; the input reads as it did. -/
def journalLaterSpec : ChangeSpec := { name := "journalLater", fn := fun _ => fun
  | [d1, d2, d3, d4] => { results := [.lit (.bool true)], args := [d1, d2, d3, d4] }
  | _ => none }
def journalLaterRow : OpenClaim := { program := "ytafejnbfgkkjkaa", sum := "774ad8d49e313cecd31adbb38ccf85d3a9852d664ebd196f267e64058e9e39e4", func := "cashbox/cashboxlaw06.JournalLater", spec := "journalLater", unfollowed := true, recurses := true, apart := false }
def JournalLaterSaid : Prop := journalLaterRow.holds Try.pinned (OpenSpec.ofChange journalLaterSpec)

/-- ITS FALSE NEIGHBOUR: 'it returns false'. Refute it at one input. -/
def journalLaterWrong : ChangeSpec := { name := "journalLater", fn := fun _ => fun
  | [d1, d2, d3, d4] => { results := [.lit (.bool false)], args := [d1, d2, d3, d4] }
  | _ => none }
def JournalLaterWrongFalsely : Prop := journalLaterRow.holds Try.pinned (OpenSpec.ofChange journalLaterWrong)

/-- 'cashboxlaw06.JournalFinds': WHATEVER THE INPUT: true; the input reads as it did. -/
def journalFindsSpec : ChangeSpec := { name := "journalFinds", fn := fun _ => fun
  | [d1, d2, d3, d4] => { results := [.lit (.bool true)], args := [d1, d2, d3, d4] }
  | _ => none }
def journalFindsRow : OpenClaim := { program := "ytafejnbfgkkjkaa", sum := "774ad8d49e313cecd31adbb38ccf85d3a9852d664ebd196f267e64058e9e39e4", func := "cashbox/cashboxlaw06.JournalFinds", spec := "journalFinds", unfollowed := true, recurses := true, apart := false }
def JournalFindsSaid : Prop := journalFindsRow.holds Try.pinned (OpenSpec.ofChange journalFindsSpec)

/-- ITS FALSE NEIGHBOUR: 'it returns false'. Refute it at one input. -/
def journalFindsWrong : ChangeSpec := { name := "journalFinds", fn := fun _ => fun
  | [d1, d2, d3, d4] => { results := [.lit (.bool false)], args := [d1, d2, d3, d4] }
  | _ => none }
def JournalFindsWrongFalsely : Prop := journalFindsRow.holds Try.pinned (OpenSpec.ofChange journalFindsWrong)

/-- 'cashboxlaw06.JournalSays': WHATEVER THE INPUT: true; the input reads as it did. -/
def journalSaysSpec : ChangeSpec := { name := "journalSays", fn := fun _ => fun
  | [d1, d2, d3] => { results := [.lit (.bool true)], args := [d1, d2, d3] }
  | _ => none }
def journalSaysRow : OpenClaim := { program := "ytafejnbfgkkjkaa", sum := "774ad8d49e313cecd31adbb38ccf85d3a9852d664ebd196f267e64058e9e39e4", func := "cashbox/cashboxlaw06.JournalSays", spec := "journalSays", unfollowed := true, recurses := true, apart := false }
def JournalSaysSaid : Prop := journalSaysRow.holds Try.pinned (OpenSpec.ofChange journalSaysSpec)

/-- ITS FALSE NEIGHBOUR: 'it returns false'. Refute it at one input. -/
def journalSaysWrong : ChangeSpec := { name := "journalSays", fn := fun _ => fun
  | [d1, d2, d3] => { results := [.lit (.bool false)], args := [d1, d2, d3] }
  | _ => none }
def JournalSaysWrongFalsely : Prop := journalSaysRow.holds Try.pinned (OpenSpec.ofChange journalSaysWrong)

/- THE SECOND FORM. 'bulk': how many values and letters a reading holds, each counted each time it is reached (what is shared counts as often as it is met; a slice's spare places count too). A statement '..UptoSaid' is the law's where the arguments, and the package variables that the reading takes, are together of bulk at most 1048576: NARROWER than '..Said'. Prove '..Said' where nothing that the law and all that it calls make is longer than what came in: it says more and counts as full. Else prove '..UptoSaid'. A law counts once. -/
mutual
def uptoBulk {H : Type} : DataW H → Nat
  | .lit (.string bytes) => bytes.length + 1
  | .lit _ => 1
  | .nil => 1
  | .ptr d => uptoBulk d + 1
  | .slice elems spare => uptoBulkAll elems + uptoBulkAll spare + 1
  | .agg parts => uptoBulkAll parts + 1
  | .iface _ d => uptoBulk d + 1
  | .map entries => uptoBulkEntries entries + 1
  | .held _ => 1
def uptoBulkAll {H : Type} : List (DataW H) → Nat
  | [] => 0
  | d :: r => uptoBulk d + uptoBulkAll r
def uptoBulkEntries {H : Type} : List (Lit × DataW H) → Nat
  | [] => 0
  | x :: r => uptoBulkEntry x + uptoBulkEntries r
def uptoBulkEntry {H : Type} : Lit × DataW H → Nat
  | (.string bytes, d) => bytes.length + uptoBulk d + 1
  | (_, d) => uptoBulk d + 1
 end
def uptoSmall : (H : Type) → List (DataW H) → Bool := fun _ ds => decide (uptoBulkAll ds ≤ 1048576)
def OpenSpec.upto (s : _root_.Go.ChangeSpec) : _root_.Go.OpenSpec := { _root_.Go.OpenSpec.ofChange s with cond := some uptoSmall }

/-- 'cashboxlaw06.JournalTails', WHERE WHAT IT READS IS OF BULK AT MOST 1048576: true; the input reads as it did. -/
def journalTailsUptoRow : OpenClaim := { program := "ytafejnbfgkkjkaa", sum := "774ad8d49e313cecd31adbb38ccf85d3a9852d664ebd196f267e64058e9e39e4", func := "cashbox/cashboxlaw06.JournalTails", spec := "journalTails", unfollowed := true, recurses := true, apart := false, narrowed := true }
def JournalTailsUptoSaid : Prop := journalTailsUptoRow.holds Try.pinned (OpenSpec.upto journalTailsSpec)

/-- 'cashboxlaw06.JournalLater', WHERE WHAT IT READS IS OF BULK AT MOST 1048576: true; the input reads as it did. -/
def journalLaterUptoRow : OpenClaim := { program := "ytafejnbfgkkjkaa", sum := "774ad8d49e313cecd31adbb38ccf85d3a9852d664ebd196f267e64058e9e39e4", func := "cashbox/cashboxlaw06.JournalLater", spec := "journalLater", unfollowed := true, recurses := true, apart := false, narrowed := true }
def JournalLaterUptoSaid : Prop := journalLaterUptoRow.holds Try.pinned (OpenSpec.upto journalLaterSpec)

/-- 'cashboxlaw06.JournalFinds', WHERE WHAT IT READS IS OF BULK AT MOST 1048576: true; the input reads as it did. -/
def journalFindsUptoRow : OpenClaim := { program := "ytafejnbfgkkjkaa", sum := "774ad8d49e313cecd31adbb38ccf85d3a9852d664ebd196f267e64058e9e39e4", func := "cashbox/cashboxlaw06.JournalFinds", spec := "journalFinds", unfollowed := true, recurses := true, apart := false, narrowed := true }
def JournalFindsUptoSaid : Prop := journalFindsUptoRow.holds Try.pinned (OpenSpec.upto journalFindsSpec)

/-- 'cashboxlaw06.JournalSays', WHERE WHAT IT READS IS OF BULK AT MOST 1048576: true; the input reads as it did. -/
def journalSaysUptoRow : OpenClaim := { program := "ytafejnbfgkkjkaa", sum := "774ad8d49e313cecd31adbb38ccf85d3a9852d664ebd196f267e64058e9e39e4", func := "cashbox/cashboxlaw06.JournalSays", spec := "journalSays", unfollowed := true, recurses := true, apart := false, narrowed := true }
def JournalSaysUptoSaid : Prop := journalSaysUptoRow.holds Try.pinned (OpenSpec.upto journalSaysSpec)

end Rows
end Go.Proofs.Ytafejnbfgkkjkaa
