/-
  No cell of these rows narrows 'for every input' (looked for: loops, veiled, ifaces, maps, wideKeys, modest, calm, conditions, laid).
  DERIVED. THE GIVEN ROWS OF THIS SEAT. 3 by the template 'for every input the law returns true; each argument reads behind the call as it read before'; 0 by the template 'total and deterministic' (their statements: YtdcihmdchabcnaaTotals.lean).
  GIVEN WITH THE SEED: the statements are not yours to turn. If you find one false, say at which input.
  Laid BY PROGRAM, IN A SANDBOX (cutbox-rows.mjs): the forced cells as the released guide's own fill.sh prints them over the translation a127ead08b97cfd3… (all of the seat's roots in one cut). By AI agents, Wed Nov 11 2026. No macro, syntax, notation, axiom, sorry.
-/
import Derived.Test.YtdcihmdchabcnaaChecked
import GoSem.Claim
import GoSem.ClaimJoined
import GoSem.ClaimMapViews
import Derived.JoinedTies
import Derived.KernelRfl
namespace Go.Proofs.Ytdcihmdchabcnaa
/- THE CELL 'sum', in the pinned program and in every row, IS THE sha256 OF THE DUMP (.gsa) THAT YtdcihmdchabcnaaProg.lean LOADS. Nothing in Lean hashes anything: it is a label: what it is worth is what the hold of that sum in a sandbox is worth. -/
noncomputable def Try.pinned : Pinned := { name := "ytdcihmdchabcnaa", sum := "a127ead08b97cfd3e7b516f727d0e6f038bb19a20f77ba7c23778b654d670c5c", checked := Try.checked }
namespace Rows
def none {H : Type} : Left H := { results := [], args := [] }

/-- 'cashboxlaw17.EpochRises': WHATEVER THE INPUT: true; the input reads as it did. -/
def epochRisesSpec : ChangeSpec := { name := "epochRises", fn := fun _ => fun
  | [d1, d2] => { results := [.lit (.bool true)], args := [d1, d2] }
  | _ => none }
def epochRisesRow : OpenClaim := { program := "ytdcihmdchabcnaa", sum := "a127ead08b97cfd3e7b516f727d0e6f038bb19a20f77ba7c23778b654d670c5c", func := "cashbox/cashboxlaw17.EpochRises", spec := "epochRises", unfollowed := true, recurses := true, apart := false }
def EpochRisesSaid : Prop := epochRisesRow.holds Try.pinned (OpenSpec.ofChange epochRisesSpec)

/-- ITS FALSE NEIGHBOUR: 'it returns false'. Refute it at one input. -/
def epochRisesWrong : ChangeSpec := { name := "epochRises", fn := fun _ => fun
  | [d1, d2] => { results := [.lit (.bool false)], args := [d1, d2] }
  | _ => none }
def EpochRisesWrongFalsely : Prop := epochRisesRow.holds Try.pinned (OpenSpec.ofChange epochRisesWrong)

/-- 'cashboxlaw17.EpochOld': WHATEVER THE INPUT: true; the input reads as it did. -/
def epochOldSpec : ChangeSpec := { name := "epochOld", fn := fun _ => fun
  | [d1, d2] => { results := [.lit (.bool true)], args := [d1, d2] }
  | _ => none }
def epochOldRow : OpenClaim := { program := "ytdcihmdchabcnaa", sum := "a127ead08b97cfd3e7b516f727d0e6f038bb19a20f77ba7c23778b654d670c5c", func := "cashbox/cashboxlaw17.EpochOld", spec := "epochOld", unfollowed := true, recurses := true, apart := false }
def EpochOldSaid : Prop := epochOldRow.holds Try.pinned (OpenSpec.ofChange epochOldSpec)

/-- ITS FALSE NEIGHBOUR: 'it returns false'. Refute it at one input. -/
def epochOldWrong : ChangeSpec := { name := "epochOld", fn := fun _ => fun
  | [d1, d2] => { results := [.lit (.bool false)], args := [d1, d2] }
  | _ => none }
def EpochOldWrongFalsely : Prop := epochOldRow.holds Try.pinned (OpenSpec.ofChange epochOldWrong)

/-- 'cashboxlaw17.EpochMeets': WHATEVER THE INPUT: true; the input reads as it did. -/
def epochMeetsSpec : ChangeSpec := { name := "epochMeets", fn := fun _ => fun
  | [d1, d2, d3] => { results := [.lit (.bool true)], args := [d1, d2, d3] }
  | _ => none }
def epochMeetsRow : OpenClaim := { program := "ytdcihmdchabcnaa", sum := "a127ead08b97cfd3e7b516f727d0e6f038bb19a20f77ba7c23778b654d670c5c", func := "cashbox/cashboxlaw17.EpochMeets", spec := "epochMeets", unfollowed := true, recurses := true, apart := false }
def EpochMeetsSaid : Prop := epochMeetsRow.holds Try.pinned (OpenSpec.ofChange epochMeetsSpec)

/-- ITS FALSE NEIGHBOUR: 'it returns false'. Refute it at one input. -/
def epochMeetsWrong : ChangeSpec := { name := "epochMeets", fn := fun _ => fun
  | [d1, d2, d3] => { results := [.lit (.bool false)], args := [d1, d2, d3] }
  | _ => none }
def EpochMeetsWrongFalsely : Prop := epochMeetsRow.holds Try.pinned (OpenSpec.ofChange epochMeetsWrong)

/- THE SECOND FORM. 'bulk': how many values and letters a reading holds, each counted each time it is reached (what is shared counts as often as it is met; a slice's spare places count too). A statement '..UptoSaid' is the law's where the arguments, and the package variables that the reading takes, are together of bulk at most 1048576: NARROWER than '..Said'. Prove '..Said' where nothing that the law and all that it calls make is longer than what came in: it says more and counts as full. Else prove '..UptoSaid'. A law counts once. -/
mutual
def uptoBulk {H : Type} : DataW H → Nat
  | .lit (.string bytes) => bytes.length + 1
  | .lit _ => 1
  | .nil => 1
  | .ptr d => uptoBulk d + 1
  | .slice elems spare => uptoBulkAll elems + uptoBulkAll spare + 1
  | .agg parts => uptoBulkAll parts + 1
  | .iface _ d => uptoBulk d + 1
  | .map entries => uptoBulkEntries entries + 1
  | .held _ => 1
def uptoBulkAll {H : Type} : List (DataW H) → Nat
  | [] => 0
  | d :: r => uptoBulk d + uptoBulkAll r
def uptoBulkEntries {H : Type} : List (Lit × DataW H) → Nat
  | [] => 0
  | x :: r => uptoBulkEntry x + uptoBulkEntries r
def uptoBulkEntry {H : Type} : Lit × DataW H → Nat
  | (.string bytes, d) => bytes.length + uptoBulk d + 1
  | (_, d) => uptoBulk d + 1
 end
def uptoSmall : (H : Type) → List (DataW H) → Bool := fun _ ds => decide (uptoBulkAll ds ≤ 1048576)
def OpenSpec.upto (s : _root_.Go.ChangeSpec) : _root_.Go.OpenSpec := { _root_.Go.OpenSpec.ofChange s with cond := some uptoSmall }

/-- 'cashboxlaw17.EpochRises', WHERE WHAT IT READS IS OF BULK AT MOST 1048576: true; the input reads as it did. -/
def epochRisesUptoRow : OpenClaim := { program := "ytdcihmdchabcnaa", sum := "a127ead08b97cfd3e7b516f727d0e6f038bb19a20f77ba7c23778b654d670c5c", func := "cashbox/cashboxlaw17.EpochRises", spec := "epochRises", unfollowed := true, recurses := true, apart := false, narrowed := true }
def EpochRisesUptoSaid : Prop := epochRisesUptoRow.holds Try.pinned (OpenSpec.upto epochRisesSpec)

/-- 'cashboxlaw17.EpochOld', WHERE WHAT IT READS IS OF BULK AT MOST 1048576: true; the input reads as it did. -/
def epochOldUptoRow : OpenClaim := { program := "ytdcihmdchabcnaa", sum := "a127ead08b97cfd3e7b516f727d0e6f038bb19a20f77ba7c23778b654d670c5c", func := "cashbox/cashboxlaw17.EpochOld", spec := "epochOld", unfollowed := true, recurses := true, apart := false, narrowed := true }
def EpochOldUptoSaid : Prop := epochOldUptoRow.holds Try.pinned (OpenSpec.upto epochOldSpec)

/-- 'cashboxlaw17.EpochMeets', WHERE WHAT IT READS IS OF BULK AT MOST 1048576: true; the input reads as it did. -/
def epochMeetsUptoRow : OpenClaim := { program := "ytdcihmdchabcnaa", sum := "a127ead08b97cfd3e7b516f727d0e6f038bb19a20f77ba7c23778b654d670c5c", func := "cashbox/cashboxlaw17.EpochMeets", spec := "epochMeets", unfollowed := true, recurses := true, apart := false, narrowed := true }
def EpochMeetsUptoSaid : Prop := epochMeetsUptoRow.holds Try.pinned (OpenSpec.upto epochMeetsSpec)

end Rows
end Go.Proofs.Ytdcihmdchabcnaa
