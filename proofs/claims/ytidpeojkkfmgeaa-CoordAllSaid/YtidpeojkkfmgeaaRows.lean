/-
  No cell of these rows narrows 'for every input' (looked for: loops, veiled, ifaces, maps, wideKeys, modest, calm, conditions, laid).
  DERIVED. THE GIVEN ROWS OF THIS SEAT. 3 by the template 'for every input the law returns true; each argument reads behind the call as it read before'; 0 by the template 'total and deterministic' (their statements: YtidpeojkkfmgeaaTotals.lean).
  GIVEN WITH THE SEED: the statements are not yours to turn. If you find one false, say at which input.
  Laid BY PROGRAM, IN A SANDBOX (cutbox-rows.mjs): the forced cells as the released guide's own fill.sh prints them over the translation 144f78f6a2a882ac… (all of the seat's roots in one cut). By AI agents, Wed Nov 11 2026. No macro, syntax, notation, axiom, sorry.
-/
import Derived.Test.YtidpeojkkfmgeaaChecked
import GoSem.Claim
import GoSem.ClaimJoined
import GoSem.ClaimMapViews
import Derived.JoinedTies
import Derived.KernelRfl
namespace Go.Proofs.Ytidpeojkkfmgeaa
/- THE CELL 'sum', in the pinned program and in every row, IS THE sha256 OF THE DUMP (.gsa) THAT YtidpeojkkfmgeaaProg.lean LOADS. Nothing in Lean hashes anything: it is a label: what it is worth is what the hold of that sum in a sandbox is worth. -/
noncomputable def Try.pinned : Pinned := { name := "ytidpeojkkfmgeaa", sum := "144f78f6a2a882aca61a6541d3578ab5b221e8884b0b12140b22bc3ebc29b096", checked := Try.checked }
namespace Rows
def none {H : Type} : Left H := { results := [], args := [] }

/-- 'cashboxlaw21.CoordAsks': WHATEVER THE INPUT: true; the input reads as it did. -/
def coordAsksSpec : ChangeSpec := { name := "coordAsks", fn := fun _ => fun
  | [d1, d2, d3] => { results := [.lit (.bool true)], args := [d1, d2, d3] }
  | _ => none }
def coordAsksRow : OpenClaim := { program := "ytidpeojkkfmgeaa", sum := "144f78f6a2a882aca61a6541d3578ab5b221e8884b0b12140b22bc3ebc29b096", func := "cashbox/cashboxlaw21.CoordAsks", spec := "coordAsks", inPlace := ["slices.overlaps[cashbox/api.Driven]"], unfollowed := true, recurses := true, apart := false }
def CoordAsksSaid : Prop := coordAsksRow.holds Try.pinned (OpenSpec.ofChange coordAsksSpec)

/-- ITS FALSE NEIGHBOUR: 'it returns false'. Refute it at one input. -/
def coordAsksWrong : ChangeSpec := { name := "coordAsks", fn := fun _ => fun
  | [d1, d2, d3] => { results := [.lit (.bool false)], args := [d1, d2, d3] }
  | _ => none }
def CoordAsksWrongFalsely : Prop := coordAsksRow.holds Try.pinned (OpenSpec.ofChange coordAsksWrong)

/-- 'cashboxlaw21.CoordAll': WHATEVER THE INPUT: true; the input reads as it did. -/
def coordAllSpec : ChangeSpec := { name := "coordAll", fn := fun _ => fun
  | [d1, d2, d3] => { results := [.lit (.bool true)], args := [d1, d2, d3] }
  | _ => none }
def coordAllRow : OpenClaim := { program := "ytidpeojkkfmgeaa", sum := "144f78f6a2a882aca61a6541d3578ab5b221e8884b0b12140b22bc3ebc29b096", func := "cashbox/cashboxlaw21.CoordAll", spec := "coordAll", inPlace := ["slices.overlaps[cashbox/api.Driven]"], unfollowed := true, recurses := true, apart := false }
def CoordAllSaid : Prop := coordAllRow.holds Try.pinned (OpenSpec.ofChange coordAllSpec)

/-- ITS FALSE NEIGHBOUR: 'it returns false'. Refute it at one input. -/
def coordAllWrong : ChangeSpec := { name := "coordAll", fn := fun _ => fun
  | [d1, d2, d3] => { results := [.lit (.bool false)], args := [d1, d2, d3] }
  | _ => none }
def CoordAllWrongFalsely : Prop := coordAllRow.holds Try.pinned (OpenSpec.ofChange coordAllWrong)

/-- 'cashboxlaw21.CoordTicks': WHATEVER THE INPUT: true; the input reads as it did. -/
def coordTicksSpec : ChangeSpec := { name := "coordTicks", fn := fun _ => fun
  | [d] => { results := [.lit (.bool true)], args := [d] }
  | _ => none }
def coordTicksRow : OpenClaim := { program := "ytidpeojkkfmgeaa", sum := "144f78f6a2a882aca61a6541d3578ab5b221e8884b0b12140b22bc3ebc29b096", func := "cashbox/cashboxlaw21.CoordTicks", spec := "coordTicks", inPlace := ["slices.overlaps[cashbox/api.Driven]"], unfollowed := true, recurses := true, apart := false }
def CoordTicksSaid : Prop := coordTicksRow.holds Try.pinned (OpenSpec.ofChange coordTicksSpec)

/-- ITS FALSE NEIGHBOUR: 'it returns false'. Refute it at one input. -/
def coordTicksWrong : ChangeSpec := { name := "coordTicks", fn := fun _ => fun
  | [d] => { results := [.lit (.bool false)], args := [d] }
  | _ => none }
def CoordTicksWrongFalsely : Prop := coordTicksRow.holds Try.pinned (OpenSpec.ofChange coordTicksWrong)

/- THE SECOND FORM. 'bulk': how many values and letters a reading holds, each counted each time it is reached (what is shared counts as often as it is met; a slice's spare places count too). A statement '..UptoSaid' is the law's where the arguments, and the package variables that the reading takes, are together of bulk at most 1048576: NARROWER than '..Said'. Prove '..Said' where nothing that the law and all that it calls make is longer than what came in: it says more and counts as full. Else prove '..UptoSaid'. A law counts once. -/
mutual
def uptoBulk {H : Type} : DataW H → Nat
  | .lit (.string bytes) => bytes.length + 1
  | .lit _ => 1
  | .nil => 1
  | .ptr d => uptoBulk d + 1
  | .slice elems spare => uptoBulkAll elems + uptoBulkAll spare + 1
  | .agg parts => uptoBulkAll parts + 1
  | .iface _ d => uptoBulk d + 1
  | .map entries => uptoBulkEntries entries + 1
  | .held _ => 1
def uptoBulkAll {H : Type} : List (DataW H) → Nat
  | [] => 0
  | d :: r => uptoBulk d + uptoBulkAll r
def uptoBulkEntries {H : Type} : List (Lit × DataW H) → Nat
  | [] => 0
  | x :: r => uptoBulkEntry x + uptoBulkEntries r
def uptoBulkEntry {H : Type} : Lit × DataW H → Nat
  | (.string bytes, d) => bytes.length + uptoBulk d + 1
  | (_, d) => uptoBulk d + 1
 end
def uptoSmall : (H : Type) → List (DataW H) → Bool := fun _ ds => decide (uptoBulkAll ds ≤ 1048576)
def OpenSpec.upto (s : _root_.Go.ChangeSpec) : _root_.Go.OpenSpec := { _root_.Go.OpenSpec.ofChange s with cond := some uptoSmall }

/-- 'cashboxlaw21.CoordAsks', WHERE WHAT IT READS IS OF BULK AT MOST 1048576: true; the input reads as it did. -/
def coordAsksUptoRow : OpenClaim := { program := "ytidpeojkkfmgeaa", sum := "144f78f6a2a882aca61a6541d3578ab5b221e8884b0b12140b22bc3ebc29b096", func := "cashbox/cashboxlaw21.CoordAsks", spec := "coordAsks", inPlace := ["slices.overlaps[cashbox/api.Driven]"], unfollowed := true, recurses := true, apart := false, narrowed := true }
def CoordAsksUptoSaid : Prop := coordAsksUptoRow.holds Try.pinned (OpenSpec.upto coordAsksSpec)

/-- 'cashboxlaw21.CoordAll', WHERE WHAT IT READS IS OF BULK AT MOST 1048576: true; the input reads as it did. -/
def coordAllUptoRow : OpenClaim := { program := "ytidpeojkkfmgeaa", sum := "144f78f6a2a882aca61a6541d3578ab5b221e8884b0b12140b22bc3ebc29b096", func := "cashbox/cashboxlaw21.CoordAll", spec := "coordAll", inPlace := ["slices.overlaps[cashbox/api.Driven]"], unfollowed := true, recurses := true, apart := false, narrowed := true }
def CoordAllUptoSaid : Prop := coordAllUptoRow.holds Try.pinned (OpenSpec.upto coordAllSpec)

/-- 'cashboxlaw21.CoordTicks', WHERE WHAT IT READS IS OF BULK AT MOST 1048576: true; the input reads as it did. -/
def coordTicksUptoRow : OpenClaim := { program := "ytidpeojkkfmgeaa", sum := "144f78f6a2a882aca61a6541d3578ab5b221e8884b0b12140b22bc3ebc29b096", func := "cashbox/cashboxlaw21.CoordTicks", spec := "coordTicks", inPlace := ["slices.overlaps[cashbox/api.Driven]"], unfollowed := true, recurses := true, apart := false, narrowed := true }
def CoordTicksUptoSaid : Prop := coordTicksUptoRow.holds Try.pinned (OpenSpec.upto coordTicksSpec)

end Rows
end Go.Proofs.Ytidpeojkkfmgeaa
