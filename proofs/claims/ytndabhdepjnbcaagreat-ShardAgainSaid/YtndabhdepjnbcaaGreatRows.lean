/-
  No cell of these rows narrows 'for every input' (looked for: loops, veiled, ifaces, maps, wideKeys, modest, calm, conditions, laid).
  DERIVED. THE GIVEN ROWS OF THIS SEAT. 3 by the template 'for every input the law returns true; each argument reads behind the call as it read before'; 0 by the template 'total and deterministic' (their statements: YtndabhdepjnbcaaGreatTotals.lean).
  GIVEN WITH THE SEED: the statements are not yours to turn. If you find one false, say at which input.
  Laid BY PROGRAM, IN A SANDBOX (cutbox-rows.mjs): the forced cells as the released guide's own fill.sh prints them over the translation cb17f7193a2f5977… (all of the seat's roots in one cut). By AI agents, Wed Nov 11 2026. No macro, syntax, notation, axiom, sorry.
-/
import Derived.Test.YtndabhdepjnbcaaGreatChecked
import GoSem.Claim
import GoSem.ClaimJoined
import GoSem.ClaimMapViews
import Derived.JoinedTies
import Derived.KernelRfl
namespace Go.Proofs.YtndabhdepjnbcaaGreat
/- THE CELL 'sum', in the pinned program and in every row, IS THE sha256 OF THE DUMP (.gsa) THAT YtndabhdepjnbcaaGreatProg.lean LOADS. Nothing in Lean hashes anything: it is a label: what it is worth is what the hold of that sum in a sandbox is worth. -/
noncomputable def Tryz.pinned : Pinned := { name := "ytndabhdepjnbcaagreat", sum := "cb17f7193a2f5977ecd24344358cceb53bfd08c9500ad6c1c349246aa043320e", checked := Tryz.checked }
namespace Rows
def none {H : Type} : Left H := { results := [], args := [] }

/-- 'cashboxlaw11.ShardLocal': WHATEVER THE INPUT: true; the input reads as it did. -/
def shardLocalSpec : ChangeSpec := { name := "shardLocal", fn := fun _ => fun
  | [d1, d2] => { results := [.lit (.bool true)], args := [d1, d2] }
  | _ => none }
def shardLocalRow : OpenClaim := { program := "ytndabhdepjnbcaagreat", sum := "cb17f7193a2f5977ecd24344358cceb53bfd08c9500ad6c1c349246aa043320e", func := "cashbox/cashboxlaw11.ShardLocal", spec := "shardLocal", unfollowed := true, recurses := true, apart := false }
def ShardLocalSaid : Prop := shardLocalRow.holds Tryz.pinned (OpenSpec.ofChange shardLocalSpec)

/-- ITS FALSE NEIGHBOUR: 'it returns false'. Refute it at one input. -/
def shardLocalWrong : ChangeSpec := { name := "shardLocal", fn := fun _ => fun
  | [d1, d2] => { results := [.lit (.bool false)], args := [d1, d2] }
  | _ => none }
def ShardLocalWrongFalsely : Prop := shardLocalRow.holds Tryz.pinned (OpenSpec.ofChange shardLocalWrong)

/-- 'cashboxlaw11.ShardNil': WHATEVER THE INPUT: true; the input reads as it did. -/
def shardNilSpec : ChangeSpec := { name := "shardNil", fn := fun _ => fun
  | [d1, d2] => { results := [.lit (.bool true)], args := [d1, d2] }
  | _ => none }
def shardNilRow : OpenClaim := { program := "ytndabhdepjnbcaagreat", sum := "cb17f7193a2f5977ecd24344358cceb53bfd08c9500ad6c1c349246aa043320e", func := "cashbox/cashboxlaw11.ShardNil", spec := "shardNil", unfollowed := true, recurses := true, apart := false }
def ShardNilSaid : Prop := shardNilRow.holds Tryz.pinned (OpenSpec.ofChange shardNilSpec)

/-- ITS FALSE NEIGHBOUR: 'it returns false'. Refute it at one input. -/
def shardNilWrong : ChangeSpec := { name := "shardNil", fn := fun _ => fun
  | [d1, d2] => { results := [.lit (.bool false)], args := [d1, d2] }
  | _ => none }
def ShardNilWrongFalsely : Prop := shardNilRow.holds Tryz.pinned (OpenSpec.ofChange shardNilWrong)

/-- 'cashboxlaw11.ShardAgain': WHATEVER THE INPUT: true; the input reads as it did. -/
def shardAgainSpec : ChangeSpec := { name := "shardAgain", fn := fun _ => fun
  | [d1, d2, d3] => { results := [.lit (.bool true)], args := [d1, d2, d3] }
  | _ => none }
def shardAgainRow : OpenClaim := { program := "ytndabhdepjnbcaagreat", sum := "cb17f7193a2f5977ecd24344358cceb53bfd08c9500ad6c1c349246aa043320e", func := "cashbox/cashboxlaw11.ShardAgain", spec := "shardAgain", unfollowed := true, recurses := true, apart := false }
def ShardAgainSaid : Prop := shardAgainRow.holds Tryz.pinned (OpenSpec.ofChange shardAgainSpec)

/-- ITS FALSE NEIGHBOUR: 'it returns false'. Refute it at one input. -/
def shardAgainWrong : ChangeSpec := { name := "shardAgain", fn := fun _ => fun
  | [d1, d2, d3] => { results := [.lit (.bool false)], args := [d1, d2, d3] }
  | _ => none }
def ShardAgainWrongFalsely : Prop := shardAgainRow.holds Tryz.pinned (OpenSpec.ofChange shardAgainWrong)

/- THE SECOND FORM. 'bulk': how many values and letters a reading holds, each counted each time it is reached (what is shared counts as often as it is met; a slice's spare places count too). A statement '..UptoSaid' is the law's where the arguments, and the package variables that the reading takes, are together of bulk at most 1048576: NARROWER than '..Said'. Prove '..Said' where nothing that the law and all that it calls make is longer than what came in: it says more and counts as full. Else prove '..UptoSaid'. A law counts once. -/
mutual
def uptoBulk {H : Type} : DataW H → Nat
  | .lit (.string bytes) => bytes.length + 1
  | .lit _ => 1
  | .nil => 1
  | .ptr d => uptoBulk d + 1
  | .slice elems spare => uptoBulkAll elems + uptoBulkAll spare + 1
  | .agg parts => uptoBulkAll parts + 1
  | .iface _ d => uptoBulk d + 1
  | .map entries => uptoBulkEntries entries + 1
  | .held _ => 1
def uptoBulkAll {H : Type} : List (DataW H) → Nat
  | [] => 0
  | d :: r => uptoBulk d + uptoBulkAll r
def uptoBulkEntries {H : Type} : List (Lit × DataW H) → Nat
  | [] => 0
  | x :: r => uptoBulkEntry x + uptoBulkEntries r
def uptoBulkEntry {H : Type} : Lit × DataW H → Nat
  | (.string bytes, d) => bytes.length + uptoBulk d + 1
  | (_, d) => uptoBulk d + 1
 end
def uptoSmall : (H : Type) → List (DataW H) → Bool := fun _ ds => decide (uptoBulkAll ds ≤ 1048576)
def OpenSpec.upto (s : _root_.Go.ChangeSpec) : _root_.Go.OpenSpec := { _root_.Go.OpenSpec.ofChange s with cond := some uptoSmall }

/-- 'cashboxlaw11.ShardLocal', WHERE WHAT IT READS IS OF BULK AT MOST 1048576: true; the input reads as it did. -/
def shardLocalUptoRow : OpenClaim := { program := "ytndabhdepjnbcaagreat", sum := "cb17f7193a2f5977ecd24344358cceb53bfd08c9500ad6c1c349246aa043320e", func := "cashbox/cashboxlaw11.ShardLocal", spec := "shardLocal", unfollowed := true, recurses := true, apart := false, narrowed := true }
def ShardLocalUptoSaid : Prop := shardLocalUptoRow.holds Tryz.pinned (OpenSpec.upto shardLocalSpec)

/-- 'cashboxlaw11.ShardNil', WHERE WHAT IT READS IS OF BULK AT MOST 1048576: true; the input reads as it did. -/
def shardNilUptoRow : OpenClaim := { program := "ytndabhdepjnbcaagreat", sum := "cb17f7193a2f5977ecd24344358cceb53bfd08c9500ad6c1c349246aa043320e", func := "cashbox/cashboxlaw11.ShardNil", spec := "shardNil", unfollowed := true, recurses := true, apart := false, narrowed := true }
def ShardNilUptoSaid : Prop := shardNilUptoRow.holds Tryz.pinned (OpenSpec.upto shardNilSpec)

/-- 'cashboxlaw11.ShardAgain', WHERE WHAT IT READS IS OF BULK AT MOST 1048576: true; the input reads as it did. -/
def shardAgainUptoRow : OpenClaim := { program := "ytndabhdepjnbcaagreat", sum := "cb17f7193a2f5977ecd24344358cceb53bfd08c9500ad6c1c349246aa043320e", func := "cashbox/cashboxlaw11.ShardAgain", spec := "shardAgain", unfollowed := true, recurses := true, apart := false, narrowed := true }
def ShardAgainUptoSaid : Prop := shardAgainUptoRow.holds Tryz.pinned (OpenSpec.upto shardAgainSpec)

end Rows
end Go.Proofs.YtndabhdepjnbcaaGreat
