/-
  '==' and '!=' on names, blocks' values, writes.
-/
import Derived.Test.YtcbofgcmfkcglaaData
import Derived.ChangeKeysEq
namespace Go.Proofs.Ytcbofgcmfkcglaa
open Go.RowKit Go.Sort

abbrev V8.cells (a : V8) : Array Value := #[.int .u8 (a.v0.toNat : Int), .int .u8 (a.v1.toNat : Int), .int .u8 (a.v2.toNat : Int), .int .u8 (a.v3.toNat : Int), .int .u8 (a.v4.toNat : Int), .int .u8 (a.v5.toNat : Int), .int .u8 (a.v6.toNat : Int), .int .u8 (a.v7.toNat : Int)]
abbrev Wr.cells (a : Wr) : Array Value := #[.int .i64 a.block, .int .u8 (a.val.v0.toNat : Int), .int .u8 (a.val.v1.toNat : Int), .int .u8 (a.val.v2.toNat : Int), .int .u8 (a.val.v3.toNat : Int), .int .u8 (a.val.v4.toNat : Int), .int .u8 (a.val.v5.toNat : Int), .int .u8 (a.val.v6.toNat : Int), .int .u8 (a.val.v7.toNat : Int)]

theorem equalNm (d : Nat) (a b : Nm) (w : World) : (Op.equalIn (d + 2) 23 (.agg a.cells) (.agg b.cells)).run Try.prog w = .ok (a.eqb b) w := by
  simp [go_sem, Nm.eqb]
  (repeat' split) <;> simp_all
theorem eqlNm (a b : Nm) (w : World) : (binOp .eql 23 (.agg a.cells) (.agg b.cells)).run Try.prog w = .ok (.bool (a.eqb b)) w := by
  rw [run_eql_struct, equalNm]; rfl
theorem neqNm (a b : Nm) (w : World) : (binOp .neq 23 (.agg a.cells) (.agg b.cells)).run Try.prog w = .ok (.bool (!a.eqb b)) w := by
  rw [run_neq_struct, equalNm]; rfl


end Go.Proofs.Ytcbofgcmfkcglaa
