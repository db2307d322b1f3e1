/-
  '==' and '!=' on names, blocks' values, writes.
-/
import Derived.Test.YtgngbdhdnnkncaaData
import Derived.ChangeKeysEq
namespace Go.Proofs.Ytgngbdhdnnkncaa
open Go.RowKit Go.Sort

theorem Try.cellsByte : Try.prog.cellsOf 5 = 1 := by kernel_rfl
theorem Try.hasInfoByte : (Try.prog.info? 5).isSome = true := by kernel_rfl

abbrev V8.cells (a : V8) : Array Value := #[.int .u8 (a.v0.toNat : Int), .int .u8 (a.v1.toNat : Int), .int .u8 (a.v2.toNat : Int), .int .u8 (a.v3.toNat : Int), .int .u8 (a.v4.toNat : Int), .int .u8 (a.v5.toNat : Int), .int .u8 (a.v6.toNat : Int), .int .u8 (a.v7.toNat : Int)]
abbrev Wr.cells (a : Wr) : Array Value := #[.int .i64 a.block, .int .u8 (a.val.v0.toNat : Int), .int .u8 (a.val.v1.toNat : Int), .int .u8 (a.val.v2.toNat : Int), .int .u8 (a.val.v3.toNat : Int), .int .u8 (a.val.v4.toNat : Int), .int .u8 (a.val.v5.toNat : Int), .int .u8 (a.val.v6.toNat : Int), .int .u8 (a.val.v7.toNat : Int)]

theorem equalV8 (d : Nat) (a b : V8) (w : World) : (Op.equalIn (d + 2) 23 (.agg a.cells) (.agg b.cells)).run Try.prog w = .ok (a.eqb b) w := by
  obtain ⟨i, hi⟩ := Option.isSome_iff_exists.1 Try.hasInfoByte
  rw [run_equalIn_array w (d + 1) _ _ Try.underlying23 hi, Try.cellsByte]
  simp only [List.range, List.range.loop, Op.eqItems, part, isAgg, Sem.run_bind, run_underlying Try.underlying5, Result.andThen_ok]
  simp [run_equalIn_int w d 5 .u8 .u8 _ _ Try.underlying5, V8.eqb]
  (repeat' split) <;> simp_all

theorem eqlV8 (a b : V8) (w : World) : (binOp .eql 23 (.agg a.cells) (.agg b.cells)).run Try.prog w = .ok (.bool (a.eqb b)) w := by
  rw [run_eql_struct, equalV8]; rfl
theorem neqV8 (a b : V8) (w : World) : (binOp .neq 23 (.agg a.cells) (.agg b.cells)).run Try.prog w = .ok (.bool (!a.eqb b)) w := by
  rw [run_neq_struct, equalV8]; rfl

theorem equalNm (d : Nat) (a b : Nm) (w : World) : (Op.equalIn (d + 2) 34 (.agg a.cells) (.agg b.cells)).run Try.prog w = .ok (a.eqb b) w := by
  simp [go_sem, Nm.eqb]
  (repeat' split) <;> simp_all
theorem eqlNm (a b : Nm) (w : World) : (binOp .eql 34 (.agg a.cells) (.agg b.cells)).run Try.prog w = .ok (.bool (a.eqb b)) w := by
  rw [run_eql_struct, equalNm]; rfl
theorem neqNm (a b : Nm) (w : World) : (binOp .neq 34 (.agg a.cells) (.agg b.cells)).run Try.prog w = .ok (.bool (!a.eqb b)) w := by
  rw [run_neq_struct, equalNm]; rfl


end Go.Proofs.Ytgngbdhdnnkncaa
