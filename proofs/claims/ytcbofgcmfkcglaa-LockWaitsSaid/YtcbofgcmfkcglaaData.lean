/-
  The plain data that the walks speak of: names, blocks' values, writes, messages, records.
-/
import Derived.Test.YtcbofgcmfkcglaaGV
namespace Go.Proofs.Ytcbofgcmfkcglaa
open Go.RowKit Go.Sort

structure V8 where
  v0 : UInt8
  v1 : UInt8
  v2 : UInt8
  v3 : UInt8
  v4 : UInt8
  v5 : UInt8
  v6 : UInt8
  v7 : UInt8

structure Nm where
  stamp : Int
  inc : Int
  try_ : Int

structure Wr where
  block : Int
  val : V8

/-- a message but for its writes -/
structure Msg where
  kind : Int
  frm : Int
  to : Int
  inc : Int
  your : Int
  name : Nm
  n : Int
  op : Int
  block : Int
  val : V8
  e : Int
  yes : Bool
  give : Int
  take : Int

/-- a record but for its writes -/
structure Rc where
  kind : Int
  name : Nm
  yes : Bool
  give : Int
  take : Int
  shards : Int
  cs : Int
  ct : Int
  n : Int

abbrev Nm.cells (n : Nm) : Array Value := #[.int .i64 n.stamp, .int .i64 n.inc, .int .i64 n.try_]
abbrev Msg.cells (m : Msg) (wv : Value) : Array Value :=
  #[.int .i8 m.kind, .int .i64 m.frm, .int .i64 m.to, .int .i64 m.inc, .int .i64 m.your, .int .i64 m.name.stamp, .int .i64 m.name.inc, .int .i64 m.name.try_, .int .i64 m.n, .int .i8 m.op, .int .i64 m.block,
    .int .u8 (m.val.v0.toNat : Int), .int .u8 (m.val.v1.toNat : Int), .int .u8 (m.val.v2.toNat : Int), .int .u8 (m.val.v3.toNat : Int), .int .u8 (m.val.v4.toNat : Int), .int .u8 (m.val.v5.toNat : Int), .int .u8 (m.val.v6.toNat : Int), .int .u8 (m.val.v7.toNat : Int), .int .i64 m.e, .bool m.yes, .int .i64 m.give, .int .i64 m.take, wv]

abbrev Rc.cells (r : Rc) (wv : Value) : Array Value :=
  #[.int .i8 r.kind, .int .i64 r.name.stamp, .int .i64 r.name.inc, .int .i64 r.name.try_, .bool r.yes, wv, .int .i64 r.give, .int .i64 r.take, .int .i64 r.shards, .int .i64 r.cs, .int .i64 r.ct, .int .i64 r.n]

def V8.eqb (a b : V8) : Bool := (a.v0.toNat : Int) == (b.v0.toNat : Int) && (a.v1.toNat : Int) == (b.v1.toNat : Int) && (a.v2.toNat : Int) == (b.v2.toNat : Int) && (a.v3.toNat : Int) == (b.v3.toNat : Int) && (a.v4.toNat : Int) == (b.v4.toNat : Int) && (a.v5.toNat : Int) == (b.v5.toNat : Int) && (a.v6.toNat : Int) == (b.v6.toNat : Int) && (a.v7.toNat : Int) == (b.v7.toNat : Int)
theorem V8.eqb_iff {a b : V8} : a.eqb b = true ↔ a = b := by
  cases a; cases b; simp [V8.eqb, and_assoc, Int.ofNat_inj, UInt8.toNat_inj]
def Nm.eqb (a b : Nm) : Bool := a.stamp == b.stamp && a.inc == b.inc && a.try_ == b.try_
theorem Nm.eqb_iff {a b : Nm} : a.eqb b = true ↔ a = b := by
  cases a; cases b; simp [Nm.eqb, and_assoc]
def Wr.eqb (a b : Wr) : Bool := a.block == b.block && a.val.eqb b.val
theorem Wr.eqb_iff {a b : Wr} : a.eqb b = true ↔ a = b := by
  cases a; cases b; simp [Wr.eqb, V8.eqb_iff]

/-- are two rows of writes alike? -/
def eqWs : List Wr → List Wr → Bool
  | [], [] => true
  | a :: x, b :: y => a.eqb b && eqWs x y
  | _, _ => false
theorem eqWs_iff : ∀ {x y : List Wr}, eqWs x y = true ↔ x = y
  | [], [] => by simp [eqWs]
  | [], b :: y => by simp [eqWs]
  | a :: x, [] => by simp [eqWs]
  | a :: x, b :: y => by simp [eqWs, eqWs_iff (x := x) (y := y), Wr.eqb_iff]
theorem eqWs_refl (x : List Wr) : eqWs x x = true := eqWs_iff.2 rfl

end Go.Proofs.Ytcbofgcmfkcglaa
