/-
  Rows of writes.
-/
import Derived.Test.YtgngbdhdnnkncaaData
import Derived.Test.YtgngbdhdnnkncaaGX
namespace Go.Proofs.Ytgngbdhdnnkncaa
open Go.RowKit Go.Sort

abbrev V8.cellsL (x : V8) : List Value := [.int .u8 (x.v0.toNat : Int), .int .u8 (x.v1.toNat : Int), .int .u8 (x.v2.toNat : Int), .int .u8 (x.v3.toNat : Int), .int .u8 (x.v4.toNat : Int), .int .u8 (x.v5.toNat : Int), .int .u8 (x.v6.toNat : Int), .int .u8 (x.v7.toNat : Int)]
abbrev Wr.cellsL (x : Wr) : List Value := .int .i64 x.block :: x.val.cellsL
def wcells (ws : List Wr) : List Value := ws.flatMap Wr.cellsL
theorem wcells_append (x y : List Wr) : wcells (x ++ y) = wcells x ++ wcells y := by simp [wcells]
theorem wcells_length : ∀ ws, (wcells ws).length = ws.length * 9
  | [] => rfl
  | x :: ws => by
    show (x.cellsL ++ wcells ws).length = _
    rw [List.length_append, wcells_length ws]; simp; omega
theorem allOne_wcells : ∀ ws, allOne (wcells ws) = true
  | [] => rfl
  | x :: ws => by
    show allOne (x.cellsL ++ wcells ws) = true
    rw [allOne_append, allOne_wcells ws]; rfl
theorem wcells_get : ∀ {ws : List Wr} {i : Nat} {x : Wr}, ws[i]? = some x → ((wcells ws).drop (i * 9)).take 9 = x.cellsL
  | [], i, x, h => by simp at h
  | y :: ws, 0, x, h => by
    obtain rfl : y = x := by simpa using h
    simp [wcells]
  | y :: ws, i + 1, x, h => by
    have := wcells_get (ws := ws) (i := i) (x := x) (by simpa using h)
    rw [← this, wcells, List.flatMap_cons, show (i + 1) * 9 = y.cellsL.length + i * 9 by simp; omega, ← List.drop_drop, List.drop_left]
    rfl
/-- the slice v reads as these writes -/
abbrev Ws (lo hi : Nat) (w : World) (v : Value) (ws : List Wr) : Prop := Rd lo hi w 9 v ws.length (wcells ws)

end Go.Proofs.Ytgngbdhdnnkncaa
