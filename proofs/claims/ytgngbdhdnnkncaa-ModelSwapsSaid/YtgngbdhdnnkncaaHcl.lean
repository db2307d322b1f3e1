/-
  Blocks' values, their cells.
-/
import Derived.Test.YtgngbdhdnnkncaaWs
namespace Go.Proofs.Ytgngbdhdnnkncaa
open Go.RowKit Go.Sort

/-- the cells of blocks -/
def hcells (h : List V8) : List Value := h.flatMap V8.cellsL
theorem hcells_length : ∀ h, (hcells h).length = h.length * 8
  | [] => rfl
  | x :: h => by
    show (x.cellsL ++ hcells h).length = _
    rw [List.length_append, hcells_length h]; simp; omega
theorem allOne_hcells : ∀ h, allOne (hcells h) = true
  | [] => rfl
  | x :: h => by
    show allOne (x.cellsL ++ hcells h) = true
    rw [allOne_append, allOne_hcells h]; rfl
theorem hcells_split {h : List V8} {i : Nat} {x : V8} (hx : h[i]? = some x) : hcells h = hcells (h.take i) ++ (x.cellsL ++ hcells (h.drop (i + 1))) := by
  obtain ⟨hlt, he⟩ := List.getElem?_eq_some_iff.1 hx
  conv => lhs; rw [← List.take_append_drop i h, List.drop_eq_getElem_cons hlt, he]
  simp [hcells]
theorem hcells_get {h : List V8} {i : Nat} {x : V8} (hx : h[i]? = some x) : ((hcells h).drop (i * 8)).take 8 = x.cellsL := by
  have hlt := (List.getElem?_eq_some_iff.1 hx).1
  rw [hcells_split hx, show i * 8 = (hcells (h.take i)).length by rw [hcells_length, List.length_take]; omega, List.drop_left]
  rfl
theorem hcells_set {h : List V8} {i : Nat} (hi : i < h.length) (x : V8) : putL (hcells h) (i * 8) x.cellsL = hcells (h.set i x) := by
  have hx := List.getElem?_eq_getElem hi
  rw [hcells_split hx, show i * 8 = (hcells (h.take i)).length by rw [hcells_length, List.length_take]; omega, putL_mid (B := (h[i]).cellsL) (us := x.cellsL) rfl]
  have h2 : (h.set i x)[i]? = some x := by rw [List.getElem?_set_self hi]
  rw [hcells_split h2, List.take_set_of_le (Nat.le_refl _), List.drop_set_of_lt (by omega)]

end Go.Proofs.Ytgngbdhdnnkncaa
