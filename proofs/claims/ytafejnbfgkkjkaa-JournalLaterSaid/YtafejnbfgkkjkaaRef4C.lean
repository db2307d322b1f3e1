/-
  The document's frames: Read.
-/
import Derived.Test.YtafejnbfgkkjkaaRef4B
namespace Go.Proofs.Ytafejnbfgkkjkaa
open Go.RowKit Go.Sort

theorem getN_take {X : List UInt8} {i k : Nat} (hk : 1 ≤ k ∧ k ≤ 6) (h : i + k ≤ X.length) : getN X (i : Int) (k : Int) = (leN ((X.drop i).take k) : Int) := by
  unfold getN; rw [if_pos (by omega)]; rfl
theorem getN_one {X : List UInt8} {i : Nat} {x : UInt8} (h : X[i]? = some x) : getN X (i : Int) 1 = (x.toNat : Int) := by
  obtain ⟨hlt, he⟩ := List.getElem?_eq_some_iff.1 h
  rw [show (1 : Int) = ((1 : Nat) : Int) from rfl, getN_take (by omega) (by omega), List.drop_eq_getElem_cons hlt, he]
  simp [leN]
theorem Mem.cutW {w0 w : World} {H : List Ent} (M : Mem w0 w H) {k lo hi : Nat} {t : TypeId} {v : Value} {X : List UInt8} (h : H[k]? = some (rowE lo hi t 1 v X.length (bcells X))) (hm : X.length ≤ maxLen) (i j : Nat) (h1 : i ≤ j) (h2 : j ≤ X.length) :
    Bs 0 w.heap.size w (cutV v i j (capV v) 1) ((X.drop i).take (j - i)) :=
  (M.wide h hm).cutB h1 h2 (by have := (M.readRow k h hm).cap; omega) (Nat.le_refl _)

end Go.Proofs.Ytafejnbfgkkjkaa
