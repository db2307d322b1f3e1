/-
  The document's frames: Bytes.
-/
import Derived.Test.YtafejnbfgkkjkaaRef4A
namespace Go.Proofs.Ytafejnbfgkkjkaa
open Go.RowKit Go.Sort

theorem five5 (f : Fr) (l : Nat) : five f l 5 = leB f.seq 6 ++ leB f.inc 3 ++ [byteOf (16 * f.part + f.of), byteOf (l : Int)] ++ leB (f.mark.toNat : Int) 4 := by
  have e : ∀ n, leB n 1 = [byteOf n] := fun n => by simp [leB]
  simp [five, fiveN, e]
theorem Mem.wide {w0 w : World} {H : List Ent} (M : Mem w0 w H) {k lo hi : Nat} {t : TypeId} {sz n : Nat} {v : Value} {cs : List Value} (h : H[k]? = some (rowE lo hi t sz v n cs)) (hm : n ≤ maxLen) : Rd 0 w.heap.size w sz v n cs :=
  (M.readRow k h hm).wide (Nat.zero_le _) (M.fits _ (List.mem_of_getElem? h)).2
theorem Mem.rowB {w0 w : World} {H : List Ent} {lo hi n : Nat} {t : TypeId} {v : Value} {xs ys : List UInt8} (M : Mem w0 w (rowE lo hi t 1 v (xs.length + n) (bcells xs ++ bcells ys) :: H)) (h : ys.length = n) : Mem w0 w (rowE lo hi t 1 v (xs ++ ys).length (bcells (xs ++ ys)) :: H) := by
  rw [bcells_append, List.length_append, h]; exact M

end Go.Proofs.Ytafejnbfgkkjkaa
