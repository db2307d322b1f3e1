/-
  The document's frames: low, number, May, Same.
-/
import Derived.Test.YtafejnbfgkkjkaaGX
import Derived.Test.YtafejnbfgkkjkaaGF
namespace Go.Proofs.Ytafejnbfgkkjkaa
open Go.RowKit Go.Sort

theorem byteOf_mod (i : Int) : byteOf (i % 256) = byteOf i := by unfold byteOf; rw [Int.emod_emod]
theorem leB_succ (n : Int) (k : Nat) : leB n (k + 1) = leB n k ++ [byteOf (n / 256 ^ k)] := by
  unfold leB; rw [List.range_succ, List.map_append]; rfl

theorem leN_cons_or {b : UInt8} {m : Nat} : m * 2 ^ 8 ||| b.toNat = b.toNat + 256 * m := by
  rw [Nat.or_comm, or_add (show b.toNat < 2 ^ 8 from UInt8.toNat_lt b)]; omega
end Go.Proofs.Ytafejnbfgkkjkaa
