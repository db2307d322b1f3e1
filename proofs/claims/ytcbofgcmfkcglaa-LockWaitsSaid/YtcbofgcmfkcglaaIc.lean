/-
  Rows of integers.
-/
import Derived.Test.YtcbofgcmfkcglaaGV
namespace Go.Proofs.Ytcbofgcmfkcglaa
open Go.RowKit Go.Sort

def icells (zs : List Int) : List Value := zs.map fun z => .int .i64 z
theorem Rd.icell {lo hi i : Nat} {w : World} {v : Value} {zs : List Int} {z : Int} (h : Rd lo hi w 1 v zs.length (icells zs)) (hz : zs[i]? = some z) : w.cell? ⟨(adr v).block, (adr v).off + i, none⟩ = some (.int .i64 z) := by
  have hlt := (List.getElem?_eq_some_iff.1 hz).1
  rw [h.at_ i (by simpa [icells] using hlt)]; simp [icells, hz]

end Go.Proofs.Ytcbofgcmfkcglaa
