/-
  What PartStrict rests on, part 38.
-/
import Derived.Test.YtocppoflhllelaaGreatP1
import Derived.Test.YtocppoflhllelaaGreatP33
namespace Go.Proofs.YtocppoflhllelaaGreat
open Go.ChangeShapes Go.WideShapes Go.ChangeAt Go.RowKit Go.Joins
theorem and_t {a b : Bool} (ha : a = true) (hb : b = true) : (a && b) = true := by rw [ha, hb]; rfl
theorem jfB : mapsRowed Tryz.checked.prog = true := by kernel_rfl
theorem jfC : (Rows.partStrictRow.inPlace == Tryz.checked.prog.inPlace 3) = true := by kernel_rfl
theorem jfD : (Rows.partStrictRow.unfollowed == Tryz.checked.prog.unfollowed 3) = true := by kernel_rfl
theorem jfE : (Rows.partStrictRow.recurses == Tryz.checked.prog.recurses 3) = true := by kernel_rfl
theorem jfG : (Rows.partStrictRow.named == Tryz.checked.prog.varsNamed 3) = true := by kernel_rfl
theorem jfH : (Rows.partStrictRow.plainKeys == Tryz.checked.prog.plainKeys) = true := by kernel_rfl
theorem jfI : Tryz.checked.prog.stopsHeard = true := by kernel_rfl
theorem jfJ : Tryz.checked.prog.mayEnter = true := by kernel_rfl
theorem jfK : (Rows.partStrictRow.lifted == Tryz.checked.prog.liftsFinal) = true := by kernel_rfl
theorem jf_all : joinedFacts Tryz.checked.prog 3 Tryz.f3 Rows.partStrictSpec Rows.partStrictRow = true := by
  unfold joinedFacts
  exact (and_t (and_t (and_t (and_t (and_t (and_t (and_t (and_t (and_t (and_t (and_t (and_t (and_t (and_t (and_t (and_t (and_t (and_t (and_t (and_t (and_t (and_t (and_t (and_t (and_t (and_t (and_t (and_t (and_t (and_t (and_t (by kernel_rfl) Tryz.laidOut) jfB) (by kernel_rfl)) (by kernel_rfl)) (by kernel_rfl)) (by kernel_rfl)) (by kernel_rfl)) (by kernel_rfl)) jfC) jfD) jfE) jfG) (by kernel_rfl)) (by kernel_rfl)) (by kernel_rfl)) (by kernel_rfl)) (by kernel_rfl)) (by kernel_rfl)) (by kernel_rfl)) (by kernel_rfl)) (by kernel_rfl)) jfH) (by kernel_rfl)) jfI) jfJ) jfK) (by kernel_rfl)) (by kernel_rfl)) (by kernel_rfl)) (by kernel_rfl)) (by kernel_rfl))
end Go.Proofs.YtocppoflhllelaaGreat
