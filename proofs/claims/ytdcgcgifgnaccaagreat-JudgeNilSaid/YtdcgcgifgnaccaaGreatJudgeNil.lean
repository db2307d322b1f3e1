/-
  PROVED HERE: for every history that is handed in, JudgeNil returns true, and what was handed in reads as it did. No condition.
-/
import Derived.Test.YtdcgcgifgnaccaaGreatP8
namespace Go.Proofs.YtdcgcgifgnaccaaGreat
open Go.ChangeShapes Go.WideShapes Go.ChangeAt Go.RowKit Go.Joins
set_option maxRecDepth 100000 in
theorem judgeNil_lifted (os : Os) (started : os.Started) (H : Type) (enc : TypeId × Value → H) :
    ReturnsInHanded {} Tryz.checked os 3 .any (Rows.judgeNilSpec.pre6 enc Tryz.prog Tryz.f3 Rows.judgeNilRow.domain false) (Rows.judgeNilSpec.post enc Tryz.prog Tryz.f3 false true false false) := by
  refine returnsInHanded_of_change (C := Tryz.checked) Tryz.own started (by kernel_rfl) Tryz.func3
    (ChangeSpec.witness6 (enc := enc) (C := Tryz.checked) false ⟨#[], #[.slice none 0 0], []⟩ 8 (by kernel_rfl) (by kernel_rfl) (by kernel_rfl) (by kernel_rfl)) ?_
  intro W base args ds gs before hval0 hW hcnd _
  have hval : ∀ (j : Nat) t v, Tryz.f3.params[j]? = some t → args[j]? = some v → Value.okWide Tryz.prog W .any base t v := hval0
  have hW' := hW
  obtain ⟨p, q, hA0, hV, rfl, hfz, hnd⟩ := hW
  have hA : DataW.TrodAll enc Tryz.prog W 0 (fun _ => true) true Tryz.f3.params.toList args.toList ds p := hA0
  rw [Tryz.params3] at hA hval
  obtain ⟨v0, r0, d0, s0, p0, q0, e0, rfl, rfl, h0, hA⟩ := trodAll_cons hA
  obtain ⟨rfl, rfl, rfl⟩ := trodAll_nil hA
  obtain rfl : args = #[v0] := by rw [← Array.toArray_toList (xs := args), e0]
  have hv0 := hval 0 22 v0 rfl rfl
  obtain ⟨cs0, R0, hu⟩ := rdt_slice Tryz.underlying22 hv0 h0
  obtain ⟨va, vc, l, e0, hR⟩ := rdt_seens R0 Tryz.underlying22
  obtain rfl := hu _ e0
  refine (judgeNil_any va vc l W hR).mono fun e W' ⟨he, hb⟩ => ?_
  subst he
  exact ⟨_, rfl, law_post Tryz.laidOut (by rw [Tryz.params3]; decide +kernel) rfl rfl Tryz.underlying4 (fun ds h => by match ds, h with | [_], _ => rfl) hW' hb⟩
theorem and_t {a b : Bool} (ha : a = true) (hb : b = true) : (a && b) = true := by rw [ha, hb]; rfl
theorem jfB : mapsRowed Tryz.checked.prog = true := by kernel_rfl
theorem jfC : (Rows.judgeNilRow.inPlace == Tryz.checked.prog.inPlace 3) = true := by kernel_rfl
theorem jfD : (Rows.judgeNilRow.unfollowed == Tryz.checked.prog.unfollowed 3) = true := by kernel_rfl
theorem jfE : (Rows.judgeNilRow.recurses == Tryz.checked.prog.recurses 3) = true := by kernel_rfl
theorem jfG : (Rows.judgeNilRow.named == Tryz.checked.prog.varsNamed 3) = true := by kernel_rfl
theorem jfH : (Rows.judgeNilRow.plainKeys == Tryz.checked.prog.plainKeys) = true := by kernel_rfl
theorem jfI : Tryz.checked.prog.stopsHeard = true := by kernel_rfl
theorem jfJ : Tryz.checked.prog.mayEnter = true := by kernel_rfl
theorem jfK : (Rows.judgeNilRow.lifted == Tryz.checked.prog.liftsFinal) = true := by kernel_rfl
theorem jf_all : joinedFacts Tryz.checked.prog 3 Tryz.f3 Rows.judgeNilSpec Rows.judgeNilRow = true := by
  unfold joinedFacts
  exact (and_t (and_t (and_t (and_t (and_t (and_t (and_t (and_t (and_t (and_t (and_t (and_t (and_t (and_t (and_t (and_t (and_t (and_t (and_t (and_t (and_t (and_t (and_t (and_t (and_t (and_t (and_t (and_t (and_t (and_t (and_t (by kernel_rfl) Tryz.laidOut) jfB) (by kernel_rfl)) (by kernel_rfl)) (by kernel_rfl)) (by kernel_rfl)) (by kernel_rfl)) (by kernel_rfl)) jfC) jfD) jfE) jfG) (by kernel_rfl)) (by kernel_rfl)) (by kernel_rfl)) (by kernel_rfl)) (by kernel_rfl)) (by kernel_rfl)) (by kernel_rfl)) (by kernel_rfl)) (by kernel_rfl)) jfH) (by kernel_rfl)) jfI) jfJ) jfK) (by kernel_rfl)) (by kernel_rfl)) (by kernel_rfl)) (by kernel_rfl)) (by kernel_rfl))
theorem judgeNil_holds : Rows.JudgeNilSaid :=
  OpenClaim.holds_of_wide 3 Tryz.f3 rfl rfl rfl rfl rfl rfl rfl ⟨rfl, rfl, rfl, rfl, rfl⟩ rfl rfl rfl rfl rfl (by kernel_rfl) Tryz.func3 jf_all
    (of_decide_eq_true (by kernel_rfl)) (by unfold Func.isWrapper; first | (rw [if_pos (by decide +kernel)]; kernel_rfl) | (rw [if_neg (by decide +kernel)]; exact ⟨rfl, rfl⟩))
    (fun os started H enc _ => judgeNil_lifted os started H enc)
#print axioms judgeNil_holds
end Go.Proofs.YtdcgcgifgnaccaaGreat
