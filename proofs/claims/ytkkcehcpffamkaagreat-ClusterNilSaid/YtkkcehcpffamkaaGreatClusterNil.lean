/-
  PROVED HERE: for every event and number that are handed in, ClusterNil returns true, and what was handed in reads as it did. No condition.
-/
import Derived.Test.YtkkcehcpffamkaaGreatP8
namespace Go.Proofs.YtkkcehcpffamkaaGreat
open Go.ChangeShapes Go.WideShapes Go.ChangeAt Go.RowKit Go.Joins
set_option maxRecDepth 100000 in
theorem clusterNil_lifted (os : Os) (started : os.Started) (H : Type) (enc : TypeId × Value → H) :
    ReturnsInHanded {} Tryz.checked os 4 .any (Rows.clusterNilSpec.pre6 enc Tryz.prog Tryz.f4 Rows.clusterNilRow.domain false) (Rows.clusterNilSpec.post enc Tryz.prog Tryz.f4 false true false false) := by
  refine returnsInHanded_of_change (C := Tryz.checked) Tryz.own started (by kernel_rfl) Tryz.func4
    (ChangeSpec.witness6 (enc := enc) (C := Tryz.checked) false ⟨#[], #[.agg #[.int .i8 0, .int .i8 0, .int .i64 0, .int .i64 0, .int .i64 0, .slice none 0 0, .int .i64 0, .int .i64 0, .int .i64 0, .slice none 0 0, .int .i64 0, .int .i64 0], .int .i64 0], []⟩ 8 (by kernel_rfl) (by kernel_rfl) (by kernel_rfl) (by kernel_rfl)) ?_
  intro W base args ds gs before hval0 hW hcnd _
  have hval : ∀ (j : Nat) t v, Tryz.f4.params[j]? = some t → args[j]? = some v → Value.okWide Tryz.prog W .any base t v := hval0
  have hW' := hW
  obtain ⟨p, q, hA0, hV, rfl, hfz, hnd⟩ := hW
  have hA : DataW.TrodAll enc Tryz.prog W 0 (fun _ => true) true Tryz.f4.params.toList args.toList ds p := hA0
  rw [Tryz.params4] at hA hval
  obtain ⟨v0, r0, d0, s0, p0, q0, e0, rfl, rfl, h0, hA⟩ := trodAll_cons hA
  obtain ⟨v1, r1, d1, s1, p1, q1, rfl, rfl, rfl, h1, hA⟩ := trodAll_cons hA
  obtain ⟨rfl, rfl, rfl⟩ := trodAll_nil hA
  obtain rfl : args = #[v0, v1] := by rw [← Array.toArray_toList (xs := args), e0]
  have hv0 := hval 0 35 v0 rfl rfl
  have hv1 := hval 1 3 v1 rfl rfl
  obtain ⟨cs0, rfl, R0⟩ := rdt_agg Tryz.underlying35 hv0 h0
  obtain ⟨k0, kd, c, h, bk, da, dl, dc, st, nd, n, pa, pl, pc, sp, to, rfl⟩ := rdt_evE R0
  obtain ⟨z, rfl, -, -⟩ := arg_int Tryz.underlying3 hv1 h1
  refine (clusterNil_any k0 kd c h bk da dl dc st nd n pa pl pc sp to z W).mono fun e W' ⟨he, hb⟩ => ?_
  subst he
  exact ⟨_, rfl, law_post Tryz.laidOut (by rw [Tryz.params4]; decide +kernel) rfl rfl Tryz.underlying4 (fun ds h => by match ds, h with | [_, _], _ => rfl) hW' hb⟩
theorem and_t {a b : Bool} (ha : a = true) (hb : b = true) : (a && b) = true := by rw [ha, hb]; rfl
theorem jfB : mapsRowed Tryz.checked.prog = true := by kernel_rfl
theorem jfC : (Rows.clusterNilRow.inPlace == Tryz.checked.prog.inPlace 4) = true := by kernel_rfl
theorem jfD : (Rows.clusterNilRow.unfollowed == Tryz.checked.prog.unfollowed 4) = true := by kernel_rfl
theorem jfE : (Rows.clusterNilRow.recurses == Tryz.checked.prog.recurses 4) = true := by kernel_rfl
theorem jfG : (Rows.clusterNilRow.named == Tryz.checked.prog.varsNamed 4) = true := by kernel_rfl
theorem jfH : (Rows.clusterNilRow.plainKeys == Tryz.checked.prog.plainKeys) = true := by kernel_rfl
theorem jfI : Tryz.checked.prog.stopsHeard = true := by kernel_rfl
theorem jfJ : Tryz.checked.prog.mayEnter = true := by kernel_rfl
theorem jfK : (Rows.clusterNilRow.lifted == Tryz.checked.prog.liftsFinal) = true := by kernel_rfl
theorem jf_all : joinedFacts Tryz.checked.prog 4 Tryz.f4 Rows.clusterNilSpec Rows.clusterNilRow = true := by
  unfold joinedFacts
  exact (and_t (and_t (and_t (and_t (and_t (and_t (and_t (and_t (and_t (and_t (and_t (and_t (and_t (and_t (and_t (and_t (and_t (and_t (and_t (and_t (and_t (and_t (and_t (and_t (and_t (and_t (and_t (and_t (and_t (and_t (and_t (by kernel_rfl) Tryz.laidOut) jfB) (by kernel_rfl)) (by kernel_rfl)) (by kernel_rfl)) (by kernel_rfl)) (by kernel_rfl)) (by kernel_rfl)) jfC) jfD) jfE) jfG) (by kernel_rfl)) (by kernel_rfl)) (by kernel_rfl)) (by kernel_rfl)) (by kernel_rfl)) (by kernel_rfl)) (by kernel_rfl)) (by kernel_rfl)) (by kernel_rfl)) jfH) (by kernel_rfl)) jfI) jfJ) jfK) (by kernel_rfl)) (by kernel_rfl)) (by kernel_rfl)) (by kernel_rfl)) (by kernel_rfl))
theorem clusterNil_holds : Rows.ClusterNilSaid :=
  OpenClaim.holds_of_wide 4 Tryz.f4 rfl rfl rfl rfl rfl rfl rfl ⟨rfl, rfl, rfl, rfl, rfl⟩ rfl rfl rfl rfl rfl (by kernel_rfl) Tryz.func4 jf_all
    (of_decide_eq_true (by kernel_rfl)) (by unfold Func.isWrapper; first | (rw [if_pos (by decide +kernel)]; kernel_rfl) | (rw [if_neg (by decide +kernel)]; exact ⟨rfl, rfl⟩))
    (fun os started H enc _ => clusterNil_lifted os started H enc)
#print axioms clusterNil_holds
end Go.Proofs.YtkkcehcpffamkaaGreat
