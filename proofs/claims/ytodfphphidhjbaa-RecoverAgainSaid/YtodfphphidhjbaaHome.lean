/-
  '==' of all blocks with themselves.
-/
import Derived.Test.YtodfphphidhjbaaOv
import Derived.Test.YtodfphphidhjbaaEql
namespace Go.Proofs.Ytodfphphidhjbaa
open Go.RowKit Go.Sort

theorem V8.eqb_refl (v : V8) : v.eqb v = true := V8.eqb_iff.2 rfl
theorem extract8 {h : List V8} {i : Nat} {v : V8} (hx : h[i]? = some v) : (hcells h).toArray.extract (i * 8) (i * 8 + 8) = v.cells := by
  have := hcells_get hx
  apply Array.ext'
  rw [Array.toList_extract]
  simp only [List.extract_eq_take_drop, Nat.add_sub_cancel_left]
  rw [this]
theorem equalHs (d : Nat) (h : List V8) (hl : h.length = 32) (w : World) : (Op.equalIn (d + 3) 24 (.agg (hcells h).toArray) (.agg (hcells h).toArray)).run Try.prog w = .ok true w := by
  obtain ⟨i, hi⟩ := Option.isSome_iff_exists.1 (show (Try.prog.info? 23).isSome = true by kernel_rfl)
  have hc : Try.prog.cellsOf 23 = 8 := by kernel_rfl
  have hs : i.size = 8 := by rw [← hc]; unfold Program.cellsOf; rw [hi]; rfl
  rw [run_equalIn_array w (d + 2) _ _ Try.underlying24 hi, hc]
  have key : ∀ is : List Nat, (∀ j ∈ is, j < 32) → (Op.eqItems (d + 2) 23 8 (hcells h).toArray (hcells h).toArray is).run Try.prog w = .ok true w := by
    intro is
    induction is with
    | nil => intro _; simp [Op.eqItems]
    | cons j is ih =>
      intro hj
      obtain ⟨v, hv⟩ : ∃ v, h[j]? = some v := ⟨_, List.getElem?_eq_getElem (by have := hj j (List.mem_cons_self ..); omega)⟩
      have hp : (part 23 (hcells h).toArray (j * 8)).run Try.prog w = .ok (.agg v.cells) w := by
        simp [part, isAgg, run_underlying Try.underlying23, sizeOf, typeInfo, hi, hs, extract8 hv, go_sem]
        exact hcells_get hv
      simp only [Op.eqItems, Sem.run_bind, hp, Result.andThen_ok, equalV8, V8.eqb_refl]
      exact ih fun q hq => hj q (List.mem_cons_of_mem _ hq)
  exact key _ fun j hj => by simpa using hj

end Go.Proofs.Ytodfphphidhjbaa
