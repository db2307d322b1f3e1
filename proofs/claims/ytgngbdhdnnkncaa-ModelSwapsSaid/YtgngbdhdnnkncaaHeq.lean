/-
  '==' of all blocks.
-/
import Derived.Test.YtgngbdhdnnkncaaHcl
import Derived.Test.YtgngbdhdnnkncaaEql
namespace Go.Proofs.Ytgngbdhdnnkncaa
open Go.RowKit Go.Sort

/-- blocks in a block of memory -/
theorem home_at {w : World} {b t i : Nat} {h : List V8} {v : V8} (B : Blk w b (hcells h).toArray t) (hx : h[i]? = some v) : CellsAt w b (i * 8) v.cellsL := fun j hj => by
  rw [B.cells, List.getElem?_toArray]
  have := hcells_get hx
  rw [← this, List.getElem?_take_of_lt (by have : v.cellsL.length = 8 := rfl; omega), List.getElem?_drop]
theorem V8.eqb_refl (v : V8) : v.eqb v = true := V8.eqb_iff.2 rfl
theorem extract8 {h : List V8} {i : Nat} {v : V8} (hx : h[i]? = some v) : (hcells h).toArray.extract (i * 8) (i * 8 + 8) = v.cells := by
  have := hcells_get hx
  apply Array.ext'
  rw [Array.toList_extract]
  simp only [List.extract_eq_take_drop, Nat.add_sub_cancel_left]
  rw [this]
/-- '==' of all blocks -/
theorem equalHome (d : Nat) (h k : List V8) (hl : h.length = 32) (kl : k.length = 32) (w : World) : ∃ r, (Op.equalIn (d + 3) 24 (.agg (hcells h).toArray) (.agg (hcells k).toArray)).run Try.prog w = .ok r w ∧ (r = true ↔ h = k) := by
  obtain ⟨i, hi⟩ := Option.isSome_iff_exists.1 (show (Try.prog.info? 23).isSome = true by kernel_rfl)
  have hc : Try.prog.cellsOf 23 = 8 := by kernel_rfl
  have hs : i.size = 8 := by rw [← hc]; unfold Program.cellsOf; rw [hi]; rfl
  rw [run_equalIn_array w (d + 2) _ _ Try.underlying24 hi, hc]
  have key : ∀ is : List Nat, (∀ j ∈ is, j < 32) → ∃ r, (Op.eqItems (d + 2) 23 8 (hcells h).toArray (hcells k).toArray is).run Try.prog w = .ok r w ∧ (r = true ↔ ∀ j ∈ is, h[j]? = k[j]?) := by
    intro is
    induction is with
    | nil => intro _; exact ⟨true, by simp [Op.eqItems], by simp⟩
    | cons j is ih =>
      intro hj
      obtain ⟨v, hv⟩ : ∃ v, h[j]? = some v := ⟨_, List.getElem?_eq_getElem (by have := hj j (List.mem_cons_self ..); omega)⟩
      obtain ⟨u, hu⟩ : ∃ u, k[j]? = some u := ⟨_, List.getElem?_eq_getElem (by have := hj j (List.mem_cons_self ..); omega)⟩
      have hp : (part 23 (hcells h).toArray (j * 8)).run Try.prog w = .ok (.agg v.cells) w := by
        simp [part, isAgg, run_underlying Try.underlying23, sizeOf, typeInfo, hi, hs, extract8 hv, go_sem]
        exact hcells_get hv
      have hq : (part 23 (hcells k).toArray (j * 8)).run Try.prog w = .ok (.agg u.cells) w := by
        simp [part, isAgg, run_underlying Try.underlying23, sizeOf, typeInfo, hi, hs, extract8 hu, go_sem]
        exact hcells_get hu
      simp only [Op.eqItems, Sem.run_bind, hp, hq, Result.andThen_ok, equalV8]
      obtain ⟨r, hr, hr2⟩ := ih fun q hq => hj q (List.mem_cons_of_mem _ hq)
      cases he : v.eqb u
      · refine ⟨false, by simp [go_sem], ?_⟩
        have hne : v ≠ u := fun e => by rw [e, V8.eqb_refl] at he; cases he
        simp only [Bool.false_eq_true, false_iff]
        intro h2
        have := h2 j (List.mem_cons_self ..)
        rw [hv, hu] at this
        exact hne (Option.some.inj this)
      · refine ⟨r, by simpa using hr, ?_⟩
        have hvu := V8.eqb_iff.1 he
        rw [hr2]
        constructor
        · intro h2 q hq
          rcases List.mem_cons.1 hq with rfl | hq
          · rw [hv, hu, hvu]
          · exact h2 q hq
        · intro h2 q hq; exact h2 q (List.mem_cons_of_mem _ hq)
  obtain ⟨r, h1, h2⟩ := key (List.range 32) fun j hj => by simpa using hj
  refine ⟨r, h1, h2.trans ⟨fun h3 => List.ext_getElem? fun j => ?_, fun e _ _ => by rw [e]⟩⟩
  by_cases hj : j < 32
  · exact h3 j (by simpa using hj)
  · rw [List.getElem?_eq_none (by omega), List.getElem?_eq_none (by omega)]

end Go.Proofs.Ytgngbdhdnnkncaa
