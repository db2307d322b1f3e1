/-
  slices.Sort of integers, on a row of one's own.
-/
import Derived.Test.YtgngbdhdnnkncaaGX
import Derived.Test.YtgngbdhdnnkncaaIc
import Derived.Test.YtgngbdhdnnkncaaShelf
namespace Go.Proofs.Ytgngbdhdnnkncaa
open Go.RowKit Go.Sort

theorem putCells_row (zs zs' : List Int) (more : List Value) (h : zs'.length = zs.length) : putCells (Value.int .i64) 0 zs'.toArray (icells zs ++ more).toArray = (icells zs' ++ more).toArray := by
  unfold putCells
  apply Array.ext'
  rw [Array.toList_mapIdx]
  refine List.ext_getElem? fun j => ?_
  have hl : (icells zs).length = zs.length := by simp [icells]
  have hl' : (icells zs').length = zs'.length := by simp [icells]
  simp only [List.getElem?_mapIdx, List.toList_toArray]
  by_cases hj : j < zs'.length
  · rw [List.getElem?_append_left (by omega), List.getElem?_append_left (by omega)]
    simp [icells, hj, show j < zs.length by omega, List.getElem?_eq_getElem]
  · rw [List.getElem?_append_right (by omega), List.getElem?_append_right (by omega), hl, hl', h]
    cases more[j - zs.length]? <;> simp [hj]
theorem Mem.sortRow {wc w : World} {H : List Ent} {g e n : Nat} {zs zs' : List Int} {more : List Value} (M : Mem wc w (.blk g (icells zs ++ more).toArray e :: H)) (h : zs'.length = zs.length) (os : Array Obj) :
    Mem wc (Go.Sort.grow (putRow (Value.int .i64) (Go.Sort.ahead w n) g 0 zs'.toArray) os) (.blk g (icells zs' ++ more).toArray e :: H) := by
  have B : w.heap[g]? = _ := M.blk 0 rfl
  have hlt := (Array.getElem?_eq_some_iff.1 B).1
  have M1 : Mem wc (putRow (Value.int .i64) (Go.Sort.ahead w n) g 0 zs'.toArray) (.blk g (icells zs' ++ more).toArray e :: H) := by
    refine M.change (e' := .blk g (icells zs' ++ more).toArray e) 0 rfl rfl rfl ?_ (by simp) rfl rfl rfl fun k hk => ?_
    · show (putRow (Value.int .i64) (Go.Sort.ahead w n) g 0 zs'.toArray).heap[g]? = _
      simp only [putRow, mapBlock, heap_ahead, Array.getElem?_modify, B, if_true, Option.map_some, onCells, putCells_row zs zs' more h]
    · have : k ≠ g := fun e => hk (by subst e; simp [Ent.lo, Ent.hi])
      simp only [putRow, mapBlock, heap_ahead, Array.getElem?_modify, if_neg (Ne.symm this)]
  refine M1.grow ⟨rfl, rfl, rfl, by simp [Go.Sort.grow], fun k hk => Go.Sort.heap_grow_old _ _ hk⟩
theorem sortI_any {wc w : World} {H : List Ent} {lo hi : Nat} {va : Option Addr} {vc : Nat} {zs : List Int} (M : Mem wc w (rowE lo hi 3 1 (.slice va zs.length vc) zs.length (icells zs) :: H)) (hl : zs.length ≤ 1000000) :
    Calls Try.prog 21 #[.slice va zs.length vc] w fun e w' => e = .returned (.tuple #[]) ∧ ∃ zs' lo' hi', zs'.Perm zs ∧ zs'.length = zs.length ∧ Mem wc w' (rowE lo' hi' 3 1 (.slice va zs'.length vc) zs'.length (icells zs') :: H) := by
  have hil : (icells zs).length = zs.length := by simp [icells]
  rcases Nat.eq_zero_or_pos zs.length with h0 | h0
  · obtain rfl := List.eq_nil_of_length_eq_zero h0
    exact (slices_Sort_int_none va vc w).mono fun e w' ⟨he, hw⟩ => ⟨he, [], lo, hi, .refl _, rfl, by rw [hw]; exact M⟩
  · obtain ⟨g, cap, more, hv, hc1, hc2, hc3, M1⟩ := M.ofRow h0
    simp only [Value.slice.injEq] at hv
    obtain ⟨rfl, -, rfl⟩ := hv
    have B := M1.blk 0 rfl
    refine (slices_Sort_int g 0 vc zs w (fun j hj => ?_) B.lt (by omega)).mono fun e w' ⟨he, n, os, hw⟩ => ⟨he, zs.mergeSort fun x y => decide (x ≤ y), g, g + 1, List.mergeSort_perm _ _, List.length_mergeSort _, ?_⟩
    · have hj' : j < zs.length := by simpa using hj
      rw [Nat.zero_add]
      refine ⟨?_, B.frz j⟩
      rw [B.cells, List.getElem?_toArray, List.getElem?_append_left (by omega)]
      simp [icells, hj']
    · subst hw
      have M2 := M1.sortRow (n := n) (zs' := zs.mergeSort fun x y => decide (x ≤ y)) (List.length_mergeSort _) os
      have hl2 : (icells (zs.mergeSort fun x y => decide (x ≤ y))).length = zs.length := by simp [icells, List.length_mergeSort]
      exact M2.toRow (xs := icells (zs.mergeSort fun x y => decide (x ≤ y))) (sz := 1) (m := (zs.mergeSort fun x y => decide (x ≤ y)).length) (cap := vc) 0 rfl (by simp [icells]) (by rw [List.length_mergeSort]; omega) hc2 (by rw [List.size_toArray, List.length_append, hl2, ← hc3, List.length_append, hil]) (by rw [List.toList_toArray, Nat.mul_one, List.length_mergeSort, ← hl2]; exact List.take_left)

end Go.Proofs.Ytgngbdhdnnkncaa
