/-
  A set of integers that the code keeps as a map from integers to bools, which the call made itself.
-/
import Derived.Test.YtblcbahdgpicgaaKit
import Derived.Maps.Own
import Derived.Maps.OwnOps
import Derived.Maps.OwnSet
namespace Go.Proofs.Ytblcbahdgpicgaa
open Go.RowKit Go.Sort Go.Maps

/-- block b is a map from integers (of type k) to bools (of type e), true just at the members of S, which are all different -/
def IntSet (W : World) (P : Program) (k e : TypeId) (b : Nat) (S : List Int) : Prop :=
  ∃ D : DataW Unit, W.ownsMap P k (plainElem P e) b S.length D ∧ Tidy D ∧ size D = S.length ∧ ∀ x, has D (.int .i64 x) = decide (x ∈ S)

variable {P : Program} {k e t : TypeId} {W W' : World} {b : Nat} {S : List Int}

theorem IntSet.made (W : World) (P : Program) (k e : TypeId) : IntSet (W.alloc (.map #[] 0)) P k e W.heap.size [] :=
  ⟨.map [], World.ownsMap_made _ _ _ _, tidy_empty, rfl, fun x => by simp [has]⟩

theorem IntSet.lt (h : IntSet W P k e b S) : b < W.heap.size := let ⟨_, h, _⟩ := h; h.lt
theorem IntSet.kept {row : Option Nat} (h : IntSet W P k e b S) (hg : W.grownBy W' row) (hne : some b ≠ row) : IntSet W' P k e b S :=
  let ⟨D, h1, h2⟩ := h; ⟨D, h1.kept hg hne, h2⟩
theorem below_grown (h : Below W.heap.size W W') : W.grownBy W' none := ⟨h.os, h.tape, h.output, h.size, fun k hk _ => h.block k hk⟩
theorem IntSet.ext (h : IntSet W P k e b S) (hb : Below W.heap.size W W') : IntSet W' P k e b S := h.kept (below_grown hb) (by simp)

theorem key_lit (x : Int) : WideAt.IsKeyLit (.int .i64 x) := by simp [WideAt.IsKeyLit]

theorem IntSet.miss (h : IntSet W P k e b S) (hk : P.underlying k = some (.int .i64)) (he : P.underlying e = some .bool) (ht : P.underlying t = some (.map k e)) (hz : ∀ w, (zeroValue e).run P w = .ok (.bool false) w)
    {x : Int} (hx : (Lit.int .i64 x).wf = true) (hn : x ∉ S) : (Instr.lookup t (.map (some b)) (.int .i64 x) false).run P W = .ok (.bool false) W := by
  obtain ⟨D, h1, h2, h3, h4⟩ := h
  obtain ⟨v, ps, hrun, hv⟩ := h1.lookup (int_keyed hk) ht (hz W) (plainElem_bool he false) (keyOf_int_mk hk hx)
  rw [atKey_of_not_has (by rw [h4]; simpa using hn)] at hv
  have : v = .bool false := by
    unfold plainElem at hv
    rw [he] at hv
    cases v <;> simp at hv
    rw [hv.1]
  rw [hrun, this]

theorem IntSet.add (h : IntSet W P k e b S) (hk : P.underlying k = some (.int .i64)) (he : P.underlying e = some .bool) (ht : P.underlying t = some (.map k e)) (hl : S.length < maxLen)
    {x : Int} (hx : (Lit.int .i64 x).wf = true) (hn : x ∉ S) : ∃ w', (Instr.mapUpdate t (.map (some b)) (.int .i64 x) (.bool true)).run P W = .ok () w' ∧ IntSet w' P k e b (S ++ [x]) ∧ W.grownBy w' (some b) := by
  obtain ⟨D, h1, h2, h3, h4⟩ := h
  obtain ⟨w', hrun, ho, hg⟩ := h1.update (int_keyed hk) ht hl (keyOf_int_mk hk hx) (plainElem_bool he true)
  refine ⟨w', hrun, ⟨_, by simpa using ho, h2.put (key_lit x) _, ?_, fun y => ?_⟩, hg⟩
  · rw [size_put h2, h4, if_neg (by simpa using hn), h3]; simp
  · by_cases hy : y = x
    · subst hy; rw [has_put_same h2.isMap (key_lit y)]; simp
    · rw [has_put_other (by simpa using hy), h4]; simp [hy]

theorem IntSet.len (h : IntSet W P k e b S) (ht : P.underlying t = some (.map k e)) (ty : TypeId) : (Builtin.len_ #[t] ty #[.map (some b)]).run P W = .ok (.int .i64 S.length) W := by
  obtain ⟨D, h1, h2, h3, h4⟩ := h
  rw [h1.len ht, h3]

end Go.Proofs.Ytblcbahdgpicgaa
