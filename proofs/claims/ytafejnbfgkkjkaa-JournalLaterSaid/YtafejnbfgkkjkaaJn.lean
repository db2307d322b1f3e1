/-
  law06, plainly: what is found behind a crash.
-/
import Derived.Test.YtafejnbfgkkjkaaJl
namespace Go.Proofs.Ytafejnbfgkkjkaa
open Go.RowKit Go.Sort

def DS.again (S : DS) (plan : List (Int × Int)) : DS := { S.crash plan with down := false }
/-- a sector behind a crash -/
theorem JLog.crashed {S : DS} {t inc : Int} {put : List (List UInt8)} {c : Nat} (h : JLog S t inc put c) (plan : List (Int × Int)) {j : Nat} (hj : j < 24) :
    (∀ x, (framesL inc t put)[j]? = some x → secAt (S.again plan) t j = secB x ∨ (c ≤ j ∧ secAt (S.again plan) t j = zero64)) ∧ ((framesL inc t put)[j]? = none → secAt (S.again plan) t j = zero64) := by
  have hc : secAt (S.again plan) t j = durS S t j ∨ secAt (S.again plan) t j ∈ cacS S t j := crash_at S plan t j
  refine ⟨fun x hx => ?_, fun hx => ?_⟩
  · rcases Nat.lt_or_ge j c with h1 | h1
    · obtain ⟨h2, h3⟩ := h.inv.old j x h1 hx
      rw [h2, h3] at hc
      rcases hc with e | e
      · exact .inl e
      · cases e
    · obtain ⟨h2, h3⟩ := h.inv.new j h1 hj
      rw [hx] at h3
      rw [h2, h3] at hc
      rcases hc with e | e
      · exact .inr ⟨h1, e⟩
      · exact .inl (by simpa using e)
  · have hge : c ≤ j := by
      have := h.inv.le
      have := List.getElem?_eq_none_iff.1 hx
      omega
    obtain ⟨h2, h3⟩ := h.inv.new j hge hj
    rw [hx] at h3
    rw [h2, h3] at hc
    rcases hc with e | e
    · exact e
    · cases e
theorem framesL_take_le (inc t : Int) (put : List (List UInt8)) (k : Nat) : (framesL inc t (put.take k)).length ≤ (framesL inc t put).length := by
  conv => rhs; rw [← List.take_append_drop k put, framesL_append]
  rw [List.length_append]; omega
theorem found_at {S : DS} {t inc : Int} {put : List (List UInt8)} {c m : Nat} (h : JLog S t inc put c) (hi : 0 ≤ inc) (hm : m ≤ put.length) (hc : c = (framesL inc t (put.take m)).length) (plan : List (Int × Int)) :
    ∃ k, m ≤ k ∧ k ≤ put.length ∧ (scanOf (S.again plan) t).l = beginsL t (put.take k) ∧ (scanOf (S.again plan) t).next = JLog.nx t inc (put.take k) ∧ ∀ (j : Nat) x, j < (framesL inc t (put.take k)).length → (framesL inc t put)[j]? = some x → secAt (S.again plan) t j = secB x := by
  have hlen := h.inv.len
  have hget : ∀ (j : Nat) y, (secsOf (S.again plan) t)[j]? = some y → j < 24 ∧ y = secAt (S.again plan) t j := fun j y hy => by
    have hj : j < 24 := by
      have := (List.getElem?_eq_some_iff.1 hy).1
      rwa [secsOf_len] at this
    rw [secsOf_get _ _ hj] at hy
    exact ⟨hj, (Option.some.inj hy).symm⟩
  obtain ⟨k, hk, h1, h2, h3, h4⟩ := scan_kept put (q := t) (inc := 0) (inc' := inc) (l := []) (xs := secsOf (S.again plan) t) hi h.ok (by rw [secsOf_len]; exact hlen)
    (fun j x y hy hx => by
      obtain ⟨hj, rfl⟩ := hget j y hy
      rcases (h.crashed plan hj).1 x hx with e | ⟨-, e⟩
      · exact .inl e
      · exact .inr (by rw [e]; exact readF_zero))
    (fun j y hy hj => by
      obtain ⟨hj2, rfl⟩ := hget j y hy
      rw [(h.crashed plan hj2).2 (List.getElem?_eq_none hj)]; exact readF_zero)
  refine ⟨k, h3 m hm fun j x y hj hy hx => ?_, hk, ?_, h2, fun j x hj hx => h4 j x _ hj (secsOf_get _ _ (by have := framesL_take_le inc t put k; omega)) hx⟩
  · obtain ⟨hj2, rfl⟩ := hget j y hy
    rcases (h.crashed plan hj2).1 x hx with e | ⟨e, -⟩
    · exact e
    · omega
  · exact h1
theorem wants_appOk {t nx : Int} {bs : List UInt8} : (0 < wantsP (bs.length : Int) ∧ wantsP (bs.length : Int) ≤ t + 24 - nx) ↔ appOk t nx bs := by
  unfold wantsP appOk nOf
  have hne : bs ≠ [] ↔ 0 < bs.length := List.length_pos_iff.symm
  rw [hne]
  split <;> omega

end Go.Proofs.Ytafejnbfgkkjkaa
