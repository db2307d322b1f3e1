/-
  law21: CoordAll, plainly.
-/
import Derived.Test.YtidpeojkkfmgeaaCo
namespace Go.Proofs.Ytidpeojkkfmgeaa
open Go.RowKit Go.Sort

abbrev nm1 : Nm := ⟨1, 1, 1⟩
/-- the machine while it is voted on; while acks come in -/
def stA (n s : Int) : Dl := [(⟨nm1, if s = n then 2 else 1, n, s, 0, -1, 0⟩, [])]
def stB (n g : Int) : Dl := if g = n then [] else [(⟨nm1, 3, n, n, g, -1, 0⟩, [])]
def ackM (f : Int) : Msg := ⟨7, f, 0, 1, 0, nm1, 0, 0, 0, ⟨0, 0, 0, 0, 0, 0, 0, 0⟩, 0, false, 0, 0⟩
/-- bits within those of n -/
def Within (n s : Int) : Prop := (0 ≤ s ∧ s ≤ 31) ∧ andNotV s n = 0
def nxt (n s : Int) (k : Nat) : Int := if bitK n k = true then orV s (1 * 2 ^ k) else s
theorem or32 : ∀ (n s : Fin 32) (k : Fin 4), andNotV (s.val : Int) (n.val : Int) = 0 → bitK (n.val : Int) (k.val + 1) = true → andNotV (orV (s.val : Int) (1 * 2 ^ (k.val + 1))) (n.val : Int) = 0 ∧ 0 ≤ orV (s.val : Int) (1 * 2 ^ (k.val + 1)) ∧ orV (s.val : Int) (1 * 2 ^ (k.val + 1)) ≤ 31 ∧ (s = n → orV (s.val : Int) (1 * 2 ^ (k.val + 1)) = (n.val : Int)) := by decide +kernel
theorem nxt_ok {n s : Int} {k : Nat} (hn : 0 ≤ n ∧ n ≤ 31) (hs : Within n s) (hk : 1 ≤ k ∧ k ≤ 4) : Within n (nxt n s k) ∧ (s = n → nxt n s k = n) := by
  unfold nxt
  by_cases hb : bitK n k = true
  · rw [if_pos hb]
    obtain ⟨⟨h0, h1⟩, h2⟩ := hs
    obtain ⟨N, rfl⟩ := Int.eq_ofNat_of_zero_le hn.1
    obtain ⟨s', rfl⟩ := Int.eq_ofNat_of_zero_le h0
    obtain ⟨j, rfl⟩ : ∃ j, k = j + 1 := ⟨k - 1, by omega⟩
    obtain ⟨g1, g2, g3, g4⟩ := or32 ⟨N, by omega⟩ ⟨s', by omega⟩ ⟨j, by omega⟩ h2 hb
    exact ⟨⟨⟨g2, g3⟩, g1⟩, fun h => g4 (Fin.ext (by show s' = N; omega))⟩
  · rw [if_neg hb]; exact ⟨hs, fun h => h⟩
theorem andNot0 (n : Int) : andNotV 0 n = 0 := by
  show IntKind.i64.wrap ((BitVec.ofInt 64 0 &&& ~~~BitVec.ofInt 64 n).toNat) = 0
  rw [show BitVec.ofInt 64 0 &&& ~~~BitVec.ofInt 64 n = 0#64 by simp]; rfl
theorem andNotSelf (n : Int) : andNotV n n = 0 := by
  show IntKind.i64.wrap ((BitVec.ofInt 64 n &&& ~~~BitVec.ofInt 64 n).toNat) = 0
  rw [show BitVec.ofInt 64 n &&& ~~~BitVec.ofInt 64 n = 0#64 by simp]; rfl
theorem mach_stA {n s : Int} (hn : shardsB n = true) (hs : Within n s) : machB (stA n s) = true := by
  refine machB_iff.2 ⟨by simp [stA], fun q hq => ?_, rfl⟩
  obtain rfl : q = (⟨nm1, if s = n then 2 else 1, n, s, 0, -1, 0⟩, []) := by simpa [stA] using hq
  refine drOk_iff.2 ⟨rfl, ?_, hn, hs.2, ?_, ?_, .inr rfl, rfl, rfl⟩
  · by_cases h : s = n <;> simp [h]
  · exact andNot0 n
  · by_cases h : s = n
    · exact .inr h
    · left; simp [h]
theorem mach_stB {n g : Int} (hn : shardsB n = true) (hg : Within n g) : machB (stB n g) = true := by
  unfold stB
  by_cases h : g = n
  · rw [if_pos h]; rfl
  · rw [if_neg h]
    refine machB_iff.2 ⟨by simp, fun q hq => ?_, rfl⟩
    obtain rfl : q = (⟨nm1, 3, n, n, g, -1, 0⟩, []) := by simpa using hq
    refine drOk_iff.2 ⟨rfl, ⟨by show (1 : Int) ≤ 3; decide, by show (3 : Int) ≤ 3; decide⟩, hn, ?_, hg.2, .inr rfl, .inl rfl, rfl, rfl⟩
    exact andNotSelf n
theorem name_may {k : Nat} (hk : 1 ≤ k ∧ k ≤ 4) : hearsM (voteM (k : Int) true) [] ∧ hearsM (ackM (k : Int)) [] := by
  have : k = 1 ∨ k = 2 ∨ k = 3 ∨ k = 4 := by omega
  rcases this with rfl | rfl | rfl | rfl <;> exact ⟨⟨by decide, .inl rfl⟩, ⟨by decide, .inr (.inl rfl)⟩⟩
/-- what a vote makes of it -/
theorem vote_hear {n s : Int} {k : Nat} {r : Out} (hn : 0 ≤ n ∧ n ≤ 31) (hs : Within n s) (hk : 1 ≤ k ∧ k ≤ 4) (h : HearP (stA n s) (voteM (k : Int) true) r) :
    ∃ kl, r = (stA n (nxt n s k), [], kl, []) ∧ (nxt n s k = n ∧ s ≠ n → kl.length = 1) ∧ (¬ (nxt n s k = n ∧ s ≠ n) → kl.length = 0) := by
  have ho := (nxt_ok hn hs hk).2
  rcases h with ⟨j, q, hq, -, rfl⟩ | ⟨h, -⟩
  · obtain rfl : j = 0 := by have := (List.getElem?_eq_some_iff.1 hq).1; simpa [stA] using this
    obtain rfl : q = (⟨nm1, if s = n then 2 else 1, n, s, 0, -1, 0⟩, []) := by simpa [stA] using hq.symm
    unfold hear1
    have hp3 : ¬ (if s = n then (2 : Int) else 1) = 3 := by split <;> decide
    rw [if_neg (fun h => hp3 h.1), if_neg (fun h => by have := h.2.2.2; simp [voteM] at this)]
    by_cases hb : bitK n k = true
    · by_cases he : s = n
      · have hnx := ho he
        rw [if_neg (fun h => absurd h.1 (by show ¬ (if s = n then (2 : Int) else 1) = 1; rw [if_pos he]; decide)), if_neg (fun h => hp3 h.1), hnx]
        refine ⟨[], by rw [he], fun h => absurd he h.2, fun _ => rfl⟩
      · have hnx : nxt n s k = orV s (1 * 2 ^ k) := by unfold nxt; rw [if_pos hb]
        rw [if_pos ⟨by show (if s = n then (2 : Int) else 1) = 1; rw [if_neg he], rfl, hb⟩, hnx]
        show ∃ kl, hear2 _ 0 ((⟨nm1, if s = n then 2 else 1, n, orV s (1 * 2 ^ k), 0, -1, 0⟩ : Dr), []) = _ ∧ _
        rw [if_neg he]
        by_cases hf : orV s (1 * 2 ^ k) = n
        · rw [hear2_keep rfl hf]
          exact ⟨_, by unfold stA; rw [if_pos hf]; rfl, fun _ => rfl, fun h => absurd ⟨hf, he⟩ h⟩
        · rw [hear2_no (fun h => hf h.2) (fun h => absurd h.1 (by show (1 : Int) ≠ 3; decide))]
          exact ⟨_, by unfold stA; rw [if_neg hf]; rfl, fun h => absurd h.1 hf, fun _ => rfl⟩
    · have hnx : nxt n s k = s := by unfold nxt; rw [if_neg hb]
      rw [if_neg (fun h => hb h.2.2), if_neg (fun h => hp3 h.1), hnx]
      exact ⟨_, rfl, fun h => absurd h.1 h.2, fun _ => rfl⟩
  · exact absurd rfl (h 0 _ rfl)
/-- what an ack makes of it -/
theorem ack_hear {n g : Int} {k : Nat} {r : Out} (hn : 0 ≤ n ∧ n ≤ 31) (hg : Within n g) (hk : 1 ≤ k ∧ k ≤ 4) (h : HearP (stB n g) (ackM (k : Int)) r) :
    ∃ ml kl, r = (stB n (nxt n g k), ml, kl, []) ∧ (nxt n g k = n ∧ g ≠ n → kl.length = 1) ∧ (¬ (nxt n g k = n ∧ g ≠ n) → kl.length = 0) := by
  have ho := (nxt_ok hn hg hk).2
  have hna : ¬ asksM (ackM (k : Int)) := by
    unfold asksM; rintro (h | ⟨h, -⟩)
    · exact absurd h (by show (7 : Int) ≠ 8; decide)
    · exact absurd h (by show (7 : Int) ≠ 5; decide)
  by_cases he : g = n
  · have hnx := ho he
    have hB : stB n g = [] := by unfold stB; rw [if_pos he]
    rw [hB] at h
    rcases h with ⟨j, q, hq, -, rfl⟩ | ⟨-, rfl⟩
    · simp at hq
    · unfold hear0
      rw [if_neg hna]
      exact ⟨_, _, by unfold stB; rw [if_pos hnx], fun h => absurd he h.2, fun _ => rfl⟩
  · have hB : stB n g = [(⟨nm1, 3, n, n, g, -1, 0⟩, [])] := by unfold stB; rw [if_neg he]
    rw [hB] at h
    rcases h with ⟨j, q, hq, -, rfl⟩ | ⟨h, -⟩
    · obtain rfl : j = 0 := by have := (List.getElem?_eq_some_iff.1 hq).1; simpa using this
      obtain rfl : q = (⟨nm1, 3, n, n, g, -1, 0⟩, []) := by simpa using hq.symm
      unfold hear1
      rw [if_neg (fun h => hna h.2), if_neg (fun h => absurd h.1 (by show (3 : Int) ≠ 1; decide)), if_neg (fun h => absurd h.1 (by show (3 : Int) ≠ 1; decide))]
      by_cases hb : bitK n k = true
      · have hnx : nxt n g k = orV g (1 * 2 ^ k) := by unfold nxt; rw [if_pos hb]
        rw [if_pos ⟨rfl, rfl, hb⟩, hnx]
        show ∃ ml kl, hear2 _ 0 ((⟨nm1, 3, n, n, orV g (1 * 2 ^ k), -1, 0⟩ : Dr), []) = _ ∧ _
        by_cases hf : orV g (1 * 2 ^ k) = n
        · rw [hear2_end rfl hf]
          exact ⟨_, _, by unfold stB; rw [if_pos hf]; rfl, fun _ => rfl, fun h => absurd ⟨hf, he⟩ h⟩
        · rw [hear2_no (fun h => absurd h.1 (by show (3 : Int) ≠ 1; decide)) (fun h => hf h.2)]
          exact ⟨_, _, by unfold stB; rw [if_neg hf]; rfl, fun h => absurd h.1 hf, fun _ => rfl⟩
      · have hnx : nxt n g k = g := by unfold nxt; rw [if_neg hb]
        rw [if_neg (fun h => hb h.2.2), hnx]
        exact ⟨_, _, by rw [hB], fun h => absurd h.1 h.2, fun _ => rfl⟩
    · exact absurd rfl (h 0 _ rfl)
theorem kept_stA {n : Int} (h0 : 0 < n) {k : Nat} {q : Dr × List Wr} (h : InP (stA n n) nm1 2 k q) : ∃ ml el, keptR (stA n n) nm1 k q = (stB n 0, ml, [], el) := by
  obtain ⟨hq, -, -⟩ := h
  obtain rfl : k = 0 := by have := (List.getElem?_eq_some_iff.1 hq).1; simpa [stA] using this
  obtain rfl : q = (⟨nm1, if n = n then 2 else 1, n, n, 0, -1, 0⟩, []) := by simpa [stA] using hq.symm
  exact ⟨_, _, by unfold keptR stB; rw [if_neg (show ¬ (0 : Int) = n by omega)]; rfl⟩
theorem in_stA (n : Int) : InP (stA n n) nm1 2 0 (⟨nm1, if n = n then 2 else 1, n, n, 0, -1, 0⟩, []) := ⟨rfl, rfl, by show (if n = n then (2 : Int) else 1) = 2; rw [if_pos rfl]⟩
theorem phase_stA {n s p : Int} (hn : shardsB n = true) (hs : Within n s) (h : PhaseP (stA n s) nm1 p) : p = if s = n then 2 else 1 := phase_one (machB_iff.1 (mach_stA hn hs)).2.2 h (.inl ⟨0, _, rfl, rfl, rfl⟩)
theorem phase_stB {n g p : Int} (hn : shardsB n = true) (hg : Within n g) (h : PhaseP (stB n g) nm1 p) : p = if g = n then 0 else 3 := by
  refine phase_one (machB_iff.1 (mach_stB hn hg)).2.2 h ?_
  unfold stB
  by_cases he : g = n
  · rw [if_pos he, if_pos he]; exact .inr ⟨rfl, fun i q hq => by simp at hq⟩
  · rw [if_neg he, if_neg he]; exact .inl ⟨0, _, rfl, rfl, rfl⟩
theorem com_stA {n : Int} (h0 : 0 < n) : comR nm1 n = (stA n 0, (bitsK n 4).map (prepM ⟨nm1, 1, n, 0, 0, -1, 0⟩ []), [], []) := by unfold comR stA; rw [if_neg (by omega)]

end Go.Proofs.Ytidpeojkkfmgeaa
