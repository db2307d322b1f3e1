/-
  law06, plainly: what a later incarnation appends.
-/
import Derived.Test.YtafejnbfgkkjkaaJn
namespace Go.Proofs.Ytafejnbfgkkjkaa
open Go.RowKit Go.Sort

theorem secAt_putF {t : Int} : ∀ (fs : List FrB) (S : DS) (m : Nat), (∀ i x, fs[i]? = some x → x.1.seq = t + ((m + i : Nat) : Int)) → m + fs.length ≤ 24 →
    (∀ i x, fs[i]? = some x → secAt (putF S fs) t (m + i) = secB x) ∧ ∀ j, j < 24 → (j < m ∨ m + fs.length ≤ j) → secAt (putF S fs) t j = secAt S t j
  | [], S, m, _, _ => ⟨fun i x h => by simp at h, fun j _ _ => rfl⟩
  | x :: fs, S, m, hs, hl => by
    rw [List.length_cons] at hl
    obtain ⟨h1, h2⟩ := secAt_putF (t := t) fs (S.write (2 + x.1.seq % 24) (secB x)) (m + 1) (fun i y hy => by
      have := hs (i + 1) y hy
      rw [this]; omega) (by omega)
    have hx : x.1.seq = t + (m : Int) := by have := hs 0 x rfl; simpa using this
    have hput : putF S (x :: fs) = putF (S.write (2 + x.1.seq % 24) (secB x)) fs := rfl
    rw [hput]
    refine ⟨fun i y hy => ?_, fun j hj hc => ?_⟩
    · cases i with
      | zero =>
        cases hy
        rw [Nat.add_zero, h2 m (by omega) (.inl (by omega)), hx, secAt_write S t _ (by omega) (by omega), if_pos rfl]
      | succ i =>
        have := h1 i y hy
        rwa [show m + 1 + i = m + (i + 1) by omega] at this
    · rw [List.length_cons] at hc
      rw [h2 j hj (by omega), hx, secAt_write S t _ (by omega) hj, if_neg (by omega)]
/-- behind p sectors, which a scan found, these records of the second incarnation; B: what the sectors were -/
structure JNew (B : Nat → List UInt8) (S : DS) (p : Nat) (new : List (List UInt8)) : Prop where
  le : p + (framesL 2 (1 + (p : Int)) new).length ≤ 24
  at_ : ∀ i x, (framesL 2 (1 + (p : Int)) new)[i]? = some x → secAt S 1 (p + i) = secB x
  old : ∀ j, j < 24 → (j < p ∨ p + (framesL 2 (1 + (p : Int)) new).length ≤ j) → secAt S 1 j = B j
  ok : ∀ q ∈ beginsL (1 + (p : Int)) new, cutOk q.2 q.1 2
  up : S.down = false
  small : ∀ k, (S.cache k).length ≤ (framesL 2 (1 + (p : Int)) new).length
abbrev JNew.nx (p : Nat) (new : List (List UInt8)) : Int := JLog.nx (1 + (p : Int)) 2 new
theorem JNew.app {B : Nat → List UInt8} {S S1 : DS} {p : Nat} {n' er : Int} {new : List (List UInt8)} {bs : List UInt8} (h : JNew B S p new) (hP : AppP 1 (JNew.nx p new) 2 bs S n' er S1) :
    (er = 0 ∧ JNew B S1 p (new ++ [bs]) ∧ n' = JNew.nx p (new ++ [bs])) ∨ (er ≠ 0 ∧ S1 = S ∧ n' = JNew.nx p new) := by
  rcases hP with ⟨ho, rfl, rfl, rfl⟩ | ⟨ho, rfl, he, rfl⟩
  · left
    have hl := h.le
    have hfit : p + (framesL 2 (1 + (p : Int)) new).length + nOf bs.length ≤ 24 := by
      have := ho.2.2
      unfold JNew.nx JLog.nx at this; omega
    obtain ⟨h1, h2⟩ := secAt_putF (t := 1) (cutF bs (JNew.nx p new) 2) S (p + (framesL 2 (1 + (p : Int)) new).length) (fun i x hx => by rw [cutF_seq hx]; unfold JNew.nx JLog.nx; omega) (by rw [cutF_length]; exact hfit)
    rw [cutF_length] at h2
    refine ⟨rfl, ⟨?_, fun i x hx => ?_, fun j hj hc => ?_, fun q hq => ?_, (putF_down _ _).trans h.up, fun k => ?_⟩, (nx_snoc _ _ _ _).symm⟩
    · rw [framesL_snoc, List.length_append, cutF_length]; omega
    · rw [framesL_snoc] at hx
      rcases Nat.lt_or_ge i (framesL 2 (1 + (p : Int)) new).length with h3 | h3
      · rw [List.getElem?_append_left h3] at hx
        rw [h2 (p + i) (by omega) (.inl (by omega))]
        exact h.at_ i x hx
      · rw [List.getElem?_append_right h3] at hx
        have := h1 _ x hx
        rwa [show p + (framesL 2 (1 + (p : Int)) new).length + (i - (framesL 2 (1 + (p : Int)) new).length) = p + i by omega] at this
    · rw [framesL_snoc, List.length_append, cutF_length] at hc
      rw [h2 j hj (by omega)]
      exact h.old j hj (by omega)
    · rw [beginsL_snoc 2] at hq
      rcases List.mem_append.1 hq with hq | hq
      · exact h.ok q hq
      · rw [List.mem_singleton.1 hq]
        have := nOf_le ho.2.1
        exact ⟨ho.1, by simp only; unfold JLog.nx; omega, by omega, ho.2.1, by simp only; unfold JLog.nx; omega⟩
    · rw [framesL_snoc, List.length_append]
      exact putF_cache_le _ h.small k
  · exact .inr ⟨he, rfl, rfl⟩
theorem again_flush (S : DS) (late : List (Int × Int)) (j : Nat) : secAt (S.flush.again late) 1 j = secAt S 1 j := by
  have hc : secAt (S.flush.again late) 1 j = durS S.flush 1 j ∨ secAt (S.flush.again late) 1 j ∈ cacS S.flush 1 j := crash_at S.flush late 1 j
  rcases hc with e | e
  · rw [e]; rfl
  · cases e
/-- what the last scan tells -/
theorem later_at {S0 S : DS} {put new : List (List UInt8)} {k : Nat} (plan late : List (Int × Int)) (J : JLog S0 1 1 put 0) (hk : k ≤ put.length)
    (hkept : ∀ (j : Nat) x, j < (framesL 1 1 (put.take k)).length → (framesL 1 1 put)[j]? = some x → secAt (S0.again plan) 1 j = secB x)
    (hsl : (scanOf (S0.again plan) 1).l = beginsL 1 (put.take k))
    (N : JNew (fun j => secAt (S0.again plan) 1 j) S (framesL 1 1 (put.take k)).length new) : (scanOf (S.flush.again late) 1).l.map (·.2) = put.take k ++ new := by
  obtain ⟨p, hp⟩ : ∃ p, p = (framesL 1 1 (put.take k)).length := ⟨_, rfl⟩
  rw [← hp] at N hkept
  have hput : framesL 1 1 put = framesL 1 1 (put.take k) ++ framesL 1 (1 + (p : Int)) (put.drop k) := by
    conv => lhs; rw [← List.take_append_drop k put, framesL_append, ← hp]
  have hG := J.inv.len
  by_cases hnew : new = []
  · subst hnew
    have hs : secsOf (S.flush.again late) 1 = secsOf (S0.again plan) 1 := by
      refine List.ext_getElem? fun j => ?_
      rcases Nat.lt_or_ge j 24 with h | h
      · rw [secsOf_get _ _ h, secsOf_get _ _ h, again_flush, N.old j h (by simp [framesL]; omega)]
      · rw [List.getElem?_eq_none (by rw [secsOf_len]; exact h), List.getElem?_eq_none (by rw [secsOf_len]; exact h)]
    have : scanOf (S.flush.again late) 1 = scanOf (S0.again plan) 1 := by unfold scanOf; rw [hs]
    rw [this, hsl, beginsL_snd, List.append_nil]
  · have hle := N.le
    obtain ⟨rest, hsec, hrest⟩ := secsOf_split (S.flush.again late) 1 (fs := framesL 1 1 (put.take k) ++ framesL 2 (1 + (p : Int)) new) (by rw [List.length_append, ← hp]; exact hle) fun j x hx => by
      rw [again_flush]
      rcases Nat.lt_or_ge j p with h | h
      · rw [List.getElem?_append_left (by rw [← hp]; exact h)] at hx
        rw [N.old j (by omega) (.inl h)]
        exact hkept j x h (by rw [hput, List.getElem?_append_left (by rw [← hp]; exact h)]; exact hx)
      · rw [List.getElem?_append_right (by rw [← hp]; exact h), ← hp] at hx
        have := N.at_ _ x hx
        rwa [show p + (j - p) = j by omega] at this
    have hend : Ends (1 + (p : Int) + ((framesL 2 (1 + (p : Int)) new).length : Nat)) 2 rest := fun y t' hy f ld hf _ hinc _ => by
      exfalso
      obtain ⟨h24, rfl⟩ := hrest y t' hy
      rw [List.length_append, ← hp] at h24 hf
      rw [again_flush, N.old _ h24 (.inr (Nat.le_refl _))] at hf
      cases hg : (framesL 1 1 put)[p + (framesL 2 (1 + (p : Int)) new).length]? with
      | none => rw [(J.crashed plan h24).2 hg, readF_zero] at hf; cases hf
      | some x =>
        rcases (J.crashed plan h24).1 x hg with e | ⟨-, e⟩
        · rw [e, framesL_read J.ok hg] at hf
          have := (framesL_get 1 1 put hg).2
          rw [Option.some.inj hf] at this
          have h1 : f.inc = 1 := this
          omega
        · rw [e, readF_zero] at hf; cases hf
    have hokO : ∀ q ∈ beginsL 1 (put.take k), cutOk q.2 q.1 1 := fun q hq => J.ok q (by
      rw [← List.take_append_drop k put, beginsL_append 1]; exact List.mem_append_left _ hq)
    have e2 : ∀ {inc nx : Int} {l : List (Int × List UInt8)}, inc ≤ 2 → (scanP ⟨1 + (p : Int), inc, [], l, nx⟩ ((framesL 2 (1 + (p : Int)) new).map secB ++ rest)).l = l ++ beginsL (1 + (p : Int)) new := fun {inc nx l} hi => by
      rw [scan_all new rest N.ok hi hnew]
      exact (scan_end hend).1
    have hscan : scanOf (S.flush.again late) 1 = scanP ⟨1, 0, [], [], 1⟩ (secsOf (S.flush.again late) 1) := rfl
    rw [hscan, hsec, List.map_append, List.append_assoc]
    by_cases hold : put.take k = []
    · rw [hold] at hp ⊢
      have hp0 : p = 0 := hp
      subst hp0
      have := e2 (inc := 0) (nx := 1) (l := []) (by omega)
      have h1 : (1 : Int) + ((0 : Nat) : Int) = 1 := by omega
      rw [h1] at this
      show (scanP ⟨1, 0, [], [], 1⟩ (_ ++ _)).l.map (·.2) = _
      rw [h1]
      simp only [framesL, List.map_nil, List.nil_append]
      rw [this, List.nil_append, beginsL_snd]
    · rw [scan_all (put.take k) _ hokO (by omega) hold, ← hp, e2 (by omega), List.nil_append, List.map_append, beginsL_snd, beginsL_snd]

end Go.Proofs.Ytafejnbfgkkjkaa
