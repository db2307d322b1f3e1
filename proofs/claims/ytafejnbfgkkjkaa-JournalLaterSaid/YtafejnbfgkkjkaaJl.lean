/-
  law06, plainly: a scan from where a record begins, and from elsewhere.
-/
import Derived.Test.YtafejnbfgkkjkaaJk
namespace Go.Proofs.Ytafejnbfgkkjkaa
open Go.RowKit Go.Sort

theorem secAt_shift (S : DS) (t : Int) {m j : Nat} (hm : m ≤ 24) (hj : j < 24) : secAt S (t + (m : Int)) j = if m + j < 24 then secAt S t (m + j) else secAt S t (m + j - 24) := by
  unfold secAt
  split
  · congr 2; omega
  · congr 2; omega
theorem framesL_read {inc : Int} : ∀ {t : Int} {put : List (List UInt8)}, (∀ p ∈ beginsL t put, cutOk p.2 p.1 inc) → ∀ {m : Nat} {x : FrB}, (framesL inc t put)[m]? = some x → readF (secB x) = some x
  | t, [], _, m, x, h => by simp [framesL] at h
  | t, b :: put, hok, m, x, h => by
    rw [framesL] at h
    rcases Nat.lt_or_ge m (nOf b.length) with h1 | h1
    · rw [List.getElem?_append_left (by rw [cutF_length]; exact h1)] at h
      have e : (cutF b t inc)[m]? = some (frOf b t inc m) := by unfold cutF; simp [h1]
      rw [e] at h; obtain rfl := Option.some.inj h
      exact frOf_read (hok (t, b) (by simp [beginsL])) h1
    · rw [List.getElem?_append_right (by rw [cutF_length]; exact h1)] at h
      exact framesL_read (fun p hp => hok p (by rw [beginsL]; exact List.mem_cons_of_mem _ hp)) h
theorem framesL_part {inc : Int} : ∀ {t : Int} {put : List (List UInt8)} {m : Nat} {x : FrB}, (framesL inc t put)[m]? = some x → x.1.part = 0 → ∃ (i : Nat) (r : List UInt8), (beginsL t put)[i]? = some (t + (m : Int), r)
  | t, [], m, x, h, _ => by simp [framesL] at h
  | t, b :: put, m, x, h, hp => by
    rw [framesL] at h
    rcases Nat.lt_or_ge m (nOf b.length) with h1 | h1
    · rw [List.getElem?_append_left (by rw [cutF_length]; exact h1)] at h
      have e : (cutF b t inc)[m]? = some (frOf b t inc m) := by unfold cutF; simp [h1]
      rw [e] at h; obtain rfl := Option.some.inj h
      have hm : m = 0 := by have : ((m : Nat) : Int) = 0 := hp; omega
      subst hm
      exact ⟨0, b, by simp [beginsL]⟩
    · rw [List.getElem?_append_right (by rw [cutF_length]; exact h1), cutF_length] at h
      obtain ⟨i, r, h2⟩ := framesL_part h hp
      refine ⟨i + 1, r, ?_⟩
      rw [beginsL, List.getElem?_cons_succ, h2]
      congr 2; omega
theorem beginsL_len : ∀ (t : Int) (put : List (List UInt8)), (beginsL t put).length = put.length
  | _, [] => rfl
  | t, b :: put => by simp [beginsL, beginsL_len _ put]
/-- what a sector reads as -/
theorem JLog.reads {S : DS} {t inc : Int} {put : List (List UInt8)} {c : Nat} (h : JLog S t inc put c) {m j : Nat} (hm : m ≤ 24) (hj : j < 24) {x : FrB} (hx : readF (secAt S (t + (m : Int)) j) = some x) :
    ((framesL inc t put)[m + j]? = some x ∧ x.1.seq = t + (m : Int) + (j : Int)) ∨ x.1.seq = t + (m : Int) + (j : Int) - 24 := by
  rw [secAt_shift S t hm hj] at hx
  have key : ∀ k, k < 24 → readF (secAt S t k) = some x → (framesL inc t put)[k]? = some x ∧ x.1.seq = t + (k : Int) := fun k hk hr => by
    rw [h.inv.at hk] at hr
    cases hg : (framesL inc t put)[k]? with
    | none => rw [hg] at hr; rw [readF_zero] at hr; cases hr
    | some y =>
      rw [hg] at hr
      have := framesL_read h.ok hg
      rw [this] at hr
      obtain rfl := Option.some.inj hr
      exact ⟨rfl, (framesL_get inc t put hg).1⟩
  split at hx
  · rename_i hlt
    obtain ⟨h1, h2⟩ := key _ hlt hx
    exact .inl ⟨h1, by rw [h2]; omega⟩
  · rename_i hge
    obtain ⟨h1, h2⟩ := key _ (by omega) hx
    exact .inr (by rw [h2]; omega)
theorem secsOf_split (S : DS) (q : Int) {fs : List FrB} (hl : fs.length ≤ 24) (h : ∀ j x, fs[j]? = some x → secAt S q j = secB x) : ∃ rest, secsOf S q = fs.map secB ++ rest ∧ ∀ y t, rest = y :: t → fs.length < 24 ∧ y = secAt S q fs.length := by
  refine ⟨(secsOf S q).drop fs.length, ?_, fun y t hy => ?_⟩
  · refine List.ext_getElem? fun j => ?_
    rcases Nat.lt_or_ge j fs.length with h1 | h1
    · rw [List.getElem?_append_left (by simpa using h1), secsOf_get S q (by omega), List.getElem?_map, List.getElem?_eq_getElem h1]
      simp only [Option.map_some]
      congr 1
      exact h j _ (List.getElem?_eq_getElem h1)
    · rw [List.getElem?_append_right (by simpa using h1), List.getElem?_drop, List.length_map]
      congr 1; omega
  · have hlen : fs.length < 24 := by
      have := congrArg List.length hy
      rw [List.length_drop, secsOf_len, List.length_cons] at this
      omega
    refine ⟨hlen, ?_⟩
    have h0 : ((secsOf S q).drop fs.length)[0]? = some y := by rw [hy]; rfl
    rw [List.getElem?_drop, Nat.add_zero, secsOf_get S q hlen] at h0
    exact (Option.some.inj h0).symm
theorem tails_at {S : DS} {t inc : Int} {put : List (List UInt8)} {c : Nat} (J : JLog S t inc put c) (hi : 0 ≤ inc) {i : Nat} {q : Int} {r : List UInt8} (hb : (beginsL t put)[i]? = some (q, r)) : (scanOf S q).l.map (·.2) = put.drop i ∧ (scanOf S q).next = JLog.nx t inc put := by
  have hil : i < put.length := by
    have := (List.getElem?_eq_some_iff.1 hb).1
    rwa [beginsL_len] at this
  obtain ⟨a, ha⟩ : ∃ a, a = put.take i := ⟨_, rfl⟩
  obtain ⟨d, hd⟩ : ∃ d, d = put.drop i := ⟨_, rfl⟩
  have hput : put = a ++ d := by rw [ha, hd, List.take_append_drop]
  have hdl : d ≠ [] := fun e => by
    have := congrArg List.length e
    rw [hd, List.length_drop] at this
    simp at this; omega
  have hal : a.length = i := by rw [ha, List.length_take]; omega
  have hq : q = t + ((framesL inc t a).length : Nat) := by
    rw [hput, beginsL_append inc, List.getElem?_append_right (by rw [beginsL_len]; omega), beginsL_len, hal, Nat.sub_self] at hb
    cases d with
    | nil => exact absurd rfl hdl
    | cons b d => rw [beginsL] at hb; cases hb; rfl
  have hG : framesL inc t put = framesL inc t a ++ framesL inc q d := by rw [hput, framesL_append, hq]
  have hlen := J.inv.len
  have hlen2 : (framesL inc t a).length + (framesL inc q d).length ≤ 24 := by rw [hG, List.length_append] at hlen; exact hlen
  obtain ⟨m, hm⟩ : ∃ m, m = (framesL inc t a).length := ⟨_, rfl⟩
  rw [← hm] at hq hlen2
  obtain ⟨rest, hsec, hrest⟩ := secsOf_split S q (fs := framesL inc q d) (by omega) fun j x hx => by
    have hj := (List.getElem?_eq_some_iff.1 hx).1
    rw [hq, secAt_shift S t (by omega) (by omega), if_pos (by omega), J.inv.at (by omega), hG, List.getElem?_append_right (by omega), ← hm, show m + j - m = j by omega, hx]
  have hend : Ends (q + ((framesL inc q d).length : Nat)) inc rest := fun y t' hy f ld hf hs _ _ => by
    exfalso
    obtain ⟨h24, rfl⟩ := hrest y t' hy
    rw [hq] at hf
    have hGl : (framesL inc t put).length = m + (framesL inc q d).length := by rw [hG, List.length_append, hm]
    rw [← hq] at hf
    have hf2 : readF (secAt S (t + (m : Int)) (framesL inc q d).length) = some (f, ld) := by rw [← hq]; exact hf
    rcases J.reads (by omega) h24 hf2 with ⟨h1, -⟩ | h1
    · rw [List.getElem?_eq_none (by omega)] at h1; cases h1
    · have : f.seq = t + (m : Int) + ((framesL inc q d).length : Int) - 24 := h1
      omega
  have hok : ∀ p ∈ beginsL q d, cutOk p.2 p.1 inc := fun p hp => J.ok p (by rw [hput, beginsL_append inc, ← hm, ← hq]; exact List.mem_append_right _ hp)
  have hs := scan_all d (q := q) (inc := 0) (inc' := inc) (nx := q) (l := []) rest hok hi hdl
  obtain ⟨e1, e2⟩ := scan_end (l := [] ++ beginsL q d) (nx := q + ((framesL inc q d).length : Nat)) hend
  have hscan : scanOf S q = scanP ⟨q, 0, [], [], q⟩ (secsOf S q) := rfl
  rw [hscan, hsec, hs]
  refine ⟨?_, ?_⟩
  · rw [e1, List.nil_append, beginsL_snd, hd]
  · rw [e2]
    unfold JLog.nx
    rw [hG, List.length_append, hq, hm]; omega
theorem tails_no {S : DS} {t inc : Int} {put : List (List UInt8)} {c : Nat} (J : JLog S t inc put c) {m : Nat} (hm : m < (framesL inc t put).length) (hno : ∀ (i : Nat) r, (beginsL t put)[i]? ≠ some (t + (m : Int), r)) : (scanOf S (t + (m : Int))).l = [] ∧ (scanOf S (t + (m : Int))).next = t + (m : Int) := by
  have hlen := J.inv.len
  refine scan_end (inc := 0) (nx := t + (m : Int)) (l := []) fun y t' hy f ld hf hs _ hp => ?_
  exfalso
  have h0 : (secsOf S (t + (m : Int)))[0]? = some y := by rw [hy]; rfl
  rw [secsOf_get _ _ (by omega)] at h0
  rw [← Option.some.inj h0] at hf
  rcases J.reads (by omega) (by omega) hf with ⟨h1, -⟩ | h1
  · obtain ⟨i, r, h2⟩ := framesL_part h1 hp
    exact hno i r (by rw [h2]; simp)
  · have : f.seq = t + (m : Int) + ((0 : Nat) : Int) - 24 := h1
    omega

end Go.Proofs.Ytafejnbfgkkjkaa
