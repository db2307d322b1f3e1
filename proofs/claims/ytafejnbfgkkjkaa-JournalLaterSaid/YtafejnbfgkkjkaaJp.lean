/-
  Journal, plainly: what a scan finds among sectors that hold records' frames.
-/
import Derived.Test.YtafejnbfgkkjkaaJf
import Derived.Test.YtafejnbfgkkjkaaJb
namespace Go.Proofs.Ytafejnbfgkkjkaa
open Go.RowKit Go.Sort

abbrev secB (x : FrB) : List UInt8 := bytesF x.1 x.2
def zero64 : List UInt8 := List.replicate 64 0
theorem frIn_zero : (frIn (zero64.take 60)).may (ldIn (zero64.take 60)).length = false := by kernel_rfl
theorem readF_zero : readF zero64 = none := by
  unfold readF
  rw [if_neg]
  rintro ⟨_, _, _, h, _⟩
  rw [frIn_zero] at h; cases h
def framesL (inc : Int) : Int → List (List UInt8) → List FrB
  | _, [] => []
  | q, r :: rs => cutF r q inc ++ framesL inc (q + (nOf r.length : Nat)) rs
def beginsL : Int → List (List UInt8) → List (Int × List UInt8)
  | _, [] => []
  | q, r :: rs => (q, r) :: beginsL (q + (nOf r.length : Nat)) rs
theorem cutF_length (r : List UInt8) (q inc : Int) : (cutF r q inc).length = nOf r.length := by unfold cutF; simp
theorem framesL_append (inc : Int) : ∀ (q : Int) (a b : List (List UInt8)), framesL inc q (a ++ b) = framesL inc q a ++ framesL inc (q + ((framesL inc q a).length : Nat)) b
  | q, [], b => by simp [framesL]
  | q, r :: a, b => by
    simp only [List.cons_append, framesL, framesL_append inc _ a b, List.append_assoc, List.length_append, cutF_length]
    congr 3
    omega
theorem beginsL_append (inc : Int) : ∀ (q : Int) (a b : List (List UInt8)), beginsL q (a ++ b) = beginsL q a ++ beginsL (q + ((framesL inc q a).length : Nat)) b
  | q, [], b => by simp [framesL, beginsL]
  | q, r :: a, b => by
    simp only [List.cons_append, framesL, beginsL, beginsL_append inc _ a b, List.length_append, cutF_length]
    congr 3
    omega
theorem framesL_len (inc inc' : Int) : ∀ (q q' : Int) (rs : List (List UInt8)), (framesL inc q rs).length = (framesL inc' q' rs).length
  | _, _, [] => rfl
  | q, q', r :: rs => by
    simp only [framesL, List.length_append, cutF_length]
    rw [framesL_len inc inc' _ (q' + (nOf r.length : Nat)) rs]
theorem beginsL_snd : ∀ (q : Int) (rs : List (List UInt8)), (beginsL q rs).map (·.2) = rs
  | _, [] => rfl
  | q, r :: rs => by simp [beginsL, beginsL_snd _ rs]
theorem nOf_pos {n : Nat} (h : 0 < n) : 1 ≤ nOf n := by unfold nOf; omega
theorem cutOk_n {r : List UInt8} {q inc : Int} (h : cutOk r q inc) : nOf r.length = 1 ∨ nOf r.length = 2 := by
  have h1 := nOf_pos (List.length_pos_iff.2 h.1)
  have h2 := nOf_le h.2.2.2.1
  omega
theorem frOf_read {r : List UInt8} {q inc : Int} (h : cutOk r q inc) {i : Nat} (hi : i < nOf r.length) : readF (secB (frOf r q inc i)) = some (frOf r q inc i) := read_bytes (frOf_may h hi)
theorem goodP_iff {s : Sc} {f : Fr} : goodP s f = true ↔ f.seq = s.seq ∧ s.inc ≤ f.inc ∧ (match s.begun with
    | [] => f.part = 0
    | g :: _ => f.part = (s.begun.length : Int) ∧ f.of = g.1.of ∧ f.mark = g.1.mark ∧ f.inc = g.1.inc) := by
  unfold goodP
  cases s.begun with
  | nil => simp [and_assoc]
  | cons g t => simp [and_assoc]
/-- a record that is there whole -/
theorem scan_one {r : List UInt8} {q inc inc' nx : Int} {l : List (Int × List UInt8)} (h : cutOk r q inc') (hi : inc ≤ inc') (rest : List (List UInt8)) :
    scanP ⟨q, inc, [], l, nx⟩ ((cutF r q inc').map secB ++ rest) = scanP ⟨q + (nOf r.length : Nat), inc', [], l ++ [(q, r)], q + (nOf r.length : Nat)⟩ rest := by
  have hcR : cutR r q inc' = cutF r q inc' := by unfold cutR; rw [if_pos h]
  obtain ⟨hj, ho⟩ := join_cut h
  rw [hcR] at hj ho
  have h0 := frOf_read h (i := 0) (by have := cutOk_n h; omega)
  rcases cutOk_n h with e | e
  · have hc : cutF r q inc' = [frOf r q inc' 0] := by unfold cutF; rw [e]; rfl
    have hof : (frOf r q inc' 0).1.of = 1 := by simp [frOf, e]
    rw [hc] at hj ho ⊢
    rw [List.map_cons, List.map_nil, List.singleton_append, scanP_cons]
    have hst : stepP ⟨q, inc, [], l, nx⟩ (secB (frOf r q inc' 0)) = (⟨q + (nOf r.length : Nat), inc', [], l ++ [(q, r)], q + (nOf r.length : Nat)⟩, true) := by
      unfold stepP
      rw [h0]
      have hg : goodP ⟨q, inc, [], l, nx⟩ (frOf r q inc' 0).1 = true := goodP_iff.2 ⟨by simp [frOf], by simp [frOf]; exact hi, by simp [frOf]⟩
      simp only [hg, if_true]
      unfold takeP
      rw [if_neg (by simp [hof]), if_pos (by simpa using hj)]
      simp only [List.nil_append, ho, e]
      simp [frOf]
    rw [hst]; rfl
  · have hc : cutF r q inc' = [frOf r q inc' 0, frOf r q inc' 1] := by unfold cutF; rw [e]; rfl
    have hof : (frOf r q inc' 0).1.of = 2 := by simp [frOf, e]
    have hof1 : (frOf r q inc' 1).1.of = 2 := by simp [frOf, e]
    have h1 := frOf_read h (i := 1) (by omega)
    rw [hc] at hj ho ⊢
    simp only [List.map_cons, List.map_nil, List.cons_append, List.nil_append]
    rw [scanP_cons]
    have hst : stepP ⟨q, inc, [], l, nx⟩ (secB (frOf r q inc' 0)) = (⟨q + 1, inc', [frOf r q inc' 0], l, nx⟩, true) := by
      unfold stepP
      rw [h0]
      have hg : goodP ⟨q, inc, [], l, nx⟩ (frOf r q inc' 0).1 = true := goodP_iff.2 ⟨by simp [frOf], by simp [frOf]; exact hi, by simp [frOf]⟩
      simp only [hg, if_true]
      unfold takeP
      rw [if_pos (by simp [hof])]
      simp [frOf]
    have hst2 : stepP ⟨q + 1, inc', [frOf r q inc' 0], l, nx⟩ (secB (frOf r q inc' 1)) = (⟨q + (nOf r.length : Nat), inc', [], l ++ [(q, r)], q + (nOf r.length : Nat)⟩, true) := by
      unfold stepP
      rw [h1]
      have hg : goodP ⟨q + 1, inc', [frOf r q inc' 0], l, nx⟩ (frOf r q inc' 1).1 = true := goodP_iff.2 ⟨by simp [frOf], by simp [frOf], by simp [frOf]⟩
      simp only [hg, if_true]
      unfold takeP
      rw [if_neg (by simp [hof1]), if_pos (by simpa using hj)]
      simp only [List.cons_append, List.nil_append, ho, e]
      simp [frOf]
      omega
    rw [hst]
    simp only [if_true]
    rw [scanP_cons, hst2]; rfl
/-- records that are there whole -/
theorem scan_all : ∀ (rs : List (List UInt8)) {q inc inc' nx : Int} {l : List (Int × List UInt8)} (rest : List (List UInt8)), (∀ p ∈ beginsL q rs, cutOk p.2 p.1 inc') → inc ≤ inc' → rs ≠ [] →
    scanP ⟨q, inc, [], l, nx⟩ ((framesL inc' q rs).map secB ++ rest) = scanP ⟨q + ((framesL inc' q rs).length : Nat), inc', [], l ++ beginsL q rs, q + ((framesL inc' q rs).length : Nat)⟩ rest
  | [], _, _, _, _, _, _, _, _, h => absurd rfl h
  | [r], q, inc, inc', nx, l, rest, hok, hi, _ => by
    have := scan_one (nx := nx) (l := l) (hok (q, r) (by simp [beginsL])) hi rest
    simp only [framesL, beginsL, List.append_nil, cutF_length]
    exact this
  | r :: r2 :: rs, q, inc, inc', nx, l, rest, hok, hi, _ => by
    have h1 := scan_one (nx := nx) (l := l) (hok (q, r) (by simp [beginsL])) hi ((framesL inc' (q + (nOf r.length : Nat)) (r2 :: rs)).map secB ++ rest)
    have h2 := scan_all (r2 :: rs) (q := q + (nOf r.length : Nat)) (inc := inc') (inc' := inc') (nx := q + (nOf r.length : Nat)) (l := l ++ [(q, r)]) rest (fun p hp => hok p (by rw [beginsL]; exact List.mem_cons_of_mem _ hp)) (Int.le_refl _) (by simp)
    rw [framesL, List.map_append, List.append_assoc, h1, h2]
    simp only [List.length_append, cutF_length, List.append_assoc]
    congr 1
    congr 1 <;> first | omega | rfl
/-- nothing goes on from here -/
def Ends (q inc : Int) (rest : List (List UInt8)) : Prop := ∀ x t, rest = x :: t → ∀ f ld, readF x = some (f, ld) → f.seq = q → inc ≤ f.inc → f.part = 0 →
  (1 : Int) < f.of ∧ ∀ y t', t = y :: t' → ∀ g le, readF y = some (g, le) → g.seq = q + 1 → g.part = 1 → g.inc = f.inc → False
theorem scan_end {q inc nx : Int} {l : List (Int × List UInt8)} {rest : List (List UInt8)} (h : Ends q inc rest) : (scanP ⟨q, inc, [], l, nx⟩ rest).l = l ∧ (scanP ⟨q, inc, [], l, nx⟩ rest).next = nx := by
  cases rest with
  | nil => exact ⟨rfl, rfl⟩
  | cons x t =>
    by_cases hst : (stepP ⟨q, inc, [], l, nx⟩ x).2 = true
    · rw [scanP_cons, if_pos hst]
      unfold stepP at hst ⊢
      cases hx : readF x with
      | none => rw [hx] at hst; cases hst
      | some p =>
        obtain ⟨f, ld⟩ := p
        rw [hx] at hst
        simp only at hst ⊢
        by_cases hg : goodP ⟨q, inc, [], l, nx⟩ f = true
        · obtain ⟨g1, g2, g3⟩ := goodP_iff.1 hg
          obtain ⟨hof, h2⟩ := h x t rfl f ld hx g1 g2 g3
          have ht : takeP ⟨q, inc, [], l, nx⟩ (f, ld) = (⟨q + 1, f.inc, [(f, ld)], l, nx⟩, true) := by
            unfold takeP
            exact if_pos (by simpa using hof)
          rw [if_pos hg, ht]
          cases t with
          | nil => exact ⟨rfl, rfl⟩
          | cons y t' =>
            have hst2 : stepP ⟨q + 1, f.inc, [(f, ld)], l, nx⟩ y = (⟨q + 1, f.inc, [(f, ld)], l, nx⟩, false) := by
              unfold stepP
              cases hy : readF y with
              | none => rfl
              | some p2 =>
                obtain ⟨g, le⟩ := p2
                refine if_neg fun hg2 => ?_
                obtain ⟨k1, k2, k3⟩ := goodP_iff.1 hg2
                exact h2 y t' rfl g le hy k1 (by simpa using k3.1) k3.2.2.2
            rw [scanP_cons, hst2]
            exact ⟨rfl, rfl⟩
        · rw [if_neg hg] at hst; cases hst
    · rw [scanP_cons, if_neg hst]
      unfold stepP at hst ⊢
      cases hx : readF x with
      | none => exact ⟨rfl, rfl⟩
      | some p =>
        obtain ⟨f, ld⟩ := p
        rw [hx] at hst
        simp only at hst ⊢
        by_cases hg : goodP ⟨q, inc, [], l, nx⟩ f = true
        · obtain ⟨g1, g2, g3⟩ := goodP_iff.1 hg
          obtain ⟨hof, h2⟩ := h x t rfl f ld hx g1 g2 g3
          have ht : takeP ⟨q, inc, [], l, nx⟩ (f, ld) = (⟨q + 1, f.inc, [(f, ld)], l, nx⟩, true) := by
            unfold takeP
            exact if_pos (by simpa using hof)
          rw [if_pos hg, ht] at hst
          exact absurd rfl hst
        · rw [if_neg hg]; exact ⟨rfl, rfl⟩

end Go.Proofs.Ytafejnbfgkkjkaa
