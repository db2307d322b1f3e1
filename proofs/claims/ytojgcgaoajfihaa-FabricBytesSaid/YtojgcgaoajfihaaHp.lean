/-
  Fabrics, plainly: their bytes; what bytes are taken as.
-/
import Derived.Test.YtojgcgaoajfihaaWp
namespace Go.Proofs.Ytojgcgaoajfihaa
open Go.RowKit Go.Sort

abbrev Ml := List (Msg × List Wr)
def Ml.all (l : Ml) : Bool := List.all l fun q => q.1.may q.2
/-- may a fabric be? -/
def Ml.ok (l : Ml) : Bool := decide (l.length ≤ 200) && l.all
def msB (q : Msg × List Wr) : List UInt8 := sealB (q.1.enc q.2)
def mlB (l : Ml) : List UInt8 := l.flatMap fun q => leB (msB q).length 2 ++ msB q
theorem mlB_cons (q : Msg × List Wr) (l : Ml) : mlB (q :: l) = leB (msB q).length 2 ++ (msB q ++ mlB l) := by simp [mlB]
theorem mlB_snoc (l : Ml) (q : Msg × List Wr) : mlB (l ++ [q]) = mlB l ++ (leB (msB q).length 2 ++ msB q) := by simp [mlB]
theorem Ml.all_cons {q : Msg × List Wr} {l : Ml} : Ml.all (q :: l) = true ↔ q.1.may q.2 = true ∧ l.all = true := by unfold Ml.all; simp
theorem Ml.all_append {l r : Ml} : Ml.all (l ++ r) = true ↔ l.all = true ∧ r.all = true := by unfold Ml.all; rw [List.all_append, Bool.and_eq_true]
theorem Ml.all_get {l : Ml} (h : l.all = true) {i : Nat} {q : Msg × List Wr} (hi : l[i]? = some q) : q.1.may q.2 = true := by
  unfold Ml.all at h; rw [List.all_eq_true] at h; exact h q (List.mem_of_getElem? hi)
theorem may_x8 {m : Msg} {x : List Wr} (h : m.may x = true) : x.length ≤ 8 := by
  have hx := (may_same h).2
  by_cases h9 : khas m.kind 9 = true
  · have := may_inR h 9 (by omega) h9
    simp only [inR, writtenB, Bool.and_eq_true, decide_eq_true_eq] at this
    exact this.1
  · unfold bareX at hx; rw [if_neg h9] at hx; rw [hx]; simp
theorem msB_len {q : Msg × List Wr} (h : q.1.may q.2 = true) : 13 ≤ (msB q).length ∧ (msB q).length < 60000 := by
  have h8 := may_x8 h
  have hb := bodyP_len (khas q.1.kind) q.1 q.2 10
  unfold msB sealB Msg.enc
  rw [List.length_append, List.length_append, hdB_len]
  simp only [sum4, List.length_cons, List.length_nil]
  omega
theorem le2_inj {a b : Nat} (ha : a < 65536) (hb : b < 65536) (h : leB (a : Int) 2 = leB (b : Int) 2) : a = b := by
  have e1 := leN_leB2 (n := (a : Int)) (by omega) (by omega)
  have e2 := leN_leB2 (n := (b : Int)) (by omega) (by omega)
  rw [h, e2] at e1; omega
/-- bytes that begin as a fabric's do are those of messages that begin so -/
theorem mlB_pre : ∀ (l l' : Ml) (r : List UInt8), l.all = true → l'.all = true → mlB l' = mlB l ++ r → ∃ t, l' = l ++ t ∧ mlB t = r ∧ t.all = true
  | [], l', r, _, h', he => ⟨l', rfl, by simpa [mlB] using he, h'⟩
  | q :: l, [], r, h, _, he => by
    exfalso
    have := congrArg List.length he
    rw [mlB_cons] at this
    simp [mlB, leB_length] at this
    omega
  | q :: l, q' :: l', r, h, h', he => by
    rw [mlB_cons, mlB_cons, List.append_assoc, List.append_assoc] at he
    obtain ⟨hq, hl⟩ := Ml.all_cons.1 h
    obtain ⟨hq', hl'⟩ := Ml.all_cons.1 h'
    obtain ⟨e1, e2⟩ := List.append_inj he (by rw [leB_length, leB_length])
    have el := le2_inj (by have := msB_len hq'; omega) (by have := msB_len hq; omega) e1
    obtain ⟨e3, e4⟩ := List.append_inj e2 el
    obtain ⟨a, b⟩ := q; obtain ⟨a', b'⟩ := q'
    obtain ⟨rfl, rfl⟩ := encM_inj hq' hq (sealB_inj e3)
    obtain ⟨t, rfl, ht, hta⟩ := mlB_pre l l' r hl hl' e4
    exact ⟨t, rfl, ht, hta⟩
theorem mlB_inj {l l' : Ml} (h : l.all = true) (h' : l'.all = true) (he : mlB l = mlB l') : l = l' := by
  obtain ⟨t, rfl, ht, -⟩ := mlB_pre l l' [] h h' (by rw [List.append_nil]; exact he.symm)
  cases t with
  | nil => simp
  | cons q t => rw [mlB_cons] at ht; have := congrArg List.length ht; simp [leB_length] at this
theorem Ml.ok_iff {l : Ml} : l.ok = true ↔ l.length ≤ 200 ∧ l.all = true := by unfold Ml.ok; simp
/-- what bytes are as a fabric -/
def RdM (bs : List UInt8) (l : Ml) (c : Int) : Prop := (c = 0 ∧ l.ok = true ∧ mlB l = bs) ∨ (c = 2 ∧ l = [] ∧ ∀ l' : Ml, l'.ok = true → mlB l' ≠ bs)
theorem RdM.one {bs : List UInt8} {l l' : Ml} {c c' : Int} (h : RdM bs l c) (h' : RdM bs l' c') : l = l' ∧ c = c' := by
  rcases h with ⟨rfl, h1, h2⟩ | ⟨rfl, rfl, h2⟩
  · rcases h' with ⟨rfl, h1', h2'⟩ | ⟨rfl, rfl, h2'⟩
    · exact ⟨mlB_inj (Ml.ok_iff.1 h1).2 (Ml.ok_iff.1 h1').2 (h2.trans h2'.symm), rfl⟩
    · exact absurd h2 (h2' l h1)
  · rcases h' with ⟨rfl, h1', h2'⟩ | ⟨rfl, rfl, h2'⟩
    · exact absurd h2' (h2 l' h1')
    · exact ⟨rfl, rfl⟩
/-- behind a beginning: one message, or nothing that is a fabric -/
theorem mlB_next {l l' : Ml} {bs : List UInt8} {k : Nat} (h : l.all = true) (hl : mlB l = bs.take k) (hk : k < bs.length) (h' : l'.ok = true) (he : mlB l' = bs) :
    ∃ q : Msg × List Wr, q.1.may q.2 = true ∧ l.length < 200 ∧ k + 2 + (msB q).length ≤ bs.length ∧ (bs.drop k).take 2 = leB (msB q).length 2 ∧ (bs.drop (k + 2)).take (msB q).length = msB q := by
  obtain ⟨h1, h2⟩ := Ml.ok_iff.1 h'
  obtain ⟨t, rfl, ht, hta⟩ := mlB_pre l l' (bs.drop k) h h2 (by rw [he, hl, List.take_append_drop])
  cases t with
  | nil =>
    exfalso
    have := congrArg List.length ht
    simp [mlB] at this; omega
  | cons q t =>
    rw [mlB_cons] at ht
    have hq := (Ml.all_cons.1 hta).1
    refine ⟨q, hq, by rw [List.length_append] at h1; simp at h1; omega, ?_, ?_, ?_⟩
    · have := congrArg List.length ht
      simp only [List.length_append, leB_length, List.length_drop] at this; omega
    · have := List.take_left (l₁ := leB ((msB q).length : Int) 2) (l₂ := msB q ++ mlB t)
      rw [leB_length] at this; rw [← ht, this]
    · have := List.drop_left (l₁ := leB ((msB q).length : Int) 2) (l₂ := msB q ++ mlB t)
      rw [leB_length] at this
      rw [← List.drop_drop, ← ht, this, List.take_left]

end Go.Proofs.Ytojgcgaoajfihaa
