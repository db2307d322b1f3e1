/-
  Messages, plainly: how they are taken of bytes; what is put is taken.
-/
import Derived.Test.YtojgcgaoajfihaaWe
namespace Go.Proofs.Ytojgcgaoajfihaa
open Go.RowKit Go.Sort

/-- what is left to be taken; were there too few? -/
abbrev Lf := List UInt8 × Bool
def tkW (k : Nat) (s : Lf) : List UInt8 × Lf := if s.1.length < k then (List.replicate k 0, ([], true)) else (s.1.take k, (s.1.drop k, s.2))
def nmW (k : Nat) (s : Lf) : Int × Lf := ((leN (tkW k s).1 : Int), (tkW k s).2)
theorem tkW_len (k : Nat) (s : Lf) : (tkW k s).1.length = k := by
  unfold tkW; split
  · simp
  · simp; omega
theorem tkW_at (mid post : List UInt8) (b : Bool) : tkW mid.length (mid ++ post, b) = (mid, (post, b)) := by
  unfold tkW; rw [if_neg (by simp)]; simp
theorem tkW_left (k : Nat) (s : Lf) : (tkW k s).2.1.length ≤ s.1.length := by
  unfold tkW; split <;> simp
theorem nmW_at {n : Int} {k : Nat} (post : List UInt8) (b : Bool) (h : (leN (leB n k) : Int) = n) : nmW k (leB n k ++ post, b) = (n, (post, b)) := by
  unfold nmW
  have := tkW_at (leB n k) post b
  rw [leB_length] at this
  rw [this, h]
theorem leN_leB2 {n : Int} (h0 : 0 ≤ n) (h : n < 65536) : (leN (leB n 2) : Int) = n := by
  rw [show leB n 2 = [byteOf n, byteOf (n / 256)] by simp [leB, List.range, List.range.loop]]; simp only [leN]
  have e0 := byteOf_toNat n
  have e1 := byteOf_toNat (n / 256)
  omega
/-- so many writes -/
def wrsW : Nat → Lf → List Wr × Lf
  | 0, s => ([], s)
  | k + 1, s => ((wrsW k s).1 ++ [⟨(nmW 1 (wrsW k s).2).1, v8 (tkW 8 (nmW 1 (wrsW k s).2).2).1⟩], (tkW 8 (nmW 1 (wrsW k s).2).2).2)
theorem wrsW_len : ∀ (k : Nat) (s : Lf), (wrsW k s).1.length = k
  | 0, _ => rfl
  | k + 1, s => by rw [wrsW, List.length_append, wrsW_len k s]; rfl
theorem wrsW_at : ∀ (x y : List Wr) (post : List UInt8) (b : Bool), (∀ p ∈ x ++ y, 0 ≤ p.block ∧ p.block < 256) → wrsW x.length (wrsB (x ++ y) ++ post, b) = (x, (wrsB y ++ post, b)) := by
  intro x
  generalize hk : x.length = k
  induction k generalizing x with
  | zero => intro y post b _; obtain rfl : x = [] := List.eq_nil_of_length_eq_zero hk; simp [wrsW]
  | succ k ih =>
    intro y post b h
    obtain ⟨x', p, rfl⟩ : ∃ x' p, x = x' ++ [p] := ⟨x.dropLast, x.getLast (by intro e; simp [e] at hk), (List.dropLast_concat_getLast _).symm⟩
    have hk' : x'.length = k := by simpa using hk
    have e1 := ih x' hk' (p :: y) post b (by simpa using h)
    have hp := h p (by simp)
    rw [show x' ++ [p] ++ y = x' ++ (p :: y) by simp, wrsW, e1]
    have e2 : wrsB (p :: y) ++ post = leB p.block 1 ++ (p.val.bs ++ (wrsB y ++ post)) := by simp [wrsB, wrB]
    simp only
    rw [e2, nmW_at _ _ (leN_leB1 hp.1 hp.2)]
    simp only
    have e3 := tkW_at p.val.bs (wrsB y ++ post) b
    rw [show p.val.bs.length = 8 from rfl] at e3
    rw [e3, v8_bs]

/-- a message so far, its writes, what is left -/
abbrev Ps := Msg × List Wr × Lf
def fldP (f : Nat) (p : Ps) : Ps :=
  match f with
  | 0 => ({ p.1 with name := ⟨(nmW 3 p.2.2).1, (nmW 3 (nmW 3 p.2.2).2).1, (nmW 3 (nmW 3 (nmW 3 p.2.2).2).2).1⟩ }, p.2.1, (nmW 3 (nmW 3 (nmW 3 p.2.2).2).2).2)
  | 1 => ({ p.1 with n := (nmW 3 p.2.2).1 }, p.2.1, (nmW 3 p.2.2).2)
  | 2 => ({ p.1 with op := IntKind.i8.wrap (nmW 1 p.2.2).1 }, p.2.1, (nmW 1 p.2.2).2)
  | 3 => ({ p.1 with block := (nmW 1 p.2.2).1 }, p.2.1, (nmW 1 p.2.2).2)
  | 4 => ({ p.1 with val := v8 (tkW 8 p.2.2).1 }, p.2.1, (tkW 8 p.2.2).2)
  | 5 => ({ p.1 with e := (nmW 2 p.2.2).1 }, p.2.1, (nmW 2 p.2.2).2)
  | 6 => ({ p.1 with yes := (nmW 1 p.2.2).1 == 1 }, p.2.1, (nmW 1 p.2.2).2)
  | 7 => ({ p.1 with give := (nmW 1 p.2.2).1 }, p.2.1, (nmW 1 p.2.2).2)
  | 8 => ({ p.1 with take := (nmW 1 p.2.2).1 }, p.2.1, (nmW 1 p.2.2).2)
  | 9 => (p.1, p.2.1 ++ (wrsW (nmW 1 p.2.2).1.toNat (nmW 1 p.2.2).2).1, (wrsW (nmW 1 p.2.2).1.toNat (nmW 1 p.2.2).2).2)
  | _ => p
def fldsP (h : Nat → Bool) : Nat → Ps → Ps
  | 0, p => p
  | k + 1, p => if h k then fldP k (fldsP h k p) else fldsP h k p
/-- the numbers that all have -/
def hdP (s : Lf) : Ps :=
  let a := nmW 1 s
  let b := nmW 1 a.2
  let c := nmW 1 b.2
  let d := nmW 3 c.2
  let e := nmW 3 d.2
  (⟨IntKind.i8.wrap a.1, b.1, c.1, d.1, e.1, ⟨0, 0, 0⟩, 0, 0, 0, ⟨0, 0, 0, 0, 0, 0, 0, 0⟩, 0, false, 0, 0⟩, [], e.2)

/-- a field's numbers lie within its bytes -/
def inR (m : Msg) (x : List Wr) : Nat → Prop
  | 0 => m.name.named = true
  | 1 => 0 ≤ m.n ∧ m.n < 16777216
  | 2 => 0 ≤ m.op ∧ m.op < 128
  | 3 => 0 ≤ m.block ∧ m.block < 256
  | 5 => 0 ≤ m.e ∧ m.e < 65536
  | 7 => 0 ≤ m.give ∧ m.give < 256
  | 8 => 0 ≤ m.take ∧ m.take < 256
  | 9 => writtenB x = true
  | _ => True
def setM (f : Nat) (m p : Msg) : Msg :=
  match f with
  | 0 => { p with name := m.name }
  | 1 => { p with n := m.n }
  | 2 => { p with op := m.op }
  | 3 => { p with block := m.block }
  | 4 => { p with val := m.val }
  | 5 => { p with e := m.e }
  | 6 => { p with yes := m.yes }
  | 7 => { p with give := m.give }
  | 8 => { p with take := m.take }
  | _ => p
theorem fldP_at {f : Nat} (hf : f < 10) {m : Msg} {x : List Wr} (hr : inR m x f) (p : Msg) (post : List UInt8) (b : Bool) : fldP f (p, [], (fB m x f ++ post, b)) = (setM f m p, if f = 9 then x else [], (post, b)) := by
  rcases ten hf with rfl | rfl | rfl | rfl | rfl | rfl | rfl | rfl | rfl | rfl
  · obtain ⟨h1, h2, h3⟩ := named_iff.1 hr
    simp only [fldP, fB, nmB, List.append_assoc]
    rw [nmW_at _ _ (leN_leB3 (n := m.name.stamp) (by omega) (by omega))]
    simp only
    rw [nmW_at _ _ (leN_leB3 (n := m.name.inc) (by omega) (by omega))]
    simp only
    rw [nmW_at _ _ (leN_leB3 (n := m.name.try_) (by omega) (by omega))]
    rfl
  · simp only [inR] at hr; simp only [fldP, fB]; rw [nmW_at _ _ (leN_leB3 hr.1 hr.2)]; rfl
  · simp only [inR] at hr; simp only [fldP, fB]; rw [nmW_at _ _ (leN_leB1 hr.1 (by omega)), i8_in hr]; rfl
  · simp only [inR] at hr; simp only [fldP, fB]; rw [nmW_at _ _ (leN_leB1 hr.1 hr.2)]; rfl
  · have e3 := tkW_at m.val.bs post b
    rw [show m.val.bs.length = 8 from rfl] at e3
    simp only [fldP, fB]; rw [e3, v8_bs]; rfl
  · simp only [inR] at hr; simp only [fldP, fB]; rw [nmW_at _ _ (leN_leB2 hr.1 hr.2)]; rfl
  · simp only [fldP, fB]
    have h : (leN (leB (if m.yes then 1 else 0) 1) : Int) = if m.yes then 1 else 0 := leN_leB1 (by split <;> omega) (by split <;> omega)
    rw [nmW_at _ _ h]
    cases h : m.yes <;> simp [setM, h]
  · simp only [inR] at hr; simp only [fldP, fB]; rw [nmW_at _ _ (leN_leB1 hr.1 hr.2)]; rfl
  · simp only [inR] at hr; simp only [fldP, fB]; rw [nmW_at _ _ (leN_leB1 hr.1 hr.2)]; rfl
  · simp only [inR, writtenB, Bool.and_eq_true, decide_eq_true_eq] at hr
    simp only [fldP, fB, wsB, List.append_assoc]
    rw [nmW_at _ _ (leN_leB1 (n := (x.length : Int)) (by omega) (by omega))]
    simp only [Int.toNat_natCast]
    have := wrsW_at x [] post b (fun p hp => by have := rising_mem hr.2 p (by simpa using hp); omega)
    simp only [List.append_nil] at this
    rw [this]; simp [wrsB, setM]

/-- the bytes of the fields from the k-th on -/
def tailP (h : Nat → Bool) (m : Msg) (x : List Wr) (k : Nat) : Nat → List UInt8
  | 0 => []
  | j + 1 => (if h k then fB m x k else []) ++ tailP h m x (k + 1) j
theorem bodyP_tail (h : Nat → Bool) (m : Msg) (x : List Wr) : ∀ (j k : Nat), bodyP h m x (k + j) = bodyP h m x k ++ tailP h m x k j
  | 0, k => by simp [tailP]
  | j + 1, k => by rw [show k + (j + 1) = (k + 1) + j by omega, bodyP_tail h m x j (k + 1), bodyP, tailP, List.append_assoc]
def bldM (h : Nat → Bool) (m : Msg) : Nat → Msg → Msg
  | 0, p => p
  | k + 1, p => if h k then setM k m (bldM h m k p) else bldM h m k p
def bldX (h : Nat → Bool) (x : List Wr) (k : Nat) : List Wr := if 9 < k ∧ h 9 = true then x else []
theorem fldsP_at {h : Nat → Bool} {m : Msg} {x : List Wr} (hr : ∀ f, f < 10 → h f = true → inR m x f) (p : Msg) (b : Bool) : ∀ (k j : Nat), k + j = 10 → fldsP h k (p, [], (bodyP h m x 10, b)) = (bldM h m k p, bldX h x k, (tailP h m x k j, b))
  | 0, j, hj => by
    have := bodyP_tail h m x 10 0
    obtain rfl : j = 10 := by omega
    rw [fldsP, bldM, bldX, if_neg (by omega)]
    rw [show (10 : Nat) = 0 + 10 by omega, this]; simp [bodyP]
  | k + 1, j, hj => by
    rw [fldsP, fldsP_at hr p b k (j + 1) (by omega), tailP, bldM]
    have h9 : bldX h x k = [] := by rw [bldX, if_neg (by omega)]
    rw [h9]
    by_cases hk : h k = true
    · rw [if_pos hk, if_pos hk, if_pos hk, fldP_at (by omega) (hr k (by omega) hk)]
      by_cases hk9 : k = 9
      · subst hk9; rw [if_pos rfl, bldX, if_pos ⟨by omega, hk⟩]
      · rw [if_neg hk9, bldX, if_neg (by omega)]
    · rw [if_neg hk, if_neg hk, if_neg hk, List.nil_append, bldX, if_neg]
      rintro ⟨h1, h2⟩
      obtain rfl : k = 9 := by omega
      exact hk h2
theorem fldsP_short {h : Nat → Bool} {m : Msg} {x : List Wr} (hr : ∀ f, f < 10 → h f = true → inR m x f) (p : Msg) {k : Nat} (hk : k ≤ 10) : (fldsP h k (p, [], (bodyP h m x 10, false))).2.2.2 = false := by
  rw [fldsP_at hr p false k (10 - k) (by omega)]

theorem may_inR {m : Msg} {x : List Wr} (h : m.may x = true) : ∀ f, f < 10 → khas m.kind f = true → inR m x f := by
  unfold Msg.may at h; split at h
  · rename_i hc
    simp only [Bool.and_eq_true, fitB, fitHead, Bool.not_eq_true', Bool.and_eq_false_iff, Bool.not_eq_false'] at h
    obtain ⟨-, ⟨h0, h1⟩, h2⟩ := h
    unfold fitKind at h2
    intro f hf hk
    obtain ⟨k1, k2, -⟩ := hc
    have hkk : m.kind = 1 ∨ m.kind = 2 ∨ m.kind = 3 ∨ m.kind = 4 ∨ m.kind = 5 ∨ m.kind = 6 ∨ m.kind = 7 ∨ m.kind = 8 ∨ m.kind = 9 ∨ m.kind = 10 ∨ m.kind = 11 := by omega
    rcases ten hf with rfl | rfl | rfl | rfl | rfl | rfl | rfl | rfl | rfl | rfl
    · rcases h0 with h0 | h0
      · rw [hk] at h0; cases h0
      · exact h0
    · rcases h1 with h1 | h1
      · rw [hk] at h1; cases h1
      · simp only [withinB, decide_eq_true_eq] at h1; simp only [inR]; omega
    all_goals simp only [inR]
    · have : m.kind = 2 := khas2 hk
      rw [if_pos this] at h2; simp only [Bool.and_eq_true, decide_eq_true_eq] at h2; omega
    · have : m.kind = 2 := by
        rcases hkk with q | q | q | q | q | q | q | q | q | q | q <;> rw [q] at hk <;> first | exact q | (exfalso; revert hk; decide)
      rw [if_pos this] at h2; simp only [Bool.and_eq_true, decide_eq_true_eq] at h2; omega
    · have : m.kind = 3 ∨ m.kind = 10 := by
        rcases hkk with q | q | q | q | q | q | q | q | q | q | q <;> rw [q] at hk <;> first | exact .inl q | exact .inr q | (exfalso; revert hk; decide)
      rcases this with q | q <;> simp only [q, Int.reduceEq, if_false, if_true, reduceIte] at h2 <;> simp only [Bool.or_eq_true, Bool.and_eq_true, beq_iff_eq] at h2 <;> omega
    all_goals
      have q : m.kind = 4 := by
        rcases hkk with q | q | q | q | q | q | q | q | q | q | q <;> rw [q] at hk <;> first | exact q | (exfalso; revert hk; decide)
      simp only [q, Int.reduceEq, if_false, if_true, reduceIte] at h2
      rcases may_cases h2 with c | c | c | c | c | c | c
      all_goals first
        | (exfalso; have := c.1; simp at this; done)
        | (obtain ⟨-, -, -, c1, c2, c3, -⟩ := c; simp only [bitsB, decide_eq_true_eq] at c2 c3; first | exact c1 | omega)
  · cases h
theorem may_same {m : Msg} {x : List Wr} (h : m.may x = true) : m = bareM (khas m.kind) 10 m ∧ x = bareX (khas m.kind) x := by
  unfold Msg.may at h; split at h
  · simp only [Bool.and_eq_true] at h; exact Msg.same_iff.1 h.1
  · cases h
theorem may_head {m : Msg} {x : List Wr} (h : m.may x = true) : (1 ≤ m.kind ∧ m.kind ≤ 11) ∧ (0 ≤ m.frm ∧ m.frm ≤ 4) ∧ (0 ≤ m.to ∧ m.to ≤ 4) ∧ (1 ≤ m.inc ∧ m.inc ≤ 1048576) ∧ (0 ≤ m.your ∧ m.your ≤ 1048576) := by
  unfold Msg.may at h; split at h
  · rename_i hc
    have q := hc.2.2.1
    simp only [betweenB] at q
    split at q <;> simp only [decide_eq_true_eq] at q <;> omega
  · cases h
def hdM (m : Msg) : Msg := ⟨m.kind, m.frm, m.to, m.inc, m.your, ⟨0, 0, 0⟩, 0, 0, 0, ⟨0, 0, 0, 0, 0, 0, 0, 0⟩, 0, false, 0, 0⟩
theorem bldM_10 (h : Nat → Bool) (m : Msg) : bldM h m 10 (hdM m) = bareM h 10 m := by
  have e : ∀ k (p : Msg), bldM h m k p = { p with name := if 0 < k ∧ h 0 = true then m.name else p.name, n := if 1 < k ∧ h 1 = true then m.n else p.n, op := if 2 < k ∧ h 2 = true then m.op else p.op, block := if 3 < k ∧ h 3 = true then m.block else p.block, val := if 4 < k ∧ h 4 = true then m.val else p.val, e := if 5 < k ∧ h 5 = true then m.e else p.e, yes := if 6 < k ∧ h 6 = true then m.yes else p.yes, give := if 7 < k ∧ h 7 = true then m.give else p.give, take := if 8 < k ∧ h 8 = true then m.take else p.take } := by
    intro k p
    induction k with
    | zero => simp [bldM]
    | succ k ih =>
      rw [bldM, ih]
      have st : ∀ i, i ≠ k → (i < k + 1) = (i < k) := fun i hi => by simp only [eq_iff_iff]; omega
      by_cases hk : h k = true
      · rw [if_pos hk]
        by_cases hk10 : k < 9
        · have : k = 0 ∨ k = 1 ∨ k = 2 ∨ k = 3 ∨ k = 4 ∨ k = 5 ∨ k = 6 ∨ k = 7 ∨ k = 8 := by omega
          rcases this with rfl | rfl | rfl | rfl | rfl | rfl | rfl | rfl | rfl <;> simp [setM, hk]
        · have : setM k m = fun p => p := by
            funext p
            unfold setM; split <;> first | omega | rfl
          rw [this]
          simp only [st 0 (by omega), st 1 (by omega), st 2 (by omega), st 3 (by omega), st 4 (by omega), st 5 (by omega), st 6 (by omega), st 7 (by omega), st 8 (by omega)]
      · rw [if_neg hk]
        have st2 : ∀ i, (i < k + 1 ∧ h i = true) = (i < k ∧ h i = true) := fun i => by
          by_cases hi : i = k
          · subst hi; simp [hk]
          · rw [st i hi]
        simp only [st2]
  rw [e, bareM, hdM]
  simp only [Nat.reduceLT, true_and, decide_true, Bool.true_and, Bool.not_eq_true']
  have sw : ∀ {α : Type} (b : Bool) (x y : α), (if b = true then x else y) = if b = false then y else x := fun b x y => by cases b <;> rfl
  simp only [sw (α := Nm) (h 0), sw (α := Int) (h 1), sw (α := Int) (h 2), sw (α := Int) (h 3), sw (α := V8) (h 4), sw (α := Int) (h 5), sw (α := Bool) (h 6), sw (α := Int) (h 7), sw (α := Int) (h 8)]

theorem hdP_at {m : Msg} {x : List Wr} (h : m.may x = true) (post : List UInt8) (b : Bool) : hdP (hdB m ++ post, b) = (hdM m, [], (post, b)) := by
  obtain ⟨h1, h2, h3, h4, h5⟩ := may_head h
  unfold hdP hdB
  simp only [List.append_assoc]
  rw [nmW_at _ _ (leN_leB1 (n := m.kind) (by omega) (by omega))]; simp only
  rw [nmW_at _ _ (leN_leB1 (n := m.frm) (by omega) (by omega))]; simp only
  rw [nmW_at _ _ (leN_leB1 (n := m.to) (by omega) (by omega))]; simp only
  rw [nmW_at _ _ (leN_leB3 (n := m.inc) (by omega) (by omega))]; simp only
  rw [nmW_at _ _ (leN_leB3 (n := m.your) (by omega) (by omega)), i8_in (by omega)]
  rfl
/-- what is taken of bytes: the message, its writes, what is left -/
def prs (body : List UInt8) (k : Nat) : Ps := fldsP (khas (hdP (body, false)).1.kind) k (hdP (body, false))
theorem prs_enc {m : Msg} {x : List Wr} (h : m.may x = true) : prs (m.enc x) 10 = (m, x, ([], false)) := by
  unfold prs Msg.enc
  rw [hdP_at h, show (hdM m).kind = m.kind from rfl, fldsP_at (may_inR h) (hdM m) false 10 0 rfl, bldM_10, ← (may_same h).1, bldX, tailP]
  have := (may_same h).2
  unfold bareX at this
  by_cases h9 : khas m.kind 9 = true
  · rw [if_pos ⟨by omega, h9⟩]
  · rw [if_neg h9] at this; rw [if_neg (fun q => h9 q.2), ← this]
theorem prs_short {m : Msg} {x : List Wr} (h : m.may x = true) {k : Nat} (hk : k ≤ 10) : (prs (m.enc x) k).2.2.2 = false := by
  unfold prs Msg.enc
  rw [hdP_at h, show (hdM m).kind = m.kind from rfl]; exact fldsP_short (may_inR h) _ hk
theorem encM_inj {m m' : Msg} {x x' : List Wr} (h : m.may x = true) (h' : m'.may x' = true) (he : m.enc x = m'.enc x') : m = m' ∧ x = x' := by
  have e1 := prs_enc h
  have e2 := prs_enc h'
  rw [he, e2] at e1
  simp only [Prod.mk.injEq] at e1
  exact ⟨e1.1.symm, e1.2.1.symm⟩
theorem sealB_inj {a b : List UInt8} (h : sealB a = sealB b) : a = b := by
  unfold sealB at h
  exact (List.append_inj' h (by simp [sum4])).1

end Go.Proofs.Ytojgcgaoajfihaa
