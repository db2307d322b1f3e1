/-
  The document's layer 7: how bytes are taken, plainly.
-/
import Derived.Test.YtojgcgaoajfihaaRp
import Derived.Test.YtojgcgaoajfihaaGX
namespace Go.Proofs.Ytojgcgaoajfihaa
open Go.RowKit Go.Sort

def r3 (bs : List UInt8) (s : Rs) : Int × Rs :=
  let a := tk bs 1 s
  let b := tk bs 1 a.2
  let c := tk bs 1 b.2
  (a.1 + b.1 * 256 + c.1 * 65536, c.2)
def rNm (bs : List UInt8) (s : Rs) : Nm × Rs :=
  let a := r3 bs s
  let b := r3 bs a.2
  let c := r3 bs b.2
  (⟨a.1, b.1, c.1⟩, c.2)
def rLoop (bs : List UInt8) : Nat → Rs → List Wr × Rs
  | 0, s => ([], s)
  | n + 1, s => if s.bad then ([], s) else ((rdWr bs s).1 :: (rLoop bs n (rdWr bs s).2).1, (rLoop bs n (rdWr bs s).2).2)
def rWs (bs : List UInt8) (s : Rs) : List Wr × Rs := rLoop bs (tk bs 1 s).1.toNat (tk bs 1 s).2
def rFl (bs : List UInt8) (s : Rs) : Bool × Rs := let y := tk bs 1 s; (y.1 == 1, ⟨y.2.at_, y.2.bad || decide (1 < y.1)⟩)
/-- where s' is not bad: from s to s' just these bytes were taken -/
def Con (bs : List UInt8) (s s' : Rs) (l : List UInt8) : Prop := s'.bad = false → s.bad = false ∧ s'.at_ = s.at_ + l.length ∧ s'.at_ ≤ bs.length ∧ (bs.drop s.at_).take l.length = l
theorem Con.trans {bs : List UInt8} {s s1 s2 : Rs} {l1 l2 : List UInt8} (h1 : Con bs s s1 l1) (h2 : Con bs s1 s2 l2) : Con bs s s2 (l1 ++ l2) := fun hb => by
  obtain ⟨a1, a2, a3, a4⟩ := h2 hb
  obtain ⟨b1, b2, b3, b4⟩ := h1 a1
  refine ⟨b1, by rw [a2, b2, List.length_append]; omega, a3, ?_⟩
  rw [b2] at a4
  rw [List.length_append, List.take_add, List.drop_drop, b4, a4]
theorem Con.eq {bs : List UInt8} {s s' : Rs} {l l' : List UInt8} (h : Con bs s s' l) (e : s'.bad = false → l = l') : Con bs s s' l' := fun hb => by rw [← e hb]; exact h hb
theorem con_tk1 (bs : List UInt8) (s : Rs) : Con bs s (tk bs 1 s).2 (leB (tk bs 1 s).1 1) := fun hb => by
  unfold tk at hb ⊢
  split at hb
  · rename_i h
    rw [if_pos h]
    refine ⟨hb, by rw [leB_length], h, ?_⟩
    rw [leB_length]
    obtain ⟨b, hbb⟩ : ∃ b, (bs.drop s.at_).take 1 = [b] := by
      obtain ⟨b, r, e⟩ := List.exists_cons_of_length_pos (l := bs.drop s.at_) (by simp; omega)
      exact ⟨b, by rw [e]; rfl⟩
    simp only [hbb, leN_one, leB1, byteOf_of]
  · cases hb
theorem leB3_sum {a b c : Int} (b1 : 0 ≤ a ∧ a ≤ 255) (b2 : 0 ≤ b ∧ b ≤ 255) (b3 : 0 ≤ c ∧ c ≤ 255) : leB a 1 ++ leB b 1 ++ leB c 1 = leB (a + b * 256 + c * 65536) 3 := by
  rw [leB3, leB1, leB1, leB1]
  have e : ∀ x y : Int, x % 256 = y % 256 → byteOf x = byteOf y := fun x y h => by unfold byteOf; rw [h]
  simp only [List.cons_append, List.nil_append, List.cons.injEq, and_true]
  exact ⟨e _ _ (by omega), e _ _ (by omega), e _ _ (by omega)⟩
theorem con_r3 (bs : List UInt8) (s : Rs) : Con bs s (r3 bs s).2 (leB (r3 bs s).1 3) := by
  have h1 := con_tk1 bs s
  have h2 := con_tk1 bs (tk bs 1 s).2
  have h3 := con_tk1 bs (tk bs 1 (tk bs 1 s).2).2
  have b1 := tk1_bd bs s
  have b2 := tk1_bd bs (tk bs 1 s).2
  have b3 := tk1_bd bs (tk bs 1 (tk bs 1 s).2).2
  have := (h1.trans h2).trans h3
  refine this.eq fun _ => ?_
  exact leB3_sum b1 b2 b3
theorem con_rNm (bs : List UInt8) (s : Rs) : Con bs s (rNm bs s).2 (nmB (rNm bs s).1) := by
  have := (con_r3 bs s).trans ((con_r3 bs (r3 bs s).2).trans (con_r3 bs (r3 bs (r3 bs s).2).2))
  exact this
theorem con_nil (bs : List UInt8) (s : Rs) (h : s.at_ ≤ bs.length) : Con bs s s [] := fun hb => ⟨hb, rfl, h, rfl⟩
theorem con_rdBs (bs : List UInt8) : ∀ (k : Nat) (s : Rs), 0 < k → Con bs s (rdBs bs k s).2 (rdBs bs k s).1
  | 0, s, h => by omega
  | 1, s, _ => by
    have := con_tk1 bs s
    rw [leB1] at this
    exact this
  | k + 2, s, _ => by
    have h1 := con_tk1 bs s
    rw [leB1] at h1
    have := h1.trans (con_rdBs bs (k + 1) (tk bs 1 s).2 (by omega))
    exact this
theorem con_rdWr (bs : List UInt8) (s : Rs) : Con bs s (rdWr bs s).2 (wrB (rdWr bs s).1) := by
  have := (con_tk1 bs s).trans (con_rdBs bs 8 (tk bs 1 s).2 (by omega))
  refine this.eq fun _ => ?_
  unfold rdWr wrB
  have e : (v8 (rdBs bs 8 (tk bs 1 s).2).1).bs = (rdBs bs 8 (tk bs 1 s).2).1 := by
    have hl := rdBs_len bs 8 (tk bs 1 s).2
    generalize (rdBs bs 8 (tk bs 1 s).2).1 = l at hl
    match l, hl with
    | [a, b, c, d, e, f, g, i], _ => rfl
  simp only [e]
theorem con_rLoop (bs : List UInt8) : ∀ (n : Nat) (s : Rs), s.at_ ≤ bs.length → Con bs s (rLoop bs n s).2 (wrsB (rLoop bs n s).1) ∧ ((rLoop bs n s).2.bad = false → (rLoop bs n s).1.length = n)
  | 0, s, h => ⟨con_nil bs s h, fun _ => rfl⟩
  | n + 1, s, h => by
    by_cases hb : s.bad
    · have e : rLoop bs (n + 1) s = ([], s) := by rw [rLoop, if_pos hb]
      rw [e]
      exact ⟨con_nil bs s h, fun h' => absurd h' (by simp [hb])⟩
    · have e : rLoop bs (n + 1) s = ((rdWr bs s).1 :: (rLoop bs n (rdWr bs s).2).1, (rLoop bs n (rdWr bs s).2).2) := by rw [rLoop, if_neg hb]
      rw [e]
      by_cases hw : (rdWr bs s).2.bad = false
      · have h1 := con_rdWr bs s hw
        obtain ⟨h2, h3⟩ := con_rLoop bs n (rdWr bs s).2 h1.2.2.1
        refine ⟨?_, fun hx => by simp only [List.length_cons]; rw [h3 hx]⟩
        have := (con_rdWr bs s).trans h2
        rw [show wrsB ((rdWr bs s).1 :: (rLoop bs n (rdWr bs s).2).1) = wrB (rdWr bs s).1 ++ wrsB (rLoop bs n (rdWr bs s).2).1 by simp [wrsB]]
        exact this
      · have hl : rLoop bs n (rdWr bs s).2 = ([], (rdWr bs s).2) := by
          cases n with
          | zero => rfl
          | succ n => rw [rLoop, if_pos (by simpa using hw)]
        simp only [hl]
        exact ⟨fun h' => absurd h' hw, fun h' => absurd h' hw⟩
theorem con_rWs (bs : List UInt8) (s : Rs) : Con bs s (rWs bs s).2 (wsB (rWs bs s).1) := fun hb => by
  have h1 := con_tk1 bs s
  have hbd := tk1_bd bs s
  by_cases hbad : (tk bs 1 s).2.bad = false
  · obtain ⟨h2, h3⟩ := con_rLoop bs (tk bs 1 s).1.toNat (tk bs 1 s).2 (h1 hbad).2.2.1
    have hn := h3 hb
    have := (h1.trans h2) hb
    unfold wsB
    rw [show (((rWs bs s).1.length : Nat) : Int) = (tk bs 1 s).1 by unfold rWs; rw [hn]; omega]
    exact this
  · exfalso
    have : (rWs bs s).2 = (tk bs 1 s).2 := by
      unfold rWs
      cases (tk bs 1 s).1.toNat with
      | zero => rfl
      | succ n => rw [rLoop, if_pos (by simpa using hbad)]
    rw [this] at hb; exact hbad hb
theorem con_rFl (bs : List UInt8) (s : Rs) : Con bs s (rFl bs s).2 (leB (if (rFl bs s).1 then 1 else 0) 1) := fun hb => by
  have hb' : (tk bs 1 s).2.bad = false ∧ ¬ 1 < (tk bs 1 s).1 := by
    unfold rFl at hb; simp only [Bool.or_eq_false_iff, decide_eq_false_iff_not] at hb; exact hb
  have h1 := con_tk1 bs s hb'.1
  have hbd := tk1_bd bs s
  have e : (if (rFl bs s).1 then (1 : Int) else 0) = (tk bs 1 s).1 := by
    unfold rFl; simp only [beq_iff_eq]; split <;> omega
  rw [e]
  exact h1
/-! ### the other way -/
theorem r3_of {bs : List UInt8} {s : Rs} (h : s.at_ + 3 ≤ bs.length) : r3 bs s = tk bs 3 s := by
  have e1 : tk bs 1 s = (((leN ((bs.drop s.at_).take 1) : Nat) : Int), ⟨s.at_ + 1, s.bad⟩) := by unfold tk; rw [if_pos (by omega)]
  have e2 : tk bs 1 ⟨s.at_ + 1, s.bad⟩ = (((leN ((bs.drop (s.at_ + 1)).take 1) : Nat) : Int), ⟨s.at_ + 1 + 1, s.bad⟩) := by unfold tk; rw [if_pos (by simp only; omega)]
  have e3 : tk bs 1 ⟨s.at_ + 1 + 1, s.bad⟩ = (((leN ((bs.drop (s.at_ + 1 + 1)).take 1) : Nat) : Int), ⟨s.at_ + 1 + 1 + 1, s.bad⟩) := by unfold tk; rw [if_pos (by simp only; omega)]
  unfold r3
  simp only [e1, e2, e3]
  unfold tk
  rw [if_pos h]
  obtain ⟨a, r1, q1⟩ := List.exists_cons_of_length_pos (l := bs.drop s.at_) (by simp; omega)
  have q2 : bs.drop (s.at_ + 1) = r1 := by rw [← List.drop_drop, q1]; rfl
  obtain ⟨b, r2, q3⟩ := List.exists_cons_of_length_pos (l := r1) (by rw [← q2]; simp; omega)
  have q4 : bs.drop (s.at_ + 1 + 1) = r2 := by rw [← List.drop_drop, q2, q3]; rfl
  obtain ⟨c, r3, q5⟩ := List.exists_cons_of_length_pos (l := r2) (by rw [← q4]; simp; omega)
  rw [q1, q2, q4, q3, q5]
  simp only [List.take_succ_cons, List.take_zero, leN, Prod.mk.injEq, and_true]
  omega
theorem rNm_of {bs : List UInt8} {s : Rs} (h : s.at_ + 9 ≤ bs.length) : rNm bs s = rdName bs s := by
  have t : ∀ s : Rs, s.at_ + 3 ≤ bs.length → (tk bs 3 s).2 = ⟨s.at_ + 3, s.bad⟩ := fun s h => by unfold tk; rw [if_pos h]
  unfold rNm rdName
  simp only [r3_of (bs := bs) (s := s) (by omega), t s (by omega)]
  rw [r3_of (bs := bs) (s := ⟨s.at_ + 3, s.bad⟩) (by simp only; omega), t ⟨s.at_ + 3, s.bad⟩ (by simp only; omega)]
  rw [r3_of (bs := bs) (s := ⟨s.at_ + 3 + 3, s.bad⟩) (by simp only; omega)]
theorem rLoop_of (bs : List UInt8) : ∀ (n : Nat) (s : Rs), (rdWrs bs n s).2.bad = false → rLoop bs n s = rdWrs bs n s ∧ s.bad = false
  | 0, s, h => ⟨rfl, h⟩
  | n + 1, s, h => by
    obtain ⟨h1, h2⟩ := rLoop_of bs n (rdWr bs s).2 h
    have h3 : s.bad = false := (con_rdWr bs s h2).1
    exact ⟨by rw [rLoop, if_neg (by simp [h3]), h1]; rfl, h3⟩
theorem r3_at (pre post : List UInt8) {n : Int} (h0 : 0 ≤ n) (h : n < 16777216) : r3 (pre ++ (leB n 3 ++ post)) ⟨pre.length, false⟩ = (n, ⟨(pre ++ leB n 3).length, false⟩) := by
  rw [r3_of (by simp only [List.length_append, leB_length]; omega), tk3 pre post false h0 h]
theorem rNm_at (pre post : List UInt8) {n : Nm} (h : n.named = true) : rNm (pre ++ (nmB n ++ post)) ⟨pre.length, false⟩ = (n, ⟨(pre ++ nmB n).length, false⟩) := by
  rw [rNm_of (by simp only [List.length_append, nmB, leB_length]; omega), rdName_at pre post false h]
theorem rWs_at (pre post : List UInt8) {ws : List Wr} (h : writtenB ws = true) : rWs (pre ++ (wsB ws ++ post)) ⟨pre.length, false⟩ = (ws, ⟨(pre ++ wsB ws).length, false⟩) := by
  simp only [writtenB, Bool.and_eq_true, decide_eq_true_eq] at h
  have e1 := tk1 pre (wrsB ws ++ post) false (n := (ws.length : Int)) (by omega) (by omega)
  have e2 := rdWrs_at ws (pre ++ leB ws.length 1) post false (fun x hx => by have := rising_mem h.2 x hx; omega)
  simp only [List.append_assoc] at e2
  unfold rWs wsB
  simp only [List.append_assoc, e1, Int.toNat_natCast]
  rw [(rLoop_of _ _ _ (by rw [e2])).1, e2]
theorem rFl_at (pre post : List UInt8) (y : Bool) : rFl (pre ++ (leB (if y then 1 else 0) 1 ++ post)) ⟨pre.length, false⟩ = (y, ⟨(pre ++ leB (if y then 1 else 0) 1).length, false⟩) := by
  have e1 := tk1 pre post false (n := if y then 1 else 0) (by split <;> omega) (by split <;> omega)
  unfold rFl
  simp only [e1]
  cases y <;> simp
theorem padB_set0 {l : List UInt8} (x : UInt8) (h : l.length < 8) : putL (bcells (padB l)) l.length [.int .u8 (x.toNat : Int)] = bcells (padB (l ++ [x])) := by
  have e : padB l = l ++ (0 :: List.replicate (8 - (l.length + 1)) 0) := by unfold padB; rw [show 8 - l.length = (8 - (l.length + 1)) + 1 by omega, List.replicate_succ]
  rw [e]; unfold padB
  simp only [putL, bcells, List.map_append, List.map_cons, List.map_nil, List.length_append, List.length_cons, List.length_nil]
  rw [List.set_append_right _ _ (by simp)]
  simp
theorem rLoop_stop {bs : List UInt8} {n : Nat} {s : Rs} (h : s.bad = true) : rLoop bs n s = ([], s) := by
  cases n with
  | zero => rfl
  | succ n => rw [rLoop, if_pos h]
theorem rLoop_step {bs : List UInt8} {n : Nat} {s : Rs} (h : s.bad = false) : rLoop bs (n + 1) s = ((rdWr bs s).1 :: (rLoop bs n (rdWr bs s).2).1, (rLoop bs n (rdWr bs s).2).2) := by rw [rLoop, if_neg (by simp [h])]
theorem rLoop_len (bs : List UInt8) : ∀ (n : Nat) (s : Rs), (rLoop bs n s).1.length ≤ n
  | 0, s => by simp [rLoop]
  | n + 1, s => by
    rw [rLoop]; split
    · simp
    · have := rLoop_len bs n (rdWr bs s).2; simp only [List.length_cons]; omega
theorem rWs_len (bs : List UInt8) (s : Rs) : (rWs bs s).1.length ≤ 255 := by
  have h1 := rLoop_len bs (tk bs 1 s).1.toNat (tk bs 1 s).2
  have h2 := tk1_bd bs s
  unfold rWs; omega
theorem and127 {t : Int} (h : 0 ≤ t ∧ t ≤ 255) : IntKind.i8.wrap (IntKind.i64.wrap (BitVec.ofInt IntKind.i64.bits t &&& BitVec.ofInt IntKind.i64.bits 127).toNat) = t % 128 := by
  obtain ⟨k, rfl⟩ := Int.eq_ofNat_of_zero_le h.1
  have : ∀ j : Fin 256, IntKind.i8.wrap (IntKind.i64.wrap (BitVec.ofInt IntKind.i64.bits (j.val : Int) &&& BitVec.ofInt IntKind.i64.bits 127).toNat) = (j.val : Int) % 128 := by decide +kernel
  exact this ⟨k, by omega⟩

end Go.Proofs.Ytojgcgaoajfihaa
