/-
  The document's layer 7: how bytes are read, plainly.
-/
import Derived.Test.YtbaoodlkcbiclaaSb
namespace Go.Proofs.Ytbaoodlkcbiclaa
open Go.RowKit Go.Sort

def r3 (bs : List UInt8) (s : Rs) : Int × Rs :=
  let a := tk bs 1 s
  let b := tk bs 1 a.2
  let c := tk bs 1 b.2
  (a.1 + b.1 * 256 + c.1 * 65536, c.2)
def rNm (bs : List UInt8) (s : Rs) : Nm × Rs :=
  let a := r3 bs s
  let b := r3 bs a.2
  let c := r3 bs b.2
  (⟨a.1, b.1, c.1⟩, c.2)
def rLoop (bs : List UInt8) : Nat → Rs → List Wr × Rs
  | 0, s => ([], s)
  | n + 1, s => if s.bad then ([], s) else ((rdWr bs s).1 :: (rLoop bs n (rdWr bs s).2).1, (rLoop bs n (rdWr bs s).2).2)
def rWs (bs : List UInt8) (s : Rs) : List Wr × Rs := rLoop bs (tk bs 1 s).1.toNat (tk bs 1 s).2
def rFl (bs : List UInt8) (s : Rs) : Bool × Rs := let y := tk bs 1 s; (y.1 == 1, ⟨y.2.at_, y.2.bad || decide (1 < y.1)⟩)
def rBody (bs : List UInt8) (kind : Int) (s : Rs) : Rc × List Wr × Rs :=
  if kind = 6 ∨ kind = 7 then ({ Rc.zero with kind := kind, n := (r3 bs s).1 }, [], (r3 bs s).2)
  else if kind = 1 then ({ Rc.zero with kind := kind, name := (rNm bs s).1 }, (rWs bs (rNm bs s).2).1, (rWs bs (rNm bs s).2).2)
  else if kind = 2 then
    let l := rWs bs (rNm bs s).2; let g := tk bs 1 l.2; let t := tk bs 1 g.2
    ({ Rc.zero with kind := kind, name := (rNm bs s).1, give := g.1, take := t.1 }, l.1, t.2)
  else if kind = 3 then ({ Rc.zero with kind := kind, name := (rNm bs s).1, yes := (rFl bs (rNm bs s).2).1 }, [], (rFl bs (rNm bs s).2).2)
  else if kind = 4 then
    let x := tk bs 1 (rNm bs s).2; let y := tk bs 1 x.2; let z := tk bs 1 y.2
    ({ Rc.zero with kind := kind, name := (rNm bs s).1, shards := x.1, cs := y.1 - 1, ct := z.1 }, [], z.2)
  else ({ Rc.zero with kind := kind, name := (rNm bs s).1 }, [], (rNm bs s).2)

/-- where s' is not bad: from s to s' just these bytes were taken -/
def Con (bs : List UInt8) (s s' : Rs) (l : List UInt8) : Prop := s'.bad = false → s.bad = false ∧ s'.at_ = s.at_ + l.length ∧ s'.at_ ≤ bs.length ∧ (bs.drop s.at_).take l.length = l
theorem Con.trans {bs : List UInt8} {s s1 s2 : Rs} {l1 l2 : List UInt8} (h1 : Con bs s s1 l1) (h2 : Con bs s1 s2 l2) : Con bs s s2 (l1 ++ l2) := fun hb => by
  obtain ⟨a1, a2, a3, a4⟩ := h2 hb
  obtain ⟨b1, b2, b3, b4⟩ := h1 a1
  refine ⟨b1, by rw [a2, b2, List.length_append]; omega, a3, ?_⟩
  rw [b2] at a4
  rw [List.length_append, List.take_add, List.drop_drop, b4, a4]
theorem Con.eq {bs : List UInt8} {s s' : Rs} {l l' : List UInt8} (h : Con bs s s' l) (e : s'.bad = false → l = l') : Con bs s s' l' := fun hb => by rw [← e hb]; exact h hb
theorem con_tk1 (bs : List UInt8) (s : Rs) : Con bs s (tk bs 1 s).2 (leB (tk bs 1 s).1 1) := fun hb => by
  unfold tk at hb ⊢
  split at hb
  · rename_i h
    rw [if_pos h]
    refine ⟨hb, by rw [leB_length], h, ?_⟩
    rw [leB_length]
    obtain ⟨b, hbb⟩ : ∃ b, (bs.drop s.at_).take 1 = [b] := by
      obtain ⟨b, r, e⟩ := List.exists_cons_of_length_pos (l := bs.drop s.at_) (by simp; omega)
      exact ⟨b, by rw [e]; rfl⟩
    simp only [hbb, leN_one, leB1, byteOf_of]
  · cases hb
theorem leB3_sum {a b c : Int} (b1 : 0 ≤ a ∧ a ≤ 255) (b2 : 0 ≤ b ∧ b ≤ 255) (b3 : 0 ≤ c ∧ c ≤ 255) : leB a 1 ++ leB b 1 ++ leB c 1 = leB (a + b * 256 + c * 65536) 3 := by
  rw [leB3, leB1, leB1, leB1]
  have e : ∀ x y : Int, x % 256 = y % 256 → byteOf x = byteOf y := fun x y h => by unfold byteOf; rw [h]
  simp only [List.cons_append, List.nil_append, List.cons.injEq, and_true]
  exact ⟨e _ _ (by omega), e _ _ (by omega), e _ _ (by omega)⟩
theorem con_r3 (bs : List UInt8) (s : Rs) : Con bs s (r3 bs s).2 (leB (r3 bs s).1 3) := by
  have h1 := con_tk1 bs s
  have h2 := con_tk1 bs (tk bs 1 s).2
  have h3 := con_tk1 bs (tk bs 1 (tk bs 1 s).2).2
  have b1 := tk1_bd bs s
  have b2 := tk1_bd bs (tk bs 1 s).2
  have b3 := tk1_bd bs (tk bs 1 (tk bs 1 s).2).2
  have := (h1.trans h2).trans h3
  refine this.eq fun _ => ?_
  exact leB3_sum b1 b2 b3
theorem con_rNm (bs : List UInt8) (s : Rs) : Con bs s (rNm bs s).2 (nmB (rNm bs s).1) := by
  have := (con_r3 bs s).trans ((con_r3 bs (r3 bs s).2).trans (con_r3 bs (r3 bs (r3 bs s).2).2))
  exact this
theorem con_nil (bs : List UInt8) (s : Rs) (h : s.at_ ≤ bs.length) : Con bs s s [] := fun hb => ⟨hb, rfl, h, rfl⟩
theorem con_rdBs (bs : List UInt8) : ∀ (k : Nat) (s : Rs), 0 < k → Con bs s (rdBs bs k s).2 (rdBs bs k s).1
  | 0, s, h => by omega
  | 1, s, _ => by
    have := con_tk1 bs s
    rw [leB1] at this
    exact this
  | k + 2, s, _ => by
    have h1 := con_tk1 bs s
    rw [leB1] at h1
    have := h1.trans (con_rdBs bs (k + 1) (tk bs 1 s).2 (by omega))
    exact this
theorem con_rdWr (bs : List UInt8) (s : Rs) : Con bs s (rdWr bs s).2 (wrB (rdWr bs s).1) := by
  have := (con_tk1 bs s).trans (con_rdBs bs 8 (tk bs 1 s).2 (by omega))
  refine this.eq fun _ => ?_
  unfold rdWr wrB
  have e : (v8 (rdBs bs 8 (tk bs 1 s).2).1).bs = (rdBs bs 8 (tk bs 1 s).2).1 := by
    have hl := rdBs_len bs 8 (tk bs 1 s).2
    generalize (rdBs bs 8 (tk bs 1 s).2).1 = l at hl
    match l, hl with
    | [a, b, c, d, e, f, g, i], _ => rfl
  simp only [e]
theorem con_rLoop (bs : List UInt8) : ∀ (n : Nat) (s : Rs), s.at_ ≤ bs.length → Con bs s (rLoop bs n s).2 (wrsB (rLoop bs n s).1) ∧ ((rLoop bs n s).2.bad = false → (rLoop bs n s).1.length = n)
  | 0, s, h => ⟨con_nil bs s h, fun _ => rfl⟩
  | n + 1, s, h => by
    by_cases hb : s.bad
    · have e : rLoop bs (n + 1) s = ([], s) := by rw [rLoop, if_pos hb]
      rw [e]
      exact ⟨con_nil bs s h, fun h' => absurd h' (by simp [hb])⟩
    · have e : rLoop bs (n + 1) s = ((rdWr bs s).1 :: (rLoop bs n (rdWr bs s).2).1, (rLoop bs n (rdWr bs s).2).2) := by rw [rLoop, if_neg hb]
      rw [e]
      by_cases hw : (rdWr bs s).2.bad = false
      · have h1 := con_rdWr bs s hw
        obtain ⟨h2, h3⟩ := con_rLoop bs n (rdWr bs s).2 h1.2.2.1
        refine ⟨?_, fun hx => by simp only [List.length_cons]; rw [h3 hx]⟩
        have := (con_rdWr bs s).trans h2
        rw [show wrsB ((rdWr bs s).1 :: (rLoop bs n (rdWr bs s).2).1) = wrB (rdWr bs s).1 ++ wrsB (rLoop bs n (rdWr bs s).2).1 by simp [wrsB]]
        exact this
      · have hl : rLoop bs n (rdWr bs s).2 = ([], (rdWr bs s).2) := by
          cases n with
          | zero => rfl
          | succ n => rw [rLoop, if_pos (by simpa using hw)]
        simp only [hl]
        exact ⟨fun h' => absurd h' hw, fun h' => absurd h' hw⟩
theorem con_rWs (bs : List UInt8) (s : Rs) : Con bs s (rWs bs s).2 (wsB (rWs bs s).1) := fun hb => by
  have h1 := con_tk1 bs s
  have hbd := tk1_bd bs s
  by_cases hbad : (tk bs 1 s).2.bad = false
  · obtain ⟨h2, h3⟩ := con_rLoop bs (tk bs 1 s).1.toNat (tk bs 1 s).2 (h1 hbad).2.2.1
    have hn := h3 hb
    have := (h1.trans h2) hb
    unfold wsB
    rw [show (((rWs bs s).1.length : Nat) : Int) = (tk bs 1 s).1 by unfold rWs; rw [hn]; omega]
    exact this
  · exfalso
    have : (rWs bs s).2 = (tk bs 1 s).2 := by
      unfold rWs
      cases (tk bs 1 s).1.toNat with
      | zero => rfl
      | succ n => rw [rLoop, if_pos (by simpa using hbad)]
    rw [this] at hb; exact hbad hb
theorem con_rFl (bs : List UInt8) (s : Rs) : Con bs s (rFl bs s).2 (leB (if (rFl bs s).1 then 1 else 0) 1) := fun hb => by
  have hb' : (tk bs 1 s).2.bad = false ∧ ¬ 1 < (tk bs 1 s).1 := by
    unfold rFl at hb; simp only [Bool.or_eq_false_iff, decide_eq_false_iff_not] at hb; exact hb
  have h1 := con_tk1 bs s hb'.1
  have hbd := tk1_bd bs s
  have e : (if (rFl bs s).1 then (1 : Int) else 0) = (tk bs 1 s).1 := by
    unfold rFl; simp only [beq_iff_eq]; split <;> omega
  rw [e]
  exact h1
/-- what was read of all bytes, and may be, has these bytes -/
theorem ref_ok {bs : List UInt8} {b : UInt8} (hb0 : bs[0]? = some b) (hb : b.toNat ≤ 127) (q : Rc × List Wr × Rs) (hq : rBody bs (b.toNat : Int) ⟨1, false⟩ = q) (h1 : q.2.2.bad = false) (h2 : q.2.2.at_ = bs.length) (hm : q.1.may q.2.1 = true) : q.1.enc q.2.1 = bs := by
  have key : ∀ l : List UInt8, Con bs ⟨1, false⟩ q.2.2 l → byteOf (b.toNat : Int) :: l = bs := fun l hc => by
    obtain ⟨-, -, -, h⟩ := hc h1
    have h3 := (hc h1).2.1
    rw [h2] at h3
    match bs, hb0 with
    | c :: r, hc0 =>
      obtain rfl : c = b := by simpa using hc0
      simp only [List.length_cons] at h3
      simp only [List.drop_succ_cons, List.drop_zero] at h
      rw [List.take_of_length_le (by omega)] at h
      rw [byteOf_of, h]
  have hk := kinds hm
  have hkk : q.1.kind = (b.toNat : Int) := by rw [← hq]; unfold rBody; (repeat' split) <;> rfl
  rw [enc_head, hkk]
  apply key
  unfold Rc.body
  rcases hk with hk | hk | hk | hk | hk | hk | hk <;> rw [hkk] at hk
  · rw [hkk, if_pos hk]
    unfold rBody at hq; rw [if_neg (by omega), if_pos hk] at hq
    rw [← hq]; exact (con_rNm bs _).trans (con_rWs bs _)
  · rw [hkk, if_neg (by omega), if_pos hk]
    unfold rBody at hq; rw [if_neg (by omega), if_neg (by omega), if_pos hk] at hq
    rw [← hq]; exact (con_rNm bs _).trans ((con_rWs bs _).trans ((con_tk1 bs _).trans (con_tk1 bs _)))
  · rw [hkk, if_neg (by omega), if_neg (by omega), if_pos hk]
    unfold rBody at hq; rw [if_neg (by omega), if_neg (by omega), if_neg (by omega), if_pos hk] at hq
    rw [← hq]; exact (con_rNm bs _).trans (con_rFl bs _)
  · rw [hkk, if_neg (by omega), if_neg (by omega), if_neg (by omega), if_pos hk]
    unfold rBody at hq; rw [if_neg (by omega), if_neg (by omega), if_neg (by omega), if_neg (by omega), if_pos hk] at hq
    rw [← hq]
    refine (con_rNm bs _).trans ((con_tk1 bs _).trans (Con.trans (s1 := (tk bs 1 (tk bs 1 (rNm bs ⟨1, false⟩).2).2).2) ?_ (con_tk1 bs _)))
    refine (con_tk1 bs _).eq fun _ => ?_
    simp only; congr 1; omega
  · rw [hkk, if_neg (by omega), if_neg (by omega), if_neg (by omega), if_neg (by omega), if_pos hk]
    unfold rBody at hq; rw [if_neg (by omega), if_neg (by omega), if_neg (by omega), if_neg (by omega), if_neg (by omega)] at hq
    rw [← hq]; exact con_rNm bs _
  all_goals
    rw [hkk, if_neg (by omega), if_neg (by omega), if_neg (by omega), if_neg (by omega), if_neg (by omega)]
    unfold rBody at hq; rw [if_pos (by omega)] at hq
    rw [← hq]; exact con_r3 bs _

/-! ### the other way -/
theorem r3_of {bs : List UInt8} {s : Rs} (h : s.at_ + 3 ≤ bs.length) : r3 bs s = tk bs 3 s := by
  have e1 : tk bs 1 s = (((leN ((bs.drop s.at_).take 1) : Nat) : Int), ⟨s.at_ + 1, s.bad⟩) := by unfold tk; rw [if_pos (by omega)]
  have e2 : tk bs 1 ⟨s.at_ + 1, s.bad⟩ = (((leN ((bs.drop (s.at_ + 1)).take 1) : Nat) : Int), ⟨s.at_ + 1 + 1, s.bad⟩) := by unfold tk; rw [if_pos (by simp only; omega)]
  have e3 : tk bs 1 ⟨s.at_ + 1 + 1, s.bad⟩ = (((leN ((bs.drop (s.at_ + 1 + 1)).take 1) : Nat) : Int), ⟨s.at_ + 1 + 1 + 1, s.bad⟩) := by unfold tk; rw [if_pos (by simp only; omega)]
  unfold r3
  simp only [e1, e2, e3]
  unfold tk
  rw [if_pos h]
  obtain ⟨a, r1, q1⟩ := List.exists_cons_of_length_pos (l := bs.drop s.at_) (by simp; omega)
  have q2 : bs.drop (s.at_ + 1) = r1 := by rw [← List.drop_drop, q1]; rfl
  obtain ⟨b, r2, q3⟩ := List.exists_cons_of_length_pos (l := r1) (by rw [← q2]; simp; omega)
  have q4 : bs.drop (s.at_ + 1 + 1) = r2 := by rw [← List.drop_drop, q2, q3]; rfl
  obtain ⟨c, r3, q5⟩ := List.exists_cons_of_length_pos (l := r2) (by rw [← q4]; simp; omega)
  rw [q1, q2, q4, q3, q5]
  simp only [List.take_succ_cons, List.take_zero, leN, Prod.mk.injEq, and_true]
  omega
theorem rNm_of {bs : List UInt8} {s : Rs} (h : s.at_ + 9 ≤ bs.length) : rNm bs s = rdName bs s := by
  have t : ∀ s : Rs, s.at_ + 3 ≤ bs.length → (tk bs 3 s).2 = ⟨s.at_ + 3, s.bad⟩ := fun s h => by unfold tk; rw [if_pos h]
  unfold rNm rdName
  simp only [r3_of (bs := bs) (s := s) (by omega), t s (by omega)]
  rw [r3_of (bs := bs) (s := ⟨s.at_ + 3, s.bad⟩) (by simp only; omega), t ⟨s.at_ + 3, s.bad⟩ (by simp only; omega)]
  rw [r3_of (bs := bs) (s := ⟨s.at_ + 3 + 3, s.bad⟩) (by simp only; omega)]
theorem rLoop_of (bs : List UInt8) : ∀ (n : Nat) (s : Rs), (rdWrs bs n s).2.bad = false → rLoop bs n s = rdWrs bs n s ∧ s.bad = false
  | 0, s, h => ⟨rfl, h⟩
  | n + 1, s, h => by
    obtain ⟨h1, h2⟩ := rLoop_of bs n (rdWr bs s).2 h
    have h3 : s.bad = false := (con_rdWr bs s h2).1
    exact ⟨by rw [rLoop, if_neg (by simp [h3]), h1]; rfl, h3⟩
theorem r3_at (pre post : List UInt8) {n : Int} (h0 : 0 ≤ n) (h : n < 16777216) : r3 (pre ++ (leB n 3 ++ post)) ⟨pre.length, false⟩ = (n, ⟨(pre ++ leB n 3).length, false⟩) := by
  rw [r3_of (by simp only [List.length_append, leB_length]; omega), tk3 pre post false h0 h]
theorem rNm_at (pre post : List UInt8) {n : Nm} (h : n.named = true) : rNm (pre ++ (nmB n ++ post)) ⟨pre.length, false⟩ = (n, ⟨(pre ++ nmB n).length, false⟩) := by
  rw [rNm_of (by simp only [List.length_append, nmB, leB_length]; omega), rdName_at pre post false h]
theorem rWs_at (pre post : List UInt8) {ws : List Wr} (h : writtenB ws = true) : rWs (pre ++ (wsB ws ++ post)) ⟨pre.length, false⟩ = (ws, ⟨(pre ++ wsB ws).length, false⟩) := by
  simp only [writtenB, Bool.and_eq_true, decide_eq_true_eq] at h
  have e1 := tk1 pre (wrsB ws ++ post) false (n := (ws.length : Int)) (by omega) (by omega)
  have e2 := rdWrs_at ws (pre ++ leB ws.length 1) post false (fun x hx => by have := rising_mem h.2 x hx; omega)
  simp only [List.append_assoc] at e2
  unfold rWs wsB
  simp only [List.append_assoc, e1, Int.toNat_natCast]
  rw [(rLoop_of _ _ _ (by rw [e2])).1, e2]
theorem rFl_at (pre post : List UInt8) (y : Bool) : rFl (pre ++ (leB (if y then 1 else 0) 1 ++ post)) ⟨pre.length, false⟩ = (y, ⟨(pre ++ leB (if y then 1 else 0) 1).length, false⟩) := by
  have e1 := tk1 pre post false (n := if y then 1 else 0) (by split <;> omega) (by split <;> omega)
  unfold rFl
  simp only [e1]
  cases y <;> simp
theorem rBody_enc {r : Rc} {x : List Wr} (h : r.may x = true) (rest : List UInt8) : rBody (r.enc x ++ rest) r.kind ⟨1, false⟩ = (r, x, ⟨(r.enc x).length, false⟩) := by
  have hl1 : (leB r.kind 1).length = 1 := leB_length _ _
  rcases may_cases h with ⟨hk, hr, hn, hw⟩ | ⟨hk, hr, hn, hw, hg, ht, -⟩ | ⟨hk, hr, rfl, hn⟩ | ⟨hk, hr, rfl, hn, hs, hc⟩ | ⟨hk, hr, rfl, hn⟩ | ⟨hk, hr, rfl, hn⟩ | ⟨hk, hr, rfl, hn⟩
  · have e1 := rNm_at (leB r.kind 1) (wsB x ++ rest) hn
    have e2 := rWs_at (leB r.kind 1 ++ nmB r.name) rest hw
    rw [hl1] at e1
    simp only [List.append_assoc] at e2
    unfold rBody Rc.enc Rc.body
    simp only [hk, List.append_assoc, reduceIte, show ¬ ((1 : Int) = 6 ∨ (1 : Int) = 7) by omega] at e1 e2 ⊢
    simp only [e1, e2]
    rw [← hr]
  · simp only [bitsB, decide_eq_true_eq] at hg ht
    have e1 := rNm_at (leB r.kind 1) (wsB x ++ (leB r.give 1 ++ (leB r.take 1 ++ rest))) hn
    have e2 := rWs_at (leB r.kind 1 ++ nmB r.name) (leB r.give 1 ++ (leB r.take 1 ++ rest)) hw
    have e3 := tk1 (leB r.kind 1 ++ nmB r.name ++ wsB x) (leB r.take 1 ++ rest) false (n := r.give) (by omega) (by omega)
    have e4 := tk1 (leB r.kind 1 ++ nmB r.name ++ wsB x ++ leB r.give 1) rest false (n := r.take) (by omega) (by omega)
    rw [hl1] at e1
    simp only [List.append_assoc] at e2 e3 e4
    unfold rBody Rc.enc Rc.body
    simp only [hk, List.append_assoc, reduceIte, show ¬ ((2 : Int) = 6 ∨ (2 : Int) = 7) by omega, show ¬ (2 : Int) = 1 by omega] at e1 e2 e3 e4 ⊢
    simp only [e1, e2, e3, e4]
    rw [← hr]
  · have e1 := rNm_at (leB r.kind 1) (leB (if r.yes then 1 else 0) 1 ++ rest) hn
    have e2 := rFl_at (leB r.kind 1 ++ nmB r.name) rest r.yes
    rw [hl1] at e1
    simp only [List.append_assoc] at e2
    unfold rBody Rc.enc Rc.body
    simp only [hk, List.append_assoc, reduceIte, show ¬ ((3 : Int) = 6 ∨ (3 : Int) = 7) by omega, show ¬ (3 : Int) = 1 by omega, show ¬ (3 : Int) = 2 by omega] at e1 e2 ⊢
    simp only [e1, e2]
    rw [← hr]
  · simp only [shardsB, changedB, decide_eq_true_eq] at hs hc
    have e1 := rNm_at (leB r.kind 1) (leB r.shards 1 ++ (leB (r.cs + 1) 1 ++ (leB r.ct 1 ++ rest))) hn
    have e2 := tk1 (leB r.kind 1 ++ nmB r.name) (leB (r.cs + 1) 1 ++ (leB r.ct 1 ++ rest)) false (n := r.shards) (by omega) (by omega)
    have e3 := tk1 (leB r.kind 1 ++ nmB r.name ++ leB r.shards 1) (leB r.ct 1 ++ rest) false (n := r.cs + 1) (by omega) (by omega)
    have e4 := tk1 (leB r.kind 1 ++ nmB r.name ++ leB r.shards 1 ++ leB (r.cs + 1) 1) rest false (n := r.ct) (by omega) (by omega)
    rw [hl1] at e1
    simp only [List.append_assoc] at e2 e3 e4
    unfold rBody Rc.enc Rc.body
    simp only [hk, List.append_assoc, reduceIte, show ¬ ((4 : Int) = 6 ∨ (4 : Int) = 7) by omega, show ¬ (4 : Int) = 1 by omega, show ¬ (4 : Int) = 2 by omega, show ¬ (4 : Int) = 3 by omega] at e1 e2 e3 e4 ⊢
    simp only [e1, e2, e3, e4]
    have ec : r.cs + 1 - 1 = r.cs := by omega
    rw [ec, ← hr]
  · have e1 := rNm_at (leB r.kind 1) rest hn
    rw [hl1] at e1
    unfold rBody Rc.enc Rc.body
    simp only [hk, List.append_assoc, reduceIte, show ¬ ((5 : Int) = 6 ∨ (5 : Int) = 7) by omega, show ¬ (5 : Int) = 1 by omega, show ¬ (5 : Int) = 2 by omega, show ¬ (5 : Int) = 3 by omega, show ¬ (5 : Int) = 4 by omega] at e1 ⊢
    simp only [e1]
    rw [← hr]
  · simp only [withinB, decide_eq_true_eq] at hn
    have e1 := r3_at (leB r.kind 1) rest (n := r.n) (by omega) (by omega)
    rw [hl1] at e1
    unfold rBody Rc.enc Rc.body
    simp only [hk, List.append_assoc, reduceIte, true_or, or_true, show ¬ (6 : Int) = 1 by omega, show ¬ (6 : Int) = 2 by omega, show ¬ (6 : Int) = 3 by omega, show ¬ (6 : Int) = 4 by omega, show ¬ (6 : Int) = 5 by omega] at e1 ⊢
    simp only [e1]
    rw [← hr]
  · simp only [withinB, decide_eq_true_eq] at hn
    have e1 := r3_at (leB r.kind 1) rest (n := r.n) (by omega) (by omega)
    rw [hl1] at e1
    unfold rBody Rc.enc Rc.body
    simp only [hk, List.append_assoc, reduceIte, true_or, or_true, show ¬ (7 : Int) = 1 by omega, show ¬ (7 : Int) = 2 by omega, show ¬ (7 : Int) = 3 by omega, show ¬ (7 : Int) = 4 by omega, show ¬ (7 : Int) = 5 by omega] at e1 ⊢
    simp only [e1]
    rw [← hr]

theorem ref_no {bs : List UInt8} {r : Rc} {x : List Wr} (hm : r.may x = true) (he : r.enc x = bs) : rBody bs r.kind ⟨1, false⟩ = (r, x, ⟨bs.length, false⟩) := by
  have := rBody_enc hm []
  rwa [List.append_nil, he] at this

end Go.Proofs.Ytbaoodlkcbiclaa
