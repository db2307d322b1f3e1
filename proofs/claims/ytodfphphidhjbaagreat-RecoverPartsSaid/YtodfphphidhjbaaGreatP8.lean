/-
  What RecoverParts rests on, part 8.
-/
import Derived.Test.YtodfphphidhjbaaGreatP7
namespace Go.Proofs.YtodfphphidhjbaaGreat
open Go.RowKit Go.Sort
def r3 (bs : List UInt8) (s : Rs) : Int × Rs :=
 let a := tk bs 1 s
 let b := tk bs 1 a.2
 let c := tk bs 1 b.2
 (a.1 + b.1 * 256 + c.1 * 65536, c.2)
def rNm (bs : List UInt8) (s : Rs) : Nm × Rs :=
 let a := r3 bs s
 let b := r3 bs a.2
 let c := r3 bs b.2
 (⟨a.1, b.1, c.1⟩, c.2)
def rLoop (bs : List UInt8) : Nat → Rs → List Wr × Rs
 | 0, s => ([], s)
 | n + 1, s => if s.bad then ([], s) else ((rdWr bs s).1 :: (rLoop bs n (rdWr bs s).2).1, (rLoop bs n (rdWr bs s).2).2)
def rWs (bs : List UInt8) (s : Rs) : List Wr × Rs := rLoop bs (tk bs 1 s).1.toNat (tk bs 1 s).2
def rFl (bs : List UInt8) (s : Rs) : Bool × Rs := let y := tk bs 1 s; (y.1 == 1, ⟨y.2.at_, y.2.bad || decide (1 < y.1)⟩)
def Con (bs : List UInt8) (s s' : Rs) (l : List UInt8) : Prop := s'.bad = false → s.bad = false ∧ s'.at_ = s.at_ + l.length ∧ s'.at_ ≤ bs.length ∧ (bs.drop s.at_).take l.length = l
theorem Con.trans {bs : List UInt8} {s s1 s2 : Rs} {l1 l2 : List UInt8} (h1 : Con bs s s1 l1) (h2 : Con bs s1 s2 l2) : Con bs s s2 (l1 ++ l2) := fun hb => by
 obtain ⟨a1, a2, a3, a4⟩ := h2 hb
 obtain ⟨b1, b2, b3, b4⟩ := h1 a1
 refine ⟨b1, by rw [a2, b2, List.length_append]; omega, a3, ?_⟩
 rw [b2] at a4
 rw [List.length_append, List.take_add, List.drop_drop, b4, a4]
theorem Con.eq {bs : List UInt8} {s s' : Rs} {l l' : List UInt8} (h : Con bs s s' l) (e : s'.bad = false → l = l') : Con bs s s' l' := fun hb => by rw [← e hb]; exact h hb
theorem con_tk1 (bs : List UInt8) (s : Rs) : Con bs s (tk bs 1 s).2 (leB (tk bs 1 s).1 1) := fun hb => by
 unfold tk at hb ⊢
 split at hb
 ·rename_i h
  rw [if_pos h]
  refine ⟨hb, by rw [leB_length], h, ?_⟩
  rw [leB_length]
  obtain ⟨b, hbb⟩ : ∃ b, (bs.drop s.at_).take 1 = [b] := by
   obtain ⟨b, r, e⟩ := List.exists_cons_of_length_pos (l := bs.drop s.at_) (by simp; omega)
   exact ⟨b, by rw [e]; rfl⟩
  simp only [hbb, leN_one, leB1, byteOf_of]
 ·cases hb
theorem leB3_sum {a b c : Int} (b1 : 0 ≤ a ∧ a ≤ 255) (b2 : 0 ≤ b ∧ b ≤ 255) (b3 : 0 ≤ c ∧ c ≤ 255) : leB a 1 ++ leB b 1 ++ leB c 1 = leB (a + b * 256 + c * 65536) 3 := by
 rw [leB3, leB1, leB1, leB1]
 have e : ∀ x y : Int, x % 256 = y % 256 → byteOf x = byteOf y := fun x y h => by unfold byteOf; rw [h]
 simp only [List.cons_append, List.nil_append, List.cons.injEq, and_true]
 exact ⟨e _ _ (by omega), e _ _ (by omega), e _ _ (by omega)⟩
theorem con_r3 (bs : List UInt8) (s : Rs) : Con bs s (r3 bs s).2 (leB (r3 bs s).1 3) := by
 have h1 := con_tk1 bs s
 have h2 := con_tk1 bs (tk bs 1 s).2
 have h3 := con_tk1 bs (tk bs 1 (tk bs 1 s).2).2
 have b1 := tk1_bd bs s
 have b2 := tk1_bd bs (tk bs 1 s).2
 have b3 := tk1_bd bs (tk bs 1 (tk bs 1 s).2).2
 have := (h1.trans h2).trans h3
 refine this.eq fun _ => ?_
 exact leB3_sum b1 b2 b3
theorem con_rNm (bs : List UInt8) (s : Rs) : Con bs s (rNm bs s).2 (nmB (rNm bs s).1) := by
 have := (con_r3 bs s).trans ((con_r3 bs (r3 bs s).2).trans (con_r3 bs (r3 bs (r3 bs s).2).2))
 exact this
theorem con_nil (bs : List UInt8) (s : Rs) (h : s.at_ ≤ bs.length) : Con bs s s [] := fun hb => ⟨hb, rfl, h, rfl⟩
theorem con_rdBs (bs : List UInt8) : ∀ (k : Nat) (s : Rs), 0 < k → Con bs s (rdBs bs k s).2 (rdBs bs k s).1
 | 0, s, h => by omega
 | 1, s, _ => by
   have := con_tk1 bs s
   rw [leB1] at this
   exact this
 | k + 2, s, _ => by
   have h1 := con_tk1 bs s
   rw [leB1] at h1
   have := h1.trans (con_rdBs bs (k + 1) (tk bs 1 s).2 (by omega))
   exact this
theorem con_rdWr (bs : List UInt8) (s : Rs) : Con bs s (rdWr bs s).2 (wrB (rdWr bs s).1) := by
 have := (con_tk1 bs s).trans (con_rdBs bs 8 (tk bs 1 s).2 (by omega))
 refine this.eq fun _ => ?_
 unfold rdWr wrB
 have e : (v8 (rdBs bs 8 (tk bs 1 s).2).1).bs = (rdBs bs 8 (tk bs 1 s).2).1 := by
  have hl := rdBs_len bs 8 (tk bs 1 s).2
  generalize (rdBs bs 8 (tk bs 1 s).2).1 = l at hl
  match l, hl with
  | [a, b, c, d, e, f, g, i], _ => rfl
 simp only [e]
theorem con_rLoop (bs : List UInt8) : ∀ (n : Nat) (s : Rs), s.at_ ≤ bs.length → Con bs s (rLoop bs n s).2 (wrsB (rLoop bs n s).1) ∧ ((rLoop bs n s).2.bad = false → (rLoop bs n s).1.length = n)
 | 0, s, h => ⟨con_nil bs s h, fun _ => rfl⟩
 | n + 1, s, h => by
   by_cases hb : s.bad
   ·have e : rLoop bs (n + 1) s = ([], s) := by rw [rLoop, if_pos hb]
    rw [e]
    exact ⟨con_nil bs s h, fun h' => absurd h' (by simp [hb])⟩
   ·have e : rLoop bs (n + 1) s = ((rdWr bs s).1 :: (rLoop bs n (rdWr bs s).2).1, (rLoop bs n (rdWr bs s).2).2) := by rw [rLoop, if_neg hb]
    rw [e]
    by_cases hw : (rdWr bs s).2.bad = false
    ·have h1 := con_rdWr bs s hw
     obtain ⟨h2, h3⟩ := con_rLoop bs n (rdWr bs s).2 h1.2.2.1
     refine ⟨?_, fun hx => by simp only [List.length_cons]; rw [h3 hx]⟩
     have := (con_rdWr bs s).trans h2
     rw [show wrsB ((rdWr bs s).1 :: (rLoop bs n (rdWr bs s).2).1) = wrB (rdWr bs s).1 ++ wrsB (rLoop bs n (rdWr bs s).2).1 by simp [wrsB]]
     exact this
    ·have hl : rLoop bs n (rdWr bs s).2 = ([], (rdWr bs s).2) := by
      cases n with
      | zero => rfl
      | succ n => rw [rLoop, if_pos (by simpa using hw)]
     simp only [hl]
     exact ⟨fun h' => absurd h' hw, fun h' => absurd h' hw⟩
theorem con_rWs (bs : List UInt8) (s : Rs) : Con bs s (rWs bs s).2 (wsB (rWs bs s).1) := fun hb => by
 have h1 := con_tk1 bs s
 have hbd := tk1_bd bs s
 by_cases hbad : (tk bs 1 s).2.bad = false
 ·obtain ⟨h2, h3⟩ := con_rLoop bs (tk bs 1 s).1.toNat (tk bs 1 s).2 (h1 hbad).2.2.1
  have hn := h3 hb
  have := (h1.trans h2) hb
  unfold wsB
  rw [show (((rWs bs s).1.length : Nat) : Int) = (tk bs 1 s).1 by unfold rWs; rw [hn]; omega]
  exact this
 ·exfalso
  have : (rWs bs s).2 = (tk bs 1 s).2 := by
   unfold rWs
   cases (tk bs 1 s).1.toNat with
   | zero => rfl
   | succ n => rw [rLoop, if_pos (by simpa using hbad)]
  rw [this] at hb; exact hbad hb
theorem con_rFl (bs : List UInt8) (s : Rs) : Con bs s (rFl bs s).2 (leB (if (rFl bs s).1 then 1 else 0) 1) := fun hb => by
 have hb' : (tk bs 1 s).2.bad = false ∧ ¬ 1 < (tk bs 1 s).1 := by
  unfold rFl at hb; simp only [Bool.or_eq_false_iff, decide_eq_false_iff_not] at hb; exact hb
 have h1 := con_tk1 bs s hb'.1
 have hbd := tk1_bd bs s
 have e : (if (rFl bs s).1 then (1 : Int) else 0) = (tk bs 1 s).1 := by
  unfold rFl; simp only [beq_iff_eq]; split <;> omega
 rw [e]
 exact h1
theorem r3_of {bs : List UInt8} {s : Rs} (h : s.at_ + 3 ≤ bs.length) : r3 bs s = tk bs 3 s := by
 have e1 : tk bs 1 s = (((leN ((bs.drop s.at_).take 1) : Nat) : Int), ⟨s.at_ + 1, s.bad⟩) := by unfold tk; rw [if_pos (by omega)]
 have e2 : tk bs 1 ⟨s.at_ + 1, s.bad⟩ = (((leN ((bs.drop (s.at_ + 1)).take 1) : Nat) : Int), ⟨s.at_ + 1 + 1, s.bad⟩) := by unfold tk; rw [if_pos (by simp only; omega)]
 have e3 : tk bs 1 ⟨s.at_ + 1 + 1, s.bad⟩ = (((leN ((bs.drop (s.at_ + 1 + 1)).take 1) : Nat) : Int), ⟨s.at_ + 1 + 1 + 1, s.bad⟩) := by unfold tk; rw [if_pos (by simp only; omega)]
 unfold r3
 simp only [e1, e2, e3]
 unfold tk
 rw [if_pos h]
 obtain ⟨a, r1, q1⟩ := List.exists_cons_of_length_pos (l := bs.drop s.at_) (by simp; omega)
 have q2 : bs.drop (s.at_ + 1) = r1 := by rw [← List.drop_drop, q1]; rfl
 obtain ⟨b, r2, q3⟩ := List.exists_cons_of_length_pos (l := r1) (by rw [← q2]; simp; omega)
 have q4 : bs.drop (s.at_ + 1 + 1) = r2 := by rw [← List.drop_drop, q2, q3]; rfl
 obtain ⟨c, r3, q5⟩ := List.exists_cons_of_length_pos (l := r2) (by rw [← q4]; simp; omega)
 rw [q1, q2, q4, q3, q5]
 simp only [List.take_succ_cons, List.take_zero, leN, Prod.mk.injEq, and_true]
 omega
theorem rNm_of {bs : List UInt8} {s : Rs} (h : s.at_ + 9 ≤ bs.length) : rNm bs s = rdName bs s := by
 have t : ∀ s : Rs, s.at_ + 3 ≤ bs.length → (tk bs 3 s).2 = ⟨s.at_ + 3, s.bad⟩ := fun s h => by unfold tk; rw [if_pos h]
 unfold rNm rdName
 simp only [r3_of (bs := bs) (s := s) (by omega), t s (by omega)]
 rw [r3_of (bs := bs) (s := ⟨s.at_ + 3, s.bad⟩) (by simp only; omega), t ⟨s.at_ + 3, s.bad⟩ (by simp only; omega)]
 rw [r3_of (bs := bs) (s := ⟨s.at_ + 3 + 3, s.bad⟩) (by simp only; omega)]
theorem rLoop_of (bs : List UInt8) : ∀ (n : Nat) (s : Rs), (rdWrs bs n s).2.bad = false → rLoop bs n s = rdWrs bs n s ∧ s.bad = false
 | 0, s, h => ⟨rfl, h⟩
 | n + 1, s, h => by
   obtain ⟨h1, h2⟩ := rLoop_of bs n (rdWr bs s).2 h
   have h3 : s.bad = false := (con_rdWr bs s h2).1
   exact ⟨by rw [rLoop, if_neg (by simp [h3]), h1]; rfl, h3⟩
theorem r3_at (pre post : List UInt8) {n : Int} (h0 : 0 ≤ n) (h : n < 16777216) : r3 (pre ++ (leB n 3 ++ post)) ⟨pre.length, false⟩ = (n, ⟨(pre ++ leB n 3).length, false⟩) := by
 rw [r3_of (by simp only [List.length_append, leB_length]; omega), tk3 pre post false h0 h]
theorem rNm_at (pre post : List UInt8) {n : Nm} (h : n.named = true) : rNm (pre ++ (nmB n ++ post)) ⟨pre.length, false⟩ = (n, ⟨(pre ++ nmB n).length, false⟩) := by
 rw [rNm_of (by simp only [List.length_append, nmB, leB_length]; omega), rdName_at pre post false h]
theorem rWs_at (pre post : List UInt8) {ws : List Wr} (h : writtenB ws = true) : rWs (pre ++ (wsB ws ++ post)) ⟨pre.length, false⟩ = (ws, ⟨(pre ++ wsB ws).length, false⟩) := by
 simp only [writtenB, Bool.and_eq_true, decide_eq_true_eq] at h
 have e1 := tk1 pre (wrsB ws ++ post) false (n := (ws.length : Int)) (by omega) (by omega)
 have e2 := rdWrs_at ws (pre ++ leB ws.length 1) post false (fun x hx => by have := rising_mem h.2 x hx; omega)
 simp only [List.append_assoc] at e2
 unfold rWs wsB
 simp only [List.append_assoc, e1, Int.toNat_natCast]
 rw [(rLoop_of _ _ _ (by rw [e2])).1, e2]
theorem rFl_at (pre post : List UInt8) (y : Bool) : rFl (pre ++ (leB (if y then 1 else 0) 1 ++ post)) ⟨pre.length, false⟩ = (y, ⟨(pre ++ leB (if y then 1 else 0) 1).length, false⟩) := by
 have e1 := tk1 pre post false (n := if y then 1 else 0) (by split <;> omega) (by split <;> omega)
 unfold rFl
 simp only [e1]
 cases y <;> simp
theorem padB_set0 {l : List UInt8} (x : UInt8) (h : l.length < 8) : putL (bcells (padB l)) l.length [.int .u8 (x.toNat : Int)] = bcells (padB (l ++ [x])) := by
 have e : padB l = l ++ (0 :: List.replicate (8 - (l.length + 1)) 0) := by unfold padB; rw [show 8 - l.length = (8 - (l.length + 1)) + 1 by omega, List.replicate_succ]
 rw [e]; unfold padB
 simp only [putL, bcells, List.map_append, List.map_cons, List.map_nil, List.length_append, List.length_cons, List.length_nil]
 rw [List.set_append_right _ _ (by simp)]
 simp
theorem rLoop_stop {bs : List UInt8} {n : Nat} {s : Rs} (h : s.bad = true) : rLoop bs n s = ([], s) := by
 cases n with
 | zero => rfl
 | succ n => rw [rLoop, if_pos h]
theorem rLoop_step {bs : List UInt8} {n : Nat} {s : Rs} (h : s.bad = false) : rLoop bs (n + 1) s = ((rdWr bs s).1 :: (rLoop bs n (rdWr bs s).2).1, (rLoop bs n (rdWr bs s).2).2) := by rw [rLoop, if_neg (by simp [h])]
theorem rLoop_len (bs : List UInt8) : ∀ (n : Nat) (s : Rs), (rLoop bs n s).1.length ≤ n
 | 0, s => by simp [rLoop]
 | n + 1, s => by
   rw [rLoop]; split
   ·simp
   ·have := rLoop_len bs n (rdWr bs s).2; simp only [List.length_cons]; omega
theorem rWs_len (bs : List UInt8) (s : Rs) : (rWs bs s).1.length ≤ 255 := by
 have h1 := rLoop_len bs (tk bs 1 s).1.toNat (tk bs 1 s).2
 have h2 := tk1_bd bs s
 unfold rWs; omega
theorem and127 {t : Int} (h : 0 ≤ t ∧ t ≤ 255) : IntKind.i8.wrap (IntKind.i64.wrap (BitVec.ofInt IntKind.i64.bits t &&& BitVec.ofInt IntKind.i64.bits 127).toNat) = t % 128 := by
 obtain ⟨k, rfl⟩ := Int.eq_ofNat_of_zero_le h.1
 have : ∀ j : Fin 256, IntKind.i8.wrap (IntKind.i64.wrap (BitVec.ofInt IntKind.i64.bits (j.val : Int) &&& BitVec.ofInt IntKind.i64.bits 127).toNat) = (j.val : Int) % 128 := by decide +kernel
 exact this ⟨k, by omega⟩
end Go.Proofs.YtodfphphidhjbaaGreat

namespace Go.Proofs.YtodfphphidhjbaaGreat
open Go.RowKit Go.Sort
def rBody (bs : List UInt8) (kind : Int) (s : Rs) : Rc × List Wr × Rs :=
 if kind = 6 ∨ kind = 7 then ({ Rc.zero with kind := kind, n := (r3 bs s).1 }, [], (r3 bs s).2)
 else if kind = 1 then ({ Rc.zero with kind := kind, name := (rNm bs s).1 }, (rWs bs (rNm bs s).2).1, (rWs bs (rNm bs s).2).2)
 else if kind = 2 then
  let l := rWs bs (rNm bs s).2; let g := tk bs 1 l.2; let t := tk bs 1 g.2
  ({ Rc.zero with kind := kind, name := (rNm bs s).1, give := g.1, take := t.1 }, l.1, t.2)
 else if kind = 3 then ({ Rc.zero with kind := kind, name := (rNm bs s).1, yes := (rFl bs (rNm bs s).2).1 }, [], (rFl bs (rNm bs s).2).2)
 else if kind = 4 then
  let x := tk bs 1 (rNm bs s).2; let y := tk bs 1 x.2; let z := tk bs 1 y.2
  ({ Rc.zero with kind := kind, name := (rNm bs s).1, shards := x.1, cs := y.1 - 1, ct := z.1 }, [], z.2)
 else ({ Rc.zero with kind := kind, name := (rNm bs s).1 }, [], (rNm bs s).2)
theorem ref_ok {bs : List UInt8} {b : UInt8} (hb0 : bs[0]? = some b) (hb : b.toNat ≤ 127) (q : Rc × List Wr × Rs) (hq : rBody bs (b.toNat : Int) ⟨1, false⟩ = q) (h1 : q.2.2.bad = false) (h2 : q.2.2.at_ = bs.length) (hm : q.1.may q.2.1 = true) : q.1.enc q.2.1 = bs := by
 have key : ∀ l : List UInt8, Con bs ⟨1, false⟩ q.2.2 l → byteOf (b.toNat : Int) :: l = bs := fun l hc => by
  obtain ⟨-, -, -, h⟩ := hc h1
  have h3 := (hc h1).2.1
  rw [h2] at h3
  match bs, hb0 with
  | c :: r, hc0 =>
    obtain rfl : c = b := by simpa using hc0
    simp only [List.length_cons] at h3
    simp only [List.drop_succ_cons, List.drop_zero] at h
    rw [List.take_of_length_le (by omega)] at h
    rw [byteOf_of, h]
 have hk := kinds hm
 have hkk : q.1.kind = (b.toNat : Int) := by rw [← hq]; unfold rBody; (repeat' split) <;> rfl
 rw [enc_head, hkk]
 apply key
 unfold Rc.body
 rcases hk with hk | hk | hk | hk | hk | hk | hk <;> rw [hkk] at hk
 ·rw [hkk, if_pos hk]
  unfold rBody at hq; rw [if_neg (by omega), if_pos hk] at hq
  rw [← hq]; exact (con_rNm bs _).trans (con_rWs bs _)
 ·rw [hkk, if_neg (by omega), if_pos hk]
  unfold rBody at hq; rw [if_neg (by omega), if_neg (by omega), if_pos hk] at hq
  rw [← hq]; exact (con_rNm bs _).trans ((con_rWs bs _).trans ((con_tk1 bs _).trans (con_tk1 bs _)))
 ·rw [hkk, if_neg (by omega), if_neg (by omega), if_pos hk]
  unfold rBody at hq; rw [if_neg (by omega), if_neg (by omega), if_neg (by omega), if_pos hk] at hq
  rw [← hq]; exact (con_rNm bs _).trans (con_rFl bs _)
 ·rw [hkk, if_neg (by omega), if_neg (by omega), if_neg (by omega), if_pos hk]
  unfold rBody at hq; rw [if_neg (by omega), if_neg (by omega), if_neg (by omega), if_neg (by omega), if_pos hk] at hq
  rw [← hq]
  refine (con_rNm bs _).trans ((con_tk1 bs _).trans (Con.trans (s1 := (tk bs 1 (tk bs 1 (rNm bs ⟨1, false⟩).2).2).2) ?_ (con_tk1 bs _)))
  refine (con_tk1 bs _).eq fun _ => ?_
  simp only; congr 1; omega
 ·rw [hkk, if_neg (by omega), if_neg (by omega), if_neg (by omega), if_neg (by omega), if_pos hk]
  unfold rBody at hq; rw [if_neg (by omega), if_neg (by omega), if_neg (by omega), if_neg (by omega), if_neg (by omega)] at hq
  rw [← hq]; exact con_rNm bs _
 all_goals
  rw [hkk, if_neg (by omega), if_neg (by omega), if_neg (by omega), if_neg (by omega), if_neg (by omega)]
  unfold rBody at hq; rw [if_pos (by omega)] at hq
  rw [← hq]; exact con_r3 bs _
theorem rBody_enc {r : Rc} {x : List Wr} (h : r.may x = true) (rest : List UInt8) : rBody (r.enc x ++ rest) r.kind ⟨1, false⟩ = (r, x, ⟨(r.enc x).length, false⟩) := by
 have hl1 : (leB r.kind 1).length = 1 := leB_length _ _
 rcases may_cases h with ⟨hk, hr, hn, hw⟩ | ⟨hk, hr, hn, hw, hg, ht, -⟩ | ⟨hk, hr, rfl, hn⟩ | ⟨hk, hr, rfl, hn, hs, hc⟩ | ⟨hk, hr, rfl, hn⟩ | ⟨hk, hr, rfl, hn⟩ | ⟨hk, hr, rfl, hn⟩
 ·have e1 := rNm_at (leB r.kind 1) (wsB x ++ rest) hn
  have e2 := rWs_at (leB r.kind 1 ++ nmB r.name) rest hw
  rw [hl1] at e1
  simp only [List.append_assoc] at e2
  unfold rBody Rc.enc Rc.body
  simp only [hk, List.append_assoc, reduceIte, show ¬ ((1 : Int) = 6 ∨ (1 : Int) = 7) by omega] at e1 e2 ⊢
  simp only [e1, e2]
  rw [← hr]
 ·simp only [bitsB, decide_eq_true_eq] at hg ht
  have e1 := rNm_at (leB r.kind 1) (wsB x ++ (leB r.give 1 ++ (leB r.take 1 ++ rest))) hn
  have e2 := rWs_at (leB r.kind 1 ++ nmB r.name) (leB r.give 1 ++ (leB r.take 1 ++ rest)) hw
  have e3 := tk1 (leB r.kind 1 ++ nmB r.name ++ wsB x) (leB r.take 1 ++ rest) false (n := r.give) (by omega) (by omega)
  have e4 := tk1 (leB r.kind 1 ++ nmB r.name ++ wsB x ++ leB r.give 1) rest false (n := r.take) (by omega) (by omega)
  rw [hl1] at e1
  simp only [List.append_assoc] at e2 e3 e4
  unfold rBody Rc.enc Rc.body
  simp only [hk, List.append_assoc, reduceIte, show ¬ ((2 : Int) = 6 ∨ (2 : Int) = 7) by omega, show ¬ (2 : Int) = 1 by omega] at e1 e2 e3 e4 ⊢
  simp only [e1, e2, e3, e4]
  rw [← hr]
 ·have e1 := rNm_at (leB r.kind 1) (leB (if r.yes then 1 else 0) 1 ++ rest) hn
  have e2 := rFl_at (leB r.kind 1 ++ nmB r.name) rest r.yes
  rw [hl1] at e1
  simp only [List.append_assoc] at e2
  unfold rBody Rc.enc Rc.body
  simp only [hk, List.append_assoc, reduceIte, show ¬ ((3 : Int) = 6 ∨ (3 : Int) = 7) by omega, show ¬ (3 : Int) = 1 by omega, show ¬ (3 : Int) = 2 by omega] at e1 e2 ⊢
  simp only [e1, e2]
  rw [← hr]
 ·simp only [shardsB, changedB, decide_eq_true_eq] at hs hc
  have e1 := rNm_at (leB r.kind 1) (leB r.shards 1 ++ (leB (r.cs + 1) 1 ++ (leB r.ct 1 ++ rest))) hn
  have e2 := tk1 (leB r.kind 1 ++ nmB r.name) (leB (r.cs + 1) 1 ++ (leB r.ct 1 ++ rest)) false (n := r.shards) (by omega) (by omega)
  have e3 := tk1 (leB r.kind 1 ++ nmB r.name ++ leB r.shards 1) (leB r.ct 1 ++ rest) false (n := r.cs + 1) (by omega) (by omega)
  have e4 := tk1 (leB r.kind 1 ++ nmB r.name ++ leB r.shards 1 ++ leB (r.cs + 1) 1) rest false (n := r.ct) (by omega) (by omega)
  rw [hl1] at e1
  simp only [List.append_assoc] at e2 e3 e4
  unfold rBody Rc.enc Rc.body
  simp only [hk, List.append_assoc, reduceIte, show ¬ ((4 : Int) = 6 ∨ (4 : Int) = 7) by omega, show ¬ (4 : Int) = 1 by omega, show ¬ (4 : Int) = 2 by omega, show ¬ (4 : Int) = 3 by omega] at e1 e2 e3 e4 ⊢
  simp only [e1, e2, e3, e4]
  have ec : r.cs + 1 - 1 = r.cs := by omega
  rw [ec, ← hr]
 ·have e1 := rNm_at (leB r.kind 1) rest hn
  rw [hl1] at e1
  unfold rBody Rc.enc Rc.body
  simp only [hk, List.append_assoc, reduceIte, show ¬ ((5 : Int) = 6 ∨ (5 : Int) = 7) by omega, show ¬ (5 : Int) = 1 by omega, show ¬ (5 : Int) = 2 by omega, show ¬ (5 : Int) = 3 by omega, show ¬ (5 : Int) = 4 by omega] at e1 ⊢
  simp only [e1]
  rw [← hr]
 ·simp only [withinB, decide_eq_true_eq] at hn
  have e1 := r3_at (leB r.kind 1) rest (n := r.n) (by omega) (by omega)
  rw [hl1] at e1
  unfold rBody Rc.enc Rc.body
  simp only [hk, List.append_assoc, reduceIte, true_or, or_true, show ¬ (6 : Int) = 1 by omega, show ¬ (6 : Int) = 2 by omega, show ¬ (6 : Int) = 3 by omega, show ¬ (6 : Int) = 4 by omega, show ¬ (6 : Int) = 5 by omega] at e1 ⊢
  simp only [e1]
  rw [← hr]
 ·simp only [withinB, decide_eq_true_eq] at hn
  have e1 := r3_at (leB r.kind 1) rest (n := r.n) (by omega) (by omega)
  rw [hl1] at e1
  unfold rBody Rc.enc Rc.body
  simp only [hk, List.append_assoc, reduceIte, true_or, or_true, show ¬ (7 : Int) = 1 by omega, show ¬ (7 : Int) = 2 by omega, show ¬ (7 : Int) = 3 by omega, show ¬ (7 : Int) = 4 by omega, show ¬ (7 : Int) = 5 by omega] at e1 ⊢
  simp only [e1]
  rw [← hr]
theorem ref_no {bs : List UInt8} {r : Rc} {x : List Wr} (hm : r.may x = true) (he : r.enc x = bs) : rBody bs r.kind ⟨1, false⟩ = (r, x, ⟨bs.length, false⟩) := by
 have := rBody_enc hm []
 rwa [List.append_nil, he] at this
end Go.Proofs.YtodfphphidhjbaaGreat

namespace Go.Proofs.YtodfphphidhjbaaGreat
open Go.RowKit Go.Sort
theorem byte_any {wc w : World} {H : List Ent} {bf : Nat} {bv : Value} {s : Rs} {bs : List UInt8} (M : Mem wc w (.blk bf (rdC bv s) 95 :: H)) (hb : Bs 0 wc.heap.size wc bv bs) :
 Calls Tryz.prog 33 #[.pointer (some ⟨bf, 0, none⟩)] w fun e w' => e = .returned (.int .i64 (tk bs 1 s).1) ∧ Mem wc w' (.blk bf (rdC bv (tk bs 1 s).2) 95 :: H) := by
 have hl := hb.2.1
 unfold maxLen at hl
 refine calls_enter Tryz.func33 rfl 36 rfl rfl ?_; intro a S
 refine wp_seq ?_
 skip
 refine wp_region_lit (qG [1] S ?_); clear S a; intro a S
 refine nxC (wp_seq (wp_seq (wp_quiet M (by kernel_rfl) (by kernel_rfl) ?_)))
 refine qt_y S rfl rfl rfl (fun w M => y_move S rfl) ?_; clear S a; intro a S
 refine qt_y S rfl rfl rfl (fun w M => y_nilCheck S rfl) ?_; clear S a; intro a S
 refine qt_y S rfl rfl rfl (fun w M => y_fieldAddr (k := 1) S (by kernel_rfl) rfl) ?_; clear S a; intro a S
 refine qt_y S rfl rfl rfl (fun w M => y_load S (by kernel_rfl) rfl (M.cell 0 rfl rfl)) ?_; clear S a; intro a S
 refine qt_y S rfl rfl rfl (fun w M => y_move S rfl) ?_; clear S a; intro a S
 refine qt_y S rfl rfl rfl (fun w M => y_nilCheck S rfl) ?_; clear S a; intro a S
 refine qt_y S rfl rfl rfl (fun w M => y_fieldAddr (k := 0) S (by kernel_rfl) rfl) ?_; clear S a; intro a S
 refine qt_y S rfl rfl rfl (fun w M => y_load S (by kernel_rfl) rfl (M.cell 0 rfl rfl)) ?_; clear S a; intro a S
 refine qt_y S rfl rfl rfl (fun w M => y_lenR (E := 5) S rfl (M.arg hb) (by kernel_rfl)) ?_; clear S a; intro a S
 refine qt_y S rfl rfl rfl (fun w M => y_int S rfl rfl rfl) ?_; clear S a; intro a S
 refine wpQuiet_nil ?_; clear M; intro w1 M
 refine then_normal (st_if (t := 13) S rfl ?_ ?_)
 ·clear S; intro h13 S
  refine st_condT S rfl (wp_seq ?_)
  have hno : ¬ s.at_ + 1 ≤ bs.length := by omega
  refine wp_region_lit (qG [1, 1, 3] S ?_); clear S a; intro a S
  refine qS (sz := 1) (us := [_]) S M 0 ?_; clear M; intro w2 M
  refine nxA (qG [1] S ?_); clear S a; intro a S
  refine nxC (wp_ret (then_ret (end_one S rfl (res_tmp rfl) ?_)))
  unfold tk; rw [if_neg hno]; exact ⟨rfl, M⟩
 clear S; intro h13 S
 refine st_condF S rfl (wp_skip (then_normal (wp_seq ?_)))
 have hin : s.at_ + 1 ≤ bs.length := by omega
 obtain ⟨b, hb0⟩ : ∃ b, bs[s.at_]? = some b := ⟨_, List.getElem?_eq_getElem (by omega)⟩
 have hbl := UInt8.toNat_lt b
 have htk : tk bs 1 s = ((b.toNat : Int), ⟨s.at_ + 1, s.bad⟩) := by
  unfold tk; rw [if_pos hin]
  obtain ⟨hlt, he⟩ := List.getElem?_eq_some_iff.1 hb0
  rw [List.drop_eq_getElem_cons hlt, he]
  simp [leN]
 refine wp_quiet M (by kernel_rfl) (by kernel_rfl) ?_
 refine qt_y S rfl rfl rfl (fun w M => y_move S rfl) ?_; clear S a; intro a S
 refine qt_y S rfl rfl rfl (fun w M => y_nilCheck S rfl) ?_; clear S a; intro a S
 refine qt_y S rfl rfl rfl (fun w M => y_fieldAddr (k := 0) S (by kernel_rfl) rfl) ?_; clear S a; intro a S
 refine qt_y S rfl rfl rfl (fun w M => y_load S (by kernel_rfl) rfl (M.cell 0 rfl rfl)) ?_; clear S a; intro a S
 refine qt_y S rfl rfl rfl (fun w M => y_move S rfl) ?_; clear S a; intro a S
 refine qt_y S rfl rfl rfl (fun w M => y_nilCheck S rfl) ?_; clear S a; intro a S
 refine qt_y S rfl rfl rfl (fun w M => y_fieldAddr (k := 1) S (by kernel_rfl) rfl) ?_; clear S a; intro a S
 refine qt_y S rfl rfl rfl (fun w M => y_load S (by kernel_rfl) rfl (M.cell 0 rfl rfl)) ?_; clear S a; intro a S
 refine qt_y S rfl rfl rfl (fun w M => y_indexR (e := 5) (sz := 1) S (by kernel_rfl) rfl (M.arg hb) rfl (by first | omega | (simp; done) | (simp; omega))) ?_; clear S a; intro a S
 try simp only [Int.toNat_natCast, Nat.mul_one, Nat.zero_add] at S
 refine qt_y S rfl rfl rfl (fun w M => y_load S (by kernel_rfl) rfl ((M.arg hb).byte hb0)) ?_; clear S a; intro a S
 (first | refine qt_y S rfl rfl rfl (fun w M => y_to64 S rfl (by kernel_rfl) (by kernel_rfl) (by omega)) ?_ | refine qt_y S rfl rfl rfl (fun w M => y_conv (k' := .i64) S rfl (by kernel_rfl) (by kernel_rfl)) ?_); clear S a; intro a S
 refine qt_y S rfl rfl rfl (fun w M => y_assign S rfl) ?_; clear S a; intro a S
 refine wpQuiet_nil ?_; clear M; intro w3 M
 replace S := S.keep [0, 2, 13, 3]
 refine nxE (qR [1, 1, 2, 1] S M ?_); clear S a; intro a S
 (first | refine qY S (y_addN S rfl rfl (by omega)) ?_ | refine qY S (y_int S rfl rfl rfl) ?_); clear S a; intro a S
 refine qG [1, 2] S ?_; clear S a; intro a S
 refine qS (sz := 1) (us := [_]) S M 0 ?_; clear M; intro w4 M
 refine nxA (qG [1, 1] S ?_); clear S a; intro a S
 refine nxC (wp_ret (end_one S rfl (res_tmp rfl) ?_))
 rw [htk]
 refine ⟨rfl, ?_⟩
 have e : ((s.at_ + 1 : Nat) : Int) = (s.at_ : Int) + 1 := by omega
 simp only [rdC, e]
 exact M
theorem threeR_any {wc w : World} {H : List Ent} {bf : Nat} {bv : Value} {s : Rs} {bs : List UInt8} (M : Mem wc w (.blk bf (rdC bv s) 95 :: H)) (hb : Bs 0 wc.heap.size wc bv bs) :
 Calls Tryz.prog 34 #[.pointer (some ⟨bf, 0, none⟩)] w fun e w' => e = .returned (.int .i64 (r3 bs s).1) ∧ Mem wc w' (.blk bf (rdC bv (r3 bs s).2) 95 :: H) := by
 have b1 := tk1_bd bs s
 have b2 := tk1_bd bs (tk bs 1 s).2
 have b3 := tk1_bd bs (tk bs 1 (tk bs 1 s).2).2
 refine calls_enter Tryz.func34 rfl 19 rfl rfl ?_; intro a S
 refine wp_seq ?_
 skip
 refine wp_region_lit (qG [1] S ?_); clear S a; intro a S
 refine nxA (qG [1] S ?_); clear S a; intro a S
 refine qC (xs := [.tmp 6]) S (qE Tryz.func33) rfl (byte_any M hb) ?_
 rintro _ w1 ⟨rfl, M1⟩; refine ⟨_, rfl, ?_⟩; clear S a; intro a S; replace M := M1
 refine qG [1] S ?_; clear S a; intro a S
 refine nxA (qG [1] S ?_); clear S a; intro a S
 refine qC (xs := [.tmp 8]) S (qE Tryz.func33) rfl (byte_any M hb) ?_
 rintro _ w2 ⟨rfl, M1⟩; refine ⟨_, rfl, ?_⟩; clear S a; intro a S; replace M := M1
 refine qG [1] S ?_; clear S a; intro a S
 refine nxA (qG [1] S ?_); clear S a; intro a S
 refine qC (xs := [.tmp 10]) S (qE Tryz.func33) rfl (byte_any M hb) ?_
 rintro _ w3 ⟨rfl, M1⟩; refine ⟨_, rfl, ?_⟩; clear S a; intro a S; replace M := M1
 refine qG [1] S ?_; clear S a; intro a S
 refine nxA (qG [1, 1] S ?_); clear S a; intro a S
 (first | refine qY S (y_shlN S rfl rfl (by omega) (by simp only [show ((8 : Int).toNat) = 8 from rfl, show ((16 : Int).toNat) = 16 from rfl]; omega)) ?_ | refine qY S (y_shl S rfl rfl (by omega)) ?_); clear S a; intro a S
 (first | refine qY S (y_addN S rfl rfl (by simp only [show ((8 : Int).toNat) = 8 from rfl, show ((16 : Int).toNat) = 16 from rfl]; omega)) ?_ | refine qY S (y_int S rfl rfl rfl) ?_); clear S a; intro a S
 refine qG [1] S ?_; clear S a; intro a S
 (first | refine qY S (y_shlN S rfl rfl (by omega) (by simp only [show ((8 : Int).toNat) = 8 from rfl, show ((16 : Int).toNat) = 16 from rfl]; omega)) ?_ | refine qY S (y_shl S rfl rfl (by omega)) ?_); clear S a; intro a S
 (first | refine qY S (y_addN S rfl rfl (by simp only [show ((8 : Int).toNat) = 8 from rfl, show ((16 : Int).toNat) = 16 from rfl]; omega)) ?_ | refine qY S (y_int S rfl rfl rfl) ?_); clear S a; intro a S
 refine qG [1] S ?_; clear S a; intro a S
 replace S := S.keep [0, 3, 4, 5, 2]
 refine nxC (wp_ret (end_one S rfl (res_tmp rfl) ?_))
 exact ⟨rfl, M⟩
theorem nameR_any {wc w : World} {H : List Ent} {bf : Nat} {bv : Value} {s : Rs} {bs : List UInt8} (M : Mem wc w (.blk bf (rdC bv s) 95 :: H)) (hb : Bs 0 wc.heap.size wc bv bs) :
 Calls Tryz.prog 35 #[.pointer (some ⟨bf, 0, none⟩)] w fun e w' => e = .returned (.agg (rNm bs s).1.cells) ∧ Mem wc w' (.blk bf (rdC bv (rNm bs s).2) 95 :: H) := by
 refine calls_enter Tryz.func35 rfl 16 rfl rfl ?_; intro a S
 refine wp_seq ?_
 skip
 refine wp_region_lit (st_alloc S M rfl rfl #[.int .i64 0, .int .i64 0, .int .i64 0] (by kernel_rfl) ?_); clear S M a; intro a w1 bN S M hB
 refine nxA (qG [1] S ?_); clear S a; intro a S
 replace M := M.front 1 rfl
 simp only [List.eraseIdx_cons_succ, List.eraseIdx_cons_zero] at M
 refine qC (xs := [.tmp 6]) S (qE Tryz.func34) rfl (threeR_any M hb) ?_
 rintro _ w2 ⟨rfl, M1⟩; refine ⟨_, rfl, ?_⟩; clear S a; intro a S; replace M := M1
 refine qG [1] S ?_; clear S a; intro a S
 refine nxA (qG [1] S ?_); clear S a; intro a S
 refine qC (xs := [.tmp 8]) S (qE Tryz.func34) rfl (threeR_any M hb) ?_
 rintro _ w3 ⟨rfl, M1⟩; refine ⟨_, rfl, ?_⟩; clear S a; intro a S; replace M := M1
 refine qG [1] S ?_; clear S a; intro a S
 refine nxA (qG [1] S ?_); clear S a; intro a S
 refine qC (xs := [.tmp 10]) S (qE Tryz.func34) rfl (threeR_any M hb) ?_
 rintro _ w4 ⟨rfl, M1⟩; refine ⟨_, rfl, ?_⟩; clear S a; intro a S; replace M := M1
 refine qG [1] S ?_; clear S a; intro a S
 refine nxA (qG [1, 1, 1] S ?_); clear S a; intro a S
 refine qY S (y_build (ps := [(0, .tmp 12), (1, .tmp 13), (2, .tmp 14)]) (pl := [(0, 1), (1, 1), (2, 1)]) (z := [.int .i64 0, .int .i64 0, .int .i64 0]) (cs := [_, _, _]) S (by kernel_rfl) rfl (rfl)) ?_; clear S a; intro a S
 refine qS (sz := 3) (us := [_, _, _]) S M 1 ?_; clear M; intro w5 M
 refine nxC (wp_ret (end_one S rfl (res_agg (cs := [_, _, _]) (by kernel_rfl) rfl rfl (M.cellsAt (k := 3) 1 rfl rfl)) ?_))
 exact ⟨rfl, M.drop 1⟩
theorem valueR_any {wc w : World} {H : List Ent} {bf : Nat} {bv : Value} {s : Rs} {bs : List UInt8} (M : Mem wc w (.blk bf (rdC bv s) 95 :: H)) (hb : Bs 0 wc.heap.size wc bv bs) :
 Calls Tryz.prog 77 #[.pointer (some ⟨bf, 0, none⟩)] w fun e w' => e = .returned (.agg (v8 (rdBs bs 8 s).1).cellsL.toArray) ∧ Mem wc w' (.blk bf (rdC bv (rdBs bs 8 s).2) 95 :: H) := by
 refine calls_enter Tryz.func77 rfl 15 rfl rfl ?_; intro a S
 refine wp_seq ?_
 skip
 refine wp_region_lit (st_alloc S M rfl rfl #[.int .u8 0, .int .u8 0, .int .u8 0, .int .u8 0, .int .u8 0, .int .u8 0, .int .u8 0, .int .u8 0] (by kernel_rfl) ?_); clear S M a; intro a w1 bO S M hB
 refine nxA (st_alloc S M rfl rfl #[.int .u8 0, .int .u8 0, .int .u8 0, .int .u8 0, .int .u8 0, .int .u8 0, .int .u8 0, .int .u8 0] (by kernel_rfl) ?_); clear S M a; intro a w2 bV S M hB
 refine nxC (wp_seq (nxD (qG [1] S ?_))); clear S a; intro a S
 refine nxC (wp_block (wp_loop_g (fun m a w' => ∃ (j : Nat), j ≤ 8 ∧ m = 8 - j ∧ Sees 15 a [(0, .pointer (some ⟨bf, 0, none⟩)), (2, .pointer (some ⟨bO, 0, none⟩)), (3, .pointer (some ⟨bV, 0, none⟩)), (4, .int .i64 (j : Int))] ∧ Mem wc w' (.blk bf (rdC bv (rdBs bs j s).2) 95 :: .blk bV (bcells (padB (rdBs bs j s).1)).toArray 35 :: .blk bO #[.int .u8 0, .int .u8 0, .int .u8 0, .int .u8 0, .int .u8 0, .int .u8 0, .int .u8 0, .int .u8 0] 35 :: H)) (8) ?_ ?_))
 ·skip
  replace M := M.front 2 rfl
  simp only [List.eraseIdx_cons_succ, List.eraseIdx_cons_zero] at M
  exact ⟨0, by omega, rfl, S.sub _ rfl, M⟩
 clear S M a; intro m a wl
 rintro ⟨j, hj, rfl, S, M⟩
 refine wp_seq (nxD (qG [1, 1] S ?_)); clear S a; intro a S
 refine nxC (st_fi (t := 6) S rfl ?_ ?_)
 ·clear S; intro h6 S
  refine st_condF S rfl (wp_exit (then_exit (then_exit (block_hit (then_normal (wp_seq ?_))))))
  obtain rfl : j = 8 := by omega
  rw [padB_full (rdBs_len bs 8 s)] at M
  refine wp_region_lit (qY S (y_loadAgg (cs := [_, _, _, _, _, _, _, _]) S (by kernel_rfl) rfl rfl (M.cellsAt (k := 8) 1 rfl rfl)) ?_); clear S a; intro a S
  refine qS (sz := 8) (us := [_, _, _, _, _, _, _, _]) S M 2 ?_; clear M; intro w5 M
  refine nxC (wp_ret (end_one S rfl (res_agg (cs := [_, _, _, _, _, _, _, _]) (by kernel_rfl) rfl rfl (M.cellsAt (k := 8) 2 rfl rfl)) ?_))
  exact ⟨rfl, (M.drop 1).drop 1⟩
 clear S; intro h6 S
 refine st_condT S rfl (wp_skip (then_normal (wp_seq (wp_block ?_))))
 have hjl := rdBs_len bs j s
 refine wp_region_lit (qG [1, 1] S ?_); clear S a; intro a S
 refine qC (xs := [.tmp 10]) S (qE Tryz.func33) rfl (byte_any M hb) ?_
 rintro _ w3 ⟨rfl, M1⟩; refine ⟨_, rfl, ?_⟩; clear S a; intro a S; replace M := M1
 refine qY S (y_to8 S rfl (by kernel_rfl) (by kernel_rfl)) ?_; clear S a; intro a S
 refine qY S (y_indexA (m := 8) (sz := 1) S (by kernel_rfl) rfl rfl (by first | omega | (simp; done) | (simp; omega))) ?_; clear S a; intro a S
 try simp only [Int.toNat_natCast, Nat.mul_one, Nat.zero_add] at S
 refine st_store (sz := 1) (us := [_]) S M 1 rfl (by kernel_rfl) rfl rfl rfl rfl rfl rfl (by simp [padB, bcells, hjl]; omega) ?_; clear M; intro w4 M
 simp only [List.set_cons_zero, List.set_cons_succ] at M
 refine wpList_nil (block_normal (nxF (qG [1] S ?_))); clear S a; intro a S
 (first | refine qY S (y_addN S rfl rfl (by omega)) ?_ | refine qY S (y_int S rfl rfl rfl) ?_); clear S a; intro a S
 refine qG [1] S ?_; clear S a; intro a S
 refine nxC ?_
 refine ⟨8 - (j + 1), by omega, j + 1, by omega, rfl, S.sub _ rfl, ?_⟩
 rw [rdBs_snoc]
 have e := padB_set0 (l := (rdBs bs j s).1) (byteOf (tk bs 1 (rdBs bs j s).2).1) (by omega)
 rw [hjl] at e
 rw [← e]
 exact M
theorem writesR_any {wc w : World} {H : List Ent} {bf : Nat} {bv : Value} {s : Rs} {bs : List UInt8} (M : Mem wc w (.blk bf (rdC bv s) 95 :: H)) (hb : Bs 0 wc.heap.size wc bv bs) :
 Calls Tryz.prog 36 #[.pointer (some ⟨bf, 0, none⟩)] w fun e w' => ∃ v' lo hi, e = .returned v' ∧ Mem wc w' (rowE lo hi 66 9 v' (rWs bs s).1.length (wcells (rWs bs s).1) :: .blk bf (rdC bv (rWs bs s).2) 95 :: H) := by
 obtain ⟨t1, ht1⟩ : ∃ t1, tk bs 1 s = t1 := ⟨_, rfl⟩
 have hn := tk1_bd bs s
 rw [ht1] at hn
 obtain ⟨n, hn'⟩ := Int.eq_ofNat_of_zero_le hn.1
 have hn8 : n ≤ 255 := by omega
 have hrd : rWs bs s = rLoop bs n t1.2 := by unfold rWs; rw [ht1, hn', Int.toNat_natCast]
 rw [hrd]
 refine calls_enter Tryz.func36 rfl 33 rfl rfl ?_; intro a S
 refine wp_seq ?_
 skip
 refine wp_region_lit (qG [1] S ?_); clear S a; intro a S
 refine nxA (qG [1] S ?_); clear S a; intro a S
 refine qC (xs := [.tmp 8]) S (qE Tryz.func33) rfl (byte_any M hb) ?_
 rintro _ w1 ⟨rfl, M1⟩; refine ⟨_, rfl, ?_⟩; clear S a; intro a S; replace M := M1; rw [ht1] at S M; rw [hn'] at S
 refine qG [1] S ?_; clear S a; intro a S
 refine nxA (qG [1] S ?_); clear S a; intro a S
 refine nxC (wp_seq (nxD (qG [1] S ?_))); clear S a; intro a S
 refine nxC (wp_block (wp_loop_g (fun m a w' => ∃ (k : Nat) (v : Value) (lo hi : Nat), k ≤ n ∧ m = n - k ∧ Sees 33 a [(0, .pointer (some ⟨bf, 0, none⟩)), (3, .int .i64 (n : Int)), (4, v), (5, .int .i64 (k : Int))] ∧ Mem wc w' (.blk bf (rdC bv (rdWrs bs k t1.2).2) 95 :: rowE lo hi 66 9 v (rdWrs bs k t1.2).1.length (wcells (rdWrs bs k t1.2).1) :: H) ∧ rLoop bs n t1.2 = ((rdWrs bs k t1.2).1 ++ (rLoop bs (n - k) (rdWrs bs k t1.2).2).1, (rLoop bs (n - k) (rdWrs bs k t1.2).2).2)) (n) ?_ ?_))
 ·skip
  exact ⟨0, _, _, _, Nat.zero_le _, rfl, S.sub _ rfl, (M.rowNil 66 9).front 1 rfl, rfl⟩
 clear S M a; intro m a wl
 rintro ⟨k, v, lo, hi, hk, rfl, S, M, hlp⟩
 obtain ⟨s1, hs1⟩ : ∃ s1, (rdWrs bs k t1.2).2 = s1 := ⟨_, rfl⟩
 obtain ⟨xs, hxs⟩ : ∃ xs, (rdWrs bs k t1.2).1 = xs := ⟨_, rfl⟩
 have hxl : xs.length = k := by rw [← hxs, rdWrs_len]
 rw [hs1, hxs] at M hlp
 refine wp_seq (nxD (qG [1, 1, 1, 1] S ?_)); clear S a; intro a S
 refine st_fi (t := 13) S rfl ?_ ?_
 ·clear S; intro h13 S
  refine qG [0, 0, 0, 0, 0, 1] S ?_; clear S a; intro a S
  refine nxC (st_condF S rfl (wp_exit (then_exit (then_exit (block_hit (nxE (qG [1, 1] S ?_))))))); clear S a; intro a S
  refine nxC (wp_ret (end_one S rfl (res_tmp rfl) ?_))
  have hst : rLoop bs (n - k) s1 = ([], s1) := by
   first
    | (rw [show n - k = 0 by omega]; rfl)
    | (exact rLoop_stop (by simpa using h19))
  rw [hlp, hst, List.append_nil]
  exact ⟨_, _, _, rfl, M.front 1 rfl⟩
 clear S; intro h13 S
 refine qR [1, 1, 3, 1, 1, 1] S M ?_; clear S a; intro a S
 refine nxC (st_tils (t := 19) S rfl ?_ ?_)
 ·clear S; intro h19 S
  refine st_condF S rfl (wp_exit (then_exit (then_exit (block_hit (nxE (qG [1, 1] S ?_)))))); clear S a; intro a S
  refine nxC (wp_ret (end_one S rfl (res_tmp rfl) ?_))
  have hst : rLoop bs (n - k) s1 = ([], s1) := by
   first
    | (rw [show n - k = 0 by omega]; rfl)
    | (exact rLoop_stop (by simpa using h19))
  rw [hlp, hst, List.append_nil]
  exact ⟨_, _, _, rfl, M.front 1 rfl⟩
 clear S; intro h19 S
 refine st_condT S rfl (wp_skip (then_normal (wp_seq (wp_block (nxD (qG [1] S ?_)))))); clear S a; intro a S
 refine qC (xs := [.tmp 22]) S (qE Tryz.func33) rfl (byte_any M hb) ?_
 rintro _ w2 ⟨rfl, M1⟩; refine ⟨_, rfl, ?_⟩; clear S a; intro a S; replace M := M1
 refine qG [1] S ?_; clear S a; intro a S
 refine nxA (qG [1] S ?_); clear S a; intro a S
 refine qC (xs := [.tmp 24]) S (qE Tryz.func77) rfl (valueR_any M hb) ?_
 rintro _ w3 ⟨rfl, M1⟩; refine ⟨_, rfl, ?_⟩; clear S a; intro a S; replace M := M1
 refine st_alloc S M rfl rfl #[.int .u8 0, .int .u8 0, .int .u8 0, .int .u8 0, .int .u8 0, .int .u8 0, .int .u8 0, .int .u8 0] (by kernel_rfl) ?_; clear S M a; intro a w4 bV S M hB
 refine qS (sz := 8) (us := [_, _, _, _, _, _, _, _]) S M 0 ?_; clear M; intro w5 M
 refine nxC ?_
 have hs2 : (rdBs bs 8 (tk bs 1 s1).2).2 = (rdWr bs s1).2 := rfl
 rw [hs2] at M
 refine wp_region_lit (qG [1, 1] S ?_); clear S a; intro a S
 refine qY S (y_loadAgg (cs := [_, _, _, _, _, _, _, _]) S (by kernel_rfl) rfl rfl (M.cellsAt (k := 8) 0 rfl rfl)) ?_; clear S a; intro a S
 refine qY S (y_build (ps := [(0, .tmp 27), (1, .tmp 28)]) (pl := [(0, 1), (1, 8)]) (z := [.int .i64 0, .int .u8 0, .int .u8 0, .int .u8 0, .int .u8 0, .int .u8 0, .int .u8 0, .int .u8 0, .int .u8 0]) (cs := [_, _, _, _, _, _, _, _, _]) S (by kernel_rfl) rfl (rfl)) ?_; clear S a; intro a S
 refine st_lit (ps := [(0, .tmp 29)]) (e := 66) (sz := 9) (zl := [.int .i64 0, .int .u8 0, .int .u8 0, .int .u8 0, .int .u8 0, .int .u8 0, .int .u8 0, .int .u8 0, .int .u8 0]) (cs := [_, _, _, _, _, _, _, _, _]) S M rfl rfl (by kernel_rfl) rfl (rfl) ?_; clear S M a; intro a w6 bZ S M hB
 refine st_append (e := 66) (sz := 9) (by_ := 16) (zc := [.int .i64 0, .int .u8 0, .int .u8 0, .int .u8 0, .int .u8 0, .int .u8 0, .int .u8 0, .int .u8 0, .int .u8 0]) S M 3 rfl rfl (by kernel_rfl) rfl (by decide) rfl rfl rfl (show Rd _ _ _ 9 _ 1 (wcells [⟨(tk bs 1 s1).1, v8 (rdBs bs 8 (tk bs 1 s1).2).1⟩]) from M.sliceAt 0 rfl (M.cellsAt (k := 9) 0 rfl rfl) rfl (Nat.le_refl _) (by unfold maxLen; omega)) (allOne_wcells _) (by omega) (by unfold maxLen; omega) ?_; clear S M a; intro a w7 vA loA hiA S M
 refine qG [1] S ?_; clear S a; intro a S
 replace S := S.keep [0, 3, 5, 19, 6, 7, 4]
 refine wpList_nil (block_normal (nxF (qG [1] S ?_))); clear S a; intro a S
 (first | refine qY S (y_addN S rfl rfl (by omega)) ?_ | refine qY S (y_int S rfl rfl rfl) ?_); clear S a; intro a S
 refine qG [1] S ?_; clear S a; intro a S
 refine nxC ?_
 replace M := M.front 3 rfl
 simp only [List.eraseIdx_cons_succ, List.eraseIdx_cons_zero] at M
 refine ⟨n - (k + 1), by omega, k + 1, vA, loA, hiA, by omega, rfl, S.sub _ rfl, ?_, ?_⟩
 ·rw [rdWrs_snoc, hs1, hxs, wcells_append, List.length_append]
  exact (M.drop 2).drop 2
 ·rw [hlp, rdWrs_snoc, hs1, hxs, show n - k = (n - (k + 1)) + 1 by omega, rLoop_step (by simpa using h19)]
  simp
theorem flagR_any {wc w : World} {H : List Ent} {bf : Nat} {bv : Value} {s : Rs} {bs : List UInt8} (M : Mem wc w (.blk bf (rdC bv s) 95 :: H)) (hb : Bs 0 wc.heap.size wc bv bs) :
 Calls Tryz.prog 37 #[.pointer (some ⟨bf, 0, none⟩)] w fun e w' => e = .returned (.bool (rFl bs s).1) ∧ Mem wc w' (.blk bf (rdC bv (rFl bs s).2) 95 :: H) := by
 refine calls_enter Tryz.func37 rfl 19 rfl rfl ?_; intro a S
 refine wp_seq ?_
 skip
 refine wp_region_lit (qG [1] S ?_); clear S a; intro a S
 refine nxA (qG [1] S ?_); clear S a; intro a S
 refine qC (xs := [.tmp 4]) S (qE Tryz.func33) rfl (byte_any M hb) ?_
 rintro _ w1 ⟨rfl, M1⟩; refine ⟨_, rfl, ?_⟩; clear S a; intro a S; replace M := M1
 refine qG [1] S ?_; clear S a; intro a S
 refine nxA (qR [1, 1, 1, 3, 1, 1] S M ?_); clear S a; intro a S
 refine st_split (t := 11) S rfl ?_ ?_
 ·clear S; intro h11 S
  refine qG [0, 0, 1, 1, 3] S ?_; clear S a; intro a S
  refine qS (sz := 1) (us := [_]) S M 0 ?_; clear M; intro w2 M
  refine nxA (qG [1, 1, 1] S ?_); clear S a; intro a S
  replace S := S.keep [0, 3, 2]
  refine nxC (wp_ret (end_one S rfl (res_tmp rfl) ?_))
  refine ⟨rfl, ?_⟩
  unfold rFl
  simp only [h11, Bool.true_or, Bool.false_or]
  exact M
 clear S; intro h11 S
 refine qG [1, 1, 1, 1, 3] S ?_; clear S a; intro a S
 refine qS (sz := 1) (us := [_]) S M 0 ?_; clear M; intro w3 M
 refine nxA (qG [1, 1, 1] S ?_); clear S a; intro a S
 replace S := S.keep [0, 3, 2]
 refine nxC (wp_ret (end_one S rfl (res_tmp rfl) ?_))
 refine ⟨rfl, ?_⟩
 unfold rFl
 simp only [h11, Bool.true_or, Bool.false_or]
 exact M
theorem rBody_shards (bs : List UInt8) (k : Int) (s : Rs) : (rBody bs k s).1.shards ≤ 255 := by
 unfold rBody
 split
 ·simp [Rc.zero]
 split
 ·simp [Rc.zero]
 split
 ·simp [Rc.zero]
 split
 ·simp [Rc.zero]
 split
 ·exact (tk1_bd bs _).2
 ·simp [Rc.zero]
theorem rBody_len (bs : List UInt8) (k : Int) (s : Rs) : (rBody bs k s).2.1.length ≤ 255 := by
 unfold rBody
 split
 ·simp
 split
 ·exact rWs_len bs _
 split
 ·exact rWs_len bs _
 (repeat' split) <;> simp
def CutP (bs : List UInt8) (kk : Int) (s : Rs) (w : World) (bO bR bC : Nat) (v : Value) (w' : World) : Prop :=
 ∃ v' lo hi, Mem w w' [rowE lo hi 66 9 v' (rBody bs kk s).2.1.length (wcells (rBody bs kk s).2.1), .blk bR (rdC v (rBody bs kk s).2.2) 95, .blk bC ((rBody bs kk s).1.cells v') 54, .blk bO (Rc.zero.cells (.slice none 0 0)) 54]
theorem rRead_any (v : Value) (bs : List UInt8) (w : World) (hv : Bs 0 w.heap.size w v bs) : Calls Tryz.prog 10 #[v] w (ReadRP bs w) := by
 obtain ⟨va, vc, rfl, -, -⟩ := hv.form
 have M := Mem.start w
 obtain ⟨t0, ht0⟩ : ∃ t0, tk bs 1 ⟨0, false⟩ = t0 := ⟨_, rfl⟩
 have hbd := tk1_bd bs ⟨0, false⟩
 rw [ht0] at hbd
 have hE : bs.length = 0 → t0 = (0, ⟨0, true⟩) := fun h => by rw [← ht0]; unfold tk; rw [if_neg (by simp only; omega)]
 have hBb : ∀ b, bs[0]? = some b → t0 = ((b.toNat : Int), ⟨1, false⟩) := fun b hb => by
  rw [← ht0]; unfold tk
  rw [if_pos (by have := (List.getElem?_eq_some_iff.1 hb).1; simp only; omega)]
  match bs, hb with
  | c :: r, h => obtain rfl : c = b := by simpa using h
                 simp [leN]
 obtain ⟨kk, hkk⟩ : ∃ kk : Int, t0.1 % 128 = kk := ⟨_, rfl⟩
 have hgo : ∀ (r : Rc) (x : List Wr), r.may x = true → r.enc x = bs → rBody bs kk t0.2 = (r, x, ⟨bs.length, false⟩) := fun r x hm he => by
  have hk := kinds hm
  have hb : bs[0]? = some (byteOf r.kind) := by rw [← he, enc_head]; rfl
  have e := byteOf_toNat r.kind
  have h1 := hBb _ hb
  have : kk = r.kind := by rw [← hkk, h1]; simp only; omega
  rw [this, h1]
  exact ref_no hm he
 refine calls_enter Tryz.func10 rfl 95 rfl rfl ?_; intro a S
 refine nxD (st_alloc S M rfl rfl #[.int .i8 0, .int .i64 0, .int .i64 0, .int .i64 0, .bool false, .slice none 0 0, .int .i64 0, .int .i64 0, .int .i64 0, .int .i64 0, .int .i64 0, .int .i64 0] (by kernel_rfl) ?_); clear S M a; intro a w1 bO S M hB
 refine qG [1] S ?_; clear S a; intro a S
 refine nxA (qG [1] S ?_); clear S a; intro a S
 refine qY S (y_build (ps := [(0, .tmp 6)]) (pl := [(0, 1), (1, 1), (2, 1)]) (z := [.slice none 0 0, .int .i64 0, .bool false]) (cs := [_, _, _]) S (by kernel_rfl) rfl (rfl)) ?_; clear S a; intro a S
 refine st_box S M rfl rfl rfl #[_, _, _] rfl ?_; clear S M a; intro a w2 bR S M hB
 refine qG [1] S ?_; clear S a; intro a S
 refine nxA (qG [1] S ?_); clear S a; intro a S
 refine qC (xs := [.tmp 9]) S (qE Tryz.func33) rfl (byte_any (s := ⟨0, false⟩) M hv) ?_
 rintro _ w3 ⟨rfl, M1⟩; refine ⟨_, rfl, ?_⟩; clear S a; intro a S; replace M := M1; rw [ht0] at S M
 refine qY S (y_int S rfl rfl rfl) ?_; clear S a; intro a S
 refine qY S (y_conv (k' := .i8) S rfl (by kernel_rfl) (by kernel_rfl)) ?_; clear S a; intro a S
 rw [and127 hbd, hkk] at S
 refine qY S (y_build (ps := [(0, .tmp 12)]) (pl := [(0, 1), (1, 3), (4, 1), (5, 1), (6, 1), (7, 1), (8, 1), (9, 2), (11, 1)]) (z := [.int .i8 0, .int .i64 0, .int .i64 0, .int .i64 0, .bool false, .slice none 0 0, .int .i64 0, .int .i64 0, .int .i64 0, .int .i64 0, .int .i64 0, .int .i64 0]) (cs := [_, _, _, _, _, _, _, _, _, _, _, _]) S (by kernel_rfl) rfl (rfl)) ?_; clear S a; intro a S
 refine st_alloc S M rfl rfl #[.int .i8 0, .int .i64 0, .int .i64 0, .int .i64 0, .bool false, .slice none 0 0, .int .i64 0, .int .i64 0, .int .i64 0, .int .i64 0, .int .i64 0, .int .i64 0] (by kernel_rfl) ?_; clear S M a; intro a w4 bC S M hB
 refine qS (sz := 12) (us := [_, _, _, _, _, _, _, _, _, _, _, _]) S M 0 ?_; clear M; intro w5 M
 refine nxC (wp_seq (nxD (qG [1] S ?_))); clear S a; intro a S
 refine qY S (y_lenR (E := 5) S rfl (M.arg hv) (by kernel_rfl)) ?_; clear S a; intro a S
 refine qG [1, 1] S ?_; clear S a; intro a S
 refine st_fi (t := 17) S rfl ?_ ?_
 ·clear S; intro h17 S
  refine st_no S rfl rfl rfl ?_; clear S a; intro a S
  refine qG [0, 0, 0, 1] S ?_; clear S a; intro a S
  replace S := S.keep [0, 2, 3, 4, 5, 22]
  refine nxC (st_condF S rfl (wp_skip (then_normal (wp_cut (fun a w' => Sees 95 a [(0, .slice va bs.length vc), (2, .pointer (some ⟨bO, 0, none⟩)), (4, .pointer (some ⟨bR, 0, none⟩)), (5, .pointer (some ⟨bC, 0, none⟩))] ∧ (∀ b, bs[0]? = some b → b.toNat ≤ 127) ∧ CutP bs kk t0.2 w bO bR bC (.slice va bs.length vc) w') ?_ ?_))))
  ·skip
   refine wp_seq ?_
   have h127 : ∀ b, bs[0]? = some b → b.toNat ≤ 127 := fun b hb => by
    first
     | (rw [hb0] at hb; cases hb; omega)
     | (have := (List.getElem?_eq_some_iff.1 hb).1; omega)
   refine wp_region_lit (qR [1, 1, 1, 1] S M ?_); clear S a; intro a S
   refine st_if (t := 27) S rfl ?_ ?_
   ·clear S; intro h27 S
    refine qG [0, 0, 0, 1] S ?_; clear S a; intro a S
    refine nxC (st_condT S rfl (wp_region_lit (qG [1] S ?_))); clear S a; intro a S
    replace M := M.front 1 rfl
    simp only [List.eraseIdx_cons_succ, List.eraseIdx_cons_zero] at M
    refine qC (xs := [.tmp 32]) S (qE Tryz.func34) rfl (threeR_any M hv) ?_
    rintro _ w34 ⟨rfl, M1⟩; refine ⟨_, rfl, ?_⟩; clear S a; intro a S; replace M := M1
    refine qG [12] S ?_; clear S a; intro a S
    refine qS (sz := 1) (us := [_]) S M 1 ?_; clear M; intro w35 M
    refine nxC ?_
    refine ⟨S.sub _ rfl, h127, ?_⟩
    unfold CutP rBody
    first
     | (rw [if_pos (by omega)]; exact ⟨_, _, _, M.rowNil _ _⟩)
     | (rw [if_neg (by omega), if_pos (by assumption)]; exact ⟨_, _, _, M⟩)
     | (rw [if_neg (by omega), if_neg (by omega), if_pos (by assumption)]; exact ⟨_, _, _, M.front 1 rfl⟩)
     | (rw [if_neg (by omega), if_neg (by omega), if_neg (by omega), if_pos (by assumption)]; exact ⟨_, _, _, M.rowNil _ _⟩)
     | (rw [if_neg (by omega), if_neg (by omega), if_neg (by omega), if_neg (by omega), if_pos (by assumption)]; exact ⟨_, _, _, M.rowNil _ _⟩)
     | (rw [if_neg (by omega), if_neg (by omega), if_neg (by omega), if_neg (by omega), if_neg (by omega)]; exact ⟨_, _, _, M.rowNil _ _⟩)
   clear S; intro h27 S
   refine qR [1, 1, 1, 1] S M ?_; clear S a; intro a S
   refine nxC (st_if (t := 31) S rfl ?_ ?_)
   ·clear S; intro h31 S
    refine st_condT S rfl (wp_region_lit (qG [1] S ?_)); clear S a; intro a S
    replace M := M.front 1 rfl
    simp only [List.eraseIdx_cons_succ, List.eraseIdx_cons_zero] at M
    refine qC (xs := [.tmp 32]) S (qE Tryz.func34) rfl (threeR_any M hv) ?_
    rintro _ w36 ⟨rfl, M1⟩; refine ⟨_, rfl, ?_⟩; clear S a; intro a S; replace M := M1
    refine qG [12] S ?_; clear S a; intro a S
    refine qS (sz := 1) (us := [_]) S M 1 ?_; clear M; intro w37 M
    refine nxC ?_
    refine ⟨S.sub _ rfl, h127, ?_⟩
    unfold CutP rBody
    first
     | (rw [if_pos (by omega)]; exact ⟨_, _, _, M.rowNil _ _⟩)
     | (rw [if_neg (by omega), if_pos (by assumption)]; exact ⟨_, _, _, M⟩)
     | (rw [if_neg (by omega), if_neg (by omega), if_pos (by assumption)]; exact ⟨_, _, _, M.front 1 rfl⟩)
     | (rw [if_neg (by omega), if_neg (by omega), if_neg (by omega), if_pos (by assumption)]; exact ⟨_, _, _, M.rowNil _ _⟩)
     | (rw [if_neg (by omega), if_neg (by omega), if_neg (by omega), if_neg (by omega), if_pos (by assumption)]; exact ⟨_, _, _, M.rowNil _ _⟩)
     | (rw [if_neg (by omega), if_neg (by omega), if_neg (by omega), if_neg (by omega), if_neg (by omega)]; exact ⟨_, _, _, M.rowNil _ _⟩)
   clear S; intro h31 S
   refine st_condF S rfl (nxD (qG [1] S ?_)); clear S a; intro a S
   replace M := M.front 1 rfl
   simp only [List.eraseIdx_cons_succ, List.eraseIdx_cons_zero] at M
   refine qC (xs := [.tmp 35]) S (qE Tryz.func35) rfl (nameR_any M hv) ?_
   rintro _ w38 ⟨rfl, M1⟩; refine ⟨_, rfl, ?_⟩; clear S a; intro a S; replace M := M1
   refine qG [2] S ?_; clear S a; intro a S
   refine qS (sz := 3) (us := [_, _, _]) S M 1 ?_; clear M; intro w39 M
   refine nxA (qR [1, 2] S M ?_); clear S a; intro a S
   refine nxC (wp_block (nxD (qG [1, 1] S ?_))); clear S a; intro a S
   refine nxC (st_if (t := 40) S rfl ?_ ?_)
   ·clear S; intro h40 S
    refine st_condT S rfl (wp_region_lit (qG [1] S ?_)); clear S a; intro a S
    refine qC (xs := [.tmp 42]) S (qE Tryz.func36) rfl (writesR_any M hv) ?_
    rintro _ w40 ⟨v1, lo1, hi1, rfl, M1⟩; refine ⟨_, rfl, ?_⟩; clear S a; intro a S; replace M := M1
    obtain ⟨ad, cp, hE', -, -⟩ := (M.readRow 0 rfl (by have := rWs_len bs (rNm bs t0.2).2; unfold maxLen; omega)).form
    subst hE'
    refine qG [6] S ?_; clear S a; intro a S
    refine qS (sz := 1) (us := [_]) S M 2 ?_; clear M; intro w41 M
    replace S := S.keep [0, 2, 3, 4, 5, 22, 31, 39, 40]
    refine wpList_nil (block_normal (then_normal ?_))
    refine ⟨S.sub _ rfl, h127, ?_⟩
    unfold CutP rBody
    first
     | (rw [if_pos (by omega)]; exact ⟨_, _, _, M.rowNil _ _⟩)
     | (rw [if_neg (by omega), if_pos (by assumption)]; exact ⟨_, _, _, M⟩)
     | (rw [if_neg (by omega), if_neg (by omega), if_pos (by assumption)]; exact ⟨_, _, _, M.front 1 rfl⟩)
     | (rw [if_neg (by omega), if_neg (by omega), if_neg (by omega), if_pos (by assumption)]; exact ⟨_, _, _, M.rowNil _ _⟩)
     | (rw [if_neg (by omega), if_neg (by omega), if_neg (by omega), if_neg (by omega), if_pos (by assumption)]; exact ⟨_, _, _, M.rowNil _ _⟩)
     | (rw [if_neg (by omega), if_neg (by omega), if_neg (by omega), if_neg (by omega), if_neg (by omega)]; exact ⟨_, _, _, M.rowNil _ _⟩)
   clear S; intro h40 S
   refine st_condF S rfl (nxD (qG [1, 1] S ?_)); clear S a; intro a S
   refine nxC (st_if (t := 45) S rfl ?_ ?_)
   ·clear S; intro h45 S
    refine st_condT S rfl (nxD (qG [1] S ?_)); clear S a; intro a S
    refine qC (xs := [.tmp 47]) S (qE Tryz.func36) rfl (writesR_any M hv) ?_
    rintro _ w42 ⟨v1, lo1, hi1, rfl, M1⟩; refine ⟨_, rfl, ?_⟩; clear S a; intro a S; replace M := M1
    obtain ⟨ad, cp, hE', -, -⟩ := (M.readRow 0 rfl (by have := rWs_len bs (rNm bs t0.2).2; unfold maxLen; omega)).form
    subst hE'
    refine qG [6] S ?_; clear S a; intro a S
    refine qS (sz := 1) (us := [_]) S M 2 ?_; clear M; intro w43 M
    replace S := S.keep [0, 2, 3, 4, 5, 22, 31, 39, 40, 45]
    refine nxA ?_
    replace M := M.front 1 rfl
    simp only [List.eraseIdx_cons_succ, List.eraseIdx_cons_zero] at M
    refine qY S (y_move S rfl) ?_; clear S a; intro a S
    refine qC (xs := [.tmp 50]) S (qE Tryz.func33) rfl (byte_any M hv) ?_
    rintro _ w44 ⟨rfl, M1⟩; refine ⟨_, rfl, ?_⟩; clear S a; intro a S; replace M := M1
    refine qG [7] S ?_; clear S a; intro a S
    refine qS (sz := 1) (us := [_]) S M 2 ?_; clear M; intro w45 M
    refine nxB (qG [1] S ?_); clear S a; intro a S
    refine qC (xs := [.tmp 53]) S (qE Tryz.func33) rfl (byte_any M hv) ?_
    rintro _ w46 ⟨rfl, M1⟩; refine ⟨_, rfl, ?_⟩; clear S a; intro a S; replace M := M1
    refine qG [8] S ?_; clear S a; intro a S
    refine qS (sz := 1) (us := [_]) S M 2 ?_; clear M; intro w47 M
    refine wpList_nil (block_normal (then_normal ?_))
    refine ⟨S.sub _ rfl, h127, ?_⟩
    unfold CutP rBody
    first
     | (rw [if_pos (by omega)]; exact ⟨_, _, _, M.rowNil _ _⟩)
     | (rw [if_neg (by omega), if_pos (by assumption)]; exact ⟨_, _, _, M⟩)
     | (rw [if_neg (by omega), if_neg (by omega), if_pos (by assumption)]; exact ⟨_, _, _, M.front 1 rfl⟩)
     | (rw [if_neg (by omega), if_neg (by omega), if_neg (by omega), if_pos (by assumption)]; exact ⟨_, _, _, M.rowNil _ _⟩)
     | (rw [if_neg (by omega), if_neg (by omega), if_neg (by omega), if_neg (by omega), if_pos (by assumption)]; exact ⟨_, _, _, M.rowNil _ _⟩)
     | (rw [if_neg (by omega), if_neg (by omega), if_neg (by omega), if_neg (by omega), if_neg (by omega)]; exact ⟨_, _, _, M.rowNil _ _⟩)
   clear S; intro h45 S
   refine st_condF S rfl (nxD (qG [1, 1] S ?_)); clear S a; intro a S
   replace S := S.keep [0, 2, 3, 4, 5, 22, 31, 39, 40, 45, 56]
   refine nxC (st_if (t := 56) S rfl ?_ ?_)
   ·clear S; intro h56 S
    refine st_condT S rfl (wp_region_lit (qG [1] S ?_)); clear S a; intro a S
    refine qC (xs := [.tmp 58]) S (qE Tryz.func37) rfl (flagR_any M hv) ?_
    rintro _ w48 ⟨rfl, M1⟩; refine ⟨_, rfl, ?_⟩; clear S a; intro a S; replace M := M1
    refine qG [5] S ?_; clear S a; intro a S
    refine qS (sz := 1) (us := [_]) S M 1 ?_; clear M; intro w49 M
    refine wpList_nil (block_normal (then_normal ?_))
    refine ⟨S.sub _ rfl, h127, ?_⟩
    unfold CutP rBody
    first
     | (rw [if_pos (by omega)]; exact ⟨_, _, _, M.rowNil _ _⟩)
     | (rw [if_neg (by omega), if_pos (by assumption)]; exact ⟨_, _, _, M⟩)
     | (rw [if_neg (by omega), if_neg (by omega), if_pos (by assumption)]; exact ⟨_, _, _, M.front 1 rfl⟩)
     | (rw [if_neg (by omega), if_neg (by omega), if_neg (by omega), if_pos (by assumption)]; exact ⟨_, _, _, M.rowNil _ _⟩)
     | (rw [if_neg (by omega), if_neg (by omega), if_neg (by omega), if_neg (by omega), if_pos (by assumption)]; exact ⟨_, _, _, M.rowNil _ _⟩)
     | (rw [if_neg (by omega), if_neg (by omega), if_neg (by omega), if_neg (by omega), if_neg (by omega)]; exact ⟨_, _, _, M.rowNil _ _⟩)
   clear S; intro h56 S
   refine st_condF S rfl (nxD (qG [1, 1] S ?_)); clear S a; intro a S
   refine nxC (st_fi (t := 61) S rfl ?_ ?_)
   ·clear S; intro h61 S
    refine st_condF S rfl (wp_skip (block_normal (then_normal ?_)))
    refine ⟨S.sub _ rfl, h127, ?_⟩
    unfold CutP rBody
    first
     | (rw [if_pos (by omega)]; exact ⟨_, _, _, M.rowNil _ _⟩)
     | (rw [if_neg (by omega), if_pos (by assumption)]; exact ⟨_, _, _, M⟩)
     | (rw [if_neg (by omega), if_neg (by omega), if_pos (by assumption)]; exact ⟨_, _, _, M.front 1 rfl⟩)
     | (rw [if_neg (by omega), if_neg (by omega), if_neg (by omega), if_pos (by assumption)]; exact ⟨_, _, _, M.rowNil _ _⟩)
     | (rw [if_neg (by omega), if_neg (by omega), if_neg (by omega), if_neg (by omega), if_pos (by assumption)]; exact ⟨_, _, _, M.rowNil _ _⟩)
     | (rw [if_neg (by omega), if_neg (by omega), if_neg (by omega), if_neg (by omega), if_neg (by omega)]; exact ⟨_, _, _, M.rowNil _ _⟩)
   clear S; intro h61 S
   refine st_condT S rfl (nxD (qG [1] S ?_)); clear S a; intro a S
   refine qC (xs := [.tmp 63]) S (qE Tryz.func33) rfl (byte_any M hv) ?_
   rintro _ w50 ⟨rfl, M1⟩; refine ⟨_, rfl, ?_⟩; clear S a; intro a S; replace M := M1
   refine qG [9] S ?_; clear S a; intro a S
   refine qS (sz := 1) (us := [_]) S M 1 ?_; clear M; intro w51 M
   refine nxA (qG [1] S ?_); clear S a; intro a S
   refine qC (xs := [.tmp 66]) S (qE Tryz.func33) rfl (byte_any M hv) ?_
   rintro _ w52 ⟨rfl, M1⟩; refine ⟨_, rfl, ?_⟩; clear S a; intro a S; replace M := M1
   have hbd2 := tk1_bd bs (tk bs 1 (rNm bs t0.2).2).2
   (first | refine qY S (y_subN S rfl rfl (by omega)) ?_ | refine qY S (y_int S rfl rfl rfl) ?_); clear S a; intro a S
   refine qG [10, 1] S ?_; clear S a; intro a S
   refine qS (sz := 1) (us := [_]) S M 1 ?_; clear M; intro w53 M
   refine nxB (qG [1] S ?_); clear S a; intro a S
   refine qC (xs := [.tmp 71]) S (qE Tryz.func33) rfl (byte_any M hv) ?_
   rintro _ w54 ⟨rfl, M1⟩; refine ⟨_, rfl, ?_⟩; clear S a; intro a S; replace M := M1
   refine qG [10, 2] S ?_; clear S a; intro a S
   refine qS (sz := 1) (us := [_]) S M 1 ?_; clear M; intro w55 M
   refine wpList_nil (block_normal (then_normal ?_))
   refine ⟨S.sub _ rfl, h127, ?_⟩
   unfold CutP rBody
   first
    | (rw [if_pos (by omega)]; exact ⟨_, _, _, M.rowNil _ _⟩)
    | (rw [if_neg (by omega), if_pos (by assumption)]; exact ⟨_, _, _, M⟩)
    | (rw [if_neg (by omega), if_neg (by omega), if_pos (by assumption)]; exact ⟨_, _, _, M.front 1 rfl⟩)
    | (rw [if_neg (by omega), if_neg (by omega), if_neg (by omega), if_pos (by assumption)]; exact ⟨_, _, _, M.rowNil _ _⟩)
    | (rw [if_neg (by omega), if_neg (by omega), if_neg (by omega), if_neg (by omega), if_pos (by assumption)]; exact ⟨_, _, _, M.rowNil _ _⟩)
    | (rw [if_neg (by omega), if_neg (by omega), if_neg (by omega), if_neg (by omega), if_neg (by omega)]; exact ⟨_, _, _, M.rowNil _ _⟩)
  clear S a M; intro a wc
  rintro ⟨S, h127, v', lo, hi, M⟩
  obtain ⟨q, hq⟩ : ∃ q, rBody bs kk t0.2 = q := ⟨_, rfl⟩
  have hsh := rBody_shards bs kk t0.2
  have hln := rBody_len bs kk t0.2
  rw [hq] at M hsh hln
  have hgo' : ∀ (r : Rc) (x : List Wr), r.may x = true → r.enc x = bs → q = (r, x, ⟨bs.length, false⟩) := fun r x hm he => by rw [← hq]; exact hgo r x hm he
  obtain ⟨r, x, s⟩ := q
  simp only at M hsh hln
  obtain ⟨ad, cp, hE', -, -⟩ := (M.readRow 0 rfl (by unfold maxLen; omega)).form
  subst hE'
  refine wp_seq (nxD (qR [1, 1, 3, 2, 1] S M ?_)); clear S a; intro a S
  refine st_split (t := 79) S rfl ?_ ?_
  ·clear S; intro h79 S
   refine qG [0, 0, 0, 0, 0, 0, 0, 1, 1, 0, 0, 0, 1] S ?_; clear S a; intro a S
   replace S := S.keep [0, 2, 4, 5, 92]
   refine nxC (st_condT S rfl (nxD (qY S (y_build (ps := []) (pl := [(0, 1), (1, 3), (4, 1), (5, 1), (6, 1), (7, 1), (8, 1), (9, 2), (11, 1)]) (z := [.int .i8 0, .int .i64 0, .int .i64 0, .int .i64 0, .bool false, .slice none 0 0, .int .i64 0, .int .i64 0, .int .i64 0, .int .i64 0, .int .i64 0, .int .i64 0]) (cs := [_, _, _, _, _, _, _, _, _, _, _, _]) S (by kernel_rfl) rfl (rfl)) ?_))); clear S a; intro a S
   refine qS (sz := 12) (us := [_, _, _, _, _, _, _, _, _, _, _, _]) S M 3 ?_; clear M; intro w56 M
   refine qG [1] S ?_; clear S a; intro a S
   refine nxC (wp_ret (then_ret (end_two S rfl (res_agg (cs := [_, _, _, _, _, _, _, _, _, _, _, _]) (by kernel_rfl) rfl rfl (M.cellsAt (k := 12) 3 rfl rfl)) (res_tmp rfl) ?_)))
   refine ⟨Rc.zero, [], .slice none 0 0, 40, rfl, M.freshNil _ _, .inr ⟨rfl, rfl, rfl, rfl, fun r' x' hm he => ?_⟩⟩
   have hx := hgo' r' x' hm he
   simp only [Prod.mk.injEq] at hx
   obtain ⟨rfl, rfl, rfl⟩ := hx
   first
    | (cases h79; done)
    | (exact absurd rfl h88)
    | (rw [hm] at h92; simp at h92; done)
  clear S; intro h79 S
  refine qR [1, 1, 2, 2, 1] S M ?_; clear S a; intro a S
  refine qY S (y_lenR (E := 5) S rfl ((M.arg hv)) (by kernel_rfl)) ?_; clear S a; intro a S
  refine qG [1, 1, 1] S ?_; clear S a; intro a S
  refine st_if (t := 88) S rfl ?_ ?_
  ·clear S; intro h88 S
   refine qG [0, 0, 0, 1] S ?_; clear S a; intro a S
   replace S := S.keep [0, 2, 4, 5, 92]
   refine nxC (st_condT S rfl (nxD (qY S (y_build (ps := []) (pl := [(0, 1), (1, 3), (4, 1), (5, 1), (6, 1), (7, 1), (8, 1), (9, 2), (11, 1)]) (z := [.int .i8 0, .int .i64 0, .int .i64 0, .int .i64 0, .bool false, .slice none 0 0, .int .i64 0, .int .i64 0, .int .i64 0, .int .i64 0, .int .i64 0, .int .i64 0]) (cs := [_, _, _, _, _, _, _, _, _, _, _, _]) S (by kernel_rfl) rfl (rfl)) ?_))); clear S a; intro a S
   refine qS (sz := 12) (us := [_, _, _, _, _, _, _, _, _, _, _, _]) S M 3 ?_; clear M; intro w57 M
   refine qG [1] S ?_; clear S a; intro a S
   refine nxC (wp_ret (then_ret (end_two S rfl (res_agg (cs := [_, _, _, _, _, _, _, _, _, _, _, _]) (by kernel_rfl) rfl rfl (M.cellsAt (k := 12) 3 rfl rfl)) (res_tmp rfl) ?_)))
   refine ⟨Rc.zero, [], .slice none 0 0, 40, rfl, M.freshNil _ _, .inr ⟨rfl, rfl, rfl, rfl, fun r' x' hm he => ?_⟩⟩
   have hx := hgo' r' x' hm he
   simp only [Prod.mk.injEq] at hx
   obtain ⟨rfl, rfl, rfl⟩ := hx
   first
    | (cases h79; done)
    | (exact absurd rfl h88)
    | (rw [hm] at h92; simp at h92; done)
  clear S; intro h88 S
  refine qY S (y_loadAgg (cs := [_, _, _, _, _, _, _, _, _, _, _, _]) S (by kernel_rfl) rfl rfl (M.cellsAt (k := 12) 2 rfl rfl)) ?_; clear S a; intro a S
  refine qQ (xs := [.tmp 89]) S (qE Tryz.func38) rfl (rMay_any r ad x.length cp x _ (by omega) (M.readAll 0 rfl (by unfold maxLen; omega))) M ?_; clear S M a; intro a w58 S hK M
  refine qG [1, 1] S ?_; clear S a; intro a S
  replace S := S.keep [0, 2, 4, 5, 92]
  refine nxC (st_split (t := 92) S rfl ?_ ?_)
  ·clear S; intro h92 S
   refine st_condT S rfl (nxD (qY S (y_build (ps := []) (pl := [(0, 1), (1, 3), (4, 1), (5, 1), (6, 1), (7, 1), (8, 1), (9, 2), (11, 1)]) (z := [.int .i8 0, .int .i64 0, .int .i64 0, .int .i64 0, .bool false, .slice none 0 0, .int .i64 0, .int .i64 0, .int .i64 0, .int .i64 0, .int .i64 0, .int .i64 0]) (cs := [_, _, _, _, _, _, _, _, _, _, _, _]) S (by kernel_rfl) rfl (rfl)) ?_)); clear S a; intro a S
   refine qS (sz := 12) (us := [_, _, _, _, _, _, _, _, _, _, _, _]) S M 3 ?_; clear M; intro w59 M
   refine qG [1] S ?_; clear S a; intro a S
   refine nxC (wp_ret (then_ret (end_two S rfl (res_agg (cs := [_, _, _, _, _, _, _, _, _, _, _, _]) (by kernel_rfl) rfl rfl (M.cellsAt (k := 12) 3 rfl rfl)) (res_tmp rfl) ?_)))
   refine ⟨Rc.zero, [], .slice none 0 0, 40, rfl, M.freshNil _ _, .inr ⟨rfl, rfl, rfl, rfl, fun r' x' hm he => ?_⟩⟩
   have hx := hgo' r' x' hm he
   simp only [Prod.mk.injEq] at hx
   obtain ⟨rfl, rfl, rfl⟩ := hx
   first
    | (cases h79; done)
    | (exact absurd rfl h88)
    | (rw [hm] at h92; simp at h92; done)
  clear S; intro h92 S
  refine st_condF S rfl (wp_skip (nxE (qY S (y_loadAgg (cs := [_, _, _, _, _, _, _, _, _, _, _, _]) S (by kernel_rfl) rfl rfl (M.cellsAt (k := 12) 2 rfl rfl)) ?_))); clear S a; intro a S
  refine qS (sz := 12) (us := [_, _, _, _, _, _, _, _, _, _, _, _]) S M 3 ?_; clear M; intro w60 M
  refine qG [1] S ?_; clear S a; intro a S
  refine nxC (wp_ret (end_two S rfl (res_agg (cs := [_, _, _, _, _, _, _, _, _, _, _, _]) (by kernel_rfl) rfl rfl (M.cellsAt (k := 12) 3 rfl rfl)) (res_tmp rfl) ?_))
  have hm : r.may x = true := by simpa using h92
  have hbad : s.bad = false := h79
  have hat : s.at_ = bs.length := by omega
  have hne : bs.length ≠ 0 := fun h0 => by
   have h1 := hE h0
   rw [h1] at hkk hq
   have hk0 : kk = 0 := by rw [← hkk]; rfl
   have hkr := kinds hm
   have : r.kind = kk := by
    have : (rBody bs kk ⟨0, true⟩).1.kind = kk := by unfold rBody; (repeat' split) <;> rfl
    rw [hq] at this; exact this
   omega
  obtain ⟨b, hb0⟩ : ∃ b, bs[0]? = some b := ⟨_, List.getElem?_eq_getElem (by omega)⟩
  have h1 := hBb b hb0
  have h2 := h127 b hb0
  have hk : kk = (b.toNat : Int) := by rw [← hkk, h1]; simp only; omega
  rw [h1, hk] at hq
  have he := ref_ok hb0 h2 _ hq hbad hat hm
  exact ⟨r, x, _, 0, rfl, M.fresh 0 rfl, .inl ⟨rfl, hm, he⟩⟩
 clear S; intro h17 S
 obtain ⟨b, hb0⟩ : ∃ b, bs[0]? = some b := ⟨_, List.getElem?_eq_getElem (by omega)⟩
 refine qY S (y_move S rfl) ?_; clear S a; intro a S
 refine qY S (y_indexR (e := 5) (sz := 1) S (by kernel_rfl) rfl (M.arg hv) rfl (by first | omega | (simp; done) | (simp; omega))) ?_; clear S a; intro a S
 refine qY S (y_load S (by kernel_rfl) rfl ((M.arg hv).byte (i := 0) hb0)) ?_; clear S a; intro a S
 refine qG [1, 1] S ?_; clear S a; intro a S
 replace S := S.keep [0, 2, 3, 4, 5, 22]
 refine nxC (st_if (t := 22) S rfl ?_ ?_)
 ·clear S; intro h22 S
  refine st_condT S rfl (nxD (qY S (y_build (ps := []) (pl := [(0, 1), (1, 3), (4, 1), (5, 1), (6, 1), (7, 1), (8, 1), (9, 2), (11, 1)]) (z := [.int .i8 0, .int .i64 0, .int .i64 0, .int .i64 0, .bool false, .slice none 0 0, .int .i64 0, .int .i64 0, .int .i64 0, .int .i64 0, .int .i64 0, .int .i64 0]) (cs := [_, _, _, _, _, _, _, _, _, _, _, _]) S (by kernel_rfl) rfl (rfl)) ?_)); clear S a; intro a S
  refine qS (sz := 12) (us := [_, _, _, _, _, _, _, _, _, _, _, _]) S M 2 ?_; clear M; intro w6 M
  refine qG [1] S ?_; clear S a; intro a S
  refine nxC (wp_ret (then_ret (end_two S rfl (res_agg (cs := [_, _, _, _, _, _, _, _, _, _, _, _]) (by kernel_rfl) rfl rfl (M.cellsAt (k := 12) 2 rfl rfl)) (res_tmp rfl) ?_)))
  refine ⟨Rc.zero, [], .slice none 0 0, 40, rfl, M.freshNil _ _, .inr ⟨rfl, rfl, rfl, rfl, fun r x hm => read_no (fun c hc => ?_) r x hm⟩⟩
  rw [hb0] at hc; cases hc; omega
 clear S; intro h22 S
 refine st_condF S rfl (wp_skip (then_normal (wp_cut (fun a w' => Sees 95 a [(0, .slice va bs.length vc), (2, .pointer (some ⟨bO, 0, none⟩)), (4, .pointer (some ⟨bR, 0, none⟩)), (5, .pointer (some ⟨bC, 0, none⟩))] ∧ (∀ b, bs[0]? = some b → b.toNat ≤ 127) ∧ CutP bs kk t0.2 w bO bR bC (.slice va bs.length vc) w') ?_ ?_)))
 ·skip
  refine wp_seq ?_
  have h127 : ∀ b, bs[0]? = some b → b.toNat ≤ 127 := fun b hb => by
   first
    | (rw [hb0] at hb; cases hb; omega)
    | (have := (List.getElem?_eq_some_iff.1 hb).1; omega)
  refine wp_region_lit (qR [1, 1, 1, 1] S M ?_); clear S a; intro a S
  refine st_if (t := 27) S rfl ?_ ?_
  ·clear S; intro h27 S
   refine qG [0, 0, 0, 1] S ?_; clear S a; intro a S
   refine nxC (st_condT S rfl (wp_region_lit (qG [1] S ?_))); clear S a; intro a S
   replace M := M.front 1 rfl
   simp only [List.eraseIdx_cons_succ, List.eraseIdx_cons_zero] at M
   refine qC (xs := [.tmp 32]) S (qE Tryz.func34) rfl (threeR_any M hv) ?_
   rintro _ w7 ⟨rfl, M1⟩; refine ⟨_, rfl, ?_⟩; clear S a; intro a S; replace M := M1
   refine qG [12] S ?_; clear S a; intro a S
   refine qS (sz := 1) (us := [_]) S M 1 ?_; clear M; intro w8 M
   refine nxC ?_
   refine ⟨S.sub _ rfl, h127, ?_⟩
   unfold CutP rBody
   first
    | (rw [if_pos (by omega)]; exact ⟨_, _, _, M.rowNil _ _⟩)
    | (rw [if_neg (by omega), if_pos (by assumption)]; exact ⟨_, _, _, M⟩)
    | (rw [if_neg (by omega), if_neg (by omega), if_pos (by assumption)]; exact ⟨_, _, _, M.front 1 rfl⟩)
    | (rw [if_neg (by omega), if_neg (by omega), if_neg (by omega), if_pos (by assumption)]; exact ⟨_, _, _, M.rowNil _ _⟩)
    | (rw [if_neg (by omega), if_neg (by omega), if_neg (by omega), if_neg (by omega), if_pos (by assumption)]; exact ⟨_, _, _, M.rowNil _ _⟩)
    | (rw [if_neg (by omega), if_neg (by omega), if_neg (by omega), if_neg (by omega), if_neg (by omega)]; exact ⟨_, _, _, M.rowNil _ _⟩)
  clear S; intro h27 S
  refine qR [1, 1, 1, 1] S M ?_; clear S a; intro a S
  refine nxC (st_if (t := 31) S rfl ?_ ?_)
  ·clear S; intro h31 S
   refine st_condT S rfl (wp_region_lit (qG [1] S ?_)); clear S a; intro a S
   replace M := M.front 1 rfl
   simp only [List.eraseIdx_cons_succ, List.eraseIdx_cons_zero] at M
   refine qC (xs := [.tmp 32]) S (qE Tryz.func34) rfl (threeR_any M hv) ?_
   rintro _ w9 ⟨rfl, M1⟩; refine ⟨_, rfl, ?_⟩; clear S a; intro a S; replace M := M1
   refine qG [12] S ?_; clear S a; intro a S
   refine qS (sz := 1) (us := [_]) S M 1 ?_; clear M; intro w10 M
   refine nxC ?_
   refine ⟨S.sub _ rfl, h127, ?_⟩
   unfold CutP rBody
   first
    | (rw [if_pos (by omega)]; exact ⟨_, _, _, M.rowNil _ _⟩)
    | (rw [if_neg (by omega), if_pos (by assumption)]; exact ⟨_, _, _, M⟩)
    | (rw [if_neg (by omega), if_neg (by omega), if_pos (by assumption)]; exact ⟨_, _, _, M.front 1 rfl⟩)
    | (rw [if_neg (by omega), if_neg (by omega), if_neg (by omega), if_pos (by assumption)]; exact ⟨_, _, _, M.rowNil _ _⟩)
    | (rw [if_neg (by omega), if_neg (by omega), if_neg (by omega), if_neg (by omega), if_pos (by assumption)]; exact ⟨_, _, _, M.rowNil _ _⟩)
    | (rw [if_neg (by omega), if_neg (by omega), if_neg (by omega), if_neg (by omega), if_neg (by omega)]; exact ⟨_, _, _, M.rowNil _ _⟩)
  clear S; intro h31 S
  refine st_condF S rfl (nxD (qG [1] S ?_)); clear S a; intro a S
  replace M := M.front 1 rfl
  simp only [List.eraseIdx_cons_succ, List.eraseIdx_cons_zero] at M
  refine qC (xs := [.tmp 35]) S (qE Tryz.func35) rfl (nameR_any M hv) ?_
  rintro _ w11 ⟨rfl, M1⟩; refine ⟨_, rfl, ?_⟩; clear S a; intro a S; replace M := M1
  refine qG [2] S ?_; clear S a; intro a S
  refine qS (sz := 3) (us := [_, _, _]) S M 1 ?_; clear M; intro w12 M
  refine nxA (qR [1, 2] S M ?_); clear S a; intro a S
  refine nxC (wp_block (nxD (qG [1, 1] S ?_))); clear S a; intro a S
  refine nxC (st_if (t := 40) S rfl ?_ ?_)
  ·clear S; intro h40 S
   refine st_condT S rfl (wp_region_lit (qG [1] S ?_)); clear S a; intro a S
   refine qC (xs := [.tmp 42]) S (qE Tryz.func36) rfl (writesR_any M hv) ?_
   rintro _ w13 ⟨v1, lo1, hi1, rfl, M1⟩; refine ⟨_, rfl, ?_⟩; clear S a; intro a S; replace M := M1
   obtain ⟨ad, cp, hE', -, -⟩ := (M.readRow 0 rfl (by have := rWs_len bs (rNm bs t0.2).2; unfold maxLen; omega)).form
   subst hE'
   refine qG [6] S ?_; clear S a; intro a S
   refine qS (sz := 1) (us := [_]) S M 2 ?_; clear M; intro w14 M
   replace S := S.keep [0, 2, 3, 4, 5, 22, 31, 39, 40]
   refine wpList_nil (block_normal (then_normal ?_))
   refine ⟨S.sub _ rfl, h127, ?_⟩
   unfold CutP rBody
   first
    | (rw [if_pos (by omega)]; exact ⟨_, _, _, M.rowNil _ _⟩)
    | (rw [if_neg (by omega), if_pos (by assumption)]; exact ⟨_, _, _, M⟩)
    | (rw [if_neg (by omega), if_neg (by omega), if_pos (by assumption)]; exact ⟨_, _, _, M.front 1 rfl⟩)
    | (rw [if_neg (by omega), if_neg (by omega), if_neg (by omega), if_pos (by assumption)]; exact ⟨_, _, _, M.rowNil _ _⟩)
    | (rw [if_neg (by omega), if_neg (by omega), if_neg (by omega), if_neg (by omega), if_pos (by assumption)]; exact ⟨_, _, _, M.rowNil _ _⟩)
    | (rw [if_neg (by omega), if_neg (by omega), if_neg (by omega), if_neg (by omega), if_neg (by omega)]; exact ⟨_, _, _, M.rowNil _ _⟩)
  clear S; intro h40 S
  refine st_condF S rfl (nxD (qG [1, 1] S ?_)); clear S a; intro a S
  refine nxC (st_if (t := 45) S rfl ?_ ?_)
  ·clear S; intro h45 S
   refine st_condT S rfl (nxD (qG [1] S ?_)); clear S a; intro a S
   refine qC (xs := [.tmp 47]) S (qE Tryz.func36) rfl (writesR_any M hv) ?_
   rintro _ w15 ⟨v1, lo1, hi1, rfl, M1⟩; refine ⟨_, rfl, ?_⟩; clear S a; intro a S; replace M := M1
   obtain ⟨ad, cp, hE', -, -⟩ := (M.readRow 0 rfl (by have := rWs_len bs (rNm bs t0.2).2; unfold maxLen; omega)).form
   subst hE'
   refine qG [6] S ?_; clear S a; intro a S
   refine qS (sz := 1) (us := [_]) S M 2 ?_; clear M; intro w16 M
   replace S := S.keep [0, 2, 3, 4, 5, 22, 31, 39, 40, 45]
   refine nxA ?_
   replace M := M.front 1 rfl
   simp only [List.eraseIdx_cons_succ, List.eraseIdx_cons_zero] at M
   refine qY S (y_move S rfl) ?_; clear S a; intro a S
   refine qC (xs := [.tmp 50]) S (qE Tryz.func33) rfl (byte_any M hv) ?_
   rintro _ w17 ⟨rfl, M1⟩; refine ⟨_, rfl, ?_⟩; clear S a; intro a S; replace M := M1
   refine qG [7] S ?_; clear S a; intro a S
   refine qS (sz := 1) (us := [_]) S M 2 ?_; clear M; intro w18 M
   refine nxB (qG [1] S ?_); clear S a; intro a S
   refine qC (xs := [.tmp 53]) S (qE Tryz.func33) rfl (byte_any M hv) ?_
   rintro _ w19 ⟨rfl, M1⟩; refine ⟨_, rfl, ?_⟩; clear S a; intro a S; replace M := M1
   refine qG [8] S ?_; clear S a; intro a S
   refine qS (sz := 1) (us := [_]) S M 2 ?_; clear M; intro w20 M
   refine wpList_nil (block_normal (then_normal ?_))
   refine ⟨S.sub _ rfl, h127, ?_⟩
   unfold CutP rBody
   first
    | (rw [if_pos (by omega)]; exact ⟨_, _, _, M.rowNil _ _⟩)
    | (rw [if_neg (by omega), if_pos (by assumption)]; exact ⟨_, _, _, M⟩)
    | (rw [if_neg (by omega), if_neg (by omega), if_pos (by assumption)]; exact ⟨_, _, _, M.front 1 rfl⟩)
    | (rw [if_neg (by omega), if_neg (by omega), if_neg (by omega), if_pos (by assumption)]; exact ⟨_, _, _, M.rowNil _ _⟩)
    | (rw [if_neg (by omega), if_neg (by omega), if_neg (by omega), if_neg (by omega), if_pos (by assumption)]; exact ⟨_, _, _, M.rowNil _ _⟩)
    | (rw [if_neg (by omega), if_neg (by omega), if_neg (by omega), if_neg (by omega), if_neg (by omega)]; exact ⟨_, _, _, M.rowNil _ _⟩)
  clear S; intro h45 S
  refine st_condF S rfl (nxD (qG [1, 1] S ?_)); clear S a; intro a S
  replace S := S.keep [0, 2, 3, 4, 5, 22, 31, 39, 40, 45, 56]
  refine nxC (st_if (t := 56) S rfl ?_ ?_)
  ·clear S; intro h56 S
   refine st_condT S rfl (wp_region_lit (qG [1] S ?_)); clear S a; intro a S
   refine qC (xs := [.tmp 58]) S (qE Tryz.func37) rfl (flagR_any M hv) ?_
   rintro _ w21 ⟨rfl, M1⟩; refine ⟨_, rfl, ?_⟩; clear S a; intro a S; replace M := M1
   refine qG [5] S ?_; clear S a; intro a S
   refine qS (sz := 1) (us := [_]) S M 1 ?_; clear M; intro w22 M
   refine wpList_nil (block_normal (then_normal ?_))
   refine ⟨S.sub _ rfl, h127, ?_⟩
   unfold CutP rBody
   first
    | (rw [if_pos (by omega)]; exact ⟨_, _, _, M.rowNil _ _⟩)
    | (rw [if_neg (by omega), if_pos (by assumption)]; exact ⟨_, _, _, M⟩)
    | (rw [if_neg (by omega), if_neg (by omega), if_pos (by assumption)]; exact ⟨_, _, _, M.front 1 rfl⟩)
    | (rw [if_neg (by omega), if_neg (by omega), if_neg (by omega), if_pos (by assumption)]; exact ⟨_, _, _, M.rowNil _ _⟩)
    | (rw [if_neg (by omega), if_neg (by omega), if_neg (by omega), if_neg (by omega), if_pos (by assumption)]; exact ⟨_, _, _, M.rowNil _ _⟩)
    | (rw [if_neg (by omega), if_neg (by omega), if_neg (by omega), if_neg (by omega), if_neg (by omega)]; exact ⟨_, _, _, M.rowNil _ _⟩)
  clear S; intro h56 S
  refine st_condF S rfl (nxD (qG [1, 1] S ?_)); clear S a; intro a S
  refine nxC (st_fi (t := 61) S rfl ?_ ?_)
  ·clear S; intro h61 S
   refine st_condF S rfl (wp_skip (block_normal (then_normal ?_)))
   refine ⟨S.sub _ rfl, h127, ?_⟩
   unfold CutP rBody
   first
    | (rw [if_pos (by omega)]; exact ⟨_, _, _, M.rowNil _ _⟩)
    | (rw [if_neg (by omega), if_pos (by assumption)]; exact ⟨_, _, _, M⟩)
    | (rw [if_neg (by omega), if_neg (by omega), if_pos (by assumption)]; exact ⟨_, _, _, M.front 1 rfl⟩)
    | (rw [if_neg (by omega), if_neg (by omega), if_neg (by omega), if_pos (by assumption)]; exact ⟨_, _, _, M.rowNil _ _⟩)
    | (rw [if_neg (by omega), if_neg (by omega), if_neg (by omega), if_neg (by omega), if_pos (by assumption)]; exact ⟨_, _, _, M.rowNil _ _⟩)
    | (rw [if_neg (by omega), if_neg (by omega), if_neg (by omega), if_neg (by omega), if_neg (by omega)]; exact ⟨_, _, _, M.rowNil _ _⟩)
  clear S; intro h61 S
  refine st_condT S rfl (nxD (qG [1] S ?_)); clear S a; intro a S
  refine qC (xs := [.tmp 63]) S (qE Tryz.func33) rfl (byte_any M hv) ?_
  rintro _ w23 ⟨rfl, M1⟩; refine ⟨_, rfl, ?_⟩; clear S a; intro a S; replace M := M1
  refine qG [9] S ?_; clear S a; intro a S
  refine qS (sz := 1) (us := [_]) S M 1 ?_; clear M; intro w24 M
  refine nxA (qG [1] S ?_); clear S a; intro a S
  refine qC (xs := [.tmp 66]) S (qE Tryz.func33) rfl (byte_any M hv) ?_
  rintro _ w25 ⟨rfl, M1⟩; refine ⟨_, rfl, ?_⟩; clear S a; intro a S; replace M := M1
  have hbd2 := tk1_bd bs (tk bs 1 (rNm bs t0.2).2).2
  (first | refine qY S (y_subN S rfl rfl (by omega)) ?_ | refine qY S (y_int S rfl rfl rfl) ?_); clear S a; intro a S
  refine qG [10, 1] S ?_; clear S a; intro a S
  refine qS (sz := 1) (us := [_]) S M 1 ?_; clear M; intro w26 M
  refine nxB (qG [1] S ?_); clear S a; intro a S
  refine qC (xs := [.tmp 71]) S (qE Tryz.func33) rfl (byte_any M hv) ?_
  rintro _ w27 ⟨rfl, M1⟩; refine ⟨_, rfl, ?_⟩; clear S a; intro a S; replace M := M1
  refine qG [10, 2] S ?_; clear S a; intro a S
  refine qS (sz := 1) (us := [_]) S M 1 ?_; clear M; intro w28 M
  refine wpList_nil (block_normal (then_normal ?_))
  refine ⟨S.sub _ rfl, h127, ?_⟩
  unfold CutP rBody
  first
   | (rw [if_pos (by omega)]; exact ⟨_, _, _, M.rowNil _ _⟩)
   | (rw [if_neg (by omega), if_pos (by assumption)]; exact ⟨_, _, _, M⟩)
   | (rw [if_neg (by omega), if_neg (by omega), if_pos (by assumption)]; exact ⟨_, _, _, M.front 1 rfl⟩)
   | (rw [if_neg (by omega), if_neg (by omega), if_neg (by omega), if_pos (by assumption)]; exact ⟨_, _, _, M.rowNil _ _⟩)
   | (rw [if_neg (by omega), if_neg (by omega), if_neg (by omega), if_neg (by omega), if_pos (by assumption)]; exact ⟨_, _, _, M.rowNil _ _⟩)
   | (rw [if_neg (by omega), if_neg (by omega), if_neg (by omega), if_neg (by omega), if_neg (by omega)]; exact ⟨_, _, _, M.rowNil _ _⟩)
 clear S a M; intro a wc
 rintro ⟨S, h127, v', lo, hi, M⟩
 obtain ⟨q, hq⟩ : ∃ q, rBody bs kk t0.2 = q := ⟨_, rfl⟩
 have hsh := rBody_shards bs kk t0.2
 have hln := rBody_len bs kk t0.2
 rw [hq] at M hsh hln
 have hgo' : ∀ (r : Rc) (x : List Wr), r.may x = true → r.enc x = bs → q = (r, x, ⟨bs.length, false⟩) := fun r x hm he => by rw [← hq]; exact hgo r x hm he
 obtain ⟨r, x, s⟩ := q
 simp only at M hsh hln
 obtain ⟨ad, cp, hE', -, -⟩ := (M.readRow 0 rfl (by unfold maxLen; omega)).form
 subst hE'
 refine wp_seq (nxD (qR [1, 1, 3, 2, 1] S M ?_)); clear S a; intro a S
 refine st_split (t := 79) S rfl ?_ ?_
 ·clear S; intro h79 S
  refine qG [0, 0, 0, 0, 0, 0, 0, 1, 1, 0, 0, 0, 1] S ?_; clear S a; intro a S
  replace S := S.keep [0, 2, 4, 5, 92]
  refine nxC (st_condT S rfl (nxD (qY S (y_build (ps := []) (pl := [(0, 1), (1, 3), (4, 1), (5, 1), (6, 1), (7, 1), (8, 1), (9, 2), (11, 1)]) (z := [.int .i8 0, .int .i64 0, .int .i64 0, .int .i64 0, .bool false, .slice none 0 0, .int .i64 0, .int .i64 0, .int .i64 0, .int .i64 0, .int .i64 0, .int .i64 0]) (cs := [_, _, _, _, _, _, _, _, _, _, _, _]) S (by kernel_rfl) rfl (rfl)) ?_))); clear S a; intro a S
  refine qS (sz := 12) (us := [_, _, _, _, _, _, _, _, _, _, _, _]) S M 3 ?_; clear M; intro w29 M
  refine qG [1] S ?_; clear S a; intro a S
  refine nxC (wp_ret (then_ret (end_two S rfl (res_agg (cs := [_, _, _, _, _, _, _, _, _, _, _, _]) (by kernel_rfl) rfl rfl (M.cellsAt (k := 12) 3 rfl rfl)) (res_tmp rfl) ?_)))
  refine ⟨Rc.zero, [], .slice none 0 0, 40, rfl, M.freshNil _ _, .inr ⟨rfl, rfl, rfl, rfl, fun r' x' hm he => ?_⟩⟩
  have hx := hgo' r' x' hm he
  simp only [Prod.mk.injEq] at hx
  obtain ⟨rfl, rfl, rfl⟩ := hx
  first
   | (cases h79; done)
   | (exact absurd rfl h88)
   | (rw [hm] at h92; simp at h92; done)
 clear S; intro h79 S
 refine qR [1, 1, 2, 2, 1] S M ?_; clear S a; intro a S
 refine qY S (y_lenR (E := 5) S rfl ((M.arg hv)) (by kernel_rfl)) ?_; clear S a; intro a S
 refine qG [1, 1, 1] S ?_; clear S a; intro a S
 refine st_if (t := 88) S rfl ?_ ?_
 ·clear S; intro h88 S
  refine qG [0, 0, 0, 1] S ?_; clear S a; intro a S
  replace S := S.keep [0, 2, 4, 5, 92]
  refine nxC (st_condT S rfl (nxD (qY S (y_build (ps := []) (pl := [(0, 1), (1, 3), (4, 1), (5, 1), (6, 1), (7, 1), (8, 1), (9, 2), (11, 1)]) (z := [.int .i8 0, .int .i64 0, .int .i64 0, .int .i64 0, .bool false, .slice none 0 0, .int .i64 0, .int .i64 0, .int .i64 0, .int .i64 0, .int .i64 0, .int .i64 0]) (cs := [_, _, _, _, _, _, _, _, _, _, _, _]) S (by kernel_rfl) rfl (rfl)) ?_))); clear S a; intro a S
  refine qS (sz := 12) (us := [_, _, _, _, _, _, _, _, _, _, _, _]) S M 3 ?_; clear M; intro w30 M
  refine qG [1] S ?_; clear S a; intro a S
  refine nxC (wp_ret (then_ret (end_two S rfl (res_agg (cs := [_, _, _, _, _, _, _, _, _, _, _, _]) (by kernel_rfl) rfl rfl (M.cellsAt (k := 12) 3 rfl rfl)) (res_tmp rfl) ?_)))
  refine ⟨Rc.zero, [], .slice none 0 0, 40, rfl, M.freshNil _ _, .inr ⟨rfl, rfl, rfl, rfl, fun r' x' hm he => ?_⟩⟩
  have hx := hgo' r' x' hm he
  simp only [Prod.mk.injEq] at hx
  obtain ⟨rfl, rfl, rfl⟩ := hx
  first
   | (cases h79; done)
   | (exact absurd rfl h88)
   | (rw [hm] at h92; simp at h92; done)
 clear S; intro h88 S
 refine qY S (y_loadAgg (cs := [_, _, _, _, _, _, _, _, _, _, _, _]) S (by kernel_rfl) rfl rfl (M.cellsAt (k := 12) 2 rfl rfl)) ?_; clear S a; intro a S
 refine qQ (xs := [.tmp 89]) S (qE Tryz.func38) rfl (rMay_any r ad x.length cp x _ (by omega) (M.readAll 0 rfl (by unfold maxLen; omega))) M ?_; clear S M a; intro a w31 S hK M
 refine qG [1, 1] S ?_; clear S a; intro a S
 replace S := S.keep [0, 2, 4, 5, 92]
 refine nxC (st_split (t := 92) S rfl ?_ ?_)
 ·clear S; intro h92 S
  refine st_condT S rfl (nxD (qY S (y_build (ps := []) (pl := [(0, 1), (1, 3), (4, 1), (5, 1), (6, 1), (7, 1), (8, 1), (9, 2), (11, 1)]) (z := [.int .i8 0, .int .i64 0, .int .i64 0, .int .i64 0, .bool false, .slice none 0 0, .int .i64 0, .int .i64 0, .int .i64 0, .int .i64 0, .int .i64 0, .int .i64 0]) (cs := [_, _, _, _, _, _, _, _, _, _, _, _]) S (by kernel_rfl) rfl (rfl)) ?_)); clear S a; intro a S
  refine qS (sz := 12) (us := [_, _, _, _, _, _, _, _, _, _, _, _]) S M 3 ?_; clear M; intro w32 M
  refine qG [1] S ?_; clear S a; intro a S
  refine nxC (wp_ret (then_ret (end_two S rfl (res_agg (cs := [_, _, _, _, _, _, _, _, _, _, _, _]) (by kernel_rfl) rfl rfl (M.cellsAt (k := 12) 3 rfl rfl)) (res_tmp rfl) ?_)))
  refine ⟨Rc.zero, [], .slice none 0 0, 40, rfl, M.freshNil _ _, .inr ⟨rfl, rfl, rfl, rfl, fun r' x' hm he => ?_⟩⟩
  have hx := hgo' r' x' hm he
  simp only [Prod.mk.injEq] at hx
  obtain ⟨rfl, rfl, rfl⟩ := hx
  first
   | (cases h79; done)
   | (exact absurd rfl h88)
   | (rw [hm] at h92; simp at h92; done)
 clear S; intro h92 S
 refine st_condF S rfl (wp_skip (nxE (qY S (y_loadAgg (cs := [_, _, _, _, _, _, _, _, _, _, _, _]) S (by kernel_rfl) rfl rfl (M.cellsAt (k := 12) 2 rfl rfl)) ?_))); clear S a; intro a S
 refine qS (sz := 12) (us := [_, _, _, _, _, _, _, _, _, _, _, _]) S M 3 ?_; clear M; intro w33 M
 refine qG [1] S ?_; clear S a; intro a S
 refine nxC (wp_ret (end_two S rfl (res_agg (cs := [_, _, _, _, _, _, _, _, _, _, _, _]) (by kernel_rfl) rfl rfl (M.cellsAt (k := 12) 3 rfl rfl)) (res_tmp rfl) ?_))
 have hm : r.may x = true := by simpa using h92
 have hbad : s.bad = false := h79
 have hat : s.at_ = bs.length := by omega
 have hne : bs.length ≠ 0 := fun h0 => by
  have h1 := hE h0
  rw [h1] at hkk hq
  have hk0 : kk = 0 := by rw [← hkk]; rfl
  have hkr := kinds hm
  have : r.kind = kk := by
   have : (rBody bs kk ⟨0, true⟩).1.kind = kk := by unfold rBody; (repeat' split) <;> rfl
   rw [hq] at this; exact this
  omega
 obtain ⟨b, hb0⟩ : ∃ b, bs[0]? = some b := ⟨_, List.getElem?_eq_getElem (by omega)⟩
 have h1 := hBb b hb0
 have h2 := h127 b hb0
 have hk : kk = (b.toNat : Int) := by rw [← hkk, h1]; simp only; omega
 rw [h1, hk] at hq
 have he := ref_ok hb0 h2 _ hq hbad hat hm
 exact ⟨r, x, _, 0, rfl, M.fresh 0 rfl, .inl ⟨rfl, hm, he⟩⟩
end Go.Proofs.YtodfphphidhjbaaGreat

namespace Go.Proofs.YtodfphphidhjbaaGreat
open Go.RowKit Go.Sort
theorem records6_bad {w : World} (b : Nat) (tail : Int) (ht : ¬ (1 ≤ tail ∧ tail ≤ 1099511627776)) :
 Calls Tryz.prog 32 #[.pointer (some ⟨b, 0, none⟩), .int .i64 tail] w fun e w' => e = .returned (.tuple #[.slice none 0 0, .agg #[.int .i64 0, .int .i64 0], .int .i64 2]) ∧ Below w.heap.size w w' := by
 have M := Mem.start w
 refine calls_enter Tryz.func32 rfl 110 rfl rfl ?_; intro a S
 refine nxD (qG [1] S ?_); clear S a; intro a S
 refine st_alloc S M rfl rfl #[.int .i64 0, .int .i64 0] (by kernel_rfl) ?_; clear S M a; intro a w1 bR S M hB
 refine qG [1] S ?_; clear S a; intro a S
 refine nxC (wp_seq (nxD (qG [1, 1, 1] S ?_))); clear S a; intro a S
 refine st_if (t := 20) S rfl ?_ ?_
 ·clear S; intro h20 S
  refine qG [0, 0, 1] S ?_; clear S a; intro a S
  refine nxC (st_condT S rfl (nxD (qY S (y_build (ps := []) (pl := [(0, 1), (1, 1)]) (z := [.int .i64 0, .int .i64 0]) (cs := [_, _]) S (by kernel_rfl) rfl (rfl)) ?_))); clear S a; intro a S
  refine qG [1] S ?_; clear S a; intro a S
  refine qS (sz := 2) (us := [_, _]) S M 0 ?_; clear M; intro w2 M
  refine qG [1] S ?_; clear S a; intro a S
  refine nxC (wp_ret (then_ret (end_three S rfl (res_tmp rfl) (res_agg (cs := [_, _]) (by kernel_rfl) rfl rfl (M.cellsAt (k := 2) 0 rfl rfl)) (res_tmp rfl) ?_)))
  exact ⟨rfl, M.below⟩
 clear S; intro h20 S
 refine qG [1, 1, 1] S ?_; clear S a; intro a S
 refine nxC (st_fi (t := 23) S rfl ?_ ?_)
 ·clear S; intro h23 S
  omega
 clear S; intro h23 S
 refine st_condT S rfl (nxD (qY S (y_build (ps := []) (pl := [(0, 1), (1, 1)]) (z := [.int .i64 0, .int .i64 0]) (cs := [_, _]) S (by kernel_rfl) rfl (rfl)) ?_)); clear S a; intro a S
 refine qG [1] S ?_; clear S a; intro a S
 refine qS (sz := 2) (us := [_, _]) S M 0 ?_; clear M; intro w3 M
 refine qG [1] S ?_; clear S a; intro a S
 refine nxC (wp_ret (then_ret (end_three S rfl (res_tmp rfl) (res_agg (cs := [_, _]) (by kernel_rfl) rfl rfl (M.cellsAt (k := 2) 0 rfl rfl)) (res_tmp rfl) ?_)))
 exact ⟨rfl, M.below⟩
theorem scan6_bad {w : World} (b : Nat) (tail : Int) (ht : ¬ (1 ≤ tail ∧ tail ≤ 1099511627776)) :
 Calls Tryz.prog 9 #[.pointer (some ⟨b, 0, none⟩), .int .i64 tail] w fun e w' => e = .returned (.tuple #[.slice none 0 0, .agg #[.int .i64 0, .int .i64 0], .int .i64 2]) ∧ Below w.heap.size w w' := by
 have M := Mem.start w
 refine calls_enter Tryz.func9 rfl 36 rfl rfl ?_; intro a S
 refine nxD (qG [1] S ?_); clear S a; intro a S
 refine st_alloc S M rfl rfl #[.int .i64 0, .int .i64 0] (by kernel_rfl) ?_; clear S M a; intro a w1 bR S M hB
 refine qG [1] S ?_; clear S a; intro a S
 refine nxA (qG [1, 1] S ?_); clear S a; intro a S
 refine qQ (xs := [.tmp 13, .tmp 14]) S (qE Tryz.func32) rfl (records6_bad b tail ht) M ?_; clear S M a; intro a w2 S hK M
 refine qG [1, 1, 1, 1] S ?_; clear S a; intro a S
 refine st_alloc S M rfl rfl #[.int .i64 0, .int .i64 0] (by kernel_rfl) ?_; clear S M a; intro a w3 bL S M hB
 refine qG [1] S ?_; clear S a; intro a S
 refine qS (sz := 2) (us := [_, _]) S M 0 ?_; clear M; intro w4 M
 refine qG [1] S ?_; clear S a; intro a S
 refine nxA (qG [1] S ?_); clear S a; intro a S
 refine nxC (wp_seq (nxD (qG [1] S ?_))); clear S a; intro a S
 refine nxC (wp_block (wp_loop_g (fun m a w' => m = 0 ∧ Sees 36 a [(5, .pointer (some ⟨bR, 0, none⟩)), (7, .slice none 0 0), (8, .pointer (some ⟨bL, 0, none⟩)), (9, .int .i64 2), (10, .slice none 0 0), (11, .int .i64 0)] ∧ Mem w w' [.blk bL #[.int .i64 0, .int .i64 0] 33, .blk bR #[.int .i64 0, .int .i64 0] 33]) (0) ?_ ?_))
 ·skip
  exact ⟨rfl, S.sub _ rfl, M⟩
 clear S M a; intro m a wl
 rintro ⟨rfl, S, M⟩
 refine wp_seq (nxD (qG [1, 1] S ?_)); clear S a; intro a S
 refine qY S (y_lenS (E := 92) S rfl (by kernel_rfl)) ?_; clear S a; intro a S
 refine qG [1] S ?_; clear S a; intro a S
 refine nxC (st_if (t := 22) S rfl ?_ ?_)
 ·clear S; intro h22 S
  omega
 clear S; intro h22 S
 refine st_condF S rfl (wp_exit (then_exit (then_exit (block_hit (then_normal (wp_seq (wp_regionK [4] #[false, false, false, false, false, false] rfl M (by kernel_rfl) ?_))))))); clear M; intro w5 M
 refine k_pure 0 S rfl (fun w => y_move S rfl) ?_; clear S a; intro a S
 refine k_read 1 S rfl (fun w hW => have M := M.grow hW; y_loadAgg (cs := [_, _]) S (by kernel_rfl) rfl rfl (M.cellsAt (k := 2) 0 rfl rfl)) ?_; clear S a; intro a S
 refine k_pure 2 S rfl (fun w => y_move S rfl) ?_; clear S a; intro a S
 refine k_pure 3 S rfl (fun w => y_assign S rfl) ?_; clear S a; intro a S
 refine k_one 4 rfl (by kernel_rfl) ?_
 refine qS (sz := 2) (us := [_, _]) S M 1 ?_; clear M; intro w6 M
 refine wpList_nil ?_; refine then_normal ?_; refine ⟨fun h => absurd h (by decide), ?_⟩
 refine k_pure 5 S rfl (fun w => y_assign S rfl) ?_; clear S a; intro a S
 refine k_end (by kernel_rfl) ?_
 refine then_normal (wp_ret (end_three S rfl (res_tmp rfl) (res_agg (cs := [_, _]) (by kernel_rfl) rfl rfl (M.cellsAt (k := 2) 1 rfl rfl)) (res_tmp rfl) ?_))
 exact ⟨rfl, M.below⟩
theorem gsR_err {sec : Nat → List UInt8} {x : Su} {er : Int} (h : gsR sec = (x, er)) (he : er ≠ 0) : x = zSu := by
 unfold gsR at h
 cases hb : bestN sec 2 with
 | some y => rw [hb] at h; exact absurd (congrArg Prod.snd h).symm he
 | none =>
   rw [hb] at h
   simp only at h
   split at h
   ·exact absurd (congrArg Prod.snd h).symm he
   ·exact (congrArg Prod.fst h).symm
theorem scan6_both {wo w : World} {A E : List Ent} {b : Nat} {R : RS} {x : Su} {er : Int} (hE : R3E b R E) (M : Mem wo w (A ++ E)) (hc : R.cache.length ≤ 1000) (hg : gsR (secS R) = (x, er)) :
 Calls Tryz.prog 9 #[.pointer (some ⟨b, 0, none⟩), .int .i64 x.tail] w fun e w' => ∃ (rs : List RB) (ra : Option Addr) (rc lo hi : Nat) (lt ln g : Int), e = .returned (.tuple #[.slice ra rs.length rc, .agg #[.int .i64 lt, .int .i64 ln], .int .i64 g]) ∧
  (∀ r ∈ rs, r.bs.length ≤ 90) ∧ rs.length ≤ 24 ∧ Mem wo w' (rowE lo hi 57 1 (.slice ra rs.length rc) rs.length (rs.map RB.val) :: (rs.map RB.ent ++ (A ++ E))) ∧ (er = 0 → rs.map RB.bs = (scanP (sc0 x.tail) (secsR R x.tail)).l.map (·.2) ∧ lt = x.tail ∧ ln = (scanP (sc0 x.tail) (secsR R x.tail)).next) := by
 by_cases he : er = 0
 ·have ht : 1 ≤ x.tail ∧ x.tail ≤ 1099511627776 := gsR_tail (by rw [hg, he])
  refine (scan6_any x.tail hE M hc ht).mono fun e w' h => ?_
  obtain ⟨rs, ra, rc, lo, hi, rfl, h1, h2, h3, M1⟩ := h
  exact ⟨rs, ra, rc, lo, hi, _, _, _, rfl, h2, h3, M1, fun _ => ⟨h1, rfl, rfl⟩⟩
 ·have hx := gsR_err hg he
  refine (scan6_bad b x.tail (by rw [hx]; decide)).mono fun e w' h => ?_
  obtain ⟨rfl, hb⟩ := h
  obtain ⟨lo, hi, M1⟩ := (M.grow hb).nilRow 57 1
  exact ⟨[], none, 0, lo, hi, 0, 0, 2, rfl, fun r h => (by cases h), by simp, M1, fun h => absurd h he⟩
def namesP (ps : Pl) : List Nm := ps.map fun q => q.1.name
theorem findP_at {nm : Nm} : ∀ {ps : Pl} {k : Nat}, findP nm ps = some k → (namesP ps)[k]? = some nm
 | [], k, h => by simp [findP] at h
 | q :: ps, k, h => by
   rw [findP] at h
   split at h
   ·next h1 =>
    obtain rfl : 0 = k := by simpa using h
    show some q.1.name = some nm
    rw [Nm.eqb_iff.1 h1]
   ·cases hf : findP nm ps with
    | none => rw [hf] at h; simp at h
    | some j =>
      rw [hf] at h
      obtain rfl : j + 1 = k := by simpa using h
      have h2 := findP_at hf
      unfold namesP at h2 ⊢
      simpa using h2
theorem findP_no {nm : Nm} : ∀ {ps : Pl}, findP nm ps = none → nm ∉ namesP ps
 | [], _ => by simp [namesP]
 | q :: ps, h => by
   rw [findP] at h
   split at h
   ·cases h
   ·next h1 =>
    cases hf : findP nm ps with
    | some j => rw [hf] at h; simp at h
    | none =>
      intro hm
      rcases List.mem_cons.1 (show nm ∈ q.1.name :: namesP ps from hm) with h2 | h2
      ·exact h1 (Nm.eqb_iff.2 h2.symm)
      ·exact findP_no hf h2
theorem findP_nodup {ps : Pl} (h : (namesP ps).Nodup) {i : Nat} {q : Pr × List Wr} (hq : ps[i]? = some q) : findP q.1.name ps = some i := by
 have hi : (namesP ps)[i]? = some q.1.name := by unfold namesP; rw [List.getElem?_map, hq]; rfl
 cases hf : findP q.1.name ps with
 | none => exact absurd (List.mem_of_getElem? hi) (findP_no hf)
 | some k =>
   have hk := findP_at hf
   have h1 := (List.getElem?_eq_some_iff.1 hi).1
   have := (List.getElem?_inj h1 h).1 (hi.trans hk.symm)
   rw [this]
theorem names_stepO {ps : Pl} (h : (namesP ps).Nodup) (r : Rc) (x : List Wr) : (namesP (stepO ps r x).1).Nodup := by
 unfold stepO
 split
 ·exact h
 ·split
  ·cases hf : findP r.name ps with
   | some k =>
     have hk := findP_at hf
     have e : namesP (ps.set k (prOf r, x)) = namesP ps := by
      unfold namesP at hk ⊢
      rw [List.map_set]
      exact List.ext_getElem? fun j => by
       rw [List.getElem?_set]
       by_cases e : k = j
       ·subst e
        rw [if_pos rfl, hk, if_pos (List.getElem?_eq_some_iff.1 hk).1]; rfl
       ·rw [if_neg e]
     simp only
     rw [e]; exact h
   | none =>
     have hn := findP_no hf
     simp only
     unfold namesP at hn ⊢
     rw [List.map_append, List.nodup_append]
     refine ⟨h, by simp, fun a ha b hb e => ?_⟩
     rw [List.map_cons, List.map_nil, List.mem_singleton] at hb
     subst hb; subst e
     exact hn ha
  ·cases hf : findP r.name ps with
   | some k => exact h.sublist ((List.eraseIdx_sublist ..).map _)
   | none => exact h
theorem names_foldS : ∀ (l : Rl) (s : St) (ps : Pl), (namesP ps).Nodup → (namesP (foldS s ps l).2).Nodup
 | [], _, _, h => h
 | q :: l, _, _, h => names_foldS l _ _ (names_stepO h q.1 q.2)
theorem perm_pre {D2 : Ent} (P : List Ent) {es G : List Ent} : (D2 :: (es ++ (P ++ G))).Perm (P ++ (D2 :: (es ++ G))) := by
 have h1 : (es ++ (P ++ G)).Perm (P ++ (es ++ G)) := by
  rw [← List.append_assoc, ← List.append_assoc]; exact List.perm_append_comm.append_right G
 exact (List.Perm.cons _ h1).trans List.perm_middle.symm
end Go.Proofs.YtodfphphidhjbaaGreat

namespace Go.Proofs.YtodfphphidhjbaaGreat
open Go.RowKit Go.Sort
theorem RS.small {S : DS} {R : RS} (h : Twin S R) : R.cache.length ≤ 1000 := by rw [h.cache]; decide
theorem DS.small {S : DS} {R : RS} (h : Twin S R) (k : Int) : (S.cache k).length ≤ 1000000 := by rw [h.still]; decide
theorem foldS_app (s : St) (ps : Pl) {l : Rl} {k : Nat} {q : Rc × List Wr} (h : l[k]? = some q) : foldS s ps (l.take (k + 1)) = (appSt (foldS s ps (l.take k)).1 (foldS s ps (l.take k)).2 q.1 q.2, (stepO (foldS s ps (l.take k)).2 q.1 q.2).1) := by
 rw [show l.take (k + 1) = l.take k ++ [q] by rw [List.take_add_one, h]; rfl, foldS_snoc]
theorem stG_log (x : Su) (o a b : Int) (h : List V8) (n : Int) (dv : Value) : cutL ((stG x o a b h n).cellsL dv).toArray.toList (0 + 13) 2 = some [.int .i64 a, .int .i64 b] :=
 cutL_mid [.int .i64 x.gen, .int .i64 x.tail, .int .i64 o, .int .i64 x.inc, .int .i64 x.bound, .int .i64 x.m0, .int .i64 x.m1, .int .i64 x.m2, .int .i64 x.m3, .int .i64 x.m4, .int .i64 x.m5, .int .i64 x.m6, .int .i64 x.m7] [.int .i64 a, .int .i64 b] (hcells h ++ [dv, .int .i64 n])
set_option maxHeartbeats 8000000 in
set_option maxRecDepth 10000 in
theorem parts_any (x : Su) (v : Value) (xs : List (List UInt8)) (w : World) (hv : BRows w v xs) :
 Calls Tryz.prog 3 #[.agg x.cellsL.toArray, v] w fun e w' => e = .returned (.bool true) ∧ Below w.heap.size w w' := by
 have M := Mem.start w
 refine calls_enter Tryz.func3 rfl 145 rfl rfl ?_; intro a S
 refine nxD (st_box S M rfl rfl rfl #[_, _, _, _, _, _, _, _, _, _, _, _, _] rfl ?_); clear S M a; intro a w1 bB S M hB
 refine qG [1] S ?_; clear S a; intro a S
 refine nxC (wp_seq (nxD (qG [1] S ?_))); clear S a; intro a S
 refine st_call (xs := [.tmp 24]) S (enters_of Tryz.func4 (by decide) rfl) rfl rfl rfl (greatL_any v xs _ (by
 obtain ⟨vs, h1, h2⟩ := hv
 exact ⟨vs, M.argW h1, fun i y bs hy hb => M.argW (h2 i y bs hy hb)⟩)) ?_
 rintro _ w2 ⟨g, rfl, hg, hK⟩; refine ⟨_, rfl, ?_⟩; clear S a; intro a S; replace M := M.grow hK
 refine nxC (st_if (t := 25) S rfl ?_ ?_)
 ·clear S; intro h25 S
  refine st_condT S rfl (nxD (qQ (xs := []) S (qE Tryz.func5) rfl (wakes10_any _) M ?_)); clear S M a; intro a w3 S hK M
  refine qG [1] S ?_; clear S a; intro a S
  refine nxC (wp_ret (then_ret (end_one S rfl (res_tmp rfl) ?_)))
  exact ⟨rfl, M.below⟩
 clear S; intro h25 S
 refine st_condF S rfl (wp_skip (then_normal (wp_seq ?_)))
 have hgf : g = false := by first | assumption | simp_all
 obtain ⟨h40, hsm⟩ := hg hgf
 refine wp_region_lit (qY S (y_loadAgg (cs := [_, _, _, _, _, _, _, _, _, _, _, _, _]) S (by kernel_rfl) rfl rfl (M.cellsAt (k := 13) 0 rfl rfl)) ?_); clear S a; intro a S
 refine qG [1] S ?_; clear S a; intro a S
 refine st_call (xs := [.tmp 28, .tmp 29]) S (enters_of Tryz.func6 (by decide) rfl) rfl rfl rfl (rows10_any x v xs _ (by
obtain ⟨vs, h1, h2⟩ := hv
exact ⟨vs, M.argW h1, fun i y bs hy hb => M.argW (h2 i y bs hy hb)⟩) h40 hsm) ?_
 rintro _ w4 ⟨b, bR, DD, R, E, E1, rfl, hE, hE1, M1, hT⟩; refine ⟨_, rfl, ?_⟩; clear S a; intro a S
 replace M := (M.join M1).sub (List.sublist_append_left _ _); clear M1
 refine qG [1, 1, 1, 1, 1, 1, 1] S ?_; clear S a; intro a S
 refine nxC (wp_seq (nxD (qG [1, 1] S ?_))); clear S a; intro a S
 refine nxC (st_if (t := 35) S rfl ?_ ?_)
 ·clear S; intro h35 S
  cases h35
 clear S; intro h35 S
 refine st_condF S rfl (wp_skip (nxE (qG [1] S ?_))); clear S a; intro a S
 refine qC (xs := [.tmp 37]) S (qE Tryz.func7) rfl (openD_any (A := E1) hE M hT.up (DS.small hT) (fun k hk => hT.home hk)) ?_
 rintro _ w5 ⟨s, ps, da, dc, lo, hi, cs, es, er, rfl, M1, hBk, hs, hpl, hOp⟩; refine ⟨_, rfl, ?_⟩; clear S M a; intro a S
 obtain ⟨G0, hG0⟩ : ∃ G0, G0 = es ++ E := ⟨_, rfl⟩
 have M : Mem w w5 (rowE lo hi 62 6 (.slice da ps.length dc) ps.length cs :: (G0 ++ E1)) := M1.perm (List.Perm.cons _ (by
  rw [hG0, List.append_assoc]; exact List.perm_append_comm.append_left es))
 clear M1
 refine qG [1, 1, 1] S ?_; clear S a; intro a S
 refine st_alloc S M rfl rfl (zSt.cellsL (.slice none 0 0)).toArray (by kernel_rfl) ?_; clear S M a; intro a w6 bX S M hB
 refine st_storeAll (sz := 273) S M 0 rfl (by kernel_rfl) rfl rfl (by with_reducible first | exact St.len zSt_ok _ | exact St.len (stSu_ok _ _ _) _ | exact St.len hs _ | exact St.len hsY _ | exact St.len hs2 _) (by with_reducible first | exact St.one zSt_ok _ rfl | exact St.one (stSu_ok _ _ _) _ rfl | exact St.one hs _ rfl | exact St.one hsY _ rfl | exact St.one hs2 _ rfl) rfl (by with_reducible first | exact St.len zSt_ok _ | exact St.len (stSu_ok _ _ _) _ | exact St.len hs _ | exact St.len hsY _ | exact St.len hs2 _) ?_; clear M; intro w7 M
 simp only [List.set_cons_zero, List.set_cons_succ] at M
 refine qG [1] S ?_; clear S a; intro a S
 replace S := S.keep [0, 1, 2, 4, 25, 5, 6, 7, 35, 8, 9]
 refine nxA (qG [1] S ?_); clear S a; intro a S
 refine qC (xs := [.tmp 42]) S (qE Tryz.func8) rfl (get9_any (A := _ :: _ :: G0) hE1 M (RS.small hT)) ?_
 rintro _ w8 ⟨rfl, M1, -⟩; refine ⟨_, rfl, ?_⟩; clear S M a; intro a S; have M := M1; clear M1
 simp only [List.cons_append] at M
 obtain ⟨x0, er2, hgs⟩ : ∃ x0 er2, gsR (secS R) = (x0, er2) := ⟨_, _, rfl⟩
 rw [hgs] at S
 refine qG [1, 1, 1] S ?_; clear S a; intro a S
 refine st_alloc S M rfl rfl #[.int .i64 0, .int .i64 0, .int .i64 0, .int .i64 0, .int .i64 0, .int .i64 0, .int .i64 0, .int .i64 0, .int .i64 0, .int .i64 0, .int .i64 0, .int .i64 0, .int .i64 0] (by kernel_rfl) ?_; clear S M a; intro a w9 bU S M hB
 refine qS (sz := 13) (us := [_, _, _, _, _, _, _, _, _, _, _, _, _]) S M 0 ?_; clear M; intro w10 M
 refine qG [1] S ?_; clear S a; intro a S
 refine nxA (qR [1, 2, 1] S M ?_); clear S a; intro a S
 refine qC (xs := [.tmp 47, .tmp 49]) S (qE Tryz.func9) rfl (scan6_both (A := _ :: _ :: _ :: G0) hE1 M (RS.small hT) hgs) ?_
 rintro _ w11 ⟨rs, ra, rc, rlo, rhi, lt, ln, gg, rfl, h90, h24, M1, hsc⟩; refine ⟨_, rfl, ?_⟩; clear S M a; intro a S
 have M := M1.perm (perm_r1 (es := rs.map RB.ent))
 clear M1
 simp only [List.append_eq] at M
 refine qG [1, 1, 1, 1] S ?_; clear S a; intro a S
 refine st_alloc S M rfl rfl #[.int .i64 0, .int .i64 0] (by kernel_rfl) ?_; clear S M a; intro a w12 bL S M hB
 refine qG [1] S ?_; clear S a; intro a S
 refine qS (sz := 2) (us := [_, _]) S M 0 ?_; clear M; intro w13 M
 refine qG [1] S ?_; clear S a; intro a S
 refine nxC (wp_seq (nxD (qG [1, 1, 1] S ?_))); clear S a; intro a S
 refine st_if (t := 56) S rfl ?_ ?_
 ·clear S; intro h56 S
  refine qG [0, 0, 1, 1, 0, 0, 1] S ?_; clear S a; intro a S
  replace S := S.keep [0, 1, 2, 4, 25, 5, 6, 7, 35, 8, 9, 10, 11, 13, 12, 14, 63]
  refine nxC (st_condT S rfl (nxD (qQ (xs := []) S (qE Tryz.func5) rfl (wakes10_any _) M ?_))); clear S M a; intro a w14 S hK M
  refine qG [1] S ?_; clear S a; intro a S
  refine nxC (wp_ret (then_ret (end_one S rfl (res_tmp rfl) ?_)))
  exact ⟨rfl, M.below⟩
 clear S; intro h56 S
 refine qG [1, 1, 1, 1] S ?_; clear S a; intro a S
 refine st_if (t := 60) S rfl ?_ ?_
 ·clear S; intro h60 S
  refine qG [0, 0, 1] S ?_; clear S a; intro a S
  replace S := S.keep [0, 1, 2, 4, 25, 5, 6, 7, 35, 8, 9, 10, 11, 13, 12, 14, 63]
  refine nxC (st_condT S rfl (nxD (qQ (xs := []) S (qE Tryz.func5) rfl (wakes10_any _) M ?_))); clear S M a; intro a w15 S hK M
  refine qG [1] S ?_; clear S a; intro a S
  refine nxC (wp_ret (then_ret (end_one S rfl (res_tmp rfl) ?_)))
  exact ⟨rfl, M.below⟩
 clear S; intro h60 S
 refine qG [1, 1, 1] S ?_; clear S a; intro a S
 replace S := S.keep [0, 1, 2, 4, 25, 5, 6, 7, 35, 8, 9, 10, 11, 13, 12, 14, 63]
 refine nxC (st_if (t := 63) S rfl ?_ ?_)
 ·clear S; intro h63 S
  refine st_condT S rfl (nxD (qQ (xs := []) S (qE Tryz.func5) rfl (wakes10_any _) M ?_)); clear S M a; intro a w16 S hK M
  refine qG [1] S ?_; clear S a; intro a S
  refine nxC (wp_ret (then_ret (end_one S rfl (res_tmp rfl) ?_)))
  exact ⟨rfl, M.below⟩
 clear S; intro h63 S
 refine st_condF S rfl (wp_skip (then_normal (wp_seq ?_)))
 have he0 : er = 0 ∧ er2 = 0 := by
  first
   | exact ⟨by assumption, by assumption⟩
   | (constructor <;> simp_all; done)
 obtain ⟨x1, l, hg1, hRs, hfo⟩ := hOp he0.1
 have hxx : x0 = x1 := by rw [hT.super, hgs] at hg1; exact congrArg Prod.fst hg1
 subst hxx
 have htl := gsR_tail hg1
 rw [hT.scan htl.1] at hRs hfo
 obtain ⟨hrs, rfl, rfl⟩ := hsc he0.2
 obtain ⟨sc, hsc0⟩ : ∃ sc, scanP (sc0 x0.tail) (secsR R x0.tail) = sc := ⟨_, rfl⟩
 rw [hsc0] at hRs hfo hrs M
 clear hsc
 rw [← hrs] at hRs
 have hll : l.length = rs.length := by rw [hRs.len, List.length_map]
 obtain ⟨o9, h9, n9, ps9, hhl, hn9, hall⟩ := foldS_stG x0 l x0.owned (List.replicate 32 zV8) 0 []
 have hh9 : h9.length = 32 := by rw [hhl]; rfl
 have hsE : s = stG x0 o9 x0.tail sc.next h9 n9 ∧ ps = ps9 := by
  have e := hfo.symm.trans (hall x0.tail sc.next)
  exact ⟨congrArg Prod.fst e, congrArg Prod.snd e⟩
 refine wp_region_lit (qY S (y_loadAgg (cs := [_, _, _, _, _, _, _, _, _, _, _, _, _]) S (by kernel_rfl) rfl rfl (M.cellsAt (k := 13) 1 rfl rfl)) ?_); clear S a; intro a S
 refine qY S (y_build (ps := [(0, .tmp 65)]) (pl := [(0, 13), (13, 2), (15, 256), (271, 1), (272, 1)]) (z := zSt.cellsL (.slice none 0 0)) (cs := (stSu x0 0 0).cellsL (.slice none 0 0)) S (by kernel_rfl) rfl ((fillL_one (us := x0.cellsL) (off := 0) (sz := 13) rfl rfl rfl (by rw [St.len zSt_ok]; exact (by decide : 0 + 13 ≤ 273))).trans (by rw [stSu_fill]))) ?_; clear S a; intro a S
 refine st_alloc S M rfl rfl (zSt.cellsL (.slice none 0 0)).toArray (by kernel_rfl) ?_; clear S M a; intro a w17 bY S M hB
 refine st_storeAll (sz := 273) S M 0 rfl (by kernel_rfl) rfl rfl (by with_reducible first | exact St.len zSt_ok _ | exact St.len (stSu_ok _ _ _) _ | exact St.len hs _ | exact St.len hsY _ | exact St.len hs2 _) (by with_reducible first | exact St.one zSt_ok _ rfl | exact St.one (stSu_ok _ _ _) _ rfl | exact St.one hs _ rfl | exact St.one hsY _ rfl | exact St.one hs2 _ rfl) rfl (by with_reducible first | exact St.len zSt_ok _ | exact St.len (stSu_ok _ _ _) _ | exact St.len hs _ | exact St.len hsY _ | exact St.len hs2 _) ?_; clear M; intro w18 M
 simp only [List.set_cons_zero, List.set_cons_succ] at M
 refine nxC (wp_seq (wp_seq ?_))
 replace M := M.drop 2
 simp only [List.eraseIdx_cons_succ, List.eraseIdx_cons_zero] at M
 obtain ⟨dlo, dhi, M1⟩ := M.nilRow 62 6
 clear M
 obtain ⟨G, hG⟩ : ∃ G, G = rowE rlo rhi 57 1 (.slice ra rs.length rc) rs.length (rs.map RB.val) :: (rs.map RB.ent ++ (G0 ++ E1)) := ⟨_, rfl⟩
 have hRow : rowE rlo rhi 57 1 (.slice ra rs.length rc) rs.length (rs.map RB.val) ∈ G := by rw [hG]; exact List.mem_cons_self ..
 have hEnt : ∀ r ∈ rs, r.ent ∈ G := fun r hr => by rw [hG]; exact List.mem_cons_of_mem _ (List.mem_append_left _ (List.mem_map_of_mem hr))
 have hEs : ∀ e ∈ es, e ∈ G := fun e he => by rw [hG, hG0]; exact List.mem_cons_of_mem _ (List.mem_append_right _ (List.mem_append_left _ (List.mem_append_left _ he)))
 rw [← hG] at M1
 have M := M1
 clear M1 hG
 replace M := M.ord [4, 3, 4, 4] (by simp only [ordO, oG, oS, oE, oZ, oB] <;> rfl)
 have hle : rs.length ≤ 24 := h24
 refine wp_region_lit (qG [1] S ?_); clear S a; intro a S
 refine nxC (wp_block (wp_loop_g (fun m a w' => ∃ (k : Nat) (sY : St) (pY : Pl) (ya : Option Addr) (yc ylo yhi : Nat) (ycs : List Value) (ey : List Ent), k ≤ rs.length ∧ m = rs.length - k ∧ sY.ok ∧ pY.length ≤ k ∧ foldS (stSu x0 0 0) [] (l.take k) = (sY, pY) ∧ PrBk ycs pY ey ∧ Sees 145 a [(8, .pointer (some ⟨bX, 0, none⟩)), (12, .slice ra rs.length rc), (13, .pointer (some ⟨bL, 0, none⟩)), (15, .pointer (some ⟨bY, 0, none⟩)), (16, .int .i64 (k : Int))] ∧ Mem w w' (.blk bY (sY.cellsL (.slice ya pY.length yc)).toArray 39 :: .blk bX (s.cellsL (.slice da ps.length dc)).toArray 39 :: .blk bL #[.int .i64 x0.tail, .int .i64 sc.next] 33 :: rowE lo hi 62 6 (.slice da ps.length dc) ps.length cs :: rowE ylo yhi 62 6 (.slice ya pY.length yc) pY.length ycs :: (ey ++ G))) (rs.length) ?_ ?_))
 ·skip
  exact ⟨0, stSu x0 0 0, [], none, 0, dlo, dhi, [], [], Nat.zero_le _, rfl, stSu_ok _ _ _, Nat.le_refl _, rfl, PrBk.nil', S.sub _ rfl, M⟩
 clear S M a; intro m a wl
 rintro ⟨k, sY, pY, ya, yc, ylo, yhi, ycs, ey, hk, rfl, hsY, hpY, hfoY, hBkY, S, M⟩
 refine wp_seq (nxD (qG [1, 1] S ?_)); clear S a; intro a S
 refine qY S (y_lenR (E := 57) S rfl ((M.readIn (.tail _ (.tail _ (.tail _ (.tail _ (.tail _ (List.mem_append_right _ hRow)))))) (by unfold maxLen; omega))) (by kernel_rfl)) ?_; clear S a; intro a S
 refine qG [1] S ?_; clear S a; intro a S
 refine nxC (st_if (t := 70) S rfl ?_ ?_)
 ·clear S; intro h70 S
  refine st_condT S rfl (wp_skip (then_normal (wp_seq (wp_block (wp_seq ?_)))))
  have hkl : k < rs.length := by omega
  obtain ⟨r, hr⟩ : ∃ r, rs[k]? = some r := ⟨_, List.getElem?_eq_getElem hkl⟩
  obtain ⟨q, hq⟩ : ∃ q, l[k]? = some q := ⟨_, List.getElem?_eq_getElem (by omega)⟩
  have hrm := List.mem_of_getElem? hr
  have hr90 := h90 r hrm
  have hrq := hRs.get k q r.bs hq (by rw [List.getElem?_map, hr]; rfl)
  have hqm : q.1.may q.2 = true := by
   have h2 := hrq.2
   unfold takes at h2
   cases h3 : q.1.may q.2 with
   | true => rfl
   | false => rw [h3] at h2; cases h2
  refine wp_region_lit (qG [1, 1] S ?_); clear S a; intro a S
  refine qY S (y_indexR (e := 57) (sz := 1) S (by kernel_rfl) rfl ((M.readIn (.tail _ (.tail _ (.tail _ (.tail _ (.tail _ (List.mem_append_right _ hRow)))))) (by unfold maxLen; omega))) rfl (by first | omega | (simp; done) | (simp; omega))) ?_; clear S a; intro a S
  try simp only [Int.toNat_natCast, Nat.mul_one, Nat.zero_add] at S
  refine qY S (y_load S (by kernel_rfl) rfl ((M.readIn (.tail _ (.tail _ (.tail _ (.tail _ (.tail _ (List.mem_append_right _ hRow)))))) (by unfold maxLen; omega)).at_.one k (by rw [List.getElem?_map, hr]; rfl))) ?_; clear S a; intro a S
  refine qC (xs := [.tmp 77]) S (qE Tryz.func10) rfl (rRead_any r.val r.bs _ (M.readIn (.tail _ (.tail _ (.tail _ (.tail _ (.tail _ (List.mem_append_right _ (hEnt r hrm))))))) (by unfold maxLen; omega))) ?_
  rintro _ w19 hP; obtain ⟨rr, rx, wa, wcp, c, rfl, hF, h8, hs31, hcc⟩ := ReadRP.form hP; refine ⟨_, rfl, ?_⟩; clear S a; intro a S
  obtain ⟨wlo, whi, -, M1⟩ := M.pushFresh hF
  clear M hP hF
  have M := M1
  clear M1
  obtain ⟨rfl, rfl, rfl⟩ : c = 0 ∧ rr = q.1 ∧ rx = q.2 := by
   rcases hcc with ⟨h1, h2, h3⟩ | ⟨-, -, -, h4⟩
   ·have := enc_inj h2 hqm (rest := []) (by rw [h3, hrq.1, List.append_nil])
    exact ⟨h1, this.1, this.2.1⟩
   ·exact absurd hrq.1 (h4 _ _ hqm)
  refine qG [1, 1, 1] S ?_; clear S a; intro a S
  refine st_alloc S M rfl rfl #[.int .i8 0, .int .i64 0, .int .i64 0, .int .i64 0, .bool false, .slice none 0 0, .int .i64 0, .int .i64 0, .int .i64 0, .int .i64 0, .int .i64 0, .int .i64 0] (by kernel_rfl) ?_; clear S M a; intro a w20 bT S M hB
  refine qS (sz := 12) (us := [_, _, _, _, _, _, _, _, _, _, _, _]) S M 0 ?_; clear M; intro w21 M
  refine qG [1] S ?_; clear S a; intro a S
  refine nxC (wp_seq (nxD (qG [1, 1] S ?_))); clear S a; intro a S
  refine nxC (st_if (t := 82) S rfl ?_ ?_)
  ·clear S; intro h82 S
   exact absurd rfl h82
  clear S; intro h82 S
  refine st_condF S rfl (wp_skip (nxE (qY S (y_loadAgg (k := 273) (cs := _) S (by kernel_rfl) rfl (by with_reducible first | exact St.len zSt_ok _ | exact St.len (stSu_ok _ _ _) _ | exact St.len hs _ | exact St.len hsY _ | exact St.len hs2 _) (M.cellsAt 2 rfl cutL_all)) ?_))); clear S a; intro a S
  refine qY S (y_loadAgg (cs := [_, _, _, _, _, _, _, _, _, _, _, _]) S (by kernel_rfl) rfl rfl (M.cellsAt (k := 12) 0 rfl rfl)) ?_; clear S a; intro a S
  refine qC (xs := [.tmp 84, .tmp 85]) S (qE Tryz.func11) rfl (apply_any sY hsY _ ycs pY _ ((hBkY.prs M (List.mem_of_getElem? (show _[6]? = _ from rfl)) (fun e he => by simp [he]) (by unfold maxLen; omega)).wide (Nat.zero_le _) (Nat.le_refl _)) (by omega) hBkY.short q.1 wa wcp q.2 (M.readAll 1 rfl (by unfold maxLen; omega)) (by omega) (by omega)) ?_
  rintro _ w22 hA; obtain ⟨s2, ps2, c2, da2, dc2, lo2, hi2, cs2, es2, rfl, hs2, M2, hBk2, hc2⟩ := apply_form hA (by omega); refine ⟨_, rfl, ?_⟩; clear S a hA; intro a S; have hK := M2.below
  obtain ⟨rfl, rfl, rfl⟩ : c2 = 0 ∧ s2 = appSt sY pY q.1 q.2 ∧ ps2 = (stepO pY q.1 q.2).1 := by
   rcases hc2 with ⟨-, h1, h2, h3⟩ | ⟨h1, -⟩
   ·exact ⟨h1, h2, h3⟩
   ·rw [hrq.2] at h1; cases h1
  replace M := (M.join M2).perm (perm_pre [_, _, _, _, _, _, _])
  simp only [List.cons_append, List.nil_append] at M
  clear M2
  refine qG [1, 1, 1] S ?_; clear S a; intro a S
  refine st_alloc S M rfl rfl (zSt.cellsL (.slice none 0 0)).toArray (by kernel_rfl) ?_; clear S M a; intro a w23 bV S M hB
  refine st_storeAll (sz := 273) S M 0 rfl (by kernel_rfl) rfl rfl (by with_reducible first | exact St.len zSt_ok _ | exact St.len (stSu_ok _ _ _) _ | exact St.len hs _ | exact St.len hsY _ | exact St.len hs2 _) (by with_reducible first | exact St.one zSt_ok _ rfl | exact St.one (stSu_ok _ _ _) _ rfl | exact St.one hs _ rfl | exact St.one hsY _ rfl | exact St.one hs2 _ rfl) rfl (by with_reducible first | exact St.len zSt_ok _ | exact St.len (stSu_ok _ _ _) _ | exact St.len hs _ | exact St.len hsY _ | exact St.len hs2 _) ?_; clear M; intro w24 M
  simp only [List.set_cons_zero, List.set_cons_succ] at M
  refine qG [1] S ?_; clear S a; intro a S
  replace S := S.keep [8, 12, 13, 15, 16, 70, 17, 18, 82, 19, 20]
  refine nxC (wp_seq (nxD (qG [1, 1] S ?_))); clear S a; intro a S
  refine nxC (st_if (t := 90) S rfl ?_ ?_)
  ·clear S; intro h90 S
   exact absurd rfl h90
  clear S; intro h90 S
  refine st_condF S rfl (wp_skip (nxF (qY S (y_loadAgg (k := 273) (cs := _) S (by kernel_rfl) rfl (by with_reducible first | exact St.len zSt_ok _ | exact St.len (stSu_ok _ _ _) _ | exact St.len hs _ | exact St.len hsY _ | exact St.len hs2 _) (M.cellsAt 0 rfl cutL_all)) ?_))); clear S a; intro a S
  refine st_storeAll (sz := 273) S M 3 rfl (by kernel_rfl) rfl rfl (by with_reducible first | exact St.len zSt_ok _ | exact St.len (stSu_ok _ _ _) _ | exact St.len hs _ | exact St.len hsY _ | exact St.len hs2 _) (by with_reducible first | exact St.one zSt_ok _ rfl | exact St.one (stSu_ok _ _ _) _ rfl | exact St.one hs _ rfl | exact St.one hsY _ rfl | exact St.one hs2 _ rfl) rfl (by with_reducible first | exact St.len zSt_ok _ | exact St.len (stSu_ok _ _ _) _ | exact St.len hs _ | exact St.len hsY _ | exact St.len hs2 _) ?_; clear M; intro w25 M
  simp only [List.set_cons_zero, List.set_cons_succ] at M
  refine wpList_nil (block_normal (nxF (qG [1] S ?_))); clear S a; intro a S
  (first | refine qY S (y_addN S rfl rfl (by omega)) ?_ | refine qY S (y_int S rfl rfl rfl) ?_); clear S a; intro a S
  refine qG [1] S ?_; clear S a; intro a S
  refine nxC ?_
  skip
  have hsl := stepP_len pY q.1 q.2
  replace M := M.drop 0
  simp only [List.eraseIdx_cons_succ, List.eraseIdx_cons_zero] at M
  replace M := M.drop 0
  simp only [List.eraseIdx_cons_succ, List.eraseIdx_cons_zero] at M
  replace M := M.drop 0
  simp only [List.eraseIdx_cons_succ, List.eraseIdx_cons_zero] at M
  replace M := M.drop 4
  simp only [List.eraseIdx_cons_succ, List.eraseIdx_cons_zero] at M
  exact ⟨rs.length - (k + 1), by omega, k + 1, _, _, da2, dc2, lo2, hi2, cs2, es2, by omega, rfl, hs2, by omega, by rw [foldS_app _ _ hq, hfoY], hBk2, S.sub _ rfl, M.sub (.cons_cons _ (.cons_cons _ (.cons_cons _ (.cons_cons _ (.cons_cons _ ((List.Sublist.refl es2).append (List.sublist_append_right ey G)))))))⟩
 clear S; intro h70 S
 refine st_condF S rfl (wp_exit (then_exit (then_exit (block_hit (then_normal (wp_seq (wp_seq ?_)))))))
 obtain rfl : k = rs.length := by omega
 have hyE : sY = stG x0 o9 0 0 h9 n9 ∧ pY = ps9 := by
  rw [List.take_of_length_le (by omega)] at hfoY
  have e := hfoY.symm.trans (hall 0 0)
  exact ⟨congrArg Prod.fst e, congrArg Prod.snd e⟩
 obtain ⟨hsE1, hpE⟩ := hsE
 obtain ⟨hsY1, hpY1⟩ := hyE
 rw [← hpE] at hpY1
 subst hpY1
 have hnd : (namesP pY).Nodup := by
  have := names_foldS l (stSu x0 0 0) [] (by simp [namesP])
  rw [show foldS (stSu x0 0 0) [] l = (sY, pY) by rw [List.take_of_length_le (by omega)] at hfoY; exact hfoY] at this
  exact this
 refine wp_region_lit (qG [1] S ?_); clear S a; intro a S
 refine nxC (wp_block (wp_loop_g (fun m a w' => ∃ (i : Nat), i ≤ pY.length ∧ m = pY.length - i ∧ Sees 145 a [(8, .pointer (some ⟨bX, 0, none⟩)), (12, .slice ra rs.length rc), (13, .pointer (some ⟨bL, 0, none⟩)), (15, .pointer (some ⟨bY, 0, none⟩)), (21, .int .i64 (i : Int))] ∧ Mem w w' (.blk bY (sY.cellsL (.slice ya pY.length yc)).toArray 39 :: .blk bX (s.cellsL (.slice da pY.length dc)).toArray 39 :: .blk bL #[.int .i64 x0.tail, .int .i64 sc.next] 33 :: rowE lo hi 62 6 (.slice da pY.length dc) pY.length cs :: rowE ylo yhi 62 6 (.slice ya pY.length yc) pY.length ycs :: (ey ++ G))) (pY.length) ?_ ?_))
 ·skip
  exact ⟨0, Nat.zero_le _, rfl, S.sub _ rfl, M⟩
 clear S M a; intro m a wl
 rintro ⟨i, hi9, rfl, S, M⟩
 refine wp_seq (nxD (qG [1, 272] S ?_)); clear S a; intro a S
 refine qY S (y_load S (by kernel_rfl) rfl (M.cell 0 rfl (St.doubt hsY _))) ?_; clear S a; intro a S
 refine qY S (y_lenS (E := 62) S rfl (by kernel_rfl)) ?_; clear S a; intro a S
 refine qG [1] S ?_; clear S a; intro a S
 refine nxC (st_fi (t := 96) S rfl ?_ ?_)
 ·clear S; intro h96 S
  refine st_condF S rfl (wp_exit (then_exit (then_exit (block_hit (then_normal (wp_seq ?_))))))
  subst hsE1
  subst hsY1
  have hn0 : n9 = (rs.length : Int) := by
   have := hn9 (by omega)
   omega
  refine wp_region_lit (qY S (y_loadAgg (k := 273) (cs := _) S (by kernel_rfl) rfl (by with_reducible first | exact St.len zSt_ok _ | exact St.len (stSu_ok _ _ _) _ | exact St.len hs _ | exact St.len hsY _ | exact St.len hs2 _) (M.cellsAt 1 rfl cutL_all)) ?_); clear S a; intro a S
  refine qY S (y_loadAgg (k := 273) (cs := _) S (by kernel_rfl) rfl (by with_reducible first | exact St.len zSt_ok _ | exact St.len (stSu_ok _ _ _) _ | exact St.len hs _ | exact St.len hsY _ | exact St.len hs2 _) (M.cellsAt 0 rfl cutL_all)) ?_; clear S a; intro a S
  refine qQ (xs := [.tmp 117, .tmp 118]) S (qE Tryz.func13) rfl (same10_any x0 o9 x0.tail sc.next n9 0 0 n9 h9 hh9 da ya dc yc cs ycs pY _ ((hBk.prs M (List.mem_of_getElem? (show _[3]? = _ from rfl)) (fun e he => by simp [hEs e he]) (by unfold maxLen; omega)).wide (Nat.zero_le _) (Nat.le_refl _)) ((hBkY.prs M (List.mem_of_getElem? (show _[4]? = _ from rfl)) (fun e he => by simp [he]) (by unfold maxLen; omega)).wide (Nat.zero_le _) (Nat.le_refl _))) M ?_; clear S M a; intro a w28 S hK M
  refine qG [1] S ?_; clear S a; intro a S
  refine st_fi (t := 120) S rfl ?_ ?_
  ·clear S; intro h120 S
   simp at h120
  clear S; intro h120 S
  refine qG [14] S ?_; clear S a; intro a S
  refine qY S (y_loadAgg (cs := [.int .i64 x0.tail, .int .i64 sc.next]) S (by kernel_rfl) rfl rfl (M.cellsAt (k := 2) 1 rfl (stG_log _ _ _ _ _ _ _))) ?_; clear S a; intro a S
  refine qY S (y_loadAgg (cs := [_, _]) S (by kernel_rfl) rfl rfl (M.cellsAt (k := 2) 2 rfl rfl)) ?_; clear S a; intro a S
  refine qY S (y_eqlG (by kernel_rfl) S rfl rfl (fun w => equalLg 9998 x0.tail sc.next w)) ?_; clear S a; intro a S
  refine qG [1, 1] S ?_; clear S a; intro a S
  refine st_fi (t := 126) S rfl ?_ ?_
  ·clear S; intro h126 S
   simp at h126
  clear S; intro h126 S
  refine qG [273] S ?_; clear S a; intro a S
  refine qY S (y_load S (by kernel_rfl) rfl (M.cell 1 rfl (St.getA hs _))) ?_; clear S a; intro a S
  refine qG [1] S ?_; clear S a; intro a S
  refine qY S (y_lenR (E := 57) S rfl ((M.readIn (.tail _ (.tail _ (.tail _ (.tail _ (.tail _ (List.mem_append_right _ hRow)))))) (by unfold maxLen; omega))) (by kernel_rfl)) ?_; clear S a; intro a S
  refine qG [1, 1, 1] S ?_; clear S a; intro a S
  refine st_fi (t := 133) S rfl ?_ ?_
  ·clear S; intro h133 S
   exact absurd hn0 (by first | exact h133 | (intro e; exact h133 e))
  clear S; intro h133 S
  refine qG [272] S ?_; clear S a; intro a S
  refine qY S (y_load S (by kernel_rfl) rfl (M.cell 1 rfl (St.doubt hs _))) ?_; clear S a; intro a S
  refine qY S (y_lenS (E := 62) S rfl (by kernel_rfl)) ?_; clear S a; intro a S
  refine qG [272] S ?_; clear S a; intro a S
  refine qY S (y_load S (by kernel_rfl) rfl (M.cell 0 rfl (St.doubt hsY _))) ?_; clear S a; intro a S
  refine qY S (y_lenS (E := 62) S rfl (by kernel_rfl)) ?_; clear S a; intro a S
  refine qG [1, 1, 1] S ?_; clear S a; intro a S
  refine st_fi (t := 142) S rfl ?_ ?_
  ·clear S; intro h142 S
   first | omega | (simp at h142; omega)
  clear S; intro h142 S
  refine qQ (xs := []) S (qE Tryz.func5) rfl (wakes10_any _) M ?_; clear S M a; intro a w29 S hK M
  refine qG [1, 1] S ?_; clear S a; intro a S
  replace S := S.keep [8, 12, 13, 15, 21, 96, 4]
  refine nxC (wp_ret (end_one S rfl (res_tmp rfl) ?_))
  exact ⟨ret_bool (by first | rfl | (simp; done) | (simp; omega)), M.below⟩
 clear S; intro h96 S
 refine st_condT S rfl (wp_skip (then_normal (wp_seq (wp_block (wp_seq ?_)))))
 obtain ⟨q, hq⟩ : ∃ q, pY[i]? = some q := ⟨_, List.getElem?_eq_getElem (by omega)⟩
 obtain ⟨qa, qc, qlo, qhi, hrow, -, -⟩ := hBkY.2.2 i q hq
 refine wp_regionK [] #[false, false, false, false, false, false, false, false, false, false, false, false, false] rfl M (by kernel_rfl) ?_; clear M; intro w26 M
 refine k_read 0 S rfl (fun w hW => have M := M.grow hW; y_loadAgg (k := 273) (cs := _) S (by kernel_rfl) rfl (by with_reducible first | exact St.len zSt_ok _ | exact St.len (stSu_ok _ _ _) _ | exact St.len hs _ | exact St.len hsY _ | exact St.len hs2 _) (M.cellsAt 1 rfl cutL_all)) ?_; clear S a; intro a S
 refine k_pure 1 S rfl (fun w => y_fieldAddr (k := 271) S (by kernel_rfl) rfl) ?_; clear S a; intro a S
 refine k_read 2 S rfl (fun w hW => have M := M.grow hW; y_load S (by kernel_rfl) rfl (M.cell 0 rfl (St.doubt hsY _))) ?_; clear S a; intro a S
 refine k_pure 3 S rfl (fun w => y_move S rfl) ?_; clear S a; intro a S
 refine k_read 4 S rfl (fun w hW => have M := M.grow hW; y_indexR (e := 62) (sz := 6) S (by kernel_rfl) rfl (M.readAll 4 rfl (by unfold maxLen; omega)) rfl (by first | omega | (simp; done) | (simp; omega))) ?_; clear S a; intro a S
 try simp only [Int.toNat_natCast, Nat.mul_one, Nat.zero_add] at S
 refine k_pure 5 S rfl (fun w => y_fieldAddr (k := 0) S (by kernel_rfl) rfl) ?_; clear S a; intro a S
 refine k_read 6 S rfl (fun w hW => have M := M.grow hW; y_loadAgg S (by kernel_rfl) rfl rfl (((M.readAll 4 rfl (by unfold maxLen; omega)).at_.row (i := i) hrow rfl).sub (i := 0) (k := 3))) ?_; clear S a; intro a S
 refine k_one 7 rfl (by kernel_rfl) ?_
 refine qC (xs := [.tmp 100, .tmp 106]) S (qE Tryz.func12) rfl (find_any s hs _ cs pY q.1.name _ ((hBk.prs M (List.mem_of_getElem? (show _[3]? = _ from rfl)) (fun e he => by simp [hEs e he]) (by unfold maxLen; omega)).wide (Nat.zero_le _) (Nat.le_refl _))) ?_
 rintro _ w27 ⟨kk, yy, rfl, hK, hy⟩; refine ⟨_, rfl, ?_⟩; clear S a; intro a S; replace M := M.grow hK
 obtain ⟨rfl, rfl⟩ : i = kk ∧ yy = true := by
  rw [findP_nodup hnd hq] at hy
  rcases hy with ⟨h1, h2⟩ | ⟨-, -, h2⟩
  ·exact ⟨Option.some.inj h2, h1⟩
  ·cases h2
 refine wpList_nil ?_; refine then_normal ?_; refine ⟨fun _ => hK, ?_⟩
 refine k_pure 8 S rfl (fun w => y_move S rfl) ?_; clear S a; intro a S
 refine k_pure 9 S rfl (fun w => y_extract S rfl rfl) ?_; clear S a; intro a S
 refine k_pure 10 S rfl (fun w => y_extract S rfl rfl) ?_; clear S a; intro a S
 refine k_pure 11 S rfl (fun w => y_assign S rfl) ?_; clear S a; intro a S
 refine k_pure 12 S rfl (fun w => y_assign S rfl) ?_; clear S a; intro a S
 refine k_end (by kernel_rfl) ?_
 replace S := S.keep [8, 12, 13, 15, 21, 96, 22, 23]
 refine nxE (qG [1, 1, 1] S ?_); clear S a; intro a S
 refine st_if (t := 112) S rfl ?_ ?_
 ·clear S; intro h112 S
  refine qG [0, 0, 0, 1] S ?_; clear S a; intro a S
  refine nxC (st_condT S rfl (nxD (qG [1] S ?_))); clear S a; intro a S
  refine nxC (wp_ret (block_ret (then_ret (then_ret (block_ret (then_ret (end_one S rfl (res_tmp rfl) ?_)))))))
  exfalso; first | omega | simp_all
 clear S; intro h112 S
 refine qG [1, 1, 1, 1] S ?_; clear S a; intro a S
 refine nxC (st_if (t := 116) S rfl ?_ ?_)
 ·clear S; intro h116 S
  refine st_condT S rfl (nxD (qG [1] S ?_)); clear S a; intro a S
  refine nxC (wp_ret (block_ret (then_ret (then_ret (block_ret (then_ret (end_one S rfl (res_tmp rfl) ?_)))))))
  exfalso; first | omega | simp_all
 clear S; intro h116 S
 refine st_condF S rfl (wp_skip (block_normal (nxF (qG [1] S ?_)))); clear S a; intro a S
 (first | refine qY S (y_addN S rfl rfl (by omega)) ?_ | refine qY S (y_int S rfl rfl rfl) ?_); clear S a; intro a S
 refine qG [1] S ?_; clear S a; intro a S
 refine nxC ?_
 exact ⟨pY.length - (i + 1), by omega, i + 1, by omega, rfl, S.sub _ rfl, M⟩
end Go.Proofs.YtodfphphidhjbaaGreat

namespace Go.Proofs.YtodfphphidhjbaaGreat
open Go.ChangeShapes Go.WideShapes Go.ChangeAt Go.RowKit Go.Joins
theorem Tryz.own : ownKnob Tryz.prog.godebug = none := by kernel_rfl
theorem Tryz.laidOut : laidOutB Tryz.prog = true := by kernel_rfl
section
variable {H : Type} {enc : TypeId × Value → H} {P : Program}
theorem trodAll_stays (hl : laidOutB P = true) {W W' : World} (hb : Below W.heap.size W W') {sp : Nat → Bool} : ∀ (ts : List TypeId) (vs : List Value) (ds : List (DataW H)) (ps : List MemPlace),
 (∀ t ∈ ts, P.readableRec t = true ∧ t < P.types.size) → (∀ p ∈ ps, p.block < W.heap.size ∧ sp p.block = true) →
 DataW.TrodAll enc P W 0 (fun _ => true) true ts vs ds ps → DataW.TrodAll enc P W' 0 sp true ts vs ds ps
 | [], vs, ds, ps, _, _, h => by
   obtain ⟨rfl, rfl, rfl⟩ := trodAll_nil h
   exact trodAll_mk0
 | t :: ts, vs, ds, ps, ht, hp, h => by
   obtain ⟨v, vs', d, ds', p, q, rfl, rfl, rfl, h0, h1⟩ := trodAll_cons h
   exact trodAll_cons_mk (WideElems.Trod_stays hl (ht t (by simp)).1 (ht t (by simp)).2 h0 (fun x hx => hb.same (hp x (by simp [hx])).1) (fun x hx => (hp x (by simp [hx])).2))
    (trodAll_stays hl hb ts vs' ds' q (fun t' h' => ht t' (by simp [h'])) (fun x hx => hp x (by simp [hx])) h1)
theorem law_post {f : Func} {s : ChangeSpec} {apart fresh handsOn again : Bool} {W W' : World} {args : Array Value} {ds gs : List (DataW H)} {before : List MemPlace} {tb : TypeId}
 (hl : laidOutB P = true) (hts : ∀ t ∈ f.params.toList, P.readableRec t = true ∧ t < P.types.size) (hv : s.vars = []) (hrt : f.resultTypes = #[tb]) (htb : P.underlying tb = some .bool)
 (hs : ∀ ds : List (DataW H), ds.length = f.params.size → s.fn H ds = { results := [.lit (.bool true)], args := ds })
 (hW : DataW.Whole enc P f.params.toList s.vars apart W args.toList ds gs before) (hb : Below W.heap.size W W') : s.post enc P f apart fresh handsOn again W args (.bool true) W' := by
 have hlt : ∀ p ∈ before, p.block < W.heap.size := fun p hp => hW.lt p hp
 have hW' := hW
 obtain ⟨p, q, hA, hV, rfl, hfz, hnd⟩ := hW
 rw [hv] at hV
 obtain ⟨rfl, rfl⟩ := trodVars_none hV
 have hlen : ds.length = f.params.size := by
  have : ∀ (ts : List TypeId) (vs : List Value) (ds : List (DataW H)) (ps : List MemPlace), DataW.TrodAll enc P W 0 (fun _ => true) true ts vs ds ps → ds.length = ts.length := by
   intro ts
   induction ts with
   | nil => intro vs ds ps h; obtain ⟨_, rfl, _⟩ := trodAll_nil h; rfl
   | cons t ts ih => intro vs ds ps h; obtain ⟨v, vs', d, ds', p, q, _, rfl, _, _, h1⟩ := trodAll_cons h; simp [ih _ _ _ h1]
  simpa using this _ _ _ _ hA
 have e := hs ds hlen
 have args_read : ∀ sp : Nat → Bool, (∀ x ∈ p ++ [], sp x.block = true) → DataW.TrodAll enc P W' 0 sp true f.params.toList args.toList ds p := fun sp hsp =>
  trodAll_stays hl hb _ _ _ _ hts (fun x hx => ⟨hlt x (by simp [hx]), hsp x (by simp [hx])⟩) hA
 have res_read : ∀ (b : Nat) (sp : Nat → Bool) (hd : Bool), DataW.TrodAll enc P W' b sp hd f.resultTypes.toList (Value.resultList f.resultTypes.size (.bool true)) [.lit (.bool true)] [] := fun b sp hd => by
  rw [hrt]; exact trodAll_mk1 (shut_bool htb _)
 have no_vars : ∀ sp : Nat → Bool, DataW.TrodVars enc P W' sp s.vars ([] : List (DataW H)) [] := fun sp => by rw [hv]; rfl
 have hold : ∀ x ∈ p ++ [], (fun b => decide (b < W.heap.size)) x.block = true := fun x hx => by simpa using hlt x hx
 have e' : s.fn H (ds ++ []) = { results := [.lit (.bool true)], args := ds } := by rw [List.append_nil]; exact e
 refine ⟨ds, [], p ++ [], [], p, [], hW', ?_, ?_, ?_, World.keptBut_mono (fun x hx => ⟨hx, ?_⟩) (hb.frame (· ∈ p ++ [])), fun _ => ?_⟩
 ·rw [e']; exact res_read _ _ _
 ·rw [e']; exact args_read _ hold
 ·rw [e']; exact no_vars _
 ·exact Or.inr (by simpa using hx)
 ·refine ⟨ok_one hrt rfl (okWide_bool_mk htb _), _, _, ([] ++ p) ++ [], ⟨[] ++ p, [], trodAll_append (args_read _ (fun _ _ => rfl)) (res_read _ _ _), no_vars _, rfl, fun b off hx => ?_, fun ha => by simpa using hnd ha⟩, fun x hx _ => by simpa using hx⟩
  have hin : MemPlace.cell b off ∈ p ++ [] := by simpa using hx
  rw [hb.frozen (hlt _ hin)]
  exact hfz b off hin
end
end Go.Proofs.YtodfphphidhjbaaGreat
namespace Go.Proofs.YtodfphphidhjbaaGreat
open Go.ChangeShapes Go.WideShapes Go.ChangeAt Go.RowKit Go.Joins
section
variable {H : Type} {enc : TypeId × Value → H} {P : Program} {W : World} {base : Nat} {t : TypeId} {v : Value} {d : DataW H} {ps : List MemPlace}
theorem cells_one {x : Value} (h : v.cells.toList = [x]) (hna : ∀ cs, v ≠ .agg cs) : v = x := by
 cases v <;> first | exact absurd rfl (hna _) | (simp [Value.cells] at h; exact h)
end
end Go.Proofs.YtodfphphidhjbaaGreat
namespace Go.Proofs.YtodfphphidhjbaaGreat
open Go.ChangeShapes Go.WideShapes Go.ChangeAt Go.RowKit Go.Joins
section
variable {H : Type} {enc : TypeId × Value → H} {P : Program} {W : World} {base : Nat} {t : TypeId} {v : Value} {d : DataW H} {ps : List MemPlace}
end
end Go.Proofs.YtodfphphidhjbaaGreat
namespace Go.Proofs.YtodfphphidhjbaaGreat
open Go.ChangeShapes Go.WideShapes Go.ChangeAt Go.RowKit Go.Joins
section
variable {H : Type} {enc : TypeId × Value → H} {P : Program} {W : World} {t : TypeId} {cs : List Value}
def Rdt (enc : TypeId × Value → H) (P : Program) (W : World) (t : TypeId) (cs : List Value) : Prop := ∃ n x, DataW.trod enc P W 0 (fun _ => true) true n t cs = some x
theorem Rdt.int {k : IntKind} (h : Rdt enc P W t cs) (ht : P.underlying t = some (.int k)) : ∃ z, cs = [.int k z] ∧ k.min ≤ z ∧ z ≤ k.max := by
 obtain ⟨n, x, h⟩ := h
 obtain ⟨z, e, -, hw⟩ := DataW.trod_int ht h
 simp only [Lit.wf, Bool.and_eq_true, decide_eq_true_eq] at hw
 exact ⟨z, e, hw⟩
theorem Rdt.i64 (h : Rdt enc P W t cs) (ht : P.underlying t = some (.int .i64)) : ∃ z, cs = [.int .i64 z] ∧ -9223372036854775808 ≤ z ∧ z ≤ 9223372036854775807 := by
 obtain ⟨z, e, h1, h2⟩ := h.int ht
 have e1 : IntKind.i64.min = -9223372036854775808 := rfl
 have e2 : IntKind.i64.max = 9223372036854775807 := rfl
 exact ⟨z, e, by omega, by omega⟩
theorem Rdt.u8 (h : Rdt enc P W t cs) (ht : P.underlying t = some (.int .u8)) : ∃ b : UInt8, cs = [.int .u8 (b.toNat : Int)] := by
 obtain ⟨z, e, h1, h2⟩ := h.int ht
 have e1 : IntKind.u8.min = 0 := rfl
 have e2 : IntKind.u8.max = 255 := rfl
 refine ⟨UInt8.ofNat z.toNat, ?_⟩
 rw [e]; simp; omega
theorem Rdt.len_struct {fs : Array Field} (h : Rdt enc P W t cs) (ht : P.underlying t = some (.struct fs)) : cs.length = P.cellsOf t := by
 obtain ⟨n, x, h⟩ := h
 obtain ⟨xs, m, -, -, hl, -, -⟩ := DataW.trod_struct ht h
 exact hl
theorem Rdt.field {fs : Array Field} (h : Rdt enc P W t cs) (ht : P.underlying t = some (.struct fs)) (i : Nat) {f : Field} (hf : fs[i]? = some f) {k : Nat} (hk : P.cellsOf f.type = k) : Rdt enc P W f.type ((cs.drop f.offset).take k) := by
 obtain ⟨n, x, h⟩ := h
 obtain ⟨xs, m, -, -, hl, hlen, hx⟩ := DataW.trod_struct ht h
 have hlt : i < xs.length := by rw [hlen]; exact (Array.getElem?_eq_some_iff.1 hf).1
 subst hk
 exact ⟨m, xs[i], by rw [← List.getElem?_eq_getElem hlt]; exact hx i f hf⟩
theorem Rdt.elem {m : Nat} {e : TypeId} (h : Rdt enc P W t cs) (ht : P.underlying t = some (.array m e)) {k : Nat} (hk : P.cellsOf e = k) (i : Nat) (hi : i < m) : Rdt enc P W e ((cs.drop (i * k)).take k) := by
 obtain ⟨n, x, h⟩ := h
 obtain ⟨xs, q, -, -, hl, hlen, hx⟩ := DataW.trod_array ht h
 have hlt : i < xs.length := by rw [hlen]; exact hi
 subst hk
 exact ⟨q, xs[i], by rw [← List.getElem?_eq_getElem hlt]; exact hx i hi⟩
theorem list_of {α : Type} {Q : Nat → α → Prop} : ∀ (n : Nat), (∀ i, i < n → ∃ a, Q i a) → ∃ xs : List α, xs.length = n ∧ ∀ i a, xs[i]? = some a → Q i a
 | 0, _ => ⟨[], rfl, fun i a h => by simp at h⟩
 | n + 1, h => by
   obtain ⟨xs, hl, hx⟩ := list_of n (fun i hi => h i (by omega))
   obtain ⟨a, ha⟩ := h n (by omega)
   refine ⟨xs ++ [a], by simp [hl], fun i b hb => ?_⟩
   rcases Nat.lt_or_ge i n with hi | hi
   ·rw [List.getElem?_append_left (by omega)] at hb; exact hx i b hb
   ·rw [List.getElem?_append_right (by omega)] at hb
    have : i - xs.length = 0 := by
     rcases Nat.eq_zero_or_pos (i - xs.length) with h0 | h0
     ·exact h0
     ·rw [List.getElem?_eq_none (by simp; omega)] at hb; cases hb
    rw [this] at hb
    obtain rfl : a = b := by simpa using hb
    obtain rfl : i = n := by omega
    exact ha
theorem addr_add2 (ad : Addr) (m j : Nat) : (ad.add m).add j = ad.add (m + j) := by
 unfold Addr.add
 by_cases h1 : m = 0
 ·subst h1; simp
 ·by_cases h2 : j = 0
  ·subst h2; simp
  ·simp [h1, h2, Nat.add_assoc]
theorem flat_get {sz : Nat} : ∀ (l : List (List Value)) (i j : Nat) (r : List Value), (∀ r ∈ l, r.length = sz) → l[i]? = some r → j < sz → l.flatten[i * sz + j]? = r[j]?
 | [], i, j, r, _, h, _ => by simp at h
 | x :: l, 0, j, r, hl, h, hj => by
   obtain rfl : x = r := by simpa using h
   have := hl x (by simp)
   rw [Nat.zero_mul, Nat.zero_add, List.flatten_cons, List.getElem?_append_left (by omega)]
 | x :: l, i + 1, j, r, hl, h, hj => by
   have hx := hl x (by simp)
   have := flat_get l i j r (fun q hq => hl q (by simp [hq])) (by simpa using h) hj
   rw [List.flatten_cons, List.getElem?_append_right (by rw [hx, Nat.succ_mul]; omega), ← this, hx]
   congr 1; rw [Nat.succ_mul]; omega
theorem flat_len {sz : Nat} : ∀ (l : List (List Value)), (∀ r ∈ l, r.length = sz) → l.flatten.length = l.length * sz
 | [], _ => by simp
 | x :: l, hl => by rw [List.flatten_cons, List.length_append, flat_len l (fun q hq => hl q (by simp [hq])), hl x (by simp), List.length_cons, Nat.succ_mul]; omega
theorem Rdt.rows {α : Type} {Φ : α → List Value → Prop} {e sz : Nat} (h : Rdt enc P W t cs) (ht : P.underlying t = some (.slice e)) (hc : P.cellsOf e = sz) (hsz : 0 < sz) (hl : ∀ a cs, Φ a cs → cs.length = sz) (he : ∀ cs, Rdt enc P W e cs → ∃ a, Φ a cs) :
 ∃ u css, ∃ xs : List α, cs = [u] ∧ Rd 0 W.heap.size W sz u xs.length css ∧ ∀ i a, xs[i]? = some a → Φ a ((css.drop (i * sz)).take sz) := by
 obtain ⟨n, x, h⟩ := h
 rcases DataW.trod_slice ht h with ⟨rfl, -⟩ | ⟨ad, len, cap, elems, rest, m, -, rfl, -, -, hlc, hcm, hlen, hel, -, -⟩
 ·exact ⟨_, [], [], rfl, Rd.nil _ _ _ _, fun i a h => by simp at h⟩
 ·have each : ∀ i, i < len → ∃ q : α × List Value, W.cells? 0 (ad.add (i * sz)) sz = some q.2 ∧ Φ q.1 q.2 := fun i hi => by
   have h1 := hel i hi
   rw [hc, List.getElem?_eq_getElem (by omega)] at h1
   obtain ⟨r, h2, h3⟩ := Option.bind_eq_some_iff.1 h1
   obtain ⟨a, ha⟩ := he r ⟨m, _, h3⟩
   exact ⟨(a, r), h2, ha⟩
  obtain ⟨qs, hql, hq⟩ := list_of len each
  have hrl : ∀ r ∈ qs.map (·.2), r.length = sz := fun r hr => by
   obtain ⟨q, hq1, rfl⟩ := List.mem_map.1 hr
   obtain ⟨i, hi⟩ := List.getElem?_of_mem hq1
   exact hl _ _ (hq i q hi).2
  have hcell : ∀ i j (r : List Value), (qs.map (·.2))[i]? = some r → j < sz → W.cell? (ad.add (i * sz + j)) = r[j]? := fun i j r hr hj => by
   rw [List.getElem?_map, Option.map_eq_some_iff] at hr
   obtain ⟨q, hq1, rfl⟩ := hr
   obtain ⟨-, h2, h3⟩ := World.cells?_some (hq i q hq1).1
   have := h3 j hj
   rw [← this, addr_add2]
  have hfl := flat_len (qs.map (·.2)) hrl
  rw [List.length_map, hql] at hfl
  have hsp : 0 < len → ad.spot = none ∧ ad.block < W.heap.size := fun h0 => by
   obtain ⟨q, hq0⟩ : ∃ q, qs[0]? = some q := ⟨_, List.getElem?_eq_getElem (by omega)⟩
   have hr0 : (qs.map (·.2))[0]? = some q.2 := by simp [hq0]
   have h1 := hcell 0 0 q.2 hr0 hsz
   have hq2 := hrl q.2 (List.mem_of_getElem? hr0)
   rw [Nat.zero_mul, Nat.add_zero, show ad.add 0 = ad from rfl, List.getElem?_eq_getElem (by omega)] at h1
   refine ⟨?_, block_lt_of_cell h1⟩
   unfold World.cell? at h1
   split at h1
   ·split at h1
    ·cases h1
    ·rename_i hs; simpa using hs
   ·cases h1
  refine ⟨_, (qs.map (·.2)).flatten, qs.map (·.1), rfl, ?_, fun i a ha => ?_⟩
  ·rw [List.length_map, hql]
   refine ⟨hfl, by omega, .inr ⟨ad, cap, rfl, hlc, hcm, fun j hj => ?_, fun h0 => ⟨(hsp h0).1, Nat.zero_le _, (hsp h0).2⟩⟩⟩
   rw [hfl] at hj
   have hlen0 : 0 < len := by rcases Nat.eq_zero_or_pos len with h | h; · rw [h] at hj; simp at hj
                              ·exact h
   have hi : j / sz < len := Nat.div_lt_of_lt_mul (by rw [Nat.mul_comm]; exact hj)
   have hm := Nat.mod_lt j hsz
   have ej : j = j / sz * sz + j % sz := by rw [Nat.mul_comm]; exact (Nat.div_add_mod j sz).symm
   obtain ⟨q, hq1⟩ : ∃ q, qs[j / sz]? = some q := ⟨_, List.getElem?_eq_getElem (by omega)⟩
   have hr1 : (qs.map (·.2))[j / sz]? = some q.2 := by simp [hq1]
   have h1 := hcell (j / sz) (j % sz) q.2 hr1 hm
   have h2 := flat_get _ (j / sz) (j % sz) q.2 hrl hr1 hm
   rw [← ej] at h1 h2
   rw [h2, ← h1]
   obtain ⟨b, o, sp⟩ := ad
   have : sp = none := (hsp hlen0).1
   subst this
   rw [addr_add]
  ·rw [List.getElem?_map, Option.map_eq_some_iff] at ha
   obtain ⟨q, hq1, rfl⟩ := ha
   have hr1 : (qs.map (·.2))[i]? = some q.2 := by simp [hq1]
   have hq2 := hrl q.2 (List.mem_of_getElem? hr1)
   have : ((qs.map (·.2)).flatten.drop (i * sz)).take sz = q.2 := by
    apply List.ext_getElem?
    intro j
    rcases Nat.lt_or_ge j sz with hj | hj
    ·rw [List.getElem?_take_of_lt hj, List.getElem?_drop, flat_get _ i j q.2 hrl hr1 hj]
    ·rw [List.getElem?_eq_none (by simp; omega), List.getElem?_eq_none (by omega)]
   rw [this]
   exact (hq i q hq1).2
theorem rows_flat {α : Type} {f : α → List Value} {sz : Nat} : ∀ (xs : List α) (css : List Value), css.length = xs.length * sz → (∀ a, (f a).length = sz) → (∀ i a, xs[i]? = some a → (css.drop (i * sz)).take sz = f a) → css = xs.flatMap f
 | [], css, hl, _, _ => by simpa using List.eq_nil_of_length_eq_zero (by simpa using hl)
 | x :: xs, css, hl, hf, h => by
   have h0 := h 0 x rfl
   rw [Nat.zero_mul, List.drop_zero] at h0
   have hr := rows_flat xs (css.drop sz) (by rw [List.length_drop, hl, List.length_cons, Nat.succ_mul]; omega) hf (fun i a hi => by
    have := h (i + 1) a (by simpa using hi)
    rw [List.drop_drop, ← this]; congr 2; rw [Nat.succ_mul]; omega)
   rw [List.flatMap_cons, ← h0, ← hr, List.take_append_drop]
theorem Rdt.flat {α : Type} {f : α → List Value} {e sz : Nat} (h : Rdt enc P W t cs) (ht : P.underlying t = some (.slice e)) (hc : P.cellsOf e = sz) (hsz : 0 < sz) (hl : ∀ a, (f a).length = sz) (he : ∀ cs, Rdt enc P W e cs → ∃ a, cs = f a) :
 ∃ u, ∃ xs : List α, cs = [u] ∧ Rd 0 W.heap.size W sz u xs.length (xs.flatMap f) := by
 obtain ⟨u, css, xs, rfl, hR, hx⟩ := h.rows (Φ := fun a cs => cs = f a) ht hc hsz (fun a cs h => by rw [h]; exact hl a) he
 rw [rows_flat xs css hR.1 hl hx] at hR
 exact ⟨u, xs, rfl, hR⟩
theorem rdt_agg {fs : Array Field} {base : Nat} {v : Value} {d : DataW H} {ps : List MemPlace} (ht : P.underlying t = some (.struct fs)) (hv : Value.okWide P W .any base t v) (h : DataW.Trod enc P W 0 (fun _ => true) true t v d ps) : ∃ cs : List Value, v = .agg cs.toArray ∧ Rdt enc P W t cs := by
 obtain ⟨fuel, h⟩ := h
 unfold Value.okWide at hv
 simp only [ht] at hv
 obtain ⟨cs, rfl, -, -⟩ := hv
 exact ⟨cs.toList, rfl, fuel, _, h⟩
theorem rdt_slice {e : TypeId} {base : Nat} {v : Value} {d : DataW H} {ps : List MemPlace} (ht : P.underlying t = some (.slice e)) (hv : Value.okWide P W .any base t v) (h : DataW.Trod enc P W 0 (fun _ => true) true t v d ps) : ∃ cs : List Value, Rdt enc P W t cs ∧ ∀ u, cs = [u] → v = u := by
 obtain ⟨fuel, h⟩ := h
 refine ⟨_, ⟨fuel, _, h⟩, fun u hu => ?_⟩
 unfold Value.okWide at hv
 simp only [ht] at hv
 have hv' : Cell.okWide P W .any base t v := hv
 have hna : ∀ cs, v ≠ .agg cs := fun cs hc => by subst hc; simp [Cell.okWide, Cell.ok, ht] at hv'
 exact cells_one hu hna
end
end Go.Proofs.YtodfphphidhjbaaGreat

namespace Go.Proofs.YtodfphphidhjbaaGreat
open Go.ChangeShapes Go.WideShapes Go.ChangeAt Go.RowKit Go.Joins
section
variable {H : Type} {enc : TypeId × Value → H} {W : World} {cs : List Value}
theorem bytes_flat (bs : List UInt8) : bs.flatMap (fun b => [Value.int .u8 (b.toNat : Int)]) = bcells bs := by
 induction bs with
 | nil => rfl
 | cons z zs ih => rw [List.flatMap_cons, ih]; rfl
theorem rdt_bytes (h : Rdt enc Tryz.prog W 57 cs) : ∃ u bs, cs = [u] ∧ Bs 0 W.heap.size W u bs := by
 obtain ⟨u, bs, e, hR⟩ := h.flat (f := fun b : UInt8 => [Value.int .u8 (b.toNat : Int)]) (sz := 1) Tryz.underlying57 (by kernel_rfl) (by omega) (fun _ => rfl) (fun cs h => h.u8 Tryz.underlying5)
 rw [bytes_flat] at hR
 exact ⟨u, bs, e, hR⟩
theorem rdt_rowsB (h : Rdt enc Tryz.prog W 25 cs) : ∃ u xs, cs = [u] ∧ BRows W u xs := by
 obtain ⟨u, css, xs, e, hR, hx⟩ := h.rows (α := List UInt8) (Φ := fun bs cs => ∃ x, cs = [x] ∧ Bs 0 W.heap.size W x bs) (sz := 1) Tryz.underlying25 (by kernel_rfl) (by omega) (fun a cs ⟨x, e, _⟩ => by rw [e]; rfl) (fun cs h => by
  obtain ⟨u, bs, e, hB⟩ := rdt_bytes h
  exact ⟨bs, u, e, hB⟩)
 refine ⟨u, xs, e, css, hR, fun i x bs h1 h2 => ?_⟩
 obtain ⟨y, e1, hB⟩ := hx i bs h2
 have h3 : ((css.drop (i * 1)).take 1)[0]? = some x := by rw [List.getElem?_take_of_lt (by omega), List.getElem?_drop]; simpa using h1
 rw [e1] at h3
 cases h3
 exact hB
end
end Go.Proofs.YtodfphphidhjbaaGreat

