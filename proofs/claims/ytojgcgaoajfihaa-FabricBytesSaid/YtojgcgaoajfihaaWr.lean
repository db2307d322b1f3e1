/-
  The document's layer 15: how a message is taken of bytes, plainly.
-/
import Derived.Test.YtojgcgaoajfihaaWp
import Derived.Test.YtojgcgaoajfihaaSq
namespace Go.Proofs.Ytojgcgaoajfihaa
open Go.RowKit Go.Sort

abbrev Mp := Msg × Rs
abbrev Pr3 := Msg × List Wr × Rs
def rHd (bs : List UInt8) : Mp :=
  let a := tk bs 1 ⟨0, false⟩
  let b := tk bs 1 a.2
  let c := tk bs 1 b.2
  let d := r3 bs c.2
  let e := r3 bs d.2
  (⟨IntKind.i8.wrap a.1, b.1, c.1, d.1, e.1, ⟨0, 0, 0⟩, 0, 0, 0, ⟨0, 0, 0, 0, 0, 0, 0, 0⟩, 0, false, 0, 0⟩, e.2)
def rNa (bs : List UInt8) (p : Mp) : Mp := if p.1.kind ≠ 1 ∧ p.1.kind ≠ 11 then ({ p.1 with name := (rNm bs p.2).1 }, (rNm bs p.2).2) else p
/-- two bytes -/
def r2 (bs : List UInt8) (s : Rs) : Int × Rs := ((tk bs 1 s).1 + (tk bs 1 (tk bs 1 s).2).1 * 256, (tk bs 1 (tk bs 1 s).2).2)
/-- a byte of seven bits -/
def rOp (bs : List UInt8) (s : Rs) : Int × Rs := ((tk bs 1 s).1 % 128, ⟨(tk bs 1 s).2.at_, (tk bs 1 s).2.bad || decide (127 < (tk bs 1 s).1)⟩)
def rSw (bs : List UInt8) (p : Mp) : Pr3 :=
  if p.1.kind = 2 then
    let a := r3 bs p.2; let b := rOp bs a.2; let c := tk bs 1 b.2; let d := rdBs bs 8 c.2
    ({ p.1 with n := a.1, op := b.1, block := c.1, val := v8 d.1 }, [], d.2)
  else if p.1.kind = 3 then
    let a := r3 bs p.2; let b := rdBs bs 8 a.2; let c := r2 bs b.2
    ({ p.1 with n := a.1, val := v8 b.1, e := c.1 }, [], c.2)
  else if p.1.kind = 4 then
    let a := tk bs 1 p.2; let b := tk bs 1 a.2; let c := rWs bs b.2
    ({ p.1 with give := a.1, take := b.1 }, c.1, c.2)
  else if p.1.kind = 5 ∨ p.1.kind = 6 then ({ p.1 with yes := (rFl bs p.2).1 }, [], (rFl bs p.2).2)
  else if p.1.kind = 10 then ({ p.1 with e := (r2 bs p.2).1 }, [], (r2 bs p.2).2)
  else (p.1, [], p.2)
def rMs (bs : List UInt8) : Pr3 := rSw bs (rNa bs (rHd bs))

theorem con_r2 (bs : List UInt8) (s : Rs) : Con bs s (r2 bs s).2 (leB (r2 bs s).1 2) := by
  have h1 := con_tk1 bs s
  have h2 := con_tk1 bs (tk bs 1 s).2
  have b1 := tk1_bd bs s
  have b2 := tk1_bd bs (tk bs 1 s).2
  refine (h1.trans h2).eq fun _ => ?_
  unfold r2
  rw [leB1, leB1, show ∀ n : Int, leB n 2 = [byteOf n, byteOf (n / 256)] from fun n => by simp [leB, List.range, List.range.loop]]
  have e : ∀ x y : Int, x % 256 = y % 256 → byteOf x = byteOf y := fun x y h => by unfold byteOf; rw [h]
  simp only [List.cons_append, List.nil_append, List.cons.injEq, and_true]
  exact ⟨e _ _ (by omega), e _ _ (by omega)⟩
theorem con_rOp (bs : List UInt8) (s : Rs) : Con bs s (rOp bs s).2 (leB (rOp bs s).1 1) := fun hb => by
  have hb' : (tk bs 1 s).2.bad = false ∧ ¬ 127 < (tk bs 1 s).1 := by
    unfold rOp at hb; simp only [Bool.or_eq_false_iff, decide_eq_false_iff_not] at hb; exact hb
  have h1 := con_tk1 bs s hb'.1
  have hbd := tk1_bd bs s
  have e : (rOp bs s).1 = (tk bs 1 s).1 := by unfold rOp; simp only; omega
  rw [e]; exact h1
theorem v8_of {l : List UInt8} (hl : l.length = 8) : (v8 l).bs = l := by
  match l, hl with
  | [a, b, c, d, e, f, g, i], _ => rfl
theorem con_v8 (bs : List UInt8) (s : Rs) : Con bs s (rdBs bs 8 s).2 (v8 (rdBs bs 8 s).1).bs := by
  rw [v8_of (rdBs_len bs 8 s)]; exact con_rdBs bs 8 s (by omega)
theorem con_hd (bs : List UInt8) (h0 : (tk bs 1 ⟨0, false⟩).1 ≤ 127) : Con bs ⟨0, false⟩ (rHd bs).2 (hdB (rHd bs).1) := by
  have := (con_tk1 bs ⟨0, false⟩).trans ((con_tk1 bs _).trans ((con_tk1 bs _).trans ((con_r3 bs _).trans (con_r3 bs _))))
  have e : IntKind.i8.wrap (tk bs 1 ⟨0, false⟩).1 = (tk bs 1 ⟨0, false⟩).1 := i8_in ⟨(tk1_bd bs _).1, by omega⟩
  unfold rHd hdB
  simp only [e]
  exact this

/-- a message's fields, kind by kind -/
def swB (m : Msg) (x : List Wr) : List UInt8 :=
  if m.kind = 2 then leB m.n 3 ++ (leB m.op 1 ++ (leB m.block 1 ++ m.val.bs))
  else if m.kind = 3 then leB m.n 3 ++ (m.val.bs ++ leB m.e 2)
  else if m.kind = 4 then leB m.give 1 ++ (leB m.take 1 ++ wsB x)
  else if m.kind = 5 ∨ m.kind = 6 then leB (if m.yes then 1 else 0) 1
  else if m.kind = 10 then leB m.e 2
  else []
def naB (m : Msg) : List UInt8 := if m.kind ≠ 1 ∧ m.kind ≠ 11 then nmB m.name else []
theorem enc_kinds {m : Msg} (h : 1 ≤ m.kind ∧ m.kind ≤ 11) (x : List Wr) : m.enc x = hdB m ++ (naB m ++ swB m x) := by
  have hk : m.kind = 1 ∨ m.kind = 2 ∨ m.kind = 3 ∨ m.kind = 4 ∨ m.kind = 5 ∨ m.kind = 6 ∨ m.kind = 7 ∨ m.kind = 8 ∨ m.kind = 9 ∨ m.kind = 10 ∨ m.kind = 11 := by omega
  unfold Msg.enc naB swB
  rcases hk with q | q | q | q | q | q | q | q | q | q | q <;> rw [q] <;> simp [bodyP, khas, kfields, fB]
theorem con_na (bs : List UInt8) (p : Mp) (h : p.2.at_ ≤ bs.length) : Con bs p.2 (rNa bs p).2 (naB (rNa bs p).1) ∧ (rNa bs p).1.kind = p.1.kind := by
  unfold rNa
  split
  · rename_i hk
    refine ⟨?_, rfl⟩
    unfold naB; rw [if_pos hk]; exact con_rNm bs p.2
  · rename_i hk
    refine ⟨?_, rfl⟩
    unfold naB; rw [if_neg hk]; exact con_nil bs p.2 h
theorem naB_kind {m m' : Msg} (h : m.kind = m'.kind) (h2 : m.name = m'.name) : naB m = naB m' := by unfold naB; rw [h, h2]
theorem con_sw (bs : List UInt8) (p : Mp) (h : p.2.at_ ≤ bs.length) : Con bs p.2 (rSw bs p).2.2 (swB (rSw bs p).1 (rSw bs p).2.1) ∧ (rSw bs p).1.kind = p.1.kind ∧ hdB (rSw bs p).1 = hdB p.1 ∧ (rSw bs p).1.name = p.1.name := by
  unfold rSw
  split
  · rename_i hk
    refine ⟨?_, rfl, rfl, rfl⟩
    unfold swB; rw [if_pos hk]; exact (con_r3 bs _).trans ((con_rOp bs _).trans ((con_tk1 bs _).trans (con_v8 bs _)))
  split
  · rename_i hk
    refine ⟨?_, rfl, rfl, rfl⟩
    unfold swB; rw [if_neg (by simp only; omega), if_pos hk]; exact (con_r3 bs _).trans ((con_v8 bs _).trans (con_r2 bs _))
  split
  · rename_i hk
    refine ⟨?_, rfl, rfl, rfl⟩
    unfold swB; rw [if_neg (by simp only; omega), if_neg (by simp only; omega), if_pos hk]; exact (con_tk1 bs _).trans ((con_tk1 bs _).trans (con_rWs bs _))
  split
  · rename_i hk
    refine ⟨?_, rfl, rfl, rfl⟩
    unfold swB; rw [if_neg (by simp only; omega), if_neg (by simp only; omega), if_neg (by simp only; omega), if_pos hk]; exact con_rFl bs _
  split
  · rename_i hk
    refine ⟨?_, rfl, rfl, rfl⟩
    unfold swB; rw [if_neg (by simp only; omega), if_neg (by simp only; omega), if_neg (by simp only; omega), if_neg (by simp only; omega), if_pos hk]; exact con_r2 bs _
  · rename_i k1 k2 k3 k4 k5
    refine ⟨?_, rfl, rfl, rfl⟩
    unfold swB; rw [if_neg k1, if_neg k2, if_neg k3, if_neg k4, if_neg k5]; exact con_nil bs _ h
/-- what was taken of all bytes, and may be, has these bytes -/
theorem rMs_ok {bs : List UInt8} (h0 : (tk bs 1 ⟨0, false⟩).1 ≤ 127) {q : Pr3} (hq : rMs bs = q) (h1 : q.2.2.bad = false) (h2 : q.2.2.at_ = bs.length) (hm : q.1.may q.2.1 = true) : q.1.enc q.2.1 = bs := by
  subst hq
  have hk := (may_head hm).1
  have c1 := con_hd bs h0
  have key : ∀ {s s' : Rs} {l : List UInt8}, Con bs s s' l → s'.bad = false → s'.at_ ≤ bs.length := fun hc hb => (hc hb).2.2.1
  have cb : ∀ {s s' : Rs} {l : List UInt8}, Con bs s s' l → s'.bad = false → s.bad = false := fun hc hb => (hc hb).1
  -- from the end back: nothing is bad
  have e3b : (rSw bs (rNa bs (rHd bs))).2.2.bad = false := h1
  have bw : ∀ {p : Mp}, (rSw bs p).2.2.bad = false → p.2.bad = false := by
    intro p hb
    unfold rSw at hb
    split at hb
    · exact cb ((con_r3 bs _).trans ((con_rOp bs _).trans ((con_tk1 bs _).trans (con_v8 bs _)))) hb
    split at hb
    · exact cb ((con_r3 bs _).trans ((con_v8 bs _).trans (con_r2 bs _))) hb
    split at hb
    · exact cb ((con_tk1 bs _).trans ((con_tk1 bs _).trans (con_rWs bs _))) hb
    split at hb
    · exact cb (con_rFl bs _) hb
    split at hb
    · exact cb (con_r2 bs _) hb
    · exact hb
  have e2b : (rNa bs (rHd bs)).2.bad = false := bw e3b
  have e1b : (rHd bs).2.bad = false := by
    unfold rNa at e2b; split at e2b
    · exact cb (con_rNm bs _) e2b
    · exact e2b
  have a1 := key c1 e1b
  obtain ⟨c2, k2⟩ := con_na bs (rHd bs) a1
  have a2 := key c2 e2b
  obtain ⟨c3, k3, g3, n3⟩ := con_sw bs (rNa bs (rHd bs)) a2
  have hdna : hdB (rNa bs (rHd bs)).1 = hdB (rHd bs).1 := by unfold rNa; split <;> rfl
  have all := c1.trans (c2.trans c3)
  obtain ⟨-, q2, -, q4⟩ := all e3b
  rw [enc_kinds hk]
  have en : naB (rMs bs).1 = naB (rNa bs (rHd bs)).1 := naB_kind k3 n3
  have eh : hdB (rMs bs).1 = hdB (rHd bs).1 := g3.trans hdna
  rw [en, eh]
  have e0 : (rMs bs).2.2.at_ = (rSw bs (rNa bs (rHd bs))).2.2.at_ := rfl
  rw [e0, q2] at h2
  simp only [Nat.zero_add] at h2
  rw [List.drop_zero, h2, List.take_length] at q4
  exact q4.symm

theorem r2_at (pre post : List UInt8) {n : Int} (h0 : 0 ≤ n) (h : n < 65536) : r2 (pre ++ (leB n 2 ++ post)) ⟨pre.length, false⟩ = (n, ⟨(pre ++ leB n 2).length, false⟩) := by
  have e : leB n 2 = leB (n % 256) 1 ++ leB (n / 256) 1 := by
    rw [leB1, leB1, show leB n 2 = [byteOf n, byteOf (n / 256)] by simp [leB, List.range, List.range.loop]]
    rw [show byteOf (n % 256) = byteOf n by unfold byteOf; rw [Int.emod_emod_of_dvd _ (by omega)]]; rfl
  have e1 := tk1 pre (leB (n / 256) 1 ++ post) false (n := n % 256) (by omega) (by omega)
  have e2 := tk1 (pre ++ leB (n % 256) 1) post false (n := n / 256) (by omega) (by omega)
  simp only [List.append_assoc] at e2
  rw [e]; unfold r2
  simp only [List.append_assoc, e1, e2]
  rw [show n % 256 + n / 256 * 256 = n by omega]
theorem rOp_at (pre post : List UInt8) {n : Int} (h0 : 0 ≤ n) (h : n < 128) : rOp (pre ++ (leB n 1 ++ post)) ⟨pre.length, false⟩ = (n, ⟨(pre ++ leB n 1).length, false⟩) := by
  have e1 := tk1 pre post false (n := n) h0 (by omega)
  unfold rOp
  simp only [e1]
  rw [show n % 128 = n by omega, show decide (127 < n) = false by simp; omega]; rfl
theorem v8_at (pre post : List UInt8) (v : V8) : rdBs (pre ++ (v.bs ++ post)) 8 ⟨pre.length, false⟩ = (v.bs, ⟨(pre ++ v.bs).length, false⟩) := rdBs_at v.bs pre post false

theorem rHd_at {m : Msg} {x : List Wr} (h : m.may x = true) (post : List UInt8) : rHd (hdB m ++ post) = (hdM m, ⟨(hdB m).length, false⟩) := by
  obtain ⟨h1, h2, h3, h4, h5⟩ := may_head h
  have e1 := tk1 [] (leB m.frm 1 ++ (leB m.to 1 ++ (leB m.inc 3 ++ (leB m.your 3 ++ post)))) false (n := m.kind) (by omega) (by omega)
  have e2 := tk1 (leB m.kind 1) (leB m.to 1 ++ (leB m.inc 3 ++ (leB m.your 3 ++ post))) false (n := m.frm) (by omega) (by omega)
  have e3 := tk1 (leB m.kind 1 ++ leB m.frm 1) (leB m.inc 3 ++ (leB m.your 3 ++ post)) false (n := m.to) (by omega) (by omega)
  have e4 := r3_at (leB m.kind 1 ++ leB m.frm 1 ++ leB m.to 1) (leB m.your 3 ++ post) (n := m.inc) (by omega) (by omega)
  have e5 := r3_at (leB m.kind 1 ++ leB m.frm 1 ++ leB m.to 1 ++ leB m.inc 3) post (n := m.your) (by omega) (by omega)
  simp only [List.append_assoc, List.nil_append, List.length_nil] at e1 e2 e3 e4 e5
  unfold rHd hdB
  simp only [List.append_assoc, e1, e2, e3, e4, e5, i8_in (show 0 ≤ m.kind ∧ m.kind < 128 by omega)]
  rfl
theorem rMs_enc {m : Msg} {x : List Wr} (h : m.may x = true) : rMs (m.enc x) = (m, x, ⟨(m.enc x).length, false⟩) := by
  have hk := (may_head h).1
  have hr := may_inR h
  have hs := (may_same h).1
  have hx := (may_same h).2
  rw [enc_kinds hk]
  have e1 := rHd_at h (naB m ++ swB m x)
  unfold rMs
  rw [e1]
  have hkk : m.kind = 1 ∨ m.kind = 2 ∨ m.kind = 3 ∨ m.kind = 4 ∨ m.kind = 5 ∨ m.kind = 6 ∨ m.kind = 7 ∨ m.kind = 8 ∨ m.kind = 9 ∨ m.kind = 10 ∨ m.kind = 11 := by omega
  have e2 : rNa (hdB m ++ (naB m ++ swB m x)) (hdM m, ⟨(hdB m).length, false⟩) = ({ hdM m with name := if m.kind ≠ 1 ∧ m.kind ≠ 11 then m.name else ⟨0, 0, 0⟩ }, ⟨(hdB m ++ naB m).length, false⟩) := by
    by_cases hn : m.kind ≠ 1 ∧ m.kind ≠ 11
    · have h0 : khas m.kind 0 = true := by
        rcases hkk with q | q | q | q | q | q | q | q | q | q | q <;> rw [q] <;> first | decide | (exfalso; omega)
      have e3 := rNm_at (hdB m) (swB m x) (hr 0 (by omega) h0)
      unfold rNa naB
      rw [if_pos (show (hdM m).kind ≠ 1 ∧ (hdM m).kind ≠ 11 from hn), if_pos hn, if_pos hn]
      rw [e3]
    · unfold rNa naB
      rw [if_neg (show ¬ ((hdM m).kind ≠ 1 ∧ (hdM m).kind ≠ 11) from hn), if_neg hn, if_neg hn, List.append_nil]
      rfl
  rw [e2]
  have hl : hdB m ++ (naB m ++ swB m x) = (hdB m ++ naB m) ++ swB m x := (List.append_assoc ..).symm
  rw [hl]
  generalize hdB m ++ naB m = pre
  have fin : ∀ (f : Nat), f < 10 → khas m.kind f = true → inR m x f := hr
  obtain ⟨kind, frm, to, inc, your, name, n, op, block, val, e, yes, give, take⟩ := m
  simp only at hkk
  rcases hkk with rfl | rfl | rfl | rfl | rfl | rfl | rfl | rfl | rfl | rfl | rfl
  · simp only [bareM, bareX, khas, kfields, hdM, Msg.mk.injEq] at hs hx ⊢
    simp [rSw, swB] at hs hx ⊢
    simp_all
  · have i1 := fin 1 (by omega) rfl
    have i2 := fin 2 (by omega) rfl
    have i3 := fin 3 (by omega) rfl
    simp only [inR] at i1 i2 i3
    have q1 := r3_at pre (leB op 1 ++ (leB block 1 ++ val.bs)) i1.1 i1.2
    have q2 := rOp_at (pre ++ leB n 3) (leB block 1 ++ val.bs) i2.1 i2.2
    have q3 := tk1 (pre ++ leB n 3 ++ leB op 1) val.bs false i3.1 i3.2
    have q4 := v8_at (pre ++ leB n 3 ++ leB op 1 ++ leB block 1) [] val
    simp only [List.append_assoc, List.append_nil] at q2 q3 q4
    simp only [bareM, bareX, khas, kfields, hdM, Msg.mk.injEq] at hs hx ⊢
    simp [rSw, swB, q1, q2, q3, q4, v8_bs] at hs hx ⊢
    simp_all
    exact v8_bs val
  · have i1 := fin 1 (by omega) rfl
    have i2 := fin 5 (by omega) rfl
    simp only [inR] at i1 i2
    have q1 := r3_at pre (val.bs ++ leB e 2) i1.1 i1.2
    have q2 := v8_at (pre ++ leB n 3) (leB e 2) val
    have q3 := r2_at (pre ++ leB n 3 ++ val.bs) [] i2.1 i2.2
    simp only [List.append_assoc, List.append_nil] at q2 q3
    simp only [bareM, bareX, khas, kfields, hdM, Msg.mk.injEq] at hs hx ⊢
    simp [rSw, swB, q1, q2, q3, v8_bs] at hs hx ⊢
    simp_all
    exact v8_bs val
  · have i1 := fin 7 (by omega) rfl
    have i2 := fin 8 (by omega) rfl
    have i3 := fin 9 (by omega) rfl
    simp only [inR] at i1 i2 i3
    have q1 := tk1 pre (leB take 1 ++ wsB x) false i1.1 i1.2
    have q2 := tk1 (pre ++ leB give 1) (wsB x) false i2.1 i2.2
    have q3 := rWs_at (pre ++ leB give 1 ++ leB take 1) [] i3
    simp only [List.append_assoc, List.append_nil] at q2 q3
    simp only [bareM, bareX, khas, kfields, hdM, Msg.mk.injEq] at hs hx ⊢
    simp [rSw, swB, q1, q2, q3] at hs hx ⊢
    simp_all
  · have q1 := rFl_at pre [] yes
    simp only [List.append_nil] at q1
    simp only [bareM, bareX, khas, kfields, hdM, Msg.mk.injEq] at hs hx ⊢
    simp [rSw, swB, q1] at hs hx ⊢
    simp_all
  · have q1 := rFl_at pre [] yes
    simp only [List.append_nil] at q1
    simp only [bareM, bareX, khas, kfields, hdM, Msg.mk.injEq] at hs hx ⊢
    simp [rSw, swB, q1] at hs hx ⊢
    simp_all
  · simp only [bareM, bareX, khas, kfields, hdM, Msg.mk.injEq] at hs hx ⊢
    simp [rSw, swB] at hs hx ⊢
    simp_all
  · simp only [bareM, bareX, khas, kfields, hdM, Msg.mk.injEq] at hs hx ⊢
    simp [rSw, swB] at hs hx ⊢
    simp_all
  · simp only [bareM, bareX, khas, kfields, hdM, Msg.mk.injEq] at hs hx ⊢
    simp [rSw, swB] at hs hx ⊢
    simp_all
  · have i2 := fin 5 (by omega) rfl
    simp only [inR] at i2
    have q1 := r2_at pre [] i2.1 i2.2
    simp only [List.append_nil] at q1
    simp only [bareM, bareX, khas, kfields, hdM, Msg.mk.injEq] at hs hx ⊢
    simp [rSw, swB, q1] at hs hx ⊢
    simp_all
  · simp only [bareM, bareX, khas, kfields, hdM, Msg.mk.injEq] at hs hx ⊢
    simp [rSw, swB] at hs hx ⊢
    simp_all

end Go.Proofs.Ytojgcgaoajfihaa
