/-
  The second walk: rows of structs that each hold a row of writes, in memory of one's own or anywhere.
-/
import Derived.Test.YtidpeojkkfmgeaaWs
import Derived.Test.YtidpeojkkfmgeaaJoin
namespace Go.Proofs.Ytidpeojkkfmgeaa
open Go.RowKit Go.Sort

/-- a kind of struct: its cells, by its writes' slice; its writes -/
structure Sh (α : Type) where
  sz : Nat
  f : α → Value → List Value
  wr : α → List Wr
  len : ∀ q lv, (f q lv).length = sz
  one : ∀ q lv, oneB lv = true → allOne (f q lv) = true
variable {α : Type}
/-- the slice v reads as these, each with its writes -/
def RowC (S : Sh α) (cs : List Value) (lo hi : Nat) (w : World) (v : Value) (l : List α) : Prop :=
  Rd lo hi w S.sz v l.length cs ∧ ∀ (i : Nat) (q : α), l[i]? = some q → ∃ lv, (cs.drop (i * S.sz)).take S.sz = S.f q lv ∧ Ws lo hi w lv (S.wr q)
/-- a slice of writes is nil, or a row of one's own -/
def WrAt (lv : Value) (x : List Wr) (es : List Ent) : Prop := (lv = .slice none 0 0 ∧ x = []) ∨ ∃ ad cp lo hi, lv = .slice ad x.length cp ∧ rowE lo hi 80 9 lv x.length (wcells x) ∈ es ∧ x.length ≤ 1000000
theorem WrAt.mono {lv : Value} {x : List Wr} {es es' : List Ent} (h : WrAt lv x es) (hs : ∀ e ∈ es, e ∈ es') : WrAt lv x es' := by
  rcases h with h | ⟨ad, cp, lo, hi, h1, h2, h3⟩
  · exact .inl h
  · exact .inr ⟨ad, cp, lo, hi, h1, hs _ h2, h3⟩
theorem WrAt.oneB {lv : Value} {x : List Wr} {es : List Ent} (h : WrAt lv x es) : oneB lv = true := by
  rcases h with ⟨rfl, -⟩ | ⟨ad, cp, lo, hi, rfl, -⟩ <;> rfl
theorem WrAt.form {lv : Value} {x : List Wr} {es : List Ent} (h : WrAt lv x es) : ∃ ad cp, lv = .slice ad x.length cp ∧ x.length ≤ 1000000 := by
  rcases h with ⟨rfl, rfl⟩ | ⟨ad, cp, lo, hi, rfl, -, h⟩
  · exact ⟨none, 0, rfl, by simp⟩
  · exact ⟨ad, cp, rfl, h⟩
theorem WrAt.ws {w0 w : World} {lv : Value} {x : List Wr} {es H : List Ent} (h : WrAt lv x es) (M : Mem w0 w H) (hs : ∀ e ∈ es, e ∈ H) : Ws w0.heap.size w.heap.size w lv x := by
  rcases h with ⟨rfl, rfl⟩ | ⟨ad, cp, lo, hi, rfl, hm, hl⟩
  · exact Rd.nil _ _ _ _
  · have r := M.ok _ (hs _ hm) w (fun _ _ _ => rfl)
    have f := M.fits _ (hs _ hm)
    exact (Rd.of_row r.1 r.2 (by unfold maxLen; omega)).wide f.1 f.2
/-- cells of these, whose writes lie in memory of one's own -/
def BkG (S : Sh α) (cs : List Value) (l : List α) (es : List Ent) : Prop :=
  cs.length = l.length * S.sz ∧ allOne cs = true ∧ ∀ (i : Nat) (q : α), l[i]? = some q → ∃ lv, (cs.drop (i * S.sz)).take S.sz = S.f q lv ∧ WrAt lv (S.wr q) es
variable {S : Sh α} {cs : List Value} {l : List α} {es es' : List Ent} {q : α} {lv : Value} {k : Nat}
theorem BkG.nil : BkG S [] [] es := ⟨by simp, rfl, fun i q hi => by simp at hi⟩
theorem BkG.mono (h : BkG S cs l es) (hs : ∀ e ∈ es, e ∈ es') : BkG S cs l es' := ⟨h.1, h.2.1, fun i q hq => let ⟨lv, e, hw⟩ := h.2.2 i q hq; ⟨lv, e, hw.mono hs⟩⟩
theorem allOne_cut {l : List Value} (h : allOne l = true) (k : Nat) : allOne (l.take k) = true ∧ allOne (l.drop k) = true := by
  rw [← List.take_append_drop k l, allOne_append, Bool.and_eq_true] at h; exact h
theorem BkG.more (h : BkG S cs l es) (hw : WrAt lv (S.wr q) es) : BkG S (cs ++ S.f q lv) (l ++ [q]) es := by
  have h0 := h.1
  refine ⟨by rw [List.length_append, h0, S.len, List.length_append, Nat.add_mul]; simp, by rw [allOne_append, h.2.1, S.one q lv hw.oneB]; rfl, fun i x hx => ?_⟩
  rcases Nat.lt_or_ge i l.length with h1 | h1
  · rw [List.getElem?_append_left h1] at hx
    obtain ⟨lv', h2, h3⟩ := h.2.2 i x hx
    have hle : (i + 1) * S.sz ≤ l.length * S.sz := Nat.mul_le_mul_right _ h1
    rw [Nat.add_mul, Nat.one_mul] at hle
    refine ⟨lv', ?_, h3⟩
    rw [← h2, List.drop_append_of_le_length (by omega), List.take_append_of_le_length (by rw [List.length_drop]; omega)]
  · have : i = l.length := by have := (List.getElem?_eq_some_iff.1 hx).1; simp at this; omega
    subst this
    rw [List.getElem?_append_right (Nat.le_refl _)] at hx
    simp only [Nat.sub_self, List.getElem?_cons_zero, Option.some.injEq] at hx
    subst hx
    refine ⟨lv, ?_, hw⟩
    rw [← h0, List.drop_left, ← S.len q lv, List.take_length]
theorem BkG.set (h : BkG S cs l es) (hk : k < l.length) (hw : WrAt lv (S.wr q) es) : BkG S (cs.take (k * S.sz) ++ S.f q lv ++ cs.drop ((k + 1) * S.sz)) (l.set k q) es := by
  have h0 := h.1
  have hle : (k + 1) * S.sz ≤ l.length * S.sz := Nat.mul_le_mul_right _ hk
  have hk1 : (k + 1) * S.sz = k * S.sz + S.sz := by rw [Nat.add_mul, Nat.one_mul]
  have hlt : (cs.take (k * S.sz)).length = k * S.sz := by rw [List.length_take]; omega
  have hl2 : (cs.take (k * S.sz) ++ S.f q lv).length = (k + 1) * S.sz := by rw [List.length_append, hlt, S.len]; omega
  refine ⟨?_, ?_, fun i x hx => ?_⟩
  · rw [List.length_append, hl2, List.length_drop, List.length_set]; omega
  · rw [allOne_append, allOne_append, (allOne_cut h.2.1 _).1, (allOne_cut h.2.1 _).2, S.one q lv hw.oneB]; rfl
  · rw [List.getElem?_set] at hx
    by_cases hik : k = i
    · subst hik
      rw [if_pos rfl, if_pos hk] at hx
      obtain rfl := Option.some.inj hx
      refine ⟨lv, ?_, hw⟩
      rw [List.append_assoc, List.drop_append_of_le_length (by omega), List.drop_of_length_le (by omega), List.nil_append, List.take_append_of_le_length (by rw [S.len]; omega), ← S.len q lv, List.take_length]
    · rw [if_neg hik] at hx
      obtain ⟨lv', h2, h3⟩ := h.2.2 i x hx
      have hi2 := (List.getElem?_eq_some_iff.1 hx).1
      refine ⟨lv', ?_, h3⟩
      rw [← h2]
      rcases Nat.lt_or_gt_of_ne hik with hlt2 | hlt2
      · have hh : (k + 1) * S.sz ≤ i * S.sz := Nat.mul_le_mul_right _ hlt2
        rw [List.drop_append, hl2, List.drop_of_length_le (by omega), List.nil_append, List.drop_drop, show (k + 1) * S.sz + (i * S.sz - (k + 1) * S.sz) = i * S.sz by omega]
      · have hh : (i + 1) * S.sz ≤ k * S.sz := Nat.mul_le_mul_right _ hlt2
        rw [Nat.add_mul, Nat.one_mul] at hh
        rw [List.append_assoc, List.drop_append_of_le_length (by omega), List.take_append_of_le_length (by rw [List.length_drop]; omega), List.drop_take, List.take_take, Nat.min_eq_left (by omega)]
theorem BkG.del (h : BkG S cs l es) (hk : k < l.length) : BkG S (cs.take (k * S.sz) ++ cs.drop ((k + 1) * S.sz)) (l.eraseIdx k) es := by
  have h0 := h.1
  have hle : (k + 1) * S.sz ≤ l.length * S.sz := Nat.mul_le_mul_right _ hk
  have hk1 : (k + 1) * S.sz = k * S.sz + S.sz := by rw [Nat.add_mul, Nat.one_mul]
  have hlt : (cs.take (k * S.sz)).length = k * S.sz := by rw [List.length_take]; omega
  refine ⟨?_, ?_, fun i x hx => ?_⟩
  · rw [List.length_append, hlt, List.length_drop, List.length_eraseIdx, if_pos hk, Nat.sub_mul, Nat.one_mul]; omega
  · rw [allOne_append, (allOne_cut h.2.1 _).1, (allOne_cut h.2.1 _).2]; rfl
  · rw [List.getElem?_eraseIdx] at hx
    split at hx
    · rename_i hik
      obtain ⟨lv', h2, h3⟩ := h.2.2 i x hx
      have hh : (i + 1) * S.sz ≤ k * S.sz := Nat.mul_le_mul_right _ hik
      rw [Nat.add_mul, Nat.one_mul] at hh
      refine ⟨lv', ?_, h3⟩
      rw [← h2, List.drop_append_of_le_length (by omega), List.take_append_of_le_length (by rw [List.length_drop]; omega), List.drop_take, List.take_take, Nat.min_eq_left (by omega)]
    · rename_i hik
      obtain ⟨lv', h2, h3⟩ := h.2.2 (i + 1) x hx
      have hh : k * S.sz ≤ i * S.sz := Nat.mul_le_mul_right _ (by omega)
      have hi1 : (i + 1) * S.sz = i * S.sz + S.sz := by rw [Nat.add_mul, Nat.one_mul]
      refine ⟨lv', ?_, h3⟩
      rw [← h2, List.drop_append, hlt, List.drop_of_length_le (by omega), List.nil_append, List.drop_drop]
      congr 2; omega
theorem BkG.at (h : BkG S cs l es) (hq : l[k]? = some q) : ∃ lv, (cs.drop (k * S.sz)).take S.sz = S.f q lv ∧ WrAt lv (S.wr q) es := h.2.2 k q hq
theorem BkG.rowC {H : List Ent} {w0 w : World} {v : Value} {lo hi t : Nat} (h : BkG S cs l es) (M : Mem w0 w H) (h1 : rowE lo hi t S.sz v l.length cs ∈ H) (h2 : ∀ e ∈ es, e ∈ H) (hm : l.length ≤ maxLen) : RowC S cs w0.heap.size w.heap.size w v l := by
  have r1 := M.ok _ h1 w (fun _ _ _ => rfl)
  have f1 := M.fits _ h1
  refine ⟨(Rd.of_row r1.1 r1.2 hm).wide f1.1 f1.2, fun i q hq => ?_⟩
  obtain ⟨lv, e, hw⟩ := h.2.2 i q hq
  exact ⟨lv, e, hw.ws M h2⟩
theorem RowC.same {lo hi : Nat} {w w' : World} {v : Value} (h : RowC S cs lo hi w v l) (hs : SameOn lo hi w w') : RowC S cs lo hi w' v l :=
  ⟨h.1.same hs, fun i q hi => let ⟨lv, e, hb⟩ := h.2 i q hi; ⟨lv, e, hb.same hs⟩⟩
theorem RowC.wide {lo hi lo' hi' : Nat} {w : World} {v : Value} (h : RowC S cs lo hi w v l) (h1 : lo' ≤ lo) (h2 : hi ≤ hi') : RowC S cs lo' hi' w v l :=
  ⟨h.1.wide h1 h2, fun i q hi => let ⟨lv, e, hb⟩ := h.2 i q hi; ⟨lv, e, hb.wide h1 h2⟩⟩
theorem RowC.nil {lo hi : Nat} {w : World} : RowC S [] lo hi w (.slice none 0 0) [] := ⟨Rd.nil _ _ _ _, fun i q hi => by simp at hi⟩
theorem Mem.rows {w0 w : World} {H : List Ent} {v : Value} (M : Mem w0 w H) (h : RowC S cs 0 w0.heap.size w0 v l) : RowC S cs 0 w0.heap.size w v l := h.same fun k _ h2 => M.below.block k h2
theorem Mem.rowsW {w0 w : World} {H : List Ent} {v : Value} (M : Mem w0 w H) (h : RowC S cs 0 w0.heap.size w0 v l) : RowC S cs 0 w.heap.size w v l := (M.rows h).wide (Nat.le_refl _) M.below.size
theorem RowC.sl {lo hi i : Nat} {w : World} {v : Value} (h : RowC S cs lo hi w v l) (hi' : l[i]? = some q) : ∃ ad cp, (cs.drop (i * S.sz)).take S.sz = S.f q (.slice ad (S.wr q).length cp) ∧ Ws lo hi w (.slice ad (S.wr q).length cp) (S.wr q) := by
  obtain ⟨lv, e, hb⟩ := h.2 i q hi'
  obtain ⟨ad, cp, rfl, -, -⟩ := hb.form
  exact ⟨ad, cp, e, hb⟩

theorem allOne_all {l : List Value} : allOne l = true ↔ ∀ (j : Nat) (v : Value), l[j]? = some v → oneB v = true := by
  induction l with
  | nil => simp [allOne]
  | cons a l ih =>
    rw [show allOne (a :: l) = (oneB a && allOne l) from rfl, Bool.and_eq_true, ih]
    constructor
    · rintro ⟨h1, h2⟩ j v hj
      cases j with
      | zero => obtain rfl : a = v := by simpa using hj
                exact h1
      | succ j => exact h2 j v (by simpa using hj)
    · intro h
      exact ⟨h 0 a rfl, fun j v hj => h (j + 1) v (by simpa using hj)⟩
theorem RowC.one {lo hi : Nat} {w : World} {v : Value} (h : RowC S cs lo hi w v l) : allOne cs = true := by
  rw [allOne_all]
  intro j u hj
  have hlt := (List.getElem?_eq_some_iff.1 hj).1
  rw [h.1.1] at hlt
  have hs : 0 < S.sz := Nat.pos_of_ne_zero fun h0 => by rw [h0] at hlt; simp at hlt
  have hi' : j / S.sz < l.length := (Nat.div_lt_iff_lt_mul hs).2 hlt
  obtain ⟨lv, e, hw⟩ := h.2 (j / S.sz) _ (List.getElem?_eq_getElem hi')
  obtain ⟨ad, cp, rfl, -, -⟩ := hw.form
  have h1 := S.one l[j / S.sz] (.slice ad (S.wr l[j / S.sz]).length cp) rfl
  rw [← e, allOne_all] at h1
  refine h1 (j % S.sz) u ?_
  rw [List.getElem?_take_of_lt (Nat.mod_lt _ hs), List.getElem?_drop, Nat.div_add_mod']
  exact hj

/-- cells in a row of one's own are set -/
theorem st_storeRow {P : Program} {ops : Array Oper} {Q : Exit → Act → World → Prop} {rest : List Oper} {n : Nat} {a : Act} {L : List (Nat × Value)} {w w0 : World} {H : List Ent} {x y : Operand} {T : TypeId} {lo hi e sz m j o' kk : Nat} {v u : Value} {cs us : List Value} {bb : Nat}
    (S : Sees n a L) (M : Mem w0 w H) (pos : Nat) {t : TypeId} {p : String} {ed : Array Edge} {g : Option (Nat × Bool)} (hg : gd ops L ⟨none, .store T x y, t, p, ed, g⟩ = some true) (hT : (P.info? T).map (·.size) = some kk)
    (hx : val L x = some (.pointer (some ⟨bb, o', none⟩))) (hb : bb = (adr v).block) (ho : o' = (adr v).off + j) (hy : val L y = some u) (hu : u.cells.toList = us) (hsz : us.length = kk) (h1 : allOne us = true) (hp : H[pos]? = some (rowE lo hi e sz v m cs)) (hm : 0 < m) (hcl : cs.length = m * sz) (hle : j + us.length ≤ cs.length)
    (k : ∀ w' lo' hi', Mem w0 w' (rowE lo' hi' e sz v m (putL cs j us) :: H.eraseIdx pos) → wpList P ops Q rest a w') : wpList P ops Q (⟨none, .store T x y, t, p, ed, g⟩ :: rest) a w := by
  obtain ⟨gb, cap, more, rfl, hc1, hc2, hc3, M1⟩ := (M.front pos hp).ofRow hm
  simp only [adr] at hb ho
  subst hb ho
  rw [Nat.zero_add] at hx
  refine st_store (us := us) S M1 0 hg hT hx hy hu hsz h1 rfl (by rw [List.length_append]; omega) fun w' M2 => ?_
  simp only [List.set_cons_zero] at M2
  have e1 : putL (cs ++ more) j us = putL cs j us ++ more := by
    rw [putL_eq _ _ _ (by rw [List.length_append]; omega), putL_eq _ _ _ hle, List.take_append_of_le_length (by omega), List.drop_append_of_le_length (by omega)]
    simp only [List.append_assoc]
  rw [e1] at M2
  have hl : (putL cs j us).length = m * sz := by rw [putL_length]; exact hcl
  exact k w' _ _ (M2.toRow (sz := sz) (m := m) (cap := cap) (xs := putL cs j us) 0 rfl hl hc1 hc2 (by rw [List.size_toArray, List.length_append, hl, ← hc3, List.length_append, hcl]) (by rw [List.toList_toArray, ← hl]; exact List.take_left))

end Go.Proofs.Ytidpeojkkfmgeaa
