/-
  law13: tables in plain words; who waits is older than all it waits for: kept by a request.
-/
import Derived.Test.YtcbofgcmfkcglaaLk
import Derived.Test.YtcbofgcmfkcglaaLn
namespace Go.Proofs.Ytcbofgcmfkcglaa
open Go.RowKit Go.Sort

theorem conf_iff {a b : Lk} : conf a b = true ↔ a.block = b.block ∧ a.name ≠ b.name ∧ (a.excl = true ∨ b.excl = true) := by
  unfold conf
  rw [Bool.and_eq_true, Bool.and_eq_true, beq_iff_eq, Bool.not_eq_true', Bool.or_eq_true, and_assoc]
  refine and_congr_right fun _ => and_congr_left fun _ => ?_
  rw [← Bool.not_eq_true, Nm.eqb_iff]
theorem conf_symm {a b : Lk} (h : conf a b = true) : conf b a = true := by
  rw [conf_iff] at h ⊢; exact ⟨h.1.symm, fun e => h.2.1 e.symm, h.2.2.symm⟩
theorem pl_ext {a b : Lk} (h1 : a.name = b.name) (h2 : a.block = b.block) : a.pl = b.pl := Prod.ext h1 h2
theorem pl_at {l : List Lk} (hn : (l.map Lk.pl).Nodup) {i j : Nat} {x y : Lk} (hx : l[i]? = some x) (hy : l[j]? = some y) (e : x.pl = y.pl) : i = j := by
  have e1 : (l.map Lk.pl)[i]? = some x.pl := by rw [List.getElem?_map, hx]; rfl
  have e2 : (l.map Lk.pl)[j]? = some x.pl := by rw [List.getElem?_map, hy, e]; rfl
  exact (List.getElem?_inj (List.getElem?_eq_some_iff.1 e1).1 hn).1 (e1.trans e2.symm)
theorem pl_inj {l : List Lk} (hn : (l.map Lk.pl).Nodup) {x y : Lk} (hx : x ∈ l) (hy : y ∈ l) (e : x.pl = y.pl) : x = y := by
  obtain ⟨i, hi⟩ := List.getElem?_of_mem hx
  obtain ⟨j, hj⟩ := List.getElem?_of_mem hy
  obtain rfl := pl_at hn hi hj e
  rw [hi] at hj; exact Option.some.inj hj
theorem len_one {α : Type} {a : α} : ∀ {l : List α}, l.Nodup → (∀ x ∈ l, x = a) → l.length ≤ 1
  | [], _, _ => Nat.zero_le _
  | [_], _, _ => Nat.le_refl _
  | x :: y :: l, hn, h => by
    exfalso
    rw [List.nodup_cons] at hn
    apply hn.1
    rw [h x (by simp), ← h y (by simp)]; simp
theorem one_len {α : Type} {l : List α} (h : l.length ≤ 1) {a b : α} (ha : a ∈ l) (hb : b ∈ l) : a = b := by
  match l with
  | [] => cases ha
  | [c] => rw [List.mem_singleton.1 ha, List.mem_singleton.1 hb]
  | _ :: _ :: _ => simp at h
theorem nodup_of_pl {l : List Lk} (h : (l.map Lk.pl).Nodup) : l.Nodup := (List.pairwise_map.1 h).imp fun h e => h (congrArg Lk.pl e)
/-- the holder of a block, if exclusive, is alone -/
def AloneM (h : List Lk) : Prop := ∀ q1 ∈ h, ∀ q2 ∈ h, q1.block = q2.block → q1.excl = true → q2 = q1
theorem alone_iff {h : List Lk} (hm : ∀ x ∈ h, x.may = true) (hn : (h.map Lk.pl).Nodup) : (∀ k : Nat, k < 32 → 0 < cntP Lk.excl h (k : Int) → cntP (fun _ => true) h (k : Int) ≤ 1) ↔ AloneM h := by
  constructor
  · intro H q1 h1 q2 h2 hb he
    obtain ⟨k, hk, hk2⟩ := may_block (hm q1 h1)
    have := H k hk2 (List.countP_pos_iff.2 ⟨q1, h1, by simp [hk, he]⟩)
    unfold cntP at this
    rw [List.countP_eq_length_filter] at this
    refine one_len this (List.mem_filter.2 ⟨h2, ?_⟩) (List.mem_filter.2 ⟨h1, ?_⟩)
    · simp [← hb, hk]
    · simp [hk]
  · intro A k hk h0
    obtain ⟨q, hq, hqk⟩ := List.countP_pos_iff.1 h0
    simp only [Bool.and_eq_true, decide_eq_true_eq] at hqk
    unfold cntP
    rw [List.countP_eq_length_filter]
    refine len_one (a := q) ((nodup_of_pl hn).sublist List.filter_sublist) fun y hy => ?_
    rw [List.mem_filter] at hy
    have : y.block = k := by simpa using hy.2
    exact A q hq y hy.1 (by rw [hqk.1, this]) hqk.2
theorem modeOf_two {h : List Lk} (hn : (h.map Lk.pl).Nodup) {p : Pl} : modeOf h p = 2 ↔ ∃ q ∈ h, q.pl = p ∧ q.excl = true := by
  unfold modeOf
  cases hf : h.find? (fun x => decide (x.pl = p)) with
  | none =>
    rw [List.find?_eq_none] at hf
    refine ⟨fun h => (by cases h), fun ⟨q, hq, e, _⟩ => ?_⟩
    exact absurd (by simpa using e) (hf q hq)
  | some x =>
    have h1 := List.find?_some hf
    have h2 := List.mem_of_find?_eq_some hf
    simp only [decide_eq_true_eq] at h1
    have hme : x.mode = 2 ↔ x.excl = true := by unfold Lk.mode; split <;> simp_all
    refine ⟨fun h => ⟨x, h2, h1, hme.1 h⟩, fun ⟨q, hq, e, he⟩ => ?_⟩
    obtain rfl := pl_inj hn h2 hq (h1.trans e.symm)
    exact hme.2 he
/-- a table that may be, plainly -/
structure OkM (h wt : List Lk) : Prop where
  may : ∀ x ∈ h, x.may = true
  nodup : (h.map Lk.pl).Nodup
  alone : AloneM h
  wmay : ∀ x ∈ wt, x.may = true
  wnodup : (wt.map Lk.pl).Nodup
  wexcl : ∀ x ∈ wt, ∀ q ∈ h, q.pl = x.pl → q.excl = false
theorem okM_iff {h wt : List Lk} : OkT h wt ↔ OkM h wt := by
  constructor
  · intro O
    refine ⟨O.may, O.nodup, (alone_iff O.may O.nodup).1 O.alone, O.wmay, O.wnodup, fun x hx q hq e => ?_⟩
    have := O.wexcl x hx
    rw [Ne, modeOf_two O.nodup] at this
    cases hb : q.excl with
    | false => rfl
    | true => exact absurd ⟨q, hq, e, hb⟩ this
  · intro O
    refine ⟨O.may, O.nodup, (alone_iff O.may O.nodup).2 O.alone, O.wmay, O.wnodup, fun x hx => ?_⟩
    rw [Ne, modeOf_two O.nodup]
    rintro ⟨q, hq, e, hb⟩
    rw [O.wexcl x hx q hq e] at hb; cases hb
/-- each that waits is older than the holders and the waiters ahead of it that it conflicts with -/
structure YoungM (h wt : List Lk) : Prop where
  held : ∀ w ∈ wt, ∀ q ∈ h, conf w q = true → w.name.stamp < q.name.stamp
  ahead : wt.Pairwise fun q w => conf w q = true → w.name.stamp < q.name.stamp
theorem YoungM.young {h wt : List Lk} (Y : YoungM h wt) : YoungP h wt := by
  intro i x hi hx
  refine ⟨Y.held x (List.mem_of_getElem? hx), fun q hq hc => ?_⟩
  obtain ⟨j, hj⟩ := List.getElem?_of_mem hq
  have hj1 : j < i := by
    have := (List.getElem?_eq_some_iff.1 hj).1
    rw [List.length_take] at this; omega
  rw [List.getElem?_take_of_lt hj1] at hj
  obtain ⟨h1, e1⟩ := List.getElem?_eq_some_iff.1 hj
  obtain ⟨h2, e2⟩ := List.getElem?_eq_some_iff.1 hx
  have := List.pairwise_iff_getElem.1 Y.ahead j i h1 h2 hj1
  rw [e1, e2] at this
  exact this hc
/-- the first that waits for a block conflicts with a holder -/
def KeptAt (h wt : List Lk) (k : Int) : Prop := ∀ f, (wt.filter fun y => y.block == k).head? = some f → ∃ q ∈ h, conf q f = true
def KeptM (h wt : List Lk) : Prop := ∀ k, KeptAt h wt k
theorem head_ahead {R : Lk → Lk → Prop} {l : List Lk} {p : Lk → Bool} {f w : Lk} (hf : (l.filter p).head? = some f) (hw : w ∈ l) (hp : p w = true) (hne : w ≠ f) (hP : l.Pairwise R) : R f w := by
  have hw' : w ∈ l.filter p := List.mem_filter.2 ⟨hw, hp⟩
  have hP' := hP.filter p
  cases hl : l.filter p with
  | nil => rw [hl] at hw'; cases hw'
  | cons x r =>
    rw [hl] at hf hw' hP'
    obtain rfl := Option.some.inj hf
    rcases List.mem_cons.1 hw' with h | h
    · exact absurd h hne
    · exact (List.pairwise_cons.1 hP').1 w h
theorem head_mem {l : List Lk} {p : Lk → Bool} {f : Lk} (hf : (l.filter p).head? = some f) : f ∈ l ∧ p f = true := by
  have : f ∈ l.filter p := List.mem_of_head? hf
  exact List.mem_filter.1 this
/-- then each that waits is older than all others that hold its block -/
theorem behind {h wt : List Lk} (O : OkM h wt) (Y : YoungM h wt) (K : KeptM h wt) {w q : Lk} (hw : w ∈ wt) (hq : q ∈ h) (hb : w.block = q.block) (hn : w.name ≠ q.name) : w.name.stamp < q.name.stamp := by
  by_cases hc : w.excl = true ∨ q.excl = true
  · exact Y.held w hw q hq (conf_iff.2 ⟨hb, hn, hc⟩)
  · obtain ⟨f, hf⟩ : ∃ f, (wt.filter fun y => y.block == q.block).head? = some f := by
      cases hf : (wt.filter fun y => y.block == q.block) with
      | nil => exact absurd (by simpa using hb) (List.filter_eq_nil_iff.1 hf w hw)
      | cons f l => exact ⟨f, rfl⟩
    obtain ⟨q', hq', hcq⟩ := K _ f hf
    obtain ⟨hfm, hfb⟩ := head_mem hf
    have hfb : f.block = q.block := by simpa using hfb
    rw [conf_iff] at hcq
    have hfe : f.excl = true := by
      rcases hcq.2.2 with h1 | h1
      · have := O.alone q' hq' q hq (by rw [hcq.1, hfb]) h1
        exact absurd (.inr (this ▸ h1)) hc
      · exact h1
    have hwf : w ≠ f := fun e => hc (.inl (e ▸ hfe))
    have hwfn : w.name ≠ f.name := fun e => hwf (pl_inj O.wnodup hw hfm (pl_ext e (hb.trans hfb.symm)))
    have h1 : w.name.stamp < f.name.stamp := head_ahead hf hw (by simpa using hb) hwf Y.ahead (conf_iff.2 ⟨hb.trans hfb.symm, hwfn, .inr hfe⟩)
    by_cases e : f.name = q.name
    · rw [← e]; exact h1
    · have := Y.held f hfm q hq (conf_iff.2 ⟨hfb, e, .inl hfe⟩); omega
/-! a holder's lock made exclusive; a holder more -/
theorem set_pl {h : List Lk} {k : Nat} {q : Lk} (hq : h[k]? = some q) : (h.set k q.strong).map Lk.pl = h.map Lk.pl := by
  refine List.ext_getElem? fun j => ?_
  rw [List.getElem?_map, List.getElem?_map, List.getElem?_set]
  have hi := (List.getElem?_eq_some_iff.1 hq).1
  split
  · rename_i e; subst e; rw [hq]; rfl
  · rfl
theorem mem_strong {h : List Lk} (hn : (h.map Lk.pl).Nodup) {k : Nat} {q : Lk} (hq : h[k]? = some q) {y : Lk} : y ∈ h.set k q.strong ↔ y = q.strong ∨ (y ∈ h ∧ y.pl ≠ q.pl) := by
  have hi := (List.getElem?_eq_some_iff.1 hq).1
  constructor
  · intro hy
    obtain ⟨j, hj⟩ := List.getElem?_of_mem hy
    rw [List.getElem?_set] at hj
    split at hj
    · rename_i e; subst e; exact .inl (Option.some.inj hj).symm
    · rename_i e; exact .inr ⟨List.mem_of_getElem? hj, fun h' => e (pl_at hn hq hj h'.symm)⟩
  · rintro (rfl | ⟨hy, hne⟩)
    · exact List.mem_of_getElem? (by rw [List.getElem?_set_self hi])
    · obtain ⟨j, hj⟩ := List.getElem?_of_mem hy
      have hij : k ≠ j := fun e => by subst e; rw [hq] at hj; obtain rfl := Option.some.inj hj; exact hne rfl
      exact List.mem_of_getElem? (by rw [List.getElem?_set_ne hij]; exact hj)
theorem OkM.strong {h wt : List Lk} (O : OkM h wt) {k : Nat} {q : Lk} (hq : h[k]? = some q) (hal : ∀ y ∈ h, y.block = q.block → y = q) (hw : ∀ w ∈ wt, w.pl ≠ q.pl) : OkM (h.set k q.strong) wt := by
  have hqm := List.mem_of_getElem? hq
  have hmem := fun y => mem_strong O.nodup hq (y := y)
  have hblk : ∀ y ∈ h, y.pl ≠ q.pl → y.block ≠ q.block := fun y hy hne e => hne (by rw [hal y hy e])
  refine ⟨fun y hy => ?_, by rw [set_pl hq]; exact O.nodup, fun q1 h1 q2 h2 hb he => ?_, O.wmay, O.wnodup, fun x hx y hy e => ?_⟩
  · rcases (hmem y).1 hy with rfl | ⟨hy, -⟩
    · exact O.may q hqm
    · exact O.may y hy
  · rcases (hmem q1).1 h1 with rfl | ⟨h1, n1⟩
    · rcases (hmem q2).1 h2 with rfl | ⟨h2, n2⟩
      · rfl
      · exact absurd hb.symm (hblk q2 h2 n2)
    · rcases (hmem q2).1 h2 with rfl | ⟨h2, n2⟩
      · exact absurd hb (hblk q1 h1 n1)
      · exact O.alone q1 h1 q2 h2 hb he
  · rcases (hmem y).1 hy with rfl | ⟨hy, -⟩
    · exact absurd e.symm (hw x hx)
    · exact O.wexcl x hx y hy e
theorem OkM.snoc {h wt : List Lk} (O : OkM h wt) {x : Lk} (hx : x.may = true) (hno : ∀ q ∈ h, q.pl ≠ x.pl) (hal : ∀ q ∈ h, q.block = x.block → q.excl = false ∧ x.excl = false) (hw : ∀ w ∈ wt, w.pl ≠ x.pl) : OkM (h ++ [x]) wt := by
  refine ⟨fun y hy => ?_, ?_, fun q1 h1 q2 h2 hb he => ?_, O.wmay, O.wnodup, fun y hy q hq e => ?_⟩
  · rcases List.mem_append.1 hy with hy | hy
    · exact O.may y hy
    · rw [List.mem_singleton.1 hy]; exact hx
  · refine nodup_snoc O.nodup (modeOf_zero.2 fun hm => ?_)
    obtain ⟨y, hy, e⟩ := List.mem_map.1 hm
    exact hno y hy e
  · rcases List.mem_append.1 h1 with g1 | g1 <;> rcases List.mem_append.1 h2 with g2 | g2
    · exact O.alone q1 g1 q2 g2 hb he
    · have e := List.mem_singleton.1 g2
      rw [e] at hb
      rw [(hal q1 g1 hb).1] at he; cases he
    · have e := List.mem_singleton.1 g1
      rw [e] at hb he
      rw [(hal q2 g2 hb.symm).2] at he; cases he
    · rw [List.mem_singleton.1 g1, List.mem_singleton.1 g2]
  · rcases List.mem_append.1 hq with hq | hq
    · exact O.wexcl y hy q hq e
    · obtain rfl := List.mem_singleton.1 hq
      exact absurd e.symm (hw y hy)
/-! a request -/
theorem unsettled {h wt : List Lk} {x : Lk} (hs : (settledR h wt x).1 = false) : holdsV h x.pl < x.mode ∧ ∀ y ∈ wt, y.pl ≠ x.pl := by
  unfold settledR at hs
  by_cases h1 : x.mode ≤ holdsV h x.pl
  · rw [if_pos h1] at hs; cases hs
  · rw [if_neg h1] at hs
    by_cases h2 : wt.any (fun y => decide (y.pl = x.pl)) = true
    · rw [if_pos h2] at hs; cases hs
    · exact ⟨by omega, fun y hy e => h2 (List.any_eq_true.2 ⟨y, hy, by simpa using e⟩)⟩
theorem mem_ahead {h wt : List Lk} {x : Lk} {m : Nm} : m ∈ aheadR h wt x ↔ (∃ q ∈ h, conf q x = true ∧ q.name = m) ∨ (holdsV h x.pl = 0 ∧ ∃ q ∈ wt, conf q x = true ∧ q.name = m) := by
  unfold aheadR agR nf
  rw [List.mem_append]
  refine or_congr ?_ ?_
  · simp only [List.mem_map, List.mem_filter, and_assoc]
  · by_cases h0 : holdsV h x.pl = 0
    · rw [if_neg (by simp [h0])]
      simp only [List.mem_map, List.mem_filter, and_assoc, h0, true_and]
    · rw [if_pos (by simpa using h0)]
      simp [h0]
/-- all that is known of a table -/
structure TabM (NP : Nm → Prop) (h wt : List Lk) : Prop where
  ok : OkM h wt
  young : YoungM h wt
  kept : KeptM h wt
  nh : ∀ q ∈ h, NP q.name
  nw : ∀ q ∈ wt, NP q.name
theorem young_held {h h' wt : List Lk} (Y : YoungM h wt) (H : ∀ w ∈ wt, ∀ q ∈ h', conf w q = true → w.name.stamp < q.name.stamp) : YoungM h' wt := ⟨H, Y.ahead⟩
theorem ask_step {NP : Nm → Prop} {h wt h' wt' : List Lk} {x : Lk} {act : Int} (T : TabM NP h wt) (hx : x.may = true) (hxn : NP x.name) (R : AskRel h wt x h' wt' act) :
    TabM NP h' wt' ∧ h'.length + wt'.length ≤ h.length + wt.length + 1 ∧ (act = 2 → h' = h ∧ wt' = wt ∧ ∃ q, NP q ∧ q ≠ x.name ∧ q.stamp ≤ x.name.stamp) := by
  obtain ⟨O, Y, K, N1, N2⟩ := T
  rcases R with ⟨hs, rfl, rfl⟩ | ⟨hs, hR⟩
  · refine ⟨⟨O, Y, K, N1, N2⟩, by omega, fun e => ?_⟩
    exfalso
    unfold settledR at hs
    split at hs
    · simp at hs; omega
    · split at hs
      · simp at hs; omega
      · simp at hs
  · obtain ⟨hlt, hnw⟩ := unsettled hs
    have hmd := mode_bd x
    have hme : x.mode = 2 ↔ x.excl = true := by unfold Lk.mode; split <;> simp_all
    have hnx : ∀ q ∈ h, q.pl = x.pl → q.excl = false ∧ x.excl = true := fun q hq e => by
      have h1 : 0 < holdsV h x.pl := holds_pos.2 ⟨q, hq, e⟩
      refine ⟨?_, hme.1 (by omega)⟩
      cases hb : q.excl with
      | false => rfl
      | true => have := holds_two.2 ⟨q, hq, e, hb⟩; omega
    rcases hR with ⟨hA, rfl, rfl, hR⟩ | ⟨hA, hno, rfl, rfl, rfl⟩ | ⟨hA, hall, rfl, rfl, hto⟩
    · have hAh : ∀ q ∈ h, conf q x = false := fun q hq => by
        cases hc : conf q x with
        | false => rfl
        | true => have : q.name ∈ aheadR h wt' x := mem_ahead.2 (.inl ⟨q, hq, hc, rfl⟩); rw [hA] at this; cases this
      rcases hR with ⟨k, q, hq, hqp, rfl⟩ | ⟨hno, rfl⟩
      · have hqm := List.mem_of_getElem? hq
        obtain ⟨hq1, hx1⟩ := hnx q hqm hqp
        have hqb : q.block = x.block := (Prod.ext_iff.1 hqp).2
        have hqn : q.name = x.name := (Prod.ext_iff.1 hqp).1
        have hal : ∀ y ∈ h, y.block = q.block → y = q := fun y hy hb => by
          refine pl_inj O.nodup hy hqm (pl_ext ?_ hb)
          rw [hqn]
          by_cases e : y.name = x.name
          · exact e
          · have := hAh y hy
            rw [conf_iff.2 ⟨hb.trans hqb, e, .inr hx1⟩] at this; cases this
        refine ⟨⟨O.strong hq hal fun w hw => by rw [hqp]; exact hnw w hw, young_held Y fun w hw y hy hc => ?_, fun k f hf => ?_, fun y hy => ?_, N2⟩, by rw [List.length_set]; omega, fun e => by cases e⟩
        · rcases (mem_strong O.nodup hq).1 hy with rfl | ⟨hy, -⟩
          · rw [conf_iff] at hc
            exact behind (q := q) O Y K hw hqm hc.1 hc.2.1
          · exact Y.held w hw y hy hc
        · obtain ⟨y, hy, hc⟩ := K k f hf
          by_cases e : y.pl = q.pl
          · obtain rfl := pl_inj O.nodup hy hqm e
            rw [conf_iff] at hc
            exact ⟨y.strong, (mem_strong O.nodup hq).2 (.inl rfl), conf_iff.2 ⟨hc.1, hc.2.1, .inl rfl⟩⟩
          · exact ⟨y, (mem_strong O.nodup hq).2 (.inr ⟨hy, e⟩), hc⟩
        · rcases (mem_strong O.nodup hq).1 hy with rfl | ⟨hy, -⟩
          · exact N1 q hqm
          · exact N1 y hy
      · have h0 : holdsV h x.pl = 0 := by
          have hb := holds_bd h x.pl
          have : ¬ 0 < holdsV h x.pl := fun h1 => by obtain ⟨q, hq, e⟩ := holds_pos.1 h1; exact hno q hq e
          omega
        have hAw : ∀ q ∈ wt', conf q x = false := fun q hq => by
          cases hc : conf q x with
          | false => rfl
          | true => have : q.name ∈ aheadR h wt' x := mem_ahead.2 (.inr ⟨h0, q, hq, hc, rfl⟩); rw [hA] at this; cases this
        refine ⟨⟨O.snoc hx hno (fun q hq hb => ?_) hnw, young_held Y fun w hw y hy hc => ?_, fun k f hf => ?_, fun y hy => ?_, N2⟩, by simp; omega, fun e => by cases e⟩
        · have hne : q.name ≠ x.name := fun e => hno q hq (pl_ext e hb)
          have := hAh q hq
          constructor
          · cases he : q.excl with
            | false => rfl
            | true => rw [conf_iff.2 ⟨hb, hne, .inl he⟩] at this; cases this
          · cases he : x.excl with
            | false => rfl
            | true => rw [conf_iff.2 ⟨hb, hne, .inr he⟩] at this; cases this
        · rcases List.mem_append.1 hy with hy | hy
          · exact Y.held w hw y hy hc
          · obtain rfl := List.mem_singleton.1 hy
            rw [hAw w hw] at hc; cases hc
        · obtain ⟨y, hy, hc⟩ := K k f hf
          exact ⟨y, List.mem_append_left _ hy, hc⟩
        · rcases List.mem_append.1 hy with hy | hy
          · exact N1 y hy
          · rw [List.mem_singleton.1 hy]; exact hxn
    · refine ⟨⟨O, Y, K, N1, N2⟩, by omega, fun _ => ⟨rfl, rfl, ?_⟩⟩
      obtain ⟨q, hq⟩ := Classical.not_forall.1 hno
      obtain ⟨hq, hq2⟩ := Classical.not_imp.1 hq
      rcases mem_ahead.1 hq with ⟨y, hy, hc, rfl⟩ | ⟨-, y, hy, hc, rfl⟩
      · exact ⟨_, N1 y hy, (conf_iff.1 hc).2.1, by omega⟩
      · exact ⟨_, N2 y hy, (conf_iff.1 hc).2.1, by omega⟩
    · obtain ⟨to, hto1, rfl, hto2⟩ := hto
      unfold insL at *
      unfold ToP at hto2
      have hold : ∀ q ∈ h', conf x q = true → x.name.stamp < q.name.stamp := fun q hq hc => hall _ (mem_ahead.2 (.inl ⟨q, hq, conf_symm hc, rfl⟩))
      have hmem : ∀ y, y ∈ wt.take to ++ x :: wt.drop to ↔ y = x ∨ y ∈ wt := fun y => by
        conv => rhs; rw [← List.take_append_drop to wt]
        simp only [List.mem_append, List.mem_cons]
        constructor
        · rintro (h | h | h)
          · exact .inr (.inl h)
          · exact .inl h
          · exact .inr (.inr h)
        · rintro (h | h | h)
          · exact .inr (.inl h)
          · exact .inl h
          · exact .inr (.inr h)
      have hperm : (wt.take to ++ x :: wt.drop to).Perm (x :: wt) := by
        conv => rhs; rw [← List.take_append_drop to wt]
        exact List.perm_middle
      have hpp : wt.take to ++ wt.drop to = wt := List.take_append_drop to wt
      refine ⟨⟨⟨O.may, O.nodup, O.alone, fun y hy => ?_, ?_, fun y hy q hq e => ?_⟩, ⟨fun w hw q hq hc => ?_, ?_⟩, fun k f hf => ?_, N1, fun y hy => ?_⟩, by have := hperm.length_eq; simp only [List.length_cons] at this; omega, fun e => by cases e⟩
      · rcases (hmem y).1 hy with rfl | hy
        · exact hx
        · exact O.wmay y hy
      · refine (hperm.map Lk.pl).nodup_iff.2 ?_
        rw [List.map_cons, List.nodup_cons]
        refine ⟨fun hm => ?_, O.wnodup⟩
        obtain ⟨y, hy, e⟩ := List.mem_map.1 hm
        exact hnw y hy e
      · rcases (hmem y).1 hy with rfl | hy
        · exact (hnx q hq e).1
        · exact O.wexcl y hy q hq e
      · rcases (hmem w).1 hw with rfl | hw
        · exact hold q hq hc
        · exact Y.held w hw q hq hc
      · have hY := Y.ahead
        rw [← hpp, List.pairwise_append] at hY
        obtain ⟨h1, h2, h3⟩ := hY
        refine List.pairwise_append.2 ⟨h1, List.pairwise_cons.2 ⟨fun w hw hc => ?_, h2⟩, fun a ha b hb hc => ?_⟩
        · have hwm := List.mem_of_mem_drop hw
          rcases hto2 with ⟨rfl, -⟩ | ⟨⟨q, hq, hqp⟩, -⟩
          · rw [List.drop_length] at hw; cases hw
          · have hqb : q.block = x.block := (Prod.ext_iff.1 hqp).2
            have hqn : q.name = x.name := (Prod.ext_iff.1 hqp).1
            rw [conf_iff] at hc
            rw [← hqn]
            exact behind O Y K hwm hq (by rw [hqb]; exact hc.1) (by rw [hqn]; exact hc.2.1)
        · rcases List.mem_cons.1 hb with rfl | hb
          · have ham := List.mem_of_mem_take ha
            rcases hto2 with ⟨rfl, hu | hu⟩ | ⟨-, y, hy, hyb, hpre⟩
            · refine hall _ (mem_ahead.2 (.inr ⟨?_, a, ham, conf_symm hc, rfl⟩))
              have hbd := holds_bd h' b.pl
              have : ¬ 0 < holdsV h' b.pl := fun h1 => by obtain ⟨q, hq, e⟩ := holds_pos.1 h1; exact hu q hq e
              omega
            · exact absurd (conf_iff.1 hc).1.symm (hu a ham)
            · obtain ⟨j, hj⟩ := List.getElem?_of_mem ha
              have hj1 : j < to := by
                have := (List.getElem?_eq_some_iff.1 hj).1
                rw [List.length_take] at this; omega
              rw [List.getElem?_take_of_lt hj1] at hj
              exact absurd (conf_iff.1 hc).1.symm (hpre j hj1 a hj)
          · exact h3 a ha b hb hc
      · rw [List.filter_append, List.filter_cons] at hf
        cases hpre : (wt.take to).filter (fun y => y.block == k) with
        | cons z zs =>
          rw [hpre] at hf
          refine K k f ?_
          rw [← hpp, List.filter_append, hpre]
          exact hf
        | nil =>
          rw [hpre, List.nil_append] at hf
          by_cases hxk : (x.block == k) = true
          · rw [if_pos hxk] at hf
            obtain rfl := Option.some.inj hf
            have hxk' : x.block = k := by simpa using hxk
            obtain ⟨m, hm⟩ : ∃ m, m ∈ aheadR h' wt x := List.exists_mem_of_ne_nil _ hA
            rcases mem_ahead.1 hm with ⟨q, hq, hc, -⟩ | ⟨h0, q, hq, hc, -⟩
            · exact ⟨q, hq, hc⟩
            · exfalso
              have hup : ¬ ∃ q ∈ h', q.pl = x.pl := fun ⟨q, hq, e⟩ => by have := holds_pos.2 ⟨q, hq, e⟩; omega
              rcases hto2 with ⟨rfl, -⟩ | ⟨hu, -⟩
              · rw [List.take_length, List.filter_eq_nil_iff] at hpre
                exact hpre q hq (by rw [(conf_iff.1 hc).1]; exact hxk)
              · exact hup hu
          · rw [if_neg hxk] at hf
            refine K k f ?_
            rw [← hpp, List.filter_append, hpre]
            exact hf
      · rcases (hmem y).1 hy with rfl | hy
        · exact hxn
        · exact N2 y hy

end Go.Proofs.Ytcbofgcmfkcglaa
