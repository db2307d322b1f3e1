/-
  law13: who is alone, plainly.
-/
import Derived.Test.YtcbofgcmfkcglaaLj
namespace Go.Proofs.Ytcbofgcmfkcglaa
open Go.RowKit Go.Sort

theorem fold_holds (p : Pl) : ∀ (l : List Lk) (a : Int), 0 ≤ a ∧ a ≤ 2 → (l.foldl (fun a x => if x.pl = p then max a x.mode else a) a = 2 ↔ a = 2 ∨ ∃ q ∈ l, q.pl = p ∧ q.excl = true) ∧ (0 < l.foldl (fun a x => if x.pl = p then max a x.mode else a) a ↔ 0 < a ∨ ∃ q ∈ l, q.pl = p)
  | [], a, h => by simp
  | x :: l, a, h => by
    have hm := mode_bd x
    have hme : x.mode = 2 ↔ x.excl = true := by unfold Lk.mode; split <;> simp_all
    rw [List.foldl_cons]
    by_cases e : x.pl = p
    · rw [if_pos e]
      obtain ⟨h1, h2⟩ := fold_holds p l (max a x.mode) (by omega)
      refine ⟨h1.trans ?_, h2.trans ?_⟩
      · constructor
        · rintro (h | ⟨q, hq, h⟩)
          · by_cases ha : a = 2
            · exact .inl ha
            · exact .inr ⟨x, by simp, e, hme.1 (by omega)⟩
          · exact .inr ⟨q, List.mem_cons_of_mem _ hq, h⟩
        · rintro (h | ⟨q, hq, h, h'⟩)
          · exact .inl (by omega)
          · rcases List.mem_cons.1 hq with rfl | hq
            · have := hme.2 h'; exact .inl (by omega)
            · exact .inr ⟨q, hq, h, h'⟩
      · constructor
        · intro _; exact .inr ⟨x, by simp, e⟩
        · intro _; exact .inl (by omega)
    · rw [if_neg e]
      obtain ⟨h1, h2⟩ := fold_holds p l a h
      refine ⟨h1.trans ?_, h2.trans ?_⟩
      · constructor
        · rintro (h | ⟨q, hq, h⟩)
          · exact .inl h
          · exact .inr ⟨q, List.mem_cons_of_mem _ hq, h⟩
        · rintro (h | ⟨q, hq, h, h'⟩)
          · exact .inl h
          · rcases List.mem_cons.1 hq with rfl | hq
            · exact absurd h e
            · exact .inr ⟨q, hq, h, h'⟩
      · constructor
        · rintro (h | ⟨q, hq, h⟩)
          · exact .inl h
          · exact .inr ⟨q, List.mem_cons_of_mem _ hq, h⟩
        · rintro (h | ⟨q, hq, h⟩)
          · exact .inl h
          · rcases List.mem_cons.1 hq with rfl | hq
            · exact absurd h e
            · exact .inr ⟨q, hq, h⟩
theorem holds_two {l : List Lk} {p : Pl} : holdsV l p = 2 ↔ ∃ q ∈ l, q.pl = p ∧ q.excl = true := by
  unfold holdsV
  rw [(fold_holds p l 0 (by decide)).1]; simp
theorem holds_pos {l : List Lk} {p : Pl} : 0 < holdsV l p ↔ ∃ q ∈ l, q.pl = p := by
  unfold holdsV
  rw [(fold_holds p l 0 (by decide)).2]; simp
theorem holds_ext {l l' : List Lk} {p : Pl} (h2 : (∃ q ∈ l, q.pl = p ∧ q.excl = true) ↔ ∃ q ∈ l', q.pl = p ∧ q.excl = true) (h1 : (∃ q ∈ l, q.pl = p) ↔ ∃ q ∈ l', q.pl = p) : holdsV l p = holdsV l' p := by
  rw [← holds_two, ← holds_two] at h2
  rw [← holds_pos, ← holds_pos] at h1
  have := holds_bd l p
  have := holds_bd l' p
  omega
/-- a table of one name alone -/
structure AloneI (n : Nm) (h : List Lk) : Prop where
  name : ∀ q ∈ h, q.name = n
  may : ∀ q ∈ h, q.may = true
  nodup : (h.map Lk.pl).Nodup
theorem cnt_alone {n : Nm} (f : Lk → Bool) (k : Int) : ∀ {h : List Lk}, (∀ q ∈ h, q.name = n) → (h.map Lk.pl).Nodup → cntP f h k ≤ 1
  | [], _, _ => Nat.zero_le _
  | x :: h, hn, hd => by
    rw [List.map_cons, List.nodup_cons] at hd
    have ih := cnt_alone f k (h := h) (fun q hq => hn q (List.mem_cons_of_mem _ hq)) hd.2
    unfold cntP at ih ⊢
    rw [List.countP_cons]
    by_cases hx : (decide (x.block = k) && f x) = true
    · have : h.countP (fun x => decide (x.block = k) && f x) = 0 := by
        rw [List.countP_eq_zero]
        intro y hy hyk
        simp only [Bool.and_eq_true, decide_eq_true_eq] at hx hyk
        apply hd.1
        refine List.mem_map.2 ⟨y, hy, ?_⟩
        unfold Lk.pl
        rw [hn y (List.mem_cons_of_mem _ hy), hn x (List.mem_cons_self ..), hx.1, hyk.1]
      rw [this, if_pos hx]; omega
    · rw [if_neg hx]; exact ih
theorem AloneI.ok {n : Nm} {h : List Lk} (A : AloneI n h) : OkT h [] :=
  ⟨A.may, A.nodup, fun k _ _ => cnt_alone _ _ A.name A.nodup, fun x h => (by cases h), .nil, fun x h => (by cases h)⟩
theorem alone_ahead {n : Nm} {h : List Lk} {x : Lk} (A : AloneI n h) (hx : x.name = n) : aheadR h [] x = [] := by
  unfold aheadR agR
  have : nf x h = [] := by
    unfold nf
    rw [List.map_eq_nil_iff, List.filter_eq_nil_iff]
    intro q hq
    unfold conf
    rw [A.name q hq, ← hx, Nm.eqb_iff.2 rfl]; simp
  rw [this]; simp [nf]
theorem alone_step {n : Nm} {h h' wt' : List Lk} {x : Lk} {act : Int} (A : AloneI n h) (hx : x.name = n) (hm : x.may = true) (R : AskRel h [] x h' wt' act) :
    wt' = [] ∧ act = 0 ∧ AloneI n h' ∧ h'.length ≤ h.length + 1 ∧ ∀ k, holdsV h' (n, k) = if k = x.block then max (holdsV h (n, k)) x.mode else holdsV h (n, k) := by
  have hpl : x.pl = (n, x.block) := by unfold Lk.pl; rw [hx]
  have hmd := mode_bd x
  rcases R with ⟨hs, rfl, rfl⟩ | ⟨hs, hR⟩
  · unfold settledR at hs
    by_cases hle : x.mode ≤ holdsV h' x.pl
    · rw [if_pos hle] at hs
      simp only [Prod.mk.injEq, true_and] at hs
      refine ⟨rfl, hs.symm, A, by omega, fun k => ?_⟩
      rw [hpl] at hle
      split
      · rename_i e; subst e; omega
      · rfl
    · rw [if_neg hle, if_neg (by simp)] at hs; simp at hs
  · have hns : ¬ x.mode ≤ holdsV h x.pl := fun hle => by
      unfold settledR at hs; rw [if_pos hle] at hs; cases hs
    rw [hpl] at hns
    rcases hR with ⟨-, rfl, rfl, hR⟩ | ⟨h2, -⟩ | ⟨h2, -⟩
    · rcases hR with ⟨i, q, hq, hqp, rfl⟩ | ⟨hno, rfl⟩
      · have hqm := List.mem_of_getElem? hq
        have hi := (List.getElem?_eq_some_iff.1 hq).1
        have hsp : q.strong.pl = q.pl := rfl
        have hmap : (h.set i q.strong).map Lk.pl = h.map Lk.pl := by
          refine List.ext_getElem? fun j => ?_
          rw [List.getElem?_map, List.getElem?_map, List.getElem?_set]
          split
          · rename_i e; subst e; rw [hq]; rfl
          · rfl
        have hmem : ∀ y, y ∈ h.set i q.strong → y ∈ h ∨ y = q.strong := fun y hy => List.mem_or_eq_of_mem_set hy
        have hmem2 : q.strong ∈ h.set i q.strong := List.mem_of_getElem? (by rw [List.getElem?_set_self hi])
        have hpos : 0 < holdsV h (n, x.block) := holds_pos.2 ⟨q, hqm, by rw [hqp, hpl]⟩
        refine ⟨rfl, rfl, ⟨fun y hy => ?_, fun y hy => ?_, by rw [hmap]; exact A.nodup⟩, by rw [List.length_set]; omega, fun k => ?_⟩
        · rcases hmem y hy with hy | rfl
          · exact A.name y hy
          · exact A.name q hqm
        · rcases hmem y hy with hy | rfl
          · exact A.may y hy
          · exact A.may q hqm
        · split
          · rename_i e; subst e
            have : holdsV (h.set i q.strong) (n, x.block) = 2 := holds_two.2 ⟨q.strong, hmem2, by rw [hsp, hqp, hpl], rfl⟩
            have hb := holds_bd h (n, x.block)
            omega
          · rename_i e
            have hqn : q.pl ≠ (n, k) := fun h => e (by rw [hqp, hpl] at h; exact (Prod.ext_iff.1 h).2.symm)
            have hback : ∀ y ∈ h, y.pl = (n, k) → y ∈ h.set i q.strong := fun y hy hyp => by
              obtain ⟨j, hj⟩ := List.getElem?_of_mem hy
              have hij : i ≠ j := fun e => by subst e; rw [hq] at hj; obtain rfl := Option.some.inj hj; exact hqn hyp
              exact List.mem_of_getElem? (by rw [List.getElem?_set_ne hij]; exact hj)
            refine holds_ext ⟨?_, ?_⟩ ⟨?_, ?_⟩
            · rintro ⟨y, hy, h1, h2⟩
              rcases hmem y hy with hy | rfl
              · exact ⟨y, hy, h1, h2⟩
              · exact absurd (hsp.symm.trans h1) hqn
            · rintro ⟨y, hy, h1, h2⟩; exact ⟨y, hback y hy h1, h1, h2⟩
            · rintro ⟨y, hy, h1⟩
              rcases hmem y hy with hy | rfl
              · exact ⟨y, hy, h1⟩
              · exact absurd (hsp.symm.trans h1) hqn
            · rintro ⟨y, hy, h1⟩; exact ⟨y, hback y hy h1, h1⟩
      · have h0 : modeOf h x.pl = 0 := modeOf_zero.2 fun hm => by
          obtain ⟨y, hy, e⟩ := List.mem_map.1 hm
          exact hno y hy e
        refine ⟨rfl, rfl, ⟨fun y hy => ?_, fun y hy => ?_, nodup_snoc A.nodup h0⟩, by simp, fun k => ?_⟩
        · rcases List.mem_append.1 hy with hy | hy
          · exact A.name y hy
          · rw [List.mem_singleton.1 hy]; exact hx
        · rcases List.mem_append.1 hy with hy | hy
          · exact A.may y hy
          · rw [List.mem_singleton.1 hy]; exact hm
        · rw [holds_snoc, hpl]
          by_cases e : k = x.block
          · subst e; rw [if_pos rfl, if_pos rfl]
          · rw [if_neg e, if_neg (fun h => e (Prod.ext_iff.1 h).2.symm)]
    · exact absurd (alone_ahead A hx) h2
    · exact absurd (alone_ahead A hx) h2
/-! the two maps -/
abbrev eI : Int → Value := fun z => .int .i64 z
def SV (n : Nm) (ms : Mes Int) (h : List Lk) : Prop := ∀ k, (getM ms k).getD (.bool false) = .bool (decide (holdsV h (n, k) = 2))
def AV (n : Nm) (ma : Mes Int) (h : List Lk) : Prop := ∀ k, (getM ma k).getD (.bool false) = .bool (decide (0 < holdsV h (n, k)))
theorem SV.step {n : Nm} {ms : Mes Int} {h h' : List Lk} {z m : Int} {c : Nat} {b : Bool} (S : SV n ms h) (hh : ∀ k, holdsV h' (n, k) = if k = z then max (holdsV h (n, k)) m else holdsV h (n, k)) (hb : b = decide (max (holdsV h (n, z)) m = 2)) : SV n (putM eI ms c z (.bool b)).1 h' := by
  intro k
  rw [get_put, hh]
  split
  · rename_i e; subst e; rw [hb]; rfl
  · exact S k
theorem AV.step {n : Nm} {ma : Mes Int} {h h' : List Lk} {z m : Int} {c : Nat} (A : AV n ma h) (hm : 1 ≤ m) (hh : ∀ k, holdsV h' (n, k) = if k = z then max (holdsV h (n, k)) m else holdsV h (n, k)) : AV n (putM eI ma c z (.bool true)).1 h' := by
  intro k
  rw [get_put, hh]
  split
  · rename_i e; subst e
    rw [decide_eq_true (show 0 < max (holdsV h (n, k)) m by omega)]; rfl
  · exact A k

end Go.Proofs.Ytcbofgcmfkcglaa
