/-
  The second walk: a region that draws its order, in which something that is read is left as it is by all that is done meanwhile.
-/
import Derived.Test.YtgocjpcmjljeoaaVK
namespace Go.Proofs.Ytgocjpcmjljeoaa
open Go.RowKit Go.Sort

variable {P : Program} {ops : Array Oper} {Q : Exit → Act → World → Prop} {md : Region.Mode} {nk : List Nat} {C : World → Prop}

/-- whatever order is picked from here on; an operation that is not among nk leaves what lay as it lay -/
def wpKC (P : Program) (md : Region.Mode) (ops : Array Oper) (nk : List Nat) (C : World → Prop) (Q : Exit → Act → World → Prop) : Nat → Array Bool → Act → World → Prop
  | 0, listed, a, w => Region.ready md ops listed = [] ∧ Q .normal a w
  | f + 1, listed, a, w => (Region.ready md ops listed = [] → Q .normal a w) ∧
    ∀ i ∈ Region.ready md ops listed, wpOp P ops Q i (fun a' w' => (nk.contains i = false → Below w.heap.size w w') ∧ C w' ∧ wpKC P md ops nk C Q f (listed.setIfInBounds i true) a' w') a w

theorem wpAny_of_wpKC : ∀ (f : Nat) (listed : Array Bool) (a : Act) (w : World), wpKC P md ops nk C Q f listed a w → wpAny P md ops Q f listed a w
  | 0, _, _, _, h => h
  | f + 1, _, _, _, h => ⟨h.1, fun i hi => wpOp_mono (fun a' w' h' => wpAny_of_wpKC f _ a' w' h'.2.2) (h.2 i hi)⟩

theorem wpKC_first {i : Nat} {oi : Oper} {v : Value} (hi : ops[i]? = some oi) (hsel : ∀ (j : Nat) (o : Oper) cs b, ops[j]? = some o → o.op ≠ .select cs b)
    (hQ : ∀ c a w, Q (.panic c) (a.put oi.dst v) w → Q (.panic c) a w) :
    ∀ (fuel : Nat) (listed : Array Bool) (a : Act) (w : World), Closed md ops listed →
      (∀ j oj, ops[j]? = some oj → j ≠ i → listed.getD j true = false → (∀ e ∈ oj.after, Region.binds md e = true → e.on ≠ i) → oi.apart ops oj = true ∧ (nk.contains j = false ∨ waitsT md ops ops.size j i = true)) →
      i ∈ Region.ready md ops listed → YieldsB P ops (fun W => Below w.heap.size w W) oi v a → C w →
      wpKC P md ops nk C Q fuel (listed.setIfInBounds i true) (a.put oi.dst v) w → wpKC P md ops nk C Q (fuel + 1) listed a w := by
  intro fuel
  induction fuel with
  | zero =>
    intro listed a w hcl _ hr hy hC H
    refine ⟨fun h => (by rw [h] at hr; cases hr), fun j hj => ?_⟩
    by_cases hji : j = i
    · subst hji; exact hy.wpOp hi (ext_refl w) ⟨fun _ => ext_refl w, hC, H⟩
    · have := ready_mono hj hji
      rw [H.1] at this
      cases this
  | succ fuel ih =>
    intro listed a w hcl hfree hr hy hC H
    refine ⟨fun h => (by rw [h] at hr; cases hr), fun j hj => ?_⟩
    by_cases hji : j = i
    · subst hji; exact hy.wpOp hi (ext_refl w) ⟨fun _ => ext_refl w, hC, H⟩
    · have h1 := H.2 j (ready_mono hj hji)
      obtain ⟨hjun, oj, hoj, hall⟩ := mem_ready.1 hj
      have hin := getD_false_of_true (mem_ready.1 hr).1
      have hnot : ∀ e ∈ oj.after, Region.binds md e = true → e.on ≠ i := fun e he hb heq => by
        have h1 := hall e he hb
        rw [heq, hin] at h1; cases h1
      obtain ⟨hap, hkw⟩ := hfree j oj hoj hji hjun hnot
      have hkeep : nk.contains j = false := by
        rcases hkw with h | h
        · exact h
        · have := waitsT_listed hcl _ j oj hoj hall h
          rw [hin] at this; cases this
      have h2 := wpOp_putB hoj hap (fun cs b => hsel i oi cs b hi) (fun cs b => hsel j oj cs b hoj) hQ hy h1
      have hfree' : ∀ k ok, ops[k]? = some ok → k ≠ i → (listed.setIfInBounds j true).getD k true = false →
          (∀ e ∈ ok.after, Region.binds md e = true → e.on ≠ i) → oi.apart ops ok = true ∧ (nk.contains k = false ∨ waitsT md ops ops.size k i = true) := fun k ok hk hki hun hno => by
        refine hfree k ok hk hki ?_ hno
        by_cases hjk : j = k
        · subst hjk; exact hjun
        · rw [getD_set_ne true hjk] at hun; exact hun
      refine wpOp_mono (fun a' w' h3 => ⟨h3.2.1, h3.2.2.1, ih (listed.setIfInBounds j true) a' w' (hcl.set hj) hfree' (ready_mono hr (Ne.symm hji)) (h3.1.later fun W hW => ext_trans (h3.2.1 hkeep) hW) h3.2.2.1 ?_⟩) h2
      rw [Array.setIfInBounds_comm _ _ hji]
      exact h3.2.2.2

theorem wpKC_firstC {i : Nat} {oi : Oper} {v : Value} (hi : ops[i]? = some oi) (hsel : ∀ (j : Nat) (o : Oper) cs b, ops[j]? = some o → o.op ≠ .select cs b)
    (hQ : ∀ c a w, Q (.panic c) (a.put oi.dst v) w → Q (.panic c) a w) :
    ∀ (fuel : Nat) (listed : Array Bool) (a : Act) (w : World), Closed md ops listed →
      (∀ j oj, ops[j]? = some oj → j ≠ i → listed.getD j true = false → (∀ e ∈ oj.after, Region.binds md e = true → e.on ≠ i) → oi.apart ops oj = true) →
      i ∈ Region.ready md ops listed → YieldsB P ops C oi v a → C w →
      wpKC P md ops nk C Q fuel (listed.setIfInBounds i true) (a.put oi.dst v) w → wpKC P md ops nk C Q (fuel + 1) listed a w := by
  intro fuel
  induction fuel with
  | zero =>
    intro listed a w hcl _ hr hy hC H
    refine ⟨fun h => (by rw [h] at hr; cases hr), fun j hj => ?_⟩
    by_cases hji : j = i
    · subst hji; exact hy.wpOp hi hC ⟨fun _ => ext_refl w, hC, H⟩
    · have := ready_mono hj hji
      rw [H.1] at this
      cases this
  | succ fuel ih =>
    intro listed a w hcl hfree hr hy hC H
    refine ⟨fun h => (by rw [h] at hr; cases hr), fun j hj => ?_⟩
    by_cases hji : j = i
    · subst hji; exact hy.wpOp hi hC ⟨fun _ => ext_refl w, hC, H⟩
    · have h1 := H.2 j (ready_mono hj hji)
      obtain ⟨hjun, oj, hoj, hall⟩ := mem_ready.1 hj
      have hin := getD_false_of_true (mem_ready.1 hr).1
      have hnot : ∀ e ∈ oj.after, Region.binds md e = true → e.on ≠ i := fun e he hb heq => by
        have h1 := hall e he hb
        rw [heq, hin] at h1; cases h1
      have hap := hfree j oj hoj hji hjun hnot
      have h2 := wpOp_putB hoj hap (fun cs b => hsel i oi cs b hi) (fun cs b => hsel j oj cs b hoj) hQ hy h1
      have hfree' : ∀ k ok, ops[k]? = some ok → k ≠ i → (listed.setIfInBounds j true).getD k true = false →
          (∀ e ∈ ok.after, Region.binds md e = true → e.on ≠ i) → oi.apart ops ok = true := fun k ok hk hki hun hno => by
        refine hfree k ok hk hki ?_ hno
        by_cases hjk : j = k
        · subst hjk; exact hjun
        · rw [getD_set_ne true hjk] at hun; exact hun
      refine wpOp_mono (fun a' w' h3 => ⟨h3.2.1, h3.2.2.1, ih (listed.setIfInBounds j true) a' w' (hcl.set hj) hfree' (ready_mono hr (Ne.symm hji)) h3.1 h3.2.2.1 ?_⟩) h2
      rw [Array.setIfInBounds_comm _ _ hji]
      exact h3.2.2.2

variable {n d : Nat} {a : Act} {L : List (Nat × Value)} {w w0 : World} {v : Value} {o : Oper} {H : List Ent}

theorem wp_regionKC {id : Nat} {l : List Oper} (nk : List Nat) (listed : Array Bool) (hl : Array.replicate l.length false = listed) (M : Mem w0 w H) (hm : P.follows .mixedOrders = true)
    (h : ∀ w, Mem w0 w H → wpKC P .any l.toArray nk C Q l.length listed a w) : (Code.region id l.toArray true).wp P Q a w := by
  subst hl
  exact wp_region_any hm (wpAny_of_wpKC _ _ _ _ (by have := h _ M.drew; simpa using this))

theorem kc_read {f : Nat} {listed listed' : Array Bool} (i : Nat) (S : Sees n a L) (hi : ops[i]? = some o) (hg : gd ops L o = some true) (hd : o.dst = some d) (hn : Nat.blt d n = true) (hst : readB md ops nk listed i = true) (hl : listed.setIfInBounds i true = listed')
    (hQ : ∀ c (d : Option Tmp) (u : Value) (a : Act) w, Q (.panic c) (a.put d u) w → Q (.panic c) a w) (hC : C w) (hy : ∀ W, Below w.heap.size w W → Yields P a o W v) (k : ∀ a, Sees n a ((d, v) :: L) → wpKC P md ops nk C Q f listed' a w) : wpKC P md ops nk C Q (f + 1) listed a w := by
  simp only [readB, Bool.and_eq_true] at hst
  obtain ⟨⟨⟨h1, h2⟩, h3⟩, h4⟩ := hst
  refine wpKC_first hi (Region.noSelect_spec h1) (fun c a w h => hQ c _ _ a w h) f listed a w (closed_of h3) (fun j oj => freeK_spec hi h4 j oj) (by simpa using h2) (.inl ⟨gd_spec S hg, hy⟩) hC ?_
  rw [hl, hd]
  exact k _ (S.put hn v)
theorem kc_readC {f : Nat} {listed listed' : Array Bool} (i : Nat) (S : Sees n a L) (hi : ops[i]? = some o) (hg : gd ops L o = some true) (hd : o.dst = some d) (hn : Nat.blt d n = true) (hst : readB md ops [] listed i = true) (hl : listed.setIfInBounds i true = listed')
    (hQ : ∀ c (d : Option Tmp) (u : Value) (a : Act) w, Q (.panic c) (a.put d u) w → Q (.panic c) a w) (hC : C w) (hy : ∀ W, C W → Yields P a o W v) (k : ∀ a, Sees n a ((d, v) :: L) → wpKC P md ops nk C Q f listed' a w) : wpKC P md ops nk C Q (f + 1) listed a w := by
  simp only [readB, Bool.and_eq_true] at hst
  obtain ⟨⟨⟨h1, h2⟩, h3⟩, h4⟩ := hst
  refine wpKC_firstC hi (Region.noSelect_spec h1) (fun c a w h => hQ c _ _ a w h) f listed a w (closed_of h3) (fun j oj p1 p2 p3 p4 => (freeK_spec hi h4 j oj p1 p2 p3 p4).1) (by simpa using h2) (.inl ⟨gd_spec S hg, fun W hW => hy W hW⟩) hC ?_
  rw [hl, hd]
  exact k _ (S.put hn v)
theorem kc_no {f : Nat} {listed listed' : Array Bool} (i : Nat) (S : Sees n a L) (hi : ops[i]? = some o) (hg : gd ops L o = some false) (hd : o.dst = some d) (hn : Nat.blt d n = true) (hst : readB md ops [] listed i = true) (hl : listed.setIfInBounds i true = listed')
    (hQ : ∀ c (d : Option Tmp) (u : Value) (a : Act) w, Q (.panic c) (a.put d u) w → Q (.panic c) a w) (hC : C w) (k : ∀ a, Sees n a ((d, undef) :: L) → wpKC P md ops nk C Q f listed' a w) : wpKC P md ops nk C Q (f + 1) listed a w := by
  simp only [readB, Bool.and_eq_true] at hst
  obtain ⟨⟨⟨h1, h2⟩, h3⟩, h4⟩ := hst
  refine wpKC_firstC hi (Region.noSelect_spec h1) (fun c a w h => hQ c _ _ a w h) f listed a w (closed_of h3) (fun j oj p1 p2 p3 p4 => (freeK_spec hi h4 j oj p1 p2 p3 p4).1) (by simpa using h2) (.inr ⟨gd_spec S hg, rfl⟩) hC ?_
  rw [hl, hd]
  exact k _ (S.put hn undef)
theorem kc_end {listed : Array Bool} (hr : (Region.ready md ops listed).isEmpty = true) (h : Q .normal a w) : wpKC P md ops nk C Q 0 listed a w := ⟨by simpa using hr, h⟩

/-- one operation may come next, no other -/
theorem kc_one {f : Nat} {listed listed' : Array Bool} (i : Nat) (hi : ops[i]? = some o) (hr : Nat.beq (Region.ready md ops listed).length 1 && (Region.ready md ops listed).contains i = true) (hl : listed.setIfInBounds i true = listed')
    (h : wpList P ops (Exit.then (fun a' w' => (nk.contains i = false → Below w.heap.size w w') ∧ C w' ∧ wpKC P md ops nk C Q f listed' a' w') Q) [o] a w) : wpKC P md ops nk C Q (f + 1) listed a w := by
  have hr' : Region.ready md ops listed = [i] := by
    simp only [Bool.and_eq_true] at hr
    have h1 := Nat.eq_of_beq_eq_true hr.1
    have h2 : i ∈ Region.ready md ops listed := by simpa using hr.2
    obtain ⟨x, hx⟩ := List.length_eq_one_iff.1 h1
    rw [hx] at h2 ⊢
    simp at h2; rw [h2]
  refine ⟨fun h => (by rw [hr'] at h; cases h), fun j hj => ?_⟩
  rw [hr'] at hj
  obtain rfl : j = i := by simpa using hj
  rw [hl]
  exact wpOp_of_list hi h
/-- two may come next -/
theorem kc_two {f : Nat} {listed l1 l2 : Array Bool} {o1 o2 : Oper} (i j : Nat) (hi : ops[i]? = some o1) (hj : ops[j]? = some o2) (hr : decide (Region.ready md ops listed = [i, j]) = true) (hl1 : listed.setIfInBounds i true = l1) (hl2 : listed.setIfInBounds j true = l2)
    (h1 : wpList P ops (Exit.then (fun a' w' => (nk.contains i = false → Below w.heap.size w w') ∧ C w' ∧ wpKC P md ops nk C Q f l1 a' w') Q) [o1] a w)
    (h2 : wpList P ops (Exit.then (fun a' w' => (nk.contains j = false → Below w.heap.size w w') ∧ C w' ∧ wpKC P md ops nk C Q f l2 a' w') Q) [o2] a w) : wpKC P md ops nk C Q (f + 1) listed a w := by
  have hr' := of_decide_eq_true hr
  refine ⟨fun h => (by rw [hr'] at h; cases h), fun k hk => ?_⟩
  rw [hr'] at hk
  simp only [List.mem_cons, List.not_mem_nil, or_false] at hk
  rcases hk with rfl | rfl
  · rw [hl1]; exact wpOp_of_list hi h1
  · rw [hl2]; exact wpOp_of_list hj h2
/-- three may come next -/
theorem kc_three {f : Nat} {listed l1 l2 l3 : Array Bool} {o1 o2 o3 : Oper} (i j m : Nat) (hi : ops[i]? = some o1) (hj : ops[j]? = some o2) (hm : ops[m]? = some o3) (hr : decide (Region.ready md ops listed = [i, j, m]) = true) (hl1 : listed.setIfInBounds i true = l1) (hl2 : listed.setIfInBounds j true = l2) (hl3 : listed.setIfInBounds m true = l3)
    (h1 : wpList P ops (Exit.then (fun a' w' => (nk.contains i = false → Below w.heap.size w w') ∧ C w' ∧ wpKC P md ops nk C Q f l1 a' w') Q) [o1] a w)
    (h2 : wpList P ops (Exit.then (fun a' w' => (nk.contains j = false → Below w.heap.size w w') ∧ C w' ∧ wpKC P md ops nk C Q f l2 a' w') Q) [o2] a w)
    (h3 : wpList P ops (Exit.then (fun a' w' => (nk.contains m = false → Below w.heap.size w w') ∧ C w' ∧ wpKC P md ops nk C Q f l3 a' w') Q) [o3] a w) : wpKC P md ops nk C Q (f + 1) listed a w := by
  have hr' := of_decide_eq_true hr
  refine ⟨fun h => (by rw [hr'] at h; cases h), fun k hk => ?_⟩
  rw [hr'] at hk
  simp only [List.mem_cons, List.not_mem_nil, or_false] at hk
  rcases hk with rfl | rfl | rfl
  · rw [hl1]; exact wpOp_of_list hi h1
  · rw [hl2]; exact wpOp_of_list hj h2
  · rw [hl3]; exact wpOp_of_list hm h3

end Go.Proofs.Ytgocjpcmjljeoaa
