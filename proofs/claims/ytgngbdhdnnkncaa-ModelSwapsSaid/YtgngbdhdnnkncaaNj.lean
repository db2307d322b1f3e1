/-
  The plain law of model: what is filled is told right; two that do not clash swap.
-/
import Derived.Test.YtgngbdhdnnkncaaNg
import Derived.Test.YtgngbdhdnnkncaaNh
import Derived.Test.YtgngbdhdnnkncaaNi
import Derived.Test.YtgngbdhdnnkncaaNf
namespace Go.Proofs.Ytgngbdhdnnkncaa
open Go.RowKit Go.Sort

/-! the kinds and blocks of steps -/
def sk (q : Qs) : List (Int × Int) := q.map fun x => (x.2.kind, x.2.block)
theorem wrs_sk {q q' : Qs} (h : sk q = sk q') (k : Int) : WrsP q k ↔ WrsP q' k := by
  have key : ∀ {q q' : Qs}, sk q = sk q' → WrsP q k → WrsP q' k := by
    intro q q' h ⟨x, hx, h1, h2⟩
    have : ((2 : Int), k) ∈ sk q' := by
      rw [← h]; exact List.mem_map.2 ⟨x, hx, by rw [h1, h2]⟩
    obtain ⟨y, hy, e⟩ := List.mem_map.1 this
    simp only [Prod.mk.injEq] at e
    exact ⟨y, hy, e.1, e.2⟩
  exact ⟨key h, key h.symm⟩
theorem rds_sk {q q' : Qs} (h : sk q = sk q') (k : Int) : RdsP q k ↔ RdsP q' k := by
  have key : ∀ {q q' : Qs}, sk q = sk q' → RdsP q k → RdsP q' k := by
    rintro q q' h ⟨p1, x, p2, rfl, h1, h2, h3⟩
    have h4 : sk q' = sk p1 ++ (x.2.kind, x.2.block) :: sk p2 := by rw [← h]; simp [sk]
    obtain ⟨r1, r2, rfl, e1, e2⟩ := List.map_eq_append_iff.1 h4
    obtain ⟨y, r3, rfl, e3, e4⟩ := List.map_eq_cons_iff.1 e2
    simp only [Prod.mk.injEq] at e3
    exact ⟨r1, y, r3, rfl, by rw [e3.1]; exact h1, by rw [e3.2]; exact h2, fun hw => h3 ((wrs_sk (q := p1) (q' := r1) e1.symm k).2 hw)⟩
  exact ⟨key h, key h.symm⟩
theorem clash_sk {p p' q q' : Qs} (h : sk p = sk p') (h' : sk q = sk q') : ClashP p q ↔ ClashP p' q' := by
  unfold ClashP
  simp only [wrs_sk h, wrs_sk h', rds_sk h, rds_sk h']
theorem clash_comm (p q : Qs) : ClashP p q ↔ ClashP q p := by
  have key : ∀ p q : Qs, ClashP p q → ClashP q p := by
    rintro p q ⟨k, h | h | h⟩
    · exact ⟨k, .inr (.inr ⟨h.2, h.1⟩)⟩
    · exact ⟨k, .inr (.inl ⟨h.2, h.1⟩)⟩
    · exact ⟨k, .inl ⟨h.2, h.1⟩⟩
  exact ⟨key p q, key q p⟩

/-! filled -/
abbrev fl (home : List V8) (l : List Sn) (k : Nat) : List V8 × List Sn := (stepsP l k).foldl stepF (home, l)
theorem fl_none {home : List V8} {l : List Sn} {k : Nat} (h : l[k]? = none) : fl home l (k + 1) = fl home l k := by
  unfold fl; rw [stepsP, h]; simp
theorem fl_no {home : List V8} {l : List Sn} {k : Nat} {x : Sn} (hx : l[k]? = some x) (h : ¬ okS x) : fl home l (k + 1) = fl home l k := by
  unfold fl; rw [stepsP_no hx h]
theorem fl_yes {home : List V8} {l : List Sn} {k : Nat} {x : Sn} (hx : l[k]? = some x) (h : okS x) : fl home l (k + 1) = stepF (fl home l k) (k, x) := by
  unfold fl; rw [stepsP_yes hx h, List.foldl_append]; rfl
theorem setV_ne {out : List Sn} {i j : Nat} {v : V8} (h : i ≠ j) : (setV out i v)[j]? = out[j]? := by
  unfold setV; split
  · exact List.getElem?_set_ne h
  · rfl
theorem fl_ne {home : List V8} {l : List Sn} {k j : Nat} (h : k ≠ j) : (fl home l (k + 1)).2[j]? = (fl home l k).2[j]? := by
  cases hx : l[k]? with
  | none => rw [fl_none hx]
  | some x =>
    by_cases ho : okS x
    · rw [fl_yes hx ho]
      unfold stepF
      split
      · rfl
      · dsimp only
        split
        · exact setV_ne h
        · rfl
    · rw [fl_no hx ho]
theorem fl_old {home : List V8} {l : List Sn} {j : Nat} : ∀ k, k ≤ j → (fl home l k).2[j]? = l[j]?
  | 0, _ => rfl
  | k + 1, h => by rw [fl_ne (by omega), fl_old k (by omega)]
theorem fl_new {home : List V8} {l : List Sn} {j : Nat} (k : Nat) : ∀ n, k = j + 1 → (fl home l (k + n)).2[j]? = (fl home l k).2[j]?
  | 0, _ => rfl
  | n + 1, h => by rw [← Nat.add_assoc, fl_ne (by omega), fl_new k n h]
theorem fl_len (home : List V8) (l : List Sn) (k : Nat) : (fl home l k).1.length = home.length ∧ (fl home l k).2.length = l.length := foldF_len _ _
theorem fill_len (home : List V8) (l : List Sn) : (fillR home l).2.length = l.length := (foldF_len _ _).2
theorem fill_at {home : List V8} {l : List Sn} {k : Nat} {x : Sn} (hx : l[k]? = some x) : (fillR home l).2[k]? = (fl home l (k + 1)).2[k]? := by
  have hk := (List.getElem?_eq_some_iff.1 hx).1
  show (fl home l l.length).2[k]? = _
  obtain ⟨n, hn⟩ : ∃ n, l.length = k + 1 + n := ⟨l.length - (k + 1), by omega⟩
  rw [hn]; exact fl_new (k + 1) n rfl
/-- what stands at a step once all is filled -/
theorem fill_get {home : List V8} {l : List Sn} {k : Nat} {x : Sn} (hh : home.length = 32) (hx : l[k]? = some x) :
    ∃ y, (fillR home l).2[k]? = some y ∧ y.kind = x.kind ∧ y.block = x.block ∧ (¬ okS x → fl home l (k + 1) = fl home l k) ∧
      (okS x → x.kind = 2 → y.val = x.val ∧ fl home l (k + 1) = ((fl home l k).1.set x.block.toNat x.val, (fl home l k).2)) ∧
      (okS x → x.kind ≠ 2 → (fl home l k).1[x.block.toNat]? = some y.val ∧ (fl home l (k + 1)).1 = (fl home l k).1) := by
  have ho := fl_old (home := home) (l := l) (j := k) k (Nat.le_refl _)
  have hl := fl_len home l k
  by_cases hok : okS x
  · have hs := fl_yes (home := home) hx hok
    by_cases hk : x.kind = 2
    · have e : stepF (fl home l k) (k, x) = ((fl home l k).1.set x.block.toNat x.val, (fl home l k).2) := by unfold stepF; rw [if_pos hk]
      refine ⟨x, ?_, rfl, rfl, fun h => absurd hok h, fun _ _ => ⟨rfl, hs.trans e⟩, fun _ h => absurd hk h⟩
      rw [fill_at hx, hs, e]; exact ho.trans hx
    · obtain ⟨v, hv⟩ : ∃ v, (fl home l k).1[x.block.toNat]? = some v := ⟨_, List.getElem?_eq_getElem (by have := hok.2; omega)⟩
      have e : stepF (fl home l k) (k, x) = ((fl home l k).1, setV (fl home l k).2 k v) := by unfold stepF; rw [if_neg hk]; simp only [hv]
      have hkl := (List.getElem?_eq_some_iff.1 hx).1
      refine ⟨x.fill v, ?_, rfl, rfl, fun h => absurd hok h, fun _ h => absurd h hk, fun _ _ => ⟨hv, by rw [hs, e]⟩⟩
      rw [fill_at hx, hs, e]
      dsimp only
      unfold setV
      rw [ho, hx]
      dsimp only
      rw [List.getElem?_set_self (by omega)]
  · refine ⟨x, ?_, rfl, rfl, fun _ => fl_no hx hok, fun h => absurd h hok, fun h => absurd h hok⟩
    rw [fill_at hx, fl_no hx hok]; exact ho.trans hx
theorem okS_of {x y : Sn} (h1 : y.kind = x.kind) (h2 : y.block = x.block) : okS y ↔ okS x := by unfold okS; rw [h1, h2]
/-- what is filled has the same steps, and is told right -/
theorem fill_steps {home : List V8} {l : List Sn} (hh : home.length = 32) : ∀ k, k ≤ l.length → sk (stepsP (fillR home l).2 k) = sk (stepsP l k) ∧ (stepsP (fillR home l).2 k).foldl stepD (home, true) = ((fl home l k).1, true)
  | 0, _ => ⟨rfl, rfl⟩
  | k + 1, h => by
    obtain ⟨ih1, ih2⟩ := fill_steps (l := l) hh k (by omega)
    obtain ⟨x, hx⟩ : ∃ x, l[k]? = some x := ⟨_, List.getElem?_eq_getElem (by omega)⟩
    obtain ⟨y, hy, hk, hb, h0, h2, h3⟩ := fill_get hh hx
    by_cases ho : okS x
    · have hoy := (okS_of hk hb).2 ho
      rw [stepsP_yes hy hoy, stepsP_yes hx ho, List.foldl_append, ih2]
      refine ⟨by unfold sk at ih1 ⊢; rw [List.map_append, List.map_append, ih1]; simp [hk, hb], ?_⟩
      simp only [List.foldl_cons, List.foldl_nil]
      by_cases hk2 : x.kind = 2
      · obtain ⟨hv, e⟩ := h2 ho hk2
        unfold stepD
        rw [if_pos (hk.trans hk2), e]
        simp only [hb, hv]
      · obtain ⟨hv, e⟩ := h3 ho hk2
        unfold stepD
        rw [if_neg (fun h => hk2 (hk.symm.trans h)), e]
        simp only [hb, hv, V8.eqb_refl, Bool.and_true]
    · have hoy : ¬ okS y := fun h => ho ((okS_of hk hb).1 h)
      rw [stepsP_no hy hoy, stepsP_no hx ho, h0 ho]
      exact ⟨ih1, ih2⟩
theorem fill_told {home : List V8} {l : List Sn} (hh : home.length = 32) : (doR home (fillR home l).2).2 = true := by
  unfold doR
  rw [fill_len, (fill_steps hh l.length (Nat.le_refl _)).2]
theorem fill_sk {home : List V8} {l : List Sn} (hh : home.length = 32) : sk (stepsP (fillR home l).2 (fillR home l).2.length) = sk (stepsP l l.length) := by
  rw [fill_len]; exact (fill_steps hh l.length (Nat.le_refl _)).1
theorem fill_ok {home : List V8} {l : List Sn} (hh : home.length = 32) (h : ∀ x ∈ l, okS x) : ∀ x ∈ (fillR home l).2, okS x := by
  intro y hy
  obtain ⟨i, hi⟩ := List.getElem?_of_mem hy
  have hlt := (List.getElem?_eq_some_iff.1 hi).1
  rw [fill_len] at hlt
  obtain ⟨x, hx⟩ : ∃ x, l[i]? = some x := ⟨_, List.getElem?_eq_getElem hlt⟩
  obtain ⟨z, hz, hk, hb, -⟩ := fill_get hh hx
  rw [hi] at hz; obtain rfl := Option.some.inj hz
  exact (okS_of hk hb).2 (h x (List.mem_of_getElem? hx))

/-! swapped -/
theorem fold_wrs : ∀ (q : Qs) (p p' : List V8 × Bool) (k : Nat), p.1.length = p'.1.length → (∀ x ∈ q, 0 ≤ x.2.block) → WrsP q (k : Int) → (q.foldl stepD p).1[k]? = (q.foldl stepD p').1[k]?
  | [], _, _, _, _, _, ⟨_, h, _⟩ => by cases h
  | x :: q, p, p', k, hl, ho, hw => by
    rw [List.foldl_cons, List.foldl_cons]
    have ho' : ∀ y ∈ q, 0 ≤ y.2.block := fun y hy => ho y (List.mem_cons_of_mem _ hy)
    by_cases h : WrsP q (k : Int)
    · exact fold_wrs q _ _ k (by rw [stepD_len, stepD_len, hl]) ho' h
    · rw [fold_stays q _ k ho' h, fold_stays q _ k ho' h]
      obtain ⟨y, hy, h1, h2⟩ := hw
      rcases List.mem_cons.1 hy with rfl | hy
      · unfold stepD
        rw [if_pos h1, if_pos h1, h2]
        simp only [Int.toNat_natCast, List.getElem?_set, hl, if_true]
      · exact absurd ⟨y, hy, h1, h2⟩ h
theorem rds_cons {x : Nat × Sn} {q : Qs} {k : Int} (h : RdsP q k) (hx : ¬ (x.2.kind = 2 ∧ x.2.block = k)) : RdsP (x :: q) k := by
  obtain ⟨p1, y, p2, rfl, h1, h2, h3⟩ := h
  refine ⟨x :: p1, y, p2, rfl, h1, h2, ?_⟩
  rintro ⟨z, hz, h4⟩
  rcases List.mem_cons.1 hz with rfl | hz
  · exact hx h4
  · exact h3 ⟨z, hz, h4⟩
theorem rds_head {x : Nat × Sn} {q : Qs} (h : x.2.kind ≠ 2) : RdsP (x :: q) x.2.block := ⟨[], x, q, rfl, h, rfl, wrs_nil _⟩
theorem fold_told : ∀ (q : Qs) (p p' : List V8 × Bool), p.1.length = p'.1.length → p.2 = p'.2 → (∀ x ∈ q, 0 ≤ x.2.block) → (∀ k : Nat, RdsP q (k : Int) → p.1[k]? = p'.1[k]?) → (q.foldl stepD p).2 = (q.foldl stepD p').2
  | [], _, _, _, h, _, _ => h
  | x :: q, p, p', hl, ht, ho, hr => by
    rw [List.foldl_cons, List.foldl_cons]
    have hx0 := ho x (List.mem_cons_self ..)
    refine fold_told q _ _ (by rw [stepD_len, stepD_len, hl]) ?_ (fun y hy => ho y (List.mem_cons_of_mem _ hy)) fun k hk => ?_
    · unfold stepD
      split
      · exact ht
      · rename_i h2
        have := hr x.2.block.toNat (by rw [Int.toNat_of_nonneg hx0]; exact rds_head h2)
        dsimp only
        rw [this, ht]
    · unfold stepD
      split
      · rename_i h2
        dsimp only
        rw [List.getElem?_set, List.getElem?_set, hl]
        by_cases e : x.2.block.toNat = k
        · simp only [e, if_true]
        · rw [if_neg e, if_neg e]
          exact hr k (rds_cons hk fun h => e (by rw [h.2, Int.toNat_natCast]))
      · rename_i h2
        exact hr k (rds_cons hk fun h => h2 h.1)
theorem steps_nn {l : List Sn} : ∀ x ∈ stepsP l l.length, 0 ≤ x.2.block := fun _ h => (stepsP_mem h).2.2.1
/-- two that are told right, one behind the other, and do not clash: the other way round they are told right too, and the blocks are the same -/
theorem swap {home : List V8} {m n : List Sn} (hm : (doR home m).2 = true) (hn : (doR (doR home m).1 n).2 = true) (hc : ¬ ClashP (stepsP m m.length) (stepsP n n.length)) :
    (doR home n).2 = true ∧ (doR (doR home n).1 m).2 = true ∧ (doR (doR home n).1 m).1 = (doR (doR home m).1 n).1 := by
  have hlm : (doR home m).1.length = home.length := foldD_len _ _
  have hln : (doR home n).1.length = home.length := foldD_len _ _
  refine ⟨?_, ?_, List.ext_getElem? fun k => ?_⟩
  · rw [← hn]
    refine fold_told _ _ _ hlm.symm rfl steps_nn fun k hk => (do_stays fun hw => hc ⟨k, .inl ⟨hw, hk⟩⟩).symm
  · rw [← hm]
    refine fold_told _ _ _ hln rfl steps_nn fun k hk => do_stays fun hw => hc ⟨k, .inr (.inr ⟨hk, hw⟩)⟩
  · by_cases h1 : WrsP (stepsP m m.length) (k : Int)
    · have h2 : ¬ WrsP (stepsP n n.length) (k : Int) := fun h => hc ⟨k, .inr (.inl ⟨h1, h⟩)⟩
      rw [do_stays (home := (doR home m).1) (l := n) h2]
      exact fold_wrs _ _ _ k hln steps_nn h1
    · rw [do_stays (home := (doR home n).1) (l := m) h1]
      by_cases h2 : WrsP (stepsP n n.length) (k : Int)
      · exact fold_wrs _ _ _ k hlm.symm steps_nn h2
      · rw [do_stays h2, do_stays h2, do_stays h1]
/-- both done, in one order -/
theorem allR_two {home : List V8} {m n : List Sn} (hm : (doR home m).2 = true) (hn : (doR (doR home m).1 n).2 = true) : allR home [m, n] = ((doR (doR home m).1 n).1, true, 2) := by
  have e1 : allStep (home, true, 0) m = ((doR home m).1, true, 1) := allStep_of (h2 := (doR home m).1) (told := true) (by rw [← hm])
  have e2 : allStep ((doR home m).1, true, 1) n = ((doR (doR home m).1 n).1, true, 2) := allStep_of (h2 := (doR (doR home m).1 n).1) (told := true) (by rw [← hn])
  simp only [allR, List.foldl_cons, List.foldl_nil]
  rw [e1, e2]

end Go.Proofs.Ytgngbdhdnnkncaa
