/-
  Package lock: what a release does, plainly; who waits is older than all it waits for: kept by a release.
-/
import Derived.Test.YtcbofgcmfkcglaaLq
import Derived.Test.YtcbofgcmfkcglaaLp
namespace Go.Proofs.Ytcbofgcmfkcglaa
open Go.RowKit Go.Sort

/-- the places of a block's holders -/
def idxF : List Lk → Nat → Int → List Int
  | [], _, _ => []
  | x :: l, s, k => (if x.block = k then [(s : Int)] else []) ++ idxF l (s + 1) k
abbrev idxB (l : List Lk) (k : Int) : List Int := idxF l 0 k
theorem idxF_append : ∀ (l m : List Lk) (s : Nat) (k : Int), idxF (l ++ m) s k = idxF l s k ++ idxF m (s + l.length) k
  | [], m, s, k => by simp [idxF]
  | x :: l, m, s, k => by
    rw [List.cons_append, idxF, idxF, idxF_append l m, List.append_assoc, List.length_cons, show s + 1 + l.length = s + (l.length + 1) by omega]
theorem idxB_snoc (l : List Lk) (x : Lk) (k : Int) : idxB (l ++ [x]) k = idxB l k ++ if x.block = k then [(l.length : Int)] else [] := by
  unfold idxB; rw [idxF_append, idxF, idxF, List.append_nil, Nat.zero_add]
theorem idxF_set : ∀ (l : List Lk) (i s : Nat) (k : Int) (q q' : Lk), l[i]? = some q → q'.block = q.block → idxF (l.set i q') s k = idxF l s k
  | [], i, s, k, q, q', h, _ => by simp at h
  | x :: l, 0, s, k, q, q', h, e => by
    simp only [List.getElem?_cons_zero, Option.some.injEq] at h
    subst h
    rw [List.set_cons_zero, idxF, idxF, e]
  | x :: l, i + 1, s, k, q, q', h, e => by
    rw [List.getElem?_cons_succ] at h
    rw [List.set_cons_succ, idxF, idxF, idxF_set l i (s + 1) k q q' h e]
theorem idxF_len : ∀ (l : List Lk) (s : Nat) (k : Int), (idxF l s k).length = (l.filter fun q => q.block == k).length
  | [], s, k => rfl
  | x :: l, s, k => by
    rw [idxF, List.length_append, idxF_len l, List.filter_cons]
    by_cases h : x.block = k
    · rw [if_pos h, if_pos (by simpa using h)]; simp; omega
    · rw [if_neg h, if_neg (by simpa using h)]; simp
theorem idxF_mem : ∀ (l : List Lk) (s : Nat) (k : Int) (z : Int), z ∈ idxF l s k → ∃ (j : Nat) (q : Lk), z = ((s + j : Nat) : Int) ∧ l[j]? = some q ∧ q.block = k
  | [], s, k, z, h => by cases h
  | x :: l, s, k, z, h => by
    rw [idxF, List.mem_append] at h
    rcases h with h | h
    · by_cases e : x.block = k
      · rw [if_pos e] at h
        rw [List.mem_singleton.1 h]
        exact ⟨0, x, rfl, rfl, e⟩
      · rw [if_neg e] at h; cases h
    · obtain ⟨j, q, h1, h2, h3⟩ := idxF_mem l (s + 1) k z h
      exact ⟨j + 1, q, by rw [h1, show s + 1 + j = s + (j + 1) by omega], by rw [List.getElem?_cons_succ]; exact h2, h3⟩
theorem idxB_head {l : List Lk} {k z : Int} (h : (idxB l k)[0]? = some z) : ∃ (j : Nat) (q : Lk), z = (j : Int) ∧ l[j]? = some q ∧ q.block = k := by
  obtain ⟨j, q, h1, h2, h3⟩ := idxF_mem l 0 k z (List.mem_of_getElem? h)
  exact ⟨j, q, by rw [h1, Nat.zero_add], h2, h3⟩
/-- where a place stands in a row: its number from 1 on, or 0 -/
def posF : List Lk → Nat → Pl → Int
  | [], _, _ => 0
  | x :: l, s, p => if x.pl = p then ((s + 1 : Nat) : Int) else posF l (s + 1) p
abbrev posB (l : List Lk) (p : Pl) : Int := posF l 0 p
theorem posF_spec : ∀ (l : List Lk) (s : Nat) (p : Pl), (posF l s p = 0 ∧ ∀ q ∈ l, q.pl ≠ p) ∨ ∃ (i : Nat) (q : Lk), posF l s p = ((s + i + 1 : Nat) : Int) ∧ l[i]? = some q ∧ q.pl = p
  | [], s, p => .inl ⟨rfl, fun q h => (by cases h)⟩
  | x :: l, s, p => by
    unfold posF
    by_cases e : x.pl = p
    · rw [if_pos e]; exact .inr ⟨0, x, rfl, rfl, e⟩
    · rw [if_neg e]
      rcases posF_spec l (s + 1) p with ⟨h1, h2⟩ | ⟨i, q, h1, h2, h3⟩
      · refine .inl ⟨h1, fun q hq => ?_⟩
        rcases List.mem_cons.1 hq with rfl | hq
        · exact e
        · exact h2 q hq
      · exact .inr ⟨i + 1, q, by rw [h1, show s + 1 + i + 1 = s + (i + 1) + 1 by omega], by rw [List.getElem?_cons_succ]; exact h2, h3⟩
theorem posB_spec (l : List Lk) (p : Pl) : (posB l p = 0 ∧ ∀ q ∈ l, q.pl ≠ p) ∨ ∃ (i : Nat) (q : Lk), posB l p = ((i + 1 : Nat) : Int) ∧ l[i]? = some q ∧ q.pl = p := by
  have := posF_spec l 0 p
  simp only [Nat.zero_add] at this
  exact this
theorem posF_snoc : ∀ (l : List Lk) (s : Nat) (x : Lk) (p : Pl), (∀ q ∈ l, q.pl ≠ x.pl) → posF (l ++ [x]) s p = if p = x.pl then ((s + l.length + 1 : Nat) : Int) else posF l s p
  | [], s, x, p, _ => by
    rw [List.nil_append, posF, posF]
    by_cases e : x.pl = p
    · rw [if_pos e, if_pos e.symm]; rfl
    · rw [if_neg e, if_neg fun h => e h.symm]; rfl
  | y :: l, s, x, p, h => by
    have ih := posF_snoc l (s + 1) x p fun q hq => h q (List.mem_cons_of_mem _ hq)
    have hy := h y (List.mem_cons_self ..)
    rw [List.cons_append, posF, ih, posF]
    by_cases e : y.pl = p
    · rw [if_pos e, if_pos e, if_neg (fun h' => hy (e.trans h'))]
    · rw [if_neg e, if_neg e, List.length_cons, show s + 1 + l.length + 1 = s + (l.length + 1) + 1 by omega]
theorem posB_snoc {l : List Lk} {x : Lk} (h : ∀ q ∈ l, q.pl ≠ x.pl) (p : Pl) : posB (l ++ [x]) p = if p = x.pl then ((l.length + 1 : Nat) : Int) else posB l p := by
  have := posF_snoc l 0 x p h
  rw [Nat.zero_add] at this
  exact this
theorem posF_set : ∀ (l : List Lk) (i s : Nat) (p : Pl) (q q' : Lk), l[i]? = some q → q'.pl = q.pl → posF (l.set i q') s p = posF l s p
  | [], i, s, p, q, q', h, _ => by simp at h
  | x :: l, 0, s, p, q, q', h, e => by
    simp only [List.getElem?_cons_zero, Option.some.injEq] at h
    subst h
    rw [List.set_cons_zero, posF, posF, e]
  | x :: l, i + 1, s, p, q, q', h, e => by
    rw [List.getElem?_cons_succ] at h
    rw [List.set_cons_succ, posF, posF, posF_set l i (s + 1) p q q' h e]
/-- is one that waits kept from its block? -/
def Blk13 (held : List Lk) (x : Lk) : Prop := BlockedP held (idxB held x.block) (decide (posB held x.pl ≠ 0)) x
/-- a lock is granted -/
def grantL (held : List Lk) (x : Lk) : List Lk :=
  if posB held x.pl = 0 then held ++ [x] else if x.excl = true then match held[(posB held x.pl - 1).toNat]? with
    | some q => held.set (posB held x.pl - 1).toNat q.strong
    | none => held
  else held
open Classical in
/-- a block's row of waiters is gone through -/
noncomputable def rowP (held gone : List Lk) : List Lk → List Lk × List Lk
  | [] => (held, gone)
  | x :: xs => if Blk13 held x then (held, gone) else rowP (grantL held x) (gone ++ [x]) xs
theorem rowP_stop {held gone xs : List Lk} {x : Lk} (h : Blk13 held x) : rowP held gone (x :: xs) = (held, gone) := by rw [rowP, if_pos h]
theorem rowP_go {held gone xs : List Lk} {x : Lk} (h : ¬ Blk13 held x) : rowP held gone (x :: xs) = rowP (grantL held x) (gone ++ [x]) xs := by rw [rowP, if_neg h]
/-- what is held and granted behind so many blocks -/
noncomputable def relP (h0 w0 : List Lk) : Nat → List Lk × List Lk
  | 0 => (h0, [])
  | k + 1 => rowP (relP h0 w0 k).1 (relP h0 w0 k).2 (w0.filter fun q => q.block == (k : Int))
/-- who still waits -/
def remG (w0 gone : List Lk) : List Lk := w0.filter fun y => decide (y.pl ∉ gone.map Lk.pl)

/-! the law -/
structure RelI (NP : Nm → Prop) (h wt : List Lk) : Prop where
  ok : OkM h wt
  young : YoungM h wt
  nh : ∀ q ∈ h, NP q.name
  nw : ∀ q ∈ wt, NP q.name
theorem RelI.blocked {NP : Nm → Prop} {h wt : List Lk} (T : RelI NP h wt) {x : Lk} (hB : Blk13 h x) : ∃ q ∈ h, conf q x = true := by
  unfold Blk13 BlockedP at hB
  by_cases he : x.excl = true
  · rw [if_pos he, idxF_len] at hB
    have hnd : (h.filter fun q => q.block == x.block).Nodup := (nodup_of_pl T.ok.nodup).sublist List.filter_sublist
    have hmem : ∀ q ∈ h.filter (fun q => q.block == x.block), q ∈ h ∧ q.block = x.block := fun q hq => by
      have := List.mem_filter.1 hq
      exact ⟨this.1, by simpa using this.2⟩
    suffices ∃ q ∈ h.filter (fun q => q.block == x.block), q.name ≠ x.name by
      obtain ⟨q, hq, hne⟩ := this
      exact ⟨q, (hmem q hq).1, conf_iff.2 ⟨(hmem q hq).2, hne, .inr he⟩⟩
    rcases hB with h1 | ⟨h1, h2⟩
    · match hl : h.filter (fun q => q.block == x.block) with
      | [] => rw [hl] at h1; simp at h1
      | [_] => rw [hl] at h1; simp at h1
      | a :: b :: r =>
        rw [hl] at hmem hnd
        have ha := hmem a (by simp)
        have hb := hmem b (by simp)
        by_cases e : a.name = x.name
        · refine ⟨b, by rw [hl]; simp, fun e2 => ?_⟩
          have : a = b := pl_inj T.ok.nodup ha.1 hb.1 (pl_ext (e.trans e2.symm) (ha.2.trans hb.2.symm))
          rw [List.nodup_cons] at hnd
          exact hnd.1 (by rw [this]; simp)
        · exact ⟨a, by rw [hl]; simp, e⟩
    · match hl : h.filter (fun q => q.block == x.block) with
      | [] => rw [hl] at h1; simp at h1
      | a :: r =>
        rw [hl] at hmem
        have ha := hmem a (by simp)
        refine ⟨a, by rw [hl]; simp, fun e => ?_⟩
        simp only [ne_eq, decide_not, Bool.not_eq_false', decide_eq_true_eq] at h2
        rcases posB_spec h x.pl with ⟨-, h3⟩ | ⟨i, q, h3, -⟩
        · exact h3 a ha.1 (pl_ext e ha.2)
        · omega
  · rw [if_neg he] at hB
    obtain ⟨k, q, -, h2, h3⟩ := hB
    exact ⟨q, List.mem_of_getElem? h2, h3⟩
theorem RelI.grant {NP : Nm → Prop} {h wt : List Lk} (T : RelI NP h wt) {x : Lk} (hx : x ∈ wt) (hfirst : ∀ w ∈ wt, w ≠ x → conf x w = true → w.name.stamp < x.name.stamp) (hB : ¬ Blk13 h x) :
    RelI NP (grantL h x) (wt.filter fun y => decide (y.pl ≠ x.pl)) ∧ (grantL h x).length ≤ h.length + 1 ∧ ∀ q, q.block ≠ x.block → (q ∈ grantL h x ↔ q ∈ h) := by
  have hsub : (wt.filter fun y => decide (y.pl ≠ x.pl)).Sublist wt := List.filter_sublist
  have hwm : ∀ w ∈ wt.filter (fun y => decide (y.pl ≠ x.pl)), w ∈ wt ∧ w.pl ≠ x.pl := fun w hw => by
    have := List.mem_filter.1 hw
    exact ⟨this.1, by simpa using this.2⟩
  have O' : OkM h (wt.filter fun y => decide (y.pl ≠ x.pl)) := ⟨T.ok.may, T.ok.nodup, T.ok.alone, fun w hw => T.ok.wmay w (hwm w hw).1, T.ok.wnodup.sublist (hsub.map _), fun w hw => T.ok.wexcl w (hwm w hw).1⟩
  have Y' : YoungM h (wt.filter fun y => decide (y.pl ≠ x.pl)) := ⟨fun w hw => T.young.held w (hwm w hw).1, T.young.ahead.sublist hsub⟩
  have hxm := T.ok.wmay x hx
  have hnew : ∀ (y : Lk), y.name = x.name → y.block = x.block → (y.excl = x.excl) → ∀ w ∈ wt.filter (fun y => decide (y.pl ≠ x.pl)), conf w y = true → w.name.stamp < y.name.stamp := fun y h1 h2 h3 w hw hc => by
    have hw' := hwm w hw
    rw [h1]
    refine hfirst w hw'.1 (fun e => hw'.2 (by rw [e])) ?_
    rw [conf_iff] at hc ⊢
    rw [h1, h2, h3] at hc
    exact ⟨hc.1.symm, fun e => hc.2.1 e.symm, hc.2.2.symm⟩
  unfold Blk13 BlockedP at hB
  unfold grantL
  rcases posB_spec h x.pl with ⟨h0, hno⟩ | ⟨i, q, h0, hq, hqp⟩
  · rw [if_pos h0]
    have hal : ∀ q ∈ h, q.block = x.block → q.excl = false ∧ x.excl = false := by
      intro q hq hb
      have hqf : q ∈ h.filter (fun q => q.block == x.block) := List.mem_filter.2 ⟨hq, by simpa using hb⟩
      by_cases he : x.excl = true
      · exfalso
        rw [if_pos he, idxF_len, h0] at hB
        simp only [ne_eq, not_true_eq_false, decide_false, and_true, not_or] at hB
        have := List.length_pos_of_mem hqf
        omega
      · refine ⟨?_, by simpa using he⟩
        rw [if_neg he] at hB
        cases hqe : q.excl with
        | false => rfl
        | true =>
          exfalso
          have hlen : 0 < (idxB h x.block).length := by rw [idxF_len]; exact List.length_pos_of_mem hqf
          obtain ⟨z, hz⟩ : ∃ z, (idxB h x.block)[0]? = some z := ⟨_, List.getElem?_eq_getElem hlen⟩
          obtain ⟨j, q', rfl, hq', hqb⟩ := idxB_head hz
          have := T.ok.alone q hq q' (List.mem_of_getElem? hq') (by rw [hb, hqb]) hqe
          subst this
          exact hB ⟨j, q', hz, hq', conf_iff.2 ⟨hqb, fun e => hno q' hq (pl_ext e hqb), .inl hqe⟩⟩
    refine ⟨⟨O'.snoc hxm hno hal fun w hw => (hwm w hw).2, young_held Y' fun w hw y hy hc => ?_, fun y hy => ?_, fun y hy => T.nw y (hwm y hy).1⟩, by simp, fun y hy => ?_⟩
    · rcases List.mem_append.1 hy with hy | hy
      · exact Y'.held w hw y hy hc
      · rw [List.mem_singleton] at hy
        exact hnew y (by rw [hy]) (by rw [hy]) (by rw [hy]) w hw hc
    · rcases List.mem_append.1 hy with hy | hy
      · exact T.nh y hy
      · rw [List.mem_singleton.1 hy]; exact T.nw x hx
    · rw [List.mem_append, List.mem_singleton]
      exact ⟨fun h => h.resolve_right fun e => hy (by rw [e]), .inl⟩
  · rw [if_neg (by omega)]
    by_cases he : x.excl = true
    · rw [if_pos he, show (posB h x.pl - 1).toNat = i by omega, hq]
      rw [if_pos he, idxF_len, h0] at hB
      have hqm := List.mem_of_getElem? hq
      have hqb : q.block = x.block := (Prod.ext_iff.1 hqp).2
      have hqn : q.name = x.name := (Prod.ext_iff.1 hqp).1
      have hlen : (h.filter fun q => q.block == x.block).length ≤ 1 := by omega
      have hal : ∀ y ∈ h, y.block = q.block → y = q := fun y hy hb =>
        one_len hlen (List.mem_filter.2 ⟨hy, by simpa using hb.trans hqb⟩) (List.mem_filter.2 ⟨hqm, by simpa using hqb⟩)
      refine ⟨⟨O'.strong hq hal fun w hw => by rw [hqp]; exact (hwm w hw).2, young_held Y' fun w hw y hy hc => ?_, fun y hy => ?_, fun y hy => T.nw y (hwm y hy).1⟩, by rw [List.length_set]; omega, fun y hy => ?_⟩
      · rcases (mem_strong T.ok.nodup hq).1 hy with hy | ⟨hy, -⟩
        · exact hnew y (by rw [hy]; exact hqn) (by rw [hy]; exact hqb) (by rw [hy, he]; rfl) w hw hc
        · exact Y'.held w hw y hy hc
      · rcases (mem_strong T.ok.nodup hq).1 hy with hy | ⟨hy, -⟩
        · rw [hy]; exact T.nh q hqm
        · exact T.nh y hy
      · rw [mem_strong T.ok.nodup hq]
        constructor
        · rintro (e | ⟨h1, -⟩)
          · exact absurd (by rw [e]; exact hqb) hy
          · exact h1
        · exact fun h1 => .inr ⟨h1, fun e => hy ((Prod.ext_iff.1 e).2.trans hqb)⟩
    · rw [if_neg he]
      exact ⟨⟨O', Y', T.nh, fun y hy => T.nw y (hwm y hy).1⟩, by omega, fun y _ => Iff.rfl⟩
theorem remG_snoc (w0 gone : List Lk) (x : Lk) : remG w0 (gone ++ [x]) = (remG w0 gone).filter fun y => decide (y.pl ≠ x.pl) := by
  unfold remG
  rw [List.filter_filter]
  congr 1; funext y
  rw [Bool.eq_iff_iff]
  simp only [List.map_append, List.map_cons, List.map_nil, List.mem_append, List.mem_singleton, not_or, decide_eq_true_eq, Bool.and_eq_true]
  exact and_comm
theorem row_step {NP : Nm → Prop} {w0 : List Lk} {k : Int} : ∀ (row held gone : List Lk), RelI NP held (remG w0 gone) → (remG w0 gone).filter (fun y => y.block == k) = row →
    RelI NP (rowP held gone row).1 (remG w0 (rowP held gone row).2) ∧ KeptAt (rowP held gone row).1 (remG w0 (rowP held gone row).2) k ∧ (∀ q, q.block ≠ k → (q ∈ (rowP held gone row).1 ↔ q ∈ held)) ∧
      (∀ j, j ≠ k → (remG w0 (rowP held gone row).2).filter (fun y => y.block == j) = (remG w0 gone).filter fun y => y.block == j) ∧ (rowP held gone row).1.length + (remG w0 (rowP held gone row).2).length ≤ held.length + (remG w0 gone).length
  | [], held, gone, T, hr => by
    rw [rowP]
    refine ⟨T, fun f hf => ?_, fun q _ => Iff.rfl, fun j _ => rfl, Nat.le_refl _⟩
    rw [hr] at hf; cases hf
  | x :: xs, held, gone, T, hr => by
    have hxf : x ∈ (remG w0 gone).filter (fun y => y.block == k) := by rw [hr]; simp
    obtain ⟨hx, hxb⟩ := List.mem_filter.1 hxf
    have hxb : x.block = k := by simpa using hxb
    by_cases hB : Blk13 held x
    · rw [rowP_stop hB]
      refine ⟨T, fun f hf => ?_, fun q _ => Iff.rfl, fun j _ => rfl, Nat.le_refl _⟩
      rw [hr] at hf
      obtain rfl := Option.some.inj hf
      exact T.blocked hB
    · rw [rowP_go hB]
      have hfirst : ∀ w ∈ remG w0 gone, w ≠ x → conf x w = true → w.name.stamp < x.name.stamp := fun w hw hne hc =>
        head_ahead (p := fun y => y.block == k) (by rw [hr]; rfl) hw (by rw [← (conf_iff.1 hc).1]; simpa using hxb) hne T.young.ahead (conf_symm hc)
      obtain ⟨T1, hl1, hloc⟩ := T.grant hx hfirst hB
      rw [← remG_snoc] at T1
      have hnd : ((x :: xs).map Lk.pl).Nodup := by rw [← hr]; exact T.ok.wnodup.sublist (List.filter_sublist.map _)
      have hr1 : (remG w0 (gone ++ [x])).filter (fun y => y.block == k) = xs := by
        rw [remG_snoc, List.filter_filter, show (fun a : Lk => (a.block == k) && decide (a.pl ≠ x.pl)) = fun a => decide (a.pl ≠ x.pl) && (a.block == k) from funext fun a => Bool.and_comm .., ← List.filter_filter, hr]
        rw [List.filter_cons, if_neg (by simp)]
        refine List.filter_eq_self.2 fun y hy => ?_
        rw [List.map_cons, List.nodup_cons] at hnd
        have : y.pl ≠ x.pl := fun e => hnd.1 (by rw [← e]; exact List.mem_map_of_mem hy)
        simpa using this
      obtain ⟨T2, K2, L2, W2, N2⟩ := row_step xs (grantL held x) (gone ++ [x]) T1 hr1
      refine ⟨T2, K2, fun q hq => (L2 q hq).trans (hloc q (by rw [hxb]; exact hq)), fun j hj => (W2 j hj).trans ?_, ?_⟩
      · rw [remG_snoc, List.filter_filter]
        refine List.filter_congr fun y _ => ?_
        by_cases e : y.block = j
        · have : y.pl ≠ x.pl := fun e2 => hj (e.symm.trans ((show y.block = x.block from (Prod.ext_iff.1 e2).2).trans hxb))
          simp [e, this]
        · simp [e]
      · have hlt : (remG w0 (gone ++ [x])).length + 1 ≤ (remG w0 gone).length := by
          rw [remG_snoc]
          have := List.length_filter_lt_length_iff_exists (p := fun y : Lk => decide (y.pl ≠ x.pl)) (l := remG w0 gone) |>.2 ⟨x, hx, by simp⟩
          omega
        omega
theorem rel_step {NP : Nm → Prop} {h0 w0 : List Lk} (T : RelI NP h0 w0) : ∀ (k : Nat),
    RelI NP (relP h0 w0 k).1 (remG w0 (relP h0 w0 k).2) ∧ (∀ j : Nat, j < k → KeptAt (relP h0 w0 k).1 (remG w0 (relP h0 w0 k).2) (j : Int)) ∧ (∀ j : Int, (k : Int) ≤ j → (remG w0 (relP h0 w0 k).2).filter (fun y => y.block == j) = w0.filter fun y => y.block == j) ∧
      (relP h0 w0 k).1.length + (remG w0 (relP h0 w0 k).2).length ≤ h0.length + w0.length
  | 0 => by
    have e : remG w0 [] = w0 := List.filter_eq_self.2 fun y _ => by simp
    rw [relP, e]
    exact ⟨T, fun j hj => absurd hj (by omega), fun j _ => rfl, Nat.le_refl _⟩
  | k + 1 => by
    obtain ⟨T1, K1, W1, N1⟩ := rel_step T k
    rw [relP]
    obtain ⟨T2, K2, L2, W2, N2⟩ := row_step _ _ _ T1 (W1 (k : Int) (Int.le_refl _))
    refine ⟨T2, fun j hj => ?_, fun j hj => ?_, by omega⟩
    · rcases Nat.lt_or_ge j k with h | h
      · intro f hf
        rw [W2 (j : Int) (by omega)] at hf
        obtain ⟨q, hq, hc⟩ := K1 j h f hf
        have hfb : f.block = (j : Int) := by
          have := (head_mem hf).2
          simpa using this
        refine ⟨q, (L2 q (by rw [(conf_iff.1 hc).1, hfb]; omega)).2 hq, hc⟩
      · obtain rfl : j = k := by omega
        exact K2
    · rw [W2 j (by omega), W1 j (by omega)]
/-- what a release leaves -/
def RelRes (h wt : List Lk) (n : Nm) (h' wt' : List Lk) : Prop :=
  h' = (relP (h.filter fun q => !q.name.eqb n) (wt.filter fun q => !q.name.eqb n) 32).1 ∧ wt' = remG (wt.filter fun q => !q.name.eqb n) (relP (h.filter fun q => !q.name.eqb n) (wt.filter fun q => !q.name.eqb n) 32).2
theorem release_step {NP : Nm → Prop} {h wt h' wt' : List Lk} {n : Nm} (T : TabM NP h wt) (R : RelRes h wt n h' wt') : TabM NP h' wt' ∧ h'.length + wt'.length ≤ h.length + wt.length := by
  obtain ⟨rfl, rfl⟩ := R
  have hs1 : (h.filter fun q => !q.name.eqb n).Sublist h := List.filter_sublist
  have hs2 : (wt.filter fun q => !q.name.eqb n).Sublist wt := List.filter_sublist
  have T0 : RelI NP (h.filter fun q => !q.name.eqb n) (wt.filter fun q => !q.name.eqb n) :=
    ⟨⟨fun x hx => T.ok.may x (hs1.subset hx), T.ok.nodup.sublist (hs1.map _), fun a ha b hb => T.ok.alone a (hs1.subset ha) b (hs1.subset hb), fun x hx => T.ok.wmay x (hs2.subset hx), T.ok.wnodup.sublist (hs2.map _), fun x hx q hq => T.ok.wexcl x (hs2.subset hx) q (hs1.subset hq)⟩,
      ⟨fun w hw q hq => T.young.held w (hs2.subset hw) q (hs1.subset hq), T.young.ahead.sublist hs2⟩, fun q hq => T.nh q (hs1.subset hq), fun q hq => T.nw q (hs2.subset hq)⟩
  obtain ⟨T1, K1, -, N1⟩ := rel_step T0 32
  refine ⟨⟨T1.ok, T1.young, fun k f hf => ?_, T1.nh, T1.nw⟩, ?_⟩
  · obtain ⟨hfm, hfb⟩ := head_mem hf
    obtain ⟨j, hj, hj2⟩ := may_block (T1.ok.wmay f hfm)
    have hfb : f.block = k := by simpa using hfb
    refine K1 j hj2 f ?_
    rw [← hj, hfb]; exact hf
  · have := hs1.length_le
    have := hs2.length_le
    omega

end Go.Proofs.Ytcbofgcmfkcglaa
