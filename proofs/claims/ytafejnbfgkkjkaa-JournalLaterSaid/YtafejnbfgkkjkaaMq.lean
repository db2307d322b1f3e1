/-
  The second walk: maps of one's own, as operations.
-/
import Derived.Test.YtafejnbfgkkjkaaMp
namespace Go.Proofs.Ytafejnbfgkkjkaa
open Go.RowKit Go.Sort
variable {ds : List Deferred}
variable {P : Program} {ops : Array Oper} {Q : Exit → Act → World → Prop} {rest : List Oper} {n d : Nat} {a : Act} {L : List (Nat × Value)} {w w0 : World} {v : Value} {o : Oper} {H : List Ent}

/-! ### keys -/
theorem key_int {kt : TypeId} (hk : P.underlying kt = some (.int .i64)) : KeyT P kt (fun z : Int => Value.int .i64 z) := by
  have hnow : ∀ (k : Int) (l : Mes Int) (i : Nat), (∀ p ∈ l, p.2.key = .int .i64 p.1) → Instr.findNow (.int .i64) (.int .i64 k) (l.map (·.2)) i = some (posK k l i) := by
    intro k l
    induction l with
    | nil => intro i _; rfl
    | cons p l ih =>
      intro i h
      rw [List.map_cons, Instr.findNow, h p (List.mem_cons_self ..)]
      by_cases e : p.1 = k
      · simp [Instr.sameNow, e, posK]
      · have e' : ¬ k = p.1 := fun h => e h.symm
        simp only [Instr.sameNow, if_true, posK, if_neg e]
        rw [show (k == p.1) = false by simpa using e']
        exact ih (i + 1) fun q hq => h q (List.mem_cons_of_mem _ hq)
  refine ⟨fun k l w h => ?_, fun b k w => ?_, fun k => by simp [Instr.sameBits]⟩
  · simp only [Instr.findKey, Sem.run_bind, run_underlying hk, Result.andThen, hnow k l 0 h, Sem.run_pure]
  · rw [show (10000 : Nat) = 9999 + 1 from rfl, Instr.checkKey]
    simp only [Sem.run_bind, run_underlying hk, Result.andThen, Sem.run_pure]

section
variable {κ : Type} {enc : κ → Value}
theorem st_makeMap {t : TypeId} (S : SeesD ds n a L) (M : Mem w0 w H) {d : Nat} {ty : TypeId} {p : String} {e : Array Edge} {g : Option (Nat × Bool)} (hg : gd ops L ⟨some d, .makeMap t none, ty, p, e, g⟩ = some true) (hn : Nat.blt d n = true)
    (k : ∀ a w' b, SeesD ds n a ((d, .map (some b)) :: L) → Mem w0 w' (mapX b ([] : Mes κ) 0 :: H) → Below w.heap.size w w' → wpList P ops Q rest a w') : wpList P ops Q (⟨some d, .makeMap t none, ty, p, e, g⟩ :: rest) a w := by
  refine st_w (v := .map (some w.heap.size)) (w' := w.alloc (.map #[] 0)) S hg rfl hn ?_ fun a S => k a _ w.heap.size S ?_ (ext_alloc (ext_refl _) _)
  · unfold execOp
    simp [Instr.makeMap, newObj, Sem.run, go_sem]
  · refine M.push (ext_alloc (ext_refl _) _) _ (fun W' hs => ?_) (Nat.le_refl _) (by simp [Ent.hi])
    show W'.heap[w.heap.size]? = _
    rw [hs w.heap.size (Nat.le_refl _) (Nat.lt_succ_self _)]; exact World.alloc_heap_new w _
/-- a range over a map begins -/
abbrev itX (r b since : Nat) (seen : List Nat) (c0 : Nat) : Ent := .own r (r + 1) fun W => W.heap[r]? = some (.mapIter (some b) since seen.toArray c0)
theorem st_rangeM {t kt e b c pos : Nat} {l : Mes κ} {x : Operand} (S : SeesD ds n a L) (M : Mem w0 w H) (ht : P.underlying t = some (.map kt e)) (hp : H[pos]? = some (mapX b l c)) (hx : val L x = some (.map (some b))) {d : Nat} {ty : TypeId} {p : String} {ed : Array Edge} {g : Option (Nat × Bool)} (hg : gd ops L ⟨some d, .range t x, ty, p, ed, g⟩ = some true) (hn : Nat.blt d n = true)
    (k : ∀ a w' r, SeesD ds n a ((d, .pointer (some ⟨r, 0, none⟩)) :: L) → Mem w0 w' (itX r b c [] c :: H) → Below w.heap.size w w' → wpList P ops Q rest a w') : wpList P ops Q (⟨some d, .range t x, ty, p, ed, g⟩ :: rest) a w := by
  have hb := M.mapAt hp
  refine st_w (v := .pointer (some ⟨w.heap.size, 0, none⟩)) (w' := w.alloc (.mapIter (some b) c #[] c)) S hg rfl hn ?_ fun a S => k a _ w.heap.size S ?_ (ext_alloc (ext_refl _) _)
  · unfold execOp
    simp only [S.eval hx]
    simp [Instr.range, run_underlying ht, getObj, newObj, Sem.run, hb, go_sem]
  · refine M.push (ext_alloc (ext_refl _) _) _ (fun W' hs => ?_) (Nat.le_refl _) (by simp [Ent.hi])
    show W'.heap[w.heap.size]? = _
    rw [hs w.heap.size (Nat.le_refl _) (Nat.lt_succ_self _)]; exact World.alloc_heap_new w _
abbrev bornsM (vs : Mes κ) : List Nat := vs.map (·.2.born)
theorem born_one {l : Mes κ} {c : Nat} (G : Good enc l c) {p q : κ × MapEntry} (hp : p ∈ l) (hq : q ∈ l) (e : p.2.born = q.2.born) : p = q := by
  obtain ⟨i, hi⟩ := List.getElem?_of_mem hp
  obtain ⟨j, hj⟩ := List.getElem?_of_mem hq
  have h1 : (l.map (·.2.born))[i]? = some p.2.born := by simp [hi]
  have h2 : (l.map (·.2.born))[j]? = some q.2.born := by simp [hj]
  have hn : (l.map (·.2.born)).Nodup := G.born.imp fun h => Nat.ne_of_lt h
  have hlt : i < (l.map (·.2.born)).length := (List.getElem?_eq_some_iff.1 h1).1
  have : i = j := (List.getElem?_inj hlt hn).1 (by rw [h1, h2, e])
  subst this
  rw [hi] at hj; exact Option.some.inj hj
theorem st_nextM {b c r pos pm : Nat} {l vs : Mes κ} {x : Operand} (S : SeesD ds n a L) (M : Mem w0 w H) (G : Good enc l c) (hv : ∀ p ∈ vs, p ∈ l) (hp : H[pos]? = some (itX r b c (bornsM vs) c)) (hm : H[pm]? = some (mapX b l c)) (hx : val L x = some (.pointer (some ⟨r, 0, none⟩))) {d : Nat} {ty : TypeId} {p : String} {ed : Array Edge} {g : Option (Nat × Bool)} (hg : gd ops L ⟨some d, .next x false, ty, p, ed, g⟩ = some true) (hn : Nat.blt d n = true)
    (k1 : (∀ q ∈ l, q ∈ vs) → ∀ a, SeesD ds n a ((d, .tuple #[.bool false]) :: L) → wpList P ops Q rest a w)
    (k2 : ∀ q ∈ l, q ∉ vs → ∀ a w', SeesD ds n a ((d, .tuple #[.bool true, enc q.1, q.2.val]) :: L) → Mem w0 w' (H.set pos (itX r b c (bornsM (vs ++ [q])) c)) → wpList P ops Q rest a w') : wpList P ops Q (⟨some d, .next x false, ty, p, ed, g⟩ :: rest) a w := by
  have hb := M.mapAt hm
  have hr : w.heap[r]? = some (.mapIter (some b) c (bornsM vs).toArray c) := M.own pos hp
  have hmem : ∀ e : MapEntry, e ∈ (l.map (·.2)).toArray.toList ↔ ∃ q ∈ l, q.2 = e := fun e => by rw [List.toList_toArray, List.mem_map]
  rcases run_next_at (P := P) w ty r b c c (bornsM vs).toArray (l.map (·.2)).toArray c hr hb (fun e he => by obtain ⟨q, hq, rfl⟩ := (hmem e).1 he; exact G.old q hq) (Nat.le_refl _) with ⟨h0, hrun⟩ | ⟨e, he, w1, hw1, hrun⟩
  · refine st_w S hg rfl hn (by unfold execOp; simp only [S.eval hx]; rw [show ∀ s : Sem Value, Sem.run P (do let v ← s; pure (Next.value v)) w = (Sem.run P s w).andThen fun v w => .ok (.value v) w from fun s => by rw [Sem.run_bind]; rfl, hrun]; rfl) fun a S => k1 (fun q hq => ?_) a S
    have hall : ∀ e ∈ (l.map (·.2)).toArray, (bornsM vs).toArray.contains e.born = true := by
      intro e he
      have := Array.eq_empty_of_size_eq_zero h0
      unfold leftOf at this
      rw [Array.filter_eq_empty_iff] at this
      simpa using this e he
    have h1 := hall q.2 (by simpa using ⟨q.1, hq⟩)
    simp only [List.contains_toArray, List.contains_iff_mem] at h1
    obtain ⟨q', hq', e⟩ := List.mem_map.1 h1
    rw [born_one G hq (hv q' hq') e.symm]; exact hq'
  · have he' : e ∈ (l.map (·.2)).toArray ∧ e.born ∉ bornsM vs := by
      unfold leftOf at he
      simpa using he
    obtain ⟨q, hq, rfl⟩ := (hmem e).1 (by simpa using he'.1)
    have hM1 : Mem w0 w1 H := by rcases hw1 with rfl | rfl; exact M; exact M.drew
    refine st_w S hg rfl hn (w' := ChangeMaps.setBlock w1 r (.mapIter (some b) c ((bornsM vs).toArray.push q.2.born) c)) (by unfold execOp; simp only [S.eval hx]; rw [show ∀ s : Sem Value, Sem.run P (do let v ← s; pure (Next.value v)) w = (Sem.run P s w).andThen fun v w => .ok (.value v) w from fun s => by rw [Sem.run_bind]; rfl, hrun]; rfl) fun a S => k2 q hq (fun h => he'.2 (List.mem_map_of_mem h)) a _ (by rw [G.keys q hq] at S; exact S) ?_
    have hr1 : w1.heap[r]? = some (.mapIter (some b) c (bornsM vs).toArray c) := hM1.own pos hp
    have hlt := (Array.getElem?_eq_some_iff.1 hr1).1
    refine hM1.change (e' := itX r b c (bornsM (vs ++ [q])) c) pos hp rfl rfl (fun W' hs => ?_) (by simp [ChangeMaps.setBlock]) rfl rfl rfl (fun k hk => ?_)
    · show W'.heap[r]? = _
      rw [hs r (Nat.le_refl _) (Nat.lt_succ_self _)]
      simp [ChangeMaps.setBlock, hlt]
    · have : k ≠ r := fun e => hk (by subst e; simp [Ent.lo, Ent.hi])
      simp [ChangeMaps.setBlock, Array.getElem?_setIfInBounds, this.symm]
theorem y_entryM {b c r pos pm : Nat} {l vs : Mes κ} {x : Operand} {q : κ × MapEntry} (S : SeesD ds n a L) (M : Mem w0 w H) (G : Good enc l c) (hq : q ∈ l) (hp : H[pos]? = some (itX r b c (bornsM (vs ++ [q])) c)) (hm : H[pm]? = some (mapX b l c)) (hx : val L x = some (.pointer (some ⟨r, 0, none⟩))) {d : Option Tmp} {ty : TypeId} {p : String} {ed : Array Edge} {g : Option (Nat × Bool)} :
    Yields P a ⟨d, .entry x, ty, p, ed, g⟩ w (.tuple #[enc q.1, q.2.val]) := by
  have hb := M.mapAt hm
  have hr : w.heap[r]? = some (.mapIter (some b) c ((bornsM vs).toArray.push q.2.born) c) := by
    have := M.own pos hp
    simp only [List.map_append, List.map_cons, List.map_nil] at this
    rw [this]; simp
  have h := run_entry_at (P := P) w r b c (bornsM vs).toArray (l.map (·.2)).toArray c q.2 hr hb (by simpa using ⟨q.1, hq⟩) (by
    have : (l.map (·.2)).toArray.toList.map (·.born) = l.map (·.2.born) := by simp
    rw [this]; exact G.born.imp fun h => Nat.ne_of_lt h)
  unfold Yields execOp
  simp only [S.eval hx, Sem.run_bind, h, Result.andThen, G.keys q hq]
  rfl
theorem st_clearM {t kt e b c pos : Nat} {l : Mes κ} {x : Operand} (S : SeesD ds n a L) (M : Mem w0 w H) (ht : P.underlying t = some (.map kt e)) (hp : H[pos]? = some (mapX b l c)) (hx : val L x = some (.map (some b))) {ty : TypeId} {p : String} {ed : Array Edge} {g : Option (Nat × Bool)}
    (hg : gd ops L ⟨none, .call { callee := .builtin .clear, args := #[x], argTypes := #[t] }, ty, p, ed, g⟩ = some true)
    (k : ∀ w', Mem w0 w' (H.set pos (mapX b ([] : Mes κ) c)) → wpList P ops Q rest a w') : wpList P ops Q (⟨none, .call { callee := .builtin .clear, args := #[x], argTypes := #[t] }, ty, p, ed, g⟩ :: rest) a w := by
  have hb := M.mapAt hp
  refine st_v (v := .tuple #[]) (w' := w.putObj b (.map (([] : Mes κ).map (·.2)).toArray c)) S hg rfl ?_ (k _ (M.mapSet hp))
  obtain ⟨cs, h⟩ := run_builtin (P := P) (w := w) (b := .clear) (xs := [x]) (vs := [.map (some b)]) S (by simp [vals, hx]) (d := none) (ts := #[t]) (t := ty) (p := p) (e := ed) (g := g)
  rw [h]
  simp [builtin, Builtin.clear_, run_underlying ht, getObj, setObj, Sem.run, hb, World.putObj, go_sem]
end
section
variable {κ : Type} [DecidableEq κ] {enc : κ → Value}
theorem y_lookupM {t kt e b c pos : Nat} {l : Mes κ} {z : Value} {k : κ} {cm : Bool} {x y : Operand} (S : SeesD ds n a L) (M : Mem w0 w H) (K : KeyT P kt enc) (G : Good enc l c) (ht : P.underlying t = some (.map kt e)) (hz : ∀ w, (zeroValue e).run P w = .ok z w) (hp : H[pos]? = some (mapX b l c)) (hx : val L x = some (.map (some b))) (hy : val L y = some (enc k)) {d : Option Tmp} {ty : TypeId} {p : String} {ed : Array Edge} {g : Option (Nat × Bool)} :
    Yields P a ⟨d, .lookup t x y cm, ty, p, ed, g⟩ w (if cm = true then .tuple #[(getM l k).getD z, .bool (decide (k ∈ l.map (·.1)))] else (getM l k).getD z) := by
  unfold Yields execOp
  simp only [S.eval hx, S.eval hy, Sem.run_bind, run_lookupM K G ht (hz w) (M.mapAt hp), Result.andThen]
  rfl
theorem st_updateM {t kt e b c pos : Nat} {l : Mes κ} {k : κ} {x y z : Operand} (S : SeesD ds n a L) (M : Mem w0 w H) (K : KeyT P kt enc) (G : Good enc l c) (ht : P.underlying t = some (.map kt e)) (hp : H[pos]? = some (mapX b l c)) (hx : val L x = some (.map (some b))) (hy : val L y = some (enc k)) (hz : val L z = some v) {ty : TypeId} {p : String} {ed : Array Edge} {g : Option (Nat × Bool)}
    (hg : gd ops L ⟨none, .mapUpdate t x y z, ty, p, ed, g⟩ = some true)
    (kk : ∀ w', Mem w0 w' (H.set pos (mapX b (putM enc l c k v).1 (putM enc l c k v).2)) → wpList P ops Q rest a w') : wpList P ops Q (⟨none, .mapUpdate t x y z, ty, p, ed, g⟩ :: rest) a w := by
  refine st_s S hg rfl ?_ (kk _ (M.mapSet hp))
  unfold execOp
  simp only [S.eval hx, S.eval hy, S.eval hz, Sem.run_bind, run_updateM K G ht (M.mapAt hp), Result.andThen]
  rfl
end
/-- a lookup in a map that is not one's own -/
theorem y_lookupB {κ : Type} [DecidableEq κ] {enc : κ → Value} {ds : List Deferred} {P : Program} {n : Nat} {a : Act} {L : List (Nat × Value)} {w : World} {t kt e b c : Nat} {l : Mes κ} {z : Value} {k : κ} {cm : Bool} {x y : Operand} (S : SeesD ds n a L) (hb : w.heap[b]? = some (.map (l.map (·.2)).toArray c)) (K : KeyT P kt enc) (G : Good enc l c) (ht : P.underlying t = some (.map kt e)) (hz : ∀ w, (zeroValue e).run P w = .ok z w) (hx : val L x = some (.map (some b))) (hy : val L y = some (enc k)) {d : Option Tmp} {ty : TypeId} {p : String} {ed : Array Edge} {g : Option (Nat × Bool)} :
    Yields P a ⟨d, .lookup t x y cm, ty, p, ed, g⟩ w (if cm = true then .tuple #[(getM l k).getD z, .bool (decide (k ∈ l.map (·.1)))] else (getM l k).getD z) := by
  unfold Yields execOp
  simp only [S.eval hx, S.eval hy, Sem.run_bind, run_lookupM K G ht (hz w) hb, Result.andThen]
  rfl

end Go.Proofs.Ytafejnbfgkkjkaa
