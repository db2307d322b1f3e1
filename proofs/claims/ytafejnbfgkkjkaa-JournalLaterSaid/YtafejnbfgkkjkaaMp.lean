/-
  The second walk: maps of one's own.
-/
import Derived.Test.YtafejnbfgkkjkaaVN
import Derived.Maps.RangeRun
namespace Go.Proofs.Ytafejnbfgkkjkaa
open Go.RowKit Go.Sort
variable {ds : List Deferred}
variable {P : Program} {ops : Array Oper} {Q : Exit → Act → World → Prop} {rest : List Oper} {n d : Nat} {a : Act} {L : List (Nat × Value)} {w w0 : World} {v : Value} {o : Oper} {H : List Ent}

section
variable {κ : Type} {enc : κ → Value}
abbrev Mes (κ : Type) := List (κ × MapEntry)
/-- entries as a map keeps them -/
structure Good (enc : κ → Value) (l : Mes κ) (clock : Nat) : Prop where
  keys : ∀ p ∈ l, p.2.key = enc p.1
  born : (l.map (·.2.born)).Pairwise (· < ·)
  old : ∀ p ∈ l, p.2.born < clock
  nodup : (l.map (·.1)).Nodup
theorem nodup_at {l : Mes κ} (h : (l.map (·.1)).Nodup) {i j : Nat} {p q : κ × MapEntry} (hp : l[i]? = some p) (hq : l[j]? = some q) (e : p.1 = q.1) : i = j := by
  have h1 : (l.map (·.1))[i]? = some p.1 := by simp [hp]
  have h2 : (l.map (·.1))[j]? = some q.1 := by simp [hq]
  have hi : i < (l.map (·.1)).length := (List.getElem?_eq_some_iff.1 h1).1
  exact (List.getElem?_inj hi h).1 (by rw [h1, h2, e])
theorem good_nil (c : Nat) : Good enc ([] : Mes κ) c := ⟨fun p h => (by cases h), .nil, fun p h => (by cases h), .nil⟩

/-- the block b is a map of these entries -/
abbrev mapX (b : Nat) (l : Mes κ) (c : Nat) : Ent := .own b (b + 1) fun W => W.heap[b]? = some (.map (l.map (·.2)).toArray c)
theorem Mem.mapAt {b c pos : Nat} {l : Mes κ} (M : Mem w0 w H) (h : H[pos]? = some (mapX b l c)) : w.heap[b]? = some (.map (l.map (·.2)).toArray c) := M.own pos h
theorem Mem.mapSet {b c pos c' : Nat} {l l' : Mes κ} (M : Mem w0 w H) (h : H[pos]? = some (mapX b l c)) : Mem w0 (w.putObj b (.map (l'.map (·.2)).toArray c')) (H.set pos (mapX b l' c')) := by
  have hlt := (Array.getElem?_eq_some_iff.1 (M.mapAt h)).1
  have hoth : ∀ k, k ≠ b → (w.putObj b (.map (l'.map (·.2)).toArray c')).heap[k]? = w.heap[k]? := fun k hk => World.putObj_heap_other hk
  refine M.change (e' := mapX b l' c') pos h rfl rfl (fun W' hs => ?_) (by simp [World.putObj]) rfl rfl rfl (fun k hk => hoth k (fun e => hk (by subst e; simp [Ent.lo, Ent.hi])))
  show W'.heap[b]? = _
  rw [hs b (Nat.le_refl _) (Nat.lt_succ_self _)]; exact World.putObj_heap_same hlt

variable [DecidableEq κ]
/-- where a key stands -/
def posK (k : κ) : Mes κ → Nat → Option (Nat × Value)
  | [], _ => none
  | p :: l, i => if p.1 = k then some (i, p.2.val) else posK k l (i + 1)
/-- keys of a kind: how they are found -/
structure KeyT (P : Program) (kt : TypeId) (enc : κ → Value) : Prop where
  find : ∀ (k : κ) (l : Mes κ) (w : World), (∀ p ∈ l, p.2.key = enc p.1) → (Instr.findKey kt (enc k) (l.map (·.2))).run P w = .ok (posK k l 0) w
  check : ∀ (b : Bool) (k : κ) (w : World), (Instr.checkKey b 10000 kt (enc k)).run P w = .ok () w
  bits : ∀ k : κ, Instr.sameBits 10000 (enc k) (enc k) = true
def getM (l : Mes κ) (k : κ) : Option Value := (l.find? (·.1 = k)).map (·.2.val)
def hasM (l : Mes κ) (k : κ) : Prop := k ∈ l.map (·.1)
def setM (l : Mes κ) (k : κ) (v : Value) : Mes κ := l.map fun p => if p.1 = k then (p.1, { p.2 with val := v }) else p
/-- the entries and the clock behind a store -/
def putM (enc : κ → Value) (l : Mes κ) (clock : Nat) (k : κ) (v : Value) : Mes κ × Nat :=
  if k ∈ l.map (·.1) then (setM l k v, clock) else (l ++ [(k, { key := enc k, val := v, born := clock })], clock + 1)
theorem posK_none : ∀ {l : Mes κ} {k : κ} {i : Nat}, k ∉ l.map (·.1) → posK k l i = none
  | [], k, i, h => rfl
  | p :: l, k, i, h => by
    rw [List.map_cons, List.mem_cons, not_or] at h
    rw [posK, if_neg (fun e => h.1 e.symm)]
    exact posK_none h.2
theorem posK_some : ∀ {l : Mes κ} {k : κ} {i : Nat}, k ∈ l.map (·.1) → ∃ (j : Nat) (p : κ × MapEntry), l[j]? = some p ∧ p.1 = k ∧ posK k l i = some (i + j, p.2.val) ∧ getM l k = some p.2.val
  | p :: l, k, i, h => by
    by_cases hp : p.1 = k
    · exact ⟨0, p, rfl, hp, by rw [posK, if_pos hp]; rfl, by simp [getM, hp]⟩
    · have h' : k ∈ l.map (·.1) := by
        rcases List.mem_cons.1 h with h | h
        · exact absurd h.symm hp
        · exact h
      obtain ⟨j, q, h1, h2, h3, h4⟩ := posK_some (i := i + 1) h'
      refine ⟨j + 1, q, h1, h2, by rw [posK, if_neg hp, h3]; congr 2; omega, ?_⟩
      unfold getM at h4 ⊢
      rw [List.find?_cons_of_neg (by simpa using hp)]; exact h4
theorem getM_none {l : Mes κ} {k : κ} (h : k ∉ l.map (·.1)) : getM l k = none := by
  unfold getM
  rw [Option.map_eq_none_iff, List.find?_eq_none]
  intro p hp
  simp only [decide_eq_true_eq]
  intro e; exact h (by rw [← e]; exact List.mem_map_of_mem hp)
theorem setM_modify {l : Mes κ} {k : κ} {v : Value} (h : (l.map (·.1)).Nodup) {j : Nat} {p : κ × MapEntry} (hj : l[j]? = some p) (hk : p.1 = k) : ((l.map (·.2)).toArray.modify j fun e => { e with val := v }) = ((setM l k v).map (·.2)).toArray := by
  apply Array.ext'
  rw [Array.toList_modify]
  refine List.ext_getElem? fun i => ?_
  rw [List.getElem?_modify]
  simp only [setM, List.map_map, List.getElem?_map]
  cases hi : l[i]? with
  | none => simp
  | some q =>
    simp only [Option.map_some, Function.comp]
    by_cases hij : j = i
    · subst hij
      rw [hj] at hi; obtain rfl := Option.some.inj hi
      simp [hk]
    · have hne : q.1 ≠ k := fun e => hij (nodup_at h hj hi (by rw [hk, e]))
      simp [hij, hne]
theorem Good.put {l : Mes κ} {c : Nat} (h : Good enc l c) (k : κ) (v : Value) : Good enc (putM enc l c k v).1 (putM enc l c k v).2 := by
  unfold putM
  split
  · have e1 : (setM l k v).map (·.1) = l.map (·.1) := by
      unfold setM; rw [List.map_map]; congr 1; funext p; simp only [Function.comp]; split <;> rfl
    have e2 : (setM l k v).map (·.2.born) = l.map (·.2.born) := by
      unfold setM; rw [List.map_map]; congr 1; funext p; simp only [Function.comp]; split <;> rfl
    refine ⟨fun p hp => ?_, by rw [e2]; exact h.born, fun p hp => ?_, by rw [e1]; exact h.nodup⟩
    · obtain ⟨q, hq, rfl⟩ := List.mem_map.1 hp
      simp only
      split
      · exact h.keys q hq
      · exact h.keys q hq
    · obtain ⟨q, hq, rfl⟩ := List.mem_map.1 hp
      simp only
      split
      · exact h.old q hq
      · exact h.old q hq
  · rename_i hk
    refine ⟨fun p hp => ?_, ?_, fun p hp => ?_, ?_⟩
    · rcases List.mem_append.1 hp with hp | hp
      · exact h.keys p hp
      · obtain rfl := List.mem_singleton.1 hp; rfl
    · rw [List.map_append, List.pairwise_append]
      refine ⟨h.born, by simp, fun x hx y hy => ?_⟩
      obtain ⟨q, hq, rfl⟩ := List.mem_map.1 hx
      simp at hy; subst hy
      exact h.old q hq
    · rcases List.mem_append.1 hp with hp | hp
      · exact Nat.lt_succ_of_lt (h.old p hp)
      · obtain rfl := List.mem_singleton.1 hp; exact Nat.lt_succ_self _
    · rw [List.map_append, List.nodup_append]
      refine ⟨h.nodup, by simp, fun x hx y hy e => ?_⟩
      simp at hy; subst hy; subst e; exact hk hx
theorem run_lookupM {b t kt e : Nat} {l : Mes κ} {c : Nat} {z : Value} {k : κ} {cm : Bool} (K : KeyT P kt enc) (G : Good enc l c) (ht : P.underlying t = some (.map kt e)) (hz : (zeroValue e).run P w = .ok z w) (hb : w.heap[b]? = some (.map (l.map (·.2)).toArray c)) :
    (Instr.lookup t (.map (some b)) (enc k) cm).run P w = .ok (if cm = true then .tuple #[(getM l k).getD z, .bool (decide (k ∈ l.map (·.1)))] else (getM l k).getD z) w := by
  have hf := K.find k l w G.keys
  simp only [Instr.lookup, Sem.run_bind, run_underlying ht, Result.andThen_ok, getObj, Sem.run, hb, Result.andThen, Sem.run_pure, List.toList_toArray, K.check]
  rw [hf]
  by_cases hk : k ∈ l.map (·.1)
  · obtain ⟨j, p, h1, h2, h3, h4⟩ := posK_some (i := 0) hk
    simp only [h3, h4, Option.getD_some, decide_eq_true hk]
    cases cm <;> rfl
  · simp only [posK_none hk, getM_none hk, Option.getD_none, decide_eq_false hk, Sem.run_bind, hz, Result.andThen]
    cases cm <;> rfl
theorem run_updateM {b t kt e : Nat} {l : Mes κ} {c : Nat} {k : κ} (K : KeyT P kt enc) (G : Good enc l c) (ht : P.underlying t = some (.map kt e)) (hb : w.heap[b]? = some (.map (l.map (·.2)).toArray c)) :
    (Instr.mapUpdate t (.map (some b)) (enc k) v).run P w = .ok () (w.putObj b (.map ((putM enc l c k v).1.map (·.2)).toArray (putM enc l c k v).2)) := by
  have hf := K.find k l w G.keys
  simp only [Instr.mapUpdate, Sem.run_bind, run_underlying ht, Result.andThen_ok, getObj, Sem.run, hb, Result.andThen, Sem.run_pure, List.toList_toArray, K.check]
  rw [hf]
  by_cases hk : k ∈ l.map (·.1)
  · obtain ⟨j, p, h1, h2, h3, h4⟩ := posK_some (i := 0) hk
    have hkey : (((l.map (·.2)).toArray[0 + j]?).map (·.key)).getD (enc k) = enc k := by
      simp [h1, G.keys p (List.mem_of_getElem? h1), h2]
    simp only [h3]
    rw [hkey]
    simp only [Instr.keyThatStays, K.bits, if_true, Sem.run_bind, Sem.run_pure, Result.andThen]
    have e : ((l.map (·.2)).toArray.modify (0 + j) fun e => { key := enc k, val := v, born := e.born }) = ((setM l k v).map (·.2)).toArray := by
      rw [← setM_modify (v := v) G.nodup h1 h2, Nat.zero_add]
      apply Array.ext'
      rw [Array.toList_modify, Array.toList_modify]
      refine List.ext_getElem? fun i => ?_
      rw [List.getElem?_modify, List.getElem?_modify]
      by_cases hij : j = i
      · subst hij
        simp [h1, G.keys p (List.mem_of_getElem? h1), h2]
      · simp [hij]
    rw [e]
    simp [setObj, Sem.run, hb, World.putObj, putM, hk]
  · simp only [posK_none hk]
    simp [setObj, Sem.run, hb, World.putObj, putM, hk]
end

end Go.Proofs.Ytafejnbfgkkjkaa
