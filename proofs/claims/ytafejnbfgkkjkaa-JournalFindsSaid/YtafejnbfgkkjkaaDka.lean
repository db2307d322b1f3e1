/-
  Package disk: how a disk lies in memory; what it holds, plainly.
-/
import Derived.Test.YtafejnbfgkkjkaaPn
import Derived.Test.YtafejnbfgkkjkaaMq
import Derived.Test.YtafejnbfgkkjkaaJoin
import Derived.Test.YtafejnbfgkkjkaaCpy
import Derived.Test.YtafejnbfgkkjkaaBytes
namespace Go.Proofs.Ytafejnbfgkkjkaa
open Go.RowKit Go.Sort

/-- a row of bytes of one's own -/
structure RB where
  lo : Nat
  hi : Nat
  a : Option Addr
  c : Nat
  bs : List UInt8
abbrev RB.val (r : RB) : Value := .slice r.a r.bs.length r.c
def RB.ent (r : RB) : Ent := rowE r.lo r.hi 5 1 r.val r.bs.length (bcells r.bs)
/-- a sector's writes since the last flush -/
structure Sec where
  key : Int
  lo : Nat
  hi : Nat
  a : Option Addr
  c : Nat
  ws : List RB
abbrev Sec.val (s : Sec) : Value := .slice s.a s.ws.length s.c
def Sec.ent (s : Sec) : Ent := rowE s.lo s.hi 32 1 s.val s.ws.length (s.ws.map RB.val)
def Sec.ents (s : Sec) : List Ent := s.ent :: s.ws.map RB.ent
def secsE (l : List Sec) : List Ent := l.flatMap Sec.ents
/-- a disk's cells: what is durable, the map of what was written, whether it is down -/
def dcells (dur : List UInt8) (m : Nat) (down : Bool) : List Value := bcells dur ++ [.map (some m), .bool down]
abbrev eJ : Int → Value := fun z => .int .i64 z
def secOf (l : List Sec) (k : Int) : Option Sec := l.find? fun s => decide (s.key = k)
structure Dk where
  b : Nat
  m : Nat
  cl : Nat
  ml : Mes Int
  dur : List UInt8
  down : Bool
  secs : List Sec
structure Dk.Ok (D : Dk) : Prop where
  dur : D.dur.length = 2176
  good : Good eJ D.ml D.cl
  nodup : (D.secs.map Sec.key).Nodup
  tell : ∀ k, getM D.ml k = (secOf D.secs k).map Sec.val
  sec : ∀ s ∈ D.secs, (0 ≤ s.key ∧ s.key < 34) ∧ s.ws ≠ [] ∧ ∀ r ∈ s.ws, r.bs.length = 64
def Dk.ents (D : Dk) : List Ent := .blk D.b (dcells D.dur D.m D.down).toArray 50 :: mapX D.m D.ml D.cl :: secsE D.secs
/-- a sector as it is durably -/
def durAt (dur : List UInt8) (k : Nat) : List UInt8 := (dur.drop (k * 64)).take 64
theorem durAt_len {dur : List UInt8} (h : dur.length = 2176) {k : Nat} (hk : k < 34) : (durAt dur k).length = 64 := by
  unfold durAt; rw [List.length_take, List.length_drop, h]; omega
/-- what a disk holds -/
structure DS where
  dur : Nat → List UInt8
  cache : Int → List (List UInt8)
  down : Bool
def cacheOf (l : List Sec) (k : Int) : List (List UInt8) := match secOf l k with
  | some s => s.ws.map RB.bs
  | none => []
def Dk.st (D : Dk) : DS := ⟨durAt D.dur, cacheOf D.secs, D.down⟩
/-- these entries are the disk at b, which holds S -/
def DkE (b : Nat) (S : DS) (E : List Ent) : Prop := ∃ D : Dk, D.b = b ∧ D.Ok ∧ D.st = S ∧ E = D.ents

theorem dcells_len {dur : List UInt8} (h : dur.length = 2176) (m : Nat) (d : Bool) : (dcells dur m d).length = 2178 := by
  unfold dcells; rw [List.length_append, bcells_length, h]; rfl
theorem dcells_map {dur : List UInt8} (h : dur.length = 2176) (m : Nat) (d : Bool) : (dcells dur m d).toArray[2176]? = some (.map (some m)) := by
  rw [List.getElem?_toArray]; unfold dcells
  rw [List.getElem?_append_right (by rw [bcells_length]; omega), bcells_length, h]; rfl
theorem dcells_down {dur : List UInt8} (h : dur.length = 2176) (m : Nat) (d : Bool) : (dcells dur m d).toArray[2177]? = some (.bool d) := by
  rw [List.getElem?_toArray]; unfold dcells
  rw [List.getElem?_append_right (by rw [bcells_length]; omega), bcells_length, h]; rfl
theorem dcells_setDown {dur : List UInt8} (h : dur.length = 2176) (m : Nat) (d d' : Bool) : putL (dcells dur m d) 2177 [.bool d'] = dcells dur m d' := by
  have e := putL_mid (A := bcells dur ++ [.map (some m)]) (B := [Value.bool d]) (C := []) (us := [Value.bool d']) rfl
  rw [show (bcells dur ++ [Value.map (some m)]).length = 2177 by rw [List.length_append, bcells_length, h]; rfl] at e
  unfold dcells
  simp only [List.append_assoc, List.cons_append, List.nil_append] at e
  exact e
/-! maps -/
section
variable {κ : Type} [DecidableEq κ] {enc : κ → Value}
theorem get_putJ (l : Mes κ) (c : Nat) (k k' : κ) (v : Value) : getM (putM enc l c k v).1 k' = if k' = k then some v else getM l k' := by
  unfold putM
  split
  · rename_i hk
    unfold getM setM
    rw [List.find?_map]
    have e : ((fun p : κ × MapEntry => decide (p.1 = k')) ∘ fun p : κ × MapEntry => if p.1 = k then (p.1, { p.2 with val := v }) else p) = fun p => decide (p.1 = k') := by
      funext p; simp only [Function.comp]; split <;> rfl
    rw [e]
    by_cases h : k' = k
    · subst h
      rw [if_pos rfl]
      obtain ⟨p, hp, hpk⟩ := List.mem_map.1 hk
      cases hf : l.find? (fun p => decide (p.1 = k')) with
      | none =>
        rw [List.find?_eq_none] at hf
        exact absurd (by simpa using hpk) (hf p hp)
      | some q =>
        have := List.find?_some hf
        simp only [decide_eq_true_eq] at this
        simp [this]
    · rw [if_neg h]
      cases hf : l.find? (fun p => decide (p.1 = k')) with
      | none => rfl
      | some q =>
        have := List.find?_some hf
        simp only [decide_eq_true_eq] at this
        have h2 : ¬ q.1 = k := fun e => h (this.symm.trans e)
        simp [h2]
  · rename_i hk
    unfold getM
    rw [List.find?_append]
    by_cases h : k' = k
    · subst h
      rw [if_pos rfl]
      have : l.find? (fun p => decide (p.1 = k')) = none := by
        rw [List.find?_eq_none]
        intro p hp e
        simp only [decide_eq_true_eq] at e
        exact hk (by rw [← e]; exact List.mem_map_of_mem hp)
      rw [this]; simp
    · rw [if_neg h]
      have h2 : ¬ k = k' := fun e => h e.symm
      cases hf : l.find? (fun p => decide (p.1 = k')) <;> simp [h2]
end
/-! a sector of the map -/
theorem secOf_some {l : List Sec} {k : Int} {s : Sec} (h : secOf l k = some s) : ∃ P Q, l = P ++ s :: Q ∧ s.key = k := by
  have hm := List.mem_of_find?_eq_some h
  have hk := List.find?_some h
  obtain ⟨P, Q, e⟩ := List.append_of_mem hm
  exact ⟨P, Q, e, by simpa using hk⟩
theorem secOf_none {l : List Sec} {k : Int} : secOf l k = none ↔ ∀ s ∈ l, s.key ≠ k := by
  unfold secOf
  rw [List.find?_eq_none]
  simp
theorem secOf_mid {P Q : List Sec} {s : Sec} (hn : ((P ++ s :: Q).map Sec.key).Nodup) (k : Int) : secOf (P ++ s :: Q) k = if k = s.key then some s else secOf (P ++ Q) k := by
  rw [List.map_append, List.map_cons, List.nodup_append] at hn
  obtain ⟨h1, h2, h3⟩ := hn
  have hP : ∀ t ∈ P, t.key ≠ s.key := fun t ht => h3 _ (List.mem_map_of_mem ht) _ (by simp)
  by_cases e : k = s.key
  · subst e
    rw [if_pos rfl]
    unfold secOf
    rw [List.find?_append, show P.find? (fun t => decide (t.key = s.key)) = none by rw [List.find?_eq_none]; intro t ht; simpa using hP t ht]
    simp
  · rw [if_neg e]
    unfold secOf
    rw [List.find?_append, List.find?_append, List.find?_cons, show decide (s.key = k) = false by simpa using fun h => e h.symm]
theorem secsE_mid (P Q : List Sec) (s : Sec) : (secsE (P ++ s :: Q)).Perm (s.ents ++ secsE (P ++ Q)) := by
  unfold secsE
  rw [List.flatMap_append, List.flatMap_cons, List.flatMap_append, ← List.append_assoc, ← List.append_assoc]
  exact List.Perm.append_right _ List.perm_append_comm

end Go.Proofs.Ytafejnbfgkkjkaa
