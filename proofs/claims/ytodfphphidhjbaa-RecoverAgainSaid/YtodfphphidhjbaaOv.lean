/-
  Blocks and their values, plainly: the blocks with writes; a store.
-/
import Derived.Test.YtodfphphidhjbaaWs
import Derived.Test.YtodfphphidhjbaaRm
namespace Go.Proofs.Ytodfphphidhjbaa
open Go.RowKit Go.Sort

/-- the cells of blocks -/
def hcells (h : List V8) : List Value := h.flatMap V8.cellsL
theorem hcells_length : ∀ h, (hcells h).length = h.length * 8
  | [] => rfl
  | x :: h => by
    show (x.cellsL ++ hcells h).length = _
    rw [List.length_append, hcells_length h]; simp; omega
theorem allOne_hcells : ∀ h, allOne (hcells h) = true
  | [] => rfl
  | x :: h => by
    show allOne (x.cellsL ++ hcells h) = true
    rw [allOne_append, allOne_hcells h]; rfl
theorem hcells_split {h : List V8} {i : Nat} {x : V8} (hx : h[i]? = some x) : hcells h = hcells (h.take i) ++ (x.cellsL ++ hcells (h.drop (i + 1))) := by
  obtain ⟨hlt, he⟩ := List.getElem?_eq_some_iff.1 hx
  conv => lhs; rw [← List.take_append_drop i h, List.drop_eq_getElem_cons hlt, he]
  simp [hcells]
theorem hcells_get {h : List V8} {i : Nat} {x : V8} (hx : h[i]? = some x) : ((hcells h).drop (i * 8)).take 8 = x.cellsL := by
  have hlt := (List.getElem?_eq_some_iff.1 hx).1
  rw [hcells_split hx, show i * 8 = (hcells (h.take i)).length by rw [hcells_length, List.length_take]; omega, List.drop_left]
  rfl
theorem hcells_set {h : List V8} {i : Nat} (hi : i < h.length) (x : V8) : putL (hcells h) (i * 8) x.cellsL = hcells (h.set i x) := by
  have hx := List.getElem?_eq_getElem hi
  rw [hcells_split hx, show i * 8 = (hcells (h.take i)).length by rw [hcells_length, List.length_take]; omega, putL_mid (B := (h[i]).cellsL) (us := x.cellsL) rfl]
  have h2 : (h.set i x)[i]? = some x := by rw [List.getElem?_set_self hi]
  rw [hcells_split h2, List.take_set_of_le (Nat.le_refl _), List.drop_set_of_lt (by omega)]
def blkIs (k : Int) : Prop := 0 ≤ k ∧ k < 32
instance (k : Int) : Decidable (blkIs k) := inferInstanceAs (Decidable (_ ∧ _))
/-- the blocks with one write, with writes -/
def on1 (h : List V8) (x : Wr) : List V8 := if blkIs x.block then h.set x.block.toNat x.val else h
def onF (h : List V8) (ws : List Wr) : List V8 := ws.foldl on1 h
theorem on1_length (h : List V8) (x : Wr) : (on1 h x).length = h.length := by unfold on1; split <;> simp
theorem onF_length : ∀ (ws : List Wr) (h : List V8), (onF h ws).length = h.length
  | [], _ => rfl
  | x :: ws, h => by show (onF (on1 h x) ws).length = _; rw [onF_length ws, on1_length]
theorem onF_succ {h : List V8} {ws : List Wr} {k : Nat} {x : Wr} (hx : ws[k]? = some x) : onF h (ws.take (k + 1)) = on1 (onF h (ws.take k)) x := by
  obtain ⟨hlt, he⟩ := List.getElem?_eq_some_iff.1 hx
  unfold onF
  rw [List.take_succ_eq_append_getElem hlt, List.foldl_append, he]; rfl
theorem onF_append (h : List V8) (x y : List Wr) : onF h (x ++ y) = onF (onF h x) y := List.foldl_append
/-- what writes write last at a block -/
def lastW : List Wr → Nat → Option V8
  | [], _ => none
  | x :: ws, i => (lastW ws i).or (if blkIs x.block ∧ x.block.toNat = i then some x.val else none)
theorem on1_get {h : List V8} {x : Wr} {i : Nat} (hl : h.length = 32) (hi : i < 32) : (on1 h x)[i]? = ((if blkIs x.block ∧ x.block.toNat = i then some x.val else none).or h[i]?) := by
  unfold on1
  by_cases hb : blkIs x.block
  · rw [if_pos hb, List.getElem?_set]
    by_cases he : x.block.toNat = i
    · subst he; rw [if_pos rfl, if_pos (And.intro hb rfl), if_pos (by omega)]; rfl
    · rw [if_neg he, if_neg (fun h => he h.2)]; rfl
  · rw [if_neg hb, if_neg (fun h => hb h.1)]; rfl
theorem onF_get {i : Nat} (hi : i < 32) : ∀ (ws : List Wr) {h : List V8}, h.length = 32 → (onF h ws)[i]? = (lastW ws i).or h[i]?
  | [], h, _ => rfl
  | x :: ws, h, hl => by
    show (onF (on1 h x) ws)[i]? = _
    rw [onF_get hi ws (by rw [on1_length]; exact hl), on1_get hl hi, lastW, Option.or_assoc]
/-- writes done twice are done once -/
theorem onF_twice {h : List V8} (ws : List Wr) (hl : h.length = 32) : onF (onF h ws) ws = onF h ws := by
  apply List.ext_getElem?
  intro i
  rcases Nat.lt_or_ge i 32 with hi | hi
  · rw [onF_get hi ws (by rw [onF_length]; exact hl), onF_get hi ws hl]
    cases lastW ws i <;> rfl
  · rw [List.getElem?_eq_none (by rw [onF_length, onF_length]; omega), List.getElem?_eq_none (by rw [onF_length]; omega)]

/-- a transaction in doubt but for its writes -/
structure Pr where
  name : Nm
  give : Int
  take : Int
abbrev Pr.cellsL (p : Pr) (wv : Value) : List Value := [.int .i64 p.name.stamp, .int .i64 p.name.inc, .int .i64 p.name.try_, wv, .int .i64 p.give, .int .i64 p.take]
abbrev Pl := List (Pr × List Wr)
/-- a store but for what is in doubt: ahead of what is owned, what is owned, behind it -/
structure St where
  p2 : List Value
  owned : Int
  p12 : List Value
  home : List V8
  app : Int
def St.pre (s : St) : List Value := s.p2 ++ (.int .i64 s.owned :: s.p12)
def St.cellsL (s : St) (dv : Value) : List Value := s.pre ++ (hcells s.home ++ [dv, .int .i64 s.app])
structure St.ok (s : St) : Prop where
  l2 : s.p2.length = 2
  l12 : s.p12.length = 12
  lh : s.home.length = 32
  o2 : allOne s.p2 = true
  o12 : allOne s.p12 = true
theorem St.ok.hl {s : St} (h : s.ok) : (hcells s.home).length = 256 := by rw [hcells_length, h.lh]
theorem St.pre_len {s : St} (h : s.ok) : s.pre.length = 15 := by unfold St.pre; rw [List.length_append, List.length_cons, h.l2, h.l12]
theorem St.len {s : St} (h : s.ok) (dv : Value) : (s.cellsL dv).length = 273 := by unfold St.cellsL; rw [List.length_append, List.length_append, St.pre_len h, h.hl]; rfl
theorem St.one {s : St} (h : s.ok) (dv : Value) (hd : oneB dv = true) : allOne (s.cellsL dv) = true := by
  unfold St.cellsL St.pre
  simp only [allOne_append, allOne, h.o2, h.o12, allOne_hcells, hd, Bool.and_true, Bool.true_and]
  rfl
theorem St.doubt {s : St} (h : s.ok) (dv : Value) : (s.cellsL dv).toArray[271]? = some dv := by
  rw [List.getElem?_toArray]; unfold St.cellsL
  rw [List.getElem?_append_right (by rw [St.pre_len h]; omega), St.pre_len h, List.getElem?_append_right (by rw [h.hl]; omega), h.hl]; rfl
def zV8 : V8 := ⟨0, 0, 0, 0, 0, 0, 0, 0⟩
def zSt : St := ⟨[.int .i64 0, .int .i64 0], 0, List.replicate 12 (.int .i64 0), List.replicate 32 zV8, 0⟩
theorem zSt_ok : zSt.ok := ⟨rfl, rfl, rfl, rfl, rfl⟩

/-- where a name is in doubt, first -/
def findP (nm : Nm) : Pl → Option Nat
  | [] => none
  | q :: ps => if q.1.name.eqb nm then some 0 else (findP nm ps).map (· + 1)
theorem findP_none {nm : Nm} : ∀ {ps : Pl}, (∀ (i : Nat) (p : Pr × List Wr), ps[i]? = some p → p.1.name.eqb nm = false) → findP nm ps = none
  | [], _ => rfl
  | q :: ps, h => by
    rw [findP, h 0 q rfl, findP_none (fun i p hp => h (i + 1) p (by simpa using hp))]; rfl
theorem findP_some {nm : Nm} : ∀ {ps : Pl} {k : Nat} {q : Pr × List Wr}, ps[k]? = some q → q.1.name.eqb nm = true → (∀ (i : Nat) (p : Pr × List Wr), i < k → ps[i]? = some p → p.1.name.eqb nm = false) → findP nm ps = some k
  | [], k, q, h, _, _ => by simp at h
  | p :: ps, 0, q, h, hq, _ => by
    obtain rfl : p = q := by simpa using h
    rw [findP, if_pos hq]
  | p :: ps, k + 1, q, h, hq, hn => by
    rw [findP, hn 0 p (by omega) rfl, findP_some (ps := ps) (k := k) (q := q) (by simpa using h) hq (fun i r hi hr => hn (i + 1) r (by omega) (by simpa using hr))]; rfl
theorem findP_get {nm : Nm} : ∀ {ps : Pl} {k : Nat}, findP nm ps = some k → ∃ q, ps[k]? = some q
  | [], k, h => by simp [findP] at h
  | p :: ps, k, h => by
    rw [findP] at h; split at h
    · obtain rfl : 0 = k := by simpa using h
      exact ⟨p, rfl⟩
    · cases hf : findP nm ps with
      | none => rw [hf] at h; simp at h
      | some j =>
        rw [hf] at h
        obtain rfl : j + 1 = k := by simpa using h
        obtain ⟨q, hq⟩ := findP_get hf
        exact ⟨q, by simpa using hq⟩

def orV (x y : Int) : Int := IntKind.i64.wrap (BitVec.ofInt IntKind.i64.bits x ||| BitVec.ofInt IntKind.i64.bits y).toNat
def prOf (r : Rc) : Pr := ⟨r.name, r.give, r.take⟩
/-- what is in doubt behind a record; the writes that are done meanwhile -/
def stepP (ps : Pl) (r : Rc) (x : List Wr) : Pl × List Wr :=
  if r.kind = 1 then (ps, x)
  else if r.kind = 2 then (match findP r.name ps with | some k => (ps.set k (prOf r, x), []) | none => (ps ++ [(prOf r, x)], []))
  else (match findP r.name ps with | some k => (ps.eraseIdx k, if r.yes then (match ps[k]? with | some q => q.2 | none => []) else []) | none => (ps, []))
def ownP (o : Int) (ps : Pl) (r : Rc) : Int :=
  if r.kind = 3 ∧ r.yes = true then (match findP r.name ps with | some k => (match ps[k]? with | some q => orV (andNotV o q.1.give) q.1.take | none => o) | none => o) else o
def takes (r : Rc) (x : List Wr) : Bool := r.may x && decide (r.kind ≤ 3)
/-- Apply, plainly -/
def appSt (s : St) (ps : Pl) (r : Rc) (x : List Wr) : St := { s with owned := ownP s.owned ps r, home := onF s.home (stepP ps r x).2, app := IntKind.i64.wrap (s.app + 1) }
theorem appSt_ok {s : St} (h : s.ok) (ps : Pl) (r : Rc) (x : List Wr) : (appSt s ps r x).ok := ⟨h.l2, h.l12, by show (onF _ _).length = 32; rw [onF_length]; exact h.lh, h.o2, h.o12⟩

/-! ### many records -/
abbrev Rl := List (Rc × List Wr)
/-- what is in doubt behind records, the writes that are done, in order -/
def runP : Pl → Rl → Pl × List Wr
  | ps, [] => (ps, [])
  | ps, q :: l => if takes q.1 q.2 then ((runP (stepP ps q.1 q.2).1 l).1, (stepP ps q.1 q.2).2 ++ (runP (stepP ps q.1 q.2).1 l).2) else runP ps l
theorem runP_snoc : ∀ (l : Rl) (ps : Pl) (q : Rc × List Wr), runP ps (l ++ [q]) = if takes q.1 q.2 then ((stepP (runP ps l).1 q.1 q.2).1, (runP ps l).2 ++ (stepP (runP ps l).1 q.1 q.2).2) else runP ps l
  | [], ps, q => by
    by_cases h : takes q.1 q.2 = true
    · simp [runP, h]
    · simp [runP, h]
  | p :: l, ps, q => by
    rw [List.cons_append, runP]
    by_cases hp : takes p.1 p.2 = true
    · rw [if_pos hp, runP_snoc l _ q]
      have e : runP ps (p :: l) = ((runP (stepP ps p.1 p.2).1 l).1, (stepP ps p.1 p.2).2 ++ (runP (stepP ps p.1 p.2).1 l).2) := by rw [runP, if_pos hp]
      rw [e]
      split <;> simp [List.append_assoc]
    · rw [if_neg hp, runP_snoc l _ q]
      have e : runP ps (p :: l) = runP ps l := by rw [runP, if_neg hp]
      rw [e]

end Go.Proofs.Ytodfphphidhjbaa
