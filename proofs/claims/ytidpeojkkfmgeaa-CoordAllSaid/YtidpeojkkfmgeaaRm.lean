/-
  Records, plainly: which may be.
-/
import Derived.Test.YtidpeojkkfmgeaaWs
namespace Go.Proofs.Ytidpeojkkfmgeaa
open Go.RowKit Go.Sort

def withinB (n m : Int) : Bool := decide (1 ≤ n ∧ n ≤ m)
def Nm.named (n : Nm) : Bool := withinB n.stamp 1048576 && withinB n.inc 1048576 && withinB n.try_ 1048576
def bitsB (n : Int) : Bool := decide (0 ≤ n ∧ n < 256)
def changedB (s t : Int) : Bool := decide ((s = -1 ∧ t = 0) ∨ (0 ≤ s ∧ s < 8 ∧ 1 ≤ t ∧ t ≤ 4))
def shardsB (n : Int) : Bool := decide (0 < n ∧ n < 32 ∧ n % 2 = 0)
def andV (x y : Int) : Int := IntKind.i64.wrap (BitVec.ofInt IntKind.i64.bits x &&& BitVec.ofInt IntKind.i64.bits y).toNat
def andNotV (x y : Int) : Int := IntKind.i64.wrap (BitVec.ofInt IntKind.i64.bits x &&& ~~~BitVec.ofInt IntKind.i64.bits y).toNat
/-- writes rise, from last on, and their blocks are blocks -/
def risingB (last : Int) : List Wr → Bool
  | [] => true
  | w :: r => decide (last < w.block ∧ w.block < 32) && risingB w.block r
def writtenB (ws : List Wr) : Bool := decide (ws.length ≤ 8) && risingB (-1) ws

def Rc.same (a b : Rc) (x y : List Wr) : Bool :=
  a.kind == b.kind && a.name.eqb b.name && a.yes == b.yes && eqWs x y && a.give == b.give && a.take == b.take && a.shards == b.shards && (a.cs == b.cs && a.ct == b.ct) && a.n == b.n
theorem Rc.same_iff {a b : Rc} {x y : List Wr} : a.same b x y = true ↔ a = b ∧ x = y := by
  cases a; cases b
  simp [Rc.same, Nm.eqb_iff, eqWs_iff]
  constructor
  · rintro ⟨⟨⟨⟨⟨⟨⟨⟨h1, h2⟩, h3⟩, h4⟩, h5⟩, h6⟩, h7⟩, h8, h9⟩, h10⟩
    exact ⟨⟨h1, h2, h3, h5, h6, h7, h8, h9, h10⟩, h4⟩
  · rintro ⟨⟨h1, h2, h3, h5, h6, h7, h8, h9, h10⟩, h4⟩
    exact ⟨⟨⟨⟨⟨⟨⟨⟨h1, h2⟩, h3⟩, h4⟩, h5⟩, h6⟩, h7⟩, h8, h9⟩, h10⟩

def Nm.zero : Nm := ⟨0, 0, 0⟩
def Rc.zero : Rc := ⟨0, ⟨0, 0, 0⟩, false, 0, 0, 0, 0, 0, 0⟩
/-- are the fields of a record's kind such as they may be? -/
def Rc.ok (r : Rc) (x : List Wr) : Bool :=
  if r.kind = 1 then r.name.named && writtenB x
  else if r.kind = 2 then r.name.named && writtenB x && bitsB r.give && bitsB r.take && andV r.give r.take == 0
  else if r.kind = 3 then r.name.named
  else if r.kind = 4 then r.name.named && shardsB r.shards && changedB r.cs r.ct
  else if r.kind = 5 then r.name.named
  else if r.kind = 6 then withinB r.n 1048577
  else withinB r.n 1048576
/-- what a record's kind does not name -/
def Rc.rest (r : Rc) : Rc :=
  if r.kind = 1 then { r with name := ⟨0, 0, 0⟩ }
  else if r.kind = 2 then { r with name := ⟨0, 0, 0⟩, give := 0, take := 0 }
  else if r.kind = 3 then { r with name := ⟨0, 0, 0⟩, yes := false }
  else if r.kind = 4 then { r with name := ⟨0, 0, 0⟩, shards := 0, cs := 0, ct := 0 }
  else if r.kind = 5 then { r with name := ⟨0, 0, 0⟩ }
  else { r with n := 0 }
/-- may a record be? -/
def Rc.may (r : Rc) (x : List Wr) : Bool :=
  if 1 ≤ r.kind ∧ r.kind ≤ 7 then r.ok x && r.rest.same ⟨r.kind, ⟨0, 0, 0⟩, false, 0, 0, 0, 0, 0, 0⟩ (if r.kind = 1 ∨ r.kind = 2 then [] else x) [] else false

theorem kinds {r : Rc} {x : List Wr} (h : r.may x = true) : r.kind = 1 ∨ r.kind = 2 ∨ r.kind = 3 ∨ r.kind = 4 ∨ r.kind = 5 ∨ r.kind = 6 ∨ r.kind = 7 := by
  unfold Rc.may at h
  split at h
  · omega
  · cases h

theorem named_iff {n : Nm} : n.named = true ↔ (1 ≤ n.stamp ∧ n.stamp ≤ 1048576) ∧ (1 ≤ n.inc ∧ n.inc ≤ 1048576) ∧ (1 ≤ n.try_ ∧ n.try_ ≤ 1048576) := by
  simp [Nm.named, withinB, and_assoc]
theorem rising_mem : ∀ {ws : List Wr} {l : Int}, risingB l ws = true → ∀ x ∈ ws, l < x.block ∧ x.block < 32
  | [], _, _, x, hx => by cases hx
  | y :: ws, l, h, x, hx => by
    simp only [risingB, Bool.and_eq_true, decide_eq_true_eq] at h
    rcases List.mem_cons.1 hx with rfl | hx
    · exact h.1
    · have := rising_mem h.2 x hx; omega
/-- what a record that may be is, kind by kind -/
theorem may_cases {r : Rc} {x : List Wr} (h : r.may x = true) :
    (r.kind = 1 ∧ r = { Rc.zero with kind := 1, name := r.name } ∧ r.name.named = true ∧ writtenB x = true) ∨
    (r.kind = 2 ∧ r = { Rc.zero with kind := 2, name := r.name, give := r.give, take := r.take } ∧ r.name.named = true ∧ writtenB x = true ∧ bitsB r.give = true ∧ bitsB r.take = true ∧ andV r.give r.take = 0) ∨
    (r.kind = 3 ∧ r = { Rc.zero with kind := 3, name := r.name, yes := r.yes } ∧ x = [] ∧ r.name.named = true) ∨
    (r.kind = 4 ∧ r = { Rc.zero with kind := 4, name := r.name, shards := r.shards, cs := r.cs, ct := r.ct } ∧ x = [] ∧ r.name.named = true ∧ shardsB r.shards = true ∧ changedB r.cs r.ct = true) ∨
    (r.kind = 5 ∧ r = { Rc.zero with kind := 5, name := r.name } ∧ x = [] ∧ r.name.named = true) ∨
    (r.kind = 6 ∧ r = { Rc.zero with kind := 6, n := r.n } ∧ x = [] ∧ withinB r.n 1048577 = true) ∨
    (r.kind = 7 ∧ r = { Rc.zero with kind := 7, n := r.n } ∧ x = [] ∧ withinB r.n 1048576 = true) := by
  have hk := kinds h
  unfold Rc.may at h
  rw [if_pos (by omega)] at h
  simp only [Bool.and_eq_true, Rc.same_iff] at h
  obtain ⟨ho, hr, hx⟩ := h
  cases r
  rename_i kind name yes give take shards cs ct n
  simp only at hk ⊢
  rcases hk with rfl | rfl | rfl | rfl | rfl | rfl | rfl <;> simp_all [Rc.ok, Rc.rest, Rc.zero]


end Go.Proofs.Ytidpeojkkfmgeaa
