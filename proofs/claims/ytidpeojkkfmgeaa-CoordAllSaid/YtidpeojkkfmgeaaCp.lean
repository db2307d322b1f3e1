/-
  Package coord, plainly: machines, what they say.
-/
import Derived.Test.YtidpeojkkfmgeaaWc
import Derived.Test.YtidpeojkkfmgeaaLess
import Derived.Test.YtidpeojkkfmgeaaMs
namespace Go.Proofs.Ytidpeojkkfmgeaa
open Go.RowKit Go.Sort

/-- what is driven but for its writes -/
structure Dr where
  name : Nm
  phase : Int
  shards : Int
  yes : Int
  acks : Int
  cs : Int
  ct : Int
abbrev Dr.cells (d : Dr) (wv : Value) : Array Value := #[.int .i64 d.name.stamp, .int .i64 d.name.inc, .int .i64 d.name.try_, .int .i8 d.phase, .int .i64 d.shards, .int .i64 d.yes, .int .i64 d.acks, .int .i64 d.cs, .int .i64 d.ct, wv]
abbrev Dl := List (Dr × List Wr)
def zDr : Dr := ⟨⟨0, 0, 0⟩, 0, 0, 0, 0, 0, 0⟩
/-- no bit of y that is not one of s -/
def subB (y s : Int) : Bool := andNotV y s == 0
def bitK (n : Int) (k : Nat) : Bool := andV (n / 2 ^ k) 1 == 1
def changesB (s t shards : Int) : Bool := if s = -1 then t == 0 else decide (0 ≤ s ∧ s < 8 ∧ 1 ≤ t ∧ t ≤ 4) && bitK shards t.toNat
def writesB (x : List Wr) (s : Int) : Bool := writtenB x && (x.isEmpty || decide (0 ≤ s))
/-- may one that is driven be? -/
def drOk (q : Dr × List Wr) : Bool :=
  q.1.name.named && decide (1 ≤ q.1.phase ∧ q.1.phase ≤ 3) && shardsB q.1.shards && subB q.1.yes q.1.shards && subB q.1.acks q.1.shards && (q.1.phase == 1 || q.1.yes == q.1.shards) && (q.1.phase == 3 || q.1.acks == 0) && changesB q.1.cs q.1.ct q.1.shards && writesB q.2 q.1.cs
def risesB : Dl → Bool
  | [] => true
  | [_] => true
  | p :: q :: l => p.1.name.less q.1.name && risesB (q :: l)
/-- may a machine be? -/
def machB (ds : Dl) : Bool := decide (ds.length ≤ 8) && ds.all drOk && risesB ds
theorem machB_iff {ds : Dl} : machB ds = true ↔ ds.length ≤ 8 ∧ (∀ q ∈ ds, drOk q = true) ∧ risesB ds = true := by
  unfold machB; simp [and_assoc]
theorem rises_iff : ∀ {ds : Dl}, risesB ds = true ↔ ∀ (i : Nat) (p q : Dr × List Wr), ds[i]? = some p → ds[i + 1]? = some q → p.1.name.less q.1.name = true
  | [] => by simp [risesB]
  | [p] => by simp [risesB]
  | p :: q :: l => by
    rw [risesB, Bool.and_eq_true, rises_iff (ds := q :: l)]
    constructor
    · rintro ⟨h1, h2⟩ i a b ha hb
      cases i with
      | zero => simp at ha hb; subst ha; subst hb; exact h1
      | succ i => exact h2 i a b (by simpa using ha) (by simpa using hb)
    · intro h
      exact ⟨h 0 p q rfl rfl, fun i a b ha hb => h (i + 1) a b (by simpa using ha) (by simpa using hb)⟩
theorem Nm.less_iff {a b : Nm} : a.less b = true ↔ a.stamp < b.stamp ∨ (a.stamp = b.stamp ∧ (a.inc < b.inc ∨ (a.inc = b.inc ∧ a.try_ < b.try_))) := by unfold Nm.less; simp
theorem Nm.less_trans {a b c : Nm} (h1 : a.less b = true) (h2 : b.less c = true) : a.less c = true := by
  rw [Nm.less_iff] at *; omega
theorem Nm.less_irr (a : Nm) : a.less a = false := by
  cases h : a.less a
  · rfl
  · rw [Nm.less_iff] at h; omega
theorem Nm.less_tri {a b : Nm} (h1 : a.less b = false) (h2 : b.less a = false) : a = b := by
  have h1' : ¬ a.less b = true := by rw [h1]; simp
  have h2' : ¬ b.less a = true := by rw [h2]; simp
  rw [Nm.less_iff] at h1' h2'
  obtain ⟨a1, a2, a3⟩ := a; obtain ⟨b1, b2, b3⟩ := b
  simp only at h1' h2'
  obtain rfl : a1 = b1 := by omega
  obtain rfl : a2 = b2 := by omega
  obtain rfl : a3 = b3 := by omega
  rfl
theorem rises_lt {ds : Dl} (h : risesB ds = true) : ∀ (k i : Nat) (p q : Dr × List Wr), ds[i]? = some p → ds[i + (k + 1)]? = some q → p.1.name.less q.1.name = true
  | 0, i, p, q, hp, hq => rises_iff.1 h i p q hp hq
  | k + 1, i, p, q, hp, hq => by
    have hlt := (List.getElem?_eq_some_iff.1 hq).1
    obtain ⟨r, hr⟩ : ∃ r, ds[i + (k + 1)]? = some r := ⟨_, List.getElem?_eq_getElem (by omega)⟩
    exact Nm.less_trans (rises_lt h k i p r hp hr) (rises_iff.1 h (i + (k + 1)) r q hr hq)
theorem rises_less {ds : Dl} (h : risesB ds = true) {i j : Nat} {p q : Dr × List Wr} (hij : i < j) (hp : ds[i]? = some p) (hq : ds[j]? = some q) : p.1.name.less q.1.name = true :=
  rises_lt h (j - i - 1) i p q hp (by rw [show i + (j - i - 1 + 1) = j by omega]; exact hq)

/-- where a name is driven -/
def findD (nm : Nm) (ds : Dl) : Option Nat := ds.findIdx? fun q => q.1.name.eqb nm

end Go.Proofs.Ytidpeojkkfmgeaa
