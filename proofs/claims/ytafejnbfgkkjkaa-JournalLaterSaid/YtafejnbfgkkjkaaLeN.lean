/-
  Numbers as bytes, the lowest first.
-/
import Derived.Test.YtafejnbfgkkjkaaGX
namespace Go.Proofs.Ytafejnbfgkkjkaa
open Go.RowKit Go.Sort

/-- a number's bytes, the lowest first -/
def leB (n : Int) (k : Nat) : List UInt8 := (List.range k).map fun i => byteOf (n / 256 ^ i)
theorem leB_length (n : Int) (k : Nat) : (leB n k).length = k := by simp [leB]

/-- the number that bytes are, the lowest first -/
def leN : List UInt8 → Nat
  | [] => 0
  | b :: bs => b.toNat + 256 * leN bs
theorem leN_append : ∀ (x y : List UInt8), leN (x ++ y) = leN x + 256 ^ x.length * leN y
  | [], y => by simp [leN]
  | b :: x, y => by simp only [List.cons_append, leN, leN_append x y, List.length_cons, Nat.pow_succ]; rw [Nat.mul_add, ← Nat.mul_assoc, Nat.mul_comm 256 (256 ^ x.length)]; omega
theorem leN_lt : ∀ x : List UInt8, leN x < 256 ^ x.length
  | [] => by simp [leN]
  | b :: x => by
    have h1 := leN_lt x
    have h2 : b.toNat < 256 := UInt8.toNat_lt b
    simp only [leN, List.length_cons, Nat.pow_succ]
    have : 256 * (leN x + 1) ≤ 256 * 256 ^ x.length := Nat.mul_le_mul_left _ h1
    omega
theorem or_add {x y k : Nat} (h : x < 2 ^ k) : x ||| (y * 2 ^ k) = x + y * 2 ^ k := by
  rw [Nat.or_comm, Nat.mul_comm y, ← Nat.two_pow_add_eq_or_of_lt h y]; omega

theorem sh_bd (x : UInt8) (j : Nat) (h : j ≤ 5) : (x.toNat : Int) * 2 ^ ((8 : Int) * (j : Int)).toNat = ((x.toNat * 2 ^ (8 * j) : Nat) : Int) ∧ x.toNat * 2 ^ (8 * j) < 2 ^ 48 := by
  have h1 : x.toNat < 256 := UInt8.toNat_lt x
  refine ⟨by rw [show ((8 : Int) * (j : Int)).toNat = 8 * j by omega]; simp, ?_⟩
  have h2 : 2 ^ (8 * j) ≤ 2 ^ 40 := Nat.pow_le_pow_right (by omega) (by omega)
  exact Nat.lt_of_le_of_lt (Nat.mul_le_mul_left x.toNat h2) (by omega)
theorem leN_snoc {l : List UInt8} {j : Nat} {x : UInt8} (h : l[j]? = some x) : leN (l.take j) ||| x.toNat * 2 ^ (8 * j) = leN (l.take (j + 1)) := by
  obtain ⟨hlt, he⟩ := List.getElem?_eq_some_iff.1 h
  have hl : (l.take j).length = j := by simp; omega
  have hb := leN_lt (l.take j)
  rw [hl] at hb
  have hp : 256 ^ j = 2 ^ (8 * j) := by rw [Nat.pow_mul]
  rw [or_add (by rw [← hp]; exact hb), List.take_succ_eq_append_getElem hlt, leN_append, hl, he, hp]
  simp only [leN]
  rw [Nat.mul_comm x.toNat]; simp

theorem madeL_bytes (k : Nat) : madeL [.int .u8 0] k = bcells (List.replicate k 0) := by
  apply List.ext_getElem?
  intro i
  simp only [madeL, madeCells, bcells, List.map_replicate]
  rcases Nat.lt_or_ge i k with h | h
  · simp [h, Nat.mod_one]
  · simp [h]

end Go.Proofs.Ytafejnbfgkkjkaa
