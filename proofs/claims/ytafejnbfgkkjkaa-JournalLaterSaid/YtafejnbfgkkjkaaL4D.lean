/-
  FrameBytes.
-/
import Derived.Test.YtafejnbfgkkjkaaRef4C
import Derived.Test.YtafejnbfgkkjkaaL4A
namespace Go.Proofs.Ytafejnbfgkkjkaa
open Go.RowKit Go.Sort

noncomputable def rdF (bs : List UInt8) : Fr := match readF bs with | some x => x.1 | none => zeroFr
noncomputable def rdL (bs : List UInt8) : List UInt8 := match readF bs with | some x => x.2 | none => []
noncomputable def rdE (bs : List UInt8) : Int := match readF bs with | some _ => 0 | none => 40
theorem ldIn_le (x : List UInt8) : (ldIn x).length ≤ 255 := by
  have := getN_bd1 x 10; have := getN_bd x 10 1 (by omega)
  simp only [ldIn, List.length_take]; omega
theorem rdL_le (bs : List UInt8) : (rdL bs).length ≤ 255 := by
  unfold rdL readF
  split
  · rename_i x h
    split at h
    · cases h; exact ldIn_le _
    · cases h
  · exact Nat.zero_le _
/-- Read's answer, in one form -/
theorem read_uni {bs : List UInt8} {w0 w w' : World} {H : List Ent} {e : Ending} (M : Mem w0 w H) (h : ReadPost bs w e w') :
    ∃ (ad : Option Addr) (cap lo hi : Nat), e = .returned (.tuple #[.agg ((rdF bs).cells (.slice ad (rdL bs).length cap)).toArray, .int .i64 (rdE bs)]) ∧ Below w.heap.size w w' ∧ Mem w0 w' (rowE lo hi 5 1 (.slice ad (rdL bs).length cap) (rdL bs).length (bcells (rdL bs)) :: H) := by
  obtain ⟨f, lv, E, rfl, hb, h1, h2⟩ := h
  have hle := rdL_le bs
  unfold rdL rdF rdE at *
  cases hR : readF bs with
  | none =>
    rw [hR] at hle
    obtain ⟨rfl, rfl, rfl⟩ := h2 hR
    exact ⟨none, 0, _, _, rfl, hb, (M.grow hb).rowNil 5 1⟩
  | some x =>
    rw [hR] at hle
    replace hle : x.2.length ≤ 255 := hle
    obtain ⟨rfl, rfl, hF⟩ := h1 x.1 x.2 hR
    obtain ⟨lo, hi, -, M⟩ := M.pushFresh hF
    obtain ⟨ad, cap, rfl, -, -⟩ := (hF.rd (by unfold maxLen; omega)).form
    exact ⟨ad, cap, lo, hi, rfl, hb, M⟩
/-- Bytes' answer, in one form -/
theorem bytes_uni {f : Fr} {ld : List UInt8} {w0 w w' : World} {H : List Ent} {e : Ending} (M : Mem w0 w H) (h : BytesPost f ld w e w') :
    ∃ (v : Value) (lo hi : Nat), e = .returned (.tuple #[v, .int .i64 (if f.may ld.length then 0 else 2)]) ∧ Below w.heap.size w w' ∧ Mem w0 w' (rowE lo hi 5 1 v (ifL (f.may ld.length = true) (bytesF f ld)).length (bcells (ifL (f.may ld.length = true) (bytesF f ld))) :: H) := by
  obtain ⟨v', rfl, hb, h1, h2⟩ := h
  obtain ⟨lo, hi, -, M⟩ := M.pushFresh (fresh_if hb h1 (fun h => h2 (by simpa using h)))
  exact ⟨v', lo, hi, rfl, hb, M⟩
theorem ifL_bytesF (f : Fr) (ld : List UInt8) : (ifL (f.may ld.length = true) (bytesF f ld)).length ≤ 64 := by
  by_cases h : f.may ld.length = true
  · rw [ifL_pos h, bytesF_length h]; exact Nat.le_refl _
  · rw [ifL_neg h]; exact Nat.zero_le _

end Go.Proofs.Ytafejnbfgkkjkaa
