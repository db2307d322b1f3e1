/-
  Plain: a frame's bytes read as that frame; a record's frames are joined to it.
-/
import Derived.Test.YtafejnbfgkkjkaaGF
import Derived.Test.YtafejnbfgkkjkaaL4C
import Derived.Test.YtafejnbfgkkjkaaRef4C
namespace Go.Proofs.Ytafejnbfgkkjkaa
open Go.RowKit Go.Sort

theorem byteOf_nat {n : Nat} : (byteOf (n : Int)).toNat = n % 256 := by
  unfold byteOf; rw [UInt8.toNat_ofNat']; omega
theorem leN_leB (n : Nat) : ∀ k, leN (leB (n : Int) k) = n % 256 ^ k
  | 0 => by simp [leB, leN, Nat.mod_one]
  | k + 1 => by
    rw [leB_succ, leN_append, leN_leB n k, leB_length, show ((n : Int) / 256 ^ k) = ((n / 256 ^ k : Nat) : Int) by simp]
    show n % 256 ^ k + 256 ^ k * ((byteOf _).toNat + 256 * 0) = _
    rw [byteOf_nat, Nat.mul_zero, Nat.add_zero, Nat.pow_succ, Nat.mod_mul]
theorem leN_leB' {n : Int} {k : Nat} (h0 : 0 ≤ n) (h1 : n < 256 ^ k) : (leN (leB n k) : Int) = n := by
  obtain ⟨m, rfl⟩ := Int.eq_ofNat_of_zero_le h0
  rw [leN_leB, Nat.mod_eq_of_lt (Int.ofNat_lt.1 (by rw [Int.natCast_pow]; exact h1))]
theorem mid {α : Type} (A B C : List α) {i n : Nat} (hi : A.length = i) (hn : B.length = n) : ((A ++ B ++ C).drop i).take n = B := by
  subst hi hn; simp
theorem getN_mid {A B C X : List UInt8} {i n : Nat} (hX : X = A ++ B ++ C) (hi : A.length = i) (hn : B.length = n) (h : 1 ≤ n ∧ n ≤ 6) : getN X (i : Int) (n : Int) = (leN B : Int) := by
  subst hX
  rw [getN_take h (by simp; omega), mid A B C hi hn]

theorem read_bytes {f : Fr} {ld : List UInt8} (h : f.may ld.length = true) : readF (bytesF f ld) = some (f, ld) := by
  have hm := h
  simp only [Fr.may, decide_eq_true_eq] at hm
  have hmk := f.mark.isLt
  have h60 : (five f ld.length 5 ++ padL ld).length = 60 := by rw [List.length_append, padL_length (by omega), five5_length]
  have hX : (bytesF f ld).take 60 = five f ld.length 5 ++ padL ld := by
    unfold bytesF sealB; rw [← h60, List.take_left]
  have h64 := bytesF_length h
  have hok : openOk (bytesF f ld) := ⟨_, rfl⟩
  have E := five5 f ld.length
  generalize hx : five f ld.length 5 ++ padL ld = X at *
  rw [E] at hx
  have g0 : getN X 0 6 = f.seq := by
    rw [show getN X 0 6 = _ from getN_mid (A := []) (B := leB f.seq 6) (C := leB f.inc 3 ++ [byteOf (16 * f.part + f.of), byteOf (ld.length : Int)] ++ leB (f.mark.toNat : Int) 4 ++ padL ld) (i := 0) (n := 6) (by rw [← hx]; simp) rfl (leB_length _ _) (by omega)]
    exact leN_leB' (by omega) (by omega)
  have g6 : getN X 6 3 = f.inc := by
    rw [show getN X 6 3 = _ from getN_mid (A := leB f.seq 6) (B := leB f.inc 3) (C := [byteOf (16 * f.part + f.of), byteOf (ld.length : Int)] ++ leB (f.mark.toNat : Int) 4 ++ padL ld) (i := 6) (n := 3) (by rw [← hx]; simp) (leB_length _ _) (leB_length _ _) (by omega)]
    exact leN_leB' (by omega) (by omega)
  have b1 : ∀ z : Int, 0 ≤ z → z < 256 → ((leN [byteOf z] : Nat) : Int) = z := fun z h0 h1 => by
    obtain ⟨m, rfl⟩ := Int.eq_ofNat_of_zero_le h0
    show (((byteOf (m : Int)).toNat + 256 * 0 : Nat) : Int) = _
    rw [byteOf_nat]; omega
  have g9 : getN X 9 1 = 16 * f.part + f.of := by
    rw [show getN X 9 1 = _ from getN_mid (A := leB f.seq 6 ++ leB f.inc 3) (B := [byteOf (16 * f.part + f.of)]) (C := [byteOf (ld.length : Int)] ++ leB (f.mark.toNat : Int) 4 ++ padL ld) (i := 9) (n := 1) (by rw [← hx]; simp) (by simp [leB_length]) rfl (by omega)]
    exact b1 _ (by omega) (by omega)
  have g10 : getN X 10 1 = (ld.length : Int) := by
    rw [show getN X 10 1 = _ from getN_mid (A := leB f.seq 6 ++ leB f.inc 3 ++ [byteOf (16 * f.part + f.of)]) (B := [byteOf (ld.length : Int)]) (C := leB (f.mark.toNat : Int) 4 ++ padL ld) (i := 10) (n := 1) (by rw [← hx]; simp) (by simp [leB_length]) rfl (by omega)]
    exact b1 _ (by omega) (by omega)
  have g11 : getN X 11 4 = (f.mark.toNat : Int) := by
    rw [show getN X 11 4 = _ from getN_mid (A := leB f.seq 6 ++ leB f.inc 3 ++ [byteOf (16 * f.part + f.of), byteOf (ld.length : Int)]) (B := leB (f.mark.toNat : Int) 4) (C := padL ld) (i := 11) (n := 4) (by rw [← hx]) (by simp [leB_length]) (leB_length _ _) (by omega)]
    exact leN_leB' (by omega) (by omega)
  have hf : frIn X = f := by
    unfold frIn
    rw [g0, g6, g9, g11, show (16 * f.part + f.of) / 16 = f.part by omega, show (16 * f.part + f.of) % 16 = f.of by omega, BitVec.ofInt_natCast, ofNat_toNat32]
  have hl : ldIn X = ld := by
    unfold ldIn
    rw [g10, Int.toNat_natCast, ← hx]
    have := mid (leB f.seq 6 ++ leB f.inc 3 ++ [byteOf (16 * f.part + f.of), byteOf (ld.length : Int)] ++ leB (f.mark.toNat : Int) 4) ld (List.replicate (45 - ld.length) 0) (i := 15) (n := ld.length) (by simp [leB_length]) rfl
    rw [List.append_assoc] at this
    exact this
  unfold readF
  rw [hX, hf, hl, if_pos ⟨h64, hok, by omega, h, rfl⟩]

theorem readF_spec {bs : List UInt8} {f : Fr} {ld : List UInt8} (h : readF bs = some (f, ld)) : f.may ld.length = true ∧ bytesF f ld = bs := by
  unfold readF at h
  split at h
  · rename_i hc
    obtain ⟨rfl, rfl⟩ := Prod.mk.inj (Option.some.inj h)
    exact ⟨hc.2.2.2.1, hc.2.2.2.2⟩
  · cases h
theorem readF_none {bs : List UInt8} (h : ¬ openOk bs) : readF bs = none := by
  unfold readF; rw [if_neg (fun hc => h hc.2.1)]

theorem outF_cut (bs : List UInt8) (seq inc : Int) : ∀ k, outF ((List.range k).map (frOf bs seq inc)) = bs.take (k * 45)
  | 0 => by simp [outF]
  | k + 1 => by
    rw [List.range_succ, List.map_append, show ∀ x y, outF (x ++ y) = outF x ++ outF y from fun x y => by simp [outF], outF_cut bs seq inc k, Nat.add_mul, Nat.one_mul, List.take_add]
    simp [outF, frOf]
theorem join_cut {bs : List UInt8} {seq inc : Int} (h : cutOk bs seq inc) : joinOk (cutR bs seq inc) ∧ outF (cutR bs seq inc) = bs := by
  have hn2 : nOf bs.length ≤ 2 := by obtain ⟨_, _, _, h4, _⟩ := h; unfold nOf; omega
  have hn0 : 0 < nOf bs.length := by have := List.length_pos_iff.2 h.1; unfold nOf; omega
  have hR : cutR bs seq inc = cutF bs seq inc := by unfold cutR; rw [if_pos h]
  have ho : outF (cutR bs seq inc) = bs := by
    rw [hR]; unfold cutF; rw [outF_cut]; exact List.take_of_length_le (by unfold nOf; omega)
  refine ⟨?_, ho⟩
  have h0 := cutR_get h hn0
  have hlen := cutR_length h
  refine ⟨(frOf bs seq inc 0).1, (frOf bs seq inc 0).2, (cutR bs seq inc).tail, ?_, by omega, fun x hx => ?_, ?_, ?_⟩
  · have hh : (cutR bs seq inc).head? = some (frOf bs seq inc 0) := by rw [List.head?_eq_getElem?]; exact h0
    cases hc : cutR bs seq inc with
    | nil => rw [hc] at hh; cases hh
    | cons x t => rw [hc] at hh; cases hh; rfl
  · obtain ⟨i, hi⟩ := List.getElem?_of_mem hx
    have hlt : i < nOf bs.length := by rw [← hlen]; exact (List.getElem?_eq_some_iff.1 hi).1
    rw [cutR_get h hlt] at hi
    cases hi
    exact frOf_may h hlt
  · rw [ho]; show cutOk bs (seq + (0 : Nat)) inc; rw [Int.natCast_zero, Int.add_zero]; exact h
  · rw [ho, hR]; show cutF bs (seq + (0 : Nat)) inc = _; rw [Int.natCast_zero, Int.add_zero]

end Go.Proofs.Ytafejnbfgkkjkaa
