/-
  Plain: bits that lie within 32 and are turned change the sum; a frame's bytes read as that frame.
-/
import Derived.Test.YtcpobgjoicadjaaGS
namespace Go.Proofs.Ytcpobgjoicadjaa
open Go.RowKit Go.Sort

theorem step1_zero {z : BitVec 32} (h : step1 z = 0#32) : z = 0#32 := by
  rw [step1_bit] at h
  cases hb : z.getLsbD 0
  · rw [hb] at h
    simp only [Bool.false_eq_true, if_false, BitVec.xor_zero] at h
    apply BitVec.eq_of_getLsbD_eq
    intro i hi
    rcases Nat.eq_zero_or_pos i with rfl | hp
    · rw [hb]; simp
    · have e := congrArg (fun x => BitVec.getLsbD x (i - 1)) h
      simp only [BitVec.getLsbD_ushiftRight] at e
      rw [show 1 + (i - 1) = i by omega] at e
      rw [e]; simp
  · rw [hb] at h
    have e := congrArg (fun x => BitVec.getLsbD x 31) h
    simp only [if_true, BitVec.getLsbD_xor, BitVec.getLsbD_ushiftRight] at e
    rw [BitVec.getLsbD_of_ge z (1 + 31) (by omega), show (3988292384#32).getLsbD 31 = true by decide, show (0#32).getLsbD 31 = false by decide] at e
    cases e
theorem stepN_zero : ∀ (k : Nat) {z : BitVec 32}, stepN k z = 0#32 → z = 0#32
  | 0, _, h => h
  | k + 1, z, h => stepN_zero k (step1_zero (by rw [stepN] at h; exact h))
theorem refRun_xor : ∀ (bs : List UInt8) (r s : BitVec 32), refRun (r ^^^ s) bs = refRun r bs ^^^ stepN (8 * bs.length) s
  | [], r, s => by simp [refRun, stepN]
  | b :: t, r, s => by
    have e : remT (r ^^^ s) b = remT r b ^^^ stepN 8 s := by
      unfold remT; rw [← stepN_xor]; congr 1
      rw [BitVec.xor_assoc, BitVec.xor_comm s, ← BitVec.xor_assoc]
    show refRun (remT (r ^^^ s) b) t = refRun (remT r b) t ^^^ _
    rw [e, refRun_xor t, ← stepN_add, List.length_cons, Nat.mul_add]
def c32 (c : UInt8) : BitVec 32 := BitVec.ofNat 32 c.toNat
theorem c32_xor (b c : UInt8) : BitVec.ofInt 32 ((b ^^^ c).toNat : Int) = BitVec.ofInt 32 (b.toNat : Int) ^^^ c32 c := by
  unfold c32
  apply BitVec.eq_of_toNat_eq
  rw [BitVec.toNat_xor, BitVec.ofInt_natCast, BitVec.ofInt_natCast, BitVec.toNat_ofNat, BitVec.toNat_ofNat, BitVec.toNat_ofNat, UInt8.toNat_xor]
  have h1 : b.toNat < 256 := UInt8.toNat_lt b
  have h2 : c.toNat < 256 := UInt8.toNat_lt c
  have h3 : b.toNat ^^^ c.toNat < 2 ^ 8 := Nat.xor_lt_two_pow h1 h2
  rw [Nat.mod_eq_of_lt (by omega), Nat.mod_eq_of_lt (by omega), Nat.mod_eq_of_lt (by omega)]
theorem refRun_set : ∀ (bs : List UInt8) (i : Nat) (r : BitVec 32) (b c : UInt8), bs[i]? = some b → refRun r (bs.set i (b ^^^ c)) = refRun r bs ^^^ stepN (8 * (bs.length - i)) (c32 c)
  | [], _, _, _, _, h => by simp at h
  | x :: t, 0, r, b, c, h => by
    obtain rfl : x = b := by simpa using h
    have e : remT r (x ^^^ c) = remT r x ^^^ stepN 8 (c32 c) := by
      unfold remT; rw [c32_xor, ← BitVec.xor_assoc, stepN_xor]
    show refRun (remT r (x ^^^ c)) t = refRun (remT r x) t ^^^ _
    rw [e, refRun_xor, ← stepN_add, Nat.sub_zero, List.length_cons, Nat.mul_add]
  | x :: t, i + 1, r, b, c, h => by
    show refRun (remT r x) (t.set i (b ^^^ c)) = refRun (remT r x) t ^^^ _
    rw [refRun_set t i (remT r x) b c (by simpa using h), List.length_cons, show t.length + 1 - (i + 1) = t.length - i by omega]
/-- one bit alone, a while later -/
theorem stepN_bit {q : Nat} (h : q < 32) : stepN q (1#32 <<< q) = 1#32 := by
  rw [stepN_high q _ (fun i hi => by rw [BitVec.getLsbD_shiftLeft]; simp [hi])]
  apply BitVec.eq_of_getLsbD_eq
  intro i hi
  rw [BitVec.getLsbD_ushiftRight, BitVec.getLsbD_shiftLeft]
  by_cases h' : q + i < 32
  · simp [h', show ¬ q + i < q by omega]
  · simp [h', BitVec.getLsbD_one]; omega
theorem c32_bit {q : Nat} (h : q < 8) {c : UInt8} (hc : c.toNat = 2 ^ q) : c32 c = 1#32 <<< q := by
  unfold c32; rw [hc]
  apply BitVec.eq_of_toNat_eq
  rw [BitVec.toNat_ofNat, BitVec.toNat_shiftLeft, Nat.shiftLeft_eq]; simp
/-- a bit that is turned, k + j bits from the beginning -/
theorem turn_bit {bs : List UInt8} {k j : Nat} {b c : UInt8} {r : BitVec 32} (hj : j < 32) (hk : k + j < 8 * bs.length) (hb : bs[(k + j) / 8]? = some b) (hc : c.toNat = 2 ^ ((k + j) % 8)) :
    refRun r (bs.set ((k + j) / 8) (b ^^^ c)) = refRun r bs ^^^ stepN (8 * bs.length - k) (1#32 <<< j) := by
  rw [refRun_set _ _ _ _ _ hb, c32_bit (Nat.mod_lt _ (by omega)) hc]
  congr 1
  rw [show 8 * (bs.length - (k + j) / 8) = (8 * bs.length - k - j) + (k + j) % 8 by omega, stepN_add, stepN_bit (by omega)]
  rw [show 8 * bs.length - k = (8 * bs.length - k - j) + j by omega, stepN_add, stepN_bit hj]
  rw [show 8 * bs.length - k - j + j - j = 8 * bs.length - k - j by omega]

theorem byte_high (B : BitVec 32) (h : B.toNat < 256) : stepN 8 (B <<< 8) = B := by
  rw [stepN_high 8 _ (fun i hi => by rw [BitVec.getLsbD_shiftLeft]; simp [hi])]
  apply BitVec.eq_of_toNat_eq
  rw [BitVec.toNat_ushiftRight, BitVec.toNat_shiftLeft, Nat.shiftLeft_eq, Nat.shiftRight_eq_div_pow, Nat.mod_eq_of_lt (by omega)]
  omega
theorem run4 (r : BitVec 32) (s : BitVec 32) : refRun r (sum4 s) = stepN 32 (r ^^^ s) := by
  let B : Nat → BitVec 32 := fun j => (s >>> (8 * j)) &&& 255#32
  have hB : ∀ j, (B j).toNat < 256 := fun j => by
    show ((s >>> (8 * j)) &&& 255#32).toNat < 256
    rw [BitVec.toNat_and, show (255#32).toNat = 2 ^ 8 - 1 from rfl, Nat.and_two_pow_sub_one_eq_mod]
    exact Nat.mod_lt _ (by omega)
  have hby : ∀ x : BitVec 32, BitVec.ofInt 32 ((byteOf (x.toNat : Int)).toNat : Int) = x &&& 255#32 := fun x => by
    apply BitVec.eq_of_toNat_eq
    rw [BitVec.toNat_and, show (255#32).toNat = 2 ^ 8 - 1 from rfl, Nat.and_two_pow_sub_one_eq_mod, BitVec.ofInt_natCast, BitVec.toNat_ofNat]
    have : (byteOf (x.toNat : Int)).toNat = x.toNat % 256 := by
      unfold byteOf
      rw [UInt8.toNat_ofNat']
      omega
    rw [this, Nat.mod_eq_of_lt (by omega)]
  have hs : s = B 0 ^^^ ((B 1 <<< 8) ^^^ ((B 2 <<< 16) ^^^ (B 3 <<< 24))) := by
    apply BitVec.eq_of_getLsbD_eq
    intro i hi
    have k255 : ∀ j : Nat, (255#32).getLsbD j = decide (j < 8) := fun j => by
      rcases Nat.lt_or_ge j 32 with h | h
      · have key : ∀ j : Fin 32, (255#32).getLsbD j = decide (j.val < 8) := by decide
        exact key ⟨j, h⟩
      · rw [BitVec.getLsbD_of_ge _ _ h]; simp; omega
    simp only [B, BitVec.getLsbD_xor, BitVec.getLsbD_shiftLeft, BitVec.getLsbD_and, BitVec.getLsbD_ushiftRight, k255, hi, decide_true, Bool.true_and]
    rcases Nat.lt_or_ge i 8 with h | h
    · simp [h, show i < 16 by omega, show i < 24 by omega]
    rcases Nat.lt_or_ge i 16 with h2 | h2
    · simp [show ¬ i < 8 by omega, h2, show i < 24 by omega, show i - 8 < 8 by omega, show 8 + (i - 8) = i by omega]
    rcases Nat.lt_or_ge i 24 with h3 | h3
    · simp [show ¬ i < 8 by omega, show ¬ i < 16 by omega, h3, show i - 16 < 8 by omega, show ¬ i - 8 < 8 by omega, show 16 + (i - 16) = i by omega]
    · simp [show ¬ i < 8 by omega, show ¬ i < 16 by omega, show ¬ i < 24 by omega, show i - 24 < 8 by omega, show ¬ i - 8 < 8 by omega, show ¬ i - 16 < 8 by omega, show 24 + (i - 24) = i by omega]
  have e1 : B 1 = stepN 8 (B 1 <<< 8) := (byte_high _ (hB 1)).symm
  have sh : ∀ (x : BitVec 32) (m n : Nat), x <<< (m + n) = (x <<< m) <<< n := fun x m n => BitVec.shiftLeft_add x m n
  have hi0 : ∀ (x : BitVec 32) (m : Nat), 8 ≤ m → m ≤ 24 → x.toNat < 256 → stepN 8 (x <<< m) = x <<< (m - 8) := fun x m h8 h24 hx => by
    rw [stepN_high 8 _ (fun i hi => by rw [BitVec.getLsbD_shiftLeft]; simp [show i < m by omega])]
    apply BitVec.eq_of_getLsbD_eq
    intro i hi
    rw [BitVec.getLsbD_ushiftRight, BitVec.getLsbD_shiftLeft, BitVec.getLsbD_shiftLeft]
    rcases Nat.lt_or_ge (8 + i) 32 with h | h
    · simp only [h, hi, decide_true, Bool.true_and, show (8 + i < m) = (i < m - 8) from propext ⟨fun _ => by omega, fun _ => by omega⟩, show 8 + i - m = i - (m - 8) by omega]
    · have : x.getLsbD (i - (m - 8)) = false := by
        rw [BitVec.getLsbD, Nat.testBit_lt_two_pow]
        exact Nat.lt_of_lt_of_le hx (by have : (2:Nat) ^ 8 ≤ 2 ^ (i - (m - 8)) := Nat.pow_le_pow_right (by omega) (by omega); exact this)
      simp [show ¬ 8 + i < 32 by omega, this]
  show remT (remT (remT (remT r _) _) _) _ = _
  unfold remT
  rw [hby, hby, hby, hby]
  rw [show s &&& 255#32 = B 0 by simp [B], show (s >>> 8) &&& 255#32 = B 1 from rfl, show (s >>> 16) &&& 255#32 = B 2 from rfl, show (s >>> 24) &&& 255#32 = B 3 from rfl]
  conv => rhs; rw [hs]
  have e32 : ∀ z, stepN 32 z = stepN 8 (stepN 8 (stepN 8 (stepN 8 z))) := fun z => rfl
  rw [e32]
  congr 1
  have f3 : B 3 = stepN 8 (stepN 8 (stepN 8 (B 3 <<< 24))) := by rw [hi0 _ 24 (by omega) (by omega) (hB 3), hi0 _ 16 (by omega) (by omega) (hB 3), hi0 _ 8 (by omega) (by omega) (hB 3)]; simp
  have f2 : B 2 = stepN 8 (stepN 8 (B 2 <<< 16)) := by rw [hi0 _ 16 (by omega) (by omega) (hB 2), hi0 _ 8 (by omega) (by omega) (hB 2)]; simp
  rw [← BitVec.xor_assoc, ← BitVec.xor_assoc, ← BitVec.xor_assoc]
  rw [stepN_xor 8 _ (B 3 <<< 24), stepN_xor 8 _ (stepN 8 (B 3 <<< 24)), stepN_xor 8 _ (stepN 8 (stepN 8 (B 3 <<< 24))), ← f3]
  congr 2
  rw [stepN_xor 8 _ (B 2 <<< 16), stepN_xor 8 _ (stepN 8 (B 2 <<< 16)), ← f2]
  congr 2
  rw [stepN_xor 8 _ (B 1 <<< 8), ← e1]
theorem openOk_run {bs : List UInt8} (h : openOk bs) : refRun 4294967295#32 bs = stepN 32 4294967295#32 := by
  obtain ⟨x, rfl⟩ := h
  unfold sealB
  have e : refRun 4294967295#32 (x ++ sum4 (sumT x)) = refRun (refRun 4294967295#32 x) (sum4 (sumT x)) := by unfold refRun; rw [List.foldl_append]
  rw [e, run4]
  congr 1
  unfold sumT
  rw [runT_eq]
  generalize refRun 4294967295#32 x = z
  apply BitVec.eq_of_getLsbD_eq
  intro i hi
  have key : ∀ j : Fin 32, (4294967295#32).getLsbD j = true := by decide
  rw [key ⟨i, hi⟩, BitVec.getLsbD_xor, BitVec.getLsbD_not]
  simp [hi]
/-- THE BURST: what is turned within 32 bits is told -/
theorem burst {s bad : List UInt8} {q : Nat} {W : BitVec 32} (h : openOk s) (hr : refRun 4294967295#32 bad = refRun 4294967295#32 s ^^^ stepN q W) (hW : W.getLsbD 0 = true) : ¬ openOk bad := fun hb => by
  rw [openOk_run hb, openOk_run h] at hr
  have e : stepN q W = 0#32 := by
    have := congrArg (fun z => stepN 32 4294967295#32 ^^^ z) hr
    simp only [← BitVec.xor_assoc, BitVec.xor_self, BitVec.zero_xor] at this
    exact this.symm
  rw [stepN_zero q e] at hW
  simp at hW

end Go.Proofs.Ytcpobgjoicadjaa
