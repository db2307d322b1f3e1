/-
  The second walk: a row as a block; bits of bytes; what is left over a division.
-/
import Derived.Test.YtcpobgjoicadjaaVC
namespace Go.Proofs.Ytcpobgjoicadjaa
open Go.RowKit Go.Sort

variable {P : Program} {ops : Array Oper} {Q : Exit → Act → World → Prop} {rest : List Oper} {n d : Nat} {a : Act} {L : List (Nat × Value)} {w w0 : World} {v : Value} {o : Oper} {H : List Ent}

/-- a row of one's own that is not empty, as the block that it is -/
theorem Mem.ofRow {lo hi e sz m : Nat} {xs : List Value} (M : Mem w0 w (rowE lo hi e sz v m xs :: H)) (hm : 0 < m) :
    ∃ g cap more, v = .slice (some ⟨g, 0, none⟩) m cap ∧ m ≤ cap ∧ cap ≤ maxLen ∧ (xs ++ more).length = cap * sz ∧ Mem w0 w (.blk g (xs ++ more).toArray e :: H) := by
  obtain ⟨hr, hk⟩ := M.own 0 rfl
  rcases hr.2 with ⟨_, rfl⟩ | ⟨g, cap, cur, rfl, hb, hgg, hc, hcm, hs, ht⟩
  · omega
  · have hg := hk g rfl
    have e1 : xs ++ cur.toList.drop (m * sz) = cur.toList := by rw [← ht, List.take_append_drop]
    refine ⟨g, cap, cur.toList.drop (m * sz), rfl, hc, hcm, by rw [e1]; simpa using hs, ?_⟩
    rw [e1]
    have hf := M.fits _ (List.mem_cons_self ..)
    have hf1 : w0.heap.size ≤ lo := hf.1
    have hf2 : hi ≤ w.heap.size := hf.2
    have hp := List.pairwise_cons.1 M.apart
    refine ⟨M.below, fun f hf => ?_, fun f hf => ?_, List.pairwise_cons.2 ⟨fun f hf => ?_, hp.2⟩⟩
    · rcases List.mem_cons.1 hf with rfl | hf
      · exact hgg
      · exact M.ok f (List.mem_cons_of_mem _ hf)
    · rcases List.mem_cons.1 hf with rfl | hf
      · exact ⟨show w0.heap.size ≤ g by omega, show g + 1 ≤ w.heap.size by omega⟩
      · exact M.fits f (List.mem_cons_of_mem _ hf)
    · rcases hp.1 f hf with h | h
      · exact .inl (show g + 1 ≤ f.lo by have : hi ≤ f.lo := h; omega)
      · exact .inr (show f.hi ≤ g by have : f.hi ≤ lo := h; omega)

theorem y_remZ {x y : Operand} {i j : Int} (S : Sees n a L) (hx : val L x = some (.int .i64 i)) (hy : val L y = some (.int .i64 j)) (h : 0 < j)
    {d : Option Tmp} {xt yt t : TypeId} {p : String} {e : Array Edge} {g : Option (Nat × Bool)} : Yields P a ⟨d, .binOp .rem xt x y yt, t, p, e, g⟩ w (.int .i64 (i.tmod j)) := by
  have hne : j ≠ 0 := by omega
  unfold Yields execOp
  simp only [S.eval hx, S.eval hy]
  simp [eqGuard, binOp, Op.intDiv, go_sem, hne]
def bitB (j : Nat) : UInt8 := UInt8.ofNat (2 ^ j)
theorem bitB_toNat {j : Nat} (h : j < 8) : (bitB j).toNat = 2 ^ j := by
  unfold bitB; rw [UInt8.toNat_ofNat', Nat.mod_eq_of_lt]
  have : (2 : Nat) ^ j < 2 ^ 8 := Nat.pow_lt_pow_right (by omega) h
  omega
theorem y_shl8 {x y : Operand} {j : Int} (S : Sees n a L) (hx : val L x = some (.int .u8 1)) (hy : val L y = some (.int .i64 j)) (h : 0 ≤ j ∧ j < 8)
    {d : Option Tmp} {xt yt t : TypeId} {p : String} {e : Array Edge} {g : Option (Nat × Bool)} : Yields P a ⟨d, .binOp .shl xt x y yt, t, p, e, g⟩ w (.int .u8 ((bitB j.toNat).toNat : Int)) := by
  have h' := y_shl (P := P) (w := w) S hx hy (by omega) (d := d) (xt := xt) (yt := yt) (t := t) (p := p) (e := e) (g := g)
  have e1 : min j.toNat IntKind.u8.bits = j.toNat := by simp only [IntKind.bits]; omega
  have hp : (2 : Nat) ^ j.toNat < 2 ^ 8 := Nat.pow_lt_pow_right (by omega) (by omega)
  rw [e1, show (1 : Int) * 2 ^ j.toNat = ((2 ^ j.toNat : Nat) : Int) by simp, wrap_u8_in ⟨Int.natCast_nonneg _, Int.ofNat_le.2 (show 2 ^ j.toNat ≤ 255 by omega)⟩] at h'
  rw [bitB_toNat (by omega)]; exact h'
theorem y_xor8 {x y : Operand} {b c : UInt8} (S : Sees n a L) (hx : val L x = some (.int .u8 (b.toNat : Int))) (hy : val L y = some (.int .u8 (c.toNat : Int)))
    {d : Option Tmp} {xt yt t : TypeId} {p : String} {e : Array Edge} {g : Option (Nat × Bool)} : Yields P a ⟨d, .binOp .xor xt x y yt, t, p, e, g⟩ w (.int .u8 ((b ^^^ c).toNat : Int)) := by
  refine y_int S hx hy ?_
  have h1 : b.toNat < 256 := UInt8.toNat_lt b
  have h2 : c.toNat < 256 := UInt8.toNat_lt c
  have h3 : b.toNat ^^^ c.toNat < 2 ^ 8 := Nat.xor_lt_two_pow h1 h2
  show some (Value.int .u8 (IntKind.u8.wrap (((BitVec.ofInt 8 (b.toNat : Int) ^^^ BitVec.ofInt 8 (c.toNat : Int) : BitVec 8).toNat : Nat) : Int))) = _
  have e1 : (BitVec.ofInt 8 (b.toNat : Int) ^^^ BitVec.ofInt 8 (c.toNat : Int) : BitVec 8).toNat = (b ^^^ c).toNat := by
    rw [BitVec.ofInt_natCast, BitVec.ofInt_natCast, BitVec.toNat_xor, BitVec.toNat_ofNat, BitVec.toNat_ofNat, Nat.mod_eq_of_lt (by omega), Nat.mod_eq_of_lt (by omega), UInt8.toNat_xor]
  rw [e1, wrap_u8_in (by rw [UInt8.toNat_xor]; omega)]

/-- a byte of a block is set -/
theorem bcells_set (bs : List UInt8) (more : List Value) {i : Nat} (h : i < bs.length) (x : UInt8) : putL (bcells bs ++ more) i [.int .u8 (x.toNat : Int)] = bcells (bs.set i x) ++ more := by
  show (bcells bs ++ more).set i _ = _
  rw [List.set_append_left _ _ (by simpa [bcells] using h)]
  unfold bcells; rw [List.map_set]

end Go.Proofs.Ytcpobgjoicadjaa
