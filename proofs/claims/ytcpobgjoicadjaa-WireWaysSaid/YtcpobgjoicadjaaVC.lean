/-
  The second walk: numbers of 64 bits without sign, bytes divided.
-/
import Derived.Test.YtcpobgjoicadjaaVB
namespace Go.Proofs.Ytcpobgjoicadjaa
open Go.RowKit Go.Sort

variable {P : Program} {ops : Array Oper} {Q : Exit → Act → World → Prop} {rest : List Oper} {n d : Nat} {a : Act} {L : List (Nat × Value)} {w w0 : World} {v : Value} {o : Oper} {H : List Ent}

theorem wrap_u64 {i : Int} (h : 0 ≤ i ∧ i ≤ 18446744073709551615) : IntKind.u64.wrap i = i := by
  simp only [IntKind.wrap, IntKind.bits, IntKind.signed]
  simp; omega
theorem y_toU64 {x : Operand} {k : IntKind} {i : Int} {src dst : TypeId} (S : Sees n a L) (hx : val L x = some (.int k i)) (hs : (P.underlying src).isSome = true) (hd : P.underlying dst = some (.int .u64)) (h : 0 ≤ i ∧ i ≤ 18446744073709551615) {d : Option Tmp} {t : TypeId} {p : String} {e : Array Edge} {g : Option (Nat × Bool)} :
    Yields P a ⟨d, .convert src dst x, t, p, e, g⟩ w (.int .u64 i) := by
  have h' := y_conv (P := P) (w := w) S hx hs hd (d := d) (t := t) (p := p) (e := e) (g := g)
  rw [wrap_u64 h] at h'; exact h'
theorem y_andU255 {x y : Operand} {i : Int} (S : Sees n a L) (hx : val L x = some (.int .u64 i)) (hy : val L y = some (.int .u64 255)) (h : 0 ≤ i ∧ i ≤ 18446744073709551615) {d : Option Tmp} {xt yt t : TypeId} {p : String} {e : Array Edge} {g : Option (Nat × Bool)} :
    Yields P a ⟨d, .binOp .and xt x y yt, t, p, e, g⟩ w (.int .u64 (i % 256)) := by
  refine y_int S hx hy ?_
  obtain ⟨m, rfl⟩ := Int.eq_ofNat_of_zero_le h.1
  show some (Value.int .u64 (IntKind.u64.wrap (((BitVec.ofInt 64 (m : Int) &&& BitVec.ofInt 64 255 : BitVec 64).toNat : Nat) : Int))) = _
  have e1 : (BitVec.ofInt 64 (m : Int) &&& BitVec.ofInt 64 255 : BitVec 64).toNat = m % 256 := by
    rw [BitVec.toNat_and, BitVec.ofInt_natCast, BitVec.toNat_ofNat, Nat.mod_eq_of_lt (by omega)]
    exact Nat.and_two_pow_sub_one_eq_mod m 8
  rw [e1, wrap_u64 (by omega)]
  simp
theorem y_shrU {x y : Operand} {yk : IntKind} {i : Int} {k : Nat} (S : Sees n a L) (hx : val L x = some (.int .u64 i)) (hy : val L y = some (.int yk (k : Int))) (h : 0 ≤ i ∧ k ≤ 64)
    {d : Option Tmp} {xt yt t : TypeId} {p : String} {e : Array Edge} {g : Option (Nat × Bool)} : Yields P a ⟨d, .binOp .shr xt x y yt, t, p, e, g⟩ w (.int .u64 (i / 2 ^ k)) := by
  have h' := y_shr (P := P) (w := w) S hx hy (by omega) (d := d) (xt := xt) (yt := yt) (t := t) (p := p) (e := e) (g := g)
  rw [show min (k : Int).toNat IntKind.u64.bits = k by simp only [IntKind.bits]; omega, Int.fdiv_eq_ediv_of_nonneg _ (Int.pow_nonneg (by omega))] at h'
  exact h'
theorem y_shlU {x y : Operand} {yk : IntKind} {i : Int} {k : Nat} (S : Sees n a L) (hx : val L x = some (.int .u64 i)) (hy : val L y = some (.int yk (k : Int))) (h : k ≤ 64) (hr : 0 ≤ i * 2 ^ k ∧ i * 2 ^ k ≤ 18446744073709551615)
    {d : Option Tmp} {xt yt t : TypeId} {p : String} {e : Array Edge} {g : Option (Nat × Bool)} : Yields P a ⟨d, .binOp .shl xt x y yt, t, p, e, g⟩ w (.int .u64 (i * 2 ^ k)) := by
  have h' := y_shl (P := P) (w := w) S hx hy (by omega) (d := d) (xt := xt) (yt := yt) (t := t) (p := p) (e := e) (g := g)
  rw [show min (k : Int).toNat IntKind.u64.bits = k by simp only [IntKind.bits]; omega, wrap_u64 hr] at h'
  exact h'
theorem y_orU {x y : Operand} {i j : Nat} (S : Sees n a L) (hx : val L x = some (.int .u64 (i : Int))) (hy : val L y = some (.int .u64 (j : Int))) (hi : i < 2 ^ 64) (hj : j < 2 ^ 64)
    {d : Option Tmp} {xt yt t : TypeId} {p : String} {e : Array Edge} {g : Option (Nat × Bool)} : Yields P a ⟨d, .binOp .or xt x y yt, t, p, e, g⟩ w (.int .u64 ((i ||| j : Nat) : Int)) := by
  refine y_int S hx hy ?_
  have hlt : i ||| j < 2 ^ 64 := Nat.or_lt_two_pow hi hj
  have e1 : (BitVec.ofInt 64 (i : Int) ||| BitVec.ofInt 64 (j : Int)).toNat = i ||| j := by
    rw [BitVec.ofInt_natCast, BitVec.ofInt_natCast, BitVec.toNat_or, BitVec.toNat_ofNat, BitVec.toNat_ofNat, Nat.mod_eq_of_lt hi, Nat.mod_eq_of_lt hj]
  show some (Value.int .u64 (IntKind.u64.wrap (((BitVec.ofInt 64 (i : Int) ||| BitVec.ofInt 64 (j : Int) : BitVec 64).toNat : Nat) : Int))) = _
  rw [e1, wrap_u64 (by omega)]
theorem wrap_u8_in {i : Int} (h : 0 ≤ i ∧ i ≤ 255) : IntKind.u8.wrap i = i := by
  simp only [IntKind.wrap, IntKind.bits, IntKind.signed]
  simp; omega
theorem y_quo8 {x y : Operand} {i j : Int} (S : Sees n a L) (hx : val L x = some (.int .u8 i)) (hy : val L y = some (.int .u8 j)) (h : 0 ≤ i ∧ i ≤ 255 ∧ 0 < j)
    {d : Option Tmp} {xt yt t : TypeId} {p : String} {e : Array Edge} {g : Option (Nat × Bool)} : Yields P a ⟨d, .binOp .quo xt x y yt, t, p, e, g⟩ w (.int .u8 (i / j)) := by
  obtain ⟨h0, h1, h2⟩ := h
  have hne : j ≠ 0 := by omega
  have hq : i.tdiv j = i / j := Int.tdiv_eq_ediv_of_nonneg h0
  have hb : 0 ≤ i / j ∧ i / j ≤ 255 := by
    have := Int.ediv_nonneg h0 (Int.le_of_lt h2)
    have := Int.ediv_le_self j h0
    omega
  unfold Yields execOp
  simp only [S.eval hx, S.eval hy]
  simp [eqGuard, binOp, Op.intDiv, go_sem, hne, hq, wrap_u8_in hb]
theorem y_rem8 {x y : Operand} {i j : Int} (S : Sees n a L) (hx : val L x = some (.int .u8 i)) (hy : val L y = some (.int .u8 j)) (h : 0 ≤ i ∧ 0 < j)
    {d : Option Tmp} {xt yt t : TypeId} {p : String} {e : Array Edge} {g : Option (Nat × Bool)} : Yields P a ⟨d, .binOp .rem xt x y yt, t, p, e, g⟩ w (.int .u8 (i % j)) := by
  obtain ⟨h0, h2⟩ := h
  have hne : j ≠ 0 := by omega
  have hq : i.tmod j = i % j := Int.tmod_eq_emod_of_nonneg h0
  unfold Yields execOp
  simp only [S.eval hx, S.eval hy]
  simp [eqGuard, binOp, Op.intDiv, go_sem, hne, hq]

end Go.Proofs.Ytcpobgjoicadjaa
