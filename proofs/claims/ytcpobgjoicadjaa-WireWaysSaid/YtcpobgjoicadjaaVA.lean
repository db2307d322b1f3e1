/-
  The second walk: bytes of numbers, arrays cut, copies.
-/
import Derived.Test.YtcpobgjoicadjaaVK
namespace Go.Proofs.Ytcpobgjoicadjaa
open Go.RowKit Go.Sort

variable {P : Program} {ops : Array Oper} {Q : Exit → Act → World → Prop} {rest : List Oper} {n d : Nat} {a : Act} {L : List (Nat × Value)} {w w0 : World} {v : Value} {o : Oper} {H : List Ent}

/-- the lowest byte of a number -/
def byteOf (i : Int) : UInt8 := UInt8.ofNat (i % 256).toNat
theorem wrap_u8 (i : Int) : IntKind.u8.wrap i = ((byteOf i).toNat : Int) := by
  have h : (0 : Int) ≤ i % 256 := by omega
  have h2 : i % 256 < 256 := by omega
  simp only [IntKind.wrap, IntKind.bits, IntKind.signed, byteOf, UInt8.toNat_ofNat']
  simp
  omega
theorem y_to8 {x : Operand} {k : IntKind} {i : Int} {src dst : TypeId} (S : Sees n a L) (hx : val L x = some (.int k i)) (hs : (P.underlying src).isSome = true) (hd : P.underlying dst = some (.int .u8)) {d : Option Tmp} {t : TypeId} {p : String} {e : Array Edge} {g : Option (Nat × Bool)} :
    Yields P a ⟨d, .convert src dst x, t, p, e, g⟩ w (.int .u8 ((byteOf i).toNat : Int)) := by
  have h := y_conv (P := P) (w := w) S hx hs hd (d := d) (t := t) (p := p) (e := e) (g := g)
  rw [wrap_u8] at h; exact h
/-- a smaller number as one of 64 bits -/
theorem y_to64 {x : Operand} {k : IntKind} {i : Int} {src dst : TypeId} (S : Sees n a L) (hx : val L x = some (.int k i)) (hs : (P.underlying src).isSome = true) (hd : P.underlying dst = some (.int .i64)) (h : -9223372036854775808 ≤ i ∧ i ≤ 9223372036854775807) {d : Option Tmp} {t : TypeId} {p : String} {e : Array Edge} {g : Option (Nat × Bool)} :
    Yields P a ⟨d, .convert src dst x, t, p, e, g⟩ w (.int .i64 i) := by
  have h' := y_conv (P := P) (w := w) S hx hs hd (d := d) (t := t) (p := p) (e := e) (g := g)
  rw [IntWalk.i64_in _ h] at h'; exact h'
theorem y_shrN {x y : Operand} {yk : IntKind} {i j : Int} (S : Sees n a L) (hx : val L x = some (.int .i64 i)) (hy : val L y = some (.int yk j)) (h : 0 ≤ j ∧ j ≤ 64)
    {d : Option Tmp} {xt yt t : TypeId} {p : String} {e : Array Edge} {g : Option (Nat × Bool)} : Yields P a ⟨d, .binOp .shr xt x y yt, t, p, e, g⟩ w (.int .i64 (i / 2 ^ j.toNat)) := by
  have h' := y_shr (P := P) (w := w) S hx hy h.1 (d := d) (xt := xt) (yt := yt) (t := t) (p := p) (e := e) (g := g)
  rw [show min j.toNat IntKind.i64.bits = j.toNat by simp only [IntKind.bits]; omega, Int.fdiv_eq_ediv_of_nonneg _ (Int.pow_nonneg (by omega))] at h'
  exact h'
theorem y_shlN {x y : Operand} {yk : IntKind} {i j : Int} (S : Sees n a L) (hx : val L x = some (.int .i64 i)) (hy : val L y = some (.int yk j)) (h : 0 ≤ j ∧ j ≤ 64) (hr : -9223372036854775808 ≤ i * 2 ^ j.toNat ∧ i * 2 ^ j.toNat ≤ 9223372036854775807)
    {d : Option Tmp} {xt yt t : TypeId} {p : String} {e : Array Edge} {g : Option (Nat × Bool)} : Yields P a ⟨d, .binOp .shl xt x y yt, t, p, e, g⟩ w (.int .i64 (i * 2 ^ j.toNat)) := by
  have h' := y_shl (P := P) (w := w) S hx hy h.1 (d := d) (xt := xt) (yt := yt) (t := t) (p := p) (e := e) (g := g)
  rw [show min j.toNat IntKind.i64.bits = j.toNat by simp only [IntKind.bits]; omega, IntWalk.i64_in _ hr] at h'
  exact h'
theorem y_orN {x y : Operand} {i j : Nat} (S : Sees n a L) (hx : val L x = some (.int .i64 (i : Int))) (hy : val L y = some (.int .i64 (j : Int))) (hi : i < 2 ^ 63) (hj : j < 2 ^ 63)
    {d : Option Tmp} {xt yt t : TypeId} {p : String} {e : Array Edge} {g : Option (Nat × Bool)} : Yields P a ⟨d, .binOp .or xt x y yt, t, p, e, g⟩ w (.int .i64 ((i ||| j : Nat) : Int)) := by
  refine y_int S hx hy ?_
  have hlt : i ||| j < 2 ^ 63 := Nat.or_lt_two_pow hi hj
  have e1 : (BitVec.ofInt 64 (i : Int) ||| BitVec.ofInt 64 (j : Int)).toNat = i ||| j := by
    rw [BitVec.ofInt_natCast, BitVec.ofInt_natCast, BitVec.toNat_or, BitVec.toNat_ofNat, BitVec.toNat_ofNat, Nat.mod_eq_of_lt (by omega), Nat.mod_eq_of_lt (by omega)]
  show some (Value.int .i64 (IntKind.i64.wrap (((BitVec.ofInt 64 (i : Int) ||| BitVec.ofInt 64 (j : Int) : BitVec 64).toNat : Nat) : Int))) = _
  rw [e1, IntWalk.i64_in _ (by omega)]

/-! ### an array cut -/
theorem y_sliceA {x : Operand} {b o t m sz : Nat} (S : Sees n a L) (hE : arrayElem P t = some (m, sz)) (hx : val L x = some (.pointer (some ⟨b, o, none⟩)))
    {d : Option Tmp} {ty : TypeId} {p : String} {ed : Array Edge} {g : Option (Nat × Bool)} : Yields P a ⟨d, .slice t x none none none, ty, p, ed, g⟩ w (.slice (some ⟨b, o, none⟩) m m) := by
  obtain ⟨e, hu, inf, hinf, rfl⟩ := arrayElem_spec hE
  unfold Yields execOp
  simp only [Option.map_none, S.eval hx]
  have e0 : (⟨b, o, none⟩ : Addr).add 0 = ⟨b, o, none⟩ := rfl
  simp [Instr.sliceAt, Instr.sliceBounds, underlying, hu, Instr.sureAddr, sizeOf, typeInfo, hinf, e0, go_sem]
theorem y_sliceA02 {x hi : Operand} {b o t m sz : Nat} {j : Int} {k2 : IntKind} (S : Sees n a L) (hE : arrayElem P t = some (m, sz)) (hx : val L x = some (.pointer (some ⟨b, o, none⟩))) (h2 : val L hi = some (.int k2 j)) (h : 0 ≤ j ∧ j ≤ m)
    {d : Option Tmp} {ty : TypeId} {p : String} {ed : Array Edge} {g : Option (Nat × Bool)} : Yields P a ⟨d, .slice t x none (some hi) none, ty, p, ed, g⟩ w (.slice (some ⟨b, o, none⟩) j.toNat m) := by
  obtain ⟨e, hu, inf, hinf, rfl⟩ := arrayElem_spec hE
  unfold Yields execOp
  simp only [Option.map_none, Option.map_some, S.eval hx, S.eval h2]
  have e0 : (⟨b, o, none⟩ : Addr).add 0 = ⟨b, o, none⟩ := rfl
  simp [Instr.sliceAt, Instr.sliceBounds, Instr.sliceBound, asIntOf, underlying, hu, Instr.sureAddr, sizeOf, typeInfo, hinf, h, e0, go_sem]

/-! ### an array by value, one element -/
theorem y_indexV {x ix : Operand} {t m sz k : Nat} {cs es : List Value} {i : Int} {ki : IntKind} (S : Sees n a L) (hE : arrayElem P t = some (m, sz)) (hT : ∀ e, P.underlying t = some (.array m e) → aggB P e = some k) (hx : val L x = some (.agg cs.toArray)) (hi : val L ix = some (.int ki i)) (h : 0 ≤ i ∧ i < m) (hes : cutL cs (i.toNat * sz) k = some es)
    {d : Option Tmp} {ty : TypeId} {p : String} {ed : Array Edge} {g : Option (Nat × Bool)} : Yields P a ⟨d, .index t x ix, ty, p, ed, g⟩ w (.agg es.toArray) := by
  obtain ⟨e, hu, inf, hinf, rfl⟩ := arrayElem_spec hE
  obtain ⟨h1, i', hi', hs'⟩ := aggB_spec (hT e hu)
  rw [hinf] at hi'; cases hi'
  obtain ⟨hl, hg⟩ := cutL_spec _ _ _ _ hes
  have hex : cs.toArray.extract (i.toNat * inf.size) (i.toNat * inf.size + inf.size) = es.toArray := by
    apply Array.ext_getElem?
    intro j
    rw [Array.getElem?_extract]
    rcases Nat.lt_or_ge j k with hj | hj
    · have := hg j hj
      have hlt : i.toNat * inf.size + j < cs.length := by
        rcases Nat.lt_or_ge (i.toNat * inf.size + j) cs.length with h | h
        · exact h
        · rw [List.getElem?_eq_none h, List.getElem?_eq_getElem (by omega)] at this; cases this
      simp only [List.size_toArray, List.getElem?_toArray]
      rw [if_pos (by omega), this]
    · have : es.toArray[j]? = none := by simp; omega
      rw [this, if_neg (by omega)]
  unfold Yields execOp
  simp only [S.eval hx, S.eval hi]
  simp only [Instr.index, asIntOf, Sem.run_bind, Sem.run_pure, Result.andThen_ok]
  rw [show (underlying t).run P w = .ok (.array m e) w by simp [underlying, hu, go_sem]]
  simp only [Result.andThen_ok, h.1, h.2, and_self, if_true, Sem.run_bind, run_sizeOf hinf, part, h1, Sem.run_pure, hex]

/-! ### copy -/
theorem oneCell_of {us : List Value} (h : allOne us = true) : ∀ u ∈ us, u.oneCell' = true := allOne_spec h
/-- 'copy' into a block of one's own, from what reads as cs -/
theorem st_copy {t e lo hi b o dl dc m : Nat} {x : Value} {s y : Operand} {l cs us : List Value} {T : TypeId} (S : Sees n a L) (M : Mem w0 w H) (pos : Nat) {d : Nat} {ty : TypeId} {p : String} {ed : Array Edge} {g : Option (Nat × Bool)}
    (hg : gd ops L ⟨some d, .call { callee := .builtin .copy, args := #[s, y], argTypes := #[t, t] }, ty, p, ed, g⟩ = some true) (hn : Nat.blt d n = true)
    (hE : sliceElem P t = some (e, 1)) (hs : val L s = some (.slice (some ⟨b, o, none⟩) dl dc)) (hy : val L y = some x) (hp : H[pos]? = some (.blk b l.toArray T)) (hx : Rd lo hi w 1 x m cs) (hus : cs.take dl = us) (h1 : allOne us = true) (hfit : o + us.length ≤ l.length)
    (kk : ∀ a w, Sees n a ((d, .int .i64 (us.length : Int)) :: L) → Mem w0 w (H.set pos (.blk b (l.take o ++ us ++ l.drop (o + us.length)).toArray T)) → wpList P ops Q rest a w) :
    wpList P ops Q (⟨some d, .call { callee := .builtin .copy, args := #[s, y], argTypes := #[t, t] }, ty, p, ed, g⟩ :: rest) a w := by
  obtain ⟨hu, inf, hinf, hsz⟩ := sliceElem_spec hE
  have B := M.blk pos hp
  have hlen : us.length = Nat.min m dl := by
    rw [← hus, List.length_take, hx.1, Nat.mul_one, Nat.min_comm]
  obtain ⟨cs', hrun⟩ := run_builtin (P := P) (w := w) (b := .copy) (xs := [s, y]) (vs := [.slice (some ⟨b, o, none⟩) dl dc, x]) S (by simp [vals, hs, hy]) (d := some d) (ts := #[t, t]) (t := ty) (p := p) (e := ed) (g := g)
  rcases hx.2.2 with ⟨rfl, rfl⟩ | ⟨ad, cap, rfl, hc, hm, ha, hsp⟩
  · have hu0 : us = [] := List.eq_nil_of_length_eq_zero (by rw [hlen]; exact Nat.zero_min _)
    subst hu0
    have hr := run_copy_nil (P := P) w t t ty e ⟨b, o, none⟩ dl dc hu (by simp [hinf])
    refine st_w (v := .int .i64 0) (w' := w) S hg rfl hn ?_ fun a S' => kk a w S' ?_
    · rw [hrun]
      simp only [builtin, Sem.run_bind]
      rw [show [Value.slice (some ⟨b, o, none⟩) dl dc, .slice none 0 0].toArray = #[.slice (some ⟨b, o, none⟩) dl dc, .slice none 0 0] from rfl, hr]
      rfl
    · rw [show l.take o ++ [] ++ l.drop (o + ([] : List Value).length) = l by simp, show H.set pos (.blk b l.toArray T) = H from ?_]
      · exact M
      · obtain ⟨h1, h2⟩ := List.getElem?_eq_some_iff.1 hp
        rw [← h2, List.set_getElem_self]
  · have hsrc : ∀ j v, us[j]? = some v → w.cell? (ad.add j) = some v := fun j v hj => by
      have hcs : cs[j]? = some v := by
        rw [← hus] at hj
        have hlt := (List.getElem?_eq_some_iff.1 hj).1
        rw [List.getElem?_take_of_lt (by simp at hlt; omega)] at hj
        exact hj
      exact ha.addA (fun hne => (hsp (Nat.pos_of_ne_zero fun h0 => hne (List.eq_nil_of_length_eq_zero (by rw [hx.1, h0, Nat.zero_mul])))).1) j v hcs
    have hr := run_copy_row (P := P) w t t ty e b o dl dc ad m cap l.toArray T us hu (by simp [hinf, hsz]) B hlen hsrc (by simpa using hfit) (oneCell_of h1)
    refine st_w (v := .int .i64 (us.length : Int)) (w' := _) S hg rfl hn (by
      rw [hrun]
      simp only [builtin, Sem.run_bind]
      rw [show [Value.slice (some ⟨b, o, none⟩) dl dc, .slice (some ad) m cap].toArray = #[.slice (some ⟨b, o, none⟩) dl dc, .slice (some ad) m cap] from rfl, hr]
      rfl) fun a S' => kk a _ S' ?_
    exact M.change pos hp rfl rfl (setRow_heap w b l.toArray _ T _ B) (by simp [World.setRow]) rfl rfl rfl (fun k hk => setRow_other w b k _ (fun e => hk (by subst e; simp [Ent.lo, Ent.hi])))

end Go.Proofs.Ytcpobgjoicadjaa
