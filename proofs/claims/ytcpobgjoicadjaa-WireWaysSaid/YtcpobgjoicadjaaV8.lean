/-
  The second walk: slices that are known by what they read as.
-/
import Derived.Test.YtcpobgjoicadjaaV7
namespace Go.Proofs.Ytcpobgjoicadjaa
open Go.RowKit Go.Sort

variable {P : Program} {ops : Array Oper} {Q : Exit → Act → World → Prop} {rest : List Oper} {n d : Nat} {a : Act} {L : List (Nat × Value)} {w w0 : World} {v : Value} {o : Oper} {H : List Ent}

def adr : Value → Addr
  | .slice (some a) _ _ => a
  | _ => ⟨0, 0, none⟩
def capV : Value → Nat
  | .slice _ _ c => c
  | _ => 0
def cutV (v : Value) (i j m sz : Nat) : Value :=
  match v with
  | .slice ad _ _ => .slice (subA ad i m sz) (j - i) (m - i)
  | v => v

theorem Rd.cap {lo hi sz m : Nat} {x : Value} {cs : List Value} (h : Rd lo hi w sz x m cs) : m ≤ capV x ∧ capV x ≤ maxLen := by
  obtain ⟨ad, cap, rfl, h1, h2⟩ := h.form; exact ⟨h1, h2⟩
theorem Rd.at_ {lo hi sz m : Nat} {x : Value} {cs : List Value} (h : Rd lo hi w sz x m cs) : CellsAt w (adr x).block (adr x).off cs := by
  rcases h.2.2 with ⟨rfl, rfl⟩ | ⟨ad, cap, rfl, hc, hm, ha, _⟩
  · have : cs = [] := List.eq_nil_of_length_eq_zero (by simpa using h.1)
    subst this; intro j hj; simp at hj
  · exact ha
theorem Rd.cutv {lo hi sz m i j mx : Nat} {x : Value} {cs : List Value} (h : Rd lo hi w sz x m cs) (h1 : i ≤ j) (h2 : j ≤ m) (h3 : j ≤ mx) (h4 : mx ≤ capV x) : Rd lo hi w sz (cutV x i j mx sz) (j - i) ((cs.drop (i * sz)).take ((j - i) * sz)) := by
  obtain ⟨ad, cap, rfl, _, _⟩ := h.form
  exact h.cut h1 h2 h3 h4

theorem y_lenR {x : Operand} {u : Value} {lo hi sz m : Nat} {cs : List Value} {T E : TypeId} (S : Sees n a L) (hx : val L x = some u) (hR : Rd lo hi w sz u m cs) (hU : P.underlying T = some (.slice E)) {d : Option Tmp} {t : TypeId} {p : String} {e : Array Edge} {g : Option (Nat × Bool)} :
    Yields P a ⟨d, .call { callee := .builtin .len, args := #[x], argTypes := #[T] }, t, p, e, g⟩ w (.int .i64 (m : Int)) := by
  obtain ⟨ad, cap, rfl, _, _⟩ := hR.form
  exact y_lenS S hx hU

theorem y_indexR {x ix : Operand} {u : Value} {lo hi m t e sz : Nat} {cs : List Value} {k : IntKind} {i : Int} (S : Sees n a L) (hE : sliceElem P t = some (e, sz)) (hx : val L x = some u) (hR : Rd lo hi w sz u m cs) (hi : val L ix = some (.int k i)) (h : 0 ≤ i ∧ i < m)
    {d : Option Tmp} {ty : TypeId} {p : String} {ed : Array Edge} {g : Option (Nat × Bool)} : Yields P a ⟨d, .indexAddr t x ix, ty, p, ed, g⟩ w (.pointer (some ⟨(adr u).block, (adr u).off + i.toNat * sz, none⟩)) := by
  obtain ⟨b, o, cap, rfl, _⟩ := hR.place (by omega)
  exact y_indexS S hE hx hi h

theorem y_slice3R {x lo hi mx : Operand} {u : Value} {l r m t e sz : Nat} {cs : List Value} {i j k : Int} {k1 k2 k3 : IntKind} (S : Sees n a L) (hE : sliceElem P t = some (e, sz)) (hx : val L x = some u) (hR : Rd l r w sz u m cs) (h1 : val L lo = some (.int k1 i)) (h2 : val L hi = some (.int k2 j)) (h3 : val L mx = some (.int k3 k))
    (h : 0 ≤ i ∧ i ≤ j ∧ j ≤ k ∧ k ≤ m) {d : Option Tmp} {ty : TypeId} {p : String} {ed : Array Edge} {g : Option (Nat × Bool)} :
    Yields P a ⟨d, .slice t x (some lo) (some hi) (some mx), ty, p, ed, g⟩ w (cutV u i.toNat j.toNat k.toNat sz) := by
  have hc := hR.cap
  obtain ⟨ad, cap, rfl, h4, _⟩ := hR.form
  exact y_slice3 S hE hx h1 h2 h3 (by omega)
theorem y_slice2R {x lo hi : Operand} {u : Value} {l r m t e sz : Nat} {cs : List Value} {i j : Int} {k1 k2 : IntKind} (S : Sees n a L) (hE : sliceElem P t = some (e, sz)) (hx : val L x = some u) (hR : Rd l r w sz u m cs) (h1 : val L lo = some (.int k1 i)) (h2 : val L hi = some (.int k2 j))
    (h : 0 ≤ i ∧ i ≤ j ∧ j ≤ m) {d : Option Tmp} {ty : TypeId} {p : String} {ed : Array Edge} {g : Option (Nat × Bool)} :
    Yields P a ⟨d, .slice t x (some lo) (some hi) none, ty, p, ed, g⟩ w (cutV u i.toNat j.toNat (capV u) sz) := by
  obtain ⟨ad, cap, rfl, h4, _⟩ := hR.form
  exact y_slice2 S hE hx h1 h2 (by omega)
theorem y_slice1R {x lo : Operand} {u : Value} {l r m t e sz : Nat} {cs : List Value} {i : Int} {k1 : IntKind} (S : Sees n a L) (hE : sliceElem P t = some (e, sz)) (hx : val L x = some u) (hR : Rd l r w sz u m cs) (h1 : val L lo = some (.int k1 i))
    (h : 0 ≤ i ∧ i ≤ m) {d : Option Tmp} {ty : TypeId} {p : String} {ed : Array Edge} {g : Option (Nat × Bool)} :
    Yields P a ⟨d, .slice t x (some lo) none none, ty, p, ed, g⟩ w (cutV u i.toNat m (capV u) sz) := by
  obtain ⟨ad, cap, rfl, h4, _⟩ := hR.form
  exact y_slice1 S hE hx h1 (by omega)
theorem y_slice03R {x hi mx : Operand} {u : Value} {l r m t e sz : Nat} {cs : List Value} {j k : Int} {k2 k3 : IntKind} (S : Sees n a L) (hE : sliceElem P t = some (e, sz)) (hx : val L x = some u) (hR : Rd l r w sz u m cs) (h2 : val L hi = some (.int k2 j)) (h3 : val L mx = some (.int k3 k))
    (h : 0 ≤ j ∧ j ≤ k ∧ k ≤ m) {d : Option Tmp} {ty : TypeId} {p : String} {ed : Array Edge} {g : Option (Nat × Bool)} :
    Yields P a ⟨d, .slice t x none (some hi) (some mx), ty, p, ed, g⟩ w (cutV u 0 j.toNat k.toNat sz) := by
  obtain ⟨ad, cap, rfl, h4, _⟩ := hR.form
  have e0 : subA ad 0 k.toNat sz = ad := by unfold subA; split <;> (cases ad <;> simp [Addr.add])
  have := y_slice03 (P := P) (w := w) S hE hx h2 h3 (by omega) (d := d) (ty := ty) (p := p) (ed := ed) (g := g)
  simpa [cutV, e0] using this
theorem y_slice02R {x hi : Operand} {u : Value} {l r m t e sz : Nat} {cs : List Value} {j : Int} {k2 : IntKind} (S : Sees n a L) (hE : sliceElem P t = some (e, sz)) (hx : val L x = some u) (hR : Rd l r w sz u m cs) (h2 : val L hi = some (.int k2 j))
    (h : 0 ≤ j ∧ j ≤ m) {d : Option Tmp} {ty : TypeId} {p : String} {ed : Array Edge} {g : Option (Nat × Bool)} :
    Yields P a ⟨d, .slice t x none (some hi) none, ty, p, ed, g⟩ w (cutV u 0 j.toNat (capV u) sz) := by
  obtain ⟨ad, cap, rfl, h4, _⟩ := hR.form
  have e0 : subA ad 0 cap sz = ad := by unfold subA; split <;> (cases ad <;> simp [Addr.add])
  have := y_slice02 (P := P) (w := w) S hE hx h2 (by omega) (d := d) (ty := ty) (p := p) (ed := ed) (g := g)
  simpa [cutV, capV, e0] using this

/-- one byte -/
theorem Rd.byte {lo hi i : Nat} {bs : List UInt8} {b : UInt8} (h : Bs lo hi w v bs) (hb : bs[i]? = some b) : w.cell? ⟨(adr v).block, (adr v).off + i, none⟩ = some (.int .u8 (b.toNat : Int)) := by
  have hlt := (List.getElem?_eq_some_iff.1 hb).1
  rw [h.at_ i (by simpa [bcells] using hlt), bcells_get hb]
theorem Rd.cutB {lo hi i j mx : Nat} {bs : List UInt8} (h : Bs lo hi w v bs) (h1 : i ≤ j) (h2 : j ≤ bs.length) (h3 : j ≤ mx) (h4 : mx ≤ capV v) : Bs lo hi w (cutV v i j mx 1) ((bs.drop i).take (j - i)) := by
  have := h.cutv h1 h2 h3 h4
  rw [Nat.mul_one, Nat.mul_one, bcells_cut] at this
  have e : ((bs.drop i).take (j - i)).length = j - i := by simp; omega
  unfold Bs; rw [e]; exact this

end Go.Proofs.Ytcpobgjoicadjaa
