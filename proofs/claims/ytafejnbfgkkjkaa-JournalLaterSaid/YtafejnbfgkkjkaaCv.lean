/-
  Conversion of a literal of bytes to its own type: the row is marked.
-/
import Derived.Test.YtafejnbfgkkjkaaRdh
import Derived.Lib.SlBytesConst
namespace Go.Proofs.Ytafejnbfgkkjkaa
open Go.RowKit Go.Sort
variable {ds : List Deferred}
variable {P : Program} {ops : Array Oper} {Q : Exit → Act → World → Prop} {rest : List Oper} {n d : Nat} {a : Act} {L : List (Nat × Value)} {w w0 : World} {H : List Ent}

theorem freeze_same {w : World} {b k j : Nat} (h : j ≠ b) : (w.freeze ⟨b, k, none⟩ 1).heap[j]? = w.heap[j]? := by
  unfold World.freeze
  rw [if_neg (by decide)]
  simp only [Array.getElem?_modify]
  rw [if_neg (fun e => h e.symm)]
theorem freeze_at {w : World} {b k : Nat} {c : Array Value} {e : TypeId} (h : Blk w b c e) : (w.freeze ⟨b, k, none⟩ 1).heap[b]? = some (.cells c e (k, k + 1)) := by
  unfold World.freeze
  rw [if_neg (by decide)]
  simp only [Array.getElem?_modify]
  rw [if_pos trivial, show w.heap[b]? = some (.cells c e (0, 0)) from h]
  rfl
theorem freeze_size {w : World} {ad : Addr} : (w.freeze ad 1).heap.size = w.heap.size := by
  unfold World.freeze
  rw [if_neg (by decide)]
  simp
theorem run_convertB {w : World} {t e b m c : Nat} {C : Array Value} (h : Blk w b C e) (ht : P.underlying t = some (.slice e)) (he : P.underlying e = some (.int .u8)) :
    (convert t t (.slice (some ⟨b, 0, none⟩) m c)).run P w = .ok (.slice (some ⟨b, 0, none⟩) m c) (w.freeze ⟨b, C.size, none⟩ 1) := by
  have hsh : w.shape? b = some (e, C.size) := by
    unfold World.shape?
    rw [show w.heap[b]? = some (.cells C e (0, 0)) from h]
  simp [convert, run_underlying ht, run_underlying he, markStringish, hsh]
theorem st_convB {t e b : Nat} {C : Array Value} {m : Nat} {x : Operand} {bs : List UInt8} (S : SeesD ds n a L) (M : Mem w0 w H) (p : Nat) (hp : H[p]? = some (.blk b C e)) (hC : C.toList = bcells bs) (hm : bs.length = m) (hml : Nat.ble m 1000 = true) (ht : P.underlying t = some (.slice e)) (he : P.underlying e = some (.int .u8)) {ty : TypeId} {ps : String} {ed : Array Edge} {g : Option (Nat × Bool)}
    (hg : gd ops L ⟨some d, .convert t t x, ty, ps, ed, g⟩ = some true) (hn : Nat.blt d n = true) (hx : val L x = some (.slice (some ⟨b, 0, none⟩) m m))
    (k : ∀ a w', SeesD ds n a ((d, .slice (some ⟨b, 0, none⟩) m m) :: L) → Mem w0 w' (H.set p (.own b (b + 1) fun W => Bs b (b + 1) W (.slice (some ⟨b, 0, none⟩) m m) bs)) → wpList P ops Q rest a w') : wpList P ops Q (⟨some d, .convert t t x, ty, ps, ed, g⟩ :: rest) a w := by
  subst hm
  have hB := M.blk p hp
  refine st_w (v := .slice (some ⟨b, 0, none⟩) bs.length bs.length) (w' := w.freeze ⟨b, C.size, none⟩ 1) S hg rfl hn ?_ fun a S => k a _ S ?_
  · unfold execOp
    simp only [S.eval hx, Sem.run_bind, run_convertB hB ht he]
    rfl
  · refine M.change p hp rfl rfl (fun W' hs => ?_) freeze_size ?_ ?_ ?_ (fun j hj => freeze_same (fun e => hj (by subst e; exact ⟨Nat.le_refl _, Nat.lt_succ_self _⟩)))
    · have h1 : W'.heap[b]? = some (.cells C e (C.size, C.size + 1)) := (hs b (Nat.le_refl _) (Nat.lt_succ_self _)).trans (freeze_at hB)
      have hlen : bs.length ≤ maxLen := by
        have := Nat.le_of_ble_eq_true hml
        unfold maxLen; omega
      exact Rd.of_cells (fun j hj => by
        unfold World.cell?
        simp only [h1, Nat.zero_add, ← hC]
        simp) (by rw [bcells_length, Nat.mul_one]) (Nat.le_refl _) (Nat.lt_succ_self _) (Nat.le_refl _) hlen
    all_goals (unfold World.freeze; rw [if_neg (by decide)])

end Go.Proofs.Ytafejnbfgkkjkaa
