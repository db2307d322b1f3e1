/-
  Small laws of the walk that every later text uses: worlds that have grown, a region that draws its order while its callees make memory.
-/
import Derived.Test.YtcpobgjoicadjaaRows
import Derived.WalkKit
import Derived.WalkSpells
import Derived.WalkLawsBesides
import Derived.Lib.QuietBelow
import Derived.BigQuiet
import Derived.Lib.Hide
namespace Go.Proofs.Ytcpobgjoicadjaa
open Go.RowKit Go.Sort

theorem below_of_regrown {w w' : World} (h : ∃ p : Regrown, w' = grow (redrawn w p.d) p.os) : Below w.heap.size w w' := by
  obtain ⟨p, rfl⟩ := h
  exact below_regrown w p.d p.os

/-- a callee's contract met in a world of the class -/
theorem regrown_call {P : Program} {f : FuncId} {args : Array Value} {w : World} {v : Value}
    (h : ∀ W : World, Below w.heap.size w W → Calls P f args W fun e w' => e = .returned v ∧ Below W.heap.size W w') (d : Nat) (os : Array Obj) :
    Calls P f args (grow (redrawn w d) os) fun e w'' => e = .returned v ∧ ∃ p : Regrown, w'' = grow (redrawn w p.d) p.os :=
  Calls.regrown_of (h _ (below_regrown w d os))

theorem wpList_of_quiet {P : Program} {ops : Array Oper} {C : World → Prop} {Q : Act → Prop} {Q' : Exit → Act → World → Prop} (hQ : ∀ a w, C w → Q a → Q' .normal a w) : ∀ (l : List Oper) (a : Act) (w : World), C w → wpQuiet P ops C Q l a → wpList P ops Q' l a w
  | [], a, w, hw, h => hQ a w hw h
  | o :: l, a, w, hw, h => by
    unfold wpQuiet at h
    unfold wpList
    split
    · rename_i hwant
      rw [if_pos hwant] at h
      exact .inl (Oper.wp_of_quiet hw (fun a' w' hw' hK => wpList_of_quiet hQ l a' w' hw' hK) h)
    · rename_i hwant
      rw [if_neg hwant] at h
      exact wpList_of_quiet hQ l _ w hw h

/-- a region in the text's own order, quiet but for new blocks -/
theorem wp_seq_quiet_below {P : Program} {id : Nat} {Q : Exit → Act → World → Prop} {a : Act} {w : World} {l : List Oper}
    (h : wpQuiet P l.toArray (fun w' => ∃ p : Regrown, w' = grow (redrawn w p.d) p.os) (fun a' => ∀ w', (∃ p : Regrown, w' = grow (redrawn w p.d) p.os) → Q .normal a' w') l a) : (Code.region id l.toArray false).wp P Q a w :=
  wp_region_lit (wpList_of_quiet (fun _ w' hw' h => h w' hw') l a w ⟨⟨w.drawn, #[]⟩, by rw [grow_empty]; rfl⟩ h)

theorem ext_refl (w : World) : Below w.heap.size w w := Below.refl _ _
theorem ext_trans {w W W' : World} (h : Below w.heap.size w W) (k : Below W.heap.size W W') : Below w.heap.size w W' := h.trans (k.mono h.size)
theorem ext_alloc {w W : World} (h : Below w.heap.size w W) (o : Obj) : Below w.heap.size w (W.alloc o) := h.alloc h.size o
theorem ext_drew {w W : World} (h : Below w.heap.size w W) : Below w.heap.size w W.drew := h.drew
theorem ext_set {w W : World} (h : Below w.heap.size w W) (p : Addr) (hp : w.heap.size ≤ p.block) (u : Value) : Below w.heap.size w (W.setCell p u) := h.setCell hp u

/-- block b of the world is these cells, none frozen -/
def Blk (W : World) (b : Nat) (c : Array Value) (t : TypeId) : Prop := W.heap[b]? = some (.cells c t (0, 0))
theorem Blk.lt {W : World} {b : Nat} {c : Array Value} {t : TypeId} (h : Blk W b c t) : b < W.heap.size := (Array.getElem?_eq_some_iff.1 h).1
theorem Blk.new (W : World) (c : Array Value) (t : TypeId) : Blk (W.alloc (.cells c t)) W.heap.size c t := by show (W.heap.push _)[W.heap.size]? = _; rw [Array.getElem?_push, if_pos rfl]
theorem Blk.newAt (W : World) (c : Array Value) (t : TypeId) (n : Nat) (h : W.heap.size = n) : Blk (W.alloc (.cells c t)) n c t := h ▸ Blk.new W c t
theorem Blk.ext {W W' : World} {b : Nat} {c : Array Value} {t : TypeId} (h : Blk W b c t) (hb : Below W.heap.size W W') : Blk W' b c t := (hb.block b h.lt).trans h
theorem Blk.alloc {W : World} {b : Nat} {c : Array Value} {t : TypeId} (h : Blk W b c t) (o : Obj) : Blk (W.alloc o) b c t := h.ext (ext_alloc (ext_refl _) o)
theorem Blk.cells {W : World} {b : Nat} {c : Array Value} {t : TypeId} (h : Blk W b c t) : ∀ i, W.cell? ⟨b, i, none⟩ = c[i]? := fun i => by simp [World.cell?, show W.heap[b]? = _ from h]
theorem Blk.frz {W : World} {b : Nat} {c : Array Value} {t : TypeId} (h : Blk W b c t) : ∀ i, W.frozen? ⟨b, i, none⟩ = false := fun i => by simp [World.frozen?, show W.heap[b]? = _ from h]
theorem Blk.kept {W W' : World} {b : Nat} {c : Array Value} {t : TypeId} {row : Option Nat} (h : Blk W b c t) (hg : W.grownBy W' row) (hne : some b ≠ row) : Blk W' b c t := (hg.block b h.lt hne).trans h
theorem Blk.other {W : World} {b : Nat} {c : Array Value} {t : TypeId} (h : Blk W b c t) (p : Addr) (v : Value) (hp : b ≠ p.block) : Blk (W.setCell p v) b c t := (Below.heap_setCell W p v b hp).trans h

theorem Blk.set {W : World} {b : Nat} {c : Array Value} {t : TypeId} (h : Blk W b c t) (i : Nat) (v : Value) : Blk (W.setCell ⟨b, i, none⟩ v) b (c.setIfInBounds i v) t := by
  obtain ⟨hlt, hk⟩ := Array.getElem?_eq_some_iff.1 h
  show (W.heap.modify b _)[b]? = _
  rw [Array.getElem?_eq_getElem (by rw [Array.size_modify]; exact hlt), Array.getElem_modify_self, hk]
  rfl
theorem grownBy_set (W : World) (p : Addr) (v : Value) : W.grownBy (W.setCell p v) (some p.block) :=
  ⟨rfl, rfl, rfl, by simp [World.setCell], fun k _ hk => Below.heap_setCell _ _ _ k (fun e => hk (by rw [e]))⟩
theorem Blk.drew {W : World} {b : Nat} {c : Array Value} {t : TypeId} (h : Blk W b c t) : Blk W.drew b c t := h

/-- a rule for the walk: in every world in which block b is these cells, they read so -/
theorem Blk.rule (b : Nat) (c : Array Value) (t : TypeId) : ∀ (W : World) (i : Nat), Blk W b c t → W.cell? ⟨b, i, none⟩ = c[i]? := fun _ i h => h.cells i
theorem Blk.rulef (b : Nat) (c : Array Value) (t : TypeId) : ∀ (W : World) (i : Nat), Blk W b c t → W.frozen? ⟨b, i, none⟩ = false := fun _ i h => h.frz i

/-- a block lies as it lay -/
def SameBlk (b : Nat) (W W' : World) : Prop := W'.heap[b]? = W.heap[b]?
theorem SameBlk.refl (b : Nat) (W : World) : SameBlk b W W := rfl
theorem SameBlk.t {b : Nat} {A B C : World} (h : SameBlk b A B) (k : SameBlk b B C) : SameBlk b A C := Eq.trans k h
theorem SameBlk.cell {b : Nat} {A B : World} (h : SameBlk b A B) (i : Nat) : B.cell? ⟨b, i, none⟩ = A.cell? ⟨b, i, none⟩ := World.cell?_of_block h
theorem Blk.same {W W' : World} {b : Nat} {c : Array Value} {t : TypeId} (h : Blk W b c t) (hb : SameBlk b W W') : Blk W' b c t := Eq.trans hb h

theorem ownsRow_lt {W : World} {base g n cap size : Nat} {e : TypeId} {xs : List Value} (h : W.ownsRow base e size (.slice (some ⟨g, 0, none⟩) n cap) n xs) : g < W.heap.size := by
  rcases h.2 with ⟨h, _⟩ | ⟨g', cap', cur, h, _, hh, _⟩
  · cases h
  · cases h; exact (Array.getElem?_eq_some_iff.1 hh).1

theorem ownsRow_get {W : World} {base n : Nat} {e : TypeId} {v : Value} {xs : List Value} (h : W.ownsRow base e 1 v n xs) (hn : 0 < n) :
    ∃ g cap, v = .slice (some ⟨g, 0, none⟩) n cap ∧ base ≤ g ∧ g < W.heap.size ∧ n ≤ cap ∧ ∀ i, i < n → W.cell? ⟨g, i, none⟩ = xs[i]? := by
  rcases h.2 with ⟨_, h0⟩ | ⟨g, cap, cur, hv, hb, hh, hc, _, hs, ht⟩
  · omega
  · refine ⟨g, cap, hv, hb, (Array.getElem?_eq_some_iff.1 hh).1, hc, fun i hi => ?_⟩
    rw [← ht, List.getElem?_take_of_lt (by omega)]
    simp [World.cell?, hh]

theorem ret_bool {a b : Bool} (h : a = b) : Ending.returned (.bool a) = .returned (.bool b) := by rw [h]
theorem ret_int {k : IntKind} {a b : Int} (h : a = b) : Ending.returned (.int k a) = .returned (.int k b) := by rw [h]

end Go.Proofs.Ytcpobgjoicadjaa
