/-
  What JudgeNil rests on, part 1.
-/
import Derived.Test.YtdcgcgifgnaccaaGreatRows
import Derived.WalkKit
import Derived.WalkSpells
import Derived.WalkLawsBesides
import Derived.Lib.QuietBelow
import Derived.BigQuiet
import Derived.Lib.Hide
import Derived.StillTail
import Derived.Laws.MakeOwn
import Derived.Laws.OwnMore
import Derived.Laws.CopyRow
import Derived.Laws.IdiomStrings
import Derived.Great.BuildSlice
import Derived.Lib.SliceRun
import Derived.RangeFuncLeaves
import Derived.RangeFuncRecord
import Derived.RangeFuncSeq
import Derived.OrdersIn
import Derived.TacticsIn
import Derived.Maps.RangeRun
import Derived.Lib.Overlaps
import Derived.Lib.AppendZerosOnto
import Derived.ChangeKeysEq
import Derived.Lib.SlBytesConst
import Derived.Shelf.SlSortCmp.WholeK
import Derived.Shelf.SlSortCmp.NoneTotal
import Derived.ProofKit
import Derived.OpenShut
import Derived.JoinedCond
import Derived.Lib.SmallJoins
namespace Go.Proofs.YtdcgcgifgnaccaaGreat
open Go.RowKit Go.Sort
theorem ext_refl (w : World) : Below w.heap.size w w := Below.refl _ _
theorem ext_trans {w W W' : World} (h : Below w.heap.size w W) (k : Below W.heap.size W W') : Below w.heap.size w W' := h.trans (k.mono h.size)
theorem ext_alloc {w W : World} (h : Below w.heap.size w W) (o : Obj) : Below w.heap.size w (W.alloc o) := h.alloc h.size o
theorem ext_drew {w W : World} (h : Below w.heap.size w W) : Below w.heap.size w W.drew := h.drew
def Blk (W : World) (b : Nat) (c : Array Value) (t : TypeId) : Prop := W.heap[b]? = some (.cells c t (0, 0))
theorem Blk.lt {W : World} {b : Nat} {c : Array Value} {t : TypeId} (h : Blk W b c t) : b < W.heap.size := (Array.getElem?_eq_some_iff.1 h).1
theorem Blk.new (W : World) (c : Array Value) (t : TypeId) : Blk (W.alloc (.cells c t)) W.heap.size c t := by show (W.heap.push _)[W.heap.size]? = _; rw [Array.getElem?_push, if_pos rfl]
theorem Blk.ext {W W' : World} {b : Nat} {c : Array Value} {t : TypeId} (h : Blk W b c t) (hb : Below W.heap.size W W') : Blk W' b c t := (hb.block b h.lt).trans h
theorem Blk.cells {W : World} {b : Nat} {c : Array Value} {t : TypeId} (h : Blk W b c t) : ∀ i, W.cell? ⟨b, i, none⟩ = c[i]? := fun i => by simp [World.cell?, show W.heap[b]? = _ from h]
theorem Blk.frz {W : World} {b : Nat} {c : Array Value} {t : TypeId} (h : Blk W b c t) : ∀ i, W.frozen? ⟨b, i, none⟩ = false := fun i => by simp [World.frozen?, show W.heap[b]? = _ from h]
theorem Blk.set {W : World} {b : Nat} {c : Array Value} {t : TypeId} (h : Blk W b c t) (i : Nat) (v : Value) : Blk (W.setCell ⟨b, i, none⟩ v) b (c.setIfInBounds i v) t := by
 obtain ⟨hlt, hk⟩ := Array.getElem?_eq_some_iff.1 h
 show (W.heap.modify b _)[b]? = _
 rw [Array.getElem?_eq_getElem (by rw [Array.size_modify]; exact hlt), Array.getElem_modify_self, hk]
 rfl
def SameBlk (b : Nat) (W W' : World) : Prop := W'.heap[b]? = W.heap[b]?
theorem ret_bool {a b : Bool} (h : a = b) : Ending.returned (.bool a) = .returned (.bool b) := by rw [h]
end Go.Proofs.YtdcgcgifgnaccaaGreat
namespace Go.Proofs.YtdcgcgifgnaccaaGreat
open Go.RowKit Go.Sort
section
variable {P : Program} {ops : Array Oper} {md : Region.Mode} {C : World → Prop}
def headQ (P : Program) (md : Region.Mode) (ops : Array Oper) (C : World → Prop) (n : Nat) (L : Array Bool → Act → Prop) : Nat → Array Bool → Act → Prop
 | 0, listed, a => L listed a
 | f + 1, listed, a => Region.ready md ops listed ≠ [] ∧ ∀ i ∈ Region.ready md ops listed, i < n ∧ qOp P ops C i (headQ P md ops C n L f (listed.setIfInBounds i true)) a
end
end Go.Proofs.YtdcgcgifgnaccaaGreat
namespace Go.Proofs.YtdcgcgifgnaccaaGreat
open Go.RowKit Go.Sort
def look : List (Nat × Value) → Nat → Option Value
 | [], _ => none
 | (k, v) :: l, t => bif Nat.beq k t then some v else look l t
def val (L : List (Nat × Value)) : Operand → Option Value
 | .tmp t => look L t
 | .const v => some v
 | .global g => some (.pointer (some ⟨g, 0, none⟩))
 | .func f => some (.func (.func f) #[] #[])
def vals (L : List (Nat × Value)) : List Operand → Option (List Value)
 | [] => some []
 | x :: l => match val L x with
   | none => none
   | some v => match vals L l with
     | none => none
     | some vs => some (v :: vs)
structure SeesD (ds : List Deferred) (n : Nat) (a : Act) (L : List (Nat × Value)) : Prop where
 size : a.tmps.size = n
 defers : a.defers = ds
 at_ : ∀ t v, look L t = some v → t < n → a.tmps.getD t undef = v
 lt : ∀ t v, look L t = some v → t < n
abbrev Sees (n : Nat) (a : Act) (L : List (Nat × Value)) : Prop := SeesD [] n a L
variable {ds : List Deferred}
theorem SeesD.eval {n : Nat} {a : Act} {L : List (Nat × Value)} (S : SeesD ds n a L) {x : Operand} {v : Value} (h : val L x = some v) : a.eval x = v := by
 cases x with
 | tmp t => exact S.at_ t v h (S.lt t v h)
 | const c => exact Option.some.inj h
 | global g => exact Option.some.inj h
 | func f => exact Option.some.inj h
theorem SeesD.evals {n : Nat} {a : Act} {L : List (Nat × Value)} (S : SeesD ds n a L) : ∀ {xs : List Operand} {vs : List Value}, vals L xs = some vs → xs.map a.eval = vs
 | [], vs, h => by simpa [vals] using h
 | x :: xs, vs, h => by
   unfold vals at h
   cases hv : val L x with
   | none => simp [hv] at h
   | some v =>
     cases hr : vals L xs with
     | none => simp [hv, hr] at h
     | some r =>
       simp only [hv, hr, Option.some.injEq] at h
       rw [List.map_cons, S.eval hv, S.evals hr, h]
theorem SeesD.put {n : Nat} {a : Act} {L : List (Nat × Value)} (S : SeesD ds n a L) {d : Nat} (hd : Nat.blt d n = true) (v : Value) : SeesD ds n (a.put (some d) v) ((d, v) :: L) := by
 have hd' : d < n := Nat.le_of_ble_eq_true hd
 have hs : (a.put (some d) v).tmps.size = n := by simp [Act.put, S.size]
 have hlook : ∀ t u, look ((d, v) :: L) t = some u → (t = d ∧ u = v) ∨ (t ≠ d ∧ look L t = some u) := fun t u h => by
  unfold look at h
  cases hb : Nat.beq d t with
  | true => rw [hb] at h; exact .inl ⟨(Nat.eq_of_beq_eq_true hb).symm, (Option.some.inj h).symm⟩
  | false => rw [hb] at h; exact .inr ⟨fun e => Nat.ne_of_beq_eq_false hb e.symm, h⟩
 refine ⟨hs, S.defers, fun t u h hlt => ?_, fun t u h => ?_⟩
 ·rcases hlook t u h with ⟨rfl, rfl⟩ | ⟨hne, h'⟩
  ·simp [Act.put, Array.getD_eq_getD_getElem?, S.size, hd']
  ·have := S.at_ t u h' hlt
   rw [← this]
   simp [Act.put, Array.getD_eq_getD_getElem?, Array.getElem?_setIfInBounds, if_neg (fun e : d = t => hne e.symm)]
 ·rcases hlook t u h with ⟨rfl, _⟩ | ⟨_, h'⟩
  ·exact hd'
  ·exact S.lt t u h'
theorem SeesD.sub {n : Nat} {a : Act} {L : List (Nat × Value)} (S : SeesD ds n a L) (L' : List (Nat × Value)) (h : vals L (L'.map fun p => .tmp p.1) = some (L'.map (·.2))) : SeesD ds n a L' := by
 have key : ∀ (L' : List (Nat × Value)), vals L (L'.map fun p => .tmp p.1) = some (L'.map (·.2)) → ∀ t v, look L' t = some v → look L t = some v := by
  intro L'
  induction L' with
  | nil => intro _ t v ht; simp [look] at ht
  | cons p L' ih =>
    intro h t v ht
    obtain ⟨k, u⟩ := p
    simp only [List.map_cons, vals, val] at h
    cases hk : look L k with
    | none => simp [hk] at h
    | some u' =>
      rw [hk] at h
      cases hr : vals L (L'.map fun p => .tmp p.1) with
      | none => simp [hr] at h
      | some r =>
        rw [hr] at h
        simp only [Option.some.injEq, List.cons.injEq] at h
        obtain ⟨rfl, rfl⟩ := h
        unfold look at ht
        cases hb : Nat.beq k t with
        | true => rw [hb] at ht; rw [← Nat.eq_of_beq_eq_true hb, hk]; exact ht
        | false => rw [hb] at ht; exact ih hr t v ht
 exact ⟨S.size, S.defers, fun t v ht hlt => S.at_ t v (key L' h t v ht) hlt, fun t v ht => S.lt t v (key L' h t v ht)⟩
def argSlots : Nat → List Value → List (Nat × Value)
 | _, [] => []
 | k, v :: l => (k, v) :: argSlots (k + 1) l
theorem look_argSlots : ∀ (l : List Value) (k t : Nat) (v : Value), look (argSlots k l) t = some v → k ≤ t ∧ t < k + l.length ∧ l[t - k]? = some v
 | [], k, t, v, h => by simp [argSlots, look] at h
 | u :: l, k, t, v, h => by
   unfold argSlots look at h
   cases hb : Nat.beq k t with
   | true =>
     rw [hb] at h
     have : k = t := Nat.eq_of_beq_eq_true hb
     subst this
     simp only [cond_true, Option.some.injEq] at h
     subst h
     refine ⟨Nat.le_refl _, by simp, by simp⟩
   | false =>
     rw [hb] at h
     obtain ⟨h1, h2, h3⟩ := look_argSlots l (k + 1) t v h
     refine ⟨by omega, by simp; omega, ?_⟩
     rw [show t - k = (t - (k + 1)) + 1 by omega]
     simpa using h3
theorem calls_enter {P : Program} {f : FuncId} {fn : Func} {c : Code} {args : Array Value} {w : World} {R : Ending → World → Prop}
 (hf : P.funcs[f]? = some fn) (hb : fn.body = some c) (n : Nat) (hn : fn.ntmps = n) (hle : Nat.ble args.size n = true)
 (h : ∀ a, Sees n a (argSlots 0 args.toList) → c.wp P (bodyPost P fn R) a w) : Calls P f args w R := by
 refine calls_of_wp hf hb (h _ ?_)
 have hle' : args.size ≤ n := by simpa using hle
 refine ⟨by simp [hn]; omega, rfl, fun t v hv hlt => ?_, fun t v hv => ?_⟩
 ·obtain ⟨_, h2, h3⟩ := look_argSlots _ _ _ _ hv
  simp only [Nat.zero_add, Nat.sub_zero, Array.length_toList] at h2 h3
  simp only [Array.getD_eq_getD_getElem?]
  rw [Array.getElem?_append_left h2]
  simpa using by rw [← Array.getElem?_toList, h3]; rfl
 ·obtain ⟨_, h2, _⟩ := look_argSlots _ _ _ _ hv
  simp only [Nat.zero_add, Array.length_toList] at h2
  omega
inductive Ent where
 | blk (b : Nat) (c : Array Value) (t : TypeId)
 | own (lo hi : Nat) (φ : World → Prop)
def Ent.lo : Ent → Nat
 | .blk b _ _ => b
 | .own lo _ _ => lo
def Ent.hi : Ent → Nat
 | .blk b _ _ => b + 1
 | .own _ hi _ => hi
def SameOn (lo hi : Nat) (w w' : World) : Prop := ∀ k, lo ≤ k → k < hi → w'.heap[k]? = w.heap[k]?
def Ent.ok (w : World) : Ent → Prop
 | .blk b c t => Blk w b c t
 | .own lo hi φ => ∀ w', SameOn lo hi w w' → φ w'
def Ent.apart (e f : Ent) : Prop := e.hi ≤ f.lo ∨ f.hi ≤ e.lo
theorem Ent.ok_same {w w' : World} {e : Ent} (h : e.ok w) (hs : SameOn e.lo e.hi w w') : e.ok w' := by
 cases e with
 | blk b c t => exact (hs b (Nat.le_refl _) (Nat.lt_succ_self _)).trans h
 | own lo hi φ => exact fun w'' h'' => h w'' fun k h1 h2 => (h'' k h1 h2).trans (hs k h1 h2)
structure Mem (w0 w : World) (H : List Ent) : Prop where
 below : Below w0.heap.size w0 w
 ok : ∀ e ∈ H, e.ok w
 fits : ∀ e ∈ H, w0.heap.size ≤ e.lo ∧ e.hi ≤ w.heap.size
 apart : H.Pairwise Ent.apart
theorem Mem.start (w : World) : Mem w w [] := ⟨Below.refl _ _, fun _ h => (by cases h), fun _ h => (by cases h), .nil⟩
theorem SameOn.of_below {lo hi : Nat} {w w' : World} (h : Below w.heap.size w w') (hi' : hi ≤ w.heap.size) : SameOn lo hi w w' := fun k _ h2 => h.block k (Nat.lt_of_lt_of_le h2 hi')
theorem Mem.grow {w0 w w' : World} {H : List Ent} (M : Mem w0 w H) (h : Below w.heap.size w w') : Mem w0 w' H :=
 ⟨M.below.trans (h.mono M.below.size), fun e he => Ent.ok_same (M.ok e he) (.of_below h (M.fits e he).2), fun e he => ⟨(M.fits e he).1, Nat.le_trans (M.fits e he).2 h.size⟩, M.apart⟩
theorem Mem.push {w0 w w' : World} {H : List Ent} (M : Mem w0 w H) (h : Below w.heap.size w w') (e : Ent) (he : e.ok w') (h1 : w.heap.size ≤ e.lo) (h2 : e.hi ≤ w'.heap.size) : Mem w0 w' (e :: H) := by
 have M' := M.grow h
 refine ⟨M'.below, fun f hf => ?_, fun f hf => ?_, .cons (fun f hf => .inr (Nat.le_trans (M.fits f hf).2 h1)) M.apart⟩
 ·rcases List.mem_cons.1 hf with rfl | hf
  ·exact he
  ·exact M'.ok f hf
 ·rcases List.mem_cons.1 hf with rfl | hf
  ·exact ⟨Nat.le_trans M.below.size h1, h2⟩
  ·exact M'.fits f hf
theorem Mem.alloc {w0 w : World} {H : List Ent} (M : Mem w0 w H) (c : Array Value) (t : TypeId) : Mem w0 (w.alloc (.cells c t)) (.blk w.heap.size c t :: H) :=
 M.push (ext_alloc (ext_refl _) _) _ (Blk.new w c t) (Nat.le_refl _) (by simp [Ent.hi])
theorem Mem.drew {w0 w : World} {H : List Ent} (M : Mem w0 w H) : Mem w0 w.drew H := M.grow (ext_drew (ext_refl _))
theorem Mem.get {w0 w : World} {H : List Ent} (M : Mem w0 w H) {e : Ent} (p : Nat) (h : H[p]? = some e) : e.ok w := M.ok e (List.mem_of_getElem? h)
theorem Mem.blk {w0 w : World} {H : List Ent} (M : Mem w0 w H) {b : Nat} {c : Array Value} {t : TypeId} (p : Nat) (h : H[p]? = some (.blk b c t)) : Blk w b c t := M.get p h
theorem Mem.own {w0 w : World} {H : List Ent} (M : Mem w0 w H) {lo hi : Nat} {φ : World → Prop} (p : Nat) (h : H[p]? = some (.own lo hi φ)) : φ w := M.get p h w fun _ _ _ => rfl
theorem Mem.change {w0 w w' : World} {H : List Ent} (M : Mem w0 w H) {e e' : Ent} (p : Nat) (h : H[p]? = some e) (hlo : e'.lo = e.lo) (hhi : e'.hi = e.hi) (he : e'.ok w')
 (hsz : w'.heap.size = w.heap.size) (hos : w'.os = w.os) (htape : w'.tape = w.tape) (hout : w'.output = w.output) (hs : ∀ k, ¬ (e.lo ≤ k ∧ k < e.hi) → w'.heap[k]? = w.heap[k]?) : Mem w0 w' (H.set p e') := by
 have hmem := List.mem_of_getElem? h
 have hfit := M.fits e hmem
 have hb : Below w0.heap.size w w' := ⟨hos, htape, hout, by omega, fun k hk => hs k (by omega)⟩
 have hp : p < H.length := (List.getElem?_eq_some_iff.1 h).1
 have hpe : H[p] = e := (List.getElem?_eq_some_iff.1 h).2
 have hap : ∀ i j (hi : i < H.length) (hj : j < H.length), i ≠ j → Ent.apart H[i] H[j] := fun i j hi hj hne => by
  rcases Nat.lt_or_gt_of_ne hne with hlt | hlt
  ·exact List.pairwise_iff_getElem.1 M.apart i j hi hj hlt
  ·exact (List.pairwise_iff_getElem.1 M.apart j i hj hi hlt).symm
 have hget : ∀ i (hi : i < (H.set p e').length), (H.set p e')[i] = if p = i then e' else H[i]'(by simpa using hi) := fun i hi => List.getElem_set ..
 have other : ∀ f ∈ H.set p e', f = e' ∨ ∃ j, ∃ hj : j < H.length, j ≠ p ∧ f = H[j] := fun f hf => by
  obtain ⟨j, hj, rfl⟩ := List.getElem_of_mem hf
  rw [hget]
  by_cases hjp : p = j
  ·rw [if_pos hjp]; exact .inl rfl
  ·rw [if_neg hjp]; exact .inr ⟨j, by simpa using hj, fun e => hjp e.symm, rfl⟩
 refine ⟨M.below.trans hb, fun f hf => ?_, fun f hf => ?_, ?_⟩
 ·rcases other f hf with rfl | ⟨j, hj, hne, rfl⟩
  ·exact he
  ·refine Ent.ok_same (M.ok _ (List.getElem_mem hj)) fun k h1 h2 => hs k fun ⟨h3, h4⟩ => ?_
   have := hap j p hj hp hne
   rw [hpe] at this
   rcases this with h | h <;> omega
 ·rcases other f hf with rfl | ⟨j, hj, hne, rfl⟩
  ·rw [hlo, hhi, hsz]; exact hfit
  ·rw [hsz]; exact M.fits _ (List.getElem_mem hj)
 ·rw [List.pairwise_iff_getElem]
  intro i j hi hj hlt
  rw [hget, hget]
  have hi' : i < H.length := by simpa using hi
  have hj' : j < H.length := by simpa using hj
  have h0 := hap i j hi' hj' (by omega)
  by_cases h1 : p = i
  ·subst h1
   rw [if_pos rfl, if_neg (by omega)]
   unfold Ent.apart at *
   rw [hlo, hhi]; rw [hpe] at h0; exact h0
  ·rw [if_neg h1]
   by_cases h2 : p = j
   ·subst h2
    rw [if_pos rfl]
    unfold Ent.apart at *
    rw [hlo, hhi]; rw [hpe] at h0; exact h0
   ·rw [if_neg h2]; exact h0
theorem Mem.setCell {w0 w : World} {H : List Ent} (M : Mem w0 w H) {b : Nat} {c : Array Value} {t : TypeId} (p : Nat) (h : H[p]? = some (.blk b c t)) (i : Nat) (v : Value) :
 Mem w0 (w.setCell ⟨b, i, none⟩ v) (H.set p (.blk b (c.setIfInBounds i v) t)) :=
 M.change p h rfl rfl ((M.blk p h).set i v) (by simp [World.setCell]) rfl rfl rfl fun k hk => Below.heap_setCell w ⟨b, i, none⟩ v k (fun e => hk (by subst e; simp [Ent.lo, Ent.hi]))
theorem Mem.drop {w0 w : World} {H : List Ent} (M : Mem w0 w H) (p : Nat) : Mem w0 w (H.eraseIdx p) :=
 ⟨M.below, fun e he => M.ok e (List.mem_of_mem_eraseIdx he), fun e he => M.fits e (List.mem_of_mem_eraseIdx he), M.apart.sublist (List.eraseIdx_sublist ..)⟩
theorem Mem.sub {w0 w : World} {H H' : List Ent} (M : Mem w0 w H) (h : H'.Sublist H) : Mem w0 w H' :=
 ⟨M.below, fun e he => M.ok e (h.subset he), fun e he => M.fits e (h.subset he), M.apart.sublist h⟩
end Go.Proofs.YtdcgcgifgnaccaaGreat
namespace Go.Proofs.YtdcgcgifgnaccaaGreat
open Go.RowKit Go.Sort
variable {ds : List Deferred}
variable {P : Program} {ops : Array Oper} {Q : Exit → Act → World → Prop} {rest : List Oper} {n d : Nat} {a : Act} {L : List (Nat × Value)} {w : World} {v : Value} {o : Oper}
def gd (ops : Array Oper) (L : List (Nat × Value)) (o : Oper) : Option Bool :=
 match o.guard with
 | none => some true
 | some (j, want) => match ops[j]? with
   | none => none
   | some oj => match oj.dst with
     | none => none
     | some t => match look L t with
       | some (.bool b) => some (b == want)
       | some _ => some false
       | none => none
theorem gd_spec {b : Bool} (S : SeesD ds n a L) (h : gd ops L o = some b) : Region.wanted o (yielded ops a.tmps) = b := by
 unfold gd at h
 unfold Region.wanted
 cases hg : o.guard with
 | none => rw [hg] at h; exact Option.some.inj h
 | some p =>
   obtain ⟨j, want⟩ := p
   rw [hg] at h
   simp only at h ⊢
   cases hj : ops[j]? with
   | none => rw [hj] at h; cases h
   | some oj =>
     rw [hj] at h
     simp only at h
     cases ht : oj.dst with
     | none => rw [ht] at h; cases h
     | some t =>
       rw [ht] at h
       simp only at h
       have hy : ∀ c, look L t = some (.bool c) → yielded ops a.tmps j = some c := fun c hc => by
        have h1 := S.lt t _ hc
        have h2 := S.at_ t _ hc h1
        have h3 : t < a.tmps.size := by rw [S.size]; exact h1
        unfold yielded
        rw [hj]
        simp only [Option.bind_some, ht]
        rw [Array.getD_eq_getD_getElem?, Array.getElem?_eq_getElem h3] at h2
        rw [Array.getElem?_eq_getElem h3]
        simp only [Option.getD_some] at h2
        rw [h2]
       cases hl : look L t with
       | none => rw [hl] at h; cases h
       | some u =>
         rw [hl] at h
         have hn : (∀ c, u ≠ .bool c) → yielded ops a.tmps j = none := fun hu => by
          have h1 := S.lt t _ hl
          have h2 := S.at_ t _ hl h1
          have h3 : t < a.tmps.size := by rw [S.size]; exact h1
          unfold yielded
          rw [hj]
          simp only [Option.bind_some, ht]
          rw [Array.getD_eq_getD_getElem?, Array.getElem?_eq_getElem h3] at h2
          rw [Array.getElem?_eq_getElem h3]
          simp only [Option.getD_some] at h2
          rw [h2]
          cases u <;> first | rfl | exact absurd rfl (hu _)
         cases u with
         | bool c =>
           simp only [Option.some.injEq] at h
           rw [hy _ hl, ← h]
           cases c <;> cases want <;> rfl
         | _ =>
           simp only [Option.some.injEq] at h
           rw [hn (fun c hc => by cases hc), ← h]
           rfl
def Yields (P : Program) (a : Act) (o : Oper) (w : World) (v : Value) : Prop := (execOp a.eval o).run P w = .ok (.value v) w
theorem st_y (S : SeesD ds n a L) (hg : gd ops L o = some true) (hd : o.dst = some d) (hn : Nat.blt d n = true) (hy : Yields P a o w v) (k : ∀ a, SeesD ds n a ((d, v) :: L) → wpList P ops Q rest a w) : wpList P ops Q (o :: rest) a w := by
 unfold wpList
 rw [if_pos (gd_spec S hg)]
 refine .inl ?_
 unfold Oper.wp
 rw [show (execOp a.eval o).run P w = _ from hy, Oper.upon_value, hd]
 exact k _ (S.put hn v)
theorem st_w {w' : World} (S : SeesD ds n a L) (hg : gd ops L o = some true) (hd : o.dst = some d) (hn : Nat.blt d n = true) (hy : (execOp a.eval o).run P w = .ok (.value v) w') (k : ∀ a, SeesD ds n a ((d, v) :: L) → wpList P ops Q rest a w') : wpList P ops Q (o :: rest) a w := by
 unfold wpList
 rw [if_pos (gd_spec S hg)]
 refine .inl ?_
 unfold Oper.wp
 rw [hy, Oper.upon_value, hd]
 exact k _ (S.put hn v)
theorem st_s {w' : World} (S : SeesD ds n a L) (hg : gd ops L o = some true) (hd : o.dst = none) (hy : (execOp a.eval o).run P w = .ok .skip w') (k : wpList P ops Q rest a w') : wpList P ops Q (o :: rest) a w := by
 unfold wpList
 rw [if_pos (gd_spec S hg)]
 refine .inl ?_
 unfold Oper.wp
 rw [hy, Oper.upon_skip, hd]
 exact k
theorem st_no (S : SeesD ds n a L) (hg : gd ops L o = some false) (hd : o.dst = some d) (hn : Nat.blt d n = true) (k : ∀ a, SeesD ds n a ((d, undef) :: L) → wpList P ops Q rest a w) : wpList P ops Q (o :: rest) a w := by
 unfold wpList
 rw [if_neg (by rw [gd_spec S hg]; simp), hd]
 exact k _ (S.put hn undef)
theorem st_split {G : Prop} {b : Bool} {t : Nat} (S : SeesD ds n a L) (h : look L t = some (.bool b)) (k1 : b = true → SeesD ds n a ((t, .bool true) :: L) → G) (k2 : b = false → SeesD ds n a ((t, .bool false) :: L) → G) : G := by
 have key : ∀ c, b = c → SeesD ds n a ((t, .bool c) :: L) := fun c hc => by
  subst hc
  have hlt := S.lt t _ h
  have hl : ∀ t' u, look ((t, .bool b) :: L) t' = some u → look L t' = some u := fun t' u h' => by
   unfold look at h'
   cases hb : Nat.beq t t' with
   | true => rw [hb] at h'; rw [← Nat.eq_of_beq_eq_true hb, h]; exact h'
   | false => rw [hb] at h'; exact h'
  exact ⟨S.size, S.defers, fun t' u h' => S.at_ t' u (hl t' u h'), fun t' u h' => S.lt t' u (hl t' u h')⟩
 cases hb : b with
 | true => exact k1 hb (key true hb)
 | false => exact k2 hb (key false hb)
theorem st_condT {c : Operand} {x y : Code} (S : SeesD ds n a L) (h : val L c = some (.bool true)) (k : x.wp P Q a w) : (Code.cond c x y).wp P Q a w := wp_cond_true (S.eval h) k
theorem st_condF {c : Operand} {x y : Code} (S : SeesD ds n a L) (h : val L c = some (.bool false)) (k : y.wp P Q a w) : (Code.cond c x y).wp P Q a w := wp_cond_false (S.eval h) k
theorem y_move {x : Operand} (S : SeesD ds n a L) (hx : val L x = some v) {d : Option Tmp} {t : TypeId} {p : String} {e : Array Edge} {g : Option (Nat × Bool)} : Yields P a ⟨d, .move x, t, p, e, g⟩ w v := by
 unfold Yields execOp; simp only [S.eval hx]; rfl
theorem y_assign {x : Operand} (S : SeesD ds n a L) (hx : val L x = some v) {d : Option Tmp} {t : TypeId} {p : String} {e : Array Edge} {g : Option (Nat × Bool)} : Yields P a ⟨d, .assign x, t, p, e, g⟩ w v := by
 unfold Yields execOp; simp only [S.eval hx]; rfl
theorem y_pickT {c x y : Operand} (S : SeesD ds n a L) (hc : val L c = some (.bool true)) (hx : val L x = some v) {d : Option Tmp} {t : TypeId} {p : String} {e : Array Edge} {g : Option (Nat × Bool)} : Yields P a ⟨d, .pick c x y, t, p, e, g⟩ w v := by
 unfold Yields execOp; simp only [S.eval hc, S.eval hx]; rfl
theorem y_pickF {c x y : Operand} (S : SeesD ds n a L) (hc : val L c = some (.bool false)) (hx : val L y = some v) {d : Option Tmp} {t : TypeId} {p : String} {e : Array Edge} {g : Option (Nat × Bool)} : Yields P a ⟨d, .pick c x y, t, p, e, g⟩ w v := by
 unfold Yields execOp; simp only [S.eval hc, S.eval hx]; rfl
def intBin (op : BinOp) (k : IntKind) (x y : Int) : Option Value :=
 match op with
 | .add => some (.int k (k.wrap (x + y)))
 | .sub => some (.int k (k.wrap (x - y)))
 | .mul => some (.int k (k.wrap (x * y)))
 | .eql => some (.bool (x == y))
 | .neq => some (.bool (x != y))
 | .lss => some (.bool (decide (x < y)))
 | .leq => some (.bool (decide (x ≤ y)))
 | .gtr => some (.bool (decide (y < x)))
 | .geq => some (.bool (decide (y ≤ x)))
 | .and => some (.int k (k.wrap (BitVec.ofInt k.bits x &&& BitVec.ofInt k.bits y).toNat))
 | .or => some (.int k (k.wrap (BitVec.ofInt k.bits x ||| BitVec.ofInt k.bits y).toNat))
 | .xor => some (.int k (k.wrap (BitVec.ofInt k.bits x ^^^ BitVec.ofInt k.bits y).toNat))
 | _ => none
theorem y_int {x y : Operand} {op : BinOp} {k : IntKind} {i j : Int} (S : SeesD ds n a L) (hx : val L x = some (.int k i)) (hy : val L y = some (.int k j)) (hr : intBin op k i j = some v)
 {d : Option Tmp} {xt yt t : TypeId} {p : String} {e : Array Edge} {g : Option (Nat × Bool)} : Yields P a ⟨d, .binOp op xt x y yt, t, p, e, g⟩ w v := by
 unfold Yields execOp
 simp only [S.eval hx, S.eval hy]
 cases op <;> simp only [intBin, Option.some.injEq, reduceCtorEq] at hr <;> subst hr <;> simp [eqGuard, binOp, Op.intArith, Op.intCmp, Op.intBits, go_sem]
theorem y_addN {x y : Operand} {i j : Int} (S : SeesD ds n a L) (hx : val L x = some (.int .i64 i)) (hy : val L y = some (.int .i64 j)) (h : -9223372036854775808 ≤ i + j ∧ i + j ≤ 9223372036854775807)
 {d : Option Tmp} {xt yt t : TypeId} {p : String} {e : Array Edge} {g : Option (Nat × Bool)} : Yields P a ⟨d, .binOp .add xt x y yt, t, p, e, g⟩ w (.int .i64 (i + j)) := by
 refine y_int S hx hy ?_; simp only [intBin]; rw [IntWalk.i64_in _ h]
theorem y_subN {x y : Operand} {i j : Int} (S : SeesD ds n a L) (hx : val L x = some (.int .i64 i)) (hy : val L y = some (.int .i64 j)) (h : -9223372036854775808 ≤ i - j ∧ i - j ≤ 9223372036854775807)
 {d : Option Tmp} {xt yt t : TypeId} {p : String} {e : Array Edge} {g : Option (Nat × Bool)} : Yields P a ⟨d, .binOp .sub xt x y yt, t, p, e, g⟩ w (.int .i64 (i - j)) := by
 refine y_int S hx hy ?_; simp only [intBin]; rw [IntWalk.i64_in _ h]
theorem y_mulN {x y : Operand} {i j : Int} (S : SeesD ds n a L) (hx : val L x = some (.int .i64 i)) (hy : val L y = some (.int .i64 j)) (h : -9223372036854775808 ≤ i * j ∧ i * j ≤ 9223372036854775807)
 {d : Option Tmp} {xt yt t : TypeId} {p : String} {e : Array Edge} {g : Option (Nat × Bool)} : Yields P a ⟨d, .binOp .mul xt x y yt, t, p, e, g⟩ w (.int .i64 (i * j)) := by
 refine y_int S hx hy ?_; simp only [intBin]; rw [IntWalk.i64_in _ h]
theorem y_quoN {x y : Operand} {i j : Int} (S : SeesD ds n a L) (hx : val L x = some (.int .i64 i)) (hy : val L y = some (.int .i64 j)) (h : 0 ≤ i ∧ i ≤ 9223372036854775807 ∧ 0 < j)
 {d : Option Tmp} {xt yt t : TypeId} {p : String} {e : Array Edge} {g : Option (Nat × Bool)} : Yields P a ⟨d, .binOp .quo xt x y yt, t, p, e, g⟩ w (.int .i64 (i / j)) := by
 obtain ⟨h0, h1, h2⟩ := h
 have hne : j ≠ 0 := by omega
 have hq : i.tdiv j = i / j := Int.tdiv_eq_ediv_of_nonneg h0
 have hb : -9223372036854775808 ≤ i / j ∧ i / j ≤ 9223372036854775807 := by
  have := Int.ediv_nonneg h0 (Int.le_of_lt h2)
  have := Int.ediv_le_self j h0
  omega
 unfold Yields execOp
 simp only [S.eval hx, S.eval hy]
 simp [eqGuard, binOp, Op.intDiv, go_sem, hne, hq, IntWalk.i64_in _ hb]
theorem y_remN {x y : Operand} {i j : Int} (S : SeesD ds n a L) (hx : val L x = some (.int .i64 i)) (hy : val L y = some (.int .i64 j)) (h : 0 ≤ i ∧ 0 < j)
 {d : Option Tmp} {xt yt t : TypeId} {p : String} {e : Array Edge} {g : Option (Nat × Bool)} : Yields P a ⟨d, .binOp .rem xt x y yt, t, p, e, g⟩ w (.int .i64 (i % j)) := by
 obtain ⟨h0, h2⟩ := h
 have hne : j ≠ 0 := by omega
 have hq : i.tmod j = i % j := Int.tmod_eq_emod_of_nonneg h0
 unfold Yields execOp
 simp only [S.eval hx, S.eval hy]
 simp [eqGuard, binOp, Op.intDiv, go_sem, hne, hq]
theorem y_shr {x y : Operand} {k yk : IntKind} {i j : Int} (S : SeesD ds n a L) (hx : val L x = some (.int k i)) (hy : val L y = some (.int yk j)) (h : 0 ≤ j)
 {d : Option Tmp} {xt yt t : TypeId} {p : String} {e : Array Edge} {g : Option (Nat × Bool)} : Yields P a ⟨d, .binOp .shr xt x y yt, t, p, e, g⟩ w (.int k (i.fdiv (2 ^ (min j.toNat k.bits)))) := by
 unfold Yields execOp
 simp only [S.eval hx, S.eval hy]
 have : ¬ j < 0 := by omega
 simp [eqGuard, binOp, Op.shift, this, go_sem]
theorem y_shl {x y : Operand} {k yk : IntKind} {i j : Int} (S : SeesD ds n a L) (hx : val L x = some (.int k i)) (hy : val L y = some (.int yk j)) (h : 0 ≤ j)
 {d : Option Tmp} {xt yt t : TypeId} {p : String} {e : Array Edge} {g : Option (Nat × Bool)} : Yields P a ⟨d, .binOp .shl xt x y yt, t, p, e, g⟩ w (.int k (k.wrap (i * 2 ^ (min j.toNat k.bits)))) := by
 unfold Yields execOp
 simp only [S.eval hx, S.eval hy]
 have : ¬ j < 0 := by omega
 simp [eqGuard, binOp, Op.shift, this, go_sem]
theorem y_not {x : Operand} {b : Bool} (S : SeesD ds n a L) (hx : val L x = some (.bool b)) {d : Option Tmp} {xt t : TypeId} {p : String} {e : Array Edge} {g : Option (Nat × Bool)} : Yields P a ⟨d, .unOp .not xt x, t, p, e, g⟩ w (.bool (!b)) := by
 unfold Yields execOp; simp only [S.eval hx]; rfl
theorem y_compl {x : Operand} {i : Int} (S : SeesD ds n a L) (hx : val L x = some (.int .u32 i)) {d : Option Tmp} {xt t : TypeId} {p : String} {e : Array Edge} {g : Option (Nat × Bool)} :
 Yields P a ⟨d, .unOp .xor xt x, t, p, e, g⟩ w (.int .u32 (IntKind.u32.wrap (BitVec.ofInt 32 4294967295 ^^^ BitVec.ofInt 32 i).toNat)) := by
 unfold Yields execOp; simp only [S.eval hx]; rfl
def nthL : List Value → Nat → Option Value
 | [], _ => none
 | x :: _, 0 => some x
 | _ :: l, i + 1 => nthL l i
theorem nthL_eq : ∀ (l : List Value) (i : Nat), nthL l i = l[i]?
 | [], i => by simp [nthL]
 | x :: l, 0 => rfl
 | x :: l, i + 1 => by simp [nthL, nthL_eq l i]
theorem y_extract {x : Operand} {vs : Array Value} {i : Nat} (S : SeesD ds n a L) (hx : val L x = some (.tuple vs)) (hi : nthL vs.toList i = some v) {d : Option Tmp} {t : TypeId} {p : String} {e : Array Edge} {g : Option (Nat × Bool)} :
 Yields P a ⟨d, .extract x i, t, p, e, g⟩ w v := by
 rw [nthL_eq, Array.getElem?_toList] at hi; unfold Yields execOp; simp only [S.eval hx]; simp [Instr.extract, hi, go_sem]
theorem run_builtin {b : Builtin} {xs : List Operand} {vs : List Value} (S : SeesD ds n a L) (hx : vals L xs = some vs) {d : Option Tmp} {ts : Array TypeId} {t : TypeId} {p : String} {e : Array Edge} {g : Option (Nat × Bool)} :
 ∃ cs, (execOp a.eval ⟨d, .call { callee := .builtin b, args := xs.toArray, argTypes := ts }, t, p, e, g⟩).run P w = (builtin b ts t cs vs.toArray).run P w := by
 have h : xs.toArray.map a.eval = vs.toArray := by rw [← S.evals hx]; simp
 have h2 : (execOp a.eval ⟨d, .call { callee := .builtin b, args := xs.toArray, argTypes := ts }, t, p, e, g⟩).run P w = (builtin b ts t (xs.toArray.map fun | .const _ => true | _ => false) vs.toArray).run P w := by
  unfold execOp
  simp only [resolve, h, invoke, Sem.run_bind, Sem.run_pure, Result.andThen_ok]
  rfl
 exact ⟨_, h2⟩
theorem y_lenS {x : Operand} {ad : Option Addr} {l c : Nat} {T E : TypeId} (S : SeesD ds n a L) (hx : val L x = some (.slice ad l c)) (hU : P.underlying T = some (.slice E)) {d : Option Tmp} {t : TypeId} {p : String} {e : Array Edge} {g : Option (Nat × Bool)} :
 Yields P a ⟨d, .call { callee := .builtin .len, args := #[x], argTypes := #[T] }, t, p, e, g⟩ w (.int .i64 l) := by
 obtain ⟨cs, h⟩ := run_builtin (P := P) (w := w) (b := .len) (xs := [x]) (vs := [.slice ad l c]) S (by simp [vals, hx]) (d := d) (ts := #[T]) (t := t) (p := p) (e := e) (g := g)
 unfold Yields
 rw [h]
 simp [builtin, Builtin.len_, underlying, hU, go_sem]
theorem y_min {x y : Operand} {k : IntKind} {i j : Int} (S : SeesD ds n a L) (hx : val L x = some (.int k i)) (hy : val L y = some (.int k j)) {d : Option Tmp} {ts : Array TypeId} {t : TypeId} {p : String} {e : Array Edge} {g : Option (Nat × Bool)} :
 Yields P a ⟨d, .call { callee := .builtin .min, args := #[x, y], argTypes := ts }, t, p, e, g⟩ w (.int k (min i j)) := by
 obtain ⟨cs, h⟩ := run_builtin (P := P) (w := w) (b := .min) (xs := [x, y]) (vs := [.int k i, .int k j]) S (by simp [vals, hx, hy]) (d := d) (ts := ts) (t := t) (p := p) (e := e) (g := g)
 unfold Yields
 rw [h]
 have : (if j < i then j else i) = min i j := by omega
 simp [builtin, Builtin.min_, Builtin.min2, List.foldlM, go_sem, this]
theorem y_nilCheck {x : Operand} {ad : Addr} (S : SeesD ds n a L) (hx : val L x = some (.pointer (some ad))) {d : Option Tmp} {t : TypeId} {p : String} {e : Array Edge} {g : Option (Nat × Bool)} : Yields P a ⟨d, .nilCheck x, t, p, e, g⟩ w (.pointer (some ad)) := by
 unfold Yields execOp; simp only [S.eval hx]; rfl
end Go.Proofs.YtdcgcgifgnaccaaGreat
namespace Go.Proofs.YtdcgcgifgnaccaaGreat
open Go.RowKit Go.Sort
variable {ds : List Deferred}
variable {P : Program} {ops : Array Oper} {Q : Exit → Act → World → Prop} {rest : List Oper} {n d : Nat} {a : Act} {L : List (Nat × Value)} {w w0 : World} {v : Value} {o : Oper} {H : List Ent}
def fieldOff (P : Program) (s f : Nat) : Option Nat :=
 match P.underlying s with
 | some (.struct fs) => match fs[f]? with
   | some fl => match P.info? fl.type with
     | some i => if i.size = 0 then none else some fl.offset
     | none => none
   | none => none
 | _ => none
theorem addr_add (b o k : Nat) : (⟨b, o, none⟩ : Addr).add k = ⟨b, o + k, none⟩ := by
 unfold Addr.add; split
 ·rename_i h; subst h; rfl
 ·rfl
theorem y_fieldAddr {x : Operand} {b o k s f : Nat} (S : SeesD ds n a L) (hF : fieldOff P s f = some k) (hx : val L x = some (.pointer (some ⟨b, o, none⟩))) {d : Option Tmp} {t : TypeId} {p : String} {e : Array Edge} {g : Option (Nat × Bool)} :
 Yields P a ⟨d, .fieldAddr s x f, t, p, e, g⟩ w (.pointer (some ⟨b, o + k, none⟩)) := by
 unfold fieldOff at hF
 cases hu : P.underlying s with
 | none => simp [hu] at hF
 | some td =>
   rw [hu] at hF
   cases td <;> simp only [reduceCtorEq] at hF
   rename_i fs
   cases hf : fs[f]? with
   | none => simp [hf] at hF
   | some fl =>
     simp only [hf] at hF
     cases hi : P.info? fl.type with
     | none => simp [hi] at hF
     | some i =>
       simp only [hi] at hF
       split at hF
       ·cases hF
       ·rename_i hz
        cases hF
        unfold Yields execOp
        simp only [S.eval hx]
        simp [Instr.fieldAt, underlying, hu, hf, Instr.sureAddr, fieldPlace, sizeOf, typeInfo, hi, hz, addr_add, go_sem]
def sliceElem (P : Program) (t : TypeId) : Option (TypeId × Nat) :=
 match P.underlying t with
 | some (.slice e) => match P.info? e with
   | some i => some (e, i.size)
   | none => none
 | _ => none
theorem sliceElem_spec {t e sz : Nat} (h : sliceElem P t = some (e, sz)) : P.underlying t = some (.slice e) ∧ ∃ i, P.info? e = some i ∧ i.size = sz := by
 unfold sliceElem at h
 cases hu : P.underlying t with
 | none => simp [hu] at h
 | some td =>
   rw [hu] at h
   cases td <;> simp only [reduceCtorEq] at h
   rename_i e'
   cases hi : P.info? e' with
   | none => simp [hi] at h
   | some i => simp [hi] at h; obtain ⟨rfl, rfl⟩ := h; exact ⟨rfl, i, hi, rfl⟩
theorem y_indexS {x ix : Operand} {b o l c t e sz : Nat} {k : IntKind} {i : Int} (S : SeesD ds n a L) (hE : sliceElem P t = some (e, sz)) (hx : val L x = some (.slice (some ⟨b, o, none⟩) l c)) (hi : val L ix = some (.int k i)) (h : 0 ≤ i ∧ i < l)
 {d : Option Tmp} {ty : TypeId} {p : String} {ed : Array Edge} {g : Option (Nat × Bool)} : Yields P a ⟨d, .indexAddr t x ix, ty, p, ed, g⟩ w (.pointer (some ⟨b, o + i.toNat * sz, none⟩)) := by
 obtain ⟨hu, inf, hinf, rfl⟩ := sliceElem_spec hE
 unfold Yields execOp
 simp only [S.eval hx, S.eval hi]
 simp [Instr.indexAt, asIntOf, underlying, hu, sizeOf, typeInfo, hinf, h, addr_add, go_sem]
def arrayElem (P : Program) (t : TypeId) : Option (Nat × Nat) :=
 match P.underlying t with
 | some (.array m e) => match P.info? e with
   | some i => some (m, i.size)
   | none => none
 | _ => none
theorem arrayElem_spec {t m sz : Nat} (h : arrayElem P t = some (m, sz)) : ∃ e, P.underlying t = some (.array m e) ∧ ∃ i, P.info? e = some i ∧ i.size = sz := by
 unfold arrayElem at h
 cases hu : P.underlying t with
 | none => simp [hu] at h
 | some td =>
   rw [hu] at h
   cases td <;> simp only [reduceCtorEq] at h
   rename_i m' e'
   cases hi : P.info? e' with
   | none => simp [hi] at h
   | some i => simp [hi] at h; obtain ⟨rfl, rfl⟩ := h; exact ⟨e', rfl, i, hi, rfl⟩
theorem y_indexA {x ix : Operand} {b o t m sz : Nat} {k : IntKind} {i : Int} (S : SeesD ds n a L) (hE : arrayElem P t = some (m, sz)) (hx : val L x = some (.pointer (some ⟨b, o, none⟩))) (hi : val L ix = some (.int k i)) (h : 0 ≤ i ∧ i < m)
 {d : Option Tmp} {ty : TypeId} {p : String} {ed : Array Edge} {g : Option (Nat × Bool)} : Yields P a ⟨d, .indexAddr t x ix, ty, p, ed, g⟩ w (.pointer (some ⟨b, o + i.toNat * sz, none⟩)) := by
 obtain ⟨e, hu, inf, hinf, rfl⟩ := arrayElem_spec hE
 unfold Yields execOp
 simp only [S.eval hx, S.eval hi]
 simp [Instr.indexAt, asIntOf, underlying, hu, sizeOf, typeInfo, hinf, h, Instr.sureAddr, addr_add, go_sem]
def plainB (P : Program) (t : TypeId) : Bool :=
 match P.underlying t with
 | some (.struct _) | some (.array _ _) | none => false
 | _ => true
theorem run_isAgg_plain {t : TypeId} (h : plainB P t = true) : (isAgg t).run P w = .ok false w := by
 unfold plainB at h
 cases hu : P.underlying t with
 | none => simp [hu] at h
 | some td => rw [hu] at h; cases td <;> simp_all [isAgg, underlying, go_sem]
theorem y_load {x : Operand} {b o t : Nat} (S : SeesD ds n a L) (hT : plainB P t = true) (hx : val L x = some (.pointer (some ⟨b, o, none⟩))) (hc : w.cell? ⟨b, o, none⟩ = some v)
 {d : Option Tmp} {ty : TypeId} {p : String} {ed : Array Edge} {g : Option (Nat × Bool)} : Yields P a ⟨d, .load t x, ty, p, ed, g⟩ w v := by
 unfold Yields execOp
 simp only [S.eval hx]
 simp only [Instr.loadAt, Instr.sureAddr, loadVar, Sem.run_bind, Sem.run_pure, Result.andThen_ok, run_isAgg_plain hT]
 simp [load, hc, Sem.run, go_sem]
def aggB (P : Program) (t : TypeId) : Option Nat :=
 match P.underlying t with
 | some (.struct _) | some (.array _ _) => match P.info? t with
   | some i => some i.size
   | none => none
 | _ => none
theorem aggB_spec {t k : Nat} (h : aggB P t = some k) : (∀ w, (isAgg t).run P w = .ok true w) ∧ ∃ i, P.info? t = some i ∧ i.size = k := by
 unfold aggB at h
 cases hu : P.underlying t with
 | none => simp [hu] at h
 | some td =>
   rw [hu] at h
   cases td <;> simp only [reduceCtorEq] at h
   all_goals
    cases hi : P.info? t with
    | none => simp [hi] at h
    | some i => simp [hi] at h; exact ⟨fun w => by simp [isAgg, underlying, hu, go_sem], i, rfl, h⟩
theorem run_sizeOf {T : TypeId} {i : TypeInfo} (hi : P.info? T = some i) : (sizeOf T).run P w = .ok i.size w := by simp [sizeOf, typeInfo, hi, go_sem]
theorem loadCellsFrom_run {b o : Nat} : ∀ (cs : List Value) (i : Nat) (acc : Array Value), (∀ j, j < cs.length → w.cell? ⟨b, o + (i + j), none⟩ = cs[j]?) →
 (loadCellsFrom ⟨b, o, none⟩ i cs.length acc).run P w = .ok (acc ++ cs.toArray) w
 | [], i, acc, _ => by simp [loadCellsFrom, Sem.run_pure]
 | c :: cs, i, acc, h => by
   have h0 := h 0 (by simp)
   simp only [Nat.add_zero, List.getElem?_cons_zero] at h0
   have ih := loadCellsFrom_run cs (i + 1) (acc.push c) (fun j hj => by have := h (j + 1) (by simp; omega); rw [show o + (i + (j + 1)) = o + (i + 1 + j) by omega] at this; simpa using this)
   simp only [List.length_cons, loadCellsFrom, addr_add, Sem.run_bind]
   rw [show (load ⟨b, o + i, none⟩).run P w = .ok c w by simp [load, Sem.run, h0]]
   simp only [Result.andThen_ok]
   rw [ih]
   simp
def CellsAt (w : World) (b o : Nat) (cs : List Value) : Prop := ∀ j, j < cs.length → w.cell? ⟨b, o + j, none⟩ = cs[j]?
theorem y_loadAgg {x : Operand} {b o t k : Nat} {cs : List Value} (S : SeesD ds n a L) (hT : aggB P t = some k) (hx : val L x = some (.pointer (some ⟨b, o, none⟩))) (hk : cs.length = k) (hc : CellsAt w b o cs)
 {d : Option Tmp} {ty : TypeId} {p : String} {ed : Array Edge} {g : Option (Nat × Bool)} : Yields P a ⟨d, .load t x, ty, p, ed, g⟩ w (.agg cs.toArray) := by
 obtain ⟨h1, i, hi, hs⟩ := aggB_spec hT
 have hl := loadCellsFrom_run (P := P) (w := w) (b := b) (o := o) cs 0 #[] (fun j hj => by rw [Nat.zero_add]; exact hc j hj)
 unfold Yields execOp
 simp only [S.eval hx]
 rw [hk] at hl
 simp only [Instr.loadAt, Instr.sureAddr, loadVar, Sem.run_bind, Sem.run_pure, Result.andThen_ok, h1, if_true, run_sizeOf hi, hs, loadCells, hl]
 simp
def cutL : List Value → Nat → Nat → Option (List Value)
 | _, 0, 0 => some []
 | c :: l, 0, k + 1 => (cutL l 0 k).map (c :: ·)
 | _ :: l, o + 1, k => cutL l o k
 | [], _, _ => none
theorem cutL_spec : ∀ (l : List Value) (o k : Nat) (cs : List Value), cutL l o k = some cs → cs.length = k ∧ ∀ j, j < k → cs[j]? = l[o + j]?
 | l, 0, 0, cs, h => by cases l <;> simp [cutL] at h <;> subst h <;> simp
 | [], 0, k + 1, cs, h => by simp [cutL] at h
 | c :: l, 0, k + 1, cs, h => by
   simp only [cutL, Option.map_eq_some_iff] at h
   obtain ⟨r, hr, rfl⟩ := h
   obtain ⟨h1, h2⟩ := cutL_spec l 0 k r hr
   refine ⟨by simp [h1], fun j hj => ?_⟩
   cases j with
   | zero => simp
   | succ j => have := h2 j (by omega); simp only [Nat.zero_add] at this ⊢; simpa using this
 | c :: l, o + 1, k, cs, h => by
   simp only [cutL] at h
   obtain ⟨h1, h2⟩ := cutL_spec l o k cs h
   refine ⟨h1, fun j hj => ?_⟩
   rw [h2 j hj, show o + 1 + j = (o + j) + 1 by omega]; simp
 | [], o + 1, k, cs, h => by simp [cutL] at h
theorem Blk.cellsAt {b o k : Nat} {c : Array Value} {t : TypeId} {cs : List Value} (B : Blk w b c t) (h : cutL c.toList o k = some cs) : CellsAt w b o cs := fun j hj => by
 obtain ⟨h1, h2⟩ := cutL_spec _ _ _ _ h
 rw [B.cells, h2 j (by omega)]; simp
theorem Mem.cell {b i : Nat} {c : Array Value} {t : TypeId} (M : Mem w0 w H) (p : Nat) (h : H[p]? = some (.blk b c t)) (hc : c[i]? = some v) : w.cell? ⟨b, i, none⟩ = some v := by rw [(M.blk p h).cells]; exact hc
theorem Mem.cellsAt {b o k : Nat} {c : Array Value} {t : TypeId} {cs : List Value} (M : Mem w0 w H) (p : Nat) (h : H[p]? = some (.blk b c t)) (hc : cutL c.toList o k = some cs) : CellsAt w b o cs := (M.blk p h).cellsAt hc
theorem run_newVar (t : TypeId) (u : Value) : (newVar t u).run P w = .ok ⟨w.heap.size, 0, none⟩ (w.alloc (.cells u.cells t)) := by
 simp [newVar, newRow, go_sem]
theorem st_box {x : Operand} {T : TypeId} {u : Value} (S : SeesD ds n a L) (M : Mem w0 w H) {d : Nat} {t : TypeId} {p : String} {e : Array Edge} {g : Option (Nat × Bool)} (hg : gd ops L ⟨some d, .box T x, t, p, e, g⟩ = some true) (hn : Nat.blt d n = true) (hx : val L x = some u) (c : Array Value) (hc : u.cells = c)
 (k : ∀ a w' b, SeesD ds n a ((d, .pointer (some ⟨b, 0, none⟩)) :: L) → Mem w0 w' (.blk b c T :: H) → Below w.heap.size w w' → wpList P ops Q rest a w') : wpList P ops Q (⟨some d, .box T x, t, p, e, g⟩ :: rest) a w := by
 subst hc
 refine st_w (v := .pointer (some ⟨w.heap.size, 0, none⟩)) (w' := w.alloc (.cells u.cells T)) S hg rfl hn ?_ fun a S' => k a _ w.heap.size S' (M.alloc _ _) (ext_alloc (ext_refl _) _)
 unfold execOp
 simp only [S.eval hx, Instr.box, Sem.run_bind, run_newVar, Result.andThen_ok, Sem.run_pure]
def zeroC (P : Program) (t : TypeId) : Option (Array Value) :=
 match P.info? t with
 | some i => i.zero.map Value.cells
 | none => none
theorem st_alloc {T : TypeId} (S : SeesD ds n a L) (M : Mem w0 w H) {d : Nat} {t : TypeId} {p : String} {e : Array Edge} {g : Option (Nat × Bool)} (hg : gd ops L ⟨some d, .alloc T, t, p, e, g⟩ = some true) (hn : Nat.blt d n = true) (c : Array Value) (hc : zeroC P T = some c)
 (k : ∀ a w' b, SeesD ds n a ((d, .pointer (some ⟨b, 0, none⟩)) :: L) → Mem w0 w' (.blk b c T :: H) → Below w.heap.size w w' → wpList P ops Q rest a w') : wpList P ops Q (⟨some d, .alloc T, t, p, e, g⟩ :: rest) a w := by
 refine st_w (v := .pointer (some ⟨w.heap.size, 0, none⟩)) (w' := w.alloc (.cells c T)) S hg rfl hn ?_ fun a S' => k a _ w.heap.size S' (M.alloc _ _) (ext_alloc (ext_refl _) _)
 unfold zeroC at hc
 cases hi : P.info? T with
 | none => simp [hi] at hc
 | some i =>
   simp only [hi, Option.map_eq_some_iff] at hc
   obtain ⟨z, hz, rfl⟩ := hc
   unfold execOp
   simp [Instr.alloc, zeroValue, typeInfo, hi, hz, Sem.run_bind, run_newVar, go_sem]
def oneB : Value → Bool
 | .agg _ | .tuple _ => false
 | _ => true
theorem run_store {b o : Nat} {u : Value} (h1 : oneB u = true) (hc : ∃ x, w.cell? ⟨b, o, none⟩ = some x) (hf : w.frozen? ⟨b, o, none⟩ = false) {β : Type} (k : Sem β) :
 (Sem.store .plain ⟨b, o, none⟩ u k).run P w = k.run P (w.setCell ⟨b, o, none⟩ u) := by
 obtain ⟨x, hx⟩ := hc
 cases u <;> simp_all [Sem.run, oneB]
def putL : List Value → Nat → List Value → List Value
 | l, _, [] => l
 | l, o, u :: us => putL (l.set o u) (o + 1) us
def allOne : List Value → Bool
 | [] => true
 | u :: us => oneB u && allOne us
theorem putL_length : ∀ (us : List Value) (l : List Value) (o : Nat), (putL l o us).length = l.length
 | [], l, o => rfl
 | u :: us, l, o => by rw [putL, putL_length us]; simp
theorem storeCells_run {b o : Nat} {T : TypeId} : ∀ (us : List Value) (i : Nat) (l : List Value) (w : World) (H : List Ent) (pos : Nat), Mem w0 w H → H[pos]? = some (.blk b l.toArray T) → allOne us = true → o + i + us.length ≤ l.length →
 ∃ w', (storeCells ⟨b, o, none⟩ us i).run P w = .ok () w' ∧ Mem w0 w' (H.set pos (.blk b (putL l (o + i) us).toArray T))
 | [], i, l, w, H, pos, M, hp, _, _ => ⟨w, by simp [storeCells, Sem.run_pure], by
    rw [show H.set pos (.blk b (putL l (o + i) []).toArray T) = H from ?_]
    ·exact M
    ·obtain ⟨h1, h2⟩ := List.getElem?_eq_some_iff.1 hp
     show H.set pos (.blk b l.toArray T) = H
     rw [← h2, List.set_getElem_self]⟩
 | u :: us, i, l, w, H, pos, M, hp, h1, hle => by
   simp only [allOne, Bool.and_eq_true] at h1
   simp only [List.length_cons] at hle
   have B := M.blk pos hp
   have hlt : pos < H.length := (List.getElem?_eq_some_iff.1 hp).1
   have hcell : ∃ x, w.cell? ⟨b, o + i, none⟩ = some x := ⟨l[o + i]'(by omega), by rw [B.cells]; simp⟩
   have M1 := M.setCell pos hp (o + i) u
   obtain ⟨w', hr, M2⟩ := storeCells_run (b := b) (o := o) (T := T) us (i + 1) (l.set (o + i) u) (w.setCell ⟨b, o + i, none⟩ u) (H.set pos (.blk b (l.toArray.setIfInBounds (o + i) u) T)) pos M1 (by simp [hlt]) h1.2 (by simp; omega)
   refine ⟨w', ?_, ?_⟩
   ·simp only [storeCells, addr_add, Sem.run_bind]
    rw [show (store ⟨b, o + i, none⟩ u).run P w = .ok () (w.setCell ⟨b, o + i, none⟩ u) from run_store h1.1 hcell (B.frz _) _]
    exact hr
   ·simpa [putL, Nat.add_assoc] using M2
theorem st_store {x y : Operand} {T : TypeId} {u : Value} {b o sz : Nat} {l us : List Value} {BT : TypeId} (S : SeesD ds n a L) (M : Mem w0 w H) (pos : Nat) {t : TypeId} {p : String} {e : Array Edge} {g : Option (Nat × Bool)} (hg : gd ops L ⟨none, .store T x y, t, p, e, g⟩ = some true)
 (hT : (P.info? T).map (·.size) = some sz) (hx : val L x = some (.pointer (some ⟨b, o, none⟩))) (hy : val L y = some u) (hu : u.cells.toList = us) (hsz : us.length = sz) (h1 : allOne us = true) (hp : H[pos]? = some (.blk b l.toArray BT)) (hle : o + us.length ≤ l.length)
 (k : ∀ w, Mem w0 w (H.set pos (.blk b (putL l o us).toArray BT)) → wpList P ops Q rest a w) : wpList P ops Q (⟨none, .store T x y, t, p, e, g⟩ :: rest) a w := by
 obtain ⟨w', hr, M'⟩ := storeCells_run (P := P) us 0 l w H pos M hp h1 (by omega)
 refine st_s (w' := w') S hg rfl ?_ (k w' M')
 cases hi : P.info? T with
 | none => simp [hi] at hT
 | some inf =>
   have hs : inf.size = sz := by simpa [hi] using hT
   have hs' : u.cells.size = inf.size := by rw [hs, ← hsz, ← hu]; simp
   unfold execOp
   simp only [S.eval hx, S.eval hy, Instr.storeAt, Instr.sureAddr, storeVar, Sem.run_bind, Sem.run_pure, Result.andThen_ok, run_sizeOf hi, hs', ne_eq, not_true, if_false, hu, hr]
def Enters (P : Program) (f : FuncId) : Prop := ∀ (args : Array Value) (w : World), (callFunc f args).run P w = .ok (.enter f args) w
theorem enters_of {f : FuncId} {fn : Func} (hf : P.funcs[f]? = some fn) (h1 : (fn.name == "runtime.NumGoroutine") = false) (h2 : fn.body.isNone = false) : Enters P f := fun args w => by
 show (Sem.run P (match P.funcs[f]? with | none => _ | some fn => _) w) = _
 rw [hf]
 simp only [h1, h2, Bool.false_eq_true, if_false]
 rfl
theorem run_call {f : FuncId} {xs : List Operand} {vs : List Value} (hE : Enters P f) (S : SeesD ds n a L) (hx : vals L xs = some vs) {d : Option Tmp} {ts : Array TypeId} {t : TypeId} {p : String} {e : Array Edge} {g : Option (Nat × Bool)} :
 (execOp a.eval ⟨d, .call { callee := .value (.func f), args := xs.toArray, argTypes := ts }, t, p, e, g⟩).run P w = .ok (.enter f vs.toArray) w := by
 have h : xs.toArray.map a.eval = vs.toArray := by rw [← S.evals hx]; simp
 unfold execOp
 simp only [resolve, h, Act.eval, Deferred.ofValue, Sem.run_bind, Sem.run_pure, Result.andThen_ok, invoke, Array.append_empty, Array.empty_append]
 exact hE _ _
theorem st_call {f : FuncId} {xs : List Operand} {vs : List Value} {R : Ending → World → Prop} (S : SeesD ds n a L) {d : Nat} {ts : Array TypeId} {t : TypeId} {p : String} {e : Array Edge} {g : Option (Nat × Bool)}
 (hE : Enters P f) (hg : gd ops L ⟨some d, .call { callee := .value (.func f), args := xs.toArray, argTypes := ts }, t, p, e, g⟩ = some true) (hn : Nat.blt d n = true) (hx : vals L xs = some vs) (hC : Calls P f vs.toArray w R)
 (k : ∀ e w', R e w' → ∃ v, e = .returned v ∧ ∀ a, SeesD ds n a ((d, v) :: L) → wpList P ops Q rest a w') : wpList P ops Q (⟨some d, .call { callee := .value (.func f), args := xs.toArray, argTypes := ts }, t, p, e, g⟩ :: rest) a w := by
 unfold wpList
 rw [if_pos (gd_spec S hg)]
 refine .inl ?_
 unfold Oper.wp
 rw [run_call hE S hx, Oper.upon_enter]
 refine hC.mono fun e w' hR => ?_
 obtain ⟨v, rfl, hk⟩ := k e w' hR
 exact hk _ (S.put hn v)
theorem then_normal {next : Act → World → Prop} (h : next a w) : Exit.then next Q .normal a w := h
theorem then_exit {next : Act → World → Prop} {i : Nat} (h : Q (.exit i) a w) : Exit.then next Q (.exit i) a w := h
theorem then_ret {next : Act → World → Prop} (h : Q .ret a w) : Exit.then next Q .ret a w := h
theorem block_normal {i : Nat} (h : Q .normal a w) : Exit.inBlock i Q .normal a w := h
theorem block_ret {i : Nat} (h : Q .ret a w) : Exit.inBlock i Q .ret a w := h
theorem block_hit {i : Nat} (h : Q .normal a w) : Exit.inBlock i Q (.exit i) a w := by simp only [Exit.inBlock, if_true]; exact h
theorem block_miss {i j : Nat} (hne : Nat.beq j i = false) (h : Q (.exit j) a w) : Exit.inBlock i Q (.exit j) a w := by
 simp only [Exit.inBlock]; rw [if_neg (Nat.ne_of_beq_eq_false hne)]; exact h
theorem wp_cut {x y : Code} (I : Act → World → Prop) (h1 : x.wp P (Exit.then I Q) a w) (h2 : ∀ a w, I a w → y.wp P Q a w) : (Code.seq x y).wp P Q a w :=
 wp_seq (wp_mono h1 fun e a w h => by cases e <;> first | exact h2 a w h | exact h)
def resVals (L : List (Nat × Value)) (rs : List Nat) : Option (List Value) := vals L (rs.map .tmp)
end Go.Proofs.YtdcgcgifgnaccaaGreat
namespace Go.Proofs.YtdcgcgifgnaccaaGreat
open Go.RowKit Go.Sort
variable {ds : List Deferred}
variable {P : Program} {ops : Array Oper} {Q : Exit → Act → World → Prop} {rest : List Oper} {n d : Nat} {a : Act} {L : List (Nat × Value)} {w w0 : World} {v : Value} {o : Oper} {H : List Ent}
theorem nrmA {b : Bool} (h : (!b) = true) : b = false := by simpa using h
theorem nrmB {b : Bool} (h : (!b) = false) : b = true := by simpa using h
theorem nrm1 {x y : Int} (h : decide (x < y) = false) : y ≤ x := Int.not_lt.1 (of_decide_eq_false h)
theorem nrm2 {x y : Int} (h : decide (x ≤ y) = false) : y < x := Int.not_le.1 (of_decide_eq_false h)
theorem nrm3 {x y : Int} (h : (x == y) = true) : x = y := by simpa using h
theorem nrm4 {x y : Int} (h : (x == y) = false) : x ≠ y := by simpa using h
theorem nrm5 {x y : Int} (h : (x != y) = true) : x ≠ y := by simpa using h
theorem nrm6 {x y : Int} (h : (x != y) = false) : x = y := by simpa using h
theorem qt_y {C : World → Prop} {Q : Act → Prop} (S : SeesD ds n a L) (hg : gd ops L o = some true) (hd : o.dst = some d) (hn : Nat.blt d n = true) (hy : ∀ w, C w → Yields P a o w v) (k : ∀ a, SeesD ds n a ((d, v) :: L) → wpQuiet P ops C Q rest a) : wpQuiet P ops C Q (o :: rest) a := by
 unfold wpQuiet
 rw [if_pos (gd_spec S hg)]
 refine ⟨v, fun w hw => ?_, ?_⟩
 ·unfold Oper.quietAt
  rw [show (execOp a.eval o).run P w = _ from hy w hw]
  exact ⟨rfl, rfl⟩
 ·rw [hd]; exact k _ (S.put hn v)
theorem qt_no {C : World → Prop} {Q : Act → Prop} (S : SeesD ds n a L) (hg : gd ops L o = some false) (hd : o.dst = some d) (hn : Nat.blt d n = true) (k : ∀ a, SeesD ds n a ((d, undef) :: L) → wpQuiet P ops C Q rest a) : wpQuiet P ops C Q (o :: rest) a := by
 unfold wpQuiet
 rw [if_neg (by rw [gd_spec S hg]; simp), hd]
 exact k _ (S.put hn undef)
theorem qt_call {C : World → Prop} {Q : Act → Prop} {f : FuncId} {xs : List Operand} {vs : List Value} (S : SeesD ds n a L) {d : Nat} {ts : Array TypeId} {t : TypeId} {p : String} {e : Array Edge} {g : Option (Nat × Bool)}
 (hE : Enters P f) (hg : gd ops L ⟨some d, .call { callee := .value (.func f), args := xs.toArray, argTypes := ts }, t, p, e, g⟩ = some true) (hn : Nat.blt d n = true) (hx : vals L xs = some vs)
 (hC : ∀ w, C w → Calls P f vs.toArray w fun e w' => e = .returned v ∧ C w')
 (k : ∀ a, SeesD ds n a ((d, v) :: L) → wpQuiet P ops C Q rest a) : wpQuiet P ops C Q (⟨some d, .call { callee := .value (.func f), args := xs.toArray, argTypes := ts }, t, p, e, g⟩ :: rest) a := by
 unfold wpQuiet
 rw [if_pos (gd_spec S hg)]
 refine ⟨v, fun w hw => ?_, k _ (S.put hn v)⟩
 unfold Oper.quietAt
 rw [run_call hE S hx]
 exact ⟨rfl, hC w hw⟩
theorem quiet_of {f : FuncId} {args : Array Value} {v : Value} (h : ∀ w, Mem w0 w H → Calls P f args w fun e w' => e = .returned v ∧ Below w.heap.size w w') : ∀ w, Mem w0 w H → Calls P f args w fun e w' => e = .returned v ∧ Mem w0 w' H :=
 fun w M => (h w M).mono fun _ _ hh => ⟨hh.1, M.grow hh.2⟩
theorem wp_quiet {id : Nat} {l : List Oper} (M : Mem w0 w H) (hm : P.follows .mixedOrders = true) (hB : Region.lexB .any l.toArray = true)
 (h : wpQuiet P l.toArray (fun w' => Mem w0 w' H) (fun a' => ∀ w', Mem w0 w' H → Q .normal a' w') l a) : (Code.region id l.toArray true).wp P Q a w :=
 wp_region_quiet (C := fun w' => Mem w0 w' H) hm hB M.drew (by simpa using h)
def placesOf (P : Program) (fs : Array Field) : Option (List (Nat × Nat)) :=
 fs.toList.mapM fun f => match P.info? f.type with | some i => some (f.offset, i.size) | none => none
def buildInfo (P : Program) (t : TypeId) : Option (List (Nat × Nat) × List Value) :=
 match P.info? t with
 | some i => match i.zero with
   | some z => match P.underlying t with
     | some (.struct fs) => match placesOf P fs with
       | some ps => some (ps, z.cells.toList)
       | none => none
     | _ => none
   | none => none
 | none => none
def fillL (pl : Nat → Option (Nat × Nat)) : List Value → List (Nat × Value) → Option (List Value)
 | l, [] => some l
 | l, (i, u) :: r => match pl i with
   | none => none
   | some (off, sz) => bif Nat.beq u.cells.toList.length sz && Nat.ble (off + sz) l.length then fillL pl (putL l off u.cells.toList) r else none
theorem putL_foldl : ∀ (us : List Value) (l : List Value) (off j : Nat), ((us.zipIdx j).foldl (fun cs p => cs.setIfInBounds (off + p.2) p.1) l.toArray) = (putL l (off + j) us).toArray
 | [], l, off, j => rfl
 | u :: us, l, off, j => by
   simp only [List.zipIdx_cons, List.foldl_cons, List.setIfInBounds_toArray]
   rw [putL_foldl us]
   rfl
theorem fill_of_fillL {pl : Nat → Option (Nat × Nat)} : ∀ (r : List (Nat × Value)) (l cs : List Value), fillL pl l r = some cs → Instr.fill pl l.toArray r = some cs.toArray
 | [], l, cs, h => by simp only [fillL, Option.some.injEq] at h; subst h; rfl
 | (i, u) :: r, l, cs, h => by
   unfold fillL at h
   unfold Instr.fill
   cases hp : pl i with
   | none => rw [hp] at h; cases h
   | some q =>
     obtain ⟨off, sz⟩ := q
     rw [hp] at h
     simp only at h ⊢
     cases hb : (Nat.beq u.cells.toList.length sz && Nat.ble (off + sz) l.length) with
     | false => rw [hb] at h; cases h
     | true =>
       rw [hb] at h
       simp only [Bool.and_eq_true] at hb
       have h1 : u.cells.size = sz := by have := Nat.eq_of_beq_eq_true hb.1; simpa using this
       have h2 := Nat.le_of_ble_eq_true hb.2
       rw [if_neg (by simp [h1]; omega)]
       have := fill_of_fillL (pl := pl) r _ cs h
       rw [← this]
       congr 1
       have e := putL_foldl u.cells.toList l off 0
       simp only [Nat.add_zero] at e
       rw [← e, ← Array.foldl_toList]
       simp
theorem run_places {fs : Array Field} {ps : List (Nat × Nat)} (h : placesOf P fs = some ps) : (fs.mapM fun f : Field => (do pure (f.offset, ← sizeOf f.type) : Sem (Nat × Nat))).run P w = .ok ps.toArray w := by
 obtain ⟨l⟩ := fs
 unfold placesOf at h
 simp only at h
 rw [List.mapM_toArray]
 have key : ∀ (l : List Field) (ps : List (Nat × Nat)), l.mapM (fun f => match P.info? f.type with | some i => some (f.offset, i.size) | none => none) = some ps →
  (l.mapM fun f : Field => (do pure (f.offset, ← sizeOf f.type) : Sem (Nat × Nat))).run P w = .ok ps w := by
  intro l
  induction l with
  | nil => intro ps h; simp at h; subst h; rfl
  | cons f l ih =>
    intro ps h
    rw [List.mapM_cons] at h
    cases hi : P.info? f.type with
    | none => simp [hi] at h
    | some i =>
      simp only [hi, Option.bind_eq_bind, Option.bind_some] at h
      cases hr : l.mapM (fun f => match P.info? f.type with | some i => some (f.offset, i.size) | none => none) with
      | none => rw [hr] at h; simp at h
      | some r =>
        rw [hr] at h
        simp only [Option.bind_some, Option.pure_def, Option.some.injEq] at h
        subst h
        rw [List.mapM_cons]
        simp only [Sem.run_bind, run_sizeOf hi, Result.andThen_ok, Sem.run_pure, ih r hr]
 have := key l ps h
 show (Sem.bind (l.mapM fun f : Field => (do pure (f.offset, ← sizeOf f.type) : Sem (Nat × Nat))) (fun x => Sem.pure x.toArray)).run P w = _
 rw [show ∀ (x : Sem (List (Nat × Nat))) (k : List (Nat × Nat) → Sem (Array (Nat × Nat))), (Sem.bind x k).run P w = (x.run P w).andThen fun y w' => (k y).run P w' from fun x k => Sem.run_bind .., this]
 rfl
theorem zip_eval (f : Operand → Value) : ∀ ps : List (Nat × Operand), ps.map (fun x => (x.1, f x.2)) = (ps.map (·.1)).zip ((ps.map (·.2)).map f)
 | [] => rfl
 | q :: ps => by simp only [List.map_cons, List.zip_cons_cons, zip_eval f ps]
theorem y_build {T : TypeId} {ps : List (Nat × Operand)} {pl : List (Nat × Nat)} {z vs cs : List Value} (S : SeesD ds n a L) (hB : buildInfo P T = some (pl, z)) (hv : vals L (ps.map (·.2)) = some vs) (hf : fillL (fun i => pl[i]?) z ((ps.map (·.1)).zip vs) = some cs)
 {d : Option Tmp} {t : TypeId} {p : String} {e : Array Edge} {g : Option (Nat × Bool)} : Yields P a ⟨d, .build T ps.toArray, t, p, e, g⟩ w (.agg cs.toArray) := by
 unfold buildInfo at hB
 cases hi : P.info? T with
 | none => simp [hi] at hB
 | some i =>
   simp only [hi] at hB
   cases hz : i.zero with
   | none => simp [hz] at hB
   | some zv =>
     simp only [hz] at hB
     cases hu : P.underlying T with
     | none => simp [hu] at hB
     | some td =>
       rw [hu] at hB
       cases td <;> simp only [reduceCtorEq] at hB
       rename_i fs
       cases hpl : placesOf P fs with
       | none => simp [hpl] at hB
       | some pl' =>
         simp only [hpl, Option.some.injEq, Prod.mk.injEq] at hB
         obtain ⟨rfl, rfl⟩ := hB
         have hparts : (ps.toArray.map fun (x : Nat × Operand) => (x.1, a.eval x.2)).toList = (ps.map (·.1)).zip vs := by
          rw [← S.evals hv, ← zip_eval a.eval ps]; simp
         have hfill := fill_of_fillL _ _ _ hf
         unfold Yields execOp
         simp only [Instr.build, Sem.run_bind]
         rw [show (zeroValue T).run P w = .ok zv w by simp [zeroValue, typeInfo, hi, hz, go_sem]]
         simp only [Result.andThen_ok]
         rw [show (underlying T).run P w = .ok (.struct fs) w by simp [underlying, hu, go_sem]]
         simp only [Result.andThen_ok, Sem.run_bind, run_places hpl]
         rw [show (fun x : Nat => pl'.toArray[x]?) = (fun x => pl'[x]?) from funext fun x => by simp, hparts]
         rw [Array.toArray_toList] at hfill
         rw [hfill]
         rfl
theorem y_conv {x : Operand} {k k' : IntKind} {i : Int} {src dst : TypeId} (S : SeesD ds n a L) (hx : val L x = some (.int k i)) (hs : (P.underlying src).isSome = true) (hd : P.underlying dst = some (.int k')) {d : Option Tmp} {t : TypeId} {p : String} {e : Array Edge} {g : Option (Nat × Bool)} :
 Yields P a ⟨d, .convert src dst x, t, p, e, g⟩ w (.int k' (k'.wrap i)) := by
 obtain ⟨td, htd⟩ := Option.isSome_iff_exists.1 hs
 unfold Yields execOp
 simp only [S.eval hx, convert, Sem.run_bind]
 rw [show (underlying src).run P w = .ok td w by simp [underlying, htd, go_sem]]
 simp only [Result.andThen_ok, Sem.run_bind]
 rw [show (underlying dst).run P w = .ok (.int k') w by simp [underlying, hd, go_sem]]
 rfl
def subA (a : Option Addr) (l m sz : Nat) : Option Addr := if m = l then a else a.map (·.add (l * sz))
theorem y_slice3 {x lo hi mx : Operand} {ad : Option Addr} {len cap t e sz : Nat} {i j k : Int} {k1 k2 k3 : IntKind} (S : SeesD ds n a L) (hE : sliceElem P t = some (e, sz)) (hx : val L x = some (.slice ad len cap)) (h1 : val L lo = some (.int k1 i)) (h2 : val L hi = some (.int k2 j)) (h3 : val L mx = some (.int k3 k))
 (h : 0 ≤ i ∧ i ≤ j ∧ j ≤ k ∧ k ≤ cap) {d : Option Tmp} {ty : TypeId} {p : String} {ed : Array Edge} {g : Option (Nat × Bool)} :
 Yields P a ⟨d, .slice t x (some lo) (some hi) (some mx), ty, p, ed, g⟩ w (.slice (subA ad i.toNat k.toNat sz) (j.toNat - i.toNat) (k.toNat - i.toNat)) := by
 obtain ⟨hu, inf, hinf, rfl⟩ := sliceElem_spec hE
 unfold Yields execOp
 simp only [Option.map_some, S.eval hx, S.eval h1, S.eval h2, S.eval h3]
 have e1 : 0 ≤ k ∧ k ≤ cap := by omega
 have e2 : 0 ≤ j ∧ j ≤ (k.toNat : Int) := by omega
 have e2' : j ≤ max k 0 := by omega
 have e3 : 0 ≤ i ∧ i ≤ (j.toNat : Int) := by omega
 have e3' : i ≤ max j 0 := by omega
 have e3n : ¬ max j 0 < i := by omega
 simp [Instr.sliceAt, Instr.slice, Instr.sliceBounds, Instr.sliceBound, underlying, hu, asIntOf, e1, e2, e3, e2', e3', sizeOf, typeInfo, hinf, subA, go_sem]
theorem y_slice2 {x lo hi : Operand} {ad : Option Addr} {len cap t e sz : Nat} {i j : Int} {k1 k2 : IntKind} (S : SeesD ds n a L) (hE : sliceElem P t = some (e, sz)) (hx : val L x = some (.slice ad len cap)) (h1 : val L lo = some (.int k1 i)) (h2 : val L hi = some (.int k2 j))
 (h : 0 ≤ i ∧ i ≤ j ∧ j ≤ cap) {d : Option Tmp} {ty : TypeId} {p : String} {ed : Array Edge} {g : Option (Nat × Bool)} :
 Yields P a ⟨d, .slice t x (some lo) (some hi) none, ty, p, ed, g⟩ w (.slice (subA ad i.toNat cap sz) (j.toNat - i.toNat) (cap - i.toNat)) := by
 obtain ⟨hu, inf, hinf, rfl⟩ := sliceElem_spec hE
 unfold Yields execOp
 simp only [Option.map_some, Option.map_none, S.eval hx, S.eval h1, S.eval h2]
 have e2 : 0 ≤ j ∧ j ≤ cap := by omega
 have e3 : 0 ≤ i ∧ i ≤ (j.toNat : Int) := by omega
 have e3' : i ≤ max j 0 := by omega
 have e3n : ¬ max j 0 < i := by omega
 simp [Instr.sliceAt, Instr.slice, Instr.sliceBounds, Instr.sliceBound, underlying, hu, asIntOf, e2, e3, e3', e3n, sizeOf, typeInfo, hinf, subA, go_sem]
theorem y_slice1 {x lo : Operand} {ad : Option Addr} {len cap t e sz : Nat} {i : Int} {k1 : IntKind} (S : SeesD ds n a L) (hE : sliceElem P t = some (e, sz)) (hx : val L x = some (.slice ad len cap)) (h1 : val L lo = some (.int k1 i))
 (h : 0 ≤ i ∧ i ≤ len) {d : Option Tmp} {ty : TypeId} {p : String} {ed : Array Edge} {g : Option (Nat × Bool)} :
 Yields P a ⟨d, .slice t x (some lo) none none, ty, p, ed, g⟩ w (.slice (subA ad i.toNat cap sz) (len - i.toNat) (cap - i.toNat)) := by
 obtain ⟨hu, inf, hinf, rfl⟩ := sliceElem_spec hE
 unfold Yields execOp
 simp only [Option.map_some, Option.map_none, S.eval hx, S.eval h1]
 simp [Instr.sliceAt, Instr.slice, Instr.sliceBounds, Instr.sliceBound, underlying, hu, asIntOf, h, sizeOf, typeInfo, hinf, subA, go_sem]
theorem y_slice03 {x hi mx : Operand} {ad : Option Addr} {len cap t e sz : Nat} {j k : Int} {k2 k3 : IntKind} (S : SeesD ds n a L) (hE : sliceElem P t = some (e, sz)) (hx : val L x = some (.slice ad len cap)) (h2 : val L hi = some (.int k2 j)) (h3 : val L mx = some (.int k3 k))
 (h : 0 ≤ j ∧ j ≤ k ∧ k ≤ cap) {d : Option Tmp} {ty : TypeId} {p : String} {ed : Array Edge} {g : Option (Nat × Bool)} :
 Yields P a ⟨d, .slice t x none (some hi) (some mx), ty, p, ed, g⟩ w (.slice ad j.toNat k.toNat) := by
 obtain ⟨hu, inf, hinf, rfl⟩ := sliceElem_spec hE
 unfold Yields execOp
 simp only [Option.map_some, Option.map_none, S.eval hx, S.eval h2, S.eval h3]
 have e1 : 0 ≤ k ∧ k ≤ cap := by omega
 have e2 : 0 ≤ j ∧ j ≤ (k.toNat : Int) := by omega
 have e2' : j ≤ max k 0 := by omega
 have e0 : ∀ (a : Option Addr), a.map (fun x => x.add 0) = a := fun a => by cases a <;> rfl
 simp [Instr.sliceAt, Instr.slice, Instr.sliceBounds, Instr.sliceBound, underlying, hu, asIntOf, e1, e2, e2', sizeOf, typeInfo, hinf, e0, go_sem]
theorem y_slice02 {x hi : Operand} {ad : Option Addr} {len cap t e sz : Nat} {j : Int} {k2 : IntKind} (S : SeesD ds n a L) (hE : sliceElem P t = some (e, sz)) (hx : val L x = some (.slice ad len cap)) (h2 : val L hi = some (.int k2 j))
 (h : 0 ≤ j ∧ j ≤ cap) {d : Option Tmp} {ty : TypeId} {p : String} {ed : Array Edge} {g : Option (Nat × Bool)} :
 Yields P a ⟨d, .slice t x none (some hi) none, ty, p, ed, g⟩ w (.slice ad j.toNat cap) := by
 obtain ⟨hu, inf, hinf, rfl⟩ := sliceElem_spec hE
 unfold Yields execOp
 simp only [Option.map_some, Option.map_none, S.eval hx, S.eval h2]
 have e0 : ∀ (a : Option Addr), a.map (fun x => x.add 0) = a := fun a => by cases a <;> rfl
 simp [Instr.sliceAt, Instr.slice, Instr.sliceBounds, Instr.sliceBound, underlying, hu, asIntOf, h, sizeOf, typeInfo, hinf, e0, go_sem]
theorem SeesD.forget {v : Value} (S : SeesD ds n a ((d, v) :: L)) (h : (look L d).isNone = true) : SeesD ds n a L := by
 have key : ∀ t u, look L t = some u → look ((d, v) :: L) t = some u := fun t u ht => by
  unfold look
  cases hb : Nat.beq d t with
  | true =>
    have : d = t := Nat.eq_of_beq_eq_true hb
    subst this
    rw [ht] at h; cases h
  | false => exact ht
 exact ⟨S.size, S.defers, fun t u ht hlt => S.at_ t u (key t u ht) hlt, fun t u ht => S.lt t u (key t u ht)⟩
def skipB (ops : Array Oper) (L : List (Nat × Value)) (n : Nat) : Nat → List Oper → Bool
 | 0, _ => true
 | _ + 1, [] => false
 | k + 1, o :: r => match gd ops L o, o.dst with
   | some false, some d => (look L d).isNone && Nat.blt d n && skipB ops L n k r
   | _, _ => false
theorem qt_skip {C : World → Prop} {Q : Act → Prop} : ∀ (k : Nat) {rest : List Oper} {a : Act} (S : SeesD ds n a L) (h : skipB ops L n k rest = true) (kk : ∀ a, SeesD ds n a L → wpQuiet P ops C Q (rest.drop k) a), wpQuiet P ops C Q rest a
 | 0, rest, a, S, _, kk => kk a S
 | k + 1, [], a, S, h, kk => by simp [skipB] at h
 | k + 1, o :: r, a, S, h, kk => by
   unfold skipB at h
   split at h
   ·rename_i d hg hd
    simp only [Bool.and_eq_true] at h
    exact qt_no S hg hd h.1.2 fun a' S' => qt_skip k (S'.forget h.1.1) h.2 kk
   ·cases h
end Go.Proofs.YtdcgcgifgnaccaaGreat
namespace Go.Proofs.YtdcgcgifgnaccaaGreat
open Go.RowKit Go.Sort
variable {ds : List Deferred}
variable {P : Program} {ops : Array Oper} {Q : Exit → Act → World → Prop} {rest : List Oper} {n d : Nat} {a : Act} {L : List (Nat × Value)} {w w0 : World} {v : Value} {o : Oper} {H : List Ent}
def sliceInfo (P : Program) (t : TypeId) : Option (TypeId × Nat × Nat × List Value) :=
 match P.underlying t with
 | some (.slice e) => match P.info? e with
   | some i => match i.zero with
     | some z => some (e, i.size, i.bytes, z.cells.toList)
     | none => none
   | none => none
 | _ => none
theorem sliceInfo_spec {t e sz by_ : Nat} {zc : List Value} (h : sliceInfo P t = some (e, sz, by_, zc)) : P.underlying t = some (.slice e) ∧ ∃ i z, P.info? e = some i ∧ i.zero = some z ∧ i.size = sz ∧ i.bytes = by_ ∧ z.cells = zc.toArray := by
 unfold sliceInfo at h
 cases hu : P.underlying t with
 | none => simp [hu] at h
 | some td =>
   rw [hu] at h
   cases td <;> simp only [reduceCtorEq] at h
   rename_i e'
   cases hi : P.info? e' with
   | none => simp [hi] at h
   | some i =>
     simp only [hi] at h
     cases hz : i.zero with
     | none => simp [hz] at h
     | some z =>
       simp only [hz, Option.some.injEq, Prod.mk.injEq] at h
       obtain ⟨rfl, rfl, rfl, rfl⟩ := h
       exact ⟨rfl, i, z, hi, hz, rfl, rfl, by simp⟩
def Rd (lo hi : Nat) (w : World) (sz : Nat) (v : Value) (n : Nat) (cs : List Value) : Prop :=
 cs.length = n * sz ∧ n ≤ maxLen ∧ ((v = .slice none 0 0 ∧ n = 0) ∨ ∃ (ad : Addr) (cap : Nat), v = .slice (some ad) n cap ∧ n ≤ cap ∧ cap ≤ maxLen ∧ CellsAt w ad.block ad.off cs ∧ (0 < n → ad.spot = none ∧ lo ≤ ad.block ∧ ad.block < hi))
theorem CellsAt.same {lo hi b o : Nat} {w w' : World} {cs : List Value} (h : CellsAt w b o cs) (hs : SameOn lo hi w w') (hb : cs ≠ [] → lo ≤ b ∧ b < hi) : CellsAt w' b o cs := fun j hj => by
 have hne : cs ≠ [] := fun e => by rw [e] at hj; simp at hj
 rw [← h j hj]
 exact World.cell?_of_block (hs b (hb hne).1 (hb hne).2)
theorem Rd.same {lo hi sz m : Nat} {w w' : World} {x : Value} {cs : List Value} (h : Rd lo hi w sz x m cs) (hs : SameOn lo hi w w') : Rd lo hi w' sz x m cs := by
 obtain ⟨h1, h2, h3⟩ := h
 refine ⟨h1, h2, ?_⟩
 rcases h3 with h3 | ⟨ad, cap, e, hc, hm, ha, hb⟩
 ·exact .inl h3
 ·refine .inr ⟨ad, cap, e, hc, hm, ha.same hs (fun hne => ?_), hb⟩
  have : 0 < m := Nat.pos_of_ne_zero fun h0 => hne (List.eq_nil_of_length_eq_zero (by rw [h1, h0, Nat.zero_mul]))
  exact (hb this).2
theorem Rd.wide {lo hi lo' hi' sz m : Nat} {w : World} {x : Value} {cs : List Value} (h : Rd lo hi w sz x m cs) (h1 : lo' ≤ lo) (h2 : hi ≤ hi') : Rd lo' hi' w sz x m cs := by
 obtain ⟨h1', h2', h3⟩ := h
 refine ⟨h1', h2', ?_⟩
 rcases h3 with h3 | ⟨ad, cap, e, hc, hm, ha, hb⟩
 ·exact .inl h3
 ·exact .inr ⟨ad, cap, e, hc, hm, ha, fun hne => by have := hb hne; exact ⟨this.1, by omega, by omega⟩⟩
theorem Mem.arg {sz m : Nat} {x : Value} {cs : List Value} (M : Mem w0 w H) (h : Rd 0 w0.heap.size w0 sz x m cs) : Rd 0 w0.heap.size w sz x m cs := h.same fun k _ h2 => M.below.block k h2
theorem Mem.argW {sz m : Nat} {x : Value} {cs : List Value} (M : Mem w0 w H) (h : Rd 0 w0.heap.size w0 sz x m cs) : Rd 0 w.heap.size w sz x m cs := (M.arg h).wide (Nat.le_refl _) M.below.size
theorem Rd.nil (lo hi : Nat) (w : World) (sz : Nat) : Rd lo hi w sz (.slice none 0 0) 0 [] := ⟨by simp, Nat.zero_le _, .inl ⟨rfl, rfl⟩⟩
theorem Rd.form {lo hi sz m : Nat} {x : Value} {cs : List Value} (h : Rd lo hi w sz x m cs) : ∃ ad cap, x = .slice ad m cap ∧ m ≤ cap ∧ cap ≤ maxLen := by
 rcases h.2.2 with ⟨rfl, rfl⟩ | ⟨ad, cap, e, hc, hm, _⟩
 ·exact ⟨_, _, rfl, Nat.le_refl _, Nat.zero_le _⟩
 ·exact ⟨_, _, e, hc, hm⟩
theorem Rd.place {lo hi sz m : Nat} {x : Value} {cs : List Value} (h : Rd lo hi w sz x m cs) (h0 : 0 < m) : ∃ b o cap, x = .slice (some ⟨b, o, none⟩) m cap ∧ m ≤ cap ∧ cap ≤ maxLen ∧ CellsAt w b o cs := by
 rcases h.2.2 with ⟨rfl, rfl⟩ | ⟨⟨b, o, sp⟩, cap, e, hc, hm, ha, hb⟩
 ·omega
 ·have hs : sp = none := (hb h0).1
  subst hs
  exact ⟨b, o, cap, e, hc, hm, ha⟩
theorem CellsAt.elem {b o i sz k : Nat} {cs : List Value} {u : Value} (h : CellsAt w b o cs) (hu : cs[i * sz + k]? = some u) : w.cell? ⟨b, o + i * sz + k, none⟩ = some u := by
 have hlt := (List.getElem?_eq_some_iff.1 hu).1
 have := h (i * sz + k) hlt
 rw [show o + (i * sz + k) = o + i * sz + k by omega] at this
 rw [this, hu]
theorem CellsAt.row {b o i sz : Nat} {cs es : List Value} (h : CellsAt w b o cs) (hes : (cs.drop (i * sz)).take sz = es) (hl : es.length = sz) : CellsAt w b (o + i * sz) es := fun j hj => by
 have hj' : j < sz := by omega
 have : es[j]? = cs[i * sz + j]? := by rw [← hes, List.getElem?_take_of_lt hj', List.getElem?_drop]
 have hlt : i * sz + j < cs.length := by
  rcases Nat.lt_or_ge (i * sz + j) cs.length with h | h
  ·exact h
  ·rw [List.getElem?_eq_none h] at this
   rw [List.getElem?_eq_getElem hj] at this
   cases this
 rw [this, show o + i * sz + j = o + (i * sz + j) by omega]
 exact h _ hlt
theorem CellsAt.sub {b o i k : Nat} {cs : List Value} (h : CellsAt w b o cs) : CellsAt w b (o + i) ((cs.drop i).take k) := fun j hj => by
 simp only [List.length_take, List.length_drop] at hj
 rw [List.getElem?_take_of_lt (by omega), List.getElem?_drop, show o + i + j = o + (i + j) by omega]
 exact h _ (by omega)
theorem Rd.cut {lo hi sz m i j mx cap : Nat} {ad : Option Addr} {cs : List Value} (h : Rd lo hi w sz (.slice ad m cap) m cs) (h1 : i ≤ j) (h2 : j ≤ m) (h3 : j ≤ mx) (h4 : mx ≤ cap) : Rd lo hi w sz (.slice (subA ad i mx sz) (j - i) (mx - i)) (j - i) ((cs.drop (i * sz)).take ((j - i) * sz)) := by
 obtain ⟨hl, hm, hh⟩ := h
 have hlen : ((cs.drop (i * sz)).take ((j - i) * sz)).length = (j - i) * sz := by
  simp only [List.length_take, List.length_drop, hl]
  have e : (j - i) * sz + i * sz = j * sz := by rw [← Nat.add_mul]; congr 1; omega
  have : j * sz ≤ m * sz := Nat.mul_le_mul_right _ h2
  omega
 refine ⟨hlen, by omega, ?_⟩
 rcases hh with ⟨e, rfl⟩ | ⟨ad', cap', e, hc, hcm, ha, hb⟩
 ·injection e with e1 e2 e3
  subst e1 e3
  left
  have : j = 0 := by omega
  have : i = 0 := by omega
  have : mx = 0 := by omega
  subst_vars
  exact ⟨by simp [subA], rfl⟩
 ·injection e with e1 e2 e3
  subst e1 e3
  right
  by_cases hmi : mx = i
  ·have hji : j - i = 0 := by omega
   refine ⟨ad', mx - i, by rw [subA, if_pos hmi], by omega, by omega, ?_, ?_⟩
   ·rw [hji]; simp; intro j hj; simp at hj
   ·intro h0; omega
  ·have hadd : (ad'.add (i * sz)).block = ad'.block ∧ (ad'.add (i * sz)).off = ad'.off + i * sz := by
    unfold Addr.add; split
    ·rename_i hz; rw [hz]; exact ⟨rfl, rfl⟩
    ·exact ⟨rfl, rfl⟩
   refine ⟨ad'.add (i * sz), mx - i, by rw [subA, if_neg hmi]; rfl, by omega, by omega, ?_, fun h0 => ?_⟩
   ·rw [hadd.1, hadd.2]; exact ha.sub
   ·obtain ⟨h5, h6, h7⟩ := hb (by omega)
    refine ⟨?_, by rw [hadd.1]; exact h6, by rw [hadd.1]; exact h7⟩
    unfold Addr.add; split
    ·exact h5
    ·rfl
def rowE (lo hi : Nat) (e : TypeId) (sz : Nat) (v : Value) (n : Nat) (xs : List Value) : Ent :=
 .own lo hi (fun w => w.ownsRow lo e sz v n xs ∧ ∀ k, v.ownBlock = some k → lo ≤ k ∧ k < hi)
theorem ownsRow_same {lo hi : Nat} {e sz m : Nat} {w w' : World} {x : Value} {xs : List Value} (h : w.ownsRow lo e sz x m xs) (hk : ∀ k, x.ownBlock = some k → lo ≤ k ∧ k < hi) (hs : SameOn lo hi w w') : w'.ownsRow lo e sz x m xs := by
 refine ⟨h.1, ?_⟩
 rcases h.2 with hn | ⟨g, cap, cur, rfl, hb, hgg, rest⟩
 ·exact .inl hn
 ·refine .inr ⟨g, cap, cur, rfl, hb, ?_, rest⟩
  have := hk g rfl
  rw [hs g this.1 this.2]; exact hgg
theorem rowE_ok {lo hi : Nat} {e sz m : Nat} {w : World} {x : Value} {xs : List Value} (h : w.ownsRow lo e sz x m xs) (hk : ∀ k, x.ownBlock = some k → lo ≤ k ∧ k < hi) : (rowE lo hi e sz x m xs).ok w :=
 fun _ hs => ⟨ownsRow_same h hk hs, hk⟩
theorem Mem.rowNil (M : Mem w0 w H) (e sz : Nat) : Mem w0 w (rowE w.heap.size w.heap.size e sz (.slice none 0 0) 0 [] :: H) :=
 M.push (ext_refl w) _ (rowE_ok (World.ownsRow_nil w _ e sz) (fun k h => by simp [Value.ownBlock] at h)) (Nat.le_refl _) (Nat.le_refl _)
theorem perm_front : ∀ (H : List Ent) (p : Nat) (h : p < H.length), (H[p] :: H.eraseIdx p).Perm H
 | [], p, h => by simp at h
 | x :: H, 0, _ => by simp
 | x :: H, p + 1, h => by
   simp only [List.getElem_cons_succ, List.eraseIdx_cons_succ]
   exact (List.Perm.swap x _ _).trans ((perm_front H p (by simpa using h)).cons x)
theorem Mem.front (M : Mem w0 w H) (p : Nat) {e : Ent} (h : H[p]? = some e) : Mem w0 w (e :: H.eraseIdx p) := by
 have hmem := List.mem_of_getElem? h
 obtain ⟨hp, hpe⟩ := List.getElem?_eq_some_iff.1 h
 have hperm : (e :: H.eraseIdx p).Perm H := by rw [← hpe]; exact perm_front H p hp
 refine ⟨M.below, fun f hf => M.ok f (hperm.subset hf), fun f hf => M.fits f (hperm.subset hf), ?_⟩
 refine List.Pairwise.perm M.apart hperm.symm ?_
 intro x y hxy; exact hxy.symm
def ordO : List Nat → List Ent → Option (List Ent)
 | [], H => some H
 | i :: is, H => (H[i]?).bind fun e => ordO is (e :: H.eraseIdx i)
theorem oG {e : Ent} {H : List Ent} : (e :: H)[0]? = some e := rfl
theorem oS {e : Ent} {H : List Ent} {i : Nat} : (e :: H)[i + 1]? = H[i]? := rfl
theorem oE {e : Ent} {H : List Ent} {i : Nat} : (e :: H).eraseIdx (i + 1) = e :: H.eraseIdx i := rfl
theorem oZ {e : Ent} {H : List Ent} : (e :: H).eraseIdx 0 = H := rfl
theorem oB {e : Ent} {f : Ent → Option (List Ent)} : (some e).bind f = f e := rfl
theorem Mem.ord (M : Mem w0 w H) (is : List Nat) {H' : List Ent} (h : ordO is H = some H') : Mem w0 w H' := by
 induction is generalizing H with
 | nil => obtain rfl := Option.some.inj h; exact M
 | cons i is ih =>
   unfold ordO at h
   cases he : H[i]? with
   | none => rw [he] at h; exact absurd h (by simp)
   | some e => rw [he] at h; exact ih (M.front i he) h
theorem Rd.of_row {lo hi e sz m : Nat} {x : Value} {xs : List Value} (h : w.ownsRow lo e sz x m xs) (hk : ∀ k, x.ownBlock = some k → lo ≤ k ∧ k < hi) (hm : m ≤ maxLen) : Rd lo hi w sz x m xs := by
 refine ⟨h.1, hm, ?_⟩
 rcases h.2 with ⟨rfl, rfl⟩ | ⟨g, cap, cur, rfl, hb, hgg, hc, hcm, hs, ht⟩
 ·exact .inl ⟨rfl, rfl⟩
 ·refine .inr ⟨⟨g, 0, none⟩, cap, rfl, hc, hcm, fun j hj => ?_, fun _ => ⟨rfl, hk g rfl⟩⟩
  rw [← ht]
  have hj' : j < m * sz := by rw [← h.1]; exact hj
  rw [List.getElem?_take_of_lt hj']
  simp [World.cell?, hgg]
theorem Mem.readRow {lo hi e sz m : Nat} {x : Value} {xs : List Value} (M : Mem w0 w H) (p : Nat) (h : H[p]? = some (rowE lo hi e sz x m xs)) (hm : m ≤ maxLen) : Rd lo hi w sz x m xs :=
 have := M.own p h
 .of_row this.1 this.2 hm
theorem allOne_spec : ∀ {us : List Value}, allOne us = true → ∀ u ∈ us, u.oneCell' = true
 | [], _, u, h => by cases h
 | x :: us, h, u, hu => by
   simp only [allOne, Bool.and_eq_true] at h
   rcases List.mem_cons.1 hu with rfl | hu
   ·cases u <;> simp_all [oneB, Value.oneCell']
   ·exact allOne_spec h.2 u hu
theorem CellsAt.add {b o : Nat} {cs : List Value} (h : CellsAt w b o cs) : ∀ j u, cs[j]? = some u → w.cell? ((⟨b, o, none⟩ : Addr).add j) = some u := fun j u hu => by
 rw [addr_add, h j (List.getElem?_eq_some_iff.1 hu).1, hu]
theorem CellsAt.addA {ad : Addr} {cs : List Value} (h : CellsAt w ad.block ad.off cs) (hs : cs ≠ [] → ad.spot = none) : ∀ j u, cs[j]? = some u → w.cell? (ad.add j) = some u := fun j u hu => by
 have hne : cs ≠ [] := fun e => by rw [e] at hu; simp at hu
 obtain ⟨b, o, sp⟩ := ad
 have : sp = none := hs hne
 subst this
 exact h.add j u hu
theorem Mem.append {t e sz by_ lo hi lo' hi' m ty p : Nat} {zc xs news : List Value} {x : Value} (M : Mem w0 w H) (hI : sliceInfo P t = some (e, sz, by_, zc)) (hzs : zc.length = sz) (hsz : 0 < sz) (hp : H[p]? = some (rowE lo hi e sz v n xs)) (hx : Rd lo' hi' w sz x m news) (h1 : allOne news = true)
 (hb : (n + m) * by_ ≤ 140737488355328) (h63 : n + m ≤ maxLen) :
 ∃ v' w' l' h', (Builtin.append_ #[t, t] ty #[v, x]).run P w = .ok v' w' ∧ Mem w0 w' (rowE l' h' e sz v' (n + m) (xs ++ news) :: H.eraseIdx p) := by
 obtain ⟨hu, i, z, hi', hz, rfl, rfl, hzc⟩ := sliceInfo_spec hI
 obtain ⟨hown, hkk⟩ := M.own p hp
 have h1' := allOne_spec h1
 have hzs' : z.cells.size = i.size := by rw [hzc]; simpa using hzs
 have hsmall : n + m ≤ 9223372036854775807 := by simp only [maxLen] at h63; omega
 have fits := M.fits _ (List.mem_of_getElem? hp)
 simp only [rowE, Ent.lo, Ent.hi] at fits
 have hlx : news.length = m * i.size := hx.1
 have hlen : (xs ++ news).length = (n + m) * i.size := by rw [List.length_append, hown.1, hlx, Nat.add_mul]
 have Me : Mem w0 w (H.eraseIdx p) := M.drop p
 -- a new array
 have grown : ∀ (old : Nat), old < n + m → Mem w0 (w.drew.alloc (.cells (xs.toArray ++ news.toArray ++ Builtin.zeroCells z.cells (grownCap w (n + m) old e - (n + m))) e))
  (rowE w.heap.size (w.heap.size + 1) e i.size (.slice (some ⟨w.heap.size, 0, none⟩) (n + m) (grownCap w (n + m) old e)) (n + m) (xs ++ news) :: H.eraseIdx p) := by
  intro old ho
  have hge := grownCap_ge w (n + m) old e
  have hcm : grownCap w (n + m) old e ≤ maxLen := grownCap_le_maxLen w (n + m) old e h63
  refine Me.push (ext_alloc (ext_drew (ext_refl w)) _) _ (rowE_ok ⟨hlen, .inr ⟨w.heap.size, _, _, rfl, Nat.le_refl _, heap_alloc_new w.drew _, hge, hcm, ?_, ?_⟩⟩ (fun k hk => by simp [Value.ownBlock] at hk; omega)) (Nat.le_refl _) (by simp [rowE, Ent.hi])
  ·simp only [Array.size_append, List.size_toArray, size_zeroCells, hzs', hown.1, hlx, ← Nat.add_mul]
   congr 1
   omega
  ·simp only [Array.toList_append, List.append_assoc]
   rw [← List.append_assoc, ← hlen]
   exact List.take_left
 rcases hx.2.2 with ⟨rfl, rfl⟩ | ⟨ad', cap', rfl, hc', hcm', hat, hsp⟩
 ·have hn : news = [] := List.eq_nil_of_length_eq_zero (by simpa using hlx)
  subst hn
  rw [List.append_nil, Nat.add_zero]
  exact ⟨v, w, lo, hi, run_append_owned_none w lo t ty e i i.size hu hi' v n xs hown, M.front p hp⟩
 ·have hnews := hat.addA (fun hne => (hsp (Nat.pos_of_ne_zero fun h0 => hne (List.eq_nil_of_length_eq_zero (by rw [hlx, h0, Nat.zero_mul])))).1)
  rcases hown.2 with ⟨rfl, rfl⟩ | ⟨g, cap, cur, rfl, hbg, hg, hnc, hcm, hcs, htake⟩
  ·have hx0 : xs = [] := List.eq_nil_of_length_eq_zero (by simpa using hown.1)
   subst hx0
   by_cases hm : m = 0
   ·subst hm
    have hn : news = [] := List.eq_nil_of_length_eq_zero (by simpa using hlx)
    subst hn
    refine ⟨.slice none 0 0, w, lo, hi, ?_, M.front p hp⟩
    simp [Builtin.append_, run_underlying hu, sizeOf, typeInfo, hi', Builtin.lenOf, Builtin.firstCells, loadCells, loadCellsFrom]
   ·have hr := run_append_nil (P := P) w t ty e i z hu hi' hz ad' m cap' news hlx hnews (by omega) (by omega) (by have hb := hb; simp only [Nat.zero_add] at hb; omega)
    have hgr := grown 0 (by omega)
    simp only [Nat.zero_add, List.nil_append, Array.empty_append] at hgr ⊢
    exact ⟨_, _, _, _, hr, hgr⟩
  ·by_cases hroom : n + m ≤ cap
   ·have hfit : n * i.size + news.length ≤ cur.size := by rw [hlx, hcs, ← Nat.add_mul]; exact Nat.mul_le_mul_right _ hroom
    have hr := run_append_room (P := P) w t ty e i hu hi' g n cap cur hg ad' m cap' news hlx hnews h1' hroom hfit
    have hk := hkk g rfl
    refine ⟨_, _, lo, hi, hr, ?_⟩
    have M' := M.change (w' := w.setRow g (cur.toList.take (n * i.size) ++ news ++ cur.toList.drop (n * i.size + news.length)).toArray) (e' := rowE lo hi e i.size (.slice (some ⟨g, 0, none⟩) (n + m) cap) (n + m) (xs ++ news)) p hp rfl rfl
     (rowE_ok ⟨hlen, .inr ⟨g, cap, _, rfl, hbg, setRow_heap w g cur _ e _ hg, hroom, hcm, by simp only [List.size_toArray, List.length_append, List.length_take, List.length_drop, Array.length_toList]; omega, by rw [htake, ← hlen]; exact List.take_left⟩⟩ hkk)
     (by simp [World.setRow]) rfl rfl rfl (fun k hk' => setRow_other w g k _ (fun e => hk' (by subst e; exact hk)))
    have hlt : p < H.length := (List.getElem?_eq_some_iff.1 hp).1
    have := M'.front p (List.getElem?_set_self hlt)
    rwa [List.eraseIdx_set_eq] at this
   ·have holds : ∀ j u, xs[j]? = some u → w.cell? ((⟨g, 0, none⟩ : Addr).add j) = some u := hown.cells (g := g) rfl
    have hr := run_append_grow (P := P) w t ty e i z hu hi' hz ⟨g, 0, none⟩ n cap xs hown.1 holds ad' m cap' news hlx hnews (by omega) (by omega) (growslice_fits (by omega) hb)
    exact ⟨_, _, _, _, hr, grown cap (by omega)⟩
theorem st_append {t e sz by_ lo hi lo' hi' m : Nat} {zc xs news : List Value} {u x : Value} {s y : Operand} (S : SeesD ds n a L) (M : Mem w0 w H) (pos : Nat) {k : Nat} {d : Nat} {ty : TypeId} {p : String} {ed : Array Edge} {g : Option (Nat × Bool)}
 (hg : gd ops L ⟨some d, .call { callee := .builtin .append, args := #[s, y], argTypes := #[t, t] }, ty, p, ed, g⟩ = some true) (hn : Nat.blt d n = true)
 (hI : sliceInfo P t = some (e, sz, by_, zc)) (hzs : zc.length = sz) (hsz : 0 < sz) (hs : val L s = some u) (hy : val L y = some x) (hp : H[pos]? = some (rowE lo hi e sz u k xs)) (hx : Rd lo' hi' w sz x m news) (h1 : allOne news = true)
 (hb : (k + m) * by_ ≤ 140737488355328) (h63 : k + m ≤ maxLen)
 (kk : ∀ a w v' l' h', SeesD ds n a ((d, v') :: L) → Mem w0 w (rowE l' h' e sz v' (k + m) (xs ++ news) :: H.eraseIdx pos) → wpList P ops Q rest a w) :
 wpList P ops Q (⟨some d, .call { callee := .builtin .append, args := #[s, y], argTypes := #[t, t] }, ty, p, ed, g⟩ :: rest) a w := by
 obtain ⟨v', w', l', h', hr, M'⟩ := M.append (ty := ty) hI hzs hsz hp hx h1 hb h63
 refine st_w (v := v') (w' := w') S hg rfl hn ?_ fun a S' => kk a w' v' l' h' S' M'
 obtain ⟨cs, h⟩ := run_builtin (P := P) (w := w) (b := .append) (xs := [s, y]) (vs := [u, x]) S (by simp [vals, hs, hy]) (d := some d) (ts := #[t, t]) (t := ty) (p := p) (e := ed) (g := g)
 rw [h]
 simp only [builtin, Sem.run_bind]
 rw [show [u, x].toArray = #[u, x] from rfl, hr]
 rfl
def madeL (zc : List Value) (k : Nat) : List Value := (madeCells zc.toArray k).toList
theorem madeL_length (zc : List Value) (k : Nat) : (madeL zc k).length = k := by simp [madeL, size_madeCells]
theorem st_make {t e sz by_ : Nat} {zc : List Value} {x y : Operand} {kl kc : IntKind} {l c : Int} (S : SeesD ds n a L) (M : Mem w0 w H) {d : Nat} {ty : TypeId} {p : String} {ed : Array Edge} {g : Option (Nat × Bool)}
 (hg : gd ops L ⟨some d, .makeSlice t x y, ty, p, ed, g⟩ = some true) (hn : Nat.blt d n = true) (hI : sliceInfo P t = some (e, sz, by_, zc)) (hx : val L x = some (.int kl l)) (hy : val L y = some (.int kc c))
 (h0 : 0 ≤ l) (hlc : l ≤ c) (hbytes : (by_ : Int) * c ≤ 281474976710656) (h63 : c ≤ 9223372036854775807)
 (k : ∀ a w' b, SeesD ds n a ((d, .slice (some ⟨b, 0, none⟩) l.toNat c.toNat) :: L) → Mem w0 w' (.blk b (madeL zc (c.toNat * sz)).toArray e :: H) → Below w.heap.size w w' → wpList P ops Q rest a w') : wpList P ops Q (⟨some d, .makeSlice t x y, ty, p, ed, g⟩ :: rest) a w := by
 obtain ⟨hu, i, z, hi', hz, rfl, rfl, hzc⟩ := sliceInfo_spec hI
 refine st_w (v := .slice (some ⟨w.heap.size, 0, none⟩) l.toNat c.toNat) (w' := w.alloc (.cells (madeCells zc.toArray (c.toNat * i.size)) e)) S hg rfl hn ?_ fun a S' => k a _ w.heap.size S' (by rw [madeL, Array.toArray_toList]; exact M.alloc _ _) (ext_alloc (ext_refl _) _)
 unfold execOp
 simp only [S.eval hx, S.eval hy, Sem.run_bind, run_make w t e i z hu hi' hz kl kc l c h0 hlc hbytes h63, hzc, Result.andThen_ok]
 rfl
theorem Mem.toRow {b e sz m cap : Nat} {cur : Array Value} {xs : List Value} (M : Mem w0 w H) (p : Nat) (h : H[p]? = some (.blk b cur e)) (hl : xs.length = m * sz) (hmc : m ≤ cap) (hcm : cap ≤ maxLen) (hs : cur.size = cap * sz) (ht : cur.toList.take (m * sz) = xs) :
 Mem w0 w (rowE b (b + 1) e sz (.slice (some ⟨b, 0, none⟩) m cap) m xs :: H.eraseIdx p) := by
 have hlt : p < H.length := (List.getElem?_eq_some_iff.1 h).1
 have M' := M.change (w' := w) (e' := rowE b (b + 1) e sz (.slice (some ⟨b, 0, none⟩) m cap) m xs) p h rfl rfl
  (rowE_ok ⟨hl, .inr ⟨b, cap, cur, rfl, Nat.le_refl _, M.blk p h, hmc, hcm, hs, ht⟩⟩ (fun k hk => by simp [Value.ownBlock] at hk; omega)) rfl rfl rfl rfl (fun _ _ => rfl)
 have := M'.front p (List.getElem?_set_self hlt)
 rwa [List.eraseIdx_set_eq] at this
theorem Rd.of_blk {b e sz m cap : Nat} {cur : Array Value} {xs : List Value} (B : Blk w b cur e) (hl : xs.length = m * sz) (hmc : m ≤ cap) (hcm : cap ≤ maxLen) (ht : cur.toList.take (m * sz) = xs) : Rd b (b + 1) w sz (.slice (some ⟨b, 0, none⟩) m cap) m xs := by
 refine ⟨hl, by omega, .inr ⟨⟨b, 0, none⟩, cap, rfl, hmc, hcm, fun j hj => ?_, fun _ => ⟨rfl, Nat.le_refl _, Nat.lt_succ_self _⟩⟩⟩
 rw [Nat.zero_add, B.cells, ← ht, List.getElem?_take_of_lt (by omega)]
 simp
end Go.Proofs.YtdcgcgifgnaccaaGreat
namespace Go.Proofs.YtdcgcgifgnaccaaGreat
open Go.RowKit Go.Sort
variable {ds : List Deferred}
variable {P : Program} {ops : Array Oper} {Q : Exit → Act → World → Prop} {rest : List Oper} {n d : Nat} {a : Act} {L : List (Nat × Value)} {w w0 : World} {v : Value} {o : Oper} {H : List Ent}
class Nrm (p : Prop) (q : outParam Prop) : Prop where
 to : p → q
instance (priority := 10) nrmI0 {p : Prop} : Nrm p p := ⟨id⟩
class NrmT (b : Bool) (q : outParam Prop) : Prop where
 to : b = true → q
class NrmF (b : Bool) (q : outParam Prop) : Prop where
 to : b = false → q
instance {b : Bool} {q : Prop} [h : NrmT b q] : Nrm (b = true) q := ⟨h.to⟩
instance {b : Bool} {q : Prop} [h : NrmF b q] : Nrm (b = false) q := ⟨h.to⟩
instance (priority := 10) {b : Bool} : NrmT b (b = true) := ⟨id⟩
instance (priority := 10) {b : Bool} : NrmF b (b = false) := ⟨id⟩
instance {b : Bool} {q : Prop} [h : NrmF b q] : NrmT (!b) q := ⟨fun e => h.to (nrmA e)⟩
instance {b : Bool} {q : Prop} [h : NrmT b q] : NrmF (!b) q := ⟨fun e => h.to (nrmB e)⟩
instance {p : Prop} [Decidable p] : NrmT (decide p) p := ⟨of_decide_eq_true⟩
instance (priority := 900) {p : Prop} [Decidable p] : NrmF (decide p) (¬ p) := ⟨of_decide_eq_false⟩
instance {x y : Int} : NrmF (decide (x < y)) (y ≤ x) := ⟨nrm1⟩
instance {x y : Int} : NrmF (decide (x ≤ y)) (y < x) := ⟨nrm2⟩
instance {x y : Int} : NrmT (x == y) (x = y) := ⟨nrm3⟩
instance {x y : Int} : NrmF (x == y) (x ≠ y) := ⟨nrm4⟩
instance {x y : Int} : NrmT (x != y) (x ≠ y) := ⟨nrm5⟩
instance {x y : Int} : NrmF (x != y) (x = y) := ⟨nrm6⟩
theorem st_if {G : Prop} {b : Bool} {t : Nat} {p q : Prop} [h1 : NrmT b p] [h2 : NrmF b q] (S : SeesD ds n a L) (h : look L t = some (.bool b)) (k1 : p → SeesD ds n a ((t, .bool true) :: L) → G) (k2 : q → SeesD ds n a ((t, .bool false) :: L) → G) : G :=
 st_split S h (fun e => k1 (h1.to e)) (fun e => k2 (h2.to e))
theorem st_fi {G : Prop} {b : Bool} {t : Nat} {p q : Prop} [h1 : NrmT b p] [h2 : NrmF b q] (S : SeesD ds n a L) (h : look L t = some (.bool b)) (k2 : q → SeesD ds n a ((t, .bool false) :: L) → G) (k1 : p → SeesD ds n a ((t, .bool true) :: L) → G) : G :=
 st_split S h (fun e => k1 (h1.to e)) (fun e => k2 (h2.to e))
theorem st_tils {G : Prop} {b : Bool} {t : Nat} (S : SeesD ds n a L) (h : look L t = some (.bool b)) (k2 : b = false → SeesD ds n a ((t, .bool false) :: L) → G) (k1 : b = true → SeesD ds n a ((t, .bool true) :: L) → G) : G := st_split S h k1 k2
theorem nxA {id : Nat} {l : List Oper} {y : Code} (h : wpList P l.toArray (Exit.then (y.wp P Q) Q) l a w) : wpList P ops (Exit.then ((Code.seq (.region id l.toArray false) y).wp P Q) Q) [] a w := wpList_nil (then_normal (wp_seq (wp_region_lit h)))
theorem nxB {id : Nat} {l : List Oper} (h : wpList P l.toArray Q l a w) : wpList P ops (Exit.then ((Code.region id l.toArray false).wp P Q) Q) [] a w := wpList_nil (then_normal (wp_region_lit h))
theorem nxC {next : Act → World → Prop} (h : next a w) : wpList P ops (Exit.then next Q) [] a w := wpList_nil (then_normal h)
theorem nxD {id : Nat} {l : List Oper} {y : Code} (h : wpList P l.toArray (Exit.then (y.wp P Q) Q) l a w) : (Code.seq (.region id l.toArray false) y).wp P Q a w := wp_seq (wp_region_lit h)
theorem nxE {id : Nat} {l : List Oper} {y : Code} (h : wpList P l.toArray (Exit.then (y.wp P Q) Q) l a w) : Exit.then ((Code.seq (.region id l.toArray false) y).wp P Q) Q .normal a w := then_normal (wp_seq (wp_region_lit h))
theorem nxF {id : Nat} {l : List Oper} (h : wpList P l.toArray Q l a w) : Exit.then ((Code.region id l.toArray false).wp P Q) Q .normal a w := then_normal (wp_region_lit h)
def cmpV (op : BinOp) (i j : Int) : Option Value :=
 match op with
 | .eql => some (.bool (i == j))
 | .neq => some (.bool (i != j))
 | .lss => some (.bool (decide (i < j)))
 | .leq => some (.bool (decide (i ≤ j)))
 | .gtr => some (.bool (decide (j < i)))
 | .geq => some (.bool (decide (j ≤ i)))
 | _ => none
theorem cmpV_spec {op : BinOp} {k : IntKind} {i j : Int} (h : cmpV op i j = some v) : intBin op k i j = some v := by
 cases op <;> simp only [cmpV, reduceCtorEq] at h <;> exact h
def plainV (H : List Ent) (L : List (Nat × Value)) (h : Nat) : Op → Option (Value × Nat × Nat)
 | .move x => match val L x with
   | some v => some (v, 0, 0)
   | none => none
 | .assign x => match val L x with
   | some v => some (v, 0, 0)
   | none => none
 | .pick c x y => match val L c with
   | some (.bool true) => match val L x with
     | some v => some (v, 0, 0)
     | none => none
   | some (.bool false) => match val L y with
     | some v => some (v, 0, 0)
     | none => none
   | _ => none
 | .extract x i => match val L x with
   | some (.tuple vs) => match nthL vs.toList i with
     | some v => some (v, 0, 0)
     | none => none
   | _ => none
 | .nilCheck x => match val L x with
   | some (.pointer (some ad)) => some (.pointer (some ad), 0, 0)
   | _ => none
 | .unOp .not _ x => match val L x with
   | some (.bool b) => some (.bool (!b), 0, 0)
   | _ => none
 | .fieldAddr _ x _ => match val L x with
   | some (.pointer (some ⟨b, o, none⟩)) => some (.pointer (some ⟨b, o + h, none⟩), 0, 0)
   | _ => none
 | .binOp op _ x y _ => match val L x with
   | some (.int k i) => match val L y with
     | some (.int k' j) => match decEq k' k with
       | isTrue _ => match cmpV op i j with
         | some v => some (v, 0, 0)
         | none => none
       | isFalse _ => none
     | _ => none
   | _ => none
 | .load _ x => match val L x with
   | some (.pointer (some ⟨b, o, none⟩)) => match H[h]? with
     | some (.blk b' c _) => match nthL c.toList o with
       | some v => some (v, b, b')
       | none => none
     | _ => none
   | _ => none
 | _ => none
def plainC (P : Program) (h : Nat) : Op → Bool
 | .fieldAddr s _ f => match fieldOff P s f with
   | some k => Nat.beq k h
   | none => false
 | .load t _ => plainB P t
 | _ => true
theorem plainV_spec {h : Nat} {o : Oper} {b b' : Nat} (S : SeesD ds n a L) (M : Mem w0 w H) (hv : plainV H L h o.op = some (v, b, b')) (hc : plainC P h o.op = true) (hb : b = b') : Yields P a o w v := by
 obtain ⟨dst, op, ty, p, ed, g⟩ := o
 simp only at hv hc
 unfold plainV at hv
 split at hv
 ·rename_i x; split at hv <;> cases hv; exact y_move S ‹_›
 ·rename_i x; split at hv <;> cases hv; exact y_assign S ‹_›
 ·split at hv
  ·rename_i hc'; split at hv <;> cases hv; exact y_pickT S hc' ‹_›
  ·rename_i hc'; split at hv <;> cases hv; exact y_pickF S hc' ‹_›
  ·cases hv
 ·split at hv
  ·rename_i hx; split at hv <;> cases hv; exact y_extract S hx ‹_›
  ·cases hv
 ·split at hv <;> cases hv; exact y_nilCheck S ‹_›
 ·split at hv <;> cases hv; exact y_not S ‹_›
 ·split at hv <;> cases hv
  rename_i hx
  unfold plainC at hc
  simp only at hc
  split at hc
  ·rename_i k hk
   have := Nat.eq_of_beq_eq_true hc
   subst this
   exact y_fieldAddr S hk hx
  ·cases hc
 ·split at hv
  ·rename_i hx; split at hv
   ·rename_i hy; split at hv
    ·rename_i e _; subst e; split at hv <;> cases hv; exact y_int S hx hy (cmpV_spec ‹_›)
    ·cases hv
   ·cases hv
  ·cases hv
 ·split at hv
  ·rename_i hx; split at hv
   ·rename_i hH; split at hv <;> cases hv
    rename_i hn
    subst hb
    rw [nthL_eq, Array.getElem?_toList] at hn
    exact y_load S hc hx (M.cell h hH hn)
   ·cases hv
  ·cases hv
 ·cases hv
structure RunR where
 L : List (Nat × Value)
 A : List Nat
 B : List Nat
 rest : List Oper
def runL (ops : Array Oper) (H : List Ent) (n : Nat) : List Nat → List (Nat × Value) → List Nat → List Nat → List Oper → Option RunR
 | [], L, A, B, rest => some ⟨L, A, B, rest⟩
 | h :: hs, L, A, B, o :: rest => match o.dst with
   | some d => match Nat.blt d n with
     | true => match gd ops L o with
       | some true => match h with
         | h + 1 => match plainV H L h o.op with
           | some (v, b, b') => runL ops H n hs ((d, v) :: L) (b :: A) (b' :: B) rest
           | none => none
         | 0 => none
       | some false => match h with
         | 0 => runL ops H n hs ((d, undef) :: L) A B rest
         | _ => none
       | none => none
     | false => none
   | none => none
 | _ :: _, _, _, _, [] => none
def runC (P : Program) : List Nat → List Oper → Bool
 | 0 :: hs, _ :: rest => runC P hs rest
 | (h + 1) :: hs, o :: rest => plainC P h o.op && runC P hs rest
 | _, _ => true
theorem runL_acc : ∀ (hs : List Nat) {L : List (Nat × Value)} {rest : List Oper} {A0 B0 : List Nat} {L' : List (Nat × Value)} {A B : List Nat} {rest' : List Oper}, runL ops H n hs L A0 B0 rest = some ⟨L', A, B, rest'⟩ → ∃ xs ys, xs.length = ys.length ∧ A = xs ++ A0 ∧ B = ys ++ B0
 | [], L, rest, A0, B0, L', A, B, rest', hr => by
   simp only [runL, Option.some.injEq, RunR.mk.injEq] at hr
   obtain ⟨rfl, rfl, rfl, rfl⟩ := hr
   exact ⟨[], [], rfl, rfl, rfl⟩
 | h :: hs, L, [], A0, B0, L', A, B, rest', hr => by simp [runL] at hr
 | h :: hs, L, o :: rest, A0, B0, L', A, B, rest', hr => by
   rw [runL] at hr
   split at hr
   ·split at hr
    ·split at hr
     ·split at hr
      ·split at hr
       ·obtain ⟨xs, ys, h1, rfl, rfl⟩ := runL_acc hs hr
        rename_i b b' _
        exact ⟨xs ++ [b], ys ++ [b'], by simp [h1], by simp, by simp⟩
       ·cases hr
      ·cases hr
     ·split at hr
      ·exact runL_acc hs hr
      ·cases hr
     ·cases hr
    ·cases hr
   ·cases hr
theorem st_runA : ∀ (hs : List Nat) {L : List (Nat × Value)} {rest : List Oper} {a : Act} {A0 B0 : List Nat} {L' : List (Nat × Value)} {A B : List Nat} {rest' : List Oper}, SeesD ds n a L → Mem w0 w H → runL ops H n hs L A0 B0 rest = some ⟨L', A, B, rest'⟩ → runC P hs rest = true → A = B →
 (∀ a, SeesD ds n a L' → wpList P ops Q rest' a w) → wpList P ops Q rest a w
 | [], L, rest, a, A0, B0, L', A, B, rest', S, M, hr, hc, hb, k => by
   simp only [runL, Option.some.injEq, RunR.mk.injEq] at hr
   obtain ⟨rfl, rfl, rfl, rfl⟩ := hr
   exact k a S
 | h :: hs, L, [], a, A0, B0, L', A, B, rest', S, M, hr, hc, hb, k => by simp [runL] at hr
 | h :: hs, L, o :: rest, a, A0, B0, L', A, B, rest', S, M, hr, hc, hb, k => by
   rw [runL] at hr
   cases hd : o.dst with
   | none => rw [hd] at hr; cases hr
   | some d =>
     rw [hd] at hr
     simp only at hr
     cases hn : Nat.blt d n with
     | false => rw [hn] at hr; cases hr
     | true =>
       rw [hn] at hr
       simp only at hr
       split at hr
       ·rename_i hg
        split at hr
        ·simp only [runC, Bool.and_eq_true] at hc
         split at hr
         ·rename_i v b b' hv
          obtain ⟨xs, ys, h1, e1, e2⟩ := runL_acc hs hr
          have hbb : b = b' := by
           rw [e1, e2] at hb
           have := (List.append_inj hb h1).2
           simp only [List.cons.injEq] at this
           exact this.1
          exact st_y S hg hd hn (plainV_spec S M hv hc.1 hbb) fun a S => st_runA hs S M hr hc.2 hb k
         ·cases hr
        ·cases hr
       ·rename_i hg
        split at hr
        ·simp only [runC] at hc
         exact st_no S hg hd hn fun a S => st_runA hs S M hr hc hb k
        ·cases hr
       ·cases hr
theorem st_run (hs : List Nat) {L' : List (Nat × Value)} {A : List Nat} {rest' : List Oper} (S : SeesD ds n a L) (M : Mem w0 w H) (hr : runL ops H n hs L [] [] rest = some ⟨L', A, A, rest'⟩) (hc : runC P hs rest = true)
 (k : ∀ a, SeesD ds n a L' → wpList P ops Q rest' a w) : wpList P ops Q rest a w := st_runA hs S M hr hc rfl k
theorem st_go (hs : List Nat) {L' : List (Nat × Value)} {A : List Nat} {rest' : List Oper} (S : SeesD ds n a L) (hr : runL ops [] n hs L [] [] rest = some ⟨L', A, A, rest'⟩) (hc : runC P hs rest = true)
 (k : ∀ a, SeesD ds n a L' → wpList P ops Q rest' a w) : wpList P ops Q rest a w := st_run hs S (Mem.start w) hr hc k
end Go.Proofs.YtdcgcgifgnaccaaGreat
namespace Go.Proofs.YtdcgcgifgnaccaaGreat
open Go.RowKit Go.Sort
variable {ds : List Deferred}
variable {P : Program} {ops : Array Oper} {Q : Exit → Act → World → Prop} {rest : List Oper} {n d : Nat} {a : Act} {L : List (Nat × Value)} {w w0 : World} {v : Value} {o : Oper} {H : List Ent}
def litInfo (P : Program) (t : TypeId) (len : Nat) : Option (TypeId × Nat × List Value) :=
 match P.underlying t with
 | some (.slice e) => match P.info? e with
   | some i => match i.zero with
     | some z => if len * i.size = 0 ∨ len * i.size > 2 ^ 24 then none else some (e, i.size, ((Array.range (len * i.size)).map (z.cells[· % z.cells.size]!)).toList)
     | none => none
   | none => none
 | _ => none
theorem st_lit {t e sz len : Nat} {zl vs cs : List Value} {ps : List (Nat × Operand)} (S : SeesD ds n a L) (M : Mem w0 w H) {d : Nat} {ty : TypeId} {p : String} {ed : Array Edge} {g : Option (Nat × Bool)}
 (hg : gd ops L ⟨some d, .buildSlice t len ps.toArray, ty, p, ed, g⟩ = some true) (hn : Nat.blt d n = true) (hI : litInfo P t len = some (e, sz, zl)) (hv : vals L (ps.map (·.2)) = some vs) (hf : fillL (fun i => some (i * sz, sz)) zl ((ps.map (·.1)).zip vs) = some cs)
 (k : ∀ a w' b, SeesD ds n a ((d, .slice (some ⟨b, 0, none⟩) len len) :: L) → Mem w0 w' (.blk b cs.toArray e :: H) → Below w.heap.size w w' → wpList P ops Q rest a w') : wpList P ops Q (⟨some d, .buildSlice t len ps.toArray, ty, p, ed, g⟩ :: rest) a w := by
 unfold litInfo at hI
 cases hu : P.underlying t with
 | none => simp [hu] at hI
 | some td =>
   rw [hu] at hI
   cases td <;> simp only [reduceCtorEq] at hI
   rename_i e'
   cases hi : P.info? e' with
   | none => simp [hi] at hI
   | some i =>
     simp only [hi] at hI
     cases hz : i.zero with
     | none => simp [hz] at hI
     | some z =>
       simp only [hz] at hI
       split at hI
       ·cases hI
       ·rename_i hsm
        simp only [Option.some.injEq, Prod.mk.injEq] at hI
        obtain ⟨rfl, rfl, rfl⟩ := hI
        have hparts : (ps.toArray.map fun (x : Nat × Operand) => (x.1, a.eval x.2)).toList = (ps.map (·.1)).zip vs := by
         rw [← S.evals hv, ← zip_eval a.eval ps]; simp
        have hfill := fill_of_fillL _ _ _ hf
        rw [Array.toArray_toList] at hfill
        refine st_w (v := .slice (some ⟨w.heap.size, 0, none⟩) len len) (w' := w.alloc (.cells cs.toArray e')) S hg rfl hn ?_ fun a S' => k a _ w.heap.size S' (M.alloc _ _) (ext_alloc (ext_refl _) _)
        unfold execOp
        simp only [Sem.run_bind]
        rw [run_buildSlice w t e' len _ cs.toArray i z hu hi hz (by omega) (by omega) (by rw [hparts]; exact hfill)]
        rfl
theorem st_lit0 {t e sz by_ : Nat} {zc : List Value} (S : SeesD ds n a L) (M : Mem w0 w H) {d : Nat} {ty : TypeId} {p : String} {ed : Array Edge} {g : Option (Nat × Bool)}
 (hg : gd ops L ⟨some d, .buildSlice t 0 #[], ty, p, ed, g⟩ = some true) (hn : Nat.blt d n = true) (hI : sliceInfo P t = some (e, sz, by_, zc))
 (k : ∀ a w' b, SeesD ds n a ((d, .slice (some ⟨b, 0, none⟩) 0 0) :: L) → Mem w0 w' (.blk b #[] e :: H) → Below w.heap.size w w' → wpList P ops Q rest a w') : wpList P ops Q (⟨some d, .buildSlice t 0 #[], ty, p, ed, g⟩ :: rest) a w := by
 obtain ⟨hu, i, z, hi', hz, rfl, rfl, hzc⟩ := sliceInfo_spec hI
 refine st_w (v := .slice (some ⟨w.heap.size, 0, none⟩) 0 0) (w' := w.alloc (.cells #[] e)) S hg rfl hn ?_ fun a S' => k a _ w.heap.size S' (M.alloc _ _) (ext_alloc (ext_refl _) _)
 unfold execOp
 simp [Instr.buildSlice, run_underlying hu, sizeOf, typeInfo, hi', Instr.fill, newRow, Array.range_zero', go_sem]
def bcells (bs : List UInt8) : List Value := bs.map fun b => .int .u8 (b.toNat : Int)
theorem bcells_length (bs : List UInt8) : (bcells bs).length = bs.length := by simp [bcells]
theorem bcells_append (x y : List UInt8) : bcells (x ++ y) = bcells x ++ bcells y := by simp [bcells]
theorem bcells_get {bs : List UInt8} {i : Nat} {b : UInt8} (h : bs[i]? = some b) : (bcells bs)[i]? = some (.int .u8 (b.toNat : Int)) := by simp [bcells, h]
theorem bcells_cut (bs : List UInt8) (i k : Nat) : ((bcells bs).drop i).take k = bcells ((bs.drop i).take k) := by simp [bcells, List.map_drop, List.map_take]
theorem allOne_bcells : ∀ bs : List UInt8, allOne (bcells bs) = true
 | [] => rfl
 | b :: bs => by simp only [bcells, List.map_cons, allOne, oneB, Bool.true_and]; exact allOne_bcells bs
abbrev Bs (lo hi : Nat) (w : World) (v : Value) (bs : List UInt8) : Prop := Rd lo hi w 1 v bs.length (bcells bs)
theorem y_bytesStr {x : Operand} {u : Value} {lo hi src dst e : Nat} {bs : List UInt8} (S : SeesD ds n a L) (hx : val L x = some u) (hs : P.underlying src = some (.slice e)) (he : P.underlying e = some (.int .u8)) (hd : P.underlying dst = some .string) (h : Bs lo hi w u bs)
 {d : Option Tmp} {t : TypeId} {p : String} {ed : Array Edge} {g : Option (Nat × Bool)} : Yields P a ⟨d, .convert src dst x, t, p, ed, g⟩ w (.string ⟨bs.toArray⟩) := by
 unfold Yields execOp
 simp only [S.eval hx, Sem.run_bind]
 rcases h.2.2 with ⟨rfl, h0⟩ | ⟨ad, cap, rfl, hc, hm, ha, hsp⟩
 ·have : bs = [] := List.eq_nil_of_length_eq_zero h0
  subst this
  rw [run_convert_bytes_string w src dst e none 0 0 hs he hd]
  rfl
 ·rw [run_convert_bytes_back w src dst e ad cap bs hs he hd (fun j hj => ha.addA (fun hne => (hsp (by omega)).1) j _ (by simp [bcells, hj]))]
  rfl
theorem y_eqlStr {x y : Operand} {s r : ByteArray} {xt : TypeId} (S : SeesD ds n a L) (hx : val L x = some (.string s)) (hy : val L y = some (.string r)) {d : Option Tmp} {yt t : TypeId} {p : String} {e : Array Edge} {g : Option (Nat × Bool)} :
 Yields P a ⟨d, .binOp .eql xt x y yt, t, p, e, g⟩ w (.bool (s.toList == r.toList)) := by
 unfold Yields execOp; simp only [S.eval hx, S.eval hy]; rfl
theorem y_eqlBool {x y : Operand} {b c : Bool} {xt : TypeId} (hU : P.underlying xt = some .bool) (S : SeesD ds n a L) (hx : val L x = some (.bool b)) (hy : val L y = some (.bool c)) {d : Option Tmp} {yt t : TypeId} {p : String} {e : Array Edge} {g : Option (Nat × Bool)} :
 Yields P a ⟨d, .binOp .eql xt x y yt, t, p, e, g⟩ w (.bool (b == c)) := by
 unfold Yields execOp; simp only [S.eval hx, S.eval hy, eqGuard, Sem.run_bind]
 simp [run_eql_bool w xt b c hU, go_sem]
theorem sc_ret (h : Q .ret a w) : Exit.noGoto Q .ret a w := h
end Go.Proofs.YtdcgcgifgnaccaaGreat
namespace Go.Proofs.YtdcgcgifgnaccaaGreat
open Go.RowKit Go.Sort
variable {ds : List Deferred}
variable {P : Program} {ops : Array Oper} {Q : Exit → Act → World → Prop} {rest : List Oper} {n d : Nat} {a : Act} {L : List (Nat × Value)} {w w0 : World} {v : Value} {o : Oper} {H : List Ent}
theorem wrap_u32_toNat (p : BitVec 32) : IntKind.u32.wrap (p.toNat : Int) = (p.toNat : Int) := by
 have := p.isLt
 simp only [IntKind.wrap, IntKind.bits, IntKind.signed]
 simp; omega
theorem ofInt_toNat32 (p : BitVec 32) : BitVec.ofInt 32 (p.toNat : Int) = p := by
 rw [BitVec.ofInt_natCast]; simp
theorem wrap_u32 (i : Int) : IntKind.u32.wrap i = ((BitVec.ofInt 32 i).toNat : Int) := by
 simp only [IntKind.wrap, IntKind.bits, IntKind.signed, BitVec.toNat_ofInt]
 simp
 have : (0 : Int) ≤ i % 4294967296 := by omega
 omega
theorem y_xor32 {x y : Operand} {r q : BitVec 32} (S : SeesD ds n a L) (hx : val L x = some (.int .u32 (r.toNat : Int))) (hy : val L y = some (.int .u32 (q.toNat : Int))) {d : Option Tmp} {xt yt t : TypeId} {p : String} {e : Array Edge} {g : Option (Nat × Bool)} :
 Yields P a ⟨d, .binOp .xor xt x y yt, t, p, e, g⟩ w (.int .u32 ((r ^^^ q).toNat : Int)) := by
 refine y_int S hx hy ?_; simp only [intBin, IntKind.bits, ofInt_toNat32, wrap_u32_toNat]; rfl
theorem y_and32 {x y : Operand} {r q : BitVec 32} (S : SeesD ds n a L) (hx : val L x = some (.int .u32 (r.toNat : Int))) (hy : val L y = some (.int .u32 (q.toNat : Int))) {d : Option Tmp} {xt yt t : TypeId} {p : String} {e : Array Edge} {g : Option (Nat × Bool)} :
 Yields P a ⟨d, .binOp .and xt x y yt, t, p, e, g⟩ w (.int .u32 ((r &&& q).toNat : Int)) := by
 refine y_int S hx hy ?_; simp only [intBin, IntKind.bits, ofInt_toNat32, wrap_u32_toNat]; rfl
theorem beq_toNat32 (r q : BitVec 32) : ((r.toNat : Int) == (q.toNat : Int)) = (r == q) := by
 rw [Bool.eq_iff_iff]; simp only [beq_iff_eq]
 constructor
 ·intro h; exact BitVec.eq_of_toNat_eq (by omega)
 ·intro h; rw [h]
theorem y_eql32 {x y : Operand} {r q : BitVec 32} (S : SeesD ds n a L) (hx : val L x = some (.int .u32 (r.toNat : Int))) (hy : val L y = some (.int .u32 (q.toNat : Int))) {d : Option Tmp} {xt yt t : TypeId} {p : String} {e : Array Edge} {g : Option (Nat × Bool)} :
 Yields P a ⟨d, .binOp .eql xt x y yt, t, p, e, g⟩ w (.bool (r == q)) := by
 refine y_int S hx hy ?_; simp only [intBin, beq_toNat32]
theorem y_shr32 {x y : Operand} {r : BitVec 32} {yk : IntKind} {k : Nat} (S : SeesD ds n a L) (hx : val L x = some (.int .u32 (r.toNat : Int))) (hy : val L y = some (.int yk (k : Int))) {d : Option Tmp} {xt yt t : TypeId} {p : String} {e : Array Edge} {g : Option (Nat × Bool)} :
 Yields P a ⟨d, .binOp .shr xt x y yt, t, p, e, g⟩ w (.int .u32 ((r >>> k).toNat : Int)) := by
 have h := y_shr (P := P) (w := w) S hx hy (by omega) (d := d) (xt := xt) (yt := yt) (t := t) (p := p) (e := e) (g := g)
 have e2 : (r.toNat : Int).fdiv (2 ^ (min (k : Int).toNat IntKind.u32.bits)) = ((r >>> k).toNat : Int) := by
  rw [Int.fdiv_eq_ediv_of_nonneg _ (Int.pow_nonneg (by omega))]
  have hlt := r.isLt
  simp only [BitVec.toNat_ushiftRight, Nat.shiftRight_eq_div_pow, Int.toNat_natCast, IntKind.bits]
  rcases Nat.le_total k 32 with hk | hk
  ·rw [Nat.min_eq_left hk]; simp
  ·rw [Nat.min_eq_right hk]
   have h1 : r.toNat / 2 ^ k = 0 := Nat.div_eq_of_lt (Nat.lt_of_lt_of_le hlt (Nat.pow_le_pow_right (by omega) hk))
   rw [h1]
   have h2 : r.toNat / 2 ^ 32 = 0 := Nat.div_eq_of_lt hlt
   have := congrArg (fun z : Nat => (z : Int)) h2
   simpa using this
 rw [e2] at h; exact h
theorem y_compl32 {x : Operand} {r : BitVec 32} (S : SeesD ds n a L) (hx : val L x = some (.int .u32 (r.toNat : Int))) {d : Option Tmp} {xt t : TypeId} {p : String} {e : Array Edge} {g : Option (Nat × Bool)} :
 Yields P a ⟨d, .unOp .xor xt x, t, p, e, g⟩ w (.int .u32 ((~~~r).toNat : Int)) := by
 have h := y_compl (P := P) (w := w) S hx (d := d) (xt := xt) (t := t) (p := p) (e := e) (g := g)
 rw [ofInt_toNat32, wrap_u32_toNat] at h
 rw [show BitVec.ofInt 32 4294967295 = BitVec.allOnes 32 from rfl, BitVec.allOnes_xor] at h
 exact h
theorem y_to32 {x : Operand} {k : IntKind} {i : Int} {src dst : TypeId} (S : SeesD ds n a L) (hx : val L x = some (.int k i)) (hs : (P.underlying src).isSome = true) (hd : P.underlying dst = some (.int .u32)) {d : Option Tmp} {t : TypeId} {p : String} {e : Array Edge} {g : Option (Nat × Bool)} :
 Yields P a ⟨d, .convert src dst x, t, p, e, g⟩ w (.int .u32 ((BitVec.ofInt 32 i).toNat : Int)) := by
 have h := y_conv (P := P) (w := w) S hx hs hd (d := d) (t := t) (p := p) (e := e) (g := g)
 rw [wrap_u32] at h; exact h
theorem st_callV {f : FuncId} {fx : Operand} {xs : List Operand} {vs : List Value} {R : Ending → World → Prop} (S : SeesD ds n a L) {d : Nat} {ts : Array TypeId} {t : TypeId} {p : String} {e : Array Edge} {g : Option (Nat × Bool)}
 (hE : Enters P f) (hg : gd ops L ⟨some d, .call { callee := .value fx, args := xs.toArray, argTypes := ts }, t, p, e, g⟩ = some true) (hn : Nat.blt d n = true) (hf : val L fx = some (.func (.func f) #[] #[])) (hx : vals L xs = some vs) (hC : Calls P f vs.toArray w R)
 (k : ∀ e w', R e w' → ∃ v, e = .returned v ∧ ∀ a, SeesD ds n a ((d, v) :: L) → wpList P ops Q rest a w') : wpList P ops Q (⟨some d, .call { callee := .value fx, args := xs.toArray, argTypes := ts }, t, p, e, g⟩ :: rest) a w := by
 unfold wpList
 rw [if_pos (gd_spec S hg)]
 refine .inl ?_
 unfold Oper.wp
 have h : xs.toArray.map a.eval = vs.toArray := by rw [← S.evals hx]; simp
 have hr : (execOp a.eval ⟨some d, .call { callee := .value fx, args := xs.toArray, argTypes := ts }, t, p, e, g⟩).run P w = .ok (.enter f vs.toArray) w := by
  unfold execOp
  simp only [resolve, h, S.eval hf, Deferred.ofValue, Sem.run_bind, Sem.run_pure, Result.andThen_ok, invoke, Array.append_empty, Array.empty_append]
  exact hE _ _
 rw [hr, Oper.upon_enter]
 refine hC.mono fun e w' hR => ?_
 obtain ⟨v, rfl, hk⟩ := k e w' hR
 exact hk _ (S.put hn v)
def ResOk (P : Program) (w : World) (L : List (Nat × Value)) (r : ResultVar) (v : Value) : Prop :=
 match r with
 | .tmp t => look L t = some v
 | .cell t T => ∃ b o, look L t = some (.pointer (some ⟨b, o, none⟩)) ∧ ((plainB P T = true ∧ w.cell? ⟨b, o, none⟩ = some v) ∨ ∃ k cs, aggB P T = some k ∧ cs.length = k ∧ CellsAt w b o cs ∧ v = .agg cs.toArray)
theorem res_tmp {t : Nat} (h : look L t = some v) : ResOk P w L (.tmp t) v := h
theorem res_agg {t T k b o : Nat} {cs : List Value} (hT : aggB P T = some k) (ht : look L t = some (.pointer (some ⟨b, o, none⟩))) (hk : cs.length = k) (hc : CellsAt w b o cs) : ResOk P w L (.cell t T) (.agg cs.toArray) :=
 ⟨b, o, ht, .inr ⟨k, cs, hT, hk, hc, rfl⟩⟩
theorem res_cell {t T b o : Nat} (hT : plainB P T = true) (ht : look L t = some (.pointer (some ⟨b, o, none⟩))) (hc : w.cell? ⟨b, o, none⟩ = some v) : ResOk P w L (.cell t T) v := ⟨b, o, ht, .inl ⟨hT, hc⟩⟩
inductive ResAll (P : Program) (w : World) (L : List (Nat × Value)) : List ResultVar → List Value → Prop
 | nil : ResAll P w L [] []
 | cons {r : ResultVar} {v : Value} {rs : List ResultVar} {vs : List Value} : ResOk P w L r v → ResAll P w L rs vs → ResAll P w L (r :: rs) (v :: vs)
def resOne (tmps : Array Value) : ResultVar → Sem Value
 | .tmp t => pure (tmps.getD t undef)
 | .cell a t => do loadVar t (← asAddr (tmps.getD a undef))
theorem run_resOne (S : SeesD ds n a L) {r : ResultVar} (h : ResOk P w L r v) : (resOne a.tmps r).run P w = .ok v w := by
 cases r with
 | tmp t =>
   have h : look L t = some v := h
   simp only [resOne, S.at_ t v h (S.lt t v h), Sem.run_pure]
 | cell t T =>
   obtain ⟨b, o, ht, h⟩ := h
   have hv := S.at_ t _ ht (S.lt t _ ht)
   simp only [resOne, hv, asAddr, Sem.run_bind, Sem.run_pure, Result.andThen_ok, loadVar]
   rcases h with ⟨hT, hc⟩ | ⟨k, cs, hT, hk, hc, rfl⟩
   ·simp only [run_isAgg_plain hT, Result.andThen_ok]
    simp [load, hc, Sem.run, go_sem]
   ·obtain ⟨h1, i, hi, hs⟩ := aggB_spec hT
    have hl := loadCellsFrom_run (P := P) (w := w) (b := b) (o := o) cs 0 #[] (fun j hj => by rw [Nat.zero_add]; exact hc j hj)
    rw [hk] at hl
    simp only [h1, Result.andThen_ok, if_true, Sem.run_bind, run_sizeOf hi, hs, loadCells, hl, Sem.run_pure]
    simp
theorem run_resAll (S : SeesD ds n a L) : ∀ {rs : List ResultVar} {vs : List Value}, ResAll P w L rs vs → (rs.mapM (resOne a.tmps)).run P w = .ok vs w
 | [], _, .nil => rfl
 | r :: rs, _, .cons h hs => by
   rw [List.mapM_cons]
   simp only [Sem.run_bind, run_resOne S h, Result.andThen_ok, run_resAll S hs, Sem.run_pure]
theorem run_results {fn : Func} {rs : List ResultVar} {vs : List Value} (S : SeesD ds n a L) (hr : fn.results = rs.toArray) (h : ResAll P w L rs vs) : (results fn a.tmps).run P w = .ok (if h : vs.toArray.size = 1 then vs.toArray[0] else .tuple vs.toArray) w := by
 have e : results fn a.tmps = (do let vs ← fn.results.mapM (resOne a.tmps); pure (if h : vs.size = 1 then vs[0] else .tuple vs)) := by
  unfold results
  congr 2
 rw [e, hr, List.mapM_toArray]
 simp only [Sem.run_bind]
 have hm : (List.toArray <$> rs.mapM (resOne a.tmps)).run P w = .ok vs.toArray w := by
  show (Sem.bind (rs.mapM (resOne a.tmps)) (fun x => Sem.pure x.toArray)).run P w = _
  rw [show ∀ (x : Sem (List Value)) (k : List Value → Sem (Array Value)), (Sem.bind x k).run P w = (x.run P w).andThen fun y w' => (k y).run P w' from fun x k => Sem.run_bind .., run_resAll S h]
  rfl
 rw [hm]
 rfl
theorem end_one {fn : Func} {R : Ending → World → Prop} {r : ResultVar} (S : Sees n a L) (hr : fn.results = #[r]) (h1 : ResOk P w L r v) (h : R (.returned v) w) : bodyPost P fn R .ret a w :=
 bodyPost_ret (run_results (rs := [r]) (vs := [v]) S hr (.cons h1 .nil)) S.defers h
theorem end_two {fn : Func} {R : Ending → World → Prop} {r r' : ResultVar} {v' : Value} (S : Sees n a L) (hr : fn.results = #[r, r']) (h1 : ResOk P w L r v) (h2 : ResOk P w L r' v') (h : R (.returned (.tuple #[v, v'])) w) : bodyPost P fn R .ret a w :=
 bodyPost_ret (run_results (rs := [r, r']) (vs := [v, v']) S hr (.cons h1 (.cons h2 .nil))) S.defers h
theorem end_three {fn : Func} {R : Ending → World → Prop} {r r' r'' : ResultVar} {v' v'' : Value} (S : Sees n a L) (hr : fn.results = #[r, r', r'']) (h1 : ResOk P w L r v) (h2 : ResOk P w L r' v') (h3 : ResOk P w L r'' v'') (h : R (.returned (.tuple #[v, v', v''])) w) : bodyPost P fn R .ret a w :=
 bodyPost_ret (run_results (rs := [r, r', r'']) (vs := [v, v', v'']) S hr (.cons h1 (.cons h2 (.cons h3 .nil)))) S.defers h
theorem cutL_all' : ∀ l : List Value, cutL l 0 l.length = some l
 | [] => rfl
 | c :: l => by simp only [List.length_cons, cutL, cutL_all' l, Option.map_some]
theorem cutL_all {l : List Value} : cutL l.toArray.toList 0 l.length = some l := cutL_all' l
theorem least {p : Nat → Prop} : ∀ m, p m → ∃ k, p k ∧ ∀ j, j < k → ¬ p j := by
 intro m
 induction m using Nat.strongRecOn with
 | _ m ih =>
   intro hm
   by_cases h : ∃ j, j < m ∧ p j
   ·obtain ⟨j, hj, hp⟩ := h; exact ih j hj hp
   ·exact ⟨m, hm, fun j hj hp => h ⟨j, hj, hp⟩⟩
open Classical in
theorem wp_loop_g {c : Code} (I : Nat → Act → World → Prop) (m0 : Nat) (h0 : I m0 a w) (round : ∀ m a w, I m a w → c.wp P (Exit.then (fun a' w' => ∃ m', m' < m ∧ I m' a' w') Q) a w) : (Code.loop c).wp P Q a w := by
 let μ : Act → World → Nat := fun a w => if h : ∃ k, I k a w ∧ ∀ j, j < k → ¬ I j a w then Classical.choose h else 0
 have hμ : ∀ a w m, I m a w → I (μ a w) a w ∧ μ a w ≤ m := fun a w m hm => by
  have h := least (p := fun k => I k a w) m hm
  have hs := Classical.choose_spec h
  have e : μ a w = Classical.choose h := dif_pos h
  rw [e]
  exact ⟨hs.1, Nat.le_of_not_lt fun hlt => hs.2 m hlt hm⟩
 refine wp_loop (fun a w => ∃ m, I m a w) μ ⟨m0, h0⟩ fun a w ⟨m, hm⟩ => ?_
 refine wp_mono (round _ a w (hμ a w m hm).1) fun e a' w' h => ?_
 cases e <;> try exact h
 obtain ⟨m', hlt, hm'⟩ := h
 exact ⟨⟨m', hm'⟩, Nat.lt_of_le_of_lt (hμ a' w' m' hm').2 hlt⟩
end Go.Proofs.YtdcgcgifgnaccaaGreat
namespace Go.Proofs.YtdcgcgifgnaccaaGreat
open Go.RowKit Go.Sort
variable {ds : List Deferred}
variable {P : Program} {ops : Array Oper} {Q : Exit → Act → World → Prop} {rest : List Oper} {n d : Nat} {a : Act} {L : List (Nat × Value)} {w w0 : World} {v : Value} {o : Oper} {H : List Ent}
def adr : Value → Addr
 | .slice (some a) _ _ => a
 | _ => ⟨0, 0, none⟩
def capV : Value → Nat
 | .slice _ _ c => c
 | _ => 0
def cutV (v : Value) (i j m sz : Nat) : Value :=
 match v with
 | .slice ad _ _ => .slice (subA ad i m sz) (j - i) (m - i)
 | v => v
theorem Rd.cap {lo hi sz m : Nat} {x : Value} {cs : List Value} (h : Rd lo hi w sz x m cs) : m ≤ capV x ∧ capV x ≤ maxLen := by
 obtain ⟨ad, cap, rfl, h1, h2⟩ := h.form; exact ⟨h1, h2⟩
theorem Rd.at_ {lo hi sz m : Nat} {x : Value} {cs : List Value} (h : Rd lo hi w sz x m cs) : CellsAt w (adr x).block (adr x).off cs := by
 rcases h.2.2 with ⟨rfl, rfl⟩ | ⟨ad, cap, rfl, hc, hm, ha, _⟩
 ·have : cs = [] := List.eq_nil_of_length_eq_zero (by simpa using h.1)
  subst this; intro j hj; simp at hj
 ·exact ha
theorem Rd.cutv {lo hi sz m i j mx : Nat} {x : Value} {cs : List Value} (h : Rd lo hi w sz x m cs) (h1 : i ≤ j) (h2 : j ≤ m) (h3 : j ≤ mx) (h4 : mx ≤ capV x) : Rd lo hi w sz (cutV x i j mx sz) (j - i) ((cs.drop (i * sz)).take ((j - i) * sz)) := by
 obtain ⟨ad, cap, rfl, _, _⟩ := h.form
 exact h.cut h1 h2 h3 h4
theorem y_lenR {x : Operand} {u : Value} {lo hi sz m : Nat} {cs : List Value} {T E : TypeId} (S : SeesD ds n a L) (hx : val L x = some u) (hR : Rd lo hi w sz u m cs) (hU : P.underlying T = some (.slice E)) {d : Option Tmp} {t : TypeId} {p : String} {e : Array Edge} {g : Option (Nat × Bool)} :
 Yields P a ⟨d, .call { callee := .builtin .len, args := #[x], argTypes := #[T] }, t, p, e, g⟩ w (.int .i64 (m : Int)) := by
 obtain ⟨ad, cap, rfl, _, _⟩ := hR.form
 exact y_lenS S hx hU
theorem y_indexR {x ix : Operand} {u : Value} {lo hi m t e sz : Nat} {cs : List Value} {k : IntKind} {i : Int} (S : SeesD ds n a L) (hE : sliceElem P t = some (e, sz)) (hx : val L x = some u) (hR : Rd lo hi w sz u m cs) (hi : val L ix = some (.int k i)) (h : 0 ≤ i ∧ i < m)
 {d : Option Tmp} {ty : TypeId} {p : String} {ed : Array Edge} {g : Option (Nat × Bool)} : Yields P a ⟨d, .indexAddr t x ix, ty, p, ed, g⟩ w (.pointer (some ⟨(adr u).block, (adr u).off + i.toNat * sz, none⟩)) := by
 obtain ⟨b, o, cap, rfl, _⟩ := hR.place (by omega)
 exact y_indexS S hE hx hi h
theorem y_slice3R {x lo hi mx : Operand} {u : Value} {l r m t e sz : Nat} {cs : List Value} {i j k : Int} {k1 k2 k3 : IntKind} (S : SeesD ds n a L) (hE : sliceElem P t = some (e, sz)) (hx : val L x = some u) (hR : Rd l r w sz u m cs) (h1 : val L lo = some (.int k1 i)) (h2 : val L hi = some (.int k2 j)) (h3 : val L mx = some (.int k3 k))
 (h : 0 ≤ i ∧ i ≤ j ∧ j ≤ k ∧ k ≤ m) {d : Option Tmp} {ty : TypeId} {p : String} {ed : Array Edge} {g : Option (Nat × Bool)} :
 Yields P a ⟨d, .slice t x (some lo) (some hi) (some mx), ty, p, ed, g⟩ w (cutV u i.toNat j.toNat k.toNat sz) := by
 have hc := hR.cap
 obtain ⟨ad, cap, rfl, h4, _⟩ := hR.form
 exact y_slice3 S hE hx h1 h2 h3 (by omega)
theorem y_slice1R {x lo : Operand} {u : Value} {l r m t e sz : Nat} {cs : List Value} {i : Int} {k1 : IntKind} (S : SeesD ds n a L) (hE : sliceElem P t = some (e, sz)) (hx : val L x = some u) (hR : Rd l r w sz u m cs) (h1 : val L lo = some (.int k1 i))
 (h : 0 ≤ i ∧ i ≤ m) {d : Option Tmp} {ty : TypeId} {p : String} {ed : Array Edge} {g : Option (Nat × Bool)} :
 Yields P a ⟨d, .slice t x (some lo) none none, ty, p, ed, g⟩ w (cutV u i.toNat m (capV u) sz) := by
 obtain ⟨ad, cap, rfl, h4, _⟩ := hR.form
 exact y_slice1 S hE hx h1 (by omega)
theorem y_slice03R {x hi mx : Operand} {u : Value} {l r m t e sz : Nat} {cs : List Value} {j k : Int} {k2 k3 : IntKind} (S : SeesD ds n a L) (hE : sliceElem P t = some (e, sz)) (hx : val L x = some u) (hR : Rd l r w sz u m cs) (h2 : val L hi = some (.int k2 j)) (h3 : val L mx = some (.int k3 k))
 (h : 0 ≤ j ∧ j ≤ k ∧ k ≤ m) {d : Option Tmp} {ty : TypeId} {p : String} {ed : Array Edge} {g : Option (Nat × Bool)} :
 Yields P a ⟨d, .slice t x none (some hi) (some mx), ty, p, ed, g⟩ w (cutV u 0 j.toNat k.toNat sz) := by
 obtain ⟨ad, cap, rfl, h4, _⟩ := hR.form
 have e0 : subA ad 0 k.toNat sz = ad := by unfold subA; split <;> (cases ad <;> simp [Addr.add])
 have := y_slice03 (P := P) (w := w) S hE hx h2 h3 (by omega) (d := d) (ty := ty) (p := p) (ed := ed) (g := g)
 simpa [cutV, e0] using this
theorem Rd.byte {lo hi i : Nat} {bs : List UInt8} {b : UInt8} (h : Bs lo hi w v bs) (hb : bs[i]? = some b) : w.cell? ⟨(adr v).block, (adr v).off + i, none⟩ = some (.int .u8 (b.toNat : Int)) := by
 have hlt := (List.getElem?_eq_some_iff.1 hb).1
 rw [h.at_ i (by simpa [bcells] using hlt), bcells_get hb]
theorem Rd.cutB {lo hi i j mx : Nat} {bs : List UInt8} (h : Bs lo hi w v bs) (h1 : i ≤ j) (h2 : j ≤ bs.length) (h3 : j ≤ mx) (h4 : mx ≤ capV v) : Bs lo hi w (cutV v i j mx 1) ((bs.drop i).take (j - i)) := by
 have := h.cutv h1 h2 h3 h4
 rw [Nat.mul_one, Nat.mul_one, bcells_cut] at this
 have e : ((bs.drop i).take (j - i)).length = j - i := by simp; omega
 unfold Bs; rw [e]; exact this
end Go.Proofs.YtdcgcgifgnaccaaGreat
namespace Go.Proofs.YtdcgcgifgnaccaaGreat
open Go.RowKit Go.Sort
variable {ds : List Deferred}
variable {P : Program} {ops : Array Oper} {Q : Exit → Act → World → Prop} {rest : List Oper} {n d : Nat} {a : Act} {L : List (Nat × Value)} {w w0 : World} {v : Value} {o : Oper} {H : List Ent}
structure Fresh (w w' : World) (e sz : Nat) (v : Value) (n : Nat) (cs : List Value) : Prop where
 below : Below w.heap.size w w'
 row : ∃ lo hi, w.heap.size ≤ lo ∧ hi ≤ w'.heap.size ∧ w'.ownsRow lo e sz v n cs ∧ ∀ k, v.ownBlock = some k → lo ≤ k ∧ k < hi
theorem Mem.fresh {w' : World} {lo hi e sz m : Nat} {x : Value} {cs : List Value} (M : Mem w w' H) (p : Nat) (h : H[p]? = some (rowE lo hi e sz x m cs)) : Fresh w w' e sz x m cs := by
 have f := M.fits _ (List.mem_of_getElem? h)
 obtain ⟨h1, h2⟩ := M.own p h
 exact ⟨M.below, lo, hi, f.1, f.2, h1, h2⟩
theorem Mem.freshNil {w' : World} (M : Mem w w' H) (e sz : Nat) : Fresh w w' e sz (.slice none 0 0) 0 [] := (M.rowNil e sz).fresh 0 rfl
theorem Mem.pushFresh {w' : World} {e sz m : Nat} {x : Value} {cs : List Value} (M : Mem w0 w H) (h : Fresh w w' e sz x m cs) : ∃ lo hi, w.heap.size ≤ lo ∧ Mem w0 w' (rowE lo hi e sz x m cs :: H) := by
 obtain ⟨hb, lo, hi, h1, h2, h3, h4⟩ := h
 exact ⟨lo, hi, h1, M.push hb _ (rowE_ok h3 h4) h1 h2⟩
theorem Fresh.rd {w' : World} {e sz m : Nat} {x : Value} {cs : List Value} (h : Fresh w w' e sz x m cs) (hm : m ≤ maxLen) : Rd w.heap.size w'.heap.size w' sz x m cs := by
 obtain ⟨hb, lo, hi, h1, h2, h3, h4⟩ := h
 exact (Rd.of_row h3 h4 hm).wide h1 h2
open Classical in
noncomputable def ifL {α : Type} (p : Prop) (l : List α) : List α := if p then l else []
theorem ifL_pos {α : Type} {p : Prop} {l : List α} (h : p) : ifL p l = l := by unfold ifL; rw [if_pos h]
theorem ifL_neg {α : Type} {p : Prop} {l : List α} (h : ¬ p) : ifL p l = [] := by unfold ifL; rw [if_neg h]
theorem fresh_if {w' : World} {p : Prop} {e : Nat} {x : Value} {bs : List UInt8} (hK : Below w.heap.size w w') (h1 : p → Fresh w w' e 1 x bs.length (bcells bs)) (h2 : ¬ p → x = .slice none 0 0) : Fresh w w' e 1 x (ifL p bs).length (bcells (ifL p bs)) := by
 by_cases h : p
 ·rw [ifL_pos h]; exact h1 h
 ·rw [ifL_neg h, h2 h]; exact ((Mem.start w).grow hK).freshNil e 1
def isNilV : Value → Bool
 | .slice a _ _ => a.isNone
 | _ => false
theorem Rd.nilV {lo hi sz m : Nat} {x : Value} {cs : List Value} (h : Rd lo hi w sz x m cs) (hn : isNilV x = true) : x = .slice none 0 0 ∧ m = 0 ∧ cs = [] := by
 rcases h.2.2 with ⟨rfl, rfl⟩ | ⟨ad, cap, rfl, _⟩
 ·exact ⟨rfl, rfl, List.eq_nil_of_length_eq_zero (by simpa using h.1)⟩
 ·simp [isNilV] at hn
theorem y_eqlNil {x : Operand} {u : Value} {lo hi sz m c c' : Nat} {cs : List Value} {xt e : TypeId} (S : SeesD ds n a L) (hx : val L x = some u) (hR : Rd lo hi w sz u m cs) (hU : P.underlying xt = some (.slice e)) {d : Option Tmp} {yt t : TypeId} {p : String} {ed : Array Edge} {g : Option (Nat × Bool)} :
 Yields P a ⟨d, .binOp .eql xt x (.const (.slice none c c')) yt, t, p, ed, g⟩ w (.bool (isNilV u)) := by
 obtain ⟨ad, cap, rfl, _, _⟩ := hR.form
 unfold Yields execOp
 have hc : a.eval (.const (.slice none c c')) = .slice none c c' := rfl
 simp only [S.eval hx, hc, eqGuard, Sem.run_bind]
 simp [Lib.run_eql_slice_nil w xt e ad m cap c c' hU, isNilV, go_sem]
theorem strEq (x y : List UInt8) : ((⟨x.toArray⟩ : ByteArray).toList == (⟨y.toArray⟩ : ByteArray).toList) = (x == y) := by
 rw [← beq_toListBytes]
 have h : ((⟨x.toArray⟩ : ByteArray) == (⟨y.toArray⟩ : ByteArray)) = (x.toArray == y.toArray) := rfl
 rw [h, Bool.eq_iff_iff]
 simp
theorem putL_eq : ∀ (us l : List Value) (o : Nat), o + us.length ≤ l.length → putL l o us = l.take o ++ us ++ l.drop (o + us.length)
 | [], l, o, h => by simp [putL]
 | u :: us, l, o, h => by
   simp only [List.length_cons] at h
   rw [putL, putL_eq us (l.set o u) (o + 1) (by simp; omega)]
   have h1 : (l.set o u).take (o + 1) = l.take o ++ [u] := by
    rw [List.take_succ_eq_append_getElem (by simp; omega), List.take_set_of_le (Nat.le_refl o)]
    simp
   have h2 : (l.set o u).drop (o + 1 + us.length) = l.drop (o + (us.length + 1)) := by
    rw [List.drop_set_of_lt (by omega)]; congr 1; omega
   rw [h1, h2]; simp
theorem putL_same {us l : List Value} {o : Nat} (h : o + us.length ≤ l.length) : ((putL l o us).drop o).take us.length = us := by
 rw [putL_eq us l o h, List.append_assoc, List.drop_append_of_le_length (by simp; omega), List.drop_of_length_le (by simp; omega)]
 simp
theorem putL_ahead {us l : List Value} {o i k : Nat} (h : o + us.length ≤ l.length) (hk : i + k ≤ o) : ((putL l o us).drop i).take k = (l.drop i).take k := by
 rw [putL_eq us l o h, List.append_assoc, List.drop_append_of_le_length (by simp; omega), List.take_append_of_le_length (by simp; omega)]
 rw [List.drop_take, List.take_take]; congr 1; omega
theorem CellsAt.one {b o : Nat} {cs : List Value} {u : Value} (h : CellsAt w b o cs) (k : Nat) (hu : cs[k]? = some u) : w.cell? ⟨b, o + k, none⟩ = some u := (h k (List.getElem?_eq_some_iff.1 hu).1).trans hu
theorem Mem.merge {e1 e2 : Ent} (M : Mem w0 w (e1 :: e2 :: H)) (lo hi : Nat) (φ : World → Prop) (hlo : w0.heap.size ≤ lo) (hhi : hi ≤ w.heap.size) (hH : ∀ f ∈ H, f.hi ≤ lo ∨ hi ≤ f.lo) (hφ : ∀ w', SameOn lo hi w w' → φ w') : Mem w0 w (.own lo hi φ :: H) := by
 have M' : Mem w0 w H := M.sub ((List.sublist_cons_self ..).trans (List.sublist_cons_self ..))
 refine ⟨M'.below, fun f hf => ?_, fun f hf => ?_, .cons (fun f hf => (hH f hf).symm) M'.apart⟩
 ·rcases List.mem_cons.1 hf with rfl | hf
  ·exact hφ
  ·exact M'.ok f hf
 ·rcases List.mem_cons.1 hf with rfl | hf
  ·exact ⟨hlo, hhi⟩
  ·exact M'.fits f hf
theorem SameOn.sub {lo hi lo' hi' : Nat} {w w' : World} (h : SameOn lo hi w w') (h1 : lo ≤ lo') (h2 : hi' ≤ hi) : SameOn lo' hi' w w' := fun k a b => h k (by omega) (by omega)
theorem Mem.ownAll {lo hi : Nat} {φ : World → Prop} (M : Mem w0 w H) (p : Nat) (h : H[p]? = some (.own lo hi φ)) : ∀ w', SameOn lo hi w w' → φ w' := M.get p h
theorem Mem.pushTriv (M : Mem w0 w H) (φ : World → Prop) (h : ∀ w', φ w') : Mem w0 w (.own w.heap.size w.heap.size φ :: H) :=
 M.push (ext_refl w) _ (fun w' _ => h w') (Nat.le_refl _) (Nat.le_refl _)
end Go.Proofs.YtdcgcgifgnaccaaGreat

namespace Go.Proofs.YtdcgcgifgnaccaaGreat
open Go.RowKit Go.Sort
variable {ds : List Deferred}
variable {P : Program} {ops : Array Oper} {Q : Exit → Act → World → Prop} {md : Region.Mode} {nk : List Nat}
def wpK (P : Program) (md : Region.Mode) (ops : Array Oper) (nk : List Nat) (Q : Exit → Act → World → Prop) : Nat → Array Bool → Act → World → Prop
 | 0, listed, a, w => Region.ready md ops listed = [] ∧ Q .normal a w
 | f + 1, listed, a, w => (Region.ready md ops listed = [] → Q .normal a w) ∧
   ∀ i ∈ Region.ready md ops listed, wpOp P ops Q i (fun a' w' => (nk.contains i = false → Below w.heap.size w w') ∧ wpK P md ops nk Q f (listed.setIfInBounds i true) a' w') a w
theorem wpAny_of_wpK : ∀ (f : Nat) (listed : Array Bool) (a : Act) (w : World), wpK P md ops nk Q f listed a w → wpAny P md ops Q f listed a w
 | 0, _, _, _, h => h
 | f + 1, _, _, _, h => ⟨h.1, fun i hi => wpOp_mono (fun a' w' h' => wpAny_of_wpK f _ a' w' h'.2) (h.2 i hi)⟩
def YieldsB (P : Program) (ops : Array Oper) (C : World → Prop) (o : Oper) (v : Value) (a : Act) : Prop :=
 (Region.wanted o (yielded ops a.tmps) = true ∧ ∀ W, C W → (execOp a.eval o).run P W = .ok (.value v) W) ∨ (Region.wanted o (yielded ops a.tmps) = false ∧ v = undef)
theorem YieldsB.wpOp {i : Nat} {o : Oper} {v : Value} {a : Act} {w : World} {C : World → Prop} (hi : ops[i]? = some o) (hy : YieldsB P ops C o v a) (hc : C w) {K : Act → World → Prop} (h : K (a.put o.dst v) w) : wpOp P ops Q i K a w := by
 unfold Go.wpOp
 simp only [hi]
 rcases hy with ⟨hw, hv⟩ | ⟨hw, rfl⟩
 ·simp only [hw, if_true, Oper.wp, hv w hc, Oper.upon]; exact .inl h
 ·simp only [hw, Bool.false_eq_true, if_false]; exact h
theorem YieldsB.of_same {o : Oper} {v : Value} {a a' : Act} {C : World → Prop} (hy : YieldsB P ops C o v a) (he : execOp a'.eval o = execOp a.eval o)
 (hw : Region.wanted o (yielded ops a'.tmps) = Region.wanted o (yielded ops a.tmps)) : YieldsB P ops C o v a' := by
 unfold YieldsB at *
 rw [he, hw]
 exact hy
theorem YieldsB.later {o : Oper} {v : Value} {a : Act} {C C' : World → Prop} (hy : YieldsB P ops C o v a) (hb : ∀ W, C' W → C W) : YieldsB P ops C' o v a := by
 rcases hy with ⟨hw, hv⟩ | h
 ·exact .inl ⟨hw, fun W hW => hv W (hb W hW)⟩
 ·exact .inr h
theorem wpOp_putB {j : Nat} {oi oj : Oper} {v : Value} (hj : ops[j]? = some oj) (hap : oi.apart ops oj = true)
 (hsi : ∀ cs b, oi.op ≠ .select cs b) (hsj : ∀ cs b, oj.op ≠ .select cs b)
 (hQ : ∀ c a w, Q (.panic c) (a.put oi.dst v) w → Q (.panic c) a w) {K : Act → World → Prop} {a : Act} {w : World} {C : World → Prop}
 (hy : YieldsB P ops C oi v a) (h : wpOp P ops Q j K (a.put oi.dst v) w) :
 wpOp P ops Q j (fun a' w' => YieldsB P ops C oi v a' ∧ K (a'.put oi.dst v) w') a w := by
 obtain ⟨h1, h2, h3⟩ := Oper.apart_spec hap
 have keep : ∀ (a : Act), YieldsB P ops C oi v a → ∀ u, YieldsB P ops C oi v (a.put oj.dst u) := fun a hy u =>
  hy.of_same (execOp_put oi hsi a oj.dst u h3) (wanted_put oi a oj.dst u h3)
 have keepD : ∀ d, YieldsB P ops C oi v { a with defers := d :: a.defers } := fun d => hy.of_same rfl rfl
 unfold wpOp at *
 simp only [hj] at *
 rw [wanted_put oj a oi.dst v h1] at h
 split
 ·rename_i hw
  simp only [hw, if_true] at h
  rcases h with h | ⟨hasks, hlets⟩
  case inr => exact .inr ⟨by unfold Oper.asks at *; rw [execOp_put oj hsj a oi.dst v h1] at hasks; exact hasks, hlets⟩
  refine .inl ?_
  unfold Oper.wp at *
  rw [execOp_put oj hsj a oi.dst v h1] at h
  generalize (execOp a.eval oj).run P w = r at *
  cases r with
  | ok n w' =>
    cases n <;> simp only [Oper.upon] at h ⊢
    case value u => exact ⟨keep a hy u, by rw [← Act.put_comm a v u h2]; exact h⟩
    case skip => exact ⟨keep a hy _, by rw [← Act.put_comm a v undef h2]; exact h⟩
    case defer d =>
     refine ⟨keep _ (keepD d) _, ?_⟩
     rw [← Act.put_comm _ v undef h2, ← Act.put_defers]
     exact h
    case enter f args =>
     refine Calls.mono h fun e w'' he => ?_
     cases e with
     | returned u => exact ⟨keep a hy u, by rw [← Act.put_comm a v u h2]; exact he⟩
     | panicked c => exact hQ _ _ _ he
     | outgrown => exact he
    case row row args => exact Rows.mono h fun u w'' he => ⟨keep a hy u, by rw [← Act.put_comm a v u h2]; exact he⟩
  | halt x w' =>
    cases x <;> simp only [Oper.upon] at h ⊢
    case panic u => exact hQ _ _ _ h
 ·rename_i hw
  simp only [hw] at h
  exact ⟨keep a hy _, by rw [← Act.put_comm a v undef h2]; exact h⟩
def waitsT (md : Region.Mode) (ops : Array Oper) : Nat → Nat → Nat → Bool
 | 0, _, _ => false
 | f + 1, j, i => match ops[j]? with
   | none => false
   | some o => o.after.any fun e => Region.binds md e && (e.on == i || waitsT md ops f e.on i)
def closedB (md : Region.Mode) (ops : Array Oper) (listed : Array Bool) : Bool :=
 (List.range ops.size).all fun j => !listed.getD j false || match ops[j]? with
   | none => true
   | some o => o.after.all fun e => !Region.binds md e || listed.getD e.on false
def Closed (md : Region.Mode) (ops : Array Oper) (listed : Array Bool) : Prop :=
 ∀ j o, ops[j]? = some o → listed.getD j false = true → ∀ e ∈ o.after, Region.binds md e = true → listed.getD e.on false = true
theorem closed_of {listed : Array Bool} (h : closedB md ops listed = true) : Closed md ops listed := fun j o hj hl e he hb => by
 unfold closedB at h
 have h1 := List.all_eq_true.1 h j (List.mem_range.2 (Array.getElem?_eq_some_iff.1 hj).1)
 simp only [hl, Bool.not_true, Bool.false_or, hj] at h1
 have h2 := Array.all_eq_true_iff_forall_mem.1 h1 e he
 simpa [hb] using h2
theorem Closed.set {listed : Array Bool} {j : Nat} (h : Closed md ops listed) (hj : j ∈ Region.ready md ops listed) : Closed md ops (listed.setIfInBounds j true) := fun k o hk hl e he hb => by
 by_cases hjk : j = k
 ·subst hjk
  obtain ⟨_, o', ho', hall⟩ := mem_ready.1 hj
  rw [ho'] at hk; cases hk
  exact getD_set_true (hall e he hb)
 ·rw [getD_set_ne false hjk] at hl
  exact getD_set_true (h k o hk hl e he hb)
theorem waitsT_listed {listed : Array Bool} (hc : Closed md ops listed) {i : Nat} : ∀ (f j : Nat) (o : Oper), ops[j]? = some o → (∀ e ∈ o.after, Region.binds md e = true → listed.getD e.on false = true) → waitsT md ops f j i = true → listed.getD i false = true
 | 0, j, o, _, _, h => by simp [waitsT] at h
 | f + 1, j, o, hj, hall, h => by
   unfold waitsT at h
   simp only [hj] at h
   obtain ⟨e, he, hb⟩ := Array.any_eq_true'.1 h
   simp only [Bool.and_eq_true, Bool.or_eq_true, beq_iff_eq] at hb
   obtain ⟨hb1, hb2⟩ := hb
   rcases hb2 with rfl | hw
   ·exact hall e he hb1
   ·have hl := hall e he hb1
    cases ho : ops[e.on]? with
    | none => cases f <;> simp [waitsT, ho] at hw
    | some o' => exact waitsT_listed hc f e.on o' ho (hc e.on o' ho hl) hw
def freeK (md : Region.Mode) (ops : Array Oper) (nk : List Nat) (listed : Array Bool) (i : Nat) : Bool :=
 match ops[i]? with
 | none => false
 | some oi => (List.range ops.size).all fun j => j == i || listed.getD j true || match ops[j]? with
    | some oj => oj.after.any (fun e => Region.binds md e && e.on == i) || (oi.apart ops oj && (!nk.contains j || waitsT md ops ops.size j i))
    | none => true
def readB (md : Region.Mode) (ops : Array Oper) (nk : List Nat) (listed : Array Bool) (i : Nat) : Bool :=
 Region.noSelect ops && (Region.ready md ops listed).contains i && closedB md ops listed && freeK md ops nk listed i
theorem freeK_spec {i : Nat} {oi : Oper} {listed : Array Bool} (hi : ops[i]? = some oi) (h : freeK md ops nk listed i = true) (j : Nat) (oj : Oper)
 (hj : ops[j]? = some oj) (hne : j ≠ i) (hun : listed.getD j true = false) (hno : ∀ e ∈ oj.after, Region.binds md e = true → e.on ≠ i) :
 oi.apart ops oj = true ∧ (nk.contains j = false ∨ waitsT md ops ops.size j i = true) := by
 simp only [freeK, hi, List.all_eq_true, List.mem_range] at h
 have h1 := h j (Array.getElem?_eq_some_iff.1 hj).1
 simp only [hj, Bool.or_eq_true, beq_iff_eq, hne, false_or, hun, Bool.false_eq_true, Bool.and_eq_true, Bool.not_eq_true'] at h1
 rcases h1 with h1 | h1
 ·obtain ⟨e, he, hb⟩ := Array.any_eq_true'.1 h1
  simp only [Bool.and_eq_true, beq_iff_eq] at hb
  exact absurd hb.2 (hno e he hb.1)
 ·exact h1
theorem getD_false_of_true {listed : Array Bool} {i : Nat} (h : listed.getD i true = false) : listed.getD i false = false := by
 rcases Nat.lt_or_ge i listed.size with h' | h'
 ·simp [h'] at h ⊢; exact h
 ·simp [Array.getElem?_eq_none h'] at h
theorem wpK_first {i : Nat} {oi : Oper} {v : Value} (hi : ops[i]? = some oi) (hsel : ∀ (j : Nat) (o : Oper) cs b, ops[j]? = some o → o.op ≠ .select cs b)
 (hQ : ∀ c a w, Q (.panic c) (a.put oi.dst v) w → Q (.panic c) a w) :
 ∀ (fuel : Nat) (listed : Array Bool) (a : Act) (w : World), Closed md ops listed →
  (∀ j oj, ops[j]? = some oj → j ≠ i → listed.getD j true = false → (∀ e ∈ oj.after, Region.binds md e = true → e.on ≠ i) → oi.apart ops oj = true ∧ (nk.contains j = false ∨ waitsT md ops ops.size j i = true)) →
  i ∈ Region.ready md ops listed → YieldsB P ops (fun W => Below w.heap.size w W) oi v a →
  wpK P md ops nk Q fuel (listed.setIfInBounds i true) (a.put oi.dst v) w → wpK P md ops nk Q (fuel + 1) listed a w := by
 intro fuel
 induction fuel with
 | zero =>
   intro listed a w hcl _ hr hy H
   refine ⟨fun h => (by rw [h] at hr; cases hr), fun j hj => ?_⟩
   by_cases hji : j = i
   ·subst hji; exact hy.wpOp hi (ext_refl w) ⟨fun _ => ext_refl w, H⟩
   ·have := ready_mono hj hji
    rw [H.1] at this
    cases this
 | succ fuel ih =>
   intro listed a w hcl hfree hr hy H
   refine ⟨fun h => (by rw [h] at hr; cases hr), fun j hj => ?_⟩
   by_cases hji : j = i
   ·subst hji; exact hy.wpOp hi (ext_refl w) ⟨fun _ => ext_refl w, H⟩
   ·have h1 := H.2 j (ready_mono hj hji)
    obtain ⟨hjun, oj, hoj, hall⟩ := mem_ready.1 hj
    have hin := getD_false_of_true (mem_ready.1 hr).1
    have hnot : ∀ e ∈ oj.after, Region.binds md e = true → e.on ≠ i := fun e he hb heq => by
     have h1 := hall e he hb
     rw [heq, hin] at h1; cases h1
    obtain ⟨hap, hkw⟩ := hfree j oj hoj hji hjun hnot
    have hkeep : nk.contains j = false := by
     rcases hkw with h | h
     ·exact h
     ·have := waitsT_listed hcl _ j oj hoj hall h
      rw [hin] at this; cases this
    have h2 := wpOp_putB hoj hap (fun cs b => hsel i oi cs b hi) (fun cs b => hsel j oj cs b hoj) hQ hy h1
    have hfree' : ∀ k ok, ops[k]? = some ok → k ≠ i → (listed.setIfInBounds j true).getD k true = false →
     (∀ e ∈ ok.after, Region.binds md e = true → e.on ≠ i) → oi.apart ops ok = true ∧ (nk.contains k = false ∨ waitsT md ops ops.size k i = true) := fun k ok hk hki hun hno => by
     refine hfree k ok hk hki ?_ hno
     by_cases hjk : j = k
     ·subst hjk; exact hjun
     ·rw [getD_set_ne true hjk] at hun; exact hun
    refine wpOp_mono (fun a' w' h3 => ⟨h3.2.1, ih (listed.setIfInBounds j true) a' w' (hcl.set hj) hfree' (ready_mono hr (Ne.symm hji)) (h3.1.later fun W hW => ext_trans (h3.2.1 hkeep) hW) ?_⟩) h2
    rw [Array.setIfInBounds_comm _ _ hji]
    exact h3.2.2
theorem wpK_firstP {i : Nat} {oi : Oper} {v : Value} (hi : ops[i]? = some oi) (hsel : ∀ (j : Nat) (o : Oper) cs b, ops[j]? = some o → o.op ≠ .select cs b)
 (hQ : ∀ c a w, Q (.panic c) (a.put oi.dst v) w → Q (.panic c) a w) :
 ∀ (fuel : Nat) (listed : Array Bool) (a : Act) (w : World), Closed md ops listed →
  (∀ j oj, ops[j]? = some oj → j ≠ i → listed.getD j true = false → (∀ e ∈ oj.after, Region.binds md e = true → e.on ≠ i) → oi.apart ops oj = true) →
  i ∈ Region.ready md ops listed → YieldsB P ops (fun _ => True) oi v a →
  wpK P md ops nk Q fuel (listed.setIfInBounds i true) (a.put oi.dst v) w → wpK P md ops nk Q (fuel + 1) listed a w := by
 intro fuel
 induction fuel with
 | zero =>
   intro listed a w hcl _ hr hy H
   refine ⟨fun h => (by rw [h] at hr; cases hr), fun j hj => ?_⟩
   by_cases hji : j = i
   ·subst hji; exact hy.wpOp hi trivial ⟨fun _ => ext_refl w, H⟩
   ·have := ready_mono hj hji
    rw [H.1] at this
    cases this
 | succ fuel ih =>
   intro listed a w hcl hfree hr hy H
   refine ⟨fun h => (by rw [h] at hr; cases hr), fun j hj => ?_⟩
   by_cases hji : j = i
   ·subst hji; exact hy.wpOp hi trivial ⟨fun _ => ext_refl w, H⟩
   ·have h1 := H.2 j (ready_mono hj hji)
    obtain ⟨hjun, oj, hoj, hall⟩ := mem_ready.1 hj
    have hin := getD_false_of_true (mem_ready.1 hr).1
    have hnot : ∀ e ∈ oj.after, Region.binds md e = true → e.on ≠ i := fun e he hb heq => by
     have h1 := hall e he hb
     rw [heq, hin] at h1; cases h1
    have hap := hfree j oj hoj hji hjun hnot
    have h2 := wpOp_putB hoj hap (fun cs b => hsel i oi cs b hi) (fun cs b => hsel j oj cs b hoj) hQ hy h1
    have hfree' : ∀ k ok, ops[k]? = some ok → k ≠ i → (listed.setIfInBounds j true).getD k true = false →
     (∀ e ∈ ok.after, Region.binds md e = true → e.on ≠ i) → oi.apart ops ok = true := fun k ok hk hki hun hno => by
     refine hfree k ok hk hki ?_ hno
     by_cases hjk : j = k
     ·subst hjk; exact hjun
     ·rw [getD_set_ne true hjk] at hun; exact hun
    refine wpOp_mono (fun a' w' h3 => ⟨h3.2.1, ih (listed.setIfInBounds j true) a' w' (hcl.set hj) hfree' (ready_mono hr (Ne.symm hji)) h3.1 ?_⟩) h2
    rw [Array.setIfInBounds_comm _ _ hji]
    exact h3.2.2
variable {n d : Nat} {a : Act} {L : List (Nat × Value)} {w w0 : World} {v : Value} {o : Oper} {H : List Ent}
theorem wp_regionK {id : Nat} {l : List Oper} (nk : List Nat) (listed : Array Bool) (hl : Array.replicate l.length false = listed) (M : Mem w0 w H) (hm : P.follows .mixedOrders = true)
 (h : ∀ w, Mem w0 w H → wpK P .any l.toArray nk Q l.length listed a w) : (Code.region id l.toArray true).wp P Q a w := by
 subst hl
 exact wp_region_any hm (wpAny_of_wpK _ _ _ _ (by have := h _ M.drew; simpa using this))
theorem k_read {f : Nat} {listed : Array Bool} (i : Nat) (S : SeesD ds n a L) (hi : ops[i]? = some o)
 (hy : ∀ W, Below w.heap.size w W → Yields P a o W v) (k : ∀ a, SeesD ds n a ((d, v) :: L) → wpK P md ops nk Q f (listed.setIfInBounds i true) a w)
 (hg : gd ops L o = some true := by rfl) (hd : o.dst = some d := by rfl) (hn : Nat.blt d n = true := by rfl) (hst : readB md ops nk listed i = true := by kernel_rfl) (hQ : ∀ c (d : Option Tmp) (u : Value) (a : Act) w, Q (.panic c) (a.put d u) w → Q (.panic c) a w := by intro _ d _ _ _ h; cases d <;> exact h) : wpK P md ops nk Q (f + 1) listed a w := by
 simp only [readB, Bool.and_eq_true] at hst
 obtain ⟨⟨⟨h1, h2⟩, h3⟩, h4⟩ := hst
 refine wpK_first hi (Region.noSelect_spec h1) (fun c a w h => hQ c _ _ a w h) f listed a w (closed_of h3) (fun j oj => freeK_spec hi h4 j oj) (by simpa using h2) (.inl ⟨gd_spec S hg, hy⟩) ?_
 rw [hd]
 exact k _ (S.put hn v)
theorem k_pure {f : Nat} {listed : Array Bool} (i : Nat) (S : SeesD ds n a L) (hi : ops[i]? = some o)
 (hy : ∀ W, Yields P a o W v) (k : ∀ a, SeesD ds n a ((d, v) :: L) → wpK P md ops nk Q f (listed.setIfInBounds i true) a w)
 (hg : gd ops L o = some true := by rfl) (hd : o.dst = some d := by rfl) (hn : Nat.blt d n = true := by rfl) (hst : readB md ops [] listed i = true := by kernel_rfl) (hQ : ∀ c (d : Option Tmp) (u : Value) (a : Act) w, Q (.panic c) (a.put d u) w → Q (.panic c) a w := by intro _ d _ _ _ h; cases d <;> exact h) : wpK P md ops nk Q (f + 1) listed a w := by
 simp only [readB, Bool.and_eq_true] at hst
 obtain ⟨⟨⟨h1, h2⟩, h3⟩, h4⟩ := hst
 refine wpK_firstP hi (Region.noSelect_spec h1) (fun c a w h => hQ c _ _ a w h) f listed a w (closed_of h3) (fun j oj p1 p2 p3 p4 => (freeK_spec hi h4 j oj p1 p2 p3 p4).1) (by simpa using h2) (.inl ⟨gd_spec S hg, fun W _ => hy W⟩) ?_
 rw [hd]
 exact k _ (S.put hn v)
theorem k_end {listed : Array Bool} (hr : (Region.ready md ops listed).isEmpty = true) (h : Q .normal a w) : wpK P md ops nk Q 0 listed a w := ⟨by simpa using hr, h⟩
theorem wpOp_of_list {i : Nat} {K : Act → World → Prop} (hi : ops[i]? = some o) (h : wpList P ops (Exit.then K Q) [o] a w) : wpOp P ops Q i K a w := by
 unfold wpList at h
 unfold wpOp
 simp only [hi]
 have hlets : LetsOut (Exit.then K Q) → LetsOut Q := fun ⟨a, w, h⟩ => ⟨a, w, h⟩
 split
 ·rename_i hw
  rw [if_pos hw] at h
  rcases h with h | ⟨h1, h2⟩
  ·refine .inl ?_
   unfold Oper.wp at *
   generalize (execOp a.eval o).run P w = r at *
   cases r with
   | ok x w' =>
     cases x <;> simp only [Oper.upon] at h ⊢
     case enter f args =>
      refine Calls.mono h fun e w'' he => ?_
      cases e with
      | returned u => exact he
      | panicked c => exact he
      | outgrown => exact hlets he
     all_goals exact h
   | halt x w' =>
     cases x <;> simp only [Oper.upon] at h ⊢
     case panic u => exact h
  ·exact .inr ⟨h1, hlets h2⟩
 ·rename_i hw
  rw [if_neg hw] at h
  exact h
theorem k_one {f : Nat} {listed : Array Bool} (i : Nat) (hi : ops[i]? = some o) (hr : Nat.beq (Region.ready md ops listed).length 1 && (Region.ready md ops listed).contains i = true)
 (h : wpList P ops (Exit.then (fun a' w' => (nk.contains i = false → Below w.heap.size w w') ∧ wpK P md ops nk Q f (listed.setIfInBounds i true) a' w') Q) [o] a w) : wpK P md ops nk Q (f + 1) listed a w := by
 have hr' : Region.ready md ops listed = [i] := by
  simp only [Bool.and_eq_true] at hr
  have h1 := Nat.eq_of_beq_eq_true hr.1
  have h2 : i ∈ Region.ready md ops listed := by simpa using hr.2
  obtain ⟨x, hx⟩ := List.length_eq_one_iff.1 h1
  rw [hx] at h2 ⊢
  simp at h2; rw [h2]
 refine ⟨fun h => (by rw [hr'] at h; cases h), fun j hj => ?_⟩
 rw [hr'] at hj
 obtain rfl : j = i := by simpa using hj
 exact wpOp_of_list hi h
theorem k_two {f : Nat} {listed : Array Bool} {o1 o2 : Oper} (i j : Nat) (hi : ops[i]? = some o1) (hj : ops[j]? = some o2) (hr : decide (Region.ready md ops listed = [i, j]) = true)
 (h1 : wpList P ops (Exit.then (fun a' w' => (nk.contains i = false → Below w.heap.size w w') ∧ wpK P md ops nk Q f (listed.setIfInBounds i true) a' w') Q) [o1] a w)
 (h2 : wpList P ops (Exit.then (fun a' w' => (nk.contains j = false → Below w.heap.size w w') ∧ wpK P md ops nk Q f (listed.setIfInBounds j true) a' w') Q) [o2] a w) : wpK P md ops nk Q (f + 1) listed a w := by
 have hr' := of_decide_eq_true hr
 refine ⟨fun h => (by rw [hr'] at h; cases h), fun k hk => ?_⟩
 rw [hr'] at hk
 simp only [List.mem_cons, List.not_mem_nil, or_false] at hk
 rcases hk with rfl | rfl
 ·exact wpOp_of_list hi h1
 ·exact wpOp_of_list hj h2
end Go.Proofs.YtdcgcgifgnaccaaGreat
namespace Go.Proofs.YtdcgcgifgnaccaaGreat
open Go.RowKit Go.Sort
variable {ds : List Deferred}
variable {P : Program} {ops : Array Oper} {Q : Exit → Act → World → Prop} {rest : List Oper} {n d : Nat} {a : Act} {L : List (Nat × Value)} {w w0 : World} {v : Value} {o : Oper} {H : List Ent}
def byteOf (i : Int) : UInt8 := UInt8.ofNat (i % 256).toNat
theorem wrap_u8 (i : Int) : IntKind.u8.wrap i = ((byteOf i).toNat : Int) := by
 have h : (0 : Int) ≤ i % 256 := by omega
 have h2 : i % 256 < 256 := by omega
 simp only [IntKind.wrap, IntKind.bits, IntKind.signed, byteOf, UInt8.toNat_ofNat']
 simp
 omega
theorem y_to8 {x : Operand} {k : IntKind} {i : Int} {src dst : TypeId} (S : SeesD ds n a L) (hx : val L x = some (.int k i)) (hs : (P.underlying src).isSome = true) (hd : P.underlying dst = some (.int .u8)) {d : Option Tmp} {t : TypeId} {p : String} {e : Array Edge} {g : Option (Nat × Bool)} :
 Yields P a ⟨d, .convert src dst x, t, p, e, g⟩ w (.int .u8 ((byteOf i).toNat : Int)) := by
 have h := y_conv (P := P) (w := w) S hx hs hd (d := d) (t := t) (p := p) (e := e) (g := g)
 rw [wrap_u8] at h; exact h
theorem y_to64 {x : Operand} {k : IntKind} {i : Int} {src dst : TypeId} (S : SeesD ds n a L) (hx : val L x = some (.int k i)) (hs : (P.underlying src).isSome = true) (hd : P.underlying dst = some (.int .i64)) (h : -9223372036854775808 ≤ i ∧ i ≤ 9223372036854775807) {d : Option Tmp} {t : TypeId} {p : String} {e : Array Edge} {g : Option (Nat × Bool)} :
 Yields P a ⟨d, .convert src dst x, t, p, e, g⟩ w (.int .i64 i) := by
 have h' := y_conv (P := P) (w := w) S hx hs hd (d := d) (t := t) (p := p) (e := e) (g := g)
 rw [IntWalk.i64_in _ h] at h'; exact h'
theorem y_shrN {x y : Operand} {yk : IntKind} {i j : Int} (S : SeesD ds n a L) (hx : val L x = some (.int .i64 i)) (hy : val L y = some (.int yk j)) (h : 0 ≤ j ∧ j ≤ 64)
 {d : Option Tmp} {xt yt t : TypeId} {p : String} {e : Array Edge} {g : Option (Nat × Bool)} : Yields P a ⟨d, .binOp .shr xt x y yt, t, p, e, g⟩ w (.int .i64 (i / 2 ^ j.toNat)) := by
 have h' := y_shr (P := P) (w := w) S hx hy h.1 (d := d) (xt := xt) (yt := yt) (t := t) (p := p) (e := e) (g := g)
 rw [show min j.toNat IntKind.i64.bits = j.toNat by simp only [IntKind.bits]; omega, Int.fdiv_eq_ediv_of_nonneg _ (Int.pow_nonneg (by omega))] at h'
 exact h'
theorem y_shlN {x y : Operand} {yk : IntKind} {i j : Int} (S : SeesD ds n a L) (hx : val L x = some (.int .i64 i)) (hy : val L y = some (.int yk j)) (h : 0 ≤ j ∧ j ≤ 64) (hr : -9223372036854775808 ≤ i * 2 ^ j.toNat ∧ i * 2 ^ j.toNat ≤ 9223372036854775807)
 {d : Option Tmp} {xt yt t : TypeId} {p : String} {e : Array Edge} {g : Option (Nat × Bool)} : Yields P a ⟨d, .binOp .shl xt x y yt, t, p, e, g⟩ w (.int .i64 (i * 2 ^ j.toNat)) := by
 have h' := y_shl (P := P) (w := w) S hx hy h.1 (d := d) (xt := xt) (yt := yt) (t := t) (p := p) (e := e) (g := g)
 rw [show min j.toNat IntKind.i64.bits = j.toNat by simp only [IntKind.bits]; omega, IntWalk.i64_in _ hr] at h'
 exact h'
theorem y_orN {x y : Operand} {i j : Nat} (S : SeesD ds n a L) (hx : val L x = some (.int .i64 (i : Int))) (hy : val L y = some (.int .i64 (j : Int))) (hi : i < 2 ^ 63) (hj : j < 2 ^ 63)
 {d : Option Tmp} {xt yt t : TypeId} {p : String} {e : Array Edge} {g : Option (Nat × Bool)} : Yields P a ⟨d, .binOp .or xt x y yt, t, p, e, g⟩ w (.int .i64 ((i ||| j : Nat) : Int)) := by
 refine y_int S hx hy ?_
 have hlt : i ||| j < 2 ^ 63 := Nat.or_lt_two_pow hi hj
 have e1 : (BitVec.ofInt 64 (i : Int) ||| BitVec.ofInt 64 (j : Int)).toNat = i ||| j := by
  rw [BitVec.ofInt_natCast, BitVec.ofInt_natCast, BitVec.toNat_or, BitVec.toNat_ofNat, BitVec.toNat_ofNat, Nat.mod_eq_of_lt (by omega), Nat.mod_eq_of_lt (by omega)]
 show some (Value.int .i64 (IntKind.i64.wrap (((BitVec.ofInt 64 (i : Int) ||| BitVec.ofInt 64 (j : Int) : BitVec 64).toNat : Nat) : Int))) = _
 rw [e1, IntWalk.i64_in _ (by omega)]
theorem y_sliceA {x : Operand} {b o t m sz : Nat} (S : SeesD ds n a L) (hE : arrayElem P t = some (m, sz)) (hx : val L x = some (.pointer (some ⟨b, o, none⟩)))
 {d : Option Tmp} {ty : TypeId} {p : String} {ed : Array Edge} {g : Option (Nat × Bool)} : Yields P a ⟨d, .slice t x none none none, ty, p, ed, g⟩ w (.slice (some ⟨b, o, none⟩) m m) := by
 obtain ⟨e, hu, inf, hinf, rfl⟩ := arrayElem_spec hE
 unfold Yields execOp
 simp only [Option.map_none, S.eval hx]
 have e0 : (⟨b, o, none⟩ : Addr).add 0 = ⟨b, o, none⟩ := rfl
 simp [Instr.sliceAt, Instr.sliceBounds, underlying, hu, Instr.sureAddr, sizeOf, typeInfo, hinf, e0, go_sem]
theorem y_sliceA02 {x hi : Operand} {b o t m sz : Nat} {j : Int} {k2 : IntKind} (S : SeesD ds n a L) (hE : arrayElem P t = some (m, sz)) (hx : val L x = some (.pointer (some ⟨b, o, none⟩))) (h2 : val L hi = some (.int k2 j)) (h : 0 ≤ j ∧ j ≤ m)
 {d : Option Tmp} {ty : TypeId} {p : String} {ed : Array Edge} {g : Option (Nat × Bool)} : Yields P a ⟨d, .slice t x none (some hi) none, ty, p, ed, g⟩ w (.slice (some ⟨b, o, none⟩) j.toNat m) := by
 obtain ⟨e, hu, inf, hinf, rfl⟩ := arrayElem_spec hE
 unfold Yields execOp
 simp only [Option.map_none, Option.map_some, S.eval hx, S.eval h2]
 have e0 : (⟨b, o, none⟩ : Addr).add 0 = ⟨b, o, none⟩ := rfl
 simp [Instr.sliceAt, Instr.sliceBounds, Instr.sliceBound, asIntOf, underlying, hu, Instr.sureAddr, sizeOf, typeInfo, hinf, h, e0, go_sem]
theorem y_indexV {x ix : Operand} {t m sz k : Nat} {cs es : List Value} {i : Int} {ki : IntKind} (S : SeesD ds n a L) (hE : arrayElem P t = some (m, sz)) (hT : ∀ e, P.underlying t = some (.array m e) → aggB P e = some k) (hx : val L x = some (.agg cs.toArray)) (hi : val L ix = some (.int ki i)) (h : 0 ≤ i ∧ i < m) (hes : cutL cs (i.toNat * sz) k = some es)
 {d : Option Tmp} {ty : TypeId} {p : String} {ed : Array Edge} {g : Option (Nat × Bool)} : Yields P a ⟨d, .index t x ix, ty, p, ed, g⟩ w (.agg es.toArray) := by
 obtain ⟨e, hu, inf, hinf, rfl⟩ := arrayElem_spec hE
 obtain ⟨h1, i', hi', hs'⟩ := aggB_spec (hT e hu)
 rw [hinf] at hi'; cases hi'
 obtain ⟨hl, hg⟩ := cutL_spec _ _ _ _ hes
 have hex : cs.toArray.extract (i.toNat * inf.size) (i.toNat * inf.size + inf.size) = es.toArray := by
  apply Array.ext_getElem?
  intro j
  rw [Array.getElem?_extract]
  rcases Nat.lt_or_ge j k with hj | hj
  ·have := hg j hj
   have hlt : i.toNat * inf.size + j < cs.length := by
    rcases Nat.lt_or_ge (i.toNat * inf.size + j) cs.length with h | h
    ·exact h
    ·rw [List.getElem?_eq_none h, List.getElem?_eq_getElem (by omega)] at this; cases this
   simp only [List.size_toArray, List.getElem?_toArray]
   rw [if_pos (by omega), this]
  ·have : es.toArray[j]? = none := by simp; omega
   rw [this, if_neg (by omega)]
 unfold Yields execOp
 simp only [S.eval hx, S.eval hi]
 simp only [Instr.index, asIntOf, Sem.run_bind, Sem.run_pure, Result.andThen_ok]
 rw [show (underlying t).run P w = .ok (.array m e) w by simp [underlying, hu, go_sem]]
 simp only [Result.andThen_ok, h.1, h.2, and_self, if_true, Sem.run_bind, run_sizeOf hinf, part, h1, Sem.run_pure, hex]
theorem oneCell_of {us : List Value} (h : allOne us = true) : ∀ u ∈ us, u.oneCell' = true := allOne_spec h
theorem st_copy {t e lo hi b o dl dc m : Nat} {x : Value} {s y : Operand} {l cs us : List Value} {T : TypeId} (S : SeesD ds n a L) (M : Mem w0 w H) (pos : Nat) {d : Nat} {ty : TypeId} {p : String} {ed : Array Edge} {g : Option (Nat × Bool)}
 (hg : gd ops L ⟨some d, .call { callee := .builtin .copy, args := #[s, y], argTypes := #[t, t] }, ty, p, ed, g⟩ = some true) (hn : Nat.blt d n = true)
 (hE : sliceElem P t = some (e, 1)) (hs : val L s = some (.slice (some ⟨b, o, none⟩) dl dc)) (hy : val L y = some x) (hp : H[pos]? = some (.blk b l.toArray T)) (hx : Rd lo hi w 1 x m cs) (hus : cs.take dl = us) (h1 : allOne us = true) (hfit : o + us.length ≤ l.length)
 (kk : ∀ a w, SeesD ds n a ((d, .int .i64 (us.length : Int)) :: L) → Mem w0 w (H.set pos (.blk b (l.take o ++ us ++ l.drop (o + us.length)).toArray T)) → wpList P ops Q rest a w) :
 wpList P ops Q (⟨some d, .call { callee := .builtin .copy, args := #[s, y], argTypes := #[t, t] }, ty, p, ed, g⟩ :: rest) a w := by
 obtain ⟨hu, inf, hinf, hsz⟩ := sliceElem_spec hE
 have B := M.blk pos hp
 have hlen : us.length = Nat.min m dl := by
  rw [← hus, List.length_take, hx.1, Nat.mul_one, Nat.min_comm]
 obtain ⟨cs', hrun⟩ := run_builtin (P := P) (w := w) (b := .copy) (xs := [s, y]) (vs := [.slice (some ⟨b, o, none⟩) dl dc, x]) S (by simp [vals, hs, hy]) (d := some d) (ts := #[t, t]) (t := ty) (p := p) (e := ed) (g := g)
 rcases hx.2.2 with ⟨rfl, rfl⟩ | ⟨ad, cap, rfl, hc, hm, ha, hsp⟩
 ·have hu0 : us = [] := List.eq_nil_of_length_eq_zero (by rw [hlen]; exact Nat.zero_min _)
  subst hu0
  have hr := run_copy_nil (P := P) w t t ty e ⟨b, o, none⟩ dl dc hu (by simp [hinf])
  refine st_w (v := .int .i64 0) (w' := w) S hg rfl hn ?_ fun a S' => kk a w S' ?_
  ·rw [hrun]
   simp only [builtin, Sem.run_bind]
   rw [show [Value.slice (some ⟨b, o, none⟩) dl dc, .slice none 0 0].toArray = #[.slice (some ⟨b, o, none⟩) dl dc, .slice none 0 0] from rfl, hr]
   rfl
  ·rw [show l.take o ++ [] ++ l.drop (o + ([] : List Value).length) = l by simp, show H.set pos (.blk b l.toArray T) = H from ?_]
   ·exact M
   ·obtain ⟨h1, h2⟩ := List.getElem?_eq_some_iff.1 hp
    rw [← h2, List.set_getElem_self]
 ·have hsrc : ∀ j v, us[j]? = some v → w.cell? (ad.add j) = some v := fun j v hj => by
   have hcs : cs[j]? = some v := by
    rw [← hus] at hj
    have hlt := (List.getElem?_eq_some_iff.1 hj).1
    rw [List.getElem?_take_of_lt (by simp at hlt; omega)] at hj
    exact hj
   exact ha.addA (fun hne => (hsp (Nat.pos_of_ne_zero fun h0 => hne (List.eq_nil_of_length_eq_zero (by rw [hx.1, h0, Nat.zero_mul])))).1) j v hcs
  have hr := run_copy_row (P := P) w t t ty e b o dl dc ad m cap l.toArray T us hu (by simp [hinf, hsz]) B hlen hsrc (by simpa using hfit) (oneCell_of h1)
  refine st_w (v := .int .i64 (us.length : Int)) (w' := _) S hg rfl hn (by
   rw [hrun]
   simp only [builtin, Sem.run_bind]
   rw [show [Value.slice (some ⟨b, o, none⟩) dl dc, .slice (some ad) m cap].toArray = #[.slice (some ⟨b, o, none⟩) dl dc, .slice (some ad) m cap] from rfl, hr]
   rfl) fun a S' => kk a _ S' ?_
  exact M.change pos hp rfl rfl (setRow_heap w b l.toArray _ T _ B) (by simp [World.setRow]) rfl rfl rfl (fun k hk => setRow_other w b k _ (fun e => hk (by subst e; simp [Ent.lo, Ent.hi])))
end Go.Proofs.YtdcgcgifgnaccaaGreat
namespace Go.Proofs.YtdcgcgifgnaccaaGreat
open Go.RowKit Go.Sort
variable {ds : List Deferred}
variable {P : Program} {ops : Array Oper} {Q : Exit → Act → World → Prop} {rest : List Oper} {n d : Nat} {a : Act} {L : List (Nat × Value)} {w w0 : World} {v : Value} {o : Oper} {H : List Ent}
theorem Mem.appendG {t e sz by_ lo hi lo' hi' m k ty : Nat} {zc xs news : List Value} {u x : Value} (M : Mem w0 w H) (hI : sliceInfo P t = some (e, sz, by_, zc)) (hzs : zc.length = sz) (hu : Rd lo hi w sz u k xs) (hcap : capV u < k + m) (hx : Rd lo' hi' w sz x m news)
 (hb : (k + m) * by_ ≤ 140737488355328) (h63 : k + m ≤ maxLen) :
 ∃ v' w' l' h', (Builtin.append_ #[t, t] ty #[u, x]).run P w = .ok v' w' ∧ Mem w0 w' (rowE l' h' e sz v' (k + m) (xs ++ news) :: H) := by
 obtain ⟨hU, i, z, hi', hz, rfl, rfl, hzc⟩ := sliceInfo_spec hI
 have hzs' : z.cells.size = i.size := by rw [hzc]; simpa using hzs
 have hsmall : k + m ≤ 9223372036854775807 := by simp only [maxLen] at h63; omega
 have hlx : news.length = m * i.size := hx.1
 have hlen : (xs ++ news).length = (k + m) * i.size := by rw [List.length_append, hu.1, hlx, Nat.add_mul]
 have hku := hu.cap
 have grown : ∀ (old : Nat), Mem w0 (w.drew.alloc (.cells (xs.toArray ++ news.toArray ++ Builtin.zeroCells z.cells (grownCap w (k + m) old e - (k + m))) e))
  (rowE w.heap.size (w.heap.size + 1) e i.size (.slice (some ⟨w.heap.size, 0, none⟩) (k + m) (grownCap w (k + m) old e)) (k + m) (xs ++ news) :: H) := by
  intro old
  have hge := grownCap_ge w (k + m) old e
  have hcm : grownCap w (k + m) old e ≤ maxLen := grownCap_le_maxLen w (k + m) old e h63
  refine M.push (ext_alloc (ext_drew (ext_refl w)) _) _ (rowE_ok ⟨hlen, .inr ⟨w.heap.size, _, _, rfl, Nat.le_refl _, heap_alloc_new w.drew _, hge, hcm, ?_, ?_⟩⟩ (fun k hk => by simp [Value.ownBlock] at hk; omega)) (Nat.le_refl _) (by simp [rowE, Ent.hi])
  ·simp only [Array.size_append, List.size_toArray, size_zeroCells, hzs', hu.1, hlx, ← Nat.add_mul]
   congr 1
   omega
  ·simp only [Array.toList_append, List.append_assoc]
   rw [← List.append_assoc, ← hlen]
   exact List.take_left
 rcases hx.2.2 with ⟨rfl, rfl⟩ | ⟨ad', cap', rfl, hc', hcm', hat, hsp⟩
 ·omega
 ·have hnews := hat.addA (fun hne => (hsp (Nat.pos_of_ne_zero fun h0 => hne (List.eq_nil_of_length_eq_zero (by rw [hlx, h0, Nat.zero_mul])))).1)
  rcases hu.2.2 with ⟨rfl, rfl⟩ | ⟨ad, cap, rfl, hc, hcm, hau, hspu⟩
  ·have hx0 : xs = [] := List.eq_nil_of_length_eq_zero (by simpa using hu.1)
   subst hx0
   simp only [capV] at hcap
   have hr := run_append_nil (P := P) w t ty e i z hU hi' hz ad' m cap' news hlx hnews (by omega) (by omega) (by have hb := hb; simp only [Nat.zero_add] at hb; omega)
   have hgr := grown 0
   simp only [Nat.zero_add, List.nil_append, Array.empty_append] at hgr ⊢
   exact ⟨_, _, _, _, hr, hgr⟩
  ·simp only [capV] at hcap
   have holds := hau.addA (fun hne => (hspu (Nat.pos_of_ne_zero fun h0 => hne (List.eq_nil_of_length_eq_zero (by rw [hu.1, h0, Nat.zero_mul])))).1)
   have hr := run_append_grow (P := P) w t ty e i z hU hi' hz ad k cap xs hu.1 holds ad' m cap' news hlx hnews (by omega) (by omega) (growslice_fits (by omega) hb)
   exact ⟨_, _, _, _, hr, grown cap⟩
theorem st_appendG {t e sz by_ lo hi lo' hi' m k : Nat} {zc xs news : List Value} {u x : Value} {s y : Operand} (S : SeesD ds n a L) (M : Mem w0 w H) {d : Nat} {ty : TypeId} {p : String} {ed : Array Edge} {g : Option (Nat × Bool)}
 (hg : gd ops L ⟨some d, .call { callee := .builtin .append, args := #[s, y], argTypes := #[t, t] }, ty, p, ed, g⟩ = some true) (hn : Nat.blt d n = true)
 (hI : sliceInfo P t = some (e, sz, by_, zc)) (hzs : zc.length = sz) (hs : val L s = some u) (hy : val L y = some x) (hu : Rd lo hi w sz u k xs) (hcap : capV u < k + m) (hx : Rd lo' hi' w sz x m news)
 (hb : (k + m) * by_ ≤ 140737488355328) (h63 : k + m ≤ maxLen)
 (kk : ∀ a w v' l' h', SeesD ds n a ((d, v') :: L) → Mem w0 w (rowE l' h' e sz v' (k + m) (xs ++ news) :: H) → wpList P ops Q rest a w) :
 wpList P ops Q (⟨some d, .call { callee := .builtin .append, args := #[s, y], argTypes := #[t, t] }, ty, p, ed, g⟩ :: rest) a w := by
 obtain ⟨v', w', l', h', hr, M'⟩ := M.appendG (ty := ty) hI hzs hu hcap hx hb h63
 refine st_w (v := v') (w' := w') S hg rfl hn ?_ fun a S' => kk a w' v' l' h' S' M'
 obtain ⟨cs, h⟩ := run_builtin (P := P) (w := w) (b := .append) (xs := [s, y]) (vs := [u, x]) S (by simp [vals, hs, hy]) (d := some d) (ts := #[t, t]) (t := ty) (p := p) (e := ed) (g := g)
 rw [h]
 simp only [builtin, Sem.run_bind]
 rw [show [u, x].toArray = #[u, x] from rfl, hr]
 rfl
def buildInfoA (P : Program) (t : TypeId) : Option (Nat × List Value) :=
 match P.info? t with
 | some i => match i.zero with
   | some z => match P.underlying t with
     | some (.array _ e) => match P.info? e with
       | some ie => some (ie.size, z.cells.toList)
       | none => none
     | _ => none
   | none => none
 | none => none
theorem y_buildA {T : TypeId} {sz : Nat} {ps : List (Nat × Operand)} {z vs cs : List Value} (S : SeesD ds n a L) (hB : buildInfoA P T = some (sz, z)) (hv : vals L (ps.map (·.2)) = some vs) (hf : fillL (fun i => some (i * sz, sz)) z ((ps.map (·.1)).zip vs) = some cs)
 {d : Option Tmp} {t : TypeId} {p : String} {e : Array Edge} {g : Option (Nat × Bool)} : Yields P a ⟨d, .build T ps.toArray, t, p, e, g⟩ w (.agg cs.toArray) := by
 unfold buildInfoA at hB
 cases hi : P.info? T with
 | none => simp [hi] at hB
 | some i =>
   simp only [hi] at hB
   cases hz : i.zero with
   | none => simp [hz] at hB
   | some zv =>
     simp only [hz] at hB
     cases hu : P.underlying T with
     | none => simp [hu] at hB
     | some td =>
       rw [hu] at hB
       cases td <;> simp only [reduceCtorEq] at hB
       rename_i m el
       cases hie : P.info? el with
       | none => simp [hie] at hB
       | some ie =>
         simp only [hie, Option.some.injEq, Prod.mk.injEq] at hB
         obtain ⟨rfl, rfl⟩ := hB
         have hparts : (ps.toArray.map fun (x : Nat × Operand) => (x.1, a.eval x.2)).toList = (ps.map (·.1)).zip vs := by
          rw [← S.evals hv, ← zip_eval a.eval ps]; simp
         have hfill := fill_of_fillL _ _ _ hf
         unfold Yields execOp
         simp only [Instr.build, Sem.run_bind]
         rw [show (zeroValue T).run P w = .ok zv w by simp [zeroValue, typeInfo, hi, hz, go_sem]]
         simp only [Result.andThen_ok]
         rw [show (underlying T).run P w = .ok (.array m el) w by simp [underlying, hu, go_sem]]
         simp only [Result.andThen_ok, Sem.run_bind, run_sizeOf hie, hparts]
         rw [Array.toArray_toList] at hfill
         rw [hfill]
         rfl
end Go.Proofs.YtdcgcgifgnaccaaGreat
namespace Go.Proofs.YtdcgcgifgnaccaaGreat
open Go.RowKit Go.Sort
variable {ds : List Deferred}
variable {P : Program} {ops : Array Oper} {Q : Exit → Act → World → Prop} {rest : List Oper} {n d : Nat} {a : Act} {L : List (Nat × Value)} {w w0 : World} {v : Value} {o : Oper} {H : List Ent}
end Go.Proofs.YtdcgcgifgnaccaaGreat
namespace Go.Proofs.YtdcgcgifgnaccaaGreat
open Go.RowKit Go.Sort
variable {ds : List Deferred}
variable {P : Program} {ops : Array Oper} {Q : Exit → Act → World → Prop} {rest : List Oper} {n d : Nat} {a : Act} {L : List (Nat × Value)} {w w0 : World} {v : Value} {o : Oper} {H : List Ent}
theorem Mem.ofRow {lo hi e sz m : Nat} {xs : List Value} (M : Mem w0 w (rowE lo hi e sz v m xs :: H)) (hm : 0 < m) :
 ∃ g cap more, v = .slice (some ⟨g, 0, none⟩) m cap ∧ m ≤ cap ∧ cap ≤ maxLen ∧ (xs ++ more).length = cap * sz ∧ Mem w0 w (.blk g (xs ++ more).toArray e :: H) := by
 obtain ⟨hr, hk⟩ := M.own 0 rfl
 rcases hr.2 with ⟨_, rfl⟩ | ⟨g, cap, cur, rfl, hb, hgg, hc, hcm, hs, ht⟩
 ·omega
 ·have hg := hk g rfl
  have e1 : xs ++ cur.toList.drop (m * sz) = cur.toList := by rw [← ht, List.take_append_drop]
  refine ⟨g, cap, cur.toList.drop (m * sz), rfl, hc, hcm, by rw [e1]; simpa using hs, ?_⟩
  rw [e1]
  have hf := M.fits _ (List.mem_cons_self ..)
  have hf1 : w0.heap.size ≤ lo := hf.1
  have hf2 : hi ≤ w.heap.size := hf.2
  have hp := List.pairwise_cons.1 M.apart
  refine ⟨M.below, fun f hf => ?_, fun f hf => ?_, List.pairwise_cons.2 ⟨fun f hf => ?_, hp.2⟩⟩
  ·rcases List.mem_cons.1 hf with rfl | hf
   ·exact hgg
   ·exact M.ok f (List.mem_cons_of_mem _ hf)
  ·rcases List.mem_cons.1 hf with rfl | hf
   ·exact ⟨show w0.heap.size ≤ g by omega, show g + 1 ≤ w.heap.size by omega⟩
   ·exact M.fits f (List.mem_cons_of_mem _ hf)
  ·rcases hp.1 f hf with h | h
   ·exact .inl (show g + 1 ≤ f.lo by have : hi ≤ f.lo := h; omega)
   ·exact .inr (show f.hi ≤ g by have : f.hi ≤ lo := h; omega)
theorem y_remZ {x y : Operand} {i j : Int} (S : SeesD ds n a L) (hx : val L x = some (.int .i64 i)) (hy : val L y = some (.int .i64 j)) (h : 0 < j)
 {d : Option Tmp} {xt yt t : TypeId} {p : String} {e : Array Edge} {g : Option (Nat × Bool)} : Yields P a ⟨d, .binOp .rem xt x y yt, t, p, e, g⟩ w (.int .i64 (i.tmod j)) := by
 have hne : j ≠ 0 := by omega
 unfold Yields execOp
 simp only [S.eval hx, S.eval hy]
 simp [eqGuard, binOp, Op.intDiv, go_sem, hne]
def bitB (j : Nat) : UInt8 := UInt8.ofNat (2 ^ j)
end Go.Proofs.YtdcgcgifgnaccaaGreat
namespace Go.Proofs.YtdcgcgifgnaccaaGreat
open Go.RowKit Go.Sort
variable {ds : List Deferred}
variable {P : Program} {ops : Array Oper} {Q : Exit → Act → World → Prop} {rest : List Oper} {n d : Nat} {a : Act} {L : List (Nat × Value)} {w w0 : World} {v : Value} {o : Oper} {H : List Ent}
theorem putL_mid {A B C us : List Value} (h : us.length = B.length) : putL (A ++ (B ++ C)) A.length us = A ++ (us ++ C) := by
 rw [putL_eq _ _ _ (by simp only [List.length_append]; omega), List.take_left, ← List.drop_drop, List.drop_left, h, List.drop_left, List.append_assoc]
theorem putL_all {l us : List Value} (h : us.length = l.length) : putL l 0 us = us := by
 have := putL_mid (A := []) (B := l) (C := []) (us := us) h
 simpa using this
theorem cutL_left : ∀ (B C : List Value), cutL (B ++ C) 0 B.length = some B
 | [], [] => rfl
 | [], _ :: _ => rfl
 | b :: B, C => by simp only [List.cons_append, List.length_cons, cutL, cutL_left B C, Option.map_some]
theorem cutL_mid : ∀ (A B C : List Value), cutL (A ++ (B ++ C)) A.length B.length = some B
 | [], B, C => cutL_left B C
 | x :: A, B, C => by simp only [List.cons_append, List.length_cons, cutL]; exact cutL_mid A B C
theorem allOne_append : ∀ {xs ys : List Value}, allOne (xs ++ ys) = (allOne xs && allOne ys)
 | [], ys => by simp [allOne]
 | x :: xs, ys => by simp [allOne, allOne_append (xs := xs), Bool.and_assoc]
theorem st_storeAll {x y : Operand} {T : TypeId} {b sz : Nat} {l us : List Value} {BT : TypeId} (S : SeesD ds n a L) (M : Mem w0 w H) (pos : Nat) {t : TypeId} {p : String} {e : Array Edge} {g : Option (Nat × Bool)} (hg : gd ops L ⟨none, .store T x y, t, p, e, g⟩ = some true)
 (hT : (P.info? T).map (·.size) = some sz) (hx : val L x = some (.pointer (some ⟨b, 0, none⟩))) (hy : val L y = some (.agg us.toArray)) (hsz : us.length = sz) (h1 : allOne us = true) (hp : H[pos]? = some (.blk b l.toArray BT)) (hl : l.length = sz)
 (k : ∀ w, Mem w0 w (H.set pos (.blk b us.toArray BT)) → wpList P ops Q rest a w) : wpList P ops Q (⟨none, .store T x y, t, p, e, g⟩ :: rest) a w := by
 refine st_store (us := us) S M pos hg hT hx hy rfl hsz h1 hp (by omega) fun w M => k w ?_
 rwa [putL_all (by omega)] at M
theorem st_storeMid {x y : Operand} {T : TypeId} {b o sz : Nat} {A B C us : List Value} {BT : TypeId} (S : SeesD ds n a L) (M : Mem w0 w H) (pos : Nat) {t : TypeId} {p : String} {e : Array Edge} {g : Option (Nat × Bool)} (hg : gd ops L ⟨none, .store T x y, t, p, e, g⟩ = some true)
 (hT : (P.info? T).map (·.size) = some sz) (hx : val L x = some (.pointer (some ⟨b, o, none⟩))) (hy : val L y = some v) (hu : v.cells.toList = us) (hsz : us.length = sz) (h1 : allOne us = true) (hp : H[pos]? = some (.blk b (A ++ (B ++ C)).toArray BT)) (hA : A.length = o) (hB : B.length = sz)
 (k : ∀ w, Mem w0 w (H.set pos (.blk b (A ++ (us ++ C)).toArray BT)) → wpList P ops Q rest a w) : wpList P ops Q (⟨none, .store T x y, t, p, e, g⟩ :: rest) a w := by
 subst hA
 refine st_store (us := us) S M pos hg hT hx hy hu hsz h1 hp (by simp only [List.length_append]; omega) fun w M => k w ?_
 rwa [putL_mid (by omega)] at M
theorem Mem.cellsMid {b o : Nat} {A B C : List Value} {t : TypeId} (M : Mem w0 w H) (p : Nat) (h : H[p]? = some (.blk b (A ++ (B ++ C)).toArray t)) (hA : A.length = o) : CellsAt w b o B := by
 subst hA; exact M.cellsAt p h (cutL_mid A B C)
theorem end_none {fn : Func} {R : Ending → World → Prop} (S : Sees n a L) (hr : fn.results = #[]) (h : R (.returned (.tuple #[])) w) : bodyPost P fn R .ret a w :=
 bodyPost_ret (run_results (rs := []) (vs := []) S hr .nil) S.defers h
theorem end_noneN {fn : Func} {R : Ending → World → Prop} (S : Sees n a L) (hr : fn.results = #[]) (h : R (.returned (.tuple #[])) w) : bodyPost P fn R .normal a w :=
 ⟨S.defers, _, run_results (rs := []) (vs := []) S hr .nil, h⟩
end Go.Proofs.YtdcgcgifgnaccaaGreat
namespace Go.Proofs.YtdcgcgifgnaccaaGreat
open Go.RowKit Go.Sort
variable {ds : List Deferred}
variable {P : Program} {ops : Array Oper} {Q : Exit → Act → World → Prop} {rest : List Oper} {n d : Nat} {a : Act} {L : List (Nat × Value)} {w w0 : World} {v : Value} {o : Oper} {H : List Ent}
theorem y_andNot {x y : Operand} {k : IntKind} {i j : Int} (S : SeesD ds n a L) (hx : val L x = some (.int k i)) (hy : val L y = some (.int k j))
 {d : Option Tmp} {xt yt t : TypeId} {p : String} {e : Array Edge} {g : Option (Nat × Bool)} : Yields P a ⟨d, .binOp .andNot xt x y yt, t, p, e, g⟩ w (.int k (k.wrap (BitVec.ofInt k.bits i &&& ~~~BitVec.ofInt k.bits j).toNat)) := by
 unfold Yields execOp
 simp only [S.eval hx, S.eval hy]
 simp [eqGuard, binOp, Op.intBits, go_sem]
theorem y_makeFunc {f : FuncId} {fs cs : List Operand} {vf vc : List Value} (S : SeesD ds n a L) (hf : vals L fs = some vf) (hc : vals L cs = some vc)
 {d : Option Tmp} {t : TypeId} {p : String} {e : Array Edge} {g : Option (Nat × Bool)} : Yields P a ⟨d, .makeFunc (.func f) fs.toArray cs.toArray, t, p, e, g⟩ w (.func (.func f) vf.toArray vc.toArray) := by
 have h1 : fs.toArray.map a.eval = vf.toArray := by rw [← S.evals hf]; simp
 have h2 : cs.toArray.map a.eval = vc.toArray := by rw [← S.evals hc]; simp
 unfold Yields execOp
 simp [h1, h2, Instr.makeFunc, go_sem]
theorem y_indexP {x ix : Operand} {t m sz : Nat} {cs : List Value} {i : Int} {ki : IntKind} (S : SeesD ds n a L) (hE : arrayElem P t = some (m, sz)) (hT : ∀ e, P.underlying t = some (.array m e) → plainB P e = true) (hx : val L x = some (.agg cs.toArray)) (hi : val L ix = some (.int ki i)) (h : 0 ≤ i ∧ i < m) (hv : cs[i.toNat * sz]? = some v)
 {d : Option Tmp} {ty : TypeId} {p : String} {ed : Array Edge} {g : Option (Nat × Bool)} : Yields P a ⟨d, .index t x ix, ty, p, ed, g⟩ w v := by
 obtain ⟨e, hu, inf, hinf, rfl⟩ := arrayElem_spec hE
 unfold Yields execOp
 simp only [S.eval hx, S.eval hi]
 simp only [Instr.index, asIntOf, Sem.run_bind, Sem.run_pure, Result.andThen_ok]
 rw [show (underlying t).run P w = .ok (.array m e) w by simp [underlying, hu, go_sem]]
 have hv' : cs.toArray[i.toNat * inf.size]? = some v := by rw [List.getElem?_toArray]; exact hv
 simp only [Result.andThen_ok, h.1, h.2, and_self, if_true, Sem.run_bind, run_sizeOf hinf, part, run_isAgg_plain (hT e hu), Sem.run_pure, hv', Bool.false_eq_true, if_false]
theorem st_callB {f : FuncId} {fx : Operand} {xs : List Operand} {vs fi ca : List Value} {R : Ending → World → Prop} (S : SeesD ds n a L) {d : Nat} {ts : Array TypeId} {t : TypeId} {p : String} {e : Array Edge} {g : Option (Nat × Bool)}
 (hE : Enters P f) (hg : gd ops L ⟨some d, .call { callee := .value fx, args := xs.toArray, argTypes := ts }, t, p, e, g⟩ = some true) (hn : Nat.blt d n = true) (hf : val L fx = some (.func (.func f) fi.toArray ca.toArray)) (hx : vals L xs = some vs) (hC : Calls P f (fi ++ (vs ++ ca)).toArray w R)
 (k : ∀ e w', R e w' → ∃ v, e = .returned v ∧ ∀ a, SeesD ds n a ((d, v) :: L) → wpList P ops Q rest a w') : wpList P ops Q (⟨some d, .call { callee := .value fx, args := xs.toArray, argTypes := ts }, t, p, e, g⟩ :: rest) a w := by
 unfold wpList
 rw [if_pos (gd_spec S hg)]
 refine .inl ?_
 unfold Oper.wp
 have h : xs.toArray.map a.eval = vs.toArray := by rw [← S.evals hx]; simp
 have hr : (execOp a.eval ⟨some d, .call { callee := .value fx, args := xs.toArray, argTypes := ts }, t, p, e, g⟩).run P w = .ok (.enter f (fi ++ (vs ++ ca)).toArray) w := by
  unfold execOp
  simp only [resolve, h, S.eval hf, Deferred.ofValue, Sem.run_bind, Sem.run_pure, Result.andThen_ok, invoke]
  rw [show fi.toArray ++ vs.toArray ++ ca.toArray = (fi ++ (vs ++ ca)).toArray by simp]
  exact hE _ _
 rw [hr, Oper.upon_enter]
 refine hC.mono fun e w' hR => ?_
 obtain ⟨v, rfl, hk⟩ := k e w' hR
 exact hk _ (S.put hn v)
theorem Mem.readAll {lo hi e sz m : Nat} {x : Value} {xs : List Value} (M : Mem w0 w H) (p : Nat) (h : H[p]? = some (rowE lo hi e sz x m xs)) (hm : m ≤ maxLen) : Rd 0 w.heap.size w sz x m xs :=
 (M.readRow p h hm).wide (Nat.zero_le _) (M.fits _ (List.mem_of_getElem? h)).2
theorem Rd.of_cells {lo hi b o sz m cap : Nat} {cs : List Value} (hc : CellsAt w b o cs) (hl : cs.length = m * sz) (h1 : lo ≤ b) (h2 : b < hi) (hm : m ≤ cap) (hx : cap ≤ maxLen) : Rd lo hi w sz (.slice (some ⟨b, o, none⟩) m cap) m cs :=
 ⟨hl, Nat.le_trans hm hx, .inr ⟨⟨b, o, none⟩, cap, rfl, hm, hx, hc, fun _ => ⟨rfl, h1, h2⟩⟩⟩
theorem Mem.sliceAt {b o sz m cap : Nat} {c : Array Value} {t : TypeId} {cs : List Value} (M : Mem w0 w H) (p : Nat) (h : H[p]? = some (.blk b c t)) (hc : CellsAt w b o cs) (hl : cs.length = m * sz) (hm : m ≤ cap) (hx : cap ≤ maxLen) : Rd 0 w.heap.size w sz (.slice (some ⟨b, o, none⟩) m cap) m cs :=
 Rd.of_cells hc hl (Nat.zero_le _) (M.fits _ (List.mem_of_getElem? h)).2 hm hx
theorem Fresh.from {w1 w2 : World} {e sz m : Nat} {x : Value} {cs : List Value} (h : Fresh w1 w2 e sz x m cs) (hb : Below w.heap.size w w1) : Fresh w w2 e sz x m cs := by
 obtain ⟨h0, lo, hi, h1, h2, h3, h4⟩ := h
 exact ⟨ext_trans hb h0, lo, hi, Nat.le_trans hb.size h1, h2, h3, h4⟩
theorem Fresh.rd0 {w' : World} {e sz m : Nat} {x : Value} {cs : List Value} (h : Fresh w w' e sz x m cs) (hm : m ≤ maxLen) : Rd 0 w'.heap.size w' sz x m cs := (h.rd hm).wide (Nat.zero_le _) (Nat.le_refl _)
theorem Mem.rowC {lo hi n : Nat} {t : TypeId} {v : Value} {xs ys : List UInt8} (M : Mem w0 w (rowE lo hi t 1 v (xs.length + n) (bcells xs ++ bcells ys) :: H)) (h : ys.length = n) : Mem w0 w (rowE lo hi t 1 v (xs ++ ys).length (bcells (xs ++ ys)) :: H) := by
 rw [bcells_append, List.length_append, h]; exact M
end Go.Proofs.YtdcgcgifgnaccaaGreat
namespace Go.Proofs.YtdcgcgifgnaccaaGreat
open Go.RowKit Go.Sort
variable {ds : List Deferred}
section
variable {P : Program} {ops : Array Oper} {Q : Exit → Act → World → Prop} {rest : List Oper} {n d : Nat} {a : Act} {L : List (Nat × Value)} {w w0 : World} {v : Value} {o : Oper} {H : List Ent}
theorem zeroCells_one (zc : List Value) : (Builtin.zeroCells zc.toArray 1).toList = zc := by
 apply List.ext_getElem
 ·simp [Builtin.zeroCells]
 ·intro i h1 h2
  simp [Builtin.zeroCells, Nat.mod_eq_of_lt h2, h2]
theorem st_v {w' : World} (S : SeesD ds n a L) (hg : gd ops L o = some true) (hd : o.dst = none) (hy : (execOp a.eval o).run P w = .ok (.value v) w') (k : wpList P ops Q rest a w') : wpList P ops Q (o :: rest) a w := by
 unfold wpList
 rw [if_pos (gd_spec S hg)]
 refine .inl ?_
 unfold Oper.wp
 rw [hy, Oper.upon_value, hd]
 exact k
theorem st_clear1N {t e sz by_ b o c : Nat} {x : Operand} {zc l : List Value} {T : TypeId} (S : SeesD ds n a L) (M : Mem w0 w H) (pos : Nat) {ty : TypeId} {p : String} {ed : Array Edge} {g : Option (Nat × Bool)}
 (hg : gd ops L ⟨none, .call { callee := .builtin .clear, args := #[x], argTypes := #[t] }, ty, p, ed, g⟩ = some true) (hI : sliceInfo P t = some (e, sz, by_, zc)) (hx : val L x = some (.slice (some ⟨b, o, none⟩) 1 c))
 (hp : H[pos]? = some (.blk b l.toArray T)) (h1 : allOne zc = true) (hle : o + zc.length ≤ l.length)
 (k : ∀ w', Mem w0 w' (H.set pos (.blk b (putL l o zc).toArray T)) → wpList P ops Q rest a w') : wpList P ops Q (⟨none, .call { callee := .builtin .clear, args := #[x], argTypes := #[t] }, ty, p, ed, g⟩ :: rest) a w := by
 obtain ⟨hu, i, z, hi, hz, hsz, hby, hzc⟩ := sliceInfo_spec hI
 obtain ⟨w', hr, M'⟩ := storeCells_run (P := P) (b := b) (o := o) (T := T) zc 0 l w H pos M hp h1 (by omega)
 refine st_v (v := .tuple #[]) (w' := w') S hg rfl ?_ (k w' M')
 obtain ⟨cs, h⟩ := run_builtin (P := P) (w := w) (b := .clear) (xs := [x]) (vs := [.slice (some ⟨b, o, none⟩) 1 c]) S (by simp [vals, hx]) (d := none) (ts := #[t]) (t := ty) (p := p) (e := ed) (g := g)
 rw [h]
 have hzv : (zeroValue e).run P w = .ok z w := by simp [zeroValue, typeInfo, hi, hz, go_sem]
 simp only [builtin, Builtin.clear_, Sem.run_bind]
 simp [underlying, hu, go_sem, hzv]
 unfold Value.cells at hzc
 rw [hzc, zeroCells_one, hr]
 rfl
theorem st_appendIn {t e sz by_ b c k m b2 o2 c2 : Nat} {zc l news : List Value} {s y : Operand} (S : SeesD ds n a L) (M : Mem w0 w H) (pos : Nat) {d : Nat} {ty : TypeId} {p : String} {ed : Array Edge} {g : Option (Nat × Bool)}
 (hg : gd ops L ⟨some d, .call { callee := .builtin .append, args := #[s, y], argTypes := #[t, t] }, ty, p, ed, g⟩ = some true) (hn : Nat.blt d n = true) (hI : sliceInfo P t = some (e, sz, by_, zc))
 (hs : val L s = some (.slice (some ⟨b, 0, none⟩) k c)) (hy : val L y = some (.slice (some ⟨b2, o2, none⟩) m c2)) (hp : H[pos]? = some (.blk b l.toArray e)) (hx : CellsAt w b2 o2 news) (hlx : news.length = m * sz) (h1 : allOne news = true) (hroom : k + m ≤ c) (hcs : l.length = c * sz)
 (kk : ∀ a w', SeesD ds n a ((d, .slice (some ⟨b, 0, none⟩) (k + m) c) :: L) → Mem w0 w' (H.set pos (.blk b (l.take (k * sz) ++ news ++ l.drop (k * sz + news.length)).toArray e)) → wpList P ops Q rest a w') :
 wpList P ops Q (⟨some d, .call { callee := .builtin .append, args := #[s, y], argTypes := #[t, t] }, ty, p, ed, g⟩ :: rest) a w := by
 obtain ⟨hu, i, z, hi', hz, rfl, rfl, hzc⟩ := sliceInfo_spec hI
 have hB := M.blk pos hp
 have hfit : k * i.size + news.length ≤ l.toArray.size := by rw [List.size_toArray, hlx, hcs, ← Nat.add_mul]; exact Nat.mul_le_mul_right _ hroom
 have hr := run_append_room (P := P) w t ty e i hu hi' b k c l.toArray hB ⟨b2, o2, none⟩ m c2 news hlx hx.add (allOne_spec h1) hroom hfit
 have M' := M.change (w' := w.setRow b (l.take (k * i.size) ++ news ++ l.drop (k * i.size + news.length)).toArray) (e' := .blk b (l.take (k * i.size) ++ news ++ l.drop (k * i.size + news.length)).toArray e) pos hp rfl rfl
  (setRow_heap w b _ _ e _ hB) (by simp [World.setRow]) rfl rfl rfl (fun q hq => setRow_other w b q _ (fun e => hq (by subst e; simp [Ent.lo, Ent.hi])))
 refine st_w (v := .slice (some ⟨b, 0, none⟩) (k + m) c) (w' := w.setRow b (l.take (k * i.size) ++ news ++ l.drop (k * i.size + news.length)).toArray) S hg rfl hn ?_ fun a S' => kk a _ S' M'
 obtain ⟨cs, h⟩ := run_builtin (P := P) (w := w) (b := .append) (xs := [s, y]) (vs := [.slice (some ⟨b, 0, none⟩) k c, .slice (some ⟨b2, o2, none⟩) m c2]) S (by simp [vals, hs, hy]) (d := some d) (ts := #[t, t]) (t := ty) (p := p) (e := ed) (g := g)
 rw [h]
 simp only [builtin, Sem.run_bind]
 rw [show [Value.slice (some ⟨b, 0, none⟩) k c, Value.slice (some ⟨b2, o2, none⟩) m c2].toArray = #[.slice (some ⟨b, 0, none⟩) k c, .slice (some ⟨b2, o2, none⟩) m c2] from rfl, hr]
 rfl
end
end Go.Proofs.YtdcgcgifgnaccaaGreat
namespace Go.Proofs.YtdcgcgifgnaccaaGreat
open Go.RowKit Go.Sort
variable {ds : List Deferred}
variable {P : Program} {ops : Array Oper} {Q : Exit → Act → World → Prop} {md : Region.Mode} {nk : List Nat} {C : World → Prop}
def wpKC (P : Program) (md : Region.Mode) (ops : Array Oper) (nk : List Nat) (C : World → Prop) (Q : Exit → Act → World → Prop) : Nat → Array Bool → Act → World → Prop
 | 0, listed, a, w => Region.ready md ops listed = [] ∧ Q .normal a w
 | f + 1, listed, a, w => (Region.ready md ops listed = [] → Q .normal a w) ∧
   ∀ i ∈ Region.ready md ops listed, wpOp P ops Q i (fun a' w' => (nk.contains i = false → Below w.heap.size w w') ∧ C w' ∧ wpKC P md ops nk C Q f (listed.setIfInBounds i true) a' w') a w
theorem wpAny_of_wpKC : ∀ (f : Nat) (listed : Array Bool) (a : Act) (w : World), wpKC P md ops nk C Q f listed a w → wpAny P md ops Q f listed a w
 | 0, _, _, _, h => h
 | f + 1, _, _, _, h => ⟨h.1, fun i hi => wpOp_mono (fun a' w' h' => wpAny_of_wpKC f _ a' w' h'.2.2) (h.2 i hi)⟩
theorem wpKC_first {i : Nat} {oi : Oper} {v : Value} (hi : ops[i]? = some oi) (hsel : ∀ (j : Nat) (o : Oper) cs b, ops[j]? = some o → o.op ≠ .select cs b)
 (hQ : ∀ c a w, Q (.panic c) (a.put oi.dst v) w → Q (.panic c) a w) :
 ∀ (fuel : Nat) (listed : Array Bool) (a : Act) (w : World), Closed md ops listed →
  (∀ j oj, ops[j]? = some oj → j ≠ i → listed.getD j true = false → (∀ e ∈ oj.after, Region.binds md e = true → e.on ≠ i) → oi.apart ops oj = true ∧ (nk.contains j = false ∨ waitsT md ops ops.size j i = true)) →
  i ∈ Region.ready md ops listed → YieldsB P ops (fun W => Below w.heap.size w W) oi v a → C w →
  wpKC P md ops nk C Q fuel (listed.setIfInBounds i true) (a.put oi.dst v) w → wpKC P md ops nk C Q (fuel + 1) listed a w := by
 intro fuel
 induction fuel with
 | zero =>
   intro listed a w hcl _ hr hy hC H
   refine ⟨fun h => (by rw [h] at hr; cases hr), fun j hj => ?_⟩
   by_cases hji : j = i
   ·subst hji; exact hy.wpOp hi (ext_refl w) ⟨fun _ => ext_refl w, hC, H⟩
   ·have := ready_mono hj hji
    rw [H.1] at this
    cases this
 | succ fuel ih =>
   intro listed a w hcl hfree hr hy hC H
   refine ⟨fun h => (by rw [h] at hr; cases hr), fun j hj => ?_⟩
   by_cases hji : j = i
   ·subst hji; exact hy.wpOp hi (ext_refl w) ⟨fun _ => ext_refl w, hC, H⟩
   ·have h1 := H.2 j (ready_mono hj hji)
    obtain ⟨hjun, oj, hoj, hall⟩ := mem_ready.1 hj
    have hin := getD_false_of_true (mem_ready.1 hr).1
    have hnot : ∀ e ∈ oj.after, Region.binds md e = true → e.on ≠ i := fun e he hb heq => by
     have h1 := hall e he hb
     rw [heq, hin] at h1; cases h1
    obtain ⟨hap, hkw⟩ := hfree j oj hoj hji hjun hnot
    have hkeep : nk.contains j = false := by
     rcases hkw with h | h
     ·exact h
     ·have := waitsT_listed hcl _ j oj hoj hall h
      rw [hin] at this; cases this
    have h2 := wpOp_putB hoj hap (fun cs b => hsel i oi cs b hi) (fun cs b => hsel j oj cs b hoj) hQ hy h1
    have hfree' : ∀ k ok, ops[k]? = some ok → k ≠ i → (listed.setIfInBounds j true).getD k true = false →
     (∀ e ∈ ok.after, Region.binds md e = true → e.on ≠ i) → oi.apart ops ok = true ∧ (nk.contains k = false ∨ waitsT md ops ops.size k i = true) := fun k ok hk hki hun hno => by
     refine hfree k ok hk hki ?_ hno
     by_cases hjk : j = k
     ·subst hjk; exact hjun
     ·rw [getD_set_ne true hjk] at hun; exact hun
    refine wpOp_mono (fun a' w' h3 => ⟨h3.2.1, h3.2.2.1, ih (listed.setIfInBounds j true) a' w' (hcl.set hj) hfree' (ready_mono hr (Ne.symm hji)) (h3.1.later fun W hW => ext_trans (h3.2.1 hkeep) hW) h3.2.2.1 ?_⟩) h2
    rw [Array.setIfInBounds_comm _ _ hji]
    exact h3.2.2.2
theorem wpKC_firstC {i : Nat} {oi : Oper} {v : Value} (hi : ops[i]? = some oi) (hsel : ∀ (j : Nat) (o : Oper) cs b, ops[j]? = some o → o.op ≠ .select cs b)
 (hQ : ∀ c a w, Q (.panic c) (a.put oi.dst v) w → Q (.panic c) a w) :
 ∀ (fuel : Nat) (listed : Array Bool) (a : Act) (w : World), Closed md ops listed →
  (∀ j oj, ops[j]? = some oj → j ≠ i → listed.getD j true = false → (∀ e ∈ oj.after, Region.binds md e = true → e.on ≠ i) → oi.apart ops oj = true) →
  i ∈ Region.ready md ops listed → YieldsB P ops C oi v a → C w →
  wpKC P md ops nk C Q fuel (listed.setIfInBounds i true) (a.put oi.dst v) w → wpKC P md ops nk C Q (fuel + 1) listed a w := by
 intro fuel
 induction fuel with
 | zero =>
   intro listed a w hcl _ hr hy hC H
   refine ⟨fun h => (by rw [h] at hr; cases hr), fun j hj => ?_⟩
   by_cases hji : j = i
   ·subst hji; exact hy.wpOp hi hC ⟨fun _ => ext_refl w, hC, H⟩
   ·have := ready_mono hj hji
    rw [H.1] at this
    cases this
 | succ fuel ih =>
   intro listed a w hcl hfree hr hy hC H
   refine ⟨fun h => (by rw [h] at hr; cases hr), fun j hj => ?_⟩
   by_cases hji : j = i
   ·subst hji; exact hy.wpOp hi hC ⟨fun _ => ext_refl w, hC, H⟩
   ·have h1 := H.2 j (ready_mono hj hji)
    obtain ⟨hjun, oj, hoj, hall⟩ := mem_ready.1 hj
    have hin := getD_false_of_true (mem_ready.1 hr).1
    have hnot : ∀ e ∈ oj.after, Region.binds md e = true → e.on ≠ i := fun e he hb heq => by
     have h1 := hall e he hb
     rw [heq, hin] at h1; cases h1
    have hap := hfree j oj hoj hji hjun hnot
    have h2 := wpOp_putB hoj hap (fun cs b => hsel i oi cs b hi) (fun cs b => hsel j oj cs b hoj) hQ hy h1
    have hfree' : ∀ k ok, ops[k]? = some ok → k ≠ i → (listed.setIfInBounds j true).getD k true = false →
     (∀ e ∈ ok.after, Region.binds md e = true → e.on ≠ i) → oi.apart ops ok = true := fun k ok hk hki hun hno => by
     refine hfree k ok hk hki ?_ hno
     by_cases hjk : j = k
     ·subst hjk; exact hjun
     ·rw [getD_set_ne true hjk] at hun; exact hun
    refine wpOp_mono (fun a' w' h3 => ⟨h3.2.1, h3.2.2.1, ih (listed.setIfInBounds j true) a' w' (hcl.set hj) hfree' (ready_mono hr (Ne.symm hji)) h3.1 h3.2.2.1 ?_⟩) h2
    rw [Array.setIfInBounds_comm _ _ hji]
    exact h3.2.2.2
variable {n d : Nat} {a : Act} {L : List (Nat × Value)} {w w0 : World} {v : Value} {o : Oper} {H : List Ent}
theorem wp_regionKC {id : Nat} {l : List Oper} (nk : List Nat) (listed : Array Bool) (hl : Array.replicate l.length false = listed) (M : Mem w0 w H) (hm : P.follows .mixedOrders = true)
 (h : ∀ w, Mem w0 w H → wpKC P .any l.toArray nk C Q l.length listed a w) : (Code.region id l.toArray true).wp P Q a w := by
 subst hl
 exact wp_region_any hm (wpAny_of_wpKC _ _ _ _ (by have := h _ M.drew; simpa using this))
theorem kc_read {f : Nat} {listed : Array Bool} (i : Nat) (S : SeesD ds n a L) (hi : ops[i]? = some o)
 (hC : C w) (hy : ∀ W, Below w.heap.size w W → Yields P a o W v) (k : ∀ a, SeesD ds n a ((d, v) :: L) → wpKC P md ops nk C Q f (listed.setIfInBounds i true) a w)
 (hg : gd ops L o = some true := by rfl) (hd : o.dst = some d := by rfl) (hn : Nat.blt d n = true := by rfl) (hst : readB md ops nk listed i = true := by kernel_rfl) (hQ : ∀ c (d : Option Tmp) (u : Value) (a : Act) w, Q (.panic c) (a.put d u) w → Q (.panic c) a w := by intro _ d _ _ _ h; cases d <;> exact h) : wpKC P md ops nk C Q (f + 1) listed a w := by
 simp only [readB, Bool.and_eq_true] at hst
 obtain ⟨⟨⟨h1, h2⟩, h3⟩, h4⟩ := hst
 refine wpKC_first hi (Region.noSelect_spec h1) (fun c a w h => hQ c _ _ a w h) f listed a w (closed_of h3) (fun j oj => freeK_spec hi h4 j oj) (by simpa using h2) (.inl ⟨gd_spec S hg, hy⟩) hC ?_
 rw [hd]
 exact k _ (S.put hn v)
theorem kc_readC {f : Nat} {listed : Array Bool} (i : Nat) (S : SeesD ds n a L) (hi : ops[i]? = some o)
 (hC : C w) (hy : ∀ W, C W → Yields P a o W v) (k : ∀ a, SeesD ds n a ((d, v) :: L) → wpKC P md ops nk C Q f (listed.setIfInBounds i true) a w)
 (hg : gd ops L o = some true := by rfl) (hd : o.dst = some d := by rfl) (hn : Nat.blt d n = true := by rfl) (hst : readB md ops [] listed i = true := by kernel_rfl) (hQ : ∀ c (d : Option Tmp) (u : Value) (a : Act) w, Q (.panic c) (a.put d u) w → Q (.panic c) a w := by intro _ d _ _ _ h; cases d <;> exact h) : wpKC P md ops nk C Q (f + 1) listed a w := by
 simp only [readB, Bool.and_eq_true] at hst
 obtain ⟨⟨⟨h1, h2⟩, h3⟩, h4⟩ := hst
 refine wpKC_firstC hi (Region.noSelect_spec h1) (fun c a w h => hQ c _ _ a w h) f listed a w (closed_of h3) (fun j oj p1 p2 p3 p4 => (freeK_spec hi h4 j oj p1 p2 p3 p4).1) (by simpa using h2) (.inl ⟨gd_spec S hg, fun W hW => hy W hW⟩) hC ?_
 rw [hd]
 exact k _ (S.put hn v)
theorem kc_end {listed : Array Bool} (hr : (Region.ready md ops listed).isEmpty = true) (h : Q .normal a w) : wpKC P md ops nk C Q 0 listed a w := ⟨by simpa using hr, h⟩
theorem kc_one {f : Nat} {listed : Array Bool} (i : Nat) (hi : ops[i]? = some o) (hr : Nat.beq (Region.ready md ops listed).length 1 && (Region.ready md ops listed).contains i = true)
 (h : wpList P ops (Exit.then (fun a' w' => (nk.contains i = false → Below w.heap.size w w') ∧ C w' ∧ wpKC P md ops nk C Q f (listed.setIfInBounds i true) a' w') Q) [o] a w) : wpKC P md ops nk C Q (f + 1) listed a w := by
 have hr' : Region.ready md ops listed = [i] := by
  simp only [Bool.and_eq_true] at hr
  have h1 := Nat.eq_of_beq_eq_true hr.1
  have h2 : i ∈ Region.ready md ops listed := by simpa using hr.2
  obtain ⟨x, hx⟩ := List.length_eq_one_iff.1 h1
  rw [hx] at h2 ⊢
  simp at h2; rw [h2]
 refine ⟨fun h => (by rw [hr'] at h; cases h), fun j hj => ?_⟩
 rw [hr'] at hj
 obtain rfl : j = i := by simpa using hj
 exact wpOp_of_list hi h
end Go.Proofs.YtdcgcgifgnaccaaGreat
namespace Go.Proofs.YtdcgcgifgnaccaaGreat
open Go.RowKit Go.Sort
def jumpF (l : Nat) (J : Act → World → Prop) (Q : Exit → Act → World → Prop) : Exit → Act → World → Prop
 | .goto i, a, w => i = l ∧ J a w
 | e, a, w => Q e a w
variable {P : Program} {a : Act} {w : World} {Q : Exit → Act → World → Prop}
end Go.Proofs.YtdcgcgifgnaccaaGreat

