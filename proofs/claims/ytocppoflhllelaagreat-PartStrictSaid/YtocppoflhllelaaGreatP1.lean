/-
  What PartStrict rests on, part 1.
-/
import Derived.Test.YtocppoflhllelaaGreatRows
import Derived.WalkKit
import Derived.WalkSpells
import Derived.WalkLawsBesides
import Derived.Lib.QuietBelow
import Derived.BigQuiet
import Derived.Lib.Hide
import Derived.StillTail
import Derived.Laws.MakeOwn
import Derived.Laws.OwnMore
import Derived.Laws.CopyRow
import Derived.Laws.IdiomStrings
import Derived.Great.BuildSlice
import Derived.Lib.SliceRun
namespace Go.Proofs.YtocppoflhllelaaGreat
open Go.RowKit Go.Sort
section
variable {c : Array Value} {b : Nat} {p : Prop} {t : TypeId} {w W : World}
theorem k_ (h : p := by kernel_rfl) : p := h
theorem o_ (h : p := by omega) : p := h
theorem m_ (h : p := by unfold maxLen; omega) : p := h
theorem f_ (h : p := by first | omega | (simp; done) | (simp; omega)) : p := h
theorem d_ (h : p := by decide) : p := h
theorem a_ (h : p := by assumption) : p := h
abbrev p_ (b : Nat) : Value := .pointer (some ⟨b, 0, none⟩)
abbrev CT : FuncId → Array Value → World → (Ending → World → Prop) → Prop := Calls Tryz.prog
abbrev CQ (f : FuncId) (args : Array Value) (w : World) (v : Value) : Prop := Calls Tryz.prog f args w fun e w' => e = .returned v ∧ Below w.heap.size w w'
theorem JE (w : World) : Below w.heap.size w w := Below.refl _ _
theorem Kd {W' : World} (h : Below w.heap.size w W) (k : Below W.heap.size W W') : Below w.heap.size w W' := h.trans (k.mono h.size)
theorem Vd (h : Below w.heap.size w W) (o : Obj) : Below w.heap.size w (W.alloc o) := h.alloc h.size o
theorem Ql (h : Below w.heap.size w W) : Below w.heap.size w W.drew := h.drew
def Blk (W : World) (b : Nat) (c : Array Value) (t : TypeId) : Prop := W.heap[b]? = some (.cells c t (0, 0))
theorem Blk.lt (h : Blk W b c t) : b < W.heap.size := (Array.getElem?_eq_some_iff.1 h).1
theorem Blk.new (W : World) (c : Array Value) (t : TypeId) : Blk (W.alloc (.cells c t)) W.heap.size c t := by show (W.heap.push _)[W.heap.size]? = _; grind
theorem Blk.cells (h : Blk W b c t) : ∀ i, W.cell? ⟨b, i, none⟩ = c[i]? := fun i => by simp [World.cell?, show W.heap[b]? = _ from h]
theorem Blk.frz (h : Blk W b c t) : ∀ i, W.frozen? ⟨b, i, none⟩ = false := fun i => by simp [World.frozen?, show W.heap[b]? = _ from h]
theorem Blk.set (h : Blk W b c t) (i : Nat) (v : Value) : Blk (W.setCell ⟨b, i, none⟩ v) b (c.setIfInBounds i v) t := by
 obtain ⟨hlt, hk⟩ := Array.getElem?_eq_some_iff.1 h
 show (W.heap.modify b _)[b]? = _
 grind
def Jkk (b : Nat) (W W' : World) : Prop := W'.heap[b]? = W.heap[b]?
theorem Jb {a b : Bool} (h : a = b) : Ending.returned (.bool a) = .returned (.bool b) := by rw [h]
end
section
variable {P : Program} {ops : Array Oper} {md : Region.Mode} {C : World → Prop}
def Uf (P : Program) (md : Region.Mode) (ops : Array Oper) (C : World → Prop) (n : Nat) (L : Array Bool → Act → Prop) : Nat → Array Bool → Act → Prop
 | 0, listed, a => L listed a
 | f + 1, listed, a => Region.ready md ops listed ≠ [] ∧ ∀ i ∈ Region.ready md ops listed, i < n ∧ qOp P ops C i (Uf P md ops C n L f (listed.setIfInBounds i true)) a
theorem Jai {n i : Nat} {oi : Oper} {v : Value} {L : Array Bool → Act → Prop} (hi : ops[i]? = some oi) (hsel : ∀ (j : Nat) (o : Oper) cs b, ops[j]? = some o → o.op ≠ .select cs b)
 (hs : Region.sinkB md ops n = true) (hc : Region.chainB md ops n = true) (hn : n < ops.size) (hin : i < n)
 (hdone : ∀ listed a, L listed a → ∀ j ∈ Region.ready md ops listed, n ≤ j) (f : Nat) : ∀ (listed : Array Bool) (a : Act), HeadInv md ops n listed →
   (∀ j oj, ops[j]? = some oj → j ≠ i → listed.getD j true = false → (∀ e ∈ oj.after, Region.binds md e = true → e.on ≠ i) → oi.apart ops oj = true) →
   i ∈ Region.ready md ops listed → YieldsIn P ops C oi v a →
   Uf P md ops C n L f (listed.setIfInBounds i true) (a.put oi.dst v) → Uf P md ops C n L (f + 1) listed a := by
 have early : ∀ (listed : Array Bool), HeadInv md ops n listed → i ∈ Region.ready md ops listed → ∀ j ∈ Region.ready md ops listed, j < n := fun listed inv hr j hj => by
  rcases Nat.lt_or_ge j n with h | h
  ·exact h
  ·exact absurd hj (tail_waits hs hc hn inv _ i rfl hin (mem_ready.1 hr).1 j h)
 induction f with
 | zero =>
   intro listed a inv _ hr hy H
   refine ⟨List.ne_nil_of_mem hr, fun j hj => ⟨early listed inv hr j hj, ?_⟩⟩
   by_cases hji : j = i
   ·subst hji; exact hy.qOp hi H
   ·have h1 := hdone _ _ H j (ready_mono hj hji)
    grind
 | succ f ih =>
   intro listed a inv hfree hr hy H
   refine ⟨List.ne_nil_of_mem hr, fun j hj => ⟨early listed inv hr j hj, ?_⟩⟩
   by_cases hji : j = i
   ·subst hji; exact hy.qOp hi H
   ·have hun := (mem_ready.1 hr).1
    obtain ⟨hjun, oj, hoj, hall⟩ := mem_ready.1 hj
    have hnot : ∀ e ∈ oj.after, Region.binds md e = true → e.on ≠ i := fun e he hb heq => by
     grind
    have h2 := qOp_put hoj (hfree j oj hoj hji hjun hnot) (fun cs b => hsel i oi cs b hi) (fun cs b => hsel j oj cs b hoj) hy (H.2 j (ready_mono hj hji)).2
    refine qOp_mono (fun a' h3 => ih (listed.setIfInBounds j true) a' (inv.set hj (early listed inv hr j hj)) (fun k ok hk hki hun' hno => ?_) (ready_mono hr (Ne.symm hji)) h3.1 ?_) h2
    ·refine hfree k ok hk hki ?_ hno
     by_cases hjk : j = k
     ·grind
     simp_all
    grind [Array.setIfInBounds_comm]
theorem Xh {n g : Nat} {Lq : Act → Prop} (hsel : Region.noSelect ops = true) (hs : Region.sinkB md ops n = true) (hc : Region.chainB md ops n = true) (hn : n < ops.size) :
 ∀ (l : List Oper) (k : Nat) (listed : Array Bool) (a : Act), (∀ j, j < l.length → l[j]? = ops[k + j]?) → k + l.length = n → HeadInv md ops n listed →
 Region.lexHead md ops g l.length k listed = true → wpQuiet P ops C Lq l a →
 Uf P md ops C n (fun listed' a' => Region.seqB md ops g n listed' = true ∧ Lq a') l.length listed a
 | [], k, listed, a, _, hk, _, hB, h => by
   obtain rfl : k = n := by omega
   exact ⟨by grind [Region.lexHead], h⟩
 | o :: l, k, listed, a, hl, hk, inv, hB, h => by
   have h0 : ops[k]? = some o := by simpa using (hl 0 (by simp)).symm
   simp only [List.length_cons, Region.lexHead, Bool.and_eq_true] at hB hk
   obtain ⟨⟨hr, hf⟩, hB'⟩ := hB
   have hr' : k ∈ Region.ready md ops listed := by grind
   obtain ⟨v, hy, hK⟩ := yieldsIn_of_qOp (P := P) (C := C) (K := wpQuiet P ops C Lq l) h0 (by unfold qOp; simp only [h0]; exact h)
   exact Jai h0 (Region.noSelect_spec hsel) hs hc hn o_ (fun listed' a' hL => seqB_ready hL.1) l.length listed a inv (Region.free_spec h0 hf) hr' hy
    (Xh hsel hs hc hn l (k + 1) _ _ (fun j hj => by have := hl (j + 1) (by grind); grind) o_ (inv.set hr' o_) hB' hK)
end
section
variable {a : Act} {L : List (Nat × Value)} {n : Nat} {w w' w0 : World}
/-! ### Frames -/
def JK : List (Nat × Value) → Nat → Option Value
 | [], _ => none
 | (k, v) :: l, t => bif Nat.beq k t then some v else JK l t
def val (L : List (Nat × Value)) : Operand → Option Value
 | .tmp t => JK L t
 | .const v => some v
 | .global g => some (.pointer (some ⟨g, 0, none⟩))
 | .func f => some (.func (.func f) #[] #[])
def Vl (L : List (Nat × Value)) : List Operand → Option (List Value)
 | [] => some []
 | x :: l => match val L x with
   | none => none
   | some v => match Vl L l with
     | none => none
     | some vs => some (v :: vs)
structure SeesD (ds : List Deferred) (n : Nat) (a : Act) (L : List (Nat × Value)) : Prop where
 size : a.tmps.size = n
 defers : a.defers = ds
 at_ : ∀ t v, JK L t = some v → t < n → a.tmps.getD t undef = v
 lt : ∀ t v, JK L t = some v → t < n
abbrev Jk (n : Nat) (a : Act) (L : List (Nat × Value)) : Prop := SeesD [] n a L
variable {ds : List Deferred}
theorem SeesD.eval (S : SeesD ds n a L) {x : Operand} {v : Value} (h : val L x = some v) : a.eval x = v := by
 cases x with
 | tmp t => exact S.at_ t v h (S.lt t v h)
 | const c => exact Option.some.inj h
 | global g => exact Option.some.inj h
 | func f => exact Option.some.inj h
theorem SeesD.evals (S : SeesD ds n a L) : ∀ {xs : List Operand} {vs : List Value}, Vl L xs = some vs → xs.map a.eval = vs
 | [], vs, h => by grind [Vl]
 | x :: xs, vs, h => by
   unfold Vl at h
   cases hv : val L x with
   | none => grind
   | some v =>
     cases hr : Vl L xs with
     | none => grind
     | some r =>
       simp only [hv, hr, Option.some.injEq] at h
       rw [List.map_cons, S.eval hv, S.evals hr, h]
theorem SeesD.put (S : SeesD ds n a L) {d : Nat} (hd : Nat.blt d n = true) (v : Value) : SeesD ds n (a.put (some d) v) ((d, v) :: L) := by
 have hd' : d < n := Nat.le_of_ble_eq_true hd
 have hs : (a.put (some d) v).tmps.size = n := by simp [Act.put, S.size]
 have hlook : ∀ t u, JK ((d, v) :: L) t = some u → (t = d ∧ u = v) ∨ (t ≠ d ∧ JK L t = some u) := fun t u h => by
  grind [JK, Nat.eq_of_beq_eq_true, Nat.ne_of_beq_eq_false]
 refine ⟨hs, S.defers, fun t u h hlt => ?_, fun t u h => ?_⟩
 ·rcases hlook t u h with ⟨rfl, rfl⟩ | ⟨hne, h'⟩
  ·simp [Act.put, Array.getD_eq_getD_getElem?, S.size, hd']
  ·have := S.at_ t u h' hlt
   rw [← this]
   simp [Act.put, Array.getD_eq_getD_getElem?, Array.getElem?_setIfInBounds, if_neg (fun e : d = t => hne e.symm)]
 ·rcases hlook t u h with ⟨rfl, _⟩ | ⟨_, h'⟩
  ·omega
  ·exact S.lt t u h'
theorem SeesD.sub (S : SeesD ds n a L) (L' : List (Nat × Value)) (h : Vl L (L'.map fun p => .tmp p.1) = some (L'.map (·.2))) : SeesD ds n a L' := by
 have key : ∀ (L' : List (Nat × Value)), Vl L (L'.map fun p => .tmp p.1) = some (L'.map (·.2)) → ∀ t v, JK L' t = some v → JK L t = some v := by
  intro L'
  induction L' with
  | nil => grind [JK]
  | cons p L' ih =>
    grind [Vl, val, JK, Nat.eq_of_beq_eq_true]
 exact ⟨S.size, S.defers, fun t v ht hlt => S.at_ t v (key L' h t v ht) hlt, fun t v ht => S.lt t v (key L' h t v ht)⟩
def ZW : Nat → List Value → List (Nat × Value)
 | _, [] => []
 | k, v :: l => (k, v) :: ZW (k + 1) l
theorem Yh : ∀ (l : List Value) (k t : Nat) (v : Value), JK (ZW k l) t = some v → k ≤ t ∧ t < k + l.length ∧ l[t - k]? = some v
 | [], k, t, v, h => by grind [ZW, JK]
 | u :: l, k, t, v, h => by
   unfold ZW JK at h
   cases hb : Nat.beq k t with
   | true =>
     grind [Nat.eq_of_beq_eq_true]
   | false =>
     rw [hb] at h
     obtain ⟨h1, h2, h3⟩ := Yh l (k + 1) t v h
     grind
theorem vL {P : Program} {f : FuncId} {fn : Func} {c : Code} {args : Array Value} {R : Ending → World → Prop} 
 (hf : P.funcs[f]? = some fn) (hb : fn.body = some c) (n : Nat) (hn : fn.ntmps = n) (hle : Nat.ble args.size n = true)
 (h : ∀ a, Jk n a (ZW 0 args.toList) → c.wp P (bodyPost P fn R) a w) : Calls P f args w R := by
 refine calls_of_wp hf hb (h _ ?_)
 have hle' : args.size ≤ n := by simp_all
 refine ⟨by grind, rfl, fun t v hv hlt => ?_, fun t v hv => ?_⟩
 ·obtain ⟨_, h2, h3⟩ := Yh _ _ _ _ hv
  simp_all
 ·obtain ⟨_, h2, _⟩ := Yh _ _ _ _ hv
  grind
/-! ### Memory -/
inductive Ent where
 | blk (b : Nat) (c : Array Value) (t : TypeId)
 | own (lo hi : Nat) (φ : World → Prop)
def Ent.lo : Ent → Nat
 | .blk b _ _ => b
 | .own lo _ _ => lo
def Ent.hi : Ent → Nat
 | .blk b _ _ => b + 1
 | .own _ hi _ => hi
def SameOn (lo hi : Nat) (w w' : World) : Prop := ∀ k, lo ≤ k → k < hi → w'.heap[k]? = w.heap[k]?
def Ent.ok (w : World) : Ent → Prop
 | .blk b c t => Blk w b c t
 | .own lo hi φ => ∀ w', SameOn lo hi w w' → φ w'
def Ent.apart (e f : Ent) : Prop := e.hi ≤ f.lo ∨ f.hi ≤ e.lo
theorem Ent.ok_same {e : Ent} (h : e.ok w) (hs : SameOn e.lo e.hi w w') : e.ok w' := by
 cases e with
 | blk b c t => exact (hs b (Nat.le_refl _) (Nat.lt_succ_self _)).trans h
 | own lo hi φ => exact fun w'' h'' => h w'' fun k h1 h2 => (h'' k h1 h2).trans (hs k h1 h2)
structure Mem (w0 w : World) (H : List Ent) : Prop where
 below : Below w0.heap.size w0 w
 ok : ∀ e ∈ H, e.ok w
 fits : ∀ e ∈ H, w0.heap.size ≤ e.lo ∧ e.hi ≤ w.heap.size
 apart : H.Pairwise Ent.apart
theorem Mem.start (w : World) : Mem w w [] := ⟨Below.refl _ _, fun _ h => (by cases h), fun _ h => (by cases h), .nil⟩
theorem SameOn.of_below {lo hi : Nat} (h : Below w.heap.size w w') (hi' : hi ≤ w.heap.size) : SameOn lo hi w w' := fun k _ h2 => h.block k (Nat.lt_of_lt_of_le h2 hi')
theorem Mem.grow {H : List Ent} (M : Mem w0 w H) (h : Below w.heap.size w w') : Mem w0 w' H :=
 ⟨M.below.trans (h.mono M.below.size), fun e he => Ent.ok_same (M.ok e he) (.of_below h (M.fits e he).2), fun e he => ⟨(M.fits e he).1, Nat.le_trans (M.fits e he).2 h.size⟩, M.apart⟩
theorem Mem.push {H : List Ent} (M : Mem w0 w H) (h : Below w.heap.size w w') (e : Ent) (he : e.ok w') (h1 : w.heap.size ≤ e.lo) (h2 : e.hi ≤ w'.heap.size) : Mem w0 w' (e :: H) := by
 have M' := M.grow h
 refine ⟨M'.below, fun f hf => ?_, fun f hf => ?_, .cons (fun f hf => .inr (Nat.le_trans (M.fits f hf).2 h1)) M.apart⟩
 ·rcases List.mem_cons.1 hf with rfl | hf
  ·exact he
  ·exact M'.ok f hf
 ·rcases List.mem_cons.1 hf with rfl | hf
  ·exact ⟨Nat.le_trans M.below.size h1, h2⟩
  ·exact M'.fits f hf
theorem Mem.alloc {H : List Ent} (M : Mem w0 w H) (c : Array Value) (t : TypeId) : Mem w0 (w.alloc (.cells c t)) (.blk w.heap.size c t :: H) :=
 M.push (Vd (JE _) _) _ (Blk.new w c t) (Nat.le_refl _) (by simp [Ent.hi])
theorem Mem.drew {H : List Ent} (M : Mem w0 w H) : Mem w0 w.drew H := M.grow (Ql (JE _))
theorem Mem.get {H : List Ent} (M : Mem w0 w H) {e : Ent} (p : Nat) (h : H[p]? = some e) : e.ok w := M.ok e (List.mem_of_getElem? h)
theorem Mem.blk {H : List Ent} (M : Mem w0 w H) {b : Nat} {c : Array Value} {t : TypeId} (p : Nat) (h : H[p]? = some (.blk b c t)) : Blk w b c t := M.get p h
theorem Mem.own {H : List Ent} (M : Mem w0 w H) {lo hi : Nat} {φ : World → Prop} (p : Nat) (h : H[p]? = some (.own lo hi φ)) : φ w := M.get p h w fun _ _ _ => rfl
theorem Mem.change {H : List Ent} (M : Mem w0 w H) {e e' : Ent} (p : Nat) (h : H[p]? = some e) (hlo : e'.lo = e.lo) (hhi : e'.hi = e.hi) (he : e'.ok w')
 (hsz : w'.heap.size = w.heap.size) (hos : w'.os = w.os) (htape : w'.tape = w.tape) (hout : w'.output = w.output) (hs : ∀ k, ¬ (e.lo ≤ k ∧ k < e.hi) → w'.heap[k]? = w.heap[k]?) : Mem w0 w' (H.set p e') := by
 have hmem := List.mem_of_getElem? h
 have hfit := M.fits e hmem
 have hb : Below w0.heap.size w w' := ⟨hos, htape, hout, by omega, fun k hk => hs k o_⟩
 have hp : p < H.length := (List.getElem?_eq_some_iff.1 h).1
 have hpe : H[p] = e := (List.getElem?_eq_some_iff.1 h).2
 have hap : ∀ i j (hi : i < H.length) (hj : j < H.length), i ≠ j → Ent.apart H[i] H[j] := fun i j hi hj hne => by
  rcases Nat.lt_or_gt_of_ne hne with hlt | hlt
  ·exact List.pairwise_iff_getElem.1 M.apart i j hi hj hlt
  ·exact (List.pairwise_iff_getElem.1 M.apart j i hj hi hlt).symm
 have hget : ∀ i (hi : i < (H.set p e').length), (H.set p e')[i] = if p = i then e' else H[i]'(by grind) := fun i hi => List.getElem_set ..
 have other : ∀ f ∈ H.set p e', f = e' ∨ ∃ j, ∃ hj : j < H.length, j ≠ p ∧ f = H[j] := fun f hf => by
  grind [List.getElem_of_mem]
 refine ⟨M.below.trans hb, fun f hf => ?_, fun f hf => ?_, ?_⟩
 ·rcases other f hf with rfl | ⟨j, hj, hne, rfl⟩
  ·exact he
  ·refine Ent.ok_same (M.ok _ (List.getElem_mem hj)) fun k h1 h2 => hs k fun ⟨h3, h4⟩ => ?_
   have := hap j p hj hp hne
   rw [hpe] at this
   rcases this with h | h <;> omega
 ·rcases other f hf with rfl | ⟨j, hj, hne, rfl⟩
  ·omega
  ·rw [hsz]; exact M.fits _ (List.getElem_mem hj)
 grind [List.pairwise_iff_getElem, Ent.apart]
theorem Mem.setCell {H : List Ent} (M : Mem w0 w H) {b : Nat} {c : Array Value} {t : TypeId} (p : Nat) (h : H[p]? = some (.blk b c t)) (i : Nat) (v : Value) :
 Mem w0 (w.setCell ⟨b, i, none⟩ v) (H.set p (.blk b (c.setIfInBounds i v) t)) :=
 M.change p h rfl rfl ((M.blk p h).set i v) (by simp [World.setCell]) rfl rfl rfl fun k hk => Below.heap_setCell w ⟨b, i, none⟩ v k (fun e => hk (by grind [Ent.lo, Ent.hi]))
theorem Mem.drop {H : List Ent} (M : Mem w0 w H) (p : Nat) : Mem w0 w (H.eraseIdx p) :=
 ⟨M.below, fun e he => M.ok e (List.mem_of_mem_eraseIdx he), fun e he => M.fits e (List.mem_of_mem_eraseIdx he), M.apart.sublist (List.eraseIdx_sublist ..)⟩
theorem Mem.sub {H H' : List Ent} (M : Mem w0 w H) (h : H'.Sublist H) : Mem w0 w H' :=
 ⟨M.below, fun e he => M.ok e (h.subset he), fun e he => M.fits e (h.subset he), M.apart.sublist h⟩
end
section
variable {ds : List Deferred}
variable {P : Program} {ops : Array Oper} {Q : Exit → Act → World → Prop} {rest : List Oper} {n d : Nat} {a : Act} {L : List (Nat × Value)} {w : World} {v : Value} {o : Oper}
variable {e : Array Edge} {ts : Array TypeId} {b : Bool} {i j : Int} {k : IntKind} {c x y : Operand} {g : Option (Nat × Bool)} {p : String} {t xt yt : TypeId}
def gd (ops : Array Oper) (L : List (Nat × Value)) (o : Oper) : Option Bool :=
 match o.guard with
 | none => some true
 | some (j, want) => match ops[j]? with
   | none => none
   | some oj => match oj.dst with
     | none => none
     | some t => match JK L t with
       | some (.bool b) => some (b == want)
       | some _ => some false
       | none => none
theorem VP (S : SeesD ds n a L) (h : gd ops L o = some b) : Region.wanted o (yielded ops a.tmps) = b := by
 unfold gd at h
 unfold Region.wanted
 cases hg : o.guard with
 | none => grind
 | some p =>
   obtain ⟨j, want⟩ := p
   rw [hg] at h
   simp only at h ⊢
   cases hj : ops[j]? with
   | none => grind
   | some oj =>
     rw [hj] at h
     simp only at h
     cases ht : oj.dst with
     | none => grind
     | some t =>
       rw [ht] at h
       simp only at h
       have hy : ∀ c, JK L t = some (.bool c) → yielded ops a.tmps j = some c := fun c hc => by
        have h1 := S.lt t _ hc
        have h2 := S.at_ t _ hc h1
        have h3 : t < a.tmps.size := by rw [S.size]; exact h1
        unfold yielded
        simp_all
       cases hl : JK L t with
       | none => grind
       | some u =>
         rw [hl] at h
         have hn : (∀ c, u ≠ .bool c) → yielded ops a.tmps j = none := fun hu => by
          have h1 := S.lt t _ hl
          have h2 := S.at_ t _ hl h1
          have h3 : t < a.tmps.size := by rw [S.size]; exact h1
          unfold yielded
          simp_all
         grind [Option.some.injEq]
def Je (P : Program) (a : Act) (o : Oper) (w : World) (v : Value) : Prop := (execOp a.eval o).run P w = .ok (.value v) w
theorem yb (S : SeesD ds n a L) (hg : gd ops L o = some true) (hd : o.dst = some d) (hn : Nat.blt d n = true) (hy : Je P a o w v) (k : ∀ a, SeesD ds n a ((d, v) :: L) → wpList P ops Q rest a w) : wpList P ops Q (o :: rest) a w := by
 unfold wpList
 rw [if_pos (VP S hg)]
 refine .inl ?_
 unfold Oper.wp
 rw [show (execOp a.eval o).run P w = _ from hy, Oper.upon_value, hd]
 exact k _ (S.put hn v)
theorem ZP {w' : World} (S : SeesD ds n a L) (hg : gd ops L o = some true) (hd : o.dst = some d) (hn : Nat.blt d n = true) (hy : (execOp a.eval o).run P w = .ok (.value v) w') (k : ∀ a, SeesD ds n a ((d, v) :: L) → wpList P ops Q rest a w') : wpList P ops Q (o :: rest) a w := by
 unfold wpList
 rw [if_pos (VP S hg)]
 refine .inl ?_
 unfold Oper.wp
 rw [hy, Oper.upon_value, hd]
 exact k _ (S.put hn v)
theorem Jis {w' : World} (S : SeesD ds n a L) (hg : gd ops L o = some true) (hd : o.dst = none) (hy : (execOp a.eval o).run P w = .ok .skip w') (k : wpList P ops Q rest a w') : wpList P ops Q (o :: rest) a w := by
 unfold wpList
 rw [if_pos (VP S hg)]
 refine .inl ?_
 unfold Oper.wp
 rw [hy, Oper.upon_skip, hd]
 exact k
theorem jY (S : SeesD ds n a L) (hg : gd ops L o = some false) (hd : o.dst = some d) (hn : Nat.blt d n = true) (k : ∀ a, SeesD ds n a ((d, undef) :: L) → wpList P ops Q rest a w) : wpList P ops Q (o :: rest) a w := by
 unfold wpList
 rw [if_neg (by grind [VP]), hd]
 exact k _ (S.put hn undef)
theorem Js {G : Prop} {t : Nat} (S : SeesD ds n a L) (h : JK L t = some (.bool b)) (k1 : b = true → SeesD ds n a ((t, .bool true) :: L) → G) (k2 : b = false → SeesD ds n a ((t, .bool false) :: L) → G) : G := by
 have key : ∀ c, b = c → SeesD ds n a ((t, .bool c) :: L) := fun c hc => by
  subst hc
  have hlt := S.lt t _ h
  have hl : ∀ t' u, JK ((t, .bool b) :: L) t' = some u → JK L t' = some u := fun t' u h' => by
   grind [JK, Nat.eq_of_beq_eq_true]
  exact ⟨S.size, S.defers, fun t' u h' => S.at_ t' u (hl t' u h'), fun t' u h' => S.lt t' u (hl t' u h')⟩
 cases hb : b with
 | true => grind
 | false => grind
theorem DE {x y : Code} (S : SeesD ds n a L) (h : val L c = some (.bool true)) (k : x.wp P Q a w) : (Code.cond c x y).wp P Q a w := wp_cond_true (S.eval h) k
theorem DF {x y : Code} (S : SeesD ds n a L) (h : val L c = some (.bool false)) (k : y.wp P Q a w) : (Code.cond c x y).wp P Q a w := wp_cond_false (S.eval h) k
/-! ### pure operations -/
theorem Vz (S : SeesD ds n a L) (hx : val L x = some v) {d : Option Tmp} : Je P a ⟨d, .move x, t, p, e, g⟩ w v := by
 unfold Je execOp; simp only [S.eval hx]; rfl
theorem JP (S : SeesD ds n a L) (hx : val L x = some v) {d : Option Tmp} : Je P a ⟨d, .assign x, t, p, e, g⟩ w v := by
 unfold Je execOp; simp only [S.eval hx]; rfl
theorem Zq (S : SeesD ds n a L) (hc : val L c = some (.bool true)) (hx : val L x = some v) {d : Option Tmp} : Je P a ⟨d, .pick c x y, t, p, e, g⟩ w v := by
 unfold Je execOp; simp only [S.eval hc, S.eval hx]; rfl
theorem Y0 (S : SeesD ds n a L) (hc : val L c = some (.bool false)) (hx : val L y = some v) {d : Option Tmp} : Je P a ⟨d, .pick c x y, t, p, e, g⟩ w v := by
 unfold Je execOp; simp only [S.eval hc, S.eval hx]; rfl
def j4 (op : BinOp) (k : IntKind) (x y : Int) : Option Value :=
 match op with
 | .add => some (.int k (k.wrap (x + y)))
 | .sub => some (.int k (k.wrap (x - y)))
 | .mul => some (.int k (k.wrap (x * y)))
 | .eql => some (.bool (x == y))
 | .neq => some (.bool (x != y))
 | .lss => some (.bool (decide (x < y)))
 | .leq => some (.bool (decide (x ≤ y)))
 | .gtr => some (.bool (decide (y < x)))
 | .geq => some (.bool (decide (y ≤ x)))
 | .and => some (.int k (k.wrap (BitVec.ofInt k.bits x &&& BitVec.ofInt k.bits y).toNat))
 | .or => some (.int k (k.wrap (BitVec.ofInt k.bits x ||| BitVec.ofInt k.bits y).toNat))
 | .xor => some (.int k (k.wrap (BitVec.ofInt k.bits x ^^^ BitVec.ofInt k.bits y).toNat))
 | _ => none
theorem J2 {op : BinOp} (S : SeesD ds n a L) (hx : val L x = some (.int k i)) (hy : val L y = some (.int k j)) (hr : j4 op k i j = some v)
 {d : Option Tmp} : Je P a ⟨d, .binOp op xt x y yt, t, p, e, g⟩ w v := by
 unfold Je execOp
 simp only [S.eval hx, S.eval hy]
 cases op <;> simp only [j4, Option.some.injEq, reduceCtorEq] at hr <;> subst hr <;> simp [eqGuard, binOp, Op.intArith, Op.intCmp, Op.intBits, go_sem]
theorem Zo (S : SeesD ds n a L) (hx : val L x = some (.int .i64 i)) (hy : val L y = some (.int .i64 j)) (h : -9223372036854775808 ≤ i + j ∧ i + j ≤ 9223372036854775807)
 {d : Option Tmp} : Je P a ⟨d, .binOp .add xt x y yt, t, p, e, g⟩ w (.int .i64 (i + j)) := by
 refine J2 S hx hy ?_; grind [j4, IntWalk.i64_in]
theorem Qz (S : SeesD ds n a L) (hx : val L x = some (.int .i64 i)) (hy : val L y = some (.int .i64 j)) (h : -9223372036854775808 ≤ i - j ∧ i - j ≤ 9223372036854775807)
 {d : Option Tmp} : Je P a ⟨d, .binOp .sub xt x y yt, t, p, e, g⟩ w (.int .i64 (i - j)) := by
 refine J2 S hx hy ?_; grind [j4, IntWalk.i64_in]
theorem GG (S : SeesD ds n a L) (hx : val L x = some (.int .i64 i)) (hy : val L y = some (.int .i64 j)) (h : -9223372036854775808 ≤ i * j ∧ i * j ≤ 9223372036854775807)
 {d : Option Tmp} : Je P a ⟨d, .binOp .mul xt x y yt, t, p, e, g⟩ w (.int .i64 (i * j)) := by
 refine J2 S hx hy ?_; grind [j4, IntWalk.i64_in]
theorem QB (S : SeesD ds n a L) (hx : val L x = some (.int .i64 i)) (hy : val L y = some (.int .i64 j)) (h : 0 ≤ i ∧ i ≤ 9223372036854775807 ∧ 0 < j)
 {d : Option Tmp} : Je P a ⟨d, .binOp .quo xt x y yt, t, p, e, g⟩ w (.int .i64 (i / j)) := by
 obtain ⟨h0, h1, h2⟩ := h
 have hne : j ≠ 0 := by omega
 have hq : i.tdiv j = i / j := Int.tdiv_eq_ediv_of_nonneg h0
 have hb : -9223372036854775808 ≤ i / j ∧ i / j ≤ 9223372036854775807 := by
  have := Int.ediv_nonneg h0 (Int.le_of_lt h2)
  have := Int.ediv_le_self j h0
  omega
 unfold Je execOp
 simp only [S.eval hx, S.eval hy]
 simp [eqGuard, binOp, Op.intDiv, go_sem, hne, hq, IntWalk.i64_in _ hb]
theorem yw (S : SeesD ds n a L) (hx : val L x = some (.int .i64 i)) (hy : val L y = some (.int .i64 j)) (h : 0 ≤ i ∧ 0 < j)
 {d : Option Tmp} : Je P a ⟨d, .binOp .rem xt x y yt, t, p, e, g⟩ w (.int .i64 (i % j)) := by
 obtain ⟨h0, h2⟩ := h
 have hne : j ≠ 0 := by omega
 have hq : i.tmod j = i % j := Int.tmod_eq_emod_of_nonneg h0
 unfold Je execOp
 simp only [S.eval hx, S.eval hy]
 simp [eqGuard, binOp, Op.intDiv, go_sem, hne, hq]
theorem Jbb {yk : IntKind} (S : SeesD ds n a L) (hx : val L x = some (.int k i)) (hy : val L y = some (.int yk j)) (h : 0 ≤ j)
 {d : Option Tmp} : Je P a ⟨d, .binOp .shr xt x y yt, t, p, e, g⟩ w (.int k (i.fdiv (2 ^ (min j.toNat k.bits)))) := by
 unfold Je execOp
 simp only [S.eval hx, S.eval hy]
 have : ¬ j < 0 := by omega
 simp [eqGuard, binOp, Op.shift, this, go_sem]
theorem Jjl {yk : IntKind} (S : SeesD ds n a L) (hx : val L x = some (.int k i)) (hy : val L y = some (.int yk j)) (h : 0 ≤ j)
 {d : Option Tmp} : Je P a ⟨d, .binOp .shl xt x y yt, t, p, e, g⟩ w (.int k (k.wrap (i * 2 ^ (min j.toNat k.bits)))) := by
 unfold Je execOp
 simp only [S.eval hx, S.eval hy]
 have : ¬ j < 0 := by omega
 simp [eqGuard, binOp, Op.shift, this, go_sem]
theorem zO (S : SeesD ds n a L) (hx : val L x = some (.bool b)) {d : Option Tmp} : Je P a ⟨d, .unOp .not xt x, t, p, e, g⟩ w (.bool (!b)) := by
 unfold Je execOp; simp only [S.eval hx]; rfl
theorem Jhi (S : SeesD ds n a L) (hx : val L x = some (.int .u32 i)) {d : Option Tmp} :
 Je P a ⟨d, .unOp .xor xt x, t, p, e, g⟩ w (.int .u32 (IntKind.u32.wrap (BitVec.ofInt 32 4294967295 ^^^ BitVec.ofInt 32 i).toNat)) := by
 unfold Je execOp; simp only [S.eval hx]; rfl
def Qd : List Value → Nat → Option Value
 | [], _ => none
 | x :: _, 0 => some x
 | _ :: l, i + 1 => Qd l i
theorem Wi : ∀ (l : List Value) (i : Nat), Qd l i = l[i]?
 | [], i => by simp [Qd]
 | x :: l, 0 => rfl
 | x :: l, i + 1 => by simp [Qd, Wi l i]
theorem GH {vs : Array Value} {i : Nat} (S : SeesD ds n a L) (hx : val L x = some (.tuple vs)) (hi : Qd vs.toList i = some v) {d : Option Tmp} :
 Je P a ⟨d, .extract x i, t, p, e, g⟩ w v := by
 rw [Wi, Array.getElem?_toList] at hi; unfold Je execOp; simp only [S.eval hx]; simp [Instr.extract, hi, go_sem]
theorem Vt {b : Builtin} {xs : List Operand} {vs : List Value} (S : SeesD ds n a L) (hx : Vl L xs = some vs) {d : Option Tmp} :
 ∃ cs, (execOp a.eval ⟨d, .call { callee := .builtin b, args := xs.toArray, argTypes := ts }, t, p, e, g⟩).run P w = (builtin b ts t cs vs.toArray).run P w := by
 have h : xs.toArray.map a.eval = vs.toArray := by rw [← S.evals hx]; simp
 have h2 : (execOp a.eval ⟨d, .call { callee := .builtin b, args := xs.toArray, argTypes := ts }, t, p, e, g⟩).run P w = (builtin b ts t (xs.toArray.map fun | .const _ => true | _ => false) vs.toArray).run P w := by
  grind [execOp, resolve, invoke]
 grind
theorem Dn {ad : Option Addr} {l c : Nat} {T E : TypeId} (S : SeesD ds n a L) (hx : val L x = some (.slice ad l c)) (hU : P.underlying T = some (.slice E)) {d : Option Tmp} :
 Je P a ⟨d, .call { callee := .builtin .len, args := #[x], argTypes := #[T] }, t, p, e, g⟩ w (.int .i64 l) := by
 obtain ⟨cs, h⟩ := Vt (P := P) (w := w) (b := .len) (xs := [x]) (vs := [.slice ad l c]) S (by simp [Vl, hx]) (d := d) (ts := #[T]) (t := t) (p := p) (e := e) (g := g)
 unfold Je
 rw [h]
 simp [Builtin.len_, underlying, hU, go_sem]
theorem JcU {ad : Option Addr} {l c : Nat} {T E : TypeId} (S : SeesD ds n a L) (hx : val L x = some (.slice ad l c)) (hU : P.underlying T = some (.slice E)) {d : Option Tmp} :
 Je P a ⟨d, .call { callee := .builtin .cap, args := #[x], argTypes := #[T] }, t, p, e, g⟩ w (.int .i64 c) := by
 obtain ⟨cs, h⟩ := Vt (P := P) (w := w) (b := .cap) (xs := [x]) (vs := [.slice ad l c]) S (by simp [Vl, hx]) (d := d) (ts := #[T]) (t := t) (p := p) (e := e) (g := g)
 unfold Je
 rw [h]
 simp [Builtin.cap_, underlying, hU, go_sem]
theorem Jjn (S : SeesD ds n a L) (hx : val L x = some (.int k i)) (hy : val L y = some (.int k j)) {d : Option Tmp} :
 Je P a ⟨d, .call { callee := .builtin .min, args := #[x, y], argTypes := ts }, t, p, e, g⟩ w (.int k (min i j)) := by
 obtain ⟨cs, h⟩ := Vt (P := P) (w := w) (b := .min) (xs := [x, y]) (vs := [.int k i, .int k j]) S (by grind [Vl]) (d := d) (ts := ts) (t := t) (p := p) (e := e) (g := g)
 unfold Je
 rw [h]
 have : (if j < i then j else i) = min i j := by omega
 simp [Builtin.min_, Builtin.min2, List.foldlM, go_sem, this]
theorem JgI (S : SeesD ds n a L) (hx : val L x = some (.int k i)) (hy : val L y = some (.int k j)) {d : Option Tmp} :
 Je P a ⟨d, .call { callee := .builtin .max, args := #[x, y], argTypes := ts }, t, p, e, g⟩ w (.int k (max i j)) := by
 obtain ⟨cs, h⟩ := Vt (P := P) (w := w) (b := .max) (xs := [x, y]) (vs := [.int k i, .int k j]) S (by grind [Vl]) (d := d) (ts := ts) (t := t) (p := p) (e := e) (g := g)
 unfold Je
 rw [h]
 have : (if i < j then j else i) = max i j := by omega
 simp [Builtin.max_, Builtin.max2, List.foldlM, go_sem, this]
theorem jT {ad : Addr} (S : SeesD ds n a L) (hx : val L x = some (.pointer (some ad))) {d : Option Tmp} : Je P a ⟨d, .nilCheck x, t, p, e, g⟩ w (.pointer (some ad)) := by
 unfold Je execOp; simp only [S.eval hx]; rfl
end
section
variable {ds : List Deferred}
variable {P : Program} {ops : Array Oper} {Q : Exit → Act → World → Prop} {rest : List Oper} {n d : Nat} {a : Act} {L : List (Nat × Value)} {w w0 : World} {v : Value} {o : Oper} {H : List Ent}
variable {next : Act → World → Prop} {e ed : Array Edge} {c : Array Value} {f : FuncId} {cs : List Value} {b k sz i : Nat} {x : Operand} {g : Option (Nat × Bool)} {p : String} {t ty T : TypeId} {u : Value}
def Gp (P : Program) (s f : Nat) : Option Nat :=
 match P.underlying s with
 | some (.struct fs) => match fs[f]? with
   | some fl => match P.info? fl.type with
     | some i => if i.size = 0 then none else some fl.offset
     | none => none
   | none => none
 | _ => none
theorem ZX (b o k : Nat) : (⟨b, o, none⟩ : Addr).add k = ⟨b, o + k, none⟩ := by
 grind [Addr.add]
theorem VH {o s f : Nat} (S : SeesD ds n a L) (hF : Gp P s f = some k) (hx : val L x = some (.pointer (some ⟨b, o, none⟩))) {d : Option Tmp} :
 Je P a ⟨d, .fieldAddr s x f, t, p, e, g⟩ w (.pointer (some ⟨b, o + k, none⟩)) := by
 unfold Gp at hF
 cases hu : P.underlying s with
 | none => simp [hu] at hF
 | some td =>
   rw [hu] at hF
   cases td <;> simp only [reduceCtorEq] at hF
   rename_i fs
   cases hf : fs[f]? with
   | none => simp [hf] at hF
   | some fl =>
     simp only [hf] at hF
     cases hi : P.info? fl.type with
     | none => simp [hi] at hF
     | some i =>
       simp only [hi] at hF
       split at hF
       ·cases hF
       ·rename_i hz
        cases hF
        unfold Je execOp
        simp only [S.eval hx]
        simp [Instr.fieldAt, underlying, hu, hf, Instr.sureAddr, fieldPlace, sizeOf, typeInfo, hi, hz, ZX, go_sem]
def JX (P : Program) (t : TypeId) : Option (TypeId × Nat) :=
 match P.underlying t with
 | some (.slice e) => match P.info? e with
   | some i => some (e, i.size)
   | none => none
 | _ => none
theorem Vw {t e : Nat} (h : JX P t = some (e, sz)) : P.underlying t = some (.slice e) ∧ ∃ i, P.info? e = some i ∧ i.size = sz := by
 grind [JX]
theorem yx {ix : Operand} {o l c t e : Nat} {k : IntKind} {i : Int} (S : SeesD ds n a L) (hE : JX P t = some (e, sz)) (hx : val L x = some (.slice (some ⟨b, o, none⟩) l c)) (hi : val L ix = some (.int k i)) (h : 0 ≤ i ∧ i < l)
 {d : Option Tmp} : Je P a ⟨d, .indexAddr t x ix, ty, p, ed, g⟩ w (.pointer (some ⟨b, o + i.toNat * sz, none⟩)) := by
 obtain ⟨hu, inf, hinf, rfl⟩ := Vw hE
 unfold Je execOp
 simp only [S.eval hx, S.eval hi]
 simp [Instr.indexAt, asIntOf, underlying, hu, sizeOf, typeInfo, hinf, h, ZX, go_sem]
def YQ (P : Program) (t : TypeId) : Option (Nat × Nat) :=
 match P.underlying t with
 | some (.array m e) => match P.info? e with
   | some i => some (m, i.size)
   | none => none
 | _ => none
theorem Yr {t m : Nat} (h : YQ P t = some (m, sz)) : ∃ e, P.underlying t = some (.array m e) ∧ ∃ i, P.info? e = some i ∧ i.size = sz := by
 grind [YQ]
theorem VM {ix : Operand} {o t m : Nat} {k : IntKind} {i : Int} (S : SeesD ds n a L) (hE : YQ P t = some (m, sz)) (hx : val L x = some (.pointer (some ⟨b, o, none⟩))) (hi : val L ix = some (.int k i)) (h : 0 ≤ i ∧ i < m)
 {d : Option Tmp} : Je P a ⟨d, .indexAddr t x ix, ty, p, ed, g⟩ w (.pointer (some ⟨b, o + i.toNat * sz, none⟩)) := by
 obtain ⟨e, hu, inf, hinf, rfl⟩ := Yr hE
 unfold Je execOp
 simp only [S.eval hx, S.eval hi]
 simp [Instr.indexAt, asIntOf, underlying, hu, sizeOf, typeInfo, hinf, h, Instr.sureAddr, ZX, go_sem]
def vQ (P : Program) (t : TypeId) : Bool :=
 match P.underlying t with
 | some (.struct _) | some (.array _ _) | none => false
 | _ => true
theorem j0 (h : vQ P t = true) : (isAgg t).run P w = .ok false w := by
 unfold vQ at h
 cases hu : P.underlying t with
 | none => grind
 | some td => rw [hu] at h; cases td <;> simp_all [isAgg, underlying, go_sem]
theorem Jf {o t : Nat} (S : SeesD ds n a L) (hT : vQ P t = true) (hx : val L x = some (.pointer (some ⟨b, o, none⟩))) (hc : w.cell? ⟨b, o, none⟩ = some v)
 {d : Option Tmp} : Je P a ⟨d, .load t x, ty, p, ed, g⟩ w v := by
 unfold Je execOp
 simp only [S.eval hx]
 simp only [Instr.loadAt, Instr.sureAddr, loadVar, Sem.run_bind, Sem.run_pure, Result.andThen_ok, j0 hT]
 simp_all
def vB (P : Program) (t : TypeId) : Option Nat :=
 match P.underlying t with
 | some (.struct _) | some (.array _ _) => match P.info? t with
   | some i => some i.size
   | none => none
 | _ => none
theorem Kn {t : Nat} (h : vB P t = some k) : (∀ w, (isAgg t).run P w = .ok true w) ∧ ∃ i, P.info? t = some i ∧ i.size = k := by
 unfold vB at h
 cases hu : P.underlying t with
 | none => grind
 | some td =>
   rw [hu] at h
   cases td <;> simp only [reduceCtorEq] at h
   all_goals
    cases hi : P.info? t with
    | none => grind
    | some i => simp [hi] at h; exact ⟨fun w => by simp [isAgg, underlying, hu, go_sem], i, rfl, h⟩
theorem YL {i : TypeInfo} (hi : P.info? T = some i) : (sizeOf T).run P w = .ok i.size w := by simp [sizeOf, typeInfo, hi, go_sem]
theorem je {b o : Nat} : ∀ (cs : List Value) (i : Nat) (acc : Array Value), (∀ j, j < cs.length → w.cell? ⟨b, o + (i + j), none⟩ = cs[j]?) →
 (loadCellsFrom ⟨b, o, none⟩ i cs.length acc).run P w = .ok (acc ++ cs.toArray) w
 | [], i, acc, _ => by simp [loadCellsFrom, Sem.run_pure]
 | c :: cs, i, acc, h => by
   have h0 := h 0 (by simp)
   simp only [Nat.add_zero, List.getElem?_cons_zero] at h0
   have ih := je cs (i + 1) (acc.push c) (fun j hj => by have := h (j + 1) (by grind); rw [show o + (i + (j + 1)) = o + (i + 1 + j) by omega] at this; simpa using this)
   simp only [List.length_cons, loadCellsFrom, ZX, Sem.run_bind]
   simp_all
def CellsAt (w : World) (b o : Nat) (cs : List Value) : Prop := ∀ j, j < cs.length → w.cell? ⟨b, o + j, none⟩ = cs[j]?
theorem Ja {o t : Nat} (S : SeesD ds n a L) (hT : vB P t = some k) (hx : val L x = some (.pointer (some ⟨b, o, none⟩))) (hk : cs.length = k) (hc : CellsAt w b o cs)
 {d : Option Tmp} : Je P a ⟨d, .load t x, ty, p, ed, g⟩ w (.agg cs.toArray) := by
 obtain ⟨h1, i, hi, hs⟩ := Kn hT
 have hl := je (P := P) (w := w) (b := b) (o := o) cs 0 #[] (fun j hj => by rw [Nat.zero_add]; exact hc j hj)
 unfold Je execOp
 simp only [S.eval hx]
 rw [hk] at hl
 simp only [Instr.loadAt, Instr.sureAddr, loadVar, Sem.run_bind, Sem.run_pure, Result.andThen_ok, h1, if_true, YL hi, hs, loadCells, hl]
 simp
def Vs : List Value → Nat → Nat → Option (List Value)
 | _, 0, 0 => some []
 | c :: l, 0, k + 1 => (Vs l 0 k).map (c :: ·)
 | _ :: l, o + 1, k => Vs l o k
 | [], _, _ => none
theorem vV : ∀ (l : List Value) (o k : Nat) (cs : List Value), Vs l o k = some cs → cs.length = k ∧ ∀ j, j < k → cs[j]? = l[o + j]?
 | l, 0, 0, cs, h => by grind [Vs]
 | [], 0, k + 1, cs, h => by grind [Vs]
 | c :: l, 0, k + 1, cs, h => by
   simp only [Vs, Option.map_eq_some_iff] at h
   obtain ⟨r, hr, rfl⟩ := h
   obtain ⟨h1, h2⟩ := vV l 0 k r hr
   grind
 | c :: l, o + 1, k, cs, h => by
   simp only [Vs] at h
   obtain ⟨h1, h2⟩ := vV l o k cs h
   grind
 | [], o + 1, k, cs, h => by grind [Vs]
theorem Blk.cellsAt {o : Nat} (B : Blk w b c t) (h : Vs c.toList o k = some cs) : CellsAt w b o cs := fun j hj => by
 obtain ⟨h1, h2⟩ := vV _ _ _ _ h
 rw [B.cells, h2 j o_]; simp
theorem Mem.cell (M : Mem w0 w H) (p : Nat) (h : H[p]? = some (.blk b c t)) (hc : c[i]? = some v) : w.cell? ⟨b, i, none⟩ = some v := by rw [(M.blk p h).cells]; exact hc
theorem Mem.cellsAt {o : Nat} (M : Mem w0 w H) (p : Nat) (h : H[p]? = some (.blk b c t)) (hc : Vs c.toList o k = some cs) : CellsAt w b o cs := (M.blk p h).cellsAt hc
/-! ### new memory -/
theorem Jbx (t : TypeId) (u : Value) : (newVar t u).run P w = .ok ⟨w.heap.size, 0, none⟩ (w.alloc (.cells u.cells t)) := by
 simp [newVar, newRow, go_sem]
theorem VA (S : SeesD ds n a L) (M : Mem w0 w H) {d : Nat} (hg : gd ops L ⟨some d, .box T x, t, p, e, g⟩ = some true) (hn : Nat.blt d n = true) (hx : val L x = some u) (c : Array Value) (hc : u.cells = c)
 (k : ∀ a w' b, SeesD ds n a ((d, .pointer (some ⟨b, 0, none⟩)) :: L) → Mem w0 w' (.blk b c T :: H) → Below w.heap.size w w' → wpList P ops Q rest a w') : wpList P ops Q (⟨some d, .box T x, t, p, e, g⟩ :: rest) a w := by
 subst hc
 refine ZP (v := .pointer (some ⟨w.heap.size, 0, none⟩)) (w' := w.alloc (.cells u.cells T)) S hg rfl hn ?_ fun a S' => k a _ w.heap.size S' (M.alloc _ _) (Vd (JE _) _)
 unfold execOp
 simp only [S.eval hx, Instr.box, Sem.run_bind, Jbx, Result.andThen_ok, Sem.run_pure]
def Ja9 (P : Program) (t : TypeId) : Option (Array Value) :=
 match P.info? t with
 | some i => i.zero.map Value.cells
 | none => none
theorem Jfm (S : SeesD ds n a L) (M : Mem w0 w H) {d : Nat} (hg : gd ops L ⟨some d, .alloc T, t, p, e, g⟩ = some true) (hn : Nat.blt d n = true) (c : Array Value) (hc : Ja9 P T = some c)
 (k : ∀ a w' b, SeesD ds n a ((d, .pointer (some ⟨b, 0, none⟩)) :: L) → Mem w0 w' (.blk b c T :: H) → Below w.heap.size w w' → wpList P ops Q rest a w') : wpList P ops Q (⟨some d, .alloc T, t, p, e, g⟩ :: rest) a w := by
 refine ZP (v := .pointer (some ⟨w.heap.size, 0, none⟩)) (w' := w.alloc (.cells c T)) S hg rfl hn ?_ fun a S' => k a _ w.heap.size S' (M.alloc _ _) (Vd (JE _) _)
 unfold Ja9 at hc
 cases hi : P.info? T with
 | none => grind
 | some i =>
   simp only [hi, Option.map_eq_some_iff] at hc
   obtain ⟨z, hz, rfl⟩ := hc
   unfold execOp
   simp [Instr.alloc, zeroValue, typeInfo, hi, hz, Sem.run_bind, go_sem]
/-! ### stores -/
def Gg : Value → Bool
 | .agg _ | .tuple _ => false
 | _ => true
theorem Jdv {o : Nat} (h1 : Gg u = true) (hc : ∃ x, w.cell? ⟨b, o, none⟩ = some x) (hf : w.frozen? ⟨b, o, none⟩ = false) {β : Type} (k : Sem β) :
 (Sem.store .plain ⟨b, o, none⟩ u k).run P w = k.run P (w.setCell ⟨b, o, none⟩ u) := by
 obtain ⟨x, hx⟩ := hc
 cases u <;> simp_all [Sem.run, Gg]
def Jt : List Value → Nat → List Value → List Value
 | l, _, [] => l
 | l, o, u :: us => Jt (l.set o u) (o + 1) us
def Jp : List Value → Bool
 | [] => true
 | u :: us => Gg u && Jp us
theorem Vu : ∀ (us : List Value) (l : List Value) (o : Nat), (Jt l o us).length = l.length
 | [], l, o => rfl
 | u :: us, l, o => by rw [Jt, Vu us]; simp
theorem vm {b o : Nat} {T : TypeId} : ∀ (us : List Value) (i : Nat) (l : List Value) (w : World) (H : List Ent) (pos : Nat), Mem w0 w H → H[pos]? = some (.blk b l.toArray T) → Jp us = true → o + i + us.length ≤ l.length →
 ∃ w', (storeCells ⟨b, o, none⟩ us i).run P w = .ok () w' ∧ Mem w0 w' (H.set pos (.blk b (Jt l (o + i) us).toArray T))
 | [], i, l, w, H, pos, M, hp, _, _ => ⟨w, by simp [storeCells, Sem.run_pure], by
    grind [Jt, List.set_getElem_self]⟩
 | u :: us, i, l, w, H, pos, M, hp, h1, hle => by
   simp only [Jp, Bool.and_eq_true] at h1
   simp only [List.length_cons] at hle
   have B := M.blk pos hp
   have hlt : pos < H.length := (List.getElem?_eq_some_iff.1 hp).1
   have hcell : ∃ x, w.cell? ⟨b, o + i, none⟩ = some x := ⟨l[o + i]'o_, by rw [B.cells]; simp⟩
   have M1 := M.setCell pos hp (o + i) u
   obtain ⟨w', hr, M2⟩ := vm (b := b) (o := o) (T := T) us (i + 1) (l.set (o + i) u) (w.setCell ⟨b, o + i, none⟩ u) (H.set pos (.blk b (l.toArray.setIfInBounds (o + i) u) T)) pos M1 (by grind) h1.2 (by grind)
   refine ⟨w', ?_, ?_⟩
   ·simp only [storeCells, ZX, Sem.run_bind]
    rw [show (store ⟨b, o + i, none⟩ u).run P w = .ok () (w.setCell ⟨b, o + i, none⟩ u) from Jdv h1.1 hcell (B.frz _) _]
    exact hr
   ·simpa [Jt, Nat.add_assoc] using M2
theorem Ju {y : Operand} {o : Nat} {l us : List Value} {BT : TypeId} (S : SeesD ds n a L) (M : Mem w0 w H) (pos : Nat) (hg : gd ops L ⟨none, .store T x y, t, p, e, g⟩ = some true)
 (hT : (P.info? T).map (·.size) = some sz) (hx : val L x = some (.pointer (some ⟨b, o, none⟩))) (hy : val L y = some u) (hu : u.cells.toList = us) (hsz : us.length = sz) (h1 : Jp us = true) (hp : H[pos]? = some (.blk b l.toArray BT)) (hle : o + us.length ≤ l.length)
 (k : ∀ w, Mem w0 w (H.set pos (.blk b (Jt l o us).toArray BT)) → wpList P ops Q rest a w) : wpList P ops Q (⟨none, .store T x y, t, p, e, g⟩ :: rest) a w := by
 obtain ⟨w', hr, M'⟩ := vm (P := P) us 0 l w H pos M hp h1 o_
 refine Jis (w' := w') S hg rfl ?_ (k w' M')
 cases hi : P.info? T with
 | none => grind
 | some inf =>
   have hs : inf.size = sz := by grind
   have hs' : u.cells.size = inf.size := by grind
   unfold execOp
   simp only [S.eval hx, S.eval hy, Instr.storeAt, Instr.sureAddr, storeVar, Sem.run_bind, Sem.run_pure, Result.andThen_ok, YL hi, hs', ne_eq, not_true, if_false, hu, hr]
/-! ### calls -/
def VL (P : Program) (f : FuncId) : Prop := ∀ (args : Array Value) (w : World), (callFunc f args).run P w = .ok (.enter f args) w
theorem Ji {fn : Func} (hf : P.funcs[f]? = some fn) (h1 : (fn.name == "runtime.NumGoroutine") = false) (h2 : fn.body.isNone = false) : VL P f := fun args w => by
 show (Sem.run P (match P.funcs[f]? with | none => _ | some fn => _) w) = _
 rw [hf]
 simp only [h1, h2, Bool.false_eq_true, if_false]
 rfl
theorem DJ {xs : List Operand} {vs : List Value} (hE : VL P f) (S : SeesD ds n a L) (hx : Vl L xs = some vs) {d : Option Tmp} {ts : Array TypeId} :
 (execOp a.eval ⟨d, .call { callee := .value (.func f), args := xs.toArray, argTypes := ts }, t, p, e, g⟩).run P w = .ok (.enter f vs.toArray) w := by
 have h : xs.toArray.map a.eval = vs.toArray := by rw [← S.evals hx]; simp
 unfold execOp
 simp only [resolve, h, Act.eval, Deferred.ofValue, Sem.run_bind, Sem.run_pure, Result.andThen_ok, invoke, Array.append_empty, Array.empty_append]
 exact hE _ _
theorem U8 {xs : List Operand} {vs : List Value} {R : Ending → World → Prop} (S : SeesD ds n a L) {d : Nat} {ts : Array TypeId} 
 (hE : VL P f) (hg : gd ops L ⟨some d, .call { callee := .value (.func f), args := xs.toArray, argTypes := ts }, t, p, e, g⟩ = some true) (hn : Nat.blt d n = true) (hx : Vl L xs = some vs) (hC : Calls P f vs.toArray w R)
 (k : ∀ e w', R e w' → ∃ v, e = .returned v ∧ ∀ a, SeesD ds n a ((d, v) :: L) → wpList P ops Q rest a w') : wpList P ops Q (⟨some d, .call { callee := .value (.func f), args := xs.toArray, argTypes := ts }, t, p, e, g⟩ :: rest) a w := by
 unfold wpList
 rw [if_pos (VP S hg)]
 refine .inl ?_
 unfold Oper.wp
 rw [DJ hE S hx, Oper.upon_enter]
 refine hC.mono fun e w' hR => ?_
 obtain ⟨v, rfl, hk⟩ := k e w' hR
 exact hk _ (S.put hn v)
/-! ### regions, control, the end -/
theorem Jn (h : next a w) : Exit.then next Q .normal a w := h
theorem ZN (h : Q (.exit i) a w) : Exit.then next Q (.exit i) a w := h
theorem Yu (h : Q .ret a w) : Exit.then next Q .ret a w := h
theorem Jy (h : Q .normal a w) : Exit.inBlock i Q .normal a w := h
theorem JeV (h : Q .ret a w) : Exit.inBlock i Q .ret a w := h
theorem jS (h : Q .normal a w) : Exit.inBlock i Q (.exit i) a w := by grind [Exit.inBlock]
theorem Jcv {j : Nat} (hne : Nat.beq j i = false) (h : Q (.exit j) a w) : Exit.inBlock i Q (.exit j) a w := by
 grind [Exit.inBlock, Nat.ne_of_beq_eq_false]
theorem YI {x y : Code} (I : Act → World → Prop) (h1 : x.wp P (Exit.then I Q) a w) (h2 : ∀ a w, I a w → y.wp P Q a w) : (Code.seq x y).wp P Q a w :=
 wp_seq (wp_mono h1 fun e a w h => by cases e <;> first | exact h2 a w h | exact h)
def Jki (L : List (Nat × Value)) (rs : List Nat) : Option (List Value) := Vl L (rs.map .tmp)
end
section
variable {ds : List Deferred}
variable {P : Program} {ops : Array Oper} {Q : Exit → Act → World → Prop} {rest : List Oper} {n d : Nat} {a : Act} {L : List (Nat × Value)} {w w0 : World} {v : Value} {o : Oper} {H : List Ent}
variable {ed : Array Edge} {x y i j : Int} {k1 k2 : IntKind} {t e len cap sz : Nat} {lo hi : Operand} {g : Option (Nat × Bool)} {ad : Option Addr} {p : String} {ty : TypeId} {C : World → Prop}
theorem JjV {b : Bool} (h : (!b) = true) : b = false := by grind
theorem JjU {b : Bool} (h : (!b) = false) : b = true := by grind
theorem Jj1 (h : decide (x < y) = false) : y ≤ x := Int.not_lt.1 (of_decide_eq_false h)
theorem Jj0 (h : decide (x ≤ y) = false) : y < x := Int.not_le.1 (of_decide_eq_false h)
theorem JjZ (h : (x == y) = true) : x = y := by grind
theorem JjY (h : (x == y) = false) : x ≠ y := by grind
theorem JjX (h : (x != y) = true) : x ≠ y := by grind
theorem JjW (h : (x != y) = false) : x = y := by grind
/-! ### regions that draw -/
theorem JfA {Q : Act → Prop} (S : SeesD ds n a L) (hg : gd ops L o = some true) (hd : o.dst = some d) (hn : Nat.blt d n = true) (hy : ∀ w, C w → Je P a o w v) (k : ∀ a, SeesD ds n a ((d, v) :: L) → wpQuiet P ops C Q rest a) : wpQuiet P ops C Q (o :: rest) a := by
 unfold wpQuiet
 rw [if_pos (VP S hg)]
 refine ⟨v, fun w hw => ?_, ?_⟩
 ·unfold Oper.quietAt
  rw [show (execOp a.eval o).run P w = _ from hy w hw]
  exact ⟨rfl, rfl⟩
 ·rw [hd]; exact k _ (S.put hn v)
theorem JgN {Q : Act → Prop} (S : SeesD ds n a L) (hg : gd ops L o = some false) (hd : o.dst = some d) (hn : Nat.blt d n = true) (k : ∀ a, SeesD ds n a ((d, undef) :: L) → wpQuiet P ops C Q rest a) : wpQuiet P ops C Q (o :: rest) a := by
 unfold wpQuiet
 rw [if_neg (by grind [VP]), hd]
 exact k _ (S.put hn undef)
theorem jM {Q : Act → Prop} {f : FuncId} {xs : List Operand} {vs : List Value} (S : SeesD ds n a L) {d : Nat} {ts : Array TypeId} {t : TypeId} {e : Array Edge} 
 (hE : VL P f) (hg : gd ops L ⟨some d, .call { callee := .value (.func f), args := xs.toArray, argTypes := ts }, t, p, e, g⟩ = some true) (hn : Nat.blt d n = true) (hx : Vl L xs = some vs)
 (hC : ∀ w, C w → Calls P f vs.toArray w fun e w' => e = .returned v ∧ C w')
 (k : ∀ a, SeesD ds n a ((d, v) :: L) → wpQuiet P ops C Q rest a) : wpQuiet P ops C Q (⟨some d, .call { callee := .value (.func f), args := xs.toArray, argTypes := ts }, t, p, e, g⟩ :: rest) a := by
 unfold wpQuiet
 rw [if_pos (VP S hg)]
 refine ⟨v, fun w hw => ?_, k _ (S.put hn v)⟩
 unfold Oper.quietAt
 rw [DJ hE S hx]
 exact ⟨rfl, hC w hw⟩
theorem ZQ {f : FuncId} {args : Array Value} {v : Value} (h : ∀ w, Mem w0 w H → Calls P f args w fun e w' => e = .returned v ∧ Below w.heap.size w w') : ∀ w, Mem w0 w H → Calls P f args w fun e w' => e = .returned v ∧ Mem w0 w' H :=
 fun w M => (h w M).mono fun _ _ hh => ⟨hh.1, M.grow hh.2⟩
theorem Jfa {id : Nat} {l : List Oper} (M : Mem w0 w H) (hm : P.follows .mixedOrders = true) (hB : Region.lexB .any l.toArray = true)
 (h : wpQuiet P l.toArray (fun w' => Mem w0 w' H) (fun a' => ∀ w', Mem w0 w' H → Q .normal a' w') l a) : (Code.region id l.toArray true).wp P Q a w :=
 wp_region_quiet (C := fun w' => Mem w0 w' H) hm hB M.drew (by simpa using h)
/-! ### structs built -/
def Gb (P : Program) (fs : Array Field) : Option (List (Nat × Nat)) :=
 fs.toList.mapM fun f => match P.info? f.type with | some i => some (f.offset, i.size) | none => none
def Kl (P : Program) (t : TypeId) : Option (List (Nat × Nat) × List Value) :=
 match P.info? t with
 | some i => match i.zero with
   | some z => match P.underlying t with
     | some (.struct fs) => match Gb P fs with
       | some ps => some (ps, z.cells.toList)
       | none => none
     | _ => none
   | none => none
 | none => none
def YY (pl : Nat → Option (Nat × Nat)) : List Value → List (Nat × Value) → Option (List Value)
 | l, [] => some l
 | l, (i, u) :: r => match pl i with
   | none => none
   | some (off, sz) => bif Nat.beq u.cells.toList.length sz && Nat.ble (off + sz) l.length then YY pl (Jt l off u.cells.toList) r else none
theorem Q0 : ∀ (us : List Value) (l : List Value) (off j : Nat), ((us.zipIdx j).foldl (fun cs p => cs.setIfInBounds (off + p.2) p.1) l.toArray) = (Jt l (off + j) us).toArray
 | [], l, off, j => rfl
 | u :: us, l, off, j => by
   simp only [List.zipIdx_cons, List.foldl_cons, List.setIfInBounds_toArray]
   rw [Q0 us]
   rfl
theorem js {pl : Nat → Option (Nat × Nat)} : ∀ (r : List (Nat × Value)) (l cs : List Value), YY pl l r = some cs → Instr.fill pl l.toArray r = some cs.toArray
 | [], l, cs, h => by simp only [YY, Option.some.injEq] at h; subst h; rfl
 | (i, u) :: r, l, cs, h => by
   unfold YY at h
   unfold Instr.fill
   cases hp : pl i with
   | none => grind
   | some q =>
     obtain ⟨off, sz⟩ := q
     rw [hp] at h
     simp only at h ⊢
     cases hb : (Nat.beq u.cells.toList.length sz && Nat.ble (off + sz) l.length) with
     | false => grind
     | true =>
       rw [hb] at h
       simp only [Bool.and_eq_true] at hb
       have h1 : u.cells.size = sz := by grind [Nat.eq_of_beq_eq_true]
       have h2 := Nat.le_of_ble_eq_true hb.2
       rw [if_neg (by grind)]
       have := js (pl := pl) r _ cs h
       rw [← this]
       congr 1
       have e := Q0 u.cells.toList l off 0
       simp only [Nat.add_zero] at e
       rw [← e, ← Array.foldl_toList]
       simp
theorem Jbw {fs : Array Field} {ps : List (Nat × Nat)} (h : Gb P fs = some ps) : (fs.mapM fun f : Field => (do pure (f.offset, ← sizeOf f.type) : Sem (Nat × Nat))).run P w = .ok ps.toArray w := by
 obtain ⟨l⟩ := fs
 unfold Gb at h
 simp only at h
 rw [List.mapM_toArray]
 have key : ∀ (l : List Field) (ps : List (Nat × Nat)), l.mapM (fun f => match P.info? f.type with | some i => some (f.offset, i.size) | none => none) = some ps →
  (l.mapM fun f : Field => (do pure (f.offset, ← sizeOf f.type) : Sem (Nat × Nat))).run P w = .ok ps w := by
  intro l
  induction l with
  | nil => simp_all
  | cons f l ih =>
    intro ps h
    rw [List.mapM_cons] at h
    cases hi : P.info? f.type with
    | none => grind
    | some i =>
      simp only [hi, Option.bind_eq_bind, Option.bind_some] at h
      cases hr : l.mapM (fun f => match P.info? f.type with | some i => some (f.offset, i.size) | none => none) with
      | none => grind
      | some r =>
        rw [hr] at h
        simp only [Option.bind_some, Option.pure_def, Option.some.injEq] at h
        subst h
        rw [List.mapM_cons]
        simp only [Sem.run_bind, YL hi, Result.andThen_ok, Sem.run_pure, ih r hr]
 simp_all
theorem KW (f : Operand → Value) : ∀ ps : List (Nat × Operand), ps.map (fun x => (x.1, f x.2)) = (ps.map (·.1)).zip ((ps.map (·.2)).map f)
 | [] => rfl
 | q :: ps => by grind
theorem JW {T : TypeId} {ps : List (Nat × Operand)} {pl : List (Nat × Nat)} {z vs cs : List Value} (S : SeesD ds n a L) (hB : Kl P T = some (pl, z)) (hv : Vl L (ps.map (·.2)) = some vs) (hf : YY (fun i => pl[i]?) z ((ps.map (·.1)).zip vs) = some cs)
 {d : Option Tmp} {t : TypeId} {e : Array Edge} : Je P a ⟨d, .build T ps.toArray, t, p, e, g⟩ w (.agg cs.toArray) := by
 unfold Kl at hB
 cases hi : P.info? T with
 | none => simp [hi] at hB
 | some i =>
   simp only [hi] at hB
   cases hz : i.zero with
   | none => simp [hz] at hB
   | some zv =>
     simp only [hz] at hB
     cases hu : P.underlying T with
     | none => simp [hu] at hB
     | some td =>
       rw [hu] at hB
       cases td <;> simp only [reduceCtorEq] at hB
       rename_i fs
       cases hpl : Gb P fs with
       | none => simp [hpl] at hB
       | some pl' =>
         simp only [hpl, Option.some.injEq, Prod.mk.injEq] at hB
         obtain ⟨rfl, rfl⟩ := hB
         have hparts : (ps.toArray.map fun (x : Nat × Operand) => (x.1, a.eval x.2)).toList = (ps.map (·.1)).zip vs := by
          rw [← S.evals hv, ← KW a.eval ps]; simp
         have hfill := js _ _ _ hf
         unfold Je execOp
         simp only [Instr.build, Sem.run_bind]
         rw [show (zeroValue T).run P w = .ok zv w by simp [zeroValue, typeInfo, hi, hz, go_sem]]
         simp only [Result.andThen_ok]
         rw [show (underlying T).run P w = .ok (.struct fs) w by simp [underlying, hu, go_sem]]
         simp only [Result.andThen_ok, Sem.run_bind, Jbw hpl]
         simp_all
/-! ### a field of a struct by value -/
/-! ### integers of another kind -/
theorem QC {x : Operand} {k k' : IntKind} {src dst : TypeId} (S : SeesD ds n a L) (hx : val L x = some (.int k i)) (hs : (P.underlying src).isSome = true) (hd : P.underlying dst = some (.int k')) {d : Option Tmp} {t : TypeId} {e : Array Edge} :
 Je P a ⟨d, .convert src dst x, t, p, e, g⟩ w (.int k' (k'.wrap i)) := by
 obtain ⟨td, htd⟩ := Option.isSome_iff_exists.1 hs
 unfold Je execOp
 simp only [S.eval hx, convert, Sem.run_bind]
 rw [show (underlying src).run P w = .ok td w by simp [underlying, htd, go_sem]]
 simp only [Result.andThen_ok]
 rw [show (underlying dst).run P w = .ok (.int k') w by simp [underlying, hd, go_sem]]
 rfl
/-! ### slices cut -/
def Yv (a : Option Addr) (l m sz : Nat) : Option Addr := if m = l then a else a.map (·.add (l * sz))
theorem KY {x mx : Operand} {k : Int} {k3 : IntKind} (S : SeesD ds n a L) (hE : JX P t = some (e, sz)) (hx : val L x = some (.slice ad len cap)) (h1 : val L lo = some (.int k1 i)) (h2 : val L hi = some (.int k2 j)) (h3 : val L mx = some (.int k3 k))
 (h : 0 ≤ i ∧ i ≤ j ∧ j ≤ k ∧ k ≤ cap) {d : Option Tmp} :
 Je P a ⟨d, .slice t x (some lo) (some hi) (some mx), ty, p, ed, g⟩ w (.slice (Yv ad i.toNat k.toNat sz) (j.toNat - i.toNat) (k.toNat - i.toNat)) := by
 obtain ⟨hu, inf, hinf, rfl⟩ := Vw hE
 unfold Je execOp
 simp only [Option.map_some, S.eval hx, S.eval h1, S.eval h2, S.eval h3]
 have e1 : 0 ≤ k ∧ k ≤ cap := by omega
 have e2 : 0 ≤ j ∧ j ≤ (k.toNat : Int) := by omega
 have e2' : j ≤ max k 0 := by omega
 have e3 : 0 ≤ i ∧ i ≤ (j.toNat : Int) := by omega
 have e3' : i ≤ max j 0 := by omega
 have e3n : ¬ max j 0 < i := by omega
 simp [Instr.sliceAt, Instr.slice, Instr.sliceBounds, Instr.sliceBound, underlying, hu, asIntOf, e1, e2, e3, e2', e3', sizeOf, typeInfo, hinf, Yv, go_sem]
theorem KZ {x : Operand} (S : SeesD ds n a L) (hE : JX P t = some (e, sz)) (hx : val L x = some (.slice ad len cap)) (h1 : val L lo = some (.int k1 i)) (h2 : val L hi = some (.int k2 j))
 (h : 0 ≤ i ∧ i ≤ j ∧ j ≤ cap) {d : Option Tmp} :
 Je P a ⟨d, .slice t x (some lo) (some hi) none, ty, p, ed, g⟩ w (.slice (Yv ad i.toNat cap sz) (j.toNat - i.toNat) (cap - i.toNat)) := by
 obtain ⟨hu, inf, hinf, rfl⟩ := Vw hE
 unfold Je execOp
 simp only [Option.map_some, Option.map_none, S.eval hx, S.eval h1, S.eval h2]
 have e2 : 0 ≤ j ∧ j ≤ cap := by omega
 have e3 : 0 ≤ i ∧ i ≤ (j.toNat : Int) := by omega
 have e3' : i ≤ max j 0 := by omega
 have e3n : ¬ max j 0 < i := by omega
 simp [Instr.sliceAt, Instr.slice, Instr.sliceBounds, Instr.sliceBound, underlying, hu, asIntOf, e2, e3, e3', sizeOf, typeInfo, hinf, Yv, go_sem]
theorem Vr {x : Operand} (S : SeesD ds n a L) (hE : JX P t = some (e, sz)) (hx : val L x = some (.slice ad len cap)) (h1 : val L lo = some (.int k1 i))
 (h : 0 ≤ i ∧ i ≤ len) {d : Option Tmp} :
 Je P a ⟨d, .slice t x (some lo) none none, ty, p, ed, g⟩ w (.slice (Yv ad i.toNat cap sz) (len - i.toNat) (cap - i.toNat)) := by
 obtain ⟨hu, inf, hinf, rfl⟩ := Vw hE
 unfold Je execOp
 simp only [Option.map_some, Option.map_none, S.eval hx, S.eval h1]
 simp [Instr.sliceAt, Instr.slice, Instr.sliceBounds, Instr.sliceBound, underlying, hu, asIntOf, h, sizeOf, typeInfo, hinf, Yv, go_sem]
theorem JcQ {x mx : Operand} {k : Int} {k3 : IntKind} (S : SeesD ds n a L) (hE : JX P t = some (e, sz)) (hx : val L x = some (.slice ad len cap)) (h2 : val L hi = some (.int k2 j)) (h3 : val L mx = some (.int k3 k))
 (h : 0 ≤ j ∧ j ≤ k ∧ k ≤ cap) {d : Option Tmp} :
 Je P a ⟨d, .slice t x none (some hi) (some mx), ty, p, ed, g⟩ w (.slice ad j.toNat k.toNat) := by
 obtain ⟨hu, inf, hinf, rfl⟩ := Vw hE
 unfold Je execOp
 simp only [Option.map_some, Option.map_none, S.eval hx, S.eval h2, S.eval h3]
 have e1 : 0 ≤ k ∧ k ≤ cap := by omega
 have e2 : 0 ≤ j ∧ j ≤ (k.toNat : Int) := by omega
 have e2' : j ≤ max k 0 := by omega
 have e0 : ∀ (a : Option Addr), a.map (fun x => x.add 0) = a := fun a => by cases a <;> rfl
 simp [Instr.sliceAt, Instr.slice, Instr.sliceBounds, Instr.sliceBound, underlying, hu, asIntOf, e1, e2, e2', sizeOf, typeInfo, hinf, go_sem]
theorem ZI {x : Operand} (S : SeesD ds n a L) (hE : JX P t = some (e, sz)) (hx : val L x = some (.slice ad len cap)) (h2 : val L hi = some (.int k2 j))
 (h : 0 ≤ j ∧ j ≤ cap) {d : Option Tmp} :
 Je P a ⟨d, .slice t x none (some hi) none, ty, p, ed, g⟩ w (.slice ad j.toNat cap) := by
 obtain ⟨hu, inf, hinf, rfl⟩ := Vw hE
 unfold Je execOp
 simp only [Option.map_some, Option.map_none, S.eval hx, S.eval h2]
 have e0 : ∀ (a : Option Addr), a.map (fun x => x.add 0) = a := fun a => by cases a <;> rfl
 simp [Instr.sliceAt, Instr.slice, Instr.sliceBounds, Instr.sliceBound, underlying, hu, asIntOf, h, sizeOf, typeInfo, hinf, go_sem]
/-! ### several operations that are not wanted, at once -/
theorem SeesD.forget {v : Value} (S : SeesD ds n a ((d, v) :: L)) (h : (JK L d).isNone = true) : SeesD ds n a L := by
 have key : ∀ t u, JK L t = some u → JK ((d, v) :: L) t = some u := fun t u ht => by
  grind [JK, Nat.eq_of_beq_eq_true]
 exact ⟨S.size, S.defers, fun t u ht hlt => S.at_ t u (key t u ht) hlt, fun t u ht => S.lt t u (key t u ht)⟩
def XJ (ops : Array Oper) (L : List (Nat × Value)) (n : Nat) : Nat → List Oper → Bool
 | 0, _ => true
 | _ + 1, [] => false
 | k + 1, o :: r => match gd ops L o, o.dst with
   | some false, some d => (JK L d).isNone && Nat.blt d n && XJ ops L n k r
   | _, _ => false
theorem Vo {C : World → Prop} {Q : Act → Prop} : ∀ (k : Nat) {rest : List Oper} {a : Act} (_ : SeesD ds n a L) (_ : XJ ops L n k rest = true) (_ : ∀ a, SeesD ds n a L → wpQuiet P ops C Q (rest.drop k) a), wpQuiet P ops C Q rest a
 | 0, rest, a, S, _, kk => kk a S
 | k + 1, [], a, S, h, kk => by simp [XJ] at h
 | k + 1, o :: r, a, S, h, kk => by
   unfold XJ at h
   split at h
   ·rename_i d hg hd
    simp only [Bool.and_eq_true] at h
    exact JgN S hg hd h.1.2 fun a' S' => Vo k (S'.forget h.1.1) h.2 kk
   ·cases h
end
section
variable {ds : List Deferred}
variable {P : Program} {ops : Array Oper} {Q : Exit → Act → World → Prop} {rest : List Oper} {n d : Nat} {a : Act} {L : List (Nat × Value)} {w w0 : World} {v : Value} {o : Oper} {H : List Ent}
variable {zc cs xs : List Value} {t e sz by_ lo hi b m lo' hi' i cap : Nat} {x : Value} {w' : World}
def VO (P : Program) (t : TypeId) : Option (TypeId × Nat × Nat × List Value) :=
 match P.underlying t with
 | some (.slice e) => match P.info? e with
   | some i => match i.zero with
     | some z => some (e, i.size, i.bytes, z.cells.toList)
     | none => none
   | none => none
 | _ => none
theorem V6 (h : VO P t = some (e, sz, by_, zc)) : P.underlying t = some (.slice e) ∧ ∃ i z, P.info? e = some i ∧ i.zero = some z ∧ i.size = sz ∧ i.bytes = by_ ∧ z.cells = zc.toArray := by
 unfold VO at h
 cases hu : P.underlying t with
 | none => grind
 | some td =>
   grind [Option.some.injEq]
def Rd (lo hi : Nat) (w : World) (sz : Nat) (v : Value) (n : Nat) (cs : List Value) : Prop :=
 cs.length = n * sz ∧ n ≤ maxLen ∧ ((v = .slice none 0 0 ∧ n = 0) ∨ ∃ (ad : Addr) (cap : Nat), v = .slice (some ad) n cap ∧ n ≤ cap ∧ cap ≤ maxLen ∧ CellsAt w ad.block ad.off cs ∧ (0 < n → ad.spot = none ∧ lo ≤ ad.block ∧ ad.block < hi))
theorem CellsAt.same {o : Nat} {w : World} (h : CellsAt w b o cs) (hs : SameOn lo hi w w') (hb : cs ≠ [] → lo ≤ b ∧ b < hi) : CellsAt w' b o cs := fun j hj => by
 have hne : cs ≠ [] := fun e => by grind
 rw [← h j hj]
 exact World.cell?_of_block (hs b (hb hne).1 (hb hne).2)
theorem Rd.same {w : World} (h : Rd lo hi w sz x m cs) (hs : SameOn lo hi w w') : Rd lo hi w' sz x m cs := by
 obtain ⟨h1, h2, h3⟩ := h
 refine ⟨h1, h2, ?_⟩
 rcases h3 with h3 | ⟨ad, cap, e, hc, hm, ha, hb⟩
 ·grind
 ·refine .inr ⟨ad, cap, e, hc, hm, ha.same hs (fun hne => ?_), hb⟩
  have : 0 < m := Nat.pos_of_ne_zero fun h0 => hne (List.eq_nil_of_length_eq_zero (by grind))
  omega
theorem Rd.wide {w : World} (h : Rd lo hi w sz x m cs) (h1 : lo' ≤ lo) (h2 : hi ≤ hi') : Rd lo' hi' w sz x m cs := by
 obtain ⟨h1', h2', h3⟩ := h
 refine ⟨h1', h2', ?_⟩
 grind
theorem Mem.arg (M : Mem w0 w H) (h : Rd 0 w0.heap.size w0 sz x m cs) : Rd 0 w0.heap.size w sz x m cs := h.same fun k _ h2 => M.below.block k h2
theorem Mem.argW (M : Mem w0 w H) (h : Rd 0 w0.heap.size w0 sz x m cs) : Rd 0 w.heap.size w sz x m cs := (M.arg h).wide (Nat.le_refl _) M.below.size
theorem Rd.later {w : World} (h : Rd 0 w.heap.size w sz x m cs) (hb : Below w.heap.size w w') : Rd 0 w'.heap.size w' sz x m cs := (h.same (.of_below hb (Nat.le_refl _))).wide (Nat.le_refl _) hb.size
theorem Rd.nil (lo hi : Nat) (w : World) (sz : Nat) : Rd lo hi w sz (.slice none 0 0) 0 [] := ⟨by simp, Nat.zero_le _, .inl ⟨rfl, rfl⟩⟩
theorem Rd.form (h : Rd lo hi w sz x m cs) : ∃ ad cap, x = .slice ad m cap ∧ m ≤ cap ∧ cap ≤ maxLen := by
 rcases h.2.2 with ⟨rfl, rfl⟩ | ⟨ad, cap, e, hc, hm, _⟩
 ·grind
 grind
theorem Rd.place (h : Rd lo hi w sz x m cs) (h0 : 0 < m) : ∃ b o cap, x = .slice (some ⟨b, o, none⟩) m cap ∧ m ≤ cap ∧ cap ≤ maxLen ∧ CellsAt w b o cs := by
 rcases h.2.2 with ⟨rfl, rfl⟩ | ⟨⟨b, o, sp⟩, cap, e, hc, hm, ha, hb⟩
 ·omega
 grind
theorem CellsAt.row {o : Nat} {es : List Value} (h : CellsAt w b o cs) (hes : (cs.drop (i * sz)).take sz = es) (hl : es.length = sz) : CellsAt w b (o + i * sz) es := fun j hj => by
 have hj' : j < sz := by omega
 have : es[j]? = cs[i * sz + j]? := by grind
 have hlt : i * sz + j < cs.length := by
  grind
 rw [this, show o + i * sz + j = o + (i * sz + j) by omega]
 exact h _ hlt
theorem CellsAt.sub {o k : Nat} (h : CellsAt w b o cs) : CellsAt w b (o + i) ((cs.drop i).take k) := fun j hj => by
 simp only [List.length_take, List.length_drop] at hj
 rw [List.getElem?_take_of_lt o_, List.getElem?_drop, show o + i + j = o + (i + j) by omega]
 exact h _ o_
theorem Rd.cut {j mx : Nat} {ad : Option Addr} (h : Rd lo hi w sz (.slice ad m cap) m cs) (h1 : i ≤ j) (h2 : j ≤ m) (h3 : j ≤ mx) (h4 : mx ≤ cap) : Rd lo hi w sz (.slice (Yv ad i mx sz) (j - i) (mx - i)) (j - i) ((cs.drop (i * sz)).take ((j - i) * sz)) := by
 obtain ⟨hl, hm, hh⟩ := h
 have hlen : ((cs.drop (i * sz)).take ((j - i) * sz)).length = (j - i) * sz := by
  simp only [List.length_take, List.length_drop, hl]
  have e : (j - i) * sz + i * sz = j * sz := by rw [← Nat.add_mul]; grind
  have : j * sz ≤ m * sz := Nat.mul_le_mul_right _ h2
  omega
 refine ⟨hlen, by omega, ?_⟩
 rcases hh with ⟨e, rfl⟩ | ⟨ad', cap', e, hc, hcm, ha, hb⟩
 ·grind [Yv]
 ·injection e with e1 e2 e3
  subst e1 e3
  right
  by_cases hmi : mx = i
  ·have hji : j - i = 0 := by omega
   refine ⟨ad', mx - i, by grind [Yv], by omega, by omega, ?_, ?_⟩
   ·rw [hji]; simp; intro j hj; grind
   omega
  ·have hadd : (ad'.add (i * sz)).block = ad'.block ∧ (ad'.add (i * sz)).off = ad'.off + i * sz := by
    grind [Addr.add]
   refine ⟨ad'.add (i * sz), mx - i, by grind [Yv], by omega, by omega, ?_, fun h0 => ?_⟩
   ·rw [hadd.1, hadd.2]; exact ha.sub
   grind [Addr.add]
/-! ### rows of one's own -/
def Jd (lo hi : Nat) (e : TypeId) (sz : Nat) (v : Value) (n : Nat) (xs : List Value) : Ent :=
 .own lo hi (fun w => w.ownsRow lo e sz v n xs ∧ ∀ k, v.ownBlock = some k → lo ≤ k ∧ k < hi)
theorem DZ {w : World} (h : w.ownsRow lo e sz x m xs) (hk : ∀ k, x.ownBlock = some k → lo ≤ k ∧ k < hi) (hs : SameOn lo hi w w') : w'.ownsRow lo e sz x m xs := by
 refine ⟨h.1, ?_⟩
 rcases h.2 with hn | ⟨g, cap, cur, rfl, hb, hgg, rest⟩
 ·grind
 ·refine .inr ⟨g, cap, cur, rfl, hb, ?_, rest⟩
  have := hk g rfl
  rw [hs g this.1 this.2]; omega
theorem yv {w : World} (h : w.ownsRow lo e sz x m xs) (hk : ∀ k, x.ownBlock = some k → lo ≤ k ∧ k < hi) : (Jd lo hi e sz x m xs).ok w :=
 fun _ hs => ⟨DZ h hk hs, hk⟩
theorem Mem.rowNil (M : Mem w0 w H) (e sz : Nat) : Mem w0 w (Jd w.heap.size w.heap.size e sz (.slice none 0 0) 0 [] :: H) :=
 M.push (JE w) _ (yv (World.ownsRow_nil w _ e sz) (fun k h => by grind [Value.ownBlock])) (Nat.le_refl _) (Nat.le_refl _)
theorem Ge : ∀ (H : List Ent) (p : Nat) (h : p < H.length), (H[p] :: H.eraseIdx p).Perm H
 | [], p, h => by grind
 | x :: H, 0, _ => by simp
 | x :: H, p + 1, h => by
   simp only [List.getElem_cons_succ, List.eraseIdx_cons_succ]
   exact (List.Perm.swap x _ _).trans ((Ge H p (by grind)).cons x)
theorem Mem.front (M : Mem w0 w H) (p : Nat) {e : Ent} (h : H[p]? = some e) : Mem w0 w (e :: H.eraseIdx p) := by
 have hmem := List.mem_of_getElem? h
 obtain ⟨hp, hpe⟩ := List.getElem?_eq_some_iff.1 h
 have hperm : (e :: H.eraseIdx p).Perm H := by grind [Ge]
 refine ⟨M.below, fun f hf => M.ok f (hperm.subset hf), fun f hf => M.fits f (hperm.subset hf), ?_⟩
 refine List.Pairwise.perm M.apart hperm.symm ?_
 intro x y hxy; exact hxy.symm
def D4 : List Nat → List Ent → Option (List Ent)
 | [], H => some H
 | i :: is, H => (H[i]?).bind fun e => D4 is (e :: H.eraseIdx i)
theorem oG {e : Ent} {H : List Ent} : (e :: H)[0]? = some e := rfl
theorem oS {e : Ent} {H : List Ent} : (e :: H)[i + 1]? = H[i]? := rfl
theorem oE {e : Ent} {H : List Ent} : (e :: H).eraseIdx (i + 1) = e :: H.eraseIdx i := rfl
theorem oZ {e : Ent} {H : List Ent} : (e :: H).eraseIdx 0 = H := rfl
theorem oB {e : Ent} {f : Ent → Option (List Ent)} : (some e).bind f = f e := rfl
theorem Mem.ord (M : Mem w0 w H) (is : List Nat) {H' : List Ent} (h : D4 is H = some H') : Mem w0 w H' := by
 induction is generalizing H with
 | nil => obtain rfl := Option.some.inj h; exact M
 | cons i is ih =>
   unfold D4 at h
   cases he : H[i]? with
   | none => grind
   | some e => rw [he] at h; exact ih (M.front i he) h
theorem Rd.of_row (h : w.ownsRow lo e sz x m xs) (hk : ∀ k, x.ownBlock = some k → lo ≤ k ∧ k < hi) (hm : m ≤ maxLen) : Rd lo hi w sz x m xs := by
 refine ⟨h.1, hm, ?_⟩
 rcases h.2 with ⟨rfl, rfl⟩ | ⟨g, cap, cur, rfl, hb, hgg, hc, hcm, hs, ht⟩
 ·grind
 ·refine .inr ⟨⟨g, 0, none⟩, cap, rfl, hc, hcm, fun j hj => ?_, fun _ => ⟨rfl, hk g rfl⟩⟩
  grind [World.cell?]
theorem Mem.readRow (M : Mem w0 w H) (p : Nat) (h : H[p]? = some (Jd lo hi e sz x m xs)) (hm : m ≤ maxLen) : Rd lo hi w sz x m xs :=
 have := M.own p h
 .of_row this.1 this.2 hm
theorem jn : ∀ {us : List Value}, Jp us = true → ∀ u ∈ us, u.oneCell' = true
 | [], _, u, h => by cases h
 | x :: us, h, u, hu => by
   simp only [Jp, Bool.and_eq_true] at h
   rcases List.mem_cons.1 hu with rfl | hu
   ·cases u <;> simp_all [Gg, Value.oneCell']
   ·exact jn h.2 u hu
theorem CellsAt.add {o : Nat} (h : CellsAt w b o cs) : ∀ j u, cs[j]? = some u → w.cell? ((⟨b, o, none⟩ : Addr).add j) = some u := fun j u hu => by
 rw [ZX, h j (List.getElem?_eq_some_iff.1 hu).1, hu]
theorem CellsAt.addA {ad : Addr} (h : CellsAt w ad.block ad.off cs) (hs : cs ≠ [] → ad.spot = none) : ∀ j u, cs[j]? = some u → w.cell? (ad.add j) = some u := fun j u hu => by
 have hne : cs ≠ [] := fun e => by grind
 obtain ⟨b, o, sp⟩ := ad
 have : sp = none := hs hne
 subst this
 exact h.add j u hu
theorem Mem.append {ty p : Nat} {news : List Value} (M : Mem w0 w H) (hI : VO P t = some (e, sz, by_, zc)) (hzs : zc.length = sz) (hsz : 0 < sz) (hp : H[p]? = some (Jd lo hi e sz v n xs)) (hx : Rd lo' hi' w sz x m news) (h1 : Jp news = true)
 (hb : (n + m) * by_ ≤ 140737488355328) (h63 : n + m ≤ maxLen) :
 ∃ v' w' l' h', (Builtin.append_ #[t, t] ty #[v, x]).run P w = .ok v' w' ∧ Mem w0 w' (Jd l' h' e sz v' (n + m) (xs ++ news) :: H.eraseIdx p) := by
 obtain ⟨hu, i, z, hi', hz, rfl, rfl, hzc⟩ := V6 hI
 obtain ⟨hown, hkk⟩ := M.own p hp
 have h1' := jn h1
 have hzs' : z.cells.size = i.size := by grind
 have hsmall : n + m ≤ 9223372036854775807 := by grind [maxLen]
 have fits := M.fits _ (List.mem_of_getElem? hp)
 simp only [Jd, Ent.lo, Ent.hi] at fits
 have hlx : news.length = m * i.size := hx.1
 have hlen : (xs ++ news).length = (n + m) * i.size := by rw [List.length_append, hown.1, hlx, Nat.add_mul]
 have Me : Mem w0 w (H.eraseIdx p) := M.drop p
 -- a new array
 have grown : ∀ (old : Nat), old < n + m → Mem w0 (w.drew.alloc (.cells (xs.toArray ++ news.toArray ++ Builtin.zeroCells z.cells (grownCap w (n + m) old e - (n + m))) e))
  (Jd w.heap.size (w.heap.size + 1) e i.size (.slice (some ⟨w.heap.size, 0, none⟩) (n + m) (grownCap w (n + m) old e)) (n + m) (xs ++ news) :: H.eraseIdx p) := by
  intro old ho
  have hge := grownCap_ge w (n + m) old e
  have hcm : grownCap w (n + m) old e ≤ maxLen := grownCap_le_maxLen w (n + m) old e h63
  refine Me.push (Vd (Ql (JE w)) _) _ (yv ⟨hlen, .inr ⟨w.heap.size, _, _, rfl, Nat.le_refl _, heap_alloc_new w.drew _, hge, hcm, ?_, ?_⟩⟩ (fun k hk => by grind [Value.ownBlock])) (Nat.le_refl _) (by simp [Jd, Ent.hi])
  ·simp only [Array.size_append, List.size_toArray, size_zeroCells, hzs', hown.1, hlx, ← Nat.add_mul]
   grind
  grind
 rcases hx.2.2 with ⟨rfl, rfl⟩ | ⟨ad', cap', rfl, hc', hcm', hat, hsp⟩
 ·have hn : news = [] := List.eq_nil_of_length_eq_zero o_
  subst hn
  rw [List.append_nil, Nat.add_zero]
  exact ⟨v, w, lo, hi, run_append_owned_none w lo t ty e i i.size hu hi' v n xs hown, M.front p hp⟩
 ·have hnews := hat.addA (fun hne => (hsp (Nat.pos_of_ne_zero fun h0 => hne (List.eq_nil_of_length_eq_zero (by grind)))).1)
  rcases hown.2 with ⟨rfl, rfl⟩ | ⟨g, cap, cur, rfl, hbg, hg, hnc, hcm, hcs, htake⟩
  ·have hx0 : xs = [] := List.eq_nil_of_length_eq_zero (by simpa using hown.1)
   subst hx0
   by_cases hm : m = 0
   ·subst hm
    have hn : news = [] := List.eq_nil_of_length_eq_zero (by simpa using hlx)
    subst hn
    refine ⟨.slice none 0 0, w, lo, hi, ?_, M.front p hp⟩
    simp [Builtin.append_, run_underlying hu, sizeOf, typeInfo, hi', Builtin.lenOf, Builtin.firstCells, loadCells, loadCellsFrom]
   grind [run_append_nil]
  ·by_cases hroom : n + m ≤ cap
   ·have hfit : n * i.size + news.length ≤ cur.size := by rw [hlx, hcs, ← Nat.add_mul]; exact Nat.mul_le_mul_right _ hroom
    have hr := run_append_room (P := P) w t ty e i hu hi' g n cap cur hg ad' m cap' news hlx hnews h1' hroom hfit
    have hk := hkk g rfl
    refine ⟨_, _, lo, hi, hr, ?_⟩
    have M' := M.change (w' := w.setRow g (cur.toList.take (n * i.size) ++ news ++ cur.toList.drop (n * i.size + news.length)).toArray) (e' := Jd lo hi e i.size (.slice (some ⟨g, 0, none⟩) (n + m) cap) (n + m) (xs ++ news)) p hp rfl rfl
     (yv ⟨hlen, .inr ⟨g, cap, _, rfl, hbg, setRow_heap w g cur _ e _ hg, hroom, hcm, by simp only [List.size_toArray, List.length_append, List.length_take, List.length_drop, Array.length_toList]; omega, by rw [htake, ← hlen]; exact List.take_left⟩⟩ hkk)
     (by simp [World.setRow]) rfl rfl rfl (fun k hk' => setRow_other w g k _ (fun e => hk' (by subst e; exact hk)))
    have hlt : p < H.length := (List.getElem?_eq_some_iff.1 hp).1
    have := M'.front p (List.getElem?_set_self hlt)
    rwa [List.eraseIdx_set_eq] at this
   ·have holds : ∀ j u, xs[j]? = some u → w.cell? ((⟨g, 0, none⟩ : Addr).add j) = some u := hown.cells (g := g) rfl
    have hr := run_append_grow (P := P) w t ty e i z hu hi' hz ⟨g, 0, none⟩ n cap xs hown.1 holds ad' m cap' news hlx hnews o_ o_ (growslice_fits o_ hb)
    exact ⟨_, _, _, _, hr, grown cap o_⟩
theorem JI {news : List Value} {u : Value} {s y : Operand} (S : SeesD ds n a L) (M : Mem w0 w H) (pos : Nat) {k : Nat} {d : Nat} {ty : TypeId} {p : String} {ed : Array Edge} {g : Option (Nat × Bool)} 
 (hg : gd ops L ⟨some d, .call { callee := .builtin .append, args := #[s, y], argTypes := #[t, t] }, ty, p, ed, g⟩ = some true) (hn : Nat.blt d n = true)
 (hI : VO P t = some (e, sz, by_, zc)) (hzs : zc.length = sz) (hsz : 0 < sz) (hs : val L s = some u) (hy : val L y = some x) (hp : H[pos]? = some (Jd lo hi e sz u k xs)) (hx : Rd lo' hi' w sz x m news) (h1 : Jp news = true)
 (hb : (k + m) * by_ ≤ 140737488355328) (h63 : k + m ≤ maxLen)
 (kk : ∀ a w v' l' h', SeesD ds n a ((d, v') :: L) → Mem w0 w (Jd l' h' e sz v' (k + m) (xs ++ news) :: H.eraseIdx pos) → wpList P ops Q rest a w) :
 wpList P ops Q (⟨some d, .call { callee := .builtin .append, args := #[s, y], argTypes := #[t, t] }, ty, p, ed, g⟩ :: rest) a w := by
 obtain ⟨v', w', l', h', hr, M'⟩ := M.append (ty := ty) hI hzs hsz hp hx h1 hb h63
 refine ZP (v := v') (w' := w') S hg rfl hn ?_ fun a S' => kk a w' v' l' h' S' M'
 obtain ⟨cs, h⟩ := Vt (P := P) (w := w) (b := .append) (xs := [s, y]) (vs := [u, x]) S (by grind [Vl]) (d := some d) (ts := #[t, t]) (t := ty) (p := p) (e := ed) (g := g)
 rw [h]
 simp only [builtin, Sem.run_bind]
 simp_all
/-! ### make -/
def y7 (zc : List Value) (k : Nat) : List Value := (madeCells zc.toArray k).toList
theorem Yz (zc : List Value) (k : Nat) : (y7 zc k).length = k := by simp [y7, size_madeCells]
theorem Z2 {x y : Operand} {kl kc : IntKind} {l c : Int} (S : SeesD ds n a L) (M : Mem w0 w H) {d : Nat} {ty : TypeId} {p : String} {ed : Array Edge} {g : Option (Nat × Bool)} 
 (hg : gd ops L ⟨some d, .makeSlice t x y, ty, p, ed, g⟩ = some true) (hn : Nat.blt d n = true) (hI : VO P t = some (e, sz, by_, zc)) (hx : val L x = some (.int kl l)) (hy : val L y = some (.int kc c))
 (h0 : 0 ≤ l) (hlc : l ≤ c) (hbytes : (by_ : Int) * c ≤ 281474976710656) (h63 : c ≤ 9223372036854775807)
 (k : ∀ a w' b, SeesD ds n a ((d, .slice (some ⟨b, 0, none⟩) l.toNat c.toNat) :: L) → Mem w0 w' (.blk b (y7 zc (c.toNat * sz)).toArray e :: H) → Below w.heap.size w w' → wpList P ops Q rest a w') : wpList P ops Q (⟨some d, .makeSlice t x y, ty, p, ed, g⟩ :: rest) a w := by
 obtain ⟨hu, i, z, hi', hz, rfl, rfl, hzc⟩ := V6 hI
 refine ZP (v := .slice (some ⟨w.heap.size, 0, none⟩) l.toNat c.toNat) (w' := w.alloc (.cells (madeCells zc.toArray (c.toNat * i.size)) e)) S hg rfl hn ?_ fun a S' => k a _ w.heap.size S' (by rw [y7, Array.toArray_toList]; exact M.alloc _ _) (Vd (JE _) _)
 unfold execOp
 simp only [S.eval hx, S.eval hy, Sem.run_bind, run_make w t e i z hu hi' hz kl kc l c h0 hlc hbytes h63, hzc, Result.andThen_ok]
 rfl
theorem Mem.toRow {cur : Array Value} (M : Mem w0 w H) (p : Nat) (h : H[p]? = some (.blk b cur e)) (hl : xs.length = m * sz) (hmc : m ≤ cap) (hcm : cap ≤ maxLen) (hs : cur.size = cap * sz) (ht : cur.toList.take (m * sz) = xs) :
 Mem w0 w (Jd b (b + 1) e sz (.slice (some ⟨b, 0, none⟩) m cap) m xs :: H.eraseIdx p) := by
 have hlt : p < H.length := (List.getElem?_eq_some_iff.1 h).1
 have M' := M.change (w' := w) (e' := Jd b (b + 1) e sz (.slice (some ⟨b, 0, none⟩) m cap) m xs) p h rfl rfl
  (yv ⟨hl, .inr ⟨b, cap, cur, rfl, Nat.le_refl _, M.blk p h, hmc, hcm, hs, ht⟩⟩ (fun k hk => by grind [Value.ownBlock])) rfl rfl rfl rfl (fun _ _ => rfl)
 have := M'.front p (List.getElem?_set_self hlt)
 grind
theorem Rd.of_blk {cur : Array Value} (B : Blk w b cur e) (hl : xs.length = m * sz) (hmc : m ≤ cap) (hcm : cap ≤ maxLen) (ht : cur.toList.take (m * sz) = xs) : Rd b (b + 1) w sz (.slice (some ⟨b, 0, none⟩) m cap) m xs := by
 refine ⟨hl, by omega, .inr ⟨⟨b, 0, none⟩, cap, rfl, hmc, hcm, fun j hj => ?_, fun _ => ⟨rfl, Nat.le_refl _, Nat.lt_succ_self _⟩⟩⟩
 rw [Nat.zero_add, B.cells, ← ht, List.getElem?_take_of_lt o_]
 simp
end
section
variable {ds : List Deferred}
variable {P : Program} {ops : Array Oper} {Q : Exit → Act → World → Prop} {rest : List Oper} {n d : Nat} {a : Act} {L : List (Nat × Value)} {w w0 : World} {v : Value} {o : Oper} {H : List Ent}
variable {b : Bool} {y : Code} {l : List Oper} {t : Nat} {G : Prop}
/-! ### what a test says -/
class Nrm (p : Prop) (q : outParam Prop) : Prop where
 to : p → q
instance (priority := 10) nrmI0 {p : Prop} : Nrm p p := ⟨id⟩
class NrmT (b : Bool) (q : outParam Prop) : Prop where
 to : b = true → q
class NrmF (b : Bool) (q : outParam Prop) : Prop where
 to : b = false → q
instance {b : Bool} {q : Prop} [h : NrmT b q] : Nrm (b = true) q := ⟨h.to⟩
instance {b : Bool} {q : Prop} [h : NrmF b q] : Nrm (b = false) q := ⟨h.to⟩
instance (priority := 10) {b : Bool} : NrmT b (b = true) := ⟨id⟩
instance (priority := 10) {b : Bool} : NrmF b (b = false) := ⟨id⟩
instance {b : Bool} {q : Prop} [h : NrmF b q] : NrmT (!b) q := ⟨fun e => h.to (JjV e)⟩
instance {b : Bool} {q : Prop} [h : NrmT b q] : NrmF (!b) q := ⟨fun e => h.to (JjU e)⟩
instance {p : Prop} [Decidable p] : NrmT (decide p) p := ⟨of_decide_eq_true⟩
instance (priority := 900) {p : Prop} [Decidable p] : NrmF (decide p) (¬ p) := ⟨of_decide_eq_false⟩
instance {x y : Int} : NrmF (decide (x < y)) (y ≤ x) := ⟨Jj1⟩
instance {x y : Int} : NrmF (decide (x ≤ y)) (y < x) := ⟨Jj0⟩
instance {x y : Int} : NrmT (x == y) (x = y) := ⟨JjZ⟩
instance {x y : Int} : NrmF (x == y) (x ≠ y) := ⟨JjY⟩
instance {x y : Int} : NrmT (x != y) (x ≠ y) := ⟨JjX⟩
instance {x y : Int} : NrmF (x != y) (x = y) := ⟨JjW⟩
theorem Jbk {p q : Prop} [h1 : NrmT b p] [h2 : NrmF b q] (S : SeesD ds n a L) (h : JK L t = some (.bool b)) (k1 : p → SeesD ds n a ((t, .bool true) :: L) → G) (k2 : q → SeesD ds n a ((t, .bool false) :: L) → G) : G :=
 Js S h (fun e => k1 (h1.to e)) (fun e => k2 (h2.to e))
theorem Jjr {p q : Prop} [h1 : NrmT b p] [h2 : NrmF b q] (S : SeesD ds n a L) (h : JK L t = some (.bool b)) (k2 : q → SeesD ds n a ((t, .bool false) :: L) → G) (k1 : p → SeesD ds n a ((t, .bool true) :: L) → G) : G :=
 Js S h (fun e => k1 (h1.to e)) (fun e => k2 (h2.to e))
theorem Jm (S : SeesD ds n a L) (h : JK L t = some (.bool b)) (k2 : b = false → SeesD ds n a ((t, .bool false) :: L) → G) (k1 : b = true → SeesD ds n a ((t, .bool true) :: L) → G) : G := Js S h k1 k2
/-! ### from region to region -/
theorem nxA {id : Nat} (h : wpList P l.toArray (Exit.then (y.wp P Q) Q) l a w) : wpList P ops (Exit.then ((Code.seq (.region id l.toArray false) y).wp P Q) Q) [] a w := wpList_nil (Jn (wp_seq (wp_region_lit h)))
theorem nxB {id : Nat} (h : wpList P l.toArray Q l a w) : wpList P ops (Exit.then ((Code.region id l.toArray false).wp P Q) Q) [] a w := wpList_nil (Jn (wp_region_lit h))
theorem nxC {next : Act → World → Prop} (h : next a w) : wpList P ops (Exit.then next Q) [] a w := wpList_nil (Jn h)
theorem nxD {id : Nat} (h : wpList P l.toArray (Exit.then (y.wp P Q) Q) l a w) : (Code.seq (.region id l.toArray false) y).wp P Q a w := wp_seq (wp_region_lit h)
theorem nxE {id : Nat} (h : wpList P l.toArray (Exit.then (y.wp P Q) Q) l a w) : Exit.then ((Code.seq (.region id l.toArray false) y).wp P Q) Q .normal a w := Jn (wp_seq (wp_region_lit h))
theorem nxF {id : Nat} (h : wpList P l.toArray Q l a w) : Exit.then ((Code.region id l.toArray false).wp P Q) Q .normal a w := Jn (wp_region_lit h)
/-! ### many at once -/
def Jgu (op : BinOp) (i j : Int) : Option Value :=
 match op with
 | .eql => some (.bool (i == j))
 | .neq => some (.bool (i != j))
 | .lss => some (.bool (decide (i < j)))
 | .leq => some (.bool (decide (i ≤ j)))
 | .gtr => some (.bool (decide (j < i)))
 | .geq => some (.bool (decide (j ≤ i)))
 | _ => none
theorem JeO {op : BinOp} {k : IntKind} {i j : Int} (h : Jgu op i j = some v) : j4 op k i j = some v := by
 cases op <;> simp only [Jgu, reduceCtorEq] at h <;> exact h
def yH (H : List Ent) (L : List (Nat × Value)) (h : Nat) : Op → Option (Value × Nat × Nat)
 | .move x => match val L x with
   | some v => some (v, 0, 0)
   | none => none
 | .assign x => match val L x with
   | some v => some (v, 0, 0)
   | none => none
 | .pick c x y => match val L c with
   | some (.bool true) => match val L x with
     | some v => some (v, 0, 0)
     | none => none
   | some (.bool false) => match val L y with
     | some v => some (v, 0, 0)
     | none => none
   | _ => none
 | .extract x i => match val L x with
   | some (.tuple vs) => match Qd vs.toList i with
     | some v => some (v, 0, 0)
     | none => none
   | _ => none
 | .nilCheck x => match val L x with
   | some (.pointer (some ad)) => some (.pointer (some ad), 0, 0)
   | _ => none
 | .unOp .not _ x => match val L x with
   | some (.bool b) => some (.bool (!b), 0, 0)
   | _ => none
 | .fieldAddr _ x _ => match val L x with
   | some (.pointer (some ⟨b, o, none⟩)) => some (.pointer (some ⟨b, o + h, none⟩), 0, 0)
   | _ => none
 | .binOp op _ x y _ => match val L x with
   | some (.int k i) => match val L y with
     | some (.int k' j) => match decEq k' k with
       | isTrue _ => match Jgu op i j with
         | some v => some (v, 0, 0)
         | none => none
       | isFalse _ => none
     | _ => none
   | _ => none
 | .load _ x => match val L x with
   | some (.pointer (some ⟨b, o, none⟩)) => match H[h]? with
     | some (.blk b' c _) => match Qd c.toList o with
       | some v => some (v, b, b')
       | none => none
     | _ => none
   | _ => none
 | _ => none
def yI (P : Program) (h : Nat) : Op → Bool
 | .fieldAddr s _ f => match Gp P s f with
   | some k => Nat.beq k h
   | none => false
 | .load t _ => vQ P t
 | _ => true
theorem jk {h : Nat} {o : Oper} {b b' : Nat} (S : SeesD ds n a L) (M : Mem w0 w H) (hv : yH H L h o.op = some (v, b, b')) (hc : yI P h o.op = true) (hb : b = b') : Je P a o w v := by
 obtain ⟨dst, op, ty, p, ed, g⟩ := o
 simp only at hv hc
 unfold yH at hv
 split at hv
 ·rename_i x; split at hv <;> cases hv; exact Vz S ‹_›
 ·rename_i x; split at hv <;> cases hv; exact JP S ‹_›
 ·split at hv
  ·rename_i hc'; split at hv <;> cases hv; exact Zq S hc' ‹_›
  ·rename_i hc'; split at hv <;> cases hv; exact Y0 S hc' ‹_›
  ·cases hv
 ·split at hv
  ·rename_i hx; split at hv <;> cases hv; exact GH S hx ‹_›
  ·cases hv
 ·split at hv <;> cases hv; exact jT S ‹_›
 ·split at hv <;> cases hv; exact zO S ‹_›
 ·split at hv <;> cases hv
  rename_i hx
  unfold yI at hc
  simp only at hc
  split at hc
  ·rename_i k hk
   have := Nat.eq_of_beq_eq_true hc
   subst this
   exact VH S hk hx
  ·cases hc
 ·split at hv
  ·rename_i hx; split at hv
   ·rename_i hy; split at hv
    ·rename_i e _; subst e; split at hv <;> cases hv; exact J2 S hx hy (JeO ‹_›)
    ·cases hv
   ·cases hv
  ·cases hv
 ·split at hv
  ·rename_i hx; split at hv
   ·rename_i hH; split at hv <;> cases hv
    rename_i hn
    subst hb
    rw [Wi, Array.getElem?_toList] at hn
    exact Jf S hc hx (M.cell h hH hn)
   ·cases hv
  ·cases hv
 ·cases hv
structure RunR where
 L : List (Nat × Value)
 A : List Nat
 B : List Nat
 rest : List Oper
def jx (ops : Array Oper) (H : List Ent) (n : Nat) : List Nat → List (Nat × Value) → List Nat → List Nat → List Oper → Option RunR
 | [], L, A, B, rest => some ⟨L, A, B, rest⟩
 | h :: hs, L, A, B, o :: rest => match o.dst with
   | some d => match Nat.blt d n with
     | true => match gd ops L o with
       | some true => match h with
         | h + 1 => match yH H L h o.op with
           | some (v, b, b') => jx ops H n hs ((d, v) :: L) (b :: A) (b' :: B) rest
           | none => none
         | 0 => none
       | some false => match h with
         | 0 => jx ops H n hs ((d, undef) :: L) A B rest
         | _ => none
       | none => none
     | false => none
   | none => none
 | _ :: _, _, _, _, [] => none
def zm (P : Program) : List Nat → List Oper → Bool
 | 0 :: hs, _ :: rest => zm P hs rest
 | (h + 1) :: hs, o :: rest => yI P h o.op && zm P hs rest
 | _, _ => true
theorem K7 : ∀ (hs : List Nat) {L : List (Nat × Value)} {rest : List Oper} {A0 B0 : List Nat} {L' : List (Nat × Value)} {A B : List Nat} {rest' : List Oper}, jx ops H n hs L A0 B0 rest = some ⟨L', A, B, rest'⟩ → ∃ xs ys, xs.length = ys.length ∧ A = xs ++ A0 ∧ B = ys ++ B0
 | [], L, rest, A0, B0, L', A, B, rest', hr => by
   simp only [jx, Option.some.injEq, RunR.mk.injEq] at hr
   simp_all
 | h :: hs, L, [], A0, B0, L', A, B, rest', hr => by grind [jx]
 | h :: hs, L, o :: rest, A0, B0, L', A, B, rest', hr => by
   rw [jx] at hr
   split at hr
   ·split at hr
    ·split at hr
     ·split at hr
      ·split at hr
       ·obtain ⟨xs, ys, h1, rfl, rfl⟩ := K7 hs hr
        rename_i b b' _
        exact ⟨xs ++ [b], ys ++ [b'], by grind, by simp, by simp⟩
       grind
      grind
     ·split at hr
      ·exact K7 hs hr
      grind
     grind
    grind
   grind
theorem U7 : ∀ (hs : List Nat) {L : List (Nat × Value)} {rest : List Oper} {a : Act} {A0 B0 : List Nat} {L' : List (Nat × Value)} {A B : List Nat} {rest' : List Oper}, SeesD ds n a L → Mem w0 w H → jx ops H n hs L A0 B0 rest = some ⟨L', A, B, rest'⟩ → zm P hs rest = true → A = B →
 (∀ a, SeesD ds n a L' → wpList P ops Q rest' a w) → wpList P ops Q rest a w
 | [], L, rest, a, A0, B0, L', A, B, rest', S, M, hr, hc, hb, k => by
   simp only [jx, Option.some.injEq, RunR.mk.injEq] at hr
   obtain ⟨rfl, rfl, rfl, rfl⟩ := hr
   exact k a S
 | h :: hs, L, [], a, A0, B0, L', A, B, rest', S, M, hr, hc, hb, k => by simp [jx] at hr
 | h :: hs, L, o :: rest, a, A0, B0, L', A, B, rest', S, M, hr, hc, hb, k => by
   rw [jx] at hr
   cases hd : o.dst with
   | none => rw [hd] at hr; cases hr
   | some d =>
     rw [hd] at hr
     simp only at hr
     cases hn : Nat.blt d n with
     | false => rw [hn] at hr; cases hr
     | true =>
       rw [hn] at hr
       simp only at hr
       split at hr
       ·rename_i hg
        split at hr
        ·simp only [zm, Bool.and_eq_true] at hc
         split at hr
         ·rename_i v b b' hv
          obtain ⟨xs, ys, h1, e1, e2⟩ := K7 hs hr
          have hbb : b = b' := by
           grind [List.append_inj]
          exact yb S hg hd hn (jk S M hv hc.1 hbb) fun a S => U7 hs S M hr hc.2 hb k
         ·cases hr
        ·cases hr
       ·rename_i hg
        split at hr
        ·simp only [zm] at hc
         exact jY S hg hd hn fun a S => U7 hs S M hr hc hb k
        ·cases hr
       ·cases hr
theorem DD (hs : List Nat) {L' : List (Nat × Value)} {A : List Nat} {rest' : List Oper} (S : SeesD ds n a L) (M : Mem w0 w H) (hr : jx ops H n hs L [] [] rest = some ⟨L', A, A, rest'⟩) (hc : zm P hs rest = true)
 (k : ∀ a, SeesD ds n a L' → wpList P ops Q rest' a w) : wpList P ops Q rest a w := U7 hs S M hr hc rfl k
theorem Jjq (hs : List Nat) {L' : List (Nat × Value)} {A : List Nat} {rest' : List Oper} (S : SeesD ds n a L) (hr : jx ops [] n hs L [] [] rest = some ⟨L', A, A, rest'⟩) (hc : zm P hs rest = true)
 (k : ∀ a, SeesD ds n a L' → wpList P ops Q rest' a w) : wpList P ops Q rest a w := DD hs S (Mem.start w) hr hc k
end
section
variable {ds : List Deferred}
variable {P : Program} {ops : Array Oper} {Q : Exit → Act → World → Prop} {rest : List Oper} {n d : Nat} {a : Act} {L : List (Nat × Value)} {w w0 : World} {v : Value} {o : Oper} {H : List Ent}
variable {g : Option (Nat × Bool)} {p : String}
def JaT (P : Program) (t : TypeId) (len : Nat) : Option (TypeId × Nat × List Value) :=
 match P.underlying t with
 | some (.slice e) => match P.info? e with
   | some i => match i.zero with
     | some z => if len * i.size = 0 ∨ len * i.size > 2 ^ 24 then none else some (e, i.size, ((Array.range (len * i.size)).map (z.cells[· % z.cells.size]!)).toList)
     | none => none
   | none => none
 | _ => none
theorem JG {t e sz len : Nat} {zl vs cs : List Value} {ps : List (Nat × Operand)} (S : SeesD ds n a L) (M : Mem w0 w H) {d : Nat} {ty : TypeId} {ed : Array Edge} 
 (hg : gd ops L ⟨some d, .buildSlice t len ps.toArray, ty, p, ed, g⟩ = some true) (hn : Nat.blt d n = true) (hI : JaT P t len = some (e, sz, zl)) (hv : Vl L (ps.map (·.2)) = some vs) (hf : YY (fun i => some (i * sz, sz)) zl ((ps.map (·.1)).zip vs) = some cs)
 (k : ∀ a w' b, SeesD ds n a ((d, .slice (some ⟨b, 0, none⟩) len len) :: L) → Mem w0 w' (.blk b cs.toArray e :: H) → Below w.heap.size w w' → wpList P ops Q rest a w') : wpList P ops Q (⟨some d, .buildSlice t len ps.toArray, ty, p, ed, g⟩ :: rest) a w := by
 unfold JaT at hI
 cases hu : P.underlying t with
 | none => simp [hu] at hI
 | some td =>
   rw [hu] at hI
   cases td <;> simp only [reduceCtorEq] at hI
   rename_i e'
   cases hi : P.info? e' with
   | none => simp [hi] at hI
   | some i =>
     simp only [hi] at hI
     cases hz : i.zero with
     | none => simp [hz] at hI
     | some z =>
       simp only [hz] at hI
       split at hI
       ·cases hI
       ·rename_i hsm
        simp only [Option.some.injEq, Prod.mk.injEq] at hI
        obtain ⟨rfl, rfl, rfl⟩ := hI
        have hparts : (ps.toArray.map fun (x : Nat × Operand) => (x.1, a.eval x.2)).toList = (ps.map (·.1)).zip vs := by
         rw [← S.evals hv, ← KW a.eval ps]; simp
        have hfill := js _ _ _ hf
        rw [Array.toArray_toList] at hfill
        refine ZP (v := .slice (some ⟨w.heap.size, 0, none⟩) len len) (w' := w.alloc (.cells cs.toArray e')) S hg rfl hn ?_ fun a S' => k a _ w.heap.size S' (M.alloc _ _) (Vd (JE _) _)
        unfold execOp
        simp only [Sem.run_bind]
        rw [run_buildSlice w t e' len _ cs.toArray i z hu hi hz o_ o_ (by grind)]
        rfl
theorem jJ {t e sz by_ : Nat} {zc : List Value} (S : SeesD ds n a L) (M : Mem w0 w H) {d : Nat} {ty : TypeId} {ed : Array Edge} 
 (hg : gd ops L ⟨some d, .buildSlice t 0 #[], ty, p, ed, g⟩ = some true) (hn : Nat.blt d n = true) (hI : VO P t = some (e, sz, by_, zc))
 (k : ∀ a w' b, SeesD ds n a ((d, .slice (some ⟨b, 0, none⟩) 0 0) :: L) → Mem w0 w' (.blk b #[] e :: H) → Below w.heap.size w w' → wpList P ops Q rest a w') : wpList P ops Q (⟨some d, .buildSlice t 0 #[], ty, p, ed, g⟩ :: rest) a w := by
 obtain ⟨hu, i, z, hi', hz, rfl, rfl, hzc⟩ := V6 hI
 refine ZP (v := .slice (some ⟨w.heap.size, 0, none⟩) 0 0) (w' := w.alloc (.cells #[] e)) S hg rfl hn ?_ fun a S' => k a _ w.heap.size S' (M.alloc _ _) (Vd (JE _) _)
 unfold execOp
 simp [Instr.buildSlice, run_underlying hu, sizeOf, typeInfo, hi', Instr.fill, newRow, Array.range_zero', go_sem]
/-! ### bytes, strings -/
def Jh (bs : List UInt8) : List Value := bs.map fun b => .int .u8 (b.toNat : Int)
theorem Jw (bs : List UInt8) : (Jh bs).length = bs.length := by simp [Jh]
theorem Vv (x y : List UInt8) : Jh (x ++ y) = Jh x ++ Jh y := by simp [Jh]
theorem Jcy {bs : List UInt8} {i : Nat} {b : UInt8} (h : bs[i]? = some b) : (Jh bs)[i]? = some (.int .u8 (b.toNat : Int)) := by simp [Jh, h]
theorem UX (bs : List UInt8) (i k : Nat) : ((Jh bs).drop i).take k = Jh ((bs.drop i).take k) := by simp [Jh, List.map_drop, List.map_take]
theorem JA : ∀ bs : List UInt8, Jp (Jh bs) = true
 | [] => rfl
 | b :: bs => by simp only [Jh, List.map_cons, Jp, Gg, Bool.true_and]; exact JA bs
abbrev Bs (lo hi : Nat) (w : World) (v : Value) (bs : List UInt8) : Prop := Rd lo hi w 1 v bs.length (Jh bs)
theorem GJ {x y : Operand} {b c : Bool} {xt : TypeId} (hU : P.underlying xt = some .bool) (S : SeesD ds n a L) (hx : val L x = some (.bool b)) (hy : val L y = some (.bool c)) {d : Option Tmp} {yt t : TypeId} {e : Array Edge} :
 Je P a ⟨d, .binOp .eql xt x y yt, t, p, e, g⟩ w (.bool (b == c)) := by
 unfold Je execOp; simp only [S.eval hx, S.eval hy, eqGuard, Sem.run_bind]
 simp [run_eql_bool w xt b c hU, go_sem]
theorem Jds (h : Q .normal a w) : Exit.noGoto Q .normal a w := h
theorem YK (h : Q .ret a w) : Exit.noGoto Q .ret a w := h
end
section
variable {ds : List Deferred}
variable {P : Program} {ops : Array Oper} {Q : Exit → Act → World → Prop} {rest : List Oper} {n d : Nat} {a : Act} {L : List (Nat × Value)} {w w0 : World} {v : Value} {o : Oper} {H : List Ent}
variable {e : Array Edge} {R : Ending → World → Prop} {fn : Func} {x y : Operand} {g : Option (Nat × Bool)} {r : ResultVar} {p : String} {xt yt t : TypeId}
theorem vl (p : BitVec 32) : IntKind.u32.wrap (p.toNat : Int) = (p.toNat : Int) := by
 have := p.isLt
 grind [IntKind.wrap, IntKind.bits, IntKind.signed]
theorem XF (p : BitVec 32) : BitVec.ofInt 32 (p.toNat : Int) = p := by
 grind
theorem Je9 (i : Int) : IntKind.u32.wrap i = ((BitVec.ofInt 32 i).toNat : Int) := by
 grind [IntKind.wrap, IntKind.bits, IntKind.signed, BitVec.toNat_ofInt]
theorem yp {r q : BitVec 32} (S : SeesD ds n a L) (hx : val L x = some (.int .u32 (r.toNat : Int))) (hy : val L y = some (.int .u32 (q.toNat : Int))) {d : Option Tmp} :
 Je P a ⟨d, .binOp .xor xt x y yt, t, p, e, g⟩ w (.int .u32 ((r ^^^ q).toNat : Int)) := by
 refine J2 S hx hy ?_; grind [j4, IntKind.bits, vl]
theorem Ks {r q : BitVec 32} (S : SeesD ds n a L) (hx : val L x = some (.int .u32 (r.toNat : Int))) (hy : val L y = some (.int .u32 (q.toNat : Int))) {d : Option Tmp} :
 Je P a ⟨d, .binOp .and xt x y yt, t, p, e, g⟩ w (.int .u32 ((r &&& q).toNat : Int)) := by
 refine J2 S hx hy ?_; grind [j4, IntKind.bits, vl]
theorem JaA (r q : BitVec 32) : ((r.toNat : Int) == (q.toNat : Int)) = (r == q) := by
 grind [BitVec.eq_of_toNat_eq]
theorem JaD {r q : BitVec 32} (S : SeesD ds n a L) (hx : val L x = some (.int .u32 (r.toNat : Int))) (hy : val L y = some (.int .u32 (q.toNat : Int))) {d : Option Tmp} :
 Je P a ⟨d, .binOp .eql xt x y yt, t, p, e, g⟩ w (.bool (r == q)) := by
 refine J2 S hx hy ?_; grind [j4, JaA]
theorem VY {r : BitVec 32} {yk : IntKind} {k : Nat} (S : SeesD ds n a L) (hx : val L x = some (.int .u32 (r.toNat : Int))) (hy : val L y = some (.int yk (k : Int))) {d : Option Tmp} :
 Je P a ⟨d, .binOp .shr xt x y yt, t, p, e, g⟩ w (.int .u32 ((r >>> k).toNat : Int)) := by
 have h := Jbb (P := P) (w := w) S hx hy o_ (d := d) (xt := xt) (yt := yt) (t := t) (p := p) (e := e) (g := g)
 have e2 : (r.toNat : Int).fdiv (2 ^ (min (k : Int).toNat IntKind.u32.bits)) = ((r >>> k).toNat : Int) := by
  rw [Int.fdiv_eq_ediv_of_nonneg _ (Int.pow_nonneg o_)]
  have hlt := r.isLt
  simp only [BitVec.toNat_ushiftRight, Nat.shiftRight_eq_div_pow, Int.toNat_natCast, IntKind.bits]
  rcases Nat.le_total k 32 with hk | hk
  ·grind
  ·rw [Nat.min_eq_right hk]
   have h1 : r.toNat / 2 ^ k = 0 := Nat.div_eq_of_lt (Nat.lt_of_lt_of_le hlt (Nat.pow_le_pow_right o_ hk))
   omega
 rw [e2] at h; exact h
theorem GK {r : BitVec 32} (S : SeesD ds n a L) (hx : val L x = some (.int .u32 (r.toNat : Int))) {d : Option Tmp} :
 Je P a ⟨d, .unOp .xor xt x, t, p, e, g⟩ w (.int .u32 ((~~~r).toNat : Int)) := by
 have h := Jhi (P := P) (w := w) S hx (d := d) (xt := xt) (t := t) (p := p) (e := e) (g := g)
 rw [XF, vl] at h
 rw [show BitVec.ofInt 32 4294967295 = BitVec.allOnes 32 from rfl, BitVec.allOnes_xor] at h
 exact h
theorem Dm {k : IntKind} {i : Int} {src dst : TypeId} (S : SeesD ds n a L) (hx : val L x = some (.int k i)) (hs : (P.underlying src).isSome = true) (hd : P.underlying dst = some (.int .u32)) {d : Option Tmp} :
 Je P a ⟨d, .convert src dst x, t, p, e, g⟩ w (.int .u32 ((BitVec.ofInt 32 i).toNat : Int)) := by
 have h := QC (P := P) (w := w) S hx hs hd (d := d) (t := t) (p := p) (e := e) (g := g)
 rw [Je9] at h; exact h
/-! ### a call of a function value -/
theorem DG {f : FuncId} {fx : Operand} {xs : List Operand} {vs : List Value} (S : SeesD ds n a L) {d : Nat} {ts : Array TypeId} 
 (hE : VL P f) (hg : gd ops L ⟨some d, .call { callee := .value fx, args := xs.toArray, argTypes := ts }, t, p, e, g⟩ = some true) (hn : Nat.blt d n = true) (hf : val L fx = some (.func (.func f) #[] #[])) (hx : Vl L xs = some vs) (hC : Calls P f vs.toArray w R)
 (k : ∀ e w', R e w' → ∃ v, e = .returned v ∧ ∀ a, SeesD ds n a ((d, v) :: L) → wpList P ops Q rest a w') : wpList P ops Q (⟨some d, .call { callee := .value fx, args := xs.toArray, argTypes := ts }, t, p, e, g⟩ :: rest) a w := by
 unfold wpList
 rw [if_pos (VP S hg)]
 refine .inl ?_
 unfold Oper.wp
 have h : xs.toArray.map a.eval = vs.toArray := by rw [← S.evals hx]; simp
 have hr : (execOp a.eval ⟨some d, .call { callee := .value fx, args := xs.toArray, argTypes := ts }, t, p, e, g⟩).run P w = .ok (.enter f vs.toArray) w := by
  unfold execOp
  simp only [resolve, h, S.eval hf, Deferred.ofValue, Sem.run_bind, Sem.run_pure, Result.andThen_ok, invoke, Array.append_empty, Array.empty_append]
  exact hE _ _
 rw [hr, Oper.upon_enter]
 refine hC.mono fun e w' hR => ?_
 obtain ⟨v, rfl, hk⟩ := k e w' hR
 exact hk _ (S.put hn v)
/-! ### results in cells -/
def ja (P : Program) (w : World) (L : List (Nat × Value)) (r : ResultVar) (v : Value) : Prop :=
 match r with
 | .tmp t => JK L t = some v
 | .cell t T => ∃ b o, JK L t = some (.pointer (some ⟨b, o, none⟩)) ∧ ((vQ P T = true ∧ w.cell? ⟨b, o, none⟩ = some v) ∨ ∃ k cs, vB P T = some k ∧ cs.length = k ∧ CellsAt w b o cs ∧ v = .agg cs.toArray)
theorem vp {t : Nat} (h : JK L t = some v) : ja P w L (.tmp t) v := h
theorem Y8 {t T k b o : Nat} {cs : List Value} (hT : vB P T = some k) (ht : JK L t = some (.pointer (some ⟨b, o, none⟩))) (hk : cs.length = k) (hc : CellsAt w b o cs) : ja P w L (.cell t T) (.agg cs.toArray) :=
 ⟨b, o, ht, .inr ⟨k, cs, hT, hk, hc, rfl⟩⟩
theorem DN {t T b o : Nat} (hT : vQ P T = true) (ht : JK L t = some (.pointer (some ⟨b, o, none⟩))) (hc : w.cell? ⟨b, o, none⟩ = some v) : ja P w L (.cell t T) v := ⟨b, o, ht, .inl ⟨hT, hc⟩⟩
inductive ResAll (P : Program) (w : World) (L : List (Nat × Value)) : List ResultVar → List Value → Prop
 | nil : ResAll P w L [] []
 | cons {r : ResultVar} {v : Value} {rs : List ResultVar} {vs : List Value} : ja P w L r v → ResAll P w L rs vs → ResAll P w L (r :: rs) (v :: vs)
def yE (tmps : Array Value) : ResultVar → Sem Value
 | .tmp t => pure (tmps.getD t undef)
 | .cell a t => do loadVar t (← asAddr (tmps.getD a undef))
theorem Jbv (S : SeesD ds n a L) (h : ja P w L r v) : (yE a.tmps r).run P w = .ok v w := by
 cases r with
 | tmp t =>
   have h : JK L t = some v := h
   simp only [yE, S.at_ t v h (S.lt t v h), Sem.run_pure]
 | cell t T =>
   obtain ⟨b, o, ht, h⟩ := h
   have hv := S.at_ t _ ht (S.lt t _ ht)
   simp only [yE, hv, asAddr, Sem.run_bind, Sem.run_pure, Result.andThen_ok, loadVar]
   rcases h with ⟨hT, hc⟩ | ⟨k, cs, hT, hk, hc, rfl⟩
   ·grind [j0, Result.andThen_ok, load, Sem.run]
   ·obtain ⟨h1, i, hi, hs⟩ := Kn hT
    have hl := je (P := P) (w := w) (b := b) (o := o) cs 0 #[] (fun j hj => by rw [Nat.zero_add]; exact hc j hj)
    grind [Result.andThen_ok, Sem.run_bind, YL, loadCells, Sem.run_pure]
theorem QW (S : SeesD ds n a L) : ∀ {rs : List ResultVar} {vs : List Value}, ResAll P w L rs vs → (rs.mapM (yE a.tmps)).run P w = .ok vs w
 | [], _, .nil => rfl
 | r :: rs, _, .cons h hs => by
   rw [List.mapM_cons]
   simp only [Sem.run_bind, Jbv S h, Result.andThen_ok, QW S hs, Sem.run_pure]
theorem jj {rs : List ResultVar} {vs : List Value} (S : SeesD ds n a L) (hr : fn.results = rs.toArray) (h : ResAll P w L rs vs) : (results fn a.tmps).run P w = .ok (if h : vs.toArray.size = 1 then vs.toArray[0] else .tuple vs.toArray) w := by
 have e : results fn a.tmps = (do let vs ← fn.results.mapM (yE a.tmps); pure (if h : vs.size = 1 then vs[0] else .tuple vs)) := by
  unfold results
  congr 2
 rw [e, hr, List.mapM_toArray]
 simp only [Sem.run_bind]
 have hm : (List.toArray <$> rs.mapM (yE a.tmps)).run P w = .ok vs.toArray w := by
  show (Sem.bind (rs.mapM (yE a.tmps)) (fun x => Sem.pure x.toArray)).run P w = _
  rw [show ∀ (x : Sem (List Value)) (k : List Value → Sem (Array Value)), (Sem.bind x k).run P w = (x.run P w).andThen fun y w' => (k y).run P w' from fun x k => Sem.run_bind .., QW S h]
  rfl
 simp_all
theorem Vb (S : Jk n a L) (hr : fn.results = #[r]) (h1 : ja P w L r v) (h : R (.returned v) w) : bodyPost P fn R .ret a w :=
 bodyPost_ret (jj (rs := [r]) (vs := [v]) S hr (.cons h1 .nil)) S.defers h
theorem Jr {r' : ResultVar} {v' : Value} (S : Jk n a L) (hr : fn.results = #[r, r']) (h1 : ja P w L r v) (h2 : ja P w L r' v') (h : R (.returned (.tuple #[v, v'])) w) : bodyPost P fn R .ret a w :=
 bodyPost_ret (jj (rs := [r, r']) (vs := [v, v']) S hr (.cons h1 (.cons h2 .nil))) S.defers h
theorem JY {r' r'' : ResultVar} {v' v'' : Value} (S : Jk n a L) (hr : fn.results = #[r, r', r'']) (h1 : ja P w L r v) (h2 : ja P w L r' v') (h3 : ja P w L r'' v'') (h : R (.returned (.tuple #[v, v', v''])) w) : bodyPost P fn R .ret a w :=
 bodyPost_ret (jj (rs := [r, r', r'']) (vs := [v, v', v'']) S hr (.cons h1 (.cons h2 (.cons h3 .nil)))) S.defers h
theorem Xq : ∀ l : List Value, Vs l 0 l.length = some l
 | [] => rfl
 | c :: l => by simp only [List.length_cons, Vs, Xq l, Option.map_some]
theorem JC {l : List Value} : Vs l.toArray.toList 0 l.length = some l := Xq l
/-! ### loops by a number that falls -/
theorem JgV {p : Nat → Prop} : ∀ m, p m → ∃ k, p k ∧ ∀ j, j < k → ¬ p j := by
 intro m
 induction m using Nat.strongRecOn with
 | _ m ih =>
   grind
open Classical in
theorem Jc {c : Code} (I : Nat → Act → World → Prop) (m0 : Nat) (h0 : I m0 a w) (round : ∀ m a w, I m a w → c.wp P (Exit.then (fun a' w' => ∃ m', m' < m ∧ I m' a' w') Q) a w) : (Code.loop c).wp P Q a w := by
 let μ : Act → World → Nat := fun a w => if h : ∃ k, I k a w ∧ ∀ j, j < k → ¬ I j a w then Classical.choose h else 0
 have hμ : ∀ a w m, I m a w → I (μ a w) a w ∧ μ a w ≤ m := fun a w m hm => by
  have h := JgV (p := fun k => I k a w) m hm
  grind
 refine wp_loop (fun a w => ∃ m, I m a w) μ ⟨m0, h0⟩ fun a w ⟨m, hm⟩ => ?_
 refine wp_mono (round _ a w (hμ a w m hm).1) fun e a' w' h => ?_
 grind
end
section
variable {ds : List Deferred}
variable {P : Program} {ops : Array Oper} {Q : Exit → Act → World → Prop} {rest : List Oper} {n d : Nat} {a : Act} {L : List (Nat × Value)} {w w0 : World} {v : Value} {o : Oper} {H : List Ent}
variable {ed : Array Edge} {i j : Int} {k1 k2 : IntKind} {cs : List Value} {lo hi sz m t e l r : Nat} {x : Operand} {g : Option (Nat × Bool)} {p : String} {ty : TypeId} {u : Value}
def adr : Value → Addr
 | .slice (some a) _ _ => a
 | _ => ⟨0, 0, none⟩
def Yb : Value → Nat
 | .slice _ _ c => c
 | _ => 0
def jg (v : Value) (i j m sz : Nat) : Value :=
 match v with
 | .slice ad _ _ => .slice (Yv ad i m sz) (j - i) (m - i)
 | v => v
theorem Rd.cap {x : Value} (h : Rd lo hi w sz x m cs) : m ≤ Yb x ∧ Yb x ≤ maxLen := by
 obtain ⟨ad, cap, rfl, h1, h2⟩ := h.form; exact ⟨h1, h2⟩
theorem Rd.at_ {x : Value} (h : Rd lo hi w sz x m cs) : CellsAt w (adr x).block (adr x).off cs := by
 rcases h.2.2 with ⟨rfl, rfl⟩ | ⟨ad, cap, rfl, hc, hm, ha, _⟩
 ·have : cs = [] := List.eq_nil_of_length_eq_zero (by simpa using h.1)
  subst this; intro j hj; grind
 ·exact ha
theorem Rd.cutv {i j mx : Nat} {x : Value} (h : Rd lo hi w sz x m cs) (h1 : i ≤ j) (h2 : j ≤ m) (h3 : j ≤ mx) (h4 : mx ≤ Yb x) : Rd lo hi w sz (jg x i j mx sz) (j - i) ((cs.drop (i * sz)).take ((j - i) * sz)) := by
 obtain ⟨ad, cap, rfl, _, _⟩ := h.form
 exact h.cut h1 h2 h3 h4
theorem Ys {T E : TypeId} (S : SeesD ds n a L) (hx : val L x = some u) (hR : Rd lo hi w sz u m cs) (hU : P.underlying T = some (.slice E)) {d : Option Tmp} {t : TypeId} {e : Array Edge} :
 Je P a ⟨d, .call { callee := .builtin .len, args := #[x], argTypes := #[T] }, t, p, e, g⟩ w (.int .i64 (m : Int)) := by
 obtain ⟨ad, cap, rfl, _, _⟩ := hR.form
 exact Dn S hx hU
theorem K1 {ix : Operand} {k : IntKind} (S : SeesD ds n a L) (hE : JX P t = some (e, sz)) (hx : val L x = some u) (hR : Rd lo hi w sz u m cs) (hi : val L ix = some (.int k i)) (h : 0 ≤ i ∧ i < m)
 {d : Option Tmp} : Je P a ⟨d, .indexAddr t x ix, ty, p, ed, g⟩ w (.pointer (some ⟨(adr u).block, (adr u).off + i.toNat * sz, none⟩)) := by
 obtain ⟨b, o, cap, rfl, _⟩ := hR.place o_
 exact yx S hE hx hi h
theorem JcO {lo hi mx : Operand} {k : Int} {k3 : IntKind} (S : SeesD ds n a L) (hE : JX P t = some (e, sz)) (hx : val L x = some u) (hR : Rd l r w sz u m cs) (h1 : val L lo = some (.int k1 i)) (h2 : val L hi = some (.int k2 j)) (h3 : val L mx = some (.int k3 k))
 (h : 0 ≤ i ∧ i ≤ j ∧ j ≤ k ∧ k ≤ m) {d : Option Tmp} :
 Je P a ⟨d, .slice t x (some lo) (some hi) (some mx), ty, p, ed, g⟩ w (jg u i.toNat j.toNat k.toNat sz) := by
 have hc := hR.cap
 obtain ⟨ad, cap, rfl, h4, _⟩ := hR.form
 exact KY S hE hx h1 h2 h3 o_
theorem JcP {lo hi : Operand} (S : SeesD ds n a L) (hE : JX P t = some (e, sz)) (hx : val L x = some u) (hR : Rd l r w sz u m cs) (h1 : val L lo = some (.int k1 i)) (h2 : val L hi = some (.int k2 j))
 (h : 0 ≤ i ∧ i ≤ j ∧ j ≤ m) {d : Option Tmp} :
 Je P a ⟨d, .slice t x (some lo) (some hi) none, ty, p, ed, g⟩ w (jg u i.toNat j.toNat (Yb u) sz) := by
 obtain ⟨ad, cap, rfl, h4, _⟩ := hR.form
 exact KZ S hE hx h1 h2 o_
theorem jH {lo : Operand} (S : SeesD ds n a L) (hE : JX P t = some (e, sz)) (hx : val L x = some u) (hR : Rd l r w sz u m cs) (h1 : val L lo = some (.int k1 i))
 (h : 0 ≤ i ∧ i ≤ m) {d : Option Tmp} :
 Je P a ⟨d, .slice t x (some lo) none none, ty, p, ed, g⟩ w (jg u i.toNat m (Yb u) sz) := by
 obtain ⟨ad, cap, rfl, h4, _⟩ := hR.form
 exact Vr S hE hx h1 o_
theorem yi {hi mx : Operand} {k : Int} {k3 : IntKind} (S : SeesD ds n a L) (hE : JX P t = some (e, sz)) (hx : val L x = some u) (hR : Rd l r w sz u m cs) (h2 : val L hi = some (.int k2 j)) (h3 : val L mx = some (.int k3 k))
 (h : 0 ≤ j ∧ j ≤ k ∧ k ≤ m) {d : Option Tmp} :
 Je P a ⟨d, .slice t x none (some hi) (some mx), ty, p, ed, g⟩ w (jg u 0 j.toNat k.toNat sz) := by
 obtain ⟨ad, cap, rfl, h4, _⟩ := hR.form
 have e0 : Yv ad 0 k.toNat sz = ad := by unfold Yv; split <;> (cases ad <;> simp [Addr.add])
 have := JcQ (P := P) (w := w) S hE hx h2 h3 o_ (d := d) (ty := ty) (p := p) (ed := ed) (g := g)
 simpa [jg, e0] using this
theorem zN {hi : Operand} (S : SeesD ds n a L) (hE : JX P t = some (e, sz)) (hx : val L x = some u) (hR : Rd l r w sz u m cs) (h2 : val L hi = some (.int k2 j))
 (h : 0 ≤ j ∧ j ≤ m) {d : Option Tmp} :
 Je P a ⟨d, .slice t x none (some hi) none, ty, p, ed, g⟩ w (jg u 0 j.toNat (Yb u) sz) := by
 obtain ⟨ad, cap, rfl, h4, _⟩ := hR.form
 have e0 : Yv ad 0 cap sz = ad := by unfold Yv; split <;> (cases ad <;> simp [Addr.add])
 have := ZI (P := P) (w := w) S hE hx h2 o_ (d := d) (ty := ty) (p := p) (ed := ed) (g := g)
 simpa [jg, Yb, e0] using this
theorem Rd.byte {i : Nat} {bs : List UInt8} {b : UInt8} (h : Bs lo hi w v bs) (hb : bs[i]? = some b) : w.cell? ⟨(adr v).block, (adr v).off + i, none⟩ = some (.int .u8 (b.toNat : Int)) := by
 have hlt := (List.getElem?_eq_some_iff.1 hb).1
 rw [h.at_ i (by grind [Jh]), Jcy hb]
theorem Rd.cutB {i j mx : Nat} {bs : List UInt8} (h : Bs lo hi w v bs) (h1 : i ≤ j) (h2 : j ≤ bs.length) (h3 : j ≤ mx) (h4 : mx ≤ Yb v) : Bs lo hi w (jg v i j mx 1) ((bs.drop i).take (j - i)) := by
 have := h.cutv h1 h2 h3 h4
 grind [UX]
end
section
variable {ds : List Deferred}
variable {P : Program} {ops : Array Oper} {Q : Exit → Act → World → Prop} {rest : List Oper} {n d : Nat} {a : Act} {L : List (Nat × Value)} {w w0 : World} {v : Value} {o : Oper} {H : List Ent}
variable {cs : List Value} {lo hi e sz m : Nat} {p : Prop} {x : Value} {w' : World}
structure Fresh (w w' : World) (e sz : Nat) (v : Value) (n : Nat) (cs : List Value) : Prop where
 below : Below w.heap.size w w'
 row : ∃ lo hi, w.heap.size ≤ lo ∧ hi ≤ w'.heap.size ∧ w'.ownsRow lo e sz v n cs ∧ ∀ k, v.ownBlock = some k → lo ≤ k ∧ k < hi
theorem Mem.fresh (M : Mem w w' H) (p : Nat) (h : H[p]? = some (Jd lo hi e sz x m cs)) : Fresh w w' e sz x m cs := by
 have f := M.fits _ (List.mem_of_getElem? h)
 obtain ⟨h1, h2⟩ := M.own p h
 exact ⟨M.below, lo, hi, f.1, f.2, h1, h2⟩
theorem Mem.freshNil (M : Mem w w' H) (e sz : Nat) : Fresh w w' e sz (.slice none 0 0) 0 [] := (M.rowNil e sz).fresh 0 rfl
theorem Mem.pushFresh (M : Mem w0 w H) (h : Fresh w w' e sz x m cs) : ∃ lo hi, w.heap.size ≤ lo ∧ Mem w0 w' (Jd lo hi e sz x m cs :: H) := by
 obtain ⟨hb, lo, hi, h1, h2, h3, h4⟩ := h
 exact ⟨lo, hi, h1, M.push hb _ (yv h3 h4) h1 h2⟩
theorem Fresh.rd (h : Fresh w w' e sz x m cs) (hm : m ≤ maxLen) : Rd w.heap.size w'.heap.size w' sz x m cs := by
 obtain ⟨hb, lo, hi, h1, h2, h3, h4⟩ := h
 exact (Rd.of_row h3 h4 hm).wide h1 h2
open Classical in
noncomputable def ifL {α : Type} (p : Prop) (l : List α) : List α := if p then l else []
theorem Kz {α : Type} {l : List α} (h : p) : ifL p l = l := by grind [ifL]
theorem JaY {α : Type} {l : List α} (h : ¬ p) : ifL p l = [] := by grind [ifL]
theorem En {bs : List UInt8} (hK : Below w.heap.size w w') (h1 : p → Fresh w w' e 1 x bs.length (Jh bs)) (h2 : ¬ p → x = .slice none 0 0) : Fresh w w' e 1 x (ifL p bs).length (Jh (ifL p bs)) := by
 by_cases h : p
 ·grind [Kz]
 ·rw [JaY h, h2 h]; exact ((Mem.start w).grow hK).freshNil e 1
def Uc : Value → Bool
 | .slice a _ _ => a.isNone
 | _ => false
theorem Rd.nilV (h : Rd lo hi w sz x m cs) (hn : Uc x = true) : x = .slice none 0 0 ∧ m = 0 ∧ cs = [] := by
 rcases h.2.2 with ⟨rfl, rfl⟩ | ⟨ad, cap, rfl, _⟩
 ·exact ⟨rfl, rfl, List.eq_nil_of_length_eq_zero (by simpa using h.1)⟩
 grind [Uc]
theorem ZJ {x : Operand} {u : Value} {c c' : Nat} {xt e : TypeId} (S : SeesD ds n a L) (hx : val L x = some u) (hR : Rd lo hi w sz u m cs) (hU : P.underlying xt = some (.slice e)) {d : Option Tmp} {yt t : TypeId} {p : String} {ed : Array Edge} {g : Option (Nat × Bool)} :
 Je P a ⟨d, .binOp .eql xt x (.const (.slice none c c')) yt, t, p, ed, g⟩ w (.bool (Uc u)) := by
 obtain ⟨ad, cap, rfl, _, _⟩ := hR.form
 unfold Je execOp
 have hc : a.eval (.const (.slice none c c')) = .slice none c c' := rfl
 simp only [S.eval hx, hc, eqGuard, Sem.run_bind]
 simp [Lib.run_eql_slice_nil w xt e ad m cap c c' hU, Uc, go_sem]
theorem Yc : ∀ (us l : List Value) (o : Nat), o + us.length ≤ l.length → Jt l o us = l.take o ++ us ++ l.drop (o + us.length)
 | [], l, o, h => by simp [Jt]
 | u :: us, l, o, h => by
   simp only [List.length_cons] at h
   rw [Jt, Yc us (l.set o u) (o + 1) (by grind)]
   grind [List.take_succ_eq_append_getElem, List.take_set_of_le, List.drop_set_of_lt]
theorem JdN {us l : List Value} {o : Nat} (h : o + us.length ≤ l.length) : ((Jt l o us).drop o).take us.length = us := by
 rw [Yc us l o h, List.append_assoc, List.drop_append_of_le_length (by grind), List.drop_of_length_le (by grind)]
 simp
theorem zY {us l : List Value} {o i k : Nat} (h : o + us.length ≤ l.length) (hk : i + k ≤ o) : ((Jt l o us).drop i).take k = (l.drop i).take k := by
 grind [Yc, List.drop_take]
theorem CellsAt.one {b o : Nat} {u : Value} (h : CellsAt w b o cs) (k : Nat) (hu : cs[k]? = some u) : w.cell? ⟨b, o + k, none⟩ = some u := (h k (List.getElem?_eq_some_iff.1 hu).1).trans hu
theorem Mem.merge {e1 e2 : Ent} (M : Mem w0 w (e1 :: e2 :: H)) (lo hi : Nat) (φ : World → Prop) (hlo : w0.heap.size ≤ lo) (hhi : hi ≤ w.heap.size) (hH : ∀ f ∈ H, f.hi ≤ lo ∨ hi ≤ f.lo) (hφ : ∀ w', SameOn lo hi w w' → φ w') : Mem w0 w (.own lo hi φ :: H) := by
 have M' : Mem w0 w H := M.sub ((List.sublist_cons_self ..).trans (List.sublist_cons_self ..))
 refine ⟨M'.below, fun f hf => ?_, fun f hf => ?_, .cons (fun f hf => (hH f hf).symm) M'.apart⟩
 ·rcases List.mem_cons.1 hf with rfl | hf
  ·exact hφ
  ·exact M'.ok f hf
 ·rcases List.mem_cons.1 hf with rfl | hf
  ·exact ⟨hlo, hhi⟩
  ·exact M'.fits f hf
theorem SameOn.sub {lo' hi' : Nat} {w : World} (h : SameOn lo hi w w') (h1 : lo ≤ lo') (h2 : hi' ≤ hi) : SameOn lo' hi' w w' := fun k a b => h k o_ o_
theorem Mem.ownAll {φ : World → Prop} (M : Mem w0 w H) (p : Nat) (h : H[p]? = some (.own lo hi φ)) : ∀ w', SameOn lo hi w w' → φ w' := M.get p h
theorem Mem.pushTriv (M : Mem w0 w H) (φ : World → Prop) (h : ∀ w', φ w') : Mem w0 w (.own w.heap.size w.heap.size φ :: H) :=
 M.push (JE w) _ (fun w' _ => h w') (Nat.le_refl _) (Nat.le_refl _)
end
end Go.Proofs.YtocppoflhllelaaGreat
