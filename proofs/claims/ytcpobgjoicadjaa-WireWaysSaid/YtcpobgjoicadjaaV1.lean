/-
  The second walk, its ground: what is seen of a frame, what is known of memory.
-/
import Derived.Test.YtcpobgjoicadjaaKit
namespace Go.Proofs.Ytcpobgjoicadjaa
open Go.RowKit Go.Sort

/-! ### Frames -/
def look : List (Nat × Value) → Nat → Option Value
  | [], _ => none
  | (k, v) :: l, t => bif Nat.beq k t then some v else look l t

def val (L : List (Nat × Value)) : Operand → Option Value
  | .tmp t => look L t
  | .const v => some v
  | .global g => some (.pointer (some ⟨g, 0, none⟩))
  | .func f => some (.func (.func f) #[] #[])

def vals (L : List (Nat × Value)) : List Operand → Option (List Value)
  | [] => some []
  | x :: l => match val L x with
    | none => none
    | some v => match vals L l with
      | none => none
      | some vs => some (v :: vs)

/-- of the frame a, of n slots, these are seen -/
structure Sees (n : Nat) (a : Act) (L : List (Nat × Value)) : Prop where
  size : a.tmps.size = n
  defers : a.defers = []
  at_ : ∀ t v, look L t = some v → t < n → a.tmps.getD t undef = v
  lt : ∀ t v, look L t = some v → t < n

theorem Sees.eval {n : Nat} {a : Act} {L : List (Nat × Value)} (S : Sees n a L) {x : Operand} {v : Value} (h : val L x = some v) : a.eval x = v := by
  cases x with
  | tmp t => exact S.at_ t v h (S.lt t v h)
  | const c => exact Option.some.inj h
  | global g => exact Option.some.inj h
  | func f => exact Option.some.inj h

theorem Sees.evals {n : Nat} {a : Act} {L : List (Nat × Value)} (S : Sees n a L) : ∀ {xs : List Operand} {vs : List Value}, vals L xs = some vs → xs.map a.eval = vs
  | [], vs, h => by simpa [vals] using h
  | x :: xs, vs, h => by
    unfold vals at h
    cases hv : val L x with
    | none => simp [hv] at h
    | some v =>
      cases hr : vals L xs with
      | none => simp [hv, hr] at h
      | some r =>
        simp only [hv, hr, Option.some.injEq] at h
        rw [List.map_cons, S.eval hv, S.evals hr, h]

theorem Sees.put {n : Nat} {a : Act} {L : List (Nat × Value)} (S : Sees n a L) {d : Nat} (hd : Nat.blt d n = true) (v : Value) : Sees n (a.put (some d) v) ((d, v) :: L) := by
  have hd' : d < n := Nat.le_of_ble_eq_true hd
  have hs : (a.put (some d) v).tmps.size = n := by simp [Act.put, S.size]
  have hlook : ∀ t u, look ((d, v) :: L) t = some u → (t = d ∧ u = v) ∨ (t ≠ d ∧ look L t = some u) := fun t u h => by
    unfold look at h
    cases hb : Nat.beq d t with
    | true => rw [hb] at h; exact .inl ⟨(Nat.eq_of_beq_eq_true hb).symm, (Option.some.inj h).symm⟩
    | false => rw [hb] at h; exact .inr ⟨fun e => Nat.ne_of_beq_eq_false hb e.symm, h⟩
  refine ⟨hs, S.defers, fun t u h hlt => ?_, fun t u h => ?_⟩
  · rcases hlook t u h with ⟨rfl, rfl⟩ | ⟨hne, h'⟩
    · simp [Act.put, Array.getD_eq_getD_getElem?, S.size, hd']
    · have := S.at_ t u h' hlt
      rw [← this]
      simp [Act.put, Array.getD_eq_getD_getElem?, Array.getElem?_setIfInBounds, if_neg (fun e : d = t => hne e.symm)]
  · rcases hlook t u h with ⟨rfl, _⟩ | ⟨_, h'⟩
    · exact hd'
    · exact S.lt t u h'

/-- fewer slots are looked at -/
theorem Sees.sub {n : Nat} {a : Act} {L : List (Nat × Value)} (S : Sees n a L) (L' : List (Nat × Value)) (h : vals L (L'.map fun p => .tmp p.1) = some (L'.map (·.2))) : Sees n a L' := by
  have key : ∀ (L' : List (Nat × Value)), vals L (L'.map fun p => .tmp p.1) = some (L'.map (·.2)) → ∀ t v, look L' t = some v → look L t = some v := by
    intro L'
    induction L' with
    | nil => intro _ t v ht; simp [look] at ht
    | cons p L' ih =>
      intro h t v ht
      obtain ⟨k, u⟩ := p
      simp only [List.map_cons, vals, val] at h
      cases hk : look L k with
      | none => simp [hk] at h
      | some u' =>
        rw [hk] at h
        cases hr : vals L (L'.map fun p => .tmp p.1) with
        | none => simp [hr] at h
        | some r =>
          rw [hr] at h
          simp only [Option.some.injEq, List.cons.injEq] at h
          obtain ⟨rfl, rfl⟩ := h
          unfold look at ht
          cases hb : Nat.beq k t with
          | true => rw [hb] at ht; rw [← Nat.eq_of_beq_eq_true hb, hk]; exact ht
          | false => rw [hb] at ht; exact ih hr t v ht
  exact ⟨S.size, S.defers, fun t v ht hlt => S.at_ t v (key L' h t v ht) hlt, fun t v ht => S.lt t v (key L' h t v ht)⟩

/-- a slot's value by an equation -/
theorem Sees.eq {n : Nat} {a : Act} {L : List (Nat × Value)} (S : Sees n a L) (L' : List (Nat × Value)) (h : L = L') : Sees n a L' := h ▸ S

def argSlots : Nat → List Value → List (Nat × Value)
  | _, [] => []
  | k, v :: l => (k, v) :: argSlots (k + 1) l

theorem look_argSlots : ∀ (l : List Value) (k t : Nat) (v : Value), look (argSlots k l) t = some v → k ≤ t ∧ t < k + l.length ∧ l[t - k]? = some v
  | [], k, t, v, h => by simp [argSlots, look] at h
  | u :: l, k, t, v, h => by
    unfold argSlots look at h
    cases hb : Nat.beq k t with
    | true =>
      rw [hb] at h
      have : k = t := Nat.eq_of_beq_eq_true hb
      subst this
      simp only [cond_true, Option.some.injEq] at h
      subst h
      refine ⟨Nat.le_refl _, by simp, by simp⟩
    | false =>
      rw [hb] at h
      obtain ⟨h1, h2, h3⟩ := look_argSlots l (k + 1) t v h
      refine ⟨by omega, by simp; omega, ?_⟩
      rw [show t - k = (t - (k + 1)) + 1 by omega]
      simpa using h3

/-- a function is entered -/
theorem calls_enter {P : Program} {f : FuncId} {fn : Func} {c : Code} {args : Array Value} {w : World} {R : Ending → World → Prop}
    (hf : P.funcs[f]? = some fn) (hb : fn.body = some c) (n : Nat) (hn : fn.ntmps = n) (hle : Nat.ble args.size n = true)
    (h : ∀ a, Sees n a (argSlots 0 args.toList) → c.wp P (bodyPost P fn R) a w) : Calls P f args w R := by
  refine calls_of_wp hf hb (h _ ?_)
  have hle' : args.size ≤ n := by simpa using hle
  refine ⟨by simp [hn]; omega, rfl, fun t v hv hlt => ?_, fun t v hv => ?_⟩
  · obtain ⟨_, h2, h3⟩ := look_argSlots _ _ _ _ hv
    simp only [Nat.zero_add, Nat.sub_zero, Array.length_toList] at h2 h3
    simp only [Array.getD_eq_getD_getElem?]
    rw [Array.getElem?_append_left h2]
    simpa using by rw [← Array.getElem?_toList, h3]; rfl
  · obtain ⟨_, h2, _⟩ := look_argSlots _ _ _ _ hv
    simp only [Nat.zero_add, Array.length_toList] at h2
    omega

/-! ### Memory -/
inductive Ent where
  | blk (b : Nat) (c : Array Value) (t : TypeId)
  | own (lo hi : Nat) (φ : World → Prop)

def Ent.lo : Ent → Nat
  | .blk b _ _ => b
  | .own lo _ _ => lo
def Ent.hi : Ent → Nat
  | .blk b _ _ => b + 1
  | .own _ hi _ => hi
/-- the worlds lie alike from block lo to hi -/
def SameOn (lo hi : Nat) (w w' : World) : Prop := ∀ k, lo ≤ k → k < hi → w'.heap[k]? = w.heap[k]?
def Ent.ok (w : World) : Ent → Prop
  | .blk b c t => Blk w b c t
  | .own lo hi φ => ∀ w', SameOn lo hi w w' → φ w'
def Ent.apart (e f : Ent) : Prop := e.hi ≤ f.lo ∨ f.hi ≤ e.lo

theorem Ent.ok_same {w w' : World} {e : Ent} (h : e.ok w) (hs : SameOn e.lo e.hi w w') : e.ok w' := by
  cases e with
  | blk b c t => exact (hs b (Nat.le_refl _) (Nat.lt_succ_self _)).trans h
  | own lo hi φ => exact fun w'' h'' => h w'' fun k h1 h2 => (h'' k h1 h2).trans (hs k h1 h2)

/-- behind world w0, all that is new is in these entries, or forgotten -/
structure Mem (w0 w : World) (H : List Ent) : Prop where
  below : Below w0.heap.size w0 w
  ok : ∀ e ∈ H, e.ok w
  fits : ∀ e ∈ H, w0.heap.size ≤ e.lo ∧ e.hi ≤ w.heap.size
  apart : H.Pairwise Ent.apart

theorem Mem.start (w : World) : Mem w w [] := ⟨Below.refl _ _, fun _ h => (by cases h), fun _ h => (by cases h), .nil⟩

theorem SameOn.of_below {lo hi : Nat} {w w' : World} (h : Below w.heap.size w w') (hi' : hi ≤ w.heap.size) : SameOn lo hi w w' := fun k _ h2 => h.block k (Nat.lt_of_lt_of_le h2 hi')

theorem Mem.grow {w0 w w' : World} {H : List Ent} (M : Mem w0 w H) (h : Below w.heap.size w w') : Mem w0 w' H :=
  ⟨M.below.trans (h.mono M.below.size), fun e he => Ent.ok_same (M.ok e he) (.of_below h (M.fits e he).2), fun e he => ⟨(M.fits e he).1, Nat.le_trans (M.fits e he).2 h.size⟩, M.apart⟩

theorem Mem.push {w0 w w' : World} {H : List Ent} (M : Mem w0 w H) (h : Below w.heap.size w w') (e : Ent) (he : e.ok w') (h1 : w.heap.size ≤ e.lo) (h2 : e.hi ≤ w'.heap.size) : Mem w0 w' (e :: H) := by
  have M' := M.grow h
  refine ⟨M'.below, fun f hf => ?_, fun f hf => ?_, .cons (fun f hf => .inr (Nat.le_trans (M.fits f hf).2 h1)) M.apart⟩
  · rcases List.mem_cons.1 hf with rfl | hf
    · exact he
    · exact M'.ok f hf
  · rcases List.mem_cons.1 hf with rfl | hf
    · exact ⟨Nat.le_trans M.below.size h1, h2⟩
    · exact M'.fits f hf

theorem Mem.alloc {w0 w : World} {H : List Ent} (M : Mem w0 w H) (c : Array Value) (t : TypeId) : Mem w0 (w.alloc (.cells c t)) (.blk w.heap.size c t :: H) :=
  M.push (ext_alloc (ext_refl _) _) _ (Blk.new w c t) (Nat.le_refl _) (by simp [Ent.hi])

theorem Mem.drew {w0 w : World} {H : List Ent} (M : Mem w0 w H) : Mem w0 w.drew H := M.grow (ext_drew (ext_refl _))

theorem Mem.get {w0 w : World} {H : List Ent} (M : Mem w0 w H) {e : Ent} (p : Nat) (h : H[p]? = some e) : e.ok w := M.ok e (List.mem_of_getElem? h)
theorem Mem.blk {w0 w : World} {H : List Ent} (M : Mem w0 w H) {b : Nat} {c : Array Value} {t : TypeId} (p : Nat) (h : H[p]? = some (.blk b c t)) : Blk w b c t := M.get p h
theorem Mem.own {w0 w : World} {H : List Ent} (M : Mem w0 w H) {lo hi : Nat} {φ : World → Prop} (p : Nat) (h : H[p]? = some (.own lo hi φ)) : φ w := M.get p h w fun _ _ _ => rfl

/-- entry p is changed, nothing else -/
theorem Mem.change {w0 w w' : World} {H : List Ent} (M : Mem w0 w H) {e e' : Ent} (p : Nat) (h : H[p]? = some e) (hlo : e'.lo = e.lo) (hhi : e'.hi = e.hi) (he : e'.ok w')
    (hsz : w'.heap.size = w.heap.size) (hos : w'.os = w.os) (htape : w'.tape = w.tape) (hout : w'.output = w.output) (hs : ∀ k, ¬ (e.lo ≤ k ∧ k < e.hi) → w'.heap[k]? = w.heap[k]?) : Mem w0 w' (H.set p e') := by
  have hmem := List.mem_of_getElem? h
  have hfit := M.fits e hmem
  have hb : Below w0.heap.size w w' := ⟨hos, htape, hout, by omega, fun k hk => hs k (by omega)⟩
  have hp : p < H.length := (List.getElem?_eq_some_iff.1 h).1
  have hpe : H[p] = e := (List.getElem?_eq_some_iff.1 h).2
  have hap : ∀ i j (hi : i < H.length) (hj : j < H.length), i ≠ j → Ent.apart H[i] H[j] := fun i j hi hj hne => by
    rcases Nat.lt_or_gt_of_ne hne with hlt | hlt
    · exact List.pairwise_iff_getElem.1 M.apart i j hi hj hlt
    · exact (List.pairwise_iff_getElem.1 M.apart j i hj hi hlt).symm
  have hget : ∀ i (hi : i < (H.set p e').length), (H.set p e')[i] = if p = i then e' else H[i]'(by simpa using hi) := fun i hi => List.getElem_set ..
  have other : ∀ f ∈ H.set p e', f = e' ∨ ∃ j, ∃ hj : j < H.length, j ≠ p ∧ f = H[j] := fun f hf => by
    obtain ⟨j, hj, rfl⟩ := List.getElem_of_mem hf
    rw [hget]
    by_cases hjp : p = j
    · rw [if_pos hjp]; exact .inl rfl
    · rw [if_neg hjp]; exact .inr ⟨j, by simpa using hj, fun e => hjp e.symm, rfl⟩
  refine ⟨M.below.trans hb, fun f hf => ?_, fun f hf => ?_, ?_⟩
  · rcases other f hf with rfl | ⟨j, hj, hne, rfl⟩
    · exact he
    · refine Ent.ok_same (M.ok _ (List.getElem_mem hj)) fun k h1 h2 => hs k fun ⟨h3, h4⟩ => ?_
      have := hap j p hj hp hne
      rw [hpe] at this
      rcases this with h | h <;> omega
  · rcases other f hf with rfl | ⟨j, hj, hne, rfl⟩
    · rw [hlo, hhi, hsz]; exact hfit
    · rw [hsz]; exact M.fits _ (List.getElem_mem hj)
  · rw [List.pairwise_iff_getElem]
    intro i j hi hj hlt
    rw [hget, hget]
    have hi' : i < H.length := by simpa using hi
    have hj' : j < H.length := by simpa using hj
    have h0 := hap i j hi' hj' (by omega)
    by_cases h1 : p = i
    · subst h1
      rw [if_pos rfl, if_neg (by omega)]
      unfold Ent.apart at *
      rw [hlo, hhi]; rw [hpe] at h0; exact h0
    · rw [if_neg h1]
      by_cases h2 : p = j
      · subst h2
        rw [if_pos rfl]
        unfold Ent.apart at *
        rw [hlo, hhi]; rw [hpe] at h0; exact h0
      · rw [if_neg h2]; exact h0

/-- a cell of an own block is written -/
theorem Mem.setCell {w0 w : World} {H : List Ent} (M : Mem w0 w H) {b : Nat} {c : Array Value} {t : TypeId} (p : Nat) (h : H[p]? = some (.blk b c t)) (i : Nat) (v : Value) :
    Mem w0 (w.setCell ⟨b, i, none⟩ v) (H.set p (.blk b (c.setIfInBounds i v) t)) :=
  M.change p h rfl rfl ((M.blk p h).set i v) (by simp [World.setCell]) rfl rfl rfl fun k hk => Below.heap_setCell w ⟨b, i, none⟩ v k (fun e => hk (by subst e; simp [Ent.lo, Ent.hi]))

/-- some entries are forgotten -/
theorem Mem.drop {w0 w : World} {H : List Ent} (M : Mem w0 w H) (p : Nat) : Mem w0 w (H.eraseIdx p) :=
  ⟨M.below, fun e he => M.ok e (List.mem_of_mem_eraseIdx he), fun e he => M.fits e (List.mem_of_mem_eraseIdx he), M.apart.sublist (List.eraseIdx_sublist ..)⟩
theorem Mem.sub {w0 w : World} {H H' : List Ent} (M : Mem w0 w H) (h : H'.Sublist H) : Mem w0 w H' :=
  ⟨M.below, fun e he => M.ok e (h.subset he), fun e he => M.fits e (h.subset he), M.apart.sublist h⟩

end Go.Proofs.Ytcpobgjoicadjaa
