/-
  What PartStrict rests on, part 2.
-/
import Derived.Test.YtocppoflhllelaaGreatP1
namespace Go.Proofs.YtocppoflhllelaaGreat
open Go.RowKit Go.Sort
section
variable {ds : List Deferred}
variable {P : Program} {ops : Array Oper} {Q : Exit → Act → World → Prop} {md : Region.Mode} {nk : List Nat}
variable {K : Act → World → Prop} {listed : Array Bool} {i f : Nat} {oi : Oper} {C : World → Prop}
def wpK (P : Program) (md : Region.Mode) (ops : Array Oper) (nk : List Nat) (Q : Exit → Act → World → Prop) : Nat → Array Bool → Act → World → Prop
 | 0, listed, a, w => Region.ready md ops listed = [] ∧ Q .normal a w
 | f + 1, listed, a, w => (Region.ready md ops listed = [] → Q .normal a w) ∧
   ∀ i ∈ Region.ready md ops listed, wpOp P ops Q i (fun a' w' => (nk.contains i = false → Below w.heap.size w w') ∧ wpK P md ops nk Q f (listed.setIfInBounds i true) a' w') a w
theorem GM : ∀ (f : Nat) (listed : Array Bool) (a : Act) (w : World), wpK P md ops nk Q f listed a w → wpAny P md ops Q f listed a w
 | 0, _, _, _, h => h
 | f + 1, _, _, _, h => ⟨h.1, fun i hi => wpOp_mono (fun a' w' h' => GM f _ a' w' h'.2) (h.2 i hi)⟩
def YieldsB (P : Program) (ops : Array Oper) (C : World → Prop) (o : Oper) (v : Value) (a : Act) : Prop :=
 (Region.wanted o (yielded ops a.tmps) = true ∧ ∀ W, C W → (execOp a.eval o).run P W = .ok (.value v) W) ∨ (Region.wanted o (yielded ops a.tmps) = false ∧ v = undef)
theorem YieldsB.wpOp {o : Oper} {v : Value} {a : Act} {w : World} (hi : ops[i]? = some o) (hy : YieldsB P ops C o v a) (hc : C w) (h : K (a.put o.dst v) w) : wpOp P ops Q i K a w := by
 unfold Go.wpOp
 simp only [hi]
 rcases hy with ⟨hw, hv⟩ | ⟨hw, rfl⟩
 ·grind [Oper.wp, Oper.upon]
 grind
theorem YieldsB.of_same {o : Oper} {v : Value} {a a' : Act} (hy : YieldsB P ops C o v a) (he : execOp a'.eval o = execOp a.eval o)
 (hw : Region.wanted o (yielded ops a'.tmps) = Region.wanted o (yielded ops a.tmps)) : YieldsB P ops C o v a' := by
 unfold YieldsB at *
 grind
theorem YieldsB.later {o : Oper} {v : Value} {a : Act} {C' : World → Prop} (hy : YieldsB P ops C o v a) (hb : ∀ W, C' W → C W) : YieldsB P ops C' o v a := by
 rcases hy with ⟨hw, hv⟩ | h
 ·exact .inl ⟨hw, fun W hW => hv W (hb W hW)⟩
 ·exact .inr h
theorem yU {j : Nat} {oj : Oper} {v : Value} (hj : ops[j]? = some oj) (hap : oi.apart ops oj = true)
 (hsi : ∀ cs b, oi.op ≠ .select cs b) (hsj : ∀ cs b, oj.op ≠ .select cs b)
 (hQ : ∀ c a w, Q (.panic c) (a.put oi.dst v) w → Q (.panic c) a w) {a : Act} {w : World} 
 (hy : YieldsB P ops C oi v a) (h : wpOp P ops Q j K (a.put oi.dst v) w) :
 wpOp P ops Q j (fun a' w' => YieldsB P ops C oi v a' ∧ K (a'.put oi.dst v) w') a w := by
 obtain ⟨h1, h2, h3⟩ := Oper.apart_spec hap
 have keep : ∀ (a : Act), YieldsB P ops C oi v a → ∀ u, YieldsB P ops C oi v (a.put oj.dst u) := fun a hy u =>
  hy.of_same (execOp_put oi hsi a oj.dst u h3) (wanted_put oi a oj.dst u h3)
 have keepD : ∀ d, YieldsB P ops C oi v { a with defers := d :: a.defers } := fun d => hy.of_same rfl rfl
 unfold wpOp at *
 simp only [hj] at *
 rw [wanted_put oj a oi.dst v h1] at h
 split
 ·rename_i hw
  simp only [hw, if_true] at h
  rcases h with h | ⟨hasks, hlets⟩
  case inr => exact .inr ⟨by unfold Oper.asks at *; rw [execOp_put oj hsj a oi.dst v h1] at hasks; omega, hlets⟩
  refine .inl ?_
  unfold Oper.wp at *
  rw [execOp_put oj hsj a oi.dst v h1] at h
  generalize (execOp a.eval oj).run P w = r at *
  cases r with
  | ok n w' =>
    cases n <;> simp only [Oper.upon] at h ⊢
    case value u => grind [Act.put_comm]
    case skip => grind [Act.put_comm]
    case defer d =>
     grind [Act.put_comm, Act.put_defers]
    case enter f args =>
     refine Calls.mono h fun e w'' he => ?_
     grind [Act.put_comm]
    grind [Act.put_comm]
  | halt x w' =>
    cases x <;> simp only [Oper.upon] at h ⊢
    grind
 grind [Act.put_comm]
def ZL (md : Region.Mode) (ops : Array Oper) : Nat → Nat → Nat → Bool
 | 0, _, _ => false
 | f + 1, j, i => match ops[j]? with
   | none => false
   | some o => o.after.any fun e => Region.binds md e && (e.on == i || ZL md ops f e.on i)
def Wx (md : Region.Mode) (ops : Array Oper) (listed : Array Bool) : Bool :=
 (List.range ops.size).all fun j => !listed.getD j false || match ops[j]? with
   | none => true
   | some o => o.after.all fun e => !Region.binds md e || listed.getD e.on false
def Closed (md : Region.Mode) (ops : Array Oper) (listed : Array Bool) : Prop :=
 ∀ j o, ops[j]? = some o → listed.getD j false = true → ∀ e ∈ o.after, Region.binds md e = true → listed.getD e.on false = true
theorem vW (h : Wx md ops listed = true) : Closed md ops listed := fun j o hj hl e he hb => by
 grind [Wx, Array.all_eq_true_iff_forall_mem]
theorem Closed.set {j : Nat} (h : Closed md ops listed) (hj : j ∈ Region.ready md ops listed) : Closed md ops (listed.setIfInBounds j true) := fun k o hk hl e he hb => by
 by_cases hjk : j = k
 ·grind [mem_ready, getD_set_true]
 ·rw [getD_set_ne false hjk] at hl
  exact getD_set_true (h k o hk hl e he hb)
theorem vZ {listed : Array Bool} (hc : Closed md ops listed) {i : Nat} : ∀ (f j : Nat) (o : Oper), ops[j]? = some o → (∀ e ∈ o.after, Region.binds md e = true → listed.getD e.on false = true) → ZL md ops f j i = true → listed.getD i false = true
 | 0, j, o, _, _, h => by grind [ZL]
 | f + 1, j, o, hj, hall, h => by
   unfold ZL at h
   simp only [hj] at h
   obtain ⟨e, he, hb⟩ := Array.any_eq_true'.1 h
   simp only [Bool.and_eq_true, Bool.or_eq_true, beq_iff_eq] at hb
   obtain ⟨hb1, hb2⟩ := hb
   rcases hb2 with rfl | hw
   ·grind
   ·have hl := hall e he hb1
    cases ho : ops[e.on]? with
    | none => cases f <;> simp [ZL, ho] at hw
    | some o' => exact vZ hc f e.on o' ho (hc e.on o' ho hl) hw
def JbZ (md : Region.Mode) (ops : Array Oper) (nk : List Nat) (listed : Array Bool) (i : Nat) : Bool :=
 match ops[i]? with
 | none => false
 | some oi => (List.range ops.size).all fun j => j == i || listed.getD j true || match ops[j]? with
    | some oj => oj.after.any (fun e => Region.binds md e && e.on == i) || (oi.apart ops oj && (!nk.contains j || ZL md ops ops.size j i))
    | none => true
def Yk (md : Region.Mode) (ops : Array Oper) (nk : List Nat) (listed : Array Bool) (i : Nat) : Bool :=
 Region.noSelect ops && (Region.ready md ops listed).contains i && Wx md ops listed && JbZ md ops nk listed i
theorem j6 (hi : ops[i]? = some oi) (h : JbZ md ops nk listed i = true) (j : Nat) (oj : Oper)
 (hj : ops[j]? = some oj) (hne : j ≠ i) (hun : listed.getD j true = false) (hno : ∀ e ∈ oj.after, Region.binds md e = true → e.on ≠ i) :
 oi.apart ops oj = true ∧ (nk.contains j = false ∨ ZL md ops ops.size j i = true) := by
 grind [JbZ]
theorem YM (h : listed.getD i true = false) : listed.getD i false = false := by
 grind
theorem JcY {v : Value} (hi : ops[i]? = some oi) (hsel : ∀ (j : Nat) (o : Oper) cs b, ops[j]? = some o → o.op ≠ .select cs b)
 (hQ : ∀ c a w, Q (.panic c) (a.put oi.dst v) w → Q (.panic c) a w) :
 ∀ (fuel : Nat) (listed : Array Bool) (a : Act) (w : World), Closed md ops listed →
  (∀ j oj, ops[j]? = some oj → j ≠ i → listed.getD j true = false → (∀ e ∈ oj.after, Region.binds md e = true → e.on ≠ i) → oi.apart ops oj = true ∧ (nk.contains j = false ∨ ZL md ops ops.size j i = true)) →
  i ∈ Region.ready md ops listed → YieldsB P ops (fun W => Below w.heap.size w W) oi v a →
  wpK P md ops nk Q fuel (listed.setIfInBounds i true) (a.put oi.dst v) w → wpK P md ops nk Q (fuel + 1) listed a w := by
 intro fuel
 induction fuel with
 | zero =>
   intro listed a w hcl _ hr hy H
   refine ⟨fun h => (by grind), fun j hj => ?_⟩
   by_cases hji : j = i
   ·subst hji; exact hy.wpOp hi (JE w) ⟨fun _ => JE w, H⟩
   ·have := ready_mono hj hji
    rw [H.1] at this
    cases this
 | succ fuel ih =>
   intro listed a w hcl hfree hr hy H
   refine ⟨fun h => (by grind), fun j hj => ?_⟩
   by_cases hji : j = i
   ·subst hji; exact hy.wpOp hi (JE w) ⟨fun _ => JE w, H⟩
   ·have h1 := H.2 j (ready_mono hj hji)
    obtain ⟨hjun, oj, hoj, hall⟩ := mem_ready.1 hj
    have hin := YM (mem_ready.1 hr).1
    have hnot : ∀ e ∈ oj.after, Region.binds md e = true → e.on ≠ i := fun e he hb heq => by
     grind
    obtain ⟨hap, hkw⟩ := hfree j oj hoj hji hjun hnot
    have hkeep : nk.contains j = false := by
     grind [vZ]
    have h2 := yU hoj hap (fun cs b => hsel i oi cs b hi) (fun cs b => hsel j oj cs b hoj) hQ hy h1
    have hfree' : ∀ k ok, ops[k]? = some ok → k ≠ i → (listed.setIfInBounds j true).getD k true = false →
     (∀ e ∈ ok.after, Region.binds md e = true → e.on ≠ i) → oi.apart ops ok = true ∧ (nk.contains k = false ∨ ZL md ops ops.size k i = true) := fun k ok hk hki hun hno => by
     refine hfree k ok hk hki ?_ hno
     by_cases hjk : j = k
     ·grind
     simp_all
    refine wpOp_mono (fun a' w' h3 => ⟨h3.2.1, ih (listed.setIfInBounds j true) a' w' (hcl.set hj) hfree' (ready_mono hr (Ne.symm hji)) (h3.1.later fun W hW => Kd (h3.2.1 hkeep) hW) ?_⟩) h2
    rw [Array.setIfInBounds_comm _ _ hji]
    exact h3.2.2
theorem QD {v : Value} (hi : ops[i]? = some oi) (hsel : ∀ (j : Nat) (o : Oper) cs b, ops[j]? = some o → o.op ≠ .select cs b)
 (hQ : ∀ c a w, Q (.panic c) (a.put oi.dst v) w → Q (.panic c) a w) :
 ∀ (fuel : Nat) (listed : Array Bool) (a : Act) (w : World), Closed md ops listed →
  (∀ j oj, ops[j]? = some oj → j ≠ i → listed.getD j true = false → (∀ e ∈ oj.after, Region.binds md e = true → e.on ≠ i) → oi.apart ops oj = true) →
  i ∈ Region.ready md ops listed → YieldsB P ops (fun _ => True) oi v a →
  wpK P md ops nk Q fuel (listed.setIfInBounds i true) (a.put oi.dst v) w → wpK P md ops nk Q (fuel + 1) listed a w := by
 intro fuel
 induction fuel with
 | zero =>
   intro listed a w hcl _ hr hy H
   refine ⟨fun h => (by grind), fun j hj => ?_⟩
   by_cases hji : j = i
   ·subst hji; exact hy.wpOp hi trivial ⟨fun _ => JE w, H⟩
   ·have := ready_mono hj hji
    rw [H.1] at this
    cases this
 | succ fuel ih =>
   intro listed a w hcl hfree hr hy H
   refine ⟨fun h => (by grind), fun j hj => ?_⟩
   by_cases hji : j = i
   ·subst hji; exact hy.wpOp hi trivial ⟨fun _ => JE w, H⟩
   ·have h1 := H.2 j (ready_mono hj hji)
    obtain ⟨hjun, oj, hoj, hall⟩ := mem_ready.1 hj
    have hin := YM (mem_ready.1 hr).1
    have hnot : ∀ e ∈ oj.after, Region.binds md e = true → e.on ≠ i := fun e he hb heq => by
     grind
    have hap := hfree j oj hoj hji hjun hnot
    have h2 := yU hoj hap (fun cs b => hsel i oi cs b hi) (fun cs b => hsel j oj cs b hoj) hQ hy h1
    have hfree' : ∀ k ok, ops[k]? = some ok → k ≠ i → (listed.setIfInBounds j true).getD k true = false →
     (∀ e ∈ ok.after, Region.binds md e = true → e.on ≠ i) → oi.apart ops ok = true := fun k ok hk hki hun hno => by
     refine hfree k ok hk hki ?_ hno
     by_cases hjk : j = k
     ·grind
     simp_all
    refine wpOp_mono (fun a' w' h3 => ⟨h3.2.1, ih (listed.setIfInBounds j true) a' w' (hcl.set hj) hfree' (ready_mono hr (Ne.symm hji)) h3.1 ?_⟩) h2
    rw [Array.setIfInBounds_comm _ _ hji]
    exact h3.2.2
/-! ### the rules of the walk -/
variable {n d : Nat} {a : Act} {L : List (Nat × Value)} {w w0 : World} {v : Value} {o : Oper} {H : List Ent}
theorem YH {id : Nat} {l : List Oper} (nk : List Nat) (listed : Array Bool) (hl : Array.replicate l.length false = listed) (M : Mem w0 w H) (hm : P.follows .mixedOrders = true)
 (h : ∀ w, Mem w0 w H → wpK P .any l.toArray nk Q l.length listed a w) : (Code.region id l.toArray true).wp P Q a w := by
 subst hl
 exact wp_region_any hm (GM _ _ _ _ (by have := h _ M.drew; simpa using this))
theorem Eg (i : Nat) (S : SeesD ds n a L) (hi : ops[i]? = some o)
 (hy : ∀ W, Below w.heap.size w W → Je P a o W v) (k : ∀ a, SeesD ds n a ((d, v) :: L) → wpK P md ops nk Q f (listed.setIfInBounds i true) a w)
 (hg : gd ops L o = some true := by rfl) (hd : o.dst = some d := by rfl) (hn : Nat.blt d n = true := by rfl) (hst : Yk md ops nk listed i = true := by kernel_rfl) (hQ : ∀ c (d : Option Tmp) (u : Value) (a : Act) w, Q (.panic c) (a.put d u) w → Q (.panic c) a w := by intro _ d _ _ _ h; cases d <;> exact h) : wpK P md ops nk Q (f + 1) listed a w := by
 simp only [Yk, Bool.and_eq_true] at hst
 obtain ⟨⟨⟨h1, h2⟩, h3⟩, h4⟩ := hst
 refine JcY hi (Region.noSelect_spec h1) (fun c a w h => hQ c _ _ a w h) f listed a w (vW h3) (fun j oj => j6 hi h4 j oj) (by grind) (.inl ⟨VP S hg, hy⟩) ?_
 rw [hd]
 exact k _ (S.put hn v)
theorem Jj (i : Nat) (S : SeesD ds n a L) (hi : ops[i]? = some o)
 (hy : ∀ W, Je P a o W v) (k : ∀ a, SeesD ds n a ((d, v) :: L) → wpK P md ops nk Q f (listed.setIfInBounds i true) a w)
 (hg : gd ops L o = some true := by rfl) (hd : o.dst = some d := by rfl) (hn : Nat.blt d n = true := by rfl) (hst : Yk md ops [] listed i = true := by kernel_rfl) (hQ : ∀ c (d : Option Tmp) (u : Value) (a : Act) w, Q (.panic c) (a.put d u) w → Q (.panic c) a w := by intro _ d _ _ _ h; cases d <;> exact h) : wpK P md ops nk Q (f + 1) listed a w := by
 simp only [Yk, Bool.and_eq_true] at hst
 obtain ⟨⟨⟨h1, h2⟩, h3⟩, h4⟩ := hst
 refine QD hi (Region.noSelect_spec h1) (fun c a w h => hQ c _ _ a w h) f listed a w (vW h3) (fun j oj p1 p2 p3 p4 => (j6 hi h4 j oj p1 p2 p3 p4).1) (by grind) (.inl ⟨VP S hg, fun W _ => hy W⟩) ?_
 rw [hd]
 exact k _ (S.put hn v)
theorem Jj5 (i : Nat) (S : SeesD ds n a L) (hi : ops[i]? = some o)
 (k : ∀ a, SeesD ds n a ((d, undef) :: L) → wpK P md ops nk Q f (listed.setIfInBounds i true) a w)
 (hg : gd ops L o = some false := by rfl) (hd : o.dst = some d := by rfl) (hn : Nat.blt d n = true := by rfl) (hst : Yk md ops [] listed i = true := by kernel_rfl) (hQ : ∀ c (d : Option Tmp) (u : Value) (a : Act) w, Q (.panic c) (a.put d u) w → Q (.panic c) a w := by intro _ d _ _ _ h; cases d <;> exact h) : wpK P md ops nk Q (f + 1) listed a w := by
 simp only [Yk, Bool.and_eq_true] at hst
 obtain ⟨⟨⟨h1, h2⟩, h3⟩, h4⟩ := hst
 refine QD hi (Region.noSelect_spec h1) (fun c a w h => hQ c _ _ a w h) f listed a w (vW h3) (fun j oj p1 p2 p3 p4 => (j6 hi h4 j oj p1 p2 p3 p4).1) (by grind) (.inr ⟨VP S hg, rfl⟩) ?_
 rw [hd]
 exact k _ (S.put hn undef)
theorem JgY (hr : (Region.ready md ops listed).isEmpty = true) (h : Q .normal a w) : wpK P md ops nk Q 0 listed a w := ⟨by grind, h⟩
theorem jV (hi : ops[i]? = some o) (h : wpList P ops (Exit.then K Q) [o] a w) : wpOp P ops Q i K a w := by
 unfold wpList at h
 unfold wpOp
 simp only [hi]
 have hlets : LetsOut (Exit.then K Q) → LetsOut Q := fun ⟨a, w, h⟩ => ⟨a, w, h⟩
 split
 ·rename_i hw
  rw [if_pos hw] at h
  rcases h with h | ⟨h1, h2⟩
  ·refine .inl ?_
   unfold Oper.wp at *
   generalize (execOp a.eval o).run P w = r at *
   cases r with
   | ok x w' =>
     cases x <;> simp only [Oper.upon] at h ⊢
     case enter f args =>
      refine Calls.mono h fun e w'' he => ?_
      cases e with
      | returned u => exact he
      | panicked c => exact he
      | outgrown => grind
     all_goals exact h
   | halt x w' =>
     cases x <;> simp only [Oper.upon] at h ⊢
     case panic u => exact h
  grind
 ·rename_i hw
  rw [if_neg hw] at h
  exact h
theorem JgX (i : Nat) (hi : ops[i]? = some o) (hr : Nat.beq (Region.ready md ops listed).length 1 && (Region.ready md ops listed).contains i = true)
 (h : wpList P ops (Exit.then (fun a' w' => (nk.contains i = false → Below w.heap.size w w') ∧ wpK P md ops nk Q f (listed.setIfInBounds i true) a' w') Q) [o] a w) : wpK P md ops nk Q (f + 1) listed a w := by
 have hr' : Region.ready md ops listed = [i] := by
  grind [Nat.eq_of_beq_eq_true, List.length_eq_one_iff]
 refine ⟨fun h => (by grind), fun j hj => ?_⟩
 rw [hr'] at hj
 obtain rfl : j = i := by grind
 exact jV hi h
theorem j3 {o1 o2 : Oper} (i j : Nat) (hi : ops[i]? = some o1) (hj : ops[j]? = some o2) (hr : decide (Region.ready md ops listed = [i, j]) = true)
 (h1 : wpList P ops (Exit.then (fun a' w' => (nk.contains i = false → Below w.heap.size w w') ∧ wpK P md ops nk Q f (listed.setIfInBounds i true) a' w') Q) [o1] a w)
 (h2 : wpList P ops (Exit.then (fun a' w' => (nk.contains j = false → Below w.heap.size w w') ∧ wpK P md ops nk Q f (listed.setIfInBounds j true) a' w') Q) [o2] a w) : wpK P md ops nk Q (f + 1) listed a w := by
 have hr' := of_decide_eq_true hr
 refine ⟨fun h => (by grind), fun k hk => ?_⟩
 rw [hr'] at hk
 simp only [List.mem_cons, List.not_mem_nil, or_false] at hk
 rcases hk with rfl | rfl
 ·exact jV hi h1
 ·exact jV hj h2
end
section
variable {ds : List Deferred}
variable {P : Program} {ops : Array Oper} {Q : Exit → Act → World → Prop} {rest : List Oper} {n d : Nat} {a : Act} {L : List (Nat × Value)} {w w0 : World} {v : Value} {o : Oper} {H : List Ent}
variable {e ed : Array Edge} {i j : Int} {b m sz : Nat} {x y : Operand} {g : Option (Nat × Bool)} {p : String} {t xt yt ty : TypeId}
def V4 (i : Int) : UInt8 := UInt8.ofNat (i % 256).toNat
theorem Jhl (i : Int) : IntKind.u8.wrap i = ((V4 i).toNat : Int) := by
 grind [IntKind.wrap, IntKind.bits, IntKind.signed, V4, UInt8.toNat_ofNat']
theorem Zg {k : IntKind} {src dst : TypeId} (S : SeesD ds n a L) (hx : val L x = some (.int k i)) (hs : (P.underlying src).isSome = true) (hd : P.underlying dst = some (.int .u8)) {d : Option Tmp} :
 Je P a ⟨d, .convert src dst x, t, p, e, g⟩ w (.int .u8 ((V4 i).toNat : Int)) := by
 have h := QC (P := P) (w := w) S hx hs hd (d := d) (t := t) (p := p) (e := e) (g := g)
 rw [Jhl] at h; exact h
theorem zG {k : IntKind} {src dst : TypeId} (S : SeesD ds n a L) (hx : val L x = some (.int k i)) (hs : (P.underlying src).isSome = true) (hd : P.underlying dst = some (.int .i64)) (h : -9223372036854775808 ≤ i ∧ i ≤ 9223372036854775807) {d : Option Tmp} :
 Je P a ⟨d, .convert src dst x, t, p, e, g⟩ w (.int .i64 i) := by
 have h' := QC (P := P) (w := w) S hx hs hd (d := d) (t := t) (p := p) (e := e) (g := g)
 rw [IntWalk.i64_in _ h] at h'; exact h'
theorem QA {yk : IntKind} (S : SeesD ds n a L) (hx : val L x = some (.int .i64 i)) (hy : val L y = some (.int yk j)) (h : 0 ≤ j ∧ j ≤ 64)
 {d : Option Tmp} : Je P a ⟨d, .binOp .shr xt x y yt, t, p, e, g⟩ w (.int .i64 (i / 2 ^ j.toNat)) := by
 have h' := Jbb (P := P) (w := w) S hx hy h.1 (d := d) (xt := xt) (yt := yt) (t := t) (p := p) (e := e) (g := g)
 rw [show min j.toNat IntKind.i64.bits = j.toNat by grind [IntKind.bits], Int.fdiv_eq_ediv_of_nonneg _ (Int.pow_nonneg o_)] at h'
 exact h'
theorem JcR {yk : IntKind} (S : SeesD ds n a L) (hx : val L x = some (.int .i64 i)) (hy : val L y = some (.int yk j)) (h : 0 ≤ j ∧ j ≤ 64) (hr : -9223372036854775808 ≤ i * 2 ^ j.toNat ∧ i * 2 ^ j.toNat ≤ 9223372036854775807)
 {d : Option Tmp} : Je P a ⟨d, .binOp .shl xt x y yt, t, p, e, g⟩ w (.int .i64 (i * 2 ^ j.toNat)) := by
 have h' := Jjl (P := P) (w := w) S hx hy h.1 (d := d) (xt := xt) (yt := yt) (t := t) (p := p) (e := e) (g := g)
 rw [show min j.toNat IntKind.i64.bits = j.toNat by grind [IntKind.bits], IntWalk.i64_in _ hr] at h'
 exact h'
theorem Jjm {i j : Nat} (S : SeesD ds n a L) (hx : val L x = some (.int .i64 (i : Int))) (hy : val L y = some (.int .i64 (j : Int))) (hi : i < 2 ^ 63) (hj : j < 2 ^ 63)
 {d : Option Tmp} : Je P a ⟨d, .binOp .or xt x y yt, t, p, e, g⟩ w (.int .i64 ((i ||| j : Nat) : Int)) := by
 refine J2 S hx hy ?_
 have hlt : i ||| j < 2 ^ 63 := Nat.or_lt_two_pow hi hj
 have e1 : (BitVec.ofInt 64 (i : Int) ||| BitVec.ofInt 64 (j : Int)).toNat = i ||| j := by
  grind
 show some (Value.int .i64 (IntKind.i64.wrap (((BitVec.ofInt 64 (i : Int) ||| BitVec.ofInt 64 (j : Int) : BitVec 64).toNat : Nat) : Int))) = _
 grind [IntWalk.i64_in]
/-! ### an array cut -/
theorem ZH {o t : Nat} (S : SeesD ds n a L) (hE : YQ P t = some (m, sz)) (hx : val L x = some (.pointer (some ⟨b, o, none⟩)))
 {d : Option Tmp} : Je P a ⟨d, .slice t x none none none, ty, p, ed, g⟩ w (.slice (some ⟨b, o, none⟩) m m) := by
 obtain ⟨e, hu, inf, hinf, rfl⟩ := Yr hE
 unfold Je execOp
 simp only [Option.map_none, S.eval hx]
 have e0 : (⟨b, o, none⟩ : Addr).add 0 = ⟨b, o, none⟩ := rfl
 simp [Instr.sliceAt, Instr.sliceBounds, underlying, hu, Instr.sureAddr, sizeOf, typeInfo, hinf, go_sem]
theorem Jba {hi : Operand} {o t : Nat} {k2 : IntKind} (S : SeesD ds n a L) (hE : YQ P t = some (m, sz)) (hx : val L x = some (.pointer (some ⟨b, o, none⟩))) (h2 : val L hi = some (.int k2 j)) (h : 0 ≤ j ∧ j ≤ m)
 {d : Option Tmp} : Je P a ⟨d, .slice t x none (some hi) none, ty, p, ed, g⟩ w (.slice (some ⟨b, o, none⟩) j.toNat m) := by
 obtain ⟨e, hu, inf, hinf, rfl⟩ := Yr hE
 unfold Je execOp
 simp only [Option.map_none, Option.map_some, S.eval hx, S.eval h2]
 have e0 : (⟨b, o, none⟩ : Addr).add 0 = ⟨b, o, none⟩ := rfl
 simp [Instr.sliceAt, Instr.sliceBounds, Instr.sliceBound, asIntOf, underlying, hu, Instr.sureAddr, sizeOf, typeInfo, hinf, h, go_sem]
/-! ### an array by value, one element -/
theorem Je6 {ix : Operand} {t k : Nat} {cs es : List Value} {ki : IntKind} (S : SeesD ds n a L) (hE : YQ P t = some (m, sz)) (hT : ∀ e, P.underlying t = some (.array m e) → vB P e = some k) (hx : val L x = some (.agg cs.toArray)) (hi : val L ix = some (.int ki i)) (h : 0 ≤ i ∧ i < m) (hes : Vs cs (i.toNat * sz) k = some es)
 {d : Option Tmp} : Je P a ⟨d, .index t x ix, ty, p, ed, g⟩ w (.agg es.toArray) := by
 obtain ⟨e, hu, inf, hinf, rfl⟩ := Yr hE
 obtain ⟨h1, i', hi', hs'⟩ := Kn (hT e hu)
 rw [hinf] at hi'; cases hi'
 obtain ⟨hl, hg⟩ := vV _ _ _ _ hes
 have hex : cs.toArray.extract (i.toNat * inf.size) (i.toNat * inf.size + inf.size) = es.toArray := by
  apply Array.ext_getElem?
  grind
 unfold Je execOp
 simp only [S.eval hx, S.eval hi]
 simp only [Instr.index, asIntOf, Sem.run_bind, Sem.run_pure, Result.andThen_ok]
 rw [show (underlying t).run P w = .ok (.array m e) w by simp [underlying, hu, go_sem]]
 simp only [Result.andThen_ok, h.1, h.2, and_self, if_true, Sem.run_bind, YL hinf, part, h1, Sem.run_pure, hex]
/-! ### copy -/
theorem JbE {us : List Value} (h : Jp us = true) : ∀ u ∈ us, u.oneCell' = true := jn h
theorem Kt {t e lo hi o dl dc : Nat} {x : Value} {s : Operand} {l cs us : List Value} {T : TypeId} (S : SeesD ds n a L) (M : Mem w0 w H) (pos : Nat) {d : Nat} 
 (hg : gd ops L ⟨some d, .call { callee := .builtin .copy, args := #[s, y], argTypes := #[t, t] }, ty, p, ed, g⟩ = some true) (hn : Nat.blt d n = true)
 (hE : JX P t = some (e, 1)) (hs : val L s = some (.slice (some ⟨b, o, none⟩) dl dc)) (hy : val L y = some x) (hp : H[pos]? = some (.blk b l.toArray T)) (hx : Rd lo hi w 1 x m cs) (hus : cs.take dl = us) (h1 : Jp us = true) (hfit : o + us.length ≤ l.length)
 (kk : ∀ a w, SeesD ds n a ((d, .int .i64 (us.length : Int)) :: L) → Mem w0 w (H.set pos (.blk b (l.take o ++ us ++ l.drop (o + us.length)).toArray T)) → wpList P ops Q rest a w) :
 wpList P ops Q (⟨some d, .call { callee := .builtin .copy, args := #[s, y], argTypes := #[t, t] }, ty, p, ed, g⟩ :: rest) a w := by
 obtain ⟨hu, inf, hinf, hsz⟩ := Vw hE
 have B := M.blk pos hp
 have hlen : us.length = Nat.min m dl := by
  rw [← hus, List.length_take, hx.1, Nat.mul_one, Nat.min_comm]
 obtain ⟨cs', hrun⟩ := Vt (P := P) (w := w) (b := .copy) (xs := [s, y]) (vs := [.slice (some ⟨b, o, none⟩) dl dc, x]) S (by grind [Vl]) (d := some d) (ts := #[t, t]) (t := ty) (p := p) (e := ed) (g := g)
 rcases hx.2.2 with ⟨rfl, rfl⟩ | ⟨ad, cap, rfl, hc, hm, ha, hsp⟩
 ·have hu0 : us = [] := List.eq_nil_of_length_eq_zero (by grind)
  subst hu0
  have hr := run_copy_nil (P := P) w t t ty e ⟨b, o, none⟩ dl dc hu (by grind)
  refine ZP (v := .int .i64 0) (w' := w) S hg rfl hn ?_ fun a S' => kk a w S' ?_
  ·rw [hrun]
   simp only [builtin, Sem.run_bind]
   rw [show [Value.slice (some ⟨b, o, none⟩) dl dc, .slice none 0 0].toArray = #[.slice (some ⟨b, o, none⟩) dl dc, .slice none 0 0] from rfl, hr]
   rfl
  ·rw [show l.take o ++ [] ++ l.drop (o + ([] : List Value).length) = l by simp, show H.set pos (.blk b l.toArray T) = H from ?_]
   ·exact M
   grind [List.set_getElem_self]
 ·have hsrc : ∀ j v, us[j]? = some v → w.cell? (ad.add j) = some v := fun j v hj => by
   have hcs : cs[j]? = some v := by
    grind
   exact ha.addA (fun hne => (hsp (Nat.pos_of_ne_zero fun h0 => hne (List.eq_nil_of_length_eq_zero (by grind)))).1) j v hcs
  have hr := run_copy_row (P := P) w t t ty e b o dl dc ad m cap l.toArray T us hu (by grind) B hlen hsrc o_ (JbE h1)
  refine ZP (v := .int .i64 (us.length : Int)) (w' := _) S hg rfl hn (by
   rw [hrun]
   simp only [builtin, Sem.run_bind]
   rw [show [Value.slice (some ⟨b, o, none⟩) dl dc, .slice (some ad) m cap].toArray = #[.slice (some ⟨b, o, none⟩) dl dc, .slice (some ad) m cap] from rfl, hr]
   rfl) fun a S' => kk a _ S' ?_
  exact M.change pos hp rfl rfl (setRow_heap w b l.toArray _ T _ B) (by simp [World.setRow]) rfl rfl rfl (fun k hk => setRow_other w b k _ (fun e => hk (by grind [Ent.lo, Ent.hi])))
end
section
variable {ds : List Deferred}
variable {P : Program} {ops : Array Oper} {Q : Exit → Act → World → Prop} {rest : List Oper} {n d : Nat} {a : Act} {L : List (Nat × Value)} {w w0 : World} {v : Value} {o : Oper} {H : List Ent}
theorem Mem.appendG {t e sz by_ lo hi lo' hi' m k ty : Nat} {zc xs news : List Value} {u x : Value} (M : Mem w0 w H) (hI : VO P t = some (e, sz, by_, zc)) (hzs : zc.length = sz) (hu : Rd lo hi w sz u k xs) (hcap : Yb u < k + m) (hx : Rd lo' hi' w sz x m news)
 (hb : (k + m) * by_ ≤ 140737488355328) (h63 : k + m ≤ maxLen) :
 ∃ v' w' l' h', (Builtin.append_ #[t, t] ty #[u, x]).run P w = .ok v' w' ∧ Mem w0 w' (Jd l' h' e sz v' (k + m) (xs ++ news) :: H) := by
 obtain ⟨hU, i, z, hi', hz, rfl, rfl, hzc⟩ := V6 hI
 have hzs' : z.cells.size = i.size := by grind
 have hsmall : k + m ≤ 9223372036854775807 := by grind [maxLen]
 have hlx : news.length = m * i.size := hx.1
 have hlen : (xs ++ news).length = (k + m) * i.size := by rw [List.length_append, hu.1, hlx, Nat.add_mul]
 have hku := hu.cap
 have grown : ∀ (old : Nat), Mem w0 (w.drew.alloc (.cells (xs.toArray ++ news.toArray ++ Builtin.zeroCells z.cells (grownCap w (k + m) old e - (k + m))) e))
  (Jd w.heap.size (w.heap.size + 1) e i.size (.slice (some ⟨w.heap.size, 0, none⟩) (k + m) (grownCap w (k + m) old e)) (k + m) (xs ++ news) :: H) := by
  intro old
  have hge := grownCap_ge w (k + m) old e
  have hcm : grownCap w (k + m) old e ≤ maxLen := grownCap_le_maxLen w (k + m) old e h63
  refine M.push (Vd (Ql (JE w)) _) _ (yv ⟨hlen, .inr ⟨w.heap.size, _, _, rfl, Nat.le_refl _, heap_alloc_new w.drew _, hge, hcm, ?_, ?_⟩⟩ (fun k hk => by grind [Value.ownBlock])) (Nat.le_refl _) (by simp [Jd, Ent.hi])
  ·simp only [Array.size_append, List.size_toArray, size_zeroCells, hzs', hu.1, hlx, ← Nat.add_mul]
   grind
  grind
 rcases hx.2.2 with ⟨rfl, rfl⟩ | ⟨ad', cap', rfl, hc', hcm', hat, hsp⟩
 ·omega
 ·have hnews := hat.addA (fun hne => (hsp (Nat.pos_of_ne_zero fun h0 => hne (List.eq_nil_of_length_eq_zero o_))).1)
  rcases hu.2.2 with ⟨rfl, rfl⟩ | ⟨ad, cap, rfl, hc, hcm, hau, hspu⟩
  ·have hx0 : xs = [] := List.eq_nil_of_length_eq_zero (by grind)
   subst hx0
   simp only [Yb] at hcap
   have hr := run_append_nil (P := P) w t ty e i z hU hi' hz ad' m cap' news hlx hnews o_ o_ (by grind)
   grind
  ·simp only [Yb] at hcap
   have holds := hau.addA (fun hne => (hspu (Nat.pos_of_ne_zero fun h0 => hne (List.eq_nil_of_length_eq_zero (by grind)))).1)
   have hr := run_append_grow (P := P) w t ty e i z hU hi' hz ad k cap xs hu.1 holds ad' m cap' news hlx hnews o_ o_ (growslice_fits o_ hb)
   grind
theorem QN {t e sz by_ lo hi lo' hi' m k : Nat} {zc xs news : List Value} {u x : Value} {s y : Operand} (S : SeesD ds n a L) (M : Mem w0 w H) {d : Nat} {ty : TypeId} {p : String} {ed : Array Edge} {g : Option (Nat × Bool)}
 (hg : gd ops L ⟨some d, .call { callee := .builtin .append, args := #[s, y], argTypes := #[t, t] }, ty, p, ed, g⟩ = some true) (hn : Nat.blt d n = true)
 (hI : VO P t = some (e, sz, by_, zc)) (hzs : zc.length = sz) (hs : val L s = some u) (hy : val L y = some x) (hu : Rd lo hi w sz u k xs) (hcap : Yb u < k + m) (hx : Rd lo' hi' w sz x m news)
 (hb : (k + m) * by_ ≤ 140737488355328) (h63 : k + m ≤ maxLen)
 (kk : ∀ a w v' l' h', SeesD ds n a ((d, v') :: L) → Mem w0 w (Jd l' h' e sz v' (k + m) (xs ++ news) :: H) → wpList P ops Q rest a w) :
 wpList P ops Q (⟨some d, .call { callee := .builtin .append, args := #[s, y], argTypes := #[t, t] }, ty, p, ed, g⟩ :: rest) a w := by
 obtain ⟨v', w', l', h', hr, M'⟩ := M.appendG (ty := ty) hI hzs hu hcap hx hb h63
 refine ZP (v := v') (w' := w') S hg rfl hn ?_ fun a S' => kk a w' v' l' h' S' M'
 obtain ⟨cs, h⟩ := Vt (P := P) (w := w) (b := .append) (xs := [s, y]) (vs := [u, x]) S (by grind [Vl]) (d := some d) (ts := #[t, t]) (t := ty) (p := p) (e := ed) (g := g)
 rw [h]
 simp only [builtin, Sem.run_bind]
 simp_all
/-! ### arrays built -/
def UT (P : Program) (t : TypeId) : Option (Nat × List Value) :=
 match P.info? t with
 | some i => match i.zero with
   | some z => match P.underlying t with
     | some (.array _ e) => match P.info? e with
       | some ie => some (ie.size, z.cells.toList)
       | none => none
     | _ => none
   | none => none
 | none => none
theorem V5 {T : TypeId} {sz : Nat} {ps : List (Nat × Operand)} {z vs cs : List Value} (S : SeesD ds n a L) (hB : UT P T = some (sz, z)) (hv : Vl L (ps.map (·.2)) = some vs) (hf : YY (fun i => some (i * sz, sz)) z ((ps.map (·.1)).zip vs) = some cs)
 {d : Option Tmp} {t : TypeId} {p : String} {e : Array Edge} {g : Option (Nat × Bool)} : Je P a ⟨d, .build T ps.toArray, t, p, e, g⟩ w (.agg cs.toArray) := by
 unfold UT at hB
 cases hi : P.info? T with
 | none => simp [hi] at hB
 | some i =>
   simp only [hi] at hB
   cases hz : i.zero with
   | none => simp [hz] at hB
   | some zv =>
     simp only [hz] at hB
     cases hu : P.underlying T with
     | none => simp [hu] at hB
     | some td =>
       rw [hu] at hB
       cases td <;> simp only [reduceCtorEq] at hB
       rename_i m el
       cases hie : P.info? el with
       | none => simp [hie] at hB
       | some ie =>
         simp only [hie, Option.some.injEq, Prod.mk.injEq] at hB
         obtain ⟨rfl, rfl⟩ := hB
         have hparts : (ps.toArray.map fun (x : Nat × Operand) => (x.1, a.eval x.2)).toList = (ps.map (·.1)).zip vs := by
          rw [← S.evals hv, ← KW a.eval ps]; simp
         have hfill := js _ _ _ hf
         unfold Je execOp
         simp only [Instr.build, Sem.run_bind]
         rw [show (zeroValue T).run P w = .ok zv w by simp [zeroValue, typeInfo, hi, hz, go_sem]]
         simp only [Result.andThen_ok]
         rw [show (underlying T).run P w = .ok (.array m el) w by simp [underlying, hu, go_sem]]
         simp only [Result.andThen_ok, Sem.run_bind, YL hie, hparts]
         simp_all
end
section
variable {ds : List Deferred}
variable {P : Program} {ops : Array Oper} {Q : Exit → Act → World → Prop} {rest : List Oper} {n d : Nat} {a : Act} {L : List (Nat × Value)} {w w0 : World} {v : Value} {o : Oper} {H : List Ent}
variable {i : Int}
theorem Je8 (h : 0 ≤ i ∧ i ≤ 18446744073709551615) : IntKind.u64.wrap i = i := by
 grind [IntKind.wrap, IntKind.bits, IntKind.signed]
theorem U3 {x : Operand} {k : IntKind} {src dst : TypeId} (S : SeesD ds n a L) (hx : val L x = some (.int k i)) (hs : (P.underlying src).isSome = true) (hd : P.underlying dst = some (.int .u64)) (h : 0 ≤ i ∧ i ≤ 18446744073709551615) {d : Option Tmp} {t : TypeId} {p : String} {e : Array Edge} {g : Option (Nat × Bool)} :
 Je P a ⟨d, .convert src dst x, t, p, e, g⟩ w (.int .u64 i) := by
 have h' := QC (P := P) (w := w) S hx hs hd (d := d) (t := t) (p := p) (e := e) (g := g)
 rw [Je8 h] at h'; exact h'
theorem Jio {x y : Operand} {yk : IntKind} {k : Nat} (S : SeesD ds n a L) (hx : val L x = some (.int .u64 i)) (hy : val L y = some (.int yk (k : Int))) (h : 0 ≤ i ∧ k ≤ 64)
 {d : Option Tmp} {xt yt t : TypeId} {p : String} {e : Array Edge} {g : Option (Nat × Bool)} : Je P a ⟨d, .binOp .shr xt x y yt, t, p, e, g⟩ w (.int .u64 (i / 2 ^ k)) := by
 have h' := Jbb (P := P) (w := w) S hx hy o_ (d := d) (xt := xt) (yt := yt) (t := t) (p := p) (e := e) (g := g)
 rw [show min (k : Int).toNat IntKind.u64.bits = k by grind [IntKind.bits], Int.fdiv_eq_ediv_of_nonneg _ (Int.pow_nonneg o_)] at h'
 exact h'
end
section
variable {ds : List Deferred}
variable {P : Program} {ops : Array Oper} {Q : Exit → Act → World → Prop} {rest : List Oper} {n d : Nat} {a : Act} {L : List (Nat × Value)} {w w0 : World} {v : Value} {o : Oper} {H : List Ent}
theorem Mem.ofRow {lo hi e sz m : Nat} {xs : List Value} (M : Mem w0 w (Jd lo hi e sz v m xs :: H)) (hm : 0 < m) :
 ∃ g cap more, v = .slice (some ⟨g, 0, none⟩) m cap ∧ m ≤ cap ∧ cap ≤ maxLen ∧ (xs ++ more).length = cap * sz ∧ Mem w0 w (.blk g (xs ++ more).toArray e :: H) := by
 obtain ⟨hr, hk⟩ := M.own 0 rfl
 rcases hr.2 with ⟨_, rfl⟩ | ⟨g, cap, cur, rfl, hb, hgg, hc, hcm, hs, ht⟩
 ·omega
 ·have hg := hk g rfl
  have e1 : xs ++ cur.toList.drop (m * sz) = cur.toList := by grind [List.take_append_drop]
  refine ⟨g, cap, cur.toList.drop (m * sz), rfl, hc, hcm, by grind, ?_⟩
  rw [e1]
  have hf := M.fits _ (List.mem_cons_self ..)
  have hf1 : w0.heap.size ≤ lo := hf.1
  have hf2 : hi ≤ w.heap.size := hf.2
  have hp := List.pairwise_cons.1 M.apart
  refine ⟨M.below, fun f hf => ?_, fun f hf => ?_, List.pairwise_cons.2 ⟨fun f hf => ?_, hp.2⟩⟩
  ·rcases List.mem_cons.1 hf with rfl | hf
   ·exact hgg
   ·exact M.ok f (List.mem_cons_of_mem _ hf)
  ·rcases List.mem_cons.1 hf with rfl | hf
   ·exact ⟨show w0.heap.size ≤ g by omega, show g + 1 ≤ w.heap.size by omega⟩
   ·exact M.fits f (List.mem_cons_of_mem _ hf)
  ·rcases hp.1 f hf with h | h
   ·exact .inl (show g + 1 ≤ f.lo by have : hi ≤ f.lo := h; omega)
   ·exact .inr (show f.hi ≤ g by have : f.hi ≤ lo := h; omega)
theorem Jkm {x y : Operand} {i j : Int} (S : SeesD ds n a L) (hx : val L x = some (.int .i64 i)) (hy : val L y = some (.int .i64 j)) (h : 0 < j)
 {d : Option Tmp} {xt yt t : TypeId} {p : String} {e : Array Edge} {g : Option (Nat × Bool)} : Je P a ⟨d, .binOp .rem xt x y yt, t, p, e, g⟩ w (.int .i64 (i.tmod j)) := by
 have hne : j ≠ 0 := by omega
 unfold Je execOp
 simp only [S.eval hx, S.eval hy]
 simp [eqGuard, binOp, Op.intDiv, go_sem, hne]
def Jk0 (j : Nat) : UInt8 := UInt8.ofNat (2 ^ j)
end
section
variable {ds : List Deferred}
variable {P : Program} {ops : Array Oper} {Q : Exit → Act → World → Prop} {rest : List Oper} {n d : Nat} {a : Act} {L : List (Nat × Value)} {w w0 : World} {v : Value} {o : Oper} {H : List Ent}
variable {A B C us : List Value} {b : Nat} {t : TypeId}
theorem jy (h : us.length = B.length) : Jt (A ++ (B ++ C)) A.length us = A ++ (us ++ C) := by
 grind [Yc]
theorem DU {l : List Value} (h : us.length = l.length) : Jt l 0 us = us := by
 have := jy (A := []) (B := l) (C := []) (us := us) h
 grind
theorem Xp : ∀ (B C : List Value), Vs (B ++ C) 0 B.length = some B
 | [], [] => rfl
 | [], _ :: _ => rfl
 | b :: B, C => by simp only [List.cons_append, List.length_cons, Vs, Xp B C, Option.map_some]
theorem jF : ∀ (A B C : List Value), Vs (A ++ (B ++ C)) A.length B.length = some B
 | [], B, C => Xp B C
 | x :: A, B, C => by simp only [List.cons_append, List.length_cons, Vs]; exact jF A B C
theorem JJ : ∀ {xs ys : List Value}, Jp (xs ++ ys) = (Jp xs && Jp ys)
 | [], ys => by simp [Jp]
 | x :: xs, ys => by simp [Jp, JJ (xs := xs), Bool.and_assoc]
theorem JN {x y : Operand} {T : TypeId} {sz : Nat} {l : List Value} {BT : TypeId} (S : SeesD ds n a L) (M : Mem w0 w H) (pos : Nat) {p : String} {e : Array Edge} {g : Option (Nat × Bool)} (hg : gd ops L ⟨none, .store T x y, t, p, e, g⟩ = some true)
 (hT : (P.info? T).map (·.size) = some sz) (hx : val L x = some (.pointer (some ⟨b, 0, none⟩))) (hy : val L y = some (.agg us.toArray)) (hsz : us.length = sz) (h1 : Jp us = true) (hp : H[pos]? = some (.blk b l.toArray BT)) (hl : l.length = sz)
 (k : ∀ w, Mem w0 w (H.set pos (.blk b us.toArray BT)) → wpList P ops Q rest a w) : wpList P ops Q (⟨none, .store T x y, t, p, e, g⟩ :: rest) a w := by
 refine Ju (us := us) S M pos hg hT hx hy rfl hsz h1 hp o_ fun w M => k w ?_
 grind [DU]
theorem KJ {x y : Operand} {T : TypeId} {o sz : Nat} {BT : TypeId} (S : SeesD ds n a L) (M : Mem w0 w H) (pos : Nat) {p : String} {e : Array Edge} {g : Option (Nat × Bool)} (hg : gd ops L ⟨none, .store T x y, t, p, e, g⟩ = some true)
 (hT : (P.info? T).map (·.size) = some sz) (hx : val L x = some (.pointer (some ⟨b, o, none⟩))) (hy : val L y = some v) (hu : v.cells.toList = us) (hsz : us.length = sz) (h1 : Jp us = true) (hp : H[pos]? = some (.blk b (A ++ (B ++ C)).toArray BT)) (hA : A.length = o) (hB : B.length = sz)
 (k : ∀ w, Mem w0 w (H.set pos (.blk b (A ++ (us ++ C)).toArray BT)) → wpList P ops Q rest a w) : wpList P ops Q (⟨none, .store T x y, t, p, e, g⟩ :: rest) a w := by
 subst hA
 refine Ju (us := us) S M pos hg hT hx hy hu hsz h1 hp (by grind) fun w M => k w ?_
 grind [jy]
theorem Mem.cellsMid {o : Nat} (M : Mem w0 w H) (p : Nat) (h : H[p]? = some (.blk b (A ++ (B ++ C)).toArray t)) (hA : A.length = o) : CellsAt w b o B := by
 subst hA; exact M.cellsAt p h (jF A B C)
theorem JV {fn : Func} {R : Ending → World → Prop} (S : Jk n a L) (hr : fn.results = #[]) (h : R (.returned (.tuple #[])) w) : bodyPost P fn R .ret a w :=
 bodyPost_ret (jj (rs := []) (vs := []) S hr .nil) S.defers h
theorem JD {fn : Func} {R : Ending → World → Prop} (S : Jk n a L) (hr : fn.results = #[]) (h : R (.returned (.tuple #[])) w) : bodyPost P fn R .normal a w :=
 ⟨S.defers, _, jj (rs := []) (vs := []) S hr .nil, h⟩
end
section
variable {ds : List Deferred}
variable {P : Program} {ops : Array Oper} {Q : Exit → Act → World → Prop} {rest : List Oper} {n d : Nat} {a : Act} {L : List (Nat × Value)} {w w0 : World} {v : Value} {o : Oper} {H : List Ent}
variable {e : Array Edge} {cs : List Value} {m sz lo hi : Nat} {g : Option (Nat × Bool)} {p : String} {t : TypeId} {x : Value}
theorem Do {x y : Operand} {k : IntKind} {i j : Int} (S : SeesD ds n a L) (hx : val L x = some (.int k i)) (hy : val L y = some (.int k j))
 {d : Option Tmp} {xt yt : TypeId} : Je P a ⟨d, .binOp .andNot xt x y yt, t, p, e, g⟩ w (.int k (k.wrap (BitVec.ofInt k.bits i &&& ~~~BitVec.ofInt k.bits j).toNat)) := by
 unfold Je execOp
 simp only [S.eval hx, S.eval hy]
 simp [eqGuard, binOp, Op.intBits, go_sem]
theorem Jx {f : FuncId} {fs cs : List Operand} {vf vc : List Value} (S : SeesD ds n a L) (hf : Vl L fs = some vf) (hc : Vl L cs = some vc)
 {d : Option Tmp} : Je P a ⟨d, .makeFunc (.func f) fs.toArray cs.toArray, t, p, e, g⟩ w (.func (.func f) vf.toArray vc.toArray) := by
 have h1 : fs.toArray.map a.eval = vf.toArray := by rw [← S.evals hf]; simp
 have h2 : cs.toArray.map a.eval = vc.toArray := by rw [← S.evals hc]; simp
 unfold Je execOp
 simp [h1, h2, Instr.makeFunc, go_sem]
theorem vj {x ix : Operand} {t : Nat} {i : Int} {ki : IntKind} (S : SeesD ds n a L) (hE : YQ P t = some (m, sz)) (hT : ∀ e, P.underlying t = some (.array m e) → vQ P e = true) (hx : val L x = some (.agg cs.toArray)) (hi : val L ix = some (.int ki i)) (h : 0 ≤ i ∧ i < m) (hv : cs[i.toNat * sz]? = some v)
 {d : Option Tmp} {ty : TypeId} {ed : Array Edge} : Je P a ⟨d, .index t x ix, ty, p, ed, g⟩ w v := by
 obtain ⟨e, hu, inf, hinf, rfl⟩ := Yr hE
 unfold Je execOp
 simp only [S.eval hx, S.eval hi]
 simp only [Instr.index, asIntOf, Sem.run_bind, Sem.run_pure, Result.andThen_ok]
 rw [show (underlying t).run P w = .ok (.array m e) w by simp [underlying, hu, go_sem]]
 have hv' : cs.toArray[i.toNat * inf.size]? = some v := by grind
 simp only [Result.andThen_ok, h.1, h.2, and_self, if_true, Sem.run_bind, YL hinf, part, j0 (hT e hu), Sem.run_pure, hv', Bool.false_eq_true, if_false]
theorem JR {f : FuncId} {fx : Operand} {xs : List Operand} {vs fi ca : List Value} {R : Ending → World → Prop} (S : SeesD ds n a L) {d : Nat} {ts : Array TypeId} 
 (hE : VL P f) (hg : gd ops L ⟨some d, .call { callee := .value fx, args := xs.toArray, argTypes := ts }, t, p, e, g⟩ = some true) (hn : Nat.blt d n = true) (hf : val L fx = some (.func (.func f) fi.toArray ca.toArray)) (hx : Vl L xs = some vs) (hC : Calls P f (fi ++ (vs ++ ca)).toArray w R)
 (k : ∀ e w', R e w' → ∃ v, e = .returned v ∧ ∀ a, SeesD ds n a ((d, v) :: L) → wpList P ops Q rest a w') : wpList P ops Q (⟨some d, .call { callee := .value fx, args := xs.toArray, argTypes := ts }, t, p, e, g⟩ :: rest) a w := by
 unfold wpList
 rw [if_pos (VP S hg)]
 refine .inl ?_
 unfold Oper.wp
 have h : xs.toArray.map a.eval = vs.toArray := by rw [← S.evals hx]; simp
 have hr : (execOp a.eval ⟨some d, .call { callee := .value fx, args := xs.toArray, argTypes := ts }, t, p, e, g⟩).run P w = .ok (.enter f (fi ++ (vs ++ ca)).toArray) w := by
  unfold execOp
  simp only [resolve, h, S.eval hf, Deferred.ofValue, Sem.run_bind, Sem.run_pure, Result.andThen_ok, invoke]
  rw [show fi.toArray ++ vs.toArray ++ ca.toArray = (fi ++ (vs ++ ca)).toArray by simp]
  exact hE _ _
 rw [hr, Oper.upon_enter]
 refine hC.mono fun e w' hR => ?_
 obtain ⟨v, rfl, hk⟩ := k e w' hR
 exact hk _ (S.put hn v)
/-! ### rows and blocks of one's own, read -/
theorem Mem.readAll {e : Nat} {xs : List Value} (M : Mem w0 w H) (p : Nat) (h : H[p]? = some (Jd lo hi e sz x m xs)) (hm : m ≤ maxLen) : Rd 0 w.heap.size w sz x m xs :=
 (M.readRow p h hm).wide (Nat.zero_le _) (M.fits _ (List.mem_of_getElem? h)).2
theorem Rd.of_cells {b o cap : Nat} (hc : CellsAt w b o cs) (hl : cs.length = m * sz) (h1 : lo ≤ b) (h2 : b < hi) (hm : m ≤ cap) (hx : cap ≤ maxLen) : Rd lo hi w sz (.slice (some ⟨b, o, none⟩) m cap) m cs :=
 ⟨hl, Nat.le_trans hm hx, .inr ⟨⟨b, o, none⟩, cap, rfl, hm, hx, hc, fun _ => ⟨rfl, h1, h2⟩⟩⟩
theorem Mem.sliceAt {b o cap : Nat} {c : Array Value} (M : Mem w0 w H) (p : Nat) (h : H[p]? = some (.blk b c t)) (hc : CellsAt w b o cs) (hl : cs.length = m * sz) (hm : m ≤ cap) (hx : cap ≤ maxLen) : Rd 0 w.heap.size w sz (.slice (some ⟨b, o, none⟩) m cap) m cs :=
 Rd.of_cells hc hl (Nat.zero_le _) (M.fits _ (List.mem_of_getElem? h)).2 hm hx
theorem Fresh.from {w1 w2 : World} {e : Nat} (h : Fresh w1 w2 e sz x m cs) (hb : Below w.heap.size w w1) : Fresh w w2 e sz x m cs := by
 obtain ⟨h0, lo, hi, h1, h2, h3, h4⟩ := h
 exact ⟨Kd hb h0, lo, hi, Nat.le_trans hb.size h1, h2, h3, h4⟩
theorem Fresh.rd0 {w' : World} {e : Nat} (h : Fresh w w' e sz x m cs) (hm : m ≤ maxLen) : Rd 0 w'.heap.size w' sz x m cs := (h.rd hm).wide (Nat.zero_le _) (Nat.le_refl _)
theorem Mem.rowC {n : Nat} {v : Value} {xs ys : List UInt8} (M : Mem w0 w (Jd lo hi t 1 v (xs.length + n) (Jh xs ++ Jh ys) :: H)) (h : ys.length = n) : Mem w0 w (Jd lo hi t 1 v (xs ++ ys).length (Jh (xs ++ ys)) :: H) := by
 grind [Vv]
end
section
variable {ds : List Deferred}
section
variable {P : Program} {ops : Array Oper} {Q : Exit → Act → World → Prop} {rest : List Oper} {n d : Nat} {a : Act} {L : List (Nat × Value)} {w w0 : World} {v : Value} {o : Oper} {H : List Ent}
theorem Xz (zc : List Value) : (Builtin.zeroCells zc.toArray 1).toList = zc := by
 apply List.ext_getElem
 ·simp [Builtin.zeroCells]
 grind [Builtin.zeroCells, Nat.mod_eq_of_lt]
theorem Jir {w' : World} (S : SeesD ds n a L) (hg : gd ops L o = some true) (hd : o.dst = none) (hy : (execOp a.eval o).run P w = .ok (.value v) w') (k : wpList P ops Q rest a w') : wpList P ops Q (o :: rest) a w := by
 unfold wpList
 rw [if_pos (VP S hg)]
 refine .inl ?_
 unfold Oper.wp
 rw [hy, Oper.upon_value, hd]
 exact k
theorem QK {t e sz by_ b o c : Nat} {x : Operand} {zc l : List Value} {T : TypeId} (S : SeesD ds n a L) (M : Mem w0 w H) (pos : Nat) {ty : TypeId} {p : String} {ed : Array Edge} {g : Option (Nat × Bool)}
 (hg : gd ops L ⟨none, .call { callee := .builtin .clear, args := #[x], argTypes := #[t] }, ty, p, ed, g⟩ = some true) (hI : VO P t = some (e, sz, by_, zc)) (hx : val L x = some (.slice (some ⟨b, o, none⟩) 1 c))
 (hp : H[pos]? = some (.blk b l.toArray T)) (h1 : Jp zc = true) (hle : o + zc.length ≤ l.length)
 (k : ∀ w', Mem w0 w' (H.set pos (.blk b (Jt l o zc).toArray T)) → wpList P ops Q rest a w') : wpList P ops Q (⟨none, .call { callee := .builtin .clear, args := #[x], argTypes := #[t] }, ty, p, ed, g⟩ :: rest) a w := by
 obtain ⟨hu, i, z, hi, hz, hsz, hby, hzc⟩ := V6 hI
 obtain ⟨w', hr, M'⟩ := vm (P := P) (b := b) (o := o) (T := T) zc 0 l w H pos M hp h1 o_
 refine Jir (v := .tuple #[]) (w' := w') S hg rfl ?_ (k w' M')
 obtain ⟨cs, h⟩ := Vt (P := P) (w := w) (b := .clear) (xs := [x]) (vs := [.slice (some ⟨b, o, none⟩) 1 c]) S (by simp [Vl, hx]) (d := none) (ts := #[t]) (t := ty) (p := p) (e := ed) (g := g)
 rw [h]
 have hzv : (zeroValue e).run P w = .ok z w := by simp [zeroValue, typeInfo, hi, hz, go_sem]
 simp only [builtin, Builtin.clear_, Sem.run_bind]
 simp [underlying, hu, go_sem, hzv]
 unfold Value.cells at hzc
 rw [hzc, Xz, hr]
 rfl
theorem KL {t e sz by_ b c k m b2 o2 c2 : Nat} {zc l news : List Value} {s y : Operand} (S : SeesD ds n a L) (M : Mem w0 w H) (pos : Nat) {d : Nat} {ty : TypeId} {p : String} {ed : Array Edge} {g : Option (Nat × Bool)}
 (hg : gd ops L ⟨some d, .call { callee := .builtin .append, args := #[s, y], argTypes := #[t, t] }, ty, p, ed, g⟩ = some true) (hn : Nat.blt d n = true) (hI : VO P t = some (e, sz, by_, zc))
 (hs : val L s = some (.slice (some ⟨b, 0, none⟩) k c)) (hy : val L y = some (.slice (some ⟨b2, o2, none⟩) m c2)) (hp : H[pos]? = some (.blk b l.toArray e)) (hx : CellsAt w b2 o2 news) (hlx : news.length = m * sz) (h1 : Jp news = true) (hroom : k + m ≤ c) (hcs : l.length = c * sz)
 (kk : ∀ a w', SeesD ds n a ((d, .slice (some ⟨b, 0, none⟩) (k + m) c) :: L) → Mem w0 w' (H.set pos (.blk b (l.take (k * sz) ++ news ++ l.drop (k * sz + news.length)).toArray e)) → wpList P ops Q rest a w') :
 wpList P ops Q (⟨some d, .call { callee := .builtin .append, args := #[s, y], argTypes := #[t, t] }, ty, p, ed, g⟩ :: rest) a w := by
 obtain ⟨hu, i, z, hi', hz, rfl, rfl, hzc⟩ := V6 hI
 have hB := M.blk pos hp
 have hfit : k * i.size + news.length ≤ l.toArray.size := by rw [List.size_toArray, hlx, hcs, ← Nat.add_mul]; exact Nat.mul_le_mul_right _ hroom
 have hr := run_append_room (P := P) w t ty e i hu hi' b k c l.toArray hB ⟨b2, o2, none⟩ m c2 news hlx hx.add (jn h1) hroom hfit
 have M' := M.change (w' := w.setRow b (l.take (k * i.size) ++ news ++ l.drop (k * i.size + news.length)).toArray) (e' := .blk b (l.take (k * i.size) ++ news ++ l.drop (k * i.size + news.length)).toArray e) pos hp rfl rfl
  (setRow_heap w b _ _ e _ hB) (by simp [World.setRow]) rfl rfl rfl (fun q hq => setRow_other w b q _ (fun e => hq (by grind [Ent.lo, Ent.hi])))
 refine ZP (v := .slice (some ⟨b, 0, none⟩) (k + m) c) (w' := w.setRow b (l.take (k * i.size) ++ news ++ l.drop (k * i.size + news.length)).toArray) S hg rfl hn ?_ fun a S' => kk a _ S' M'
 obtain ⟨cs, h⟩ := Vt (P := P) (w := w) (b := .append) (xs := [s, y]) (vs := [.slice (some ⟨b, 0, none⟩) k c, .slice (some ⟨b2, o2, none⟩) m c2]) S (by grind [Vl]) (d := some d) (ts := #[t, t]) (t := ty) (p := p) (e := ed) (g := g)
 rw [h]
 simp only [builtin, Sem.run_bind]
 simp_all
end
end
section
variable {ds : List Deferred}
variable {P : Program} {ops : Array Oper} {Q : Exit → Act → World → Prop} {md : Region.Mode} {nk : List Nat} {C : World → Prop}
variable {listed : Array Bool} {f : Nat}
def Zu (P : Program) (md : Region.Mode) (ops : Array Oper) (nk : List Nat) (C : World → Prop) (Q : Exit → Act → World → Prop) : Nat → Array Bool → Act → World → Prop
 | 0, listed, a, w => Region.ready md ops listed = [] ∧ Q .normal a w
 | f + 1, listed, a, w => (Region.ready md ops listed = [] → Q .normal a w) ∧
   ∀ i ∈ Region.ready md ops listed, wpOp P ops Q i (fun a' w' => (nk.contains i = false → Below w.heap.size w w') ∧ C w' ∧ Zu P md ops nk C Q f (listed.setIfInBounds i true) a' w') a w
theorem GA : ∀ (f : Nat) (listed : Array Bool) (a : Act) (w : World), Zu P md ops nk C Q f listed a w → wpAny P md ops Q f listed a w
 | 0, _, _, _, h => h
 | f + 1, _, _, _, h => ⟨h.1, fun i hi => wpOp_mono (fun a' w' h' => GA f _ a' w' h'.2.2) (h.2 i hi)⟩
theorem Jbf {i : Nat} {oi : Oper} {v : Value} (hi : ops[i]? = some oi) (hsel : ∀ (j : Nat) (o : Oper) cs b, ops[j]? = some o → o.op ≠ .select cs b)
 (hQ : ∀ c a w, Q (.panic c) (a.put oi.dst v) w → Q (.panic c) a w) :
 ∀ (fuel : Nat) (listed : Array Bool) (a : Act) (w : World), Closed md ops listed →
  (∀ j oj, ops[j]? = some oj → j ≠ i → listed.getD j true = false → (∀ e ∈ oj.after, Region.binds md e = true → e.on ≠ i) → oi.apart ops oj = true ∧ (nk.contains j = false ∨ ZL md ops ops.size j i = true)) →
  i ∈ Region.ready md ops listed → YieldsB P ops (fun W => Below w.heap.size w W) oi v a → C w →
  Zu P md ops nk C Q fuel (listed.setIfInBounds i true) (a.put oi.dst v) w → Zu P md ops nk C Q (fuel + 1) listed a w := by
 intro fuel
 induction fuel with
 | zero =>
   intro listed a w hcl _ hr hy hC H
   refine ⟨fun h => (by grind), fun j hj => ?_⟩
   by_cases hji : j = i
   ·subst hji; exact hy.wpOp hi (JE w) ⟨fun _ => JE w, hC, H⟩
   ·have := ready_mono hj hji
    rw [H.1] at this
    cases this
 | succ fuel ih =>
   intro listed a w hcl hfree hr hy hC H
   refine ⟨fun h => (by grind), fun j hj => ?_⟩
   by_cases hji : j = i
   ·subst hji; exact hy.wpOp hi (JE w) ⟨fun _ => JE w, hC, H⟩
   ·have h1 := H.2 j (ready_mono hj hji)
    obtain ⟨hjun, oj, hoj, hall⟩ := mem_ready.1 hj
    have hin := YM (mem_ready.1 hr).1
    have hnot : ∀ e ∈ oj.after, Region.binds md e = true → e.on ≠ i := fun e he hb heq => by
     grind
    obtain ⟨hap, hkw⟩ := hfree j oj hoj hji hjun hnot
    have hkeep : nk.contains j = false := by
     grind [vZ]
    have h2 := yU hoj hap (fun cs b => hsel i oi cs b hi) (fun cs b => hsel j oj cs b hoj) hQ hy h1
    have hfree' : ∀ k ok, ops[k]? = some ok → k ≠ i → (listed.setIfInBounds j true).getD k true = false →
     (∀ e ∈ ok.after, Region.binds md e = true → e.on ≠ i) → oi.apart ops ok = true ∧ (nk.contains k = false ∨ ZL md ops ops.size k i = true) := fun k ok hk hki hun hno => by
     refine hfree k ok hk hki ?_ hno
     by_cases hjk : j = k
     ·grind
     simp_all
    refine wpOp_mono (fun a' w' h3 => ⟨h3.2.1, h3.2.2.1, ih (listed.setIfInBounds j true) a' w' (hcl.set hj) hfree' (ready_mono hr (Ne.symm hji)) (h3.1.later fun W hW => Kd (h3.2.1 hkeep) hW) h3.2.2.1 ?_⟩) h2
    rw [Array.setIfInBounds_comm _ _ hji]
    exact h3.2.2.2
theorem EP {i : Nat} {oi : Oper} {v : Value} (hi : ops[i]? = some oi) (hsel : ∀ (j : Nat) (o : Oper) cs b, ops[j]? = some o → o.op ≠ .select cs b)
 (hQ : ∀ c a w, Q (.panic c) (a.put oi.dst v) w → Q (.panic c) a w) :
 ∀ (fuel : Nat) (listed : Array Bool) (a : Act) (w : World), Closed md ops listed →
  (∀ j oj, ops[j]? = some oj → j ≠ i → listed.getD j true = false → (∀ e ∈ oj.after, Region.binds md e = true → e.on ≠ i) → oi.apart ops oj = true) →
  i ∈ Region.ready md ops listed → YieldsB P ops C oi v a → C w →
  Zu P md ops nk C Q fuel (listed.setIfInBounds i true) (a.put oi.dst v) w → Zu P md ops nk C Q (fuel + 1) listed a w := by
 intro fuel
 induction fuel with
 | zero =>
   intro listed a w hcl _ hr hy hC H
   refine ⟨fun h => (by grind), fun j hj => ?_⟩
   by_cases hji : j = i
   ·subst hji; exact hy.wpOp hi hC ⟨fun _ => JE w, hC, H⟩
   ·have := ready_mono hj hji
    rw [H.1] at this
    cases this
 | succ fuel ih =>
   intro listed a w hcl hfree hr hy hC H
   refine ⟨fun h => (by grind), fun j hj => ?_⟩
   by_cases hji : j = i
   ·subst hji; exact hy.wpOp hi hC ⟨fun _ => JE w, hC, H⟩
   ·have h1 := H.2 j (ready_mono hj hji)
    obtain ⟨hjun, oj, hoj, hall⟩ := mem_ready.1 hj
    have hin := YM (mem_ready.1 hr).1
    have hnot : ∀ e ∈ oj.after, Region.binds md e = true → e.on ≠ i := fun e he hb heq => by
     grind
    have hap := hfree j oj hoj hji hjun hnot
    have h2 := yU hoj hap (fun cs b => hsel i oi cs b hi) (fun cs b => hsel j oj cs b hoj) hQ hy h1
    have hfree' : ∀ k ok, ops[k]? = some ok → k ≠ i → (listed.setIfInBounds j true).getD k true = false →
     (∀ e ∈ ok.after, Region.binds md e = true → e.on ≠ i) → oi.apart ops ok = true := fun k ok hk hki hun hno => by
     refine hfree k ok hk hki ?_ hno
     by_cases hjk : j = k
     ·grind
     simp_all
    refine wpOp_mono (fun a' w' h3 => ⟨h3.2.1, h3.2.2.1, ih (listed.setIfInBounds j true) a' w' (hcl.set hj) hfree' (ready_mono hr (Ne.symm hji)) h3.1 h3.2.2.1 ?_⟩) h2
    rw [Array.setIfInBounds_comm _ _ hji]
    exact h3.2.2.2
variable {n d : Nat} {a : Act} {L : List (Nat × Value)} {w w0 : World} {v : Value} {o : Oper} {H : List Ent}
theorem Yo {id : Nat} {l : List Oper} (nk : List Nat) (listed : Array Bool) (hl : Array.replicate l.length false = listed) (M : Mem w0 w H) (hm : P.follows .mixedOrders = true)
 (h : ∀ w, Mem w0 w H → Zu P .any l.toArray nk C Q l.length listed a w) : (Code.region id l.toArray true).wp P Q a w := by
 subst hl
 exact wp_region_any hm (GA _ _ _ _ (by have := h _ M.drew; simpa using this))
theorem Yf (i : Nat) (S : SeesD ds n a L) (hi : ops[i]? = some o)
 (hC : C w) (hy : ∀ W, Below w.heap.size w W → Je P a o W v) (k : ∀ a, SeesD ds n a ((d, v) :: L) → Zu P md ops nk C Q f (listed.setIfInBounds i true) a w)
 (hg : gd ops L o = some true := by rfl) (hd : o.dst = some d := by rfl) (hn : Nat.blt d n = true := by rfl) (hst : Yk md ops nk listed i = true := by kernel_rfl) (hQ : ∀ c (d : Option Tmp) (u : Value) (a : Act) w, Q (.panic c) (a.put d u) w → Q (.panic c) a w := by intro _ d _ _ _ h; cases d <;> exact h) : Zu P md ops nk C Q (f + 1) listed a w := by
 simp only [Yk, Bool.and_eq_true] at hst
 obtain ⟨⟨⟨h1, h2⟩, h3⟩, h4⟩ := hst
 refine Jbf hi (Region.noSelect_spec h1) (fun c a w h => hQ c _ _ a w h) f listed a w (vW h3) (fun j oj => j6 hi h4 j oj) (by grind) (.inl ⟨VP S hg, hy⟩) hC ?_
 rw [hd]
 exact k _ (S.put hn v)
theorem JT (i : Nat) (S : SeesD ds n a L) (hi : ops[i]? = some o)
 (hC : C w) (hy : ∀ W, C W → Je P a o W v) (k : ∀ a, SeesD ds n a ((d, v) :: L) → Zu P md ops nk C Q f (listed.setIfInBounds i true) a w)
 (hg : gd ops L o = some true := by rfl) (hd : o.dst = some d := by rfl) (hn : Nat.blt d n = true := by rfl) (hst : Yk md ops [] listed i = true := by kernel_rfl) (hQ : ∀ c (d : Option Tmp) (u : Value) (a : Act) w, Q (.panic c) (a.put d u) w → Q (.panic c) a w := by intro _ d _ _ _ h; cases d <;> exact h) : Zu P md ops nk C Q (f + 1) listed a w := by
 simp only [Yk, Bool.and_eq_true] at hst
 obtain ⟨⟨⟨h1, h2⟩, h3⟩, h4⟩ := hst
 refine EP hi (Region.noSelect_spec h1) (fun c a w h => hQ c _ _ a w h) f listed a w (vW h3) (fun j oj p1 p2 p3 p4 => (j6 hi h4 j oj p1 p2 p3 p4).1) (by grind) (.inl ⟨VP S hg, fun W hW => hy W hW⟩) hC ?_
 rw [hd]
 exact k _ (S.put hn v)
theorem vS (hr : (Region.ready md ops listed).isEmpty = true) (h : Q .normal a w) : Zu P md ops nk C Q 0 listed a w := ⟨by grind, h⟩
theorem VV (i : Nat) (hi : ops[i]? = some o) (hr : Nat.beq (Region.ready md ops listed).length 1 && (Region.ready md ops listed).contains i = true)
 (h : wpList P ops (Exit.then (fun a' w' => (nk.contains i = false → Below w.heap.size w w') ∧ C w' ∧ Zu P md ops nk C Q f (listed.setIfInBounds i true) a' w') Q) [o] a w) : Zu P md ops nk C Q (f + 1) listed a w := by
 have hr' : Region.ready md ops listed = [i] := by
  grind [Nat.eq_of_beq_eq_true, List.length_eq_one_iff]
 refine ⟨fun h => (by grind), fun j hj => ?_⟩
 rw [hr'] at hj
 obtain rfl : j = i := by grind
 exact jV hi h
end
section
variable {J : Act → World → Prop} {l : Nat}
def XM (l : Nat) (J : Act → World → Prop) (Q : Exit → Act → World → Prop) : Exit → Act → World → Prop
 | .goto i, a, w => i = l ∧ J a w
 | e, a, w => Q e a w
variable {P : Program} {a : Act} {w : World} {Q : Exit → Act → World → Prop}
theorem Ds {c rest : Code} (l : Nat) (J : Act → World → Prop) (hf : findLabel c l = some rest) (h : c.wp P (XM l J Q) a w) (h' : ∀ a w, J a w → rest.wp P (Exit.noGoto Q) a w) : (Code.scope c).wp P Q a w := by
 intro b k cs
 obtain ⟨e, a1, w1, hq, ha⟩ := h b (.inScope c :: k) cs
 cases e with
 | normal => exact ⟨.normal, a1, w1, hq, .head step_scope (Steps.trans ha (.one step_inScope))⟩
 | exit i => exact ⟨.exit i, a1, w1, hq, fun k' hk => .head step_scope (ha k' (by simp [exitTo, hk]))⟩
 | goto i =>
   obtain ⟨rfl, hJ⟩ := hq
   have hg : gotoIn i (.inScope c :: k) = some (.code rest :: .inScope c :: k) := by simp [gotoIn, hf]
   have hs : Steps P (lone (b.at a (.code (.scope c) :: k)) cs w) (lone (b.at a1 (.code rest :: .inScope c :: k)) cs w1) := .head step_scope (ha _ hg)
   obtain ⟨e, a2, w2, hq2, ha2⟩ := h' a1 w1 hJ b (.inScope c :: k) cs
   cases e with
   | normal => exact ⟨.normal, a2, w2, hq2, hs.trans (Steps.trans ha2 (.one step_inScope))⟩
   | exit i => exact ⟨.exit i, a2, w2, hq2, fun k' hk => hs.trans (ha2 k' (by simp [exitTo, hk]))⟩
   | goto l => exact hq2.elim
   | ret => exact ⟨_, a2, w2, hq2, .of_steps hs ha2⟩
   | panic ch => exact ⟨_, a2, w2, hq2, .of_steps hs ha2⟩
   | outgrown => exact ⟨_, a2, w2, hq2, .of_steps hs ha2⟩
 | ret => exact ⟨_, a1, w1, hq, .of_steps (.one step_scope) ha⟩
 | panic ch => exact ⟨_, a1, w1, hq, .of_steps (.one step_scope) ha⟩
 | outgrown => exact ⟨_, a1, w1, hq, .of_steps (.one step_scope) ha⟩
theorem Jdn (h : Q .normal a w) : XM l J Q .normal a w := h
theorem QO (h : Q .ret a w) : XM l J Q .ret a w := h
theorem JhA (h : J a w) : XM l J Q (.goto l) a w := ⟨rfl, h⟩
theorem VZ {next : Act → World → Prop} {i : Nat} (h : Q (.goto i) a w) : Exit.then next Q (.goto i) a w := h
theorem UU {i j : Nat} (h : Q (.goto j) a w) : Exit.inBlock i Q (.goto j) a w := h
end
end Go.Proofs.YtocppoflhllelaaGreat
