/-
  The second walk: a region that draws its order. What only reads is taken first, in the order of the text; of what writes, makes memory or calls, each that may come next is followed.
-/
import Derived.Test.YtcpobgjoicadjaaV9
namespace Go.Proofs.Ytcpobgjoicadjaa
open Go.RowKit Go.Sort

variable {P : Program} {ops : Array Oper} {Q : Exit → Act → World → Prop} {md : Region.Mode} {nk : List Nat}

/-- whatever order is picked from here on; an operation that is not among nk leaves what lay as it lay -/
def wpK (P : Program) (md : Region.Mode) (ops : Array Oper) (nk : List Nat) (Q : Exit → Act → World → Prop) : Nat → Array Bool → Act → World → Prop
  | 0, listed, a, w => Region.ready md ops listed = [] ∧ Q .normal a w
  | f + 1, listed, a, w => (Region.ready md ops listed = [] → Q .normal a w) ∧
    ∀ i ∈ Region.ready md ops listed, wpOp P ops Q i (fun a' w' => (nk.contains i = false → Below w.heap.size w w') ∧ wpK P md ops nk Q f (listed.setIfInBounds i true) a' w') a w

theorem wpAny_of_wpK : ∀ (f : Nat) (listed : Array Bool) (a : Act) (w : World), wpK P md ops nk Q f listed a w → wpAny P md ops Q f listed a w
  | 0, _, _, _, h => h
  | f + 1, _, _, _, h => ⟨h.1, fun i hi => wpOp_mono (fun a' w' h' => wpAny_of_wpK f _ a' w' h'.2) (h.2 i hi)⟩

/-- one value in all these worlds -/
def YieldsB (P : Program) (ops : Array Oper) (C : World → Prop) (o : Oper) (v : Value) (a : Act) : Prop :=
  (Region.wanted o (yielded ops a.tmps) = true ∧ ∀ W, C W → (execOp a.eval o).run P W = .ok (.value v) W) ∨ (Region.wanted o (yielded ops a.tmps) = false ∧ v = undef)

theorem YieldsB.wpOp {i : Nat} {o : Oper} {v : Value} {a : Act} {w : World} {C : World → Prop} (hi : ops[i]? = some o) (hy : YieldsB P ops C o v a) (hc : C w) {K : Act → World → Prop} (h : K (a.put o.dst v) w) : wpOp P ops Q i K a w := by
  unfold Go.wpOp
  simp only [hi]
  rcases hy with ⟨hw, hv⟩ | ⟨hw, rfl⟩
  · simp only [hw, if_true, Oper.wp, hv w hc, Oper.upon]; exact .inl h
  · simp only [hw, Bool.false_eq_true, if_false]; exact h
theorem YieldsB.of_same {o : Oper} {v : Value} {a a' : Act} {C : World → Prop} (hy : YieldsB P ops C o v a) (he : execOp a'.eval o = execOp a.eval o)
    (hw : Region.wanted o (yielded ops a'.tmps) = Region.wanted o (yielded ops a.tmps)) : YieldsB P ops C o v a' := by
  unfold YieldsB at *
  rw [he, hw]
  exact hy
theorem YieldsB.later {o : Oper} {v : Value} {a : Act} {C C' : World → Prop} (hy : YieldsB P ops C o v a) (hb : ∀ W, C' W → C W) : YieldsB P ops C' o v a := by
  rcases hy with ⟨hw, hv⟩ | h
  · exact .inl ⟨hw, fun W hW => hv W (hb W hW)⟩
  · exact .inr h

/-- an operation's value may be in its slot already -/
theorem wpOp_putB {j : Nat} {oi oj : Oper} {v : Value} (hj : ops[j]? = some oj) (hap : oi.apart ops oj = true)
    (hsi : ∀ cs b, oi.op ≠ .select cs b) (hsj : ∀ cs b, oj.op ≠ .select cs b)
    (hQ : ∀ c a w, Q (.panic c) (a.put oi.dst v) w → Q (.panic c) a w) {K : Act → World → Prop} {a : Act} {w : World} {C : World → Prop}
    (hy : YieldsB P ops C oi v a) (h : wpOp P ops Q j K (a.put oi.dst v) w) :
    wpOp P ops Q j (fun a' w' => YieldsB P ops C oi v a' ∧ K (a'.put oi.dst v) w') a w := by
  obtain ⟨h1, h2, h3⟩ := Oper.apart_spec hap
  have keep : ∀ (a : Act), YieldsB P ops C oi v a → ∀ u, YieldsB P ops C oi v (a.put oj.dst u) := fun a hy u =>
    hy.of_same (execOp_put oi hsi a oj.dst u h3) (wanted_put oi a oj.dst u h3)
  have keepD : ∀ d, YieldsB P ops C oi v { a with defers := d :: a.defers } := fun d => hy.of_same rfl rfl
  unfold wpOp at *
  simp only [hj] at *
  rw [wanted_put oj a oi.dst v h1] at h
  split
  · rename_i hw
    simp only [hw, if_true] at h
    rcases h with h | ⟨hasks, hlets⟩
    case inr => exact .inr ⟨by unfold Oper.asks at *; rw [execOp_put oj hsj a oi.dst v h1] at hasks; exact hasks, hlets⟩
    refine .inl ?_
    unfold Oper.wp at *
    rw [execOp_put oj hsj a oi.dst v h1] at h
    generalize (execOp a.eval oj).run P w = r at *
    cases r with
    | ok n w' =>
      cases n <;> simp only [Oper.upon] at h ⊢
      case value u => exact ⟨keep a hy u, by rw [← Act.put_comm a v u h2]; exact h⟩
      case skip => exact ⟨keep a hy _, by rw [← Act.put_comm a v undef h2]; exact h⟩
      case defer d =>
        refine ⟨keep _ (keepD d) _, ?_⟩
        rw [← Act.put_comm _ v undef h2, ← Act.put_defers]
        exact h
      case enter f args =>
        refine Calls.mono h fun e w'' he => ?_
        cases e with
        | returned u => exact ⟨keep a hy u, by rw [← Act.put_comm a v u h2]; exact he⟩
        | panicked c => exact hQ _ _ _ he
        | outgrown => exact he
      case row row args => exact Rows.mono h fun u w'' he => ⟨keep a hy u, by rw [← Act.put_comm a v u h2]; exact he⟩
    | halt x w' =>
      cases x <;> simp only [Oper.upon] at h ⊢
      case panic u => exact hQ _ _ _ h
  · rename_i hw
    simp only [hw] at h
    exact ⟨keep a hy _, by rw [← Act.put_comm a v undef h2]; exact h⟩

/-- does j wait for i, through others? -/
def waitsT (md : Region.Mode) (ops : Array Oper) : Nat → Nat → Nat → Bool
  | 0, _, _ => false
  | f + 1, j, i => match ops[j]? with
    | none => false
    | some o => o.after.any fun e => Region.binds md e && (e.on == i || waitsT md ops f e.on i)

/-- what is listed has all listed that it waits for -/
def closedB (md : Region.Mode) (ops : Array Oper) (listed : Array Bool) : Bool :=
  (List.range ops.size).all fun j => !listed.getD j false || match ops[j]? with
    | none => true
    | some o => o.after.all fun e => !Region.binds md e || listed.getD e.on false
def Closed (md : Region.Mode) (ops : Array Oper) (listed : Array Bool) : Prop :=
  ∀ j o, ops[j]? = some o → listed.getD j false = true → ∀ e ∈ o.after, Region.binds md e = true → listed.getD e.on false = true
theorem closed_of {listed : Array Bool} (h : closedB md ops listed = true) : Closed md ops listed := fun j o hj hl e he hb => by
  unfold closedB at h
  have h1 := List.all_eq_true.1 h j (List.mem_range.2 (Array.getElem?_eq_some_iff.1 hj).1)
  simp only [hl, Bool.not_true, Bool.false_or, hj] at h1
  have h2 := Array.all_eq_true_iff_forall_mem.1 h1 e he
  simpa [hb] using h2
theorem Closed.set {listed : Array Bool} {j : Nat} (h : Closed md ops listed) (hj : j ∈ Region.ready md ops listed) : Closed md ops (listed.setIfInBounds j true) := fun k o hk hl e he hb => by
  by_cases hjk : j = k
  · subst hjk
    obtain ⟨_, o', ho', hall⟩ := mem_ready.1 hj
    rw [ho'] at hk; cases hk
    exact getD_set_true (hall e he hb)
  · rw [getD_set_ne false hjk] at hl
    exact getD_set_true (h k o hk hl e he hb)
theorem waitsT_listed {listed : Array Bool} (hc : Closed md ops listed) {i : Nat} : ∀ (f j : Nat) (o : Oper), ops[j]? = some o → (∀ e ∈ o.after, Region.binds md e = true → listed.getD e.on false = true) → waitsT md ops f j i = true → listed.getD i false = true
  | 0, j, o, _, _, h => by simp [waitsT] at h
  | f + 1, j, o, hj, hall, h => by
    unfold waitsT at h
    simp only [hj] at h
    obtain ⟨e, he, hb⟩ := Array.any_eq_true'.1 h
    simp only [Bool.and_eq_true, Bool.or_eq_true, beq_iff_eq] at hb
    obtain ⟨hb1, hb2⟩ := hb
    rcases hb2 with rfl | hw
    · exact hall e he hb1
    · have hl := hall e he hb1
      cases ho : ops[e.on]? with
      | none => cases f <;> simp [waitsT, ho] at hw
      | some o' => exact waitsT_listed hc f e.on o' ho (hc e.on o' ho hl) hw

/-- may i be taken first? -/
def freeK (md : Region.Mode) (ops : Array Oper) (nk : List Nat) (listed : Array Bool) (i : Nat) : Bool :=
  match ops[i]? with
  | none => false
  | some oi => (List.range ops.size).all fun j => j == i || listed.getD j true || match ops[j]? with
      | some oj => oj.after.any (fun e => Region.binds md e && e.on == i) || (oi.apart ops oj && (!nk.contains j || waitsT md ops ops.size j i))
      | none => true
def readB (md : Region.Mode) (ops : Array Oper) (nk : List Nat) (listed : Array Bool) (i : Nat) : Bool :=
  Region.noSelect ops && (Region.ready md ops listed).contains i && closedB md ops listed && freeK md ops nk listed i

theorem freeK_spec {i : Nat} {oi : Oper} {listed : Array Bool} (hi : ops[i]? = some oi) (h : freeK md ops nk listed i = true) (j : Nat) (oj : Oper)
    (hj : ops[j]? = some oj) (hne : j ≠ i) (hun : listed.getD j true = false) (hno : ∀ e ∈ oj.after, Region.binds md e = true → e.on ≠ i) :
    oi.apart ops oj = true ∧ (nk.contains j = false ∨ waitsT md ops ops.size j i = true) := by
  simp only [freeK, hi, List.all_eq_true, List.mem_range] at h
  have h1 := h j (Array.getElem?_eq_some_iff.1 hj).1
  simp only [hj, Bool.or_eq_true, beq_iff_eq, hne, false_or, hun, Bool.false_eq_true, Bool.and_eq_true, Bool.not_eq_true'] at h1
  rcases h1 with h1 | h1
  · obtain ⟨e, he, hb⟩ := Array.any_eq_true'.1 h1
    simp only [Bool.and_eq_true, beq_iff_eq] at hb
    exact absurd hb.2 (hno e he hb.1)
  · exact h1

theorem getD_false_of_true {listed : Array Bool} {i : Nat} (h : listed.getD i true = false) : listed.getD i false = false := by
  rcases Nat.lt_or_ge i listed.size with h' | h'
  · simp [h'] at h ⊢; exact h
  · simp [Array.getElem?_eq_none h'] at h

theorem wpK_first {i : Nat} {oi : Oper} {v : Value} (hi : ops[i]? = some oi) (hsel : ∀ (j : Nat) (o : Oper) cs b, ops[j]? = some o → o.op ≠ .select cs b)
    (hQ : ∀ c a w, Q (.panic c) (a.put oi.dst v) w → Q (.panic c) a w) :
    ∀ (fuel : Nat) (listed : Array Bool) (a : Act) (w : World), Closed md ops listed →
      (∀ j oj, ops[j]? = some oj → j ≠ i → listed.getD j true = false → (∀ e ∈ oj.after, Region.binds md e = true → e.on ≠ i) → oi.apart ops oj = true ∧ (nk.contains j = false ∨ waitsT md ops ops.size j i = true)) →
      i ∈ Region.ready md ops listed → YieldsB P ops (fun W => Below w.heap.size w W) oi v a →
      wpK P md ops nk Q fuel (listed.setIfInBounds i true) (a.put oi.dst v) w → wpK P md ops nk Q (fuel + 1) listed a w := by
  intro fuel
  induction fuel with
  | zero =>
    intro listed a w hcl _ hr hy H
    refine ⟨fun h => (by rw [h] at hr; cases hr), fun j hj => ?_⟩
    by_cases hji : j = i
    · subst hji; exact hy.wpOp hi (ext_refl w) ⟨fun _ => ext_refl w, H⟩
    · have := ready_mono hj hji
      rw [H.1] at this
      cases this
  | succ fuel ih =>
    intro listed a w hcl hfree hr hy H
    refine ⟨fun h => (by rw [h] at hr; cases hr), fun j hj => ?_⟩
    by_cases hji : j = i
    · subst hji; exact hy.wpOp hi (ext_refl w) ⟨fun _ => ext_refl w, H⟩
    · have h1 := H.2 j (ready_mono hj hji)
      obtain ⟨hjun, oj, hoj, hall⟩ := mem_ready.1 hj
      have hin := getD_false_of_true (mem_ready.1 hr).1
      have hnot : ∀ e ∈ oj.after, Region.binds md e = true → e.on ≠ i := fun e he hb heq => by
        have h1 := hall e he hb
        rw [heq, hin] at h1; cases h1
      obtain ⟨hap, hkw⟩ := hfree j oj hoj hji hjun hnot
      have hkeep : nk.contains j = false := by
        rcases hkw with h | h
        · exact h
        · have := waitsT_listed hcl _ j oj hoj hall h
          rw [hin] at this; cases this
      have h2 := wpOp_putB hoj hap (fun cs b => hsel i oi cs b hi) (fun cs b => hsel j oj cs b hoj) hQ hy h1
      have hfree' : ∀ k ok, ops[k]? = some ok → k ≠ i → (listed.setIfInBounds j true).getD k true = false →
          (∀ e ∈ ok.after, Region.binds md e = true → e.on ≠ i) → oi.apart ops ok = true ∧ (nk.contains k = false ∨ waitsT md ops ops.size k i = true) := fun k ok hk hki hun hno => by
        refine hfree k ok hk hki ?_ hno
        by_cases hjk : j = k
        · subst hjk; exact hjun
        · rw [getD_set_ne true hjk] at hun; exact hun
      refine wpOp_mono (fun a' w' h3 => ⟨h3.2.1, ih (listed.setIfInBounds j true) a' w' (hcl.set hj) hfree' (ready_mono hr (Ne.symm hji)) (h3.1.later fun W hW => ext_trans (h3.2.1 hkeep) hW) ?_⟩) h2
      rw [Array.setIfInBounds_comm _ _ hji]
      exact h3.2.2

theorem wpK_firstP {i : Nat} {oi : Oper} {v : Value} (hi : ops[i]? = some oi) (hsel : ∀ (j : Nat) (o : Oper) cs b, ops[j]? = some o → o.op ≠ .select cs b)
    (hQ : ∀ c a w, Q (.panic c) (a.put oi.dst v) w → Q (.panic c) a w) :
    ∀ (fuel : Nat) (listed : Array Bool) (a : Act) (w : World), Closed md ops listed →
      (∀ j oj, ops[j]? = some oj → j ≠ i → listed.getD j true = false → (∀ e ∈ oj.after, Region.binds md e = true → e.on ≠ i) → oi.apart ops oj = true) →
      i ∈ Region.ready md ops listed → YieldsB P ops (fun _ => True) oi v a →
      wpK P md ops nk Q fuel (listed.setIfInBounds i true) (a.put oi.dst v) w → wpK P md ops nk Q (fuel + 1) listed a w := by
  intro fuel
  induction fuel with
  | zero =>
    intro listed a w hcl _ hr hy H
    refine ⟨fun h => (by rw [h] at hr; cases hr), fun j hj => ?_⟩
    by_cases hji : j = i
    · subst hji; exact hy.wpOp hi trivial ⟨fun _ => ext_refl w, H⟩
    · have := ready_mono hj hji
      rw [H.1] at this
      cases this
  | succ fuel ih =>
    intro listed a w hcl hfree hr hy H
    refine ⟨fun h => (by rw [h] at hr; cases hr), fun j hj => ?_⟩
    by_cases hji : j = i
    · subst hji; exact hy.wpOp hi trivial ⟨fun _ => ext_refl w, H⟩
    · have h1 := H.2 j (ready_mono hj hji)
      obtain ⟨hjun, oj, hoj, hall⟩ := mem_ready.1 hj
      have hin := getD_false_of_true (mem_ready.1 hr).1
      have hnot : ∀ e ∈ oj.after, Region.binds md e = true → e.on ≠ i := fun e he hb heq => by
        have h1 := hall e he hb
        rw [heq, hin] at h1; cases h1
      have hap := hfree j oj hoj hji hjun hnot
      have h2 := wpOp_putB hoj hap (fun cs b => hsel i oi cs b hi) (fun cs b => hsel j oj cs b hoj) hQ hy h1
      have hfree' : ∀ k ok, ops[k]? = some ok → k ≠ i → (listed.setIfInBounds j true).getD k true = false →
          (∀ e ∈ ok.after, Region.binds md e = true → e.on ≠ i) → oi.apart ops ok = true := fun k ok hk hki hun hno => by
        refine hfree k ok hk hki ?_ hno
        by_cases hjk : j = k
        · subst hjk; exact hjun
        · rw [getD_set_ne true hjk] at hun; exact hun
      refine wpOp_mono (fun a' w' h3 => ⟨h3.2.1, ih (listed.setIfInBounds j true) a' w' (hcl.set hj) hfree' (ready_mono hr (Ne.symm hji)) h3.1 ?_⟩) h2
      rw [Array.setIfInBounds_comm _ _ hji]
      exact h3.2.2

/-! ### the rules of the walk -/
variable {n d : Nat} {a : Act} {L : List (Nat × Value)} {w w0 : World} {v : Value} {o : Oper} {H : List Ent}

theorem wp_regionK {id : Nat} {l : List Oper} (nk : List Nat) (listed : Array Bool) (hl : Array.replicate l.length false = listed) (M : Mem w0 w H) (hm : P.follows .mixedOrders = true)
    (h : ∀ w, Mem w0 w H → wpK P .any l.toArray nk Q l.length listed a w) : (Code.region id l.toArray true).wp P Q a w := by
  subst hl
  exact wp_region_any hm (wpAny_of_wpK _ _ _ _ (by have := h _ M.drew; simpa using this))

theorem k_read {f : Nat} {listed listed' : Array Bool} (i : Nat) (S : Sees n a L) (hi : ops[i]? = some o) (hg : gd ops L o = some true) (hd : o.dst = some d) (hn : Nat.blt d n = true) (hst : readB md ops nk listed i = true) (hl : listed.setIfInBounds i true = listed')
    (hQ : ∀ c (d : Option Tmp) (u : Value) (a : Act) w, Q (.panic c) (a.put d u) w → Q (.panic c) a w) (hy : ∀ W, Below w.heap.size w W → Yields P a o W v) (k : ∀ a, Sees n a ((d, v) :: L) → wpK P md ops nk Q f listed' a w) : wpK P md ops nk Q (f + 1) listed a w := by
  simp only [readB, Bool.and_eq_true] at hst
  obtain ⟨⟨⟨h1, h2⟩, h3⟩, h4⟩ := hst
  refine wpK_first hi (Region.noSelect_spec h1) (fun c a w h => hQ c _ _ a w h) f listed a w (closed_of h3) (fun j oj => freeK_spec hi h4 j oj) (by simpa using h2) (.inl ⟨gd_spec S hg, hy⟩) ?_
  rw [hl, hd]
  exact k _ (S.put hn v)
theorem k_pure {f : Nat} {listed listed' : Array Bool} (i : Nat) (S : Sees n a L) (hi : ops[i]? = some o) (hg : gd ops L o = some true) (hd : o.dst = some d) (hn : Nat.blt d n = true) (hst : readB md ops [] listed i = true) (hl : listed.setIfInBounds i true = listed')
    (hQ : ∀ c (d : Option Tmp) (u : Value) (a : Act) w, Q (.panic c) (a.put d u) w → Q (.panic c) a w) (hy : ∀ W, Yields P a o W v) (k : ∀ a, Sees n a ((d, v) :: L) → wpK P md ops nk Q f listed' a w) : wpK P md ops nk Q (f + 1) listed a w := by
  simp only [readB, Bool.and_eq_true] at hst
  obtain ⟨⟨⟨h1, h2⟩, h3⟩, h4⟩ := hst
  refine wpK_firstP hi (Region.noSelect_spec h1) (fun c a w h => hQ c _ _ a w h) f listed a w (closed_of h3) (fun j oj p1 p2 p3 p4 => (freeK_spec hi h4 j oj p1 p2 p3 p4).1) (by simpa using h2) (.inl ⟨gd_spec S hg, fun W _ => hy W⟩) ?_
  rw [hl, hd]
  exact k _ (S.put hn v)
theorem k_no {f : Nat} {listed listed' : Array Bool} (i : Nat) (S : Sees n a L) (hi : ops[i]? = some o) (hg : gd ops L o = some false) (hd : o.dst = some d) (hn : Nat.blt d n = true) (hst : readB md ops [] listed i = true) (hl : listed.setIfInBounds i true = listed')
    (hQ : ∀ c (d : Option Tmp) (u : Value) (a : Act) w, Q (.panic c) (a.put d u) w → Q (.panic c) a w) (k : ∀ a, Sees n a ((d, undef) :: L) → wpK P md ops nk Q f listed' a w) : wpK P md ops nk Q (f + 1) listed a w := by
  simp only [readB, Bool.and_eq_true] at hst
  obtain ⟨⟨⟨h1, h2⟩, h3⟩, h4⟩ := hst
  refine wpK_firstP hi (Region.noSelect_spec h1) (fun c a w h => hQ c _ _ a w h) f listed a w (closed_of h3) (fun j oj p1 p2 p3 p4 => (freeK_spec hi h4 j oj p1 p2 p3 p4).1) (by simpa using h2) (.inr ⟨gd_spec S hg, rfl⟩) ?_
  rw [hl, hd]
  exact k _ (S.put hn undef)
theorem k_end {listed : Array Bool} (hr : (Region.ready md ops listed).isEmpty = true) (h : Q .normal a w) : wpK P md ops nk Q 0 listed a w := ⟨by simpa using hr, h⟩

theorem wpOp_of_list {i : Nat} {K : Act → World → Prop} (hi : ops[i]? = some o) (h : wpList P ops (Exit.then K Q) [o] a w) : wpOp P ops Q i K a w := by
  unfold wpList at h
  unfold wpOp
  simp only [hi]
  have hlets : LetsOut (Exit.then K Q) → LetsOut Q := fun ⟨a, w, h⟩ => ⟨a, w, h⟩
  split
  · rename_i hw
    rw [if_pos hw] at h
    rcases h with h | ⟨h1, h2⟩
    · refine .inl ?_
      unfold Oper.wp at *
      generalize (execOp a.eval o).run P w = r at *
      cases r with
      | ok x w' =>
        cases x <;> simp only [Oper.upon] at h ⊢
        case enter f args =>
          refine Calls.mono h fun e w'' he => ?_
          cases e with
          | returned u => exact he
          | panicked c => exact he
          | outgrown => exact hlets he
        all_goals exact h
      | halt x w' =>
        cases x <;> simp only [Oper.upon] at h ⊢
        case panic u => exact h
    · exact .inr ⟨h1, hlets h2⟩
  · rename_i hw
    rw [if_neg hw] at h
    exact h
/-- one operation may come next, no other -/
theorem k_one {f : Nat} {listed listed' : Array Bool} (i : Nat) (hi : ops[i]? = some o) (hr : Nat.beq (Region.ready md ops listed).length 1 && (Region.ready md ops listed).contains i = true) (hl : listed.setIfInBounds i true = listed')
    (h : wpList P ops (Exit.then (fun a' w' => (nk.contains i = false → Below w.heap.size w w') ∧ wpK P md ops nk Q f listed' a' w') Q) [o] a w) : wpK P md ops nk Q (f + 1) listed a w := by
  have hr' : Region.ready md ops listed = [i] := by
    simp only [Bool.and_eq_true] at hr
    have h1 := Nat.eq_of_beq_eq_true hr.1
    have h2 : i ∈ Region.ready md ops listed := by simpa using hr.2
    obtain ⟨x, hx⟩ := List.length_eq_one_iff.1 h1
    rw [hx] at h2 ⊢
    simp at h2; rw [h2]
  refine ⟨fun h => (by rw [hr'] at h; cases h), fun j hj => ?_⟩
  rw [hr'] at hj
  obtain rfl : j = i := by simpa using hj
  rw [hl]
  exact wpOp_of_list hi h
/-- two may come next -/
theorem k_two {f : Nat} {listed l1 l2 : Array Bool} {o1 o2 : Oper} (i j : Nat) (hi : ops[i]? = some o1) (hj : ops[j]? = some o2) (hr : decide (Region.ready md ops listed = [i, j]) = true) (hl1 : listed.setIfInBounds i true = l1) (hl2 : listed.setIfInBounds j true = l2)
    (h1 : wpList P ops (Exit.then (fun a' w' => (nk.contains i = false → Below w.heap.size w w') ∧ wpK P md ops nk Q f l1 a' w') Q) [o1] a w)
    (h2 : wpList P ops (Exit.then (fun a' w' => (nk.contains j = false → Below w.heap.size w w') ∧ wpK P md ops nk Q f l2 a' w') Q) [o2] a w) : wpK P md ops nk Q (f + 1) listed a w := by
  have hr' := of_decide_eq_true hr
  refine ⟨fun h => (by rw [hr'] at h; cases h), fun k hk => ?_⟩
  rw [hr'] at hk
  simp only [List.mem_cons, List.not_mem_nil, or_false] at hk
  rcases hk with rfl | rfl
  · rw [hl1]; exact wpOp_of_list hi h1
  · rw [hl2]; exact wpOp_of_list hj h2
/-- three may come next -/
theorem k_three {f : Nat} {listed l1 l2 l3 : Array Bool} {o1 o2 o3 : Oper} (i j m : Nat) (hi : ops[i]? = some o1) (hj : ops[j]? = some o2) (hm : ops[m]? = some o3) (hr : decide (Region.ready md ops listed = [i, j, m]) = true) (hl1 : listed.setIfInBounds i true = l1) (hl2 : listed.setIfInBounds j true = l2) (hl3 : listed.setIfInBounds m true = l3)
    (h1 : wpList P ops (Exit.then (fun a' w' => (nk.contains i = false → Below w.heap.size w w') ∧ wpK P md ops nk Q f l1 a' w') Q) [o1] a w)
    (h2 : wpList P ops (Exit.then (fun a' w' => (nk.contains j = false → Below w.heap.size w w') ∧ wpK P md ops nk Q f l2 a' w') Q) [o2] a w)
    (h3 : wpList P ops (Exit.then (fun a' w' => (nk.contains m = false → Below w.heap.size w w') ∧ wpK P md ops nk Q f l3 a' w') Q) [o3] a w) : wpK P md ops nk Q (f + 1) listed a w := by
  have hr' := of_decide_eq_true hr
  refine ⟨fun h => (by rw [hr'] at h; cases h), fun k hk => ?_⟩
  rw [hr'] at hk
  simp only [List.mem_cons, List.not_mem_nil, or_false] at hk
  rcases hk with rfl | rfl | rfl
  · rw [hl1]; exact wpOp_of_list hi h1
  · rw [hl2]; exact wpOp_of_list hj h2
  · rw [hl3]; exact wpOp_of_list hm h3

end Go.Proofs.Ytcpobgjoicadjaa
