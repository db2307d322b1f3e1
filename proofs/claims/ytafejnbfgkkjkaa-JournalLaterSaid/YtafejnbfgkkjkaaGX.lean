/-
  The second walk: a region that draws its order. What only reads is taken first, in the order of the text; of what writes, makes memory or calls, each that may come next is followed.
-/
import Derived.Test.YtafejnbfgkkjkaaGV
namespace Go.Proofs.Ytafejnbfgkkjkaa
open Go.RowKit Go.Sort
variable {ds : List Deferred}

variable {P : Program} {ops : Array Oper} {Q : Exit → Act → World → Prop} {md : Region.Mode} {nk : List Nat}

/-- whatever order is picked from here on; an operation that is not among nk leaves what lay as it lay -/
def wpK (P : Program) (md : Region.Mode) (ops : Array Oper) (nk : List Nat) (Q : Exit → Act → World → Prop) : Nat → Array Bool → Act → World → Prop
  | 0, listed, a, w => Region.ready md ops listed = [] ∧ Q .normal a w
  | f + 1, listed, a, w => (Region.ready md ops listed = [] → Q .normal a w) ∧
    ∀ i ∈ Region.ready md ops listed, wpOp P ops Q i (fun a' w' => (nk.contains i = false → Below w.heap.size w w') ∧ wpK P md ops nk Q f (listed.setIfInBounds i true) a' w') a w

theorem wpAny_of_wpK : ∀ (f : Nat) (listed : Array Bool) (a : Act) (w : World), wpK P md ops nk Q f listed a w → wpAny P md ops Q f listed a w
  | 0, _, _, _, h => h
  | f + 1, _, _, _, h => ⟨h.1, fun i hi => wpOp_mono (fun a' w' h' => wpAny_of_wpK f _ a' w' h'.2) (h.2 i hi)⟩

/-- one value in all these worlds -/
def YieldsB (P : Program) (ops : Array Oper) (C : World → Prop) (o : Oper) (v : Value) (a : Act) : Prop :=
  (Region.wanted o (yielded ops a.tmps) = true ∧ ∀ W, C W → (execOp a.eval o).run P W = .ok (.value v) W) ∨ (Region.wanted o (yielded ops a.tmps) = false ∧ v = undef)

theorem YieldsB.wpOp {i : Nat} {o : Oper} {v : Value} {a : Act} {w : World} {C : World → Prop} (hi : ops[i]? = some o) (hy : YieldsB P ops C o v a) (hc : C w) {K : Act → World → Prop} (h : K (a.put o.dst v) w) : wpOp P ops Q i K a w := by
  unfold Go.wpOp
  simp only [hi]
  rcases hy with ⟨hw, hv⟩ | ⟨hw, rfl⟩
  · simp only [hw, if_true, Oper.wp, hv w hc, Oper.upon]; exact .inl h
  · simp only [hw, Bool.false_eq_true, if_false]; exact h
theorem YieldsB.of_same {o : Oper} {v : Value} {a a' : Act} {C : World → Prop} (hy : YieldsB P ops C o v a) (he : execOp a'.eval o = execOp a.eval o)
    (hw : Region.wanted o (yielded ops a'.tmps) = Region.wanted o (yielded ops a.tmps)) : YieldsB P ops C o v a' := by
  unfold YieldsB at *
  rw [he, hw]
  exact hy
theorem YieldsB.later {o : Oper} {v : Value} {a : Act} {C C' : World → Prop} (hy : YieldsB P ops C o v a) (hb : ∀ W, C' W → C W) : YieldsB P ops C' o v a := by
  rcases hy with ⟨hw, hv⟩ | h
  · exact .inl ⟨hw, fun W hW => hv W (hb W hW)⟩
  · exact .inr h

/-- an operation's value may be in its slot already -/
theorem wpOp_putB {j : Nat} {oi oj : Oper} {v : Value} (hj : ops[j]? = some oj) (hap : oi.apart ops oj = true)
    (hsi : ∀ cs b, oi.op ≠ .select cs b) (hsj : ∀ cs b, oj.op ≠ .select cs b)
    (hQ : ∀ c a w, Q (.panic c) (a.put oi.dst v) w → Q (.panic c) a w) {K : Act → World → Prop} {a : Act} {w : World} {C : World → Prop}
    (hy : YieldsB P ops C oi v a) (h : wpOp P ops Q j K (a.put oi.dst v) w) :
    wpOp P ops Q j (fun a' w' => YieldsB P ops C oi v a' ∧ K (a'.put oi.dst v) w') a w := by
  obtain ⟨h1, h2, h3⟩ := Oper.apart_spec hap
  have keep : ∀ (a : Act), YieldsB P ops C oi v a → ∀ u, YieldsB P ops C oi v (a.put oj.dst u) := fun a hy u =>
    hy.of_same (execOp_put oi hsi a oj.dst u h3) (wanted_put oi a oj.dst u h3)
  have keepD : ∀ d, YieldsB P ops C oi v { a with defers := d :: a.defers } := fun d => hy.of_same rfl rfl
  unfold wpOp at *
  simp only [hj] at *
  rw [wanted_put oj a oi.dst v h1] at h
  split
  · rename_i hw
    simp only [hw, if_true] at h
    rcases h with h | ⟨hasks, hlets⟩
    case inr => exact .inr ⟨by unfold Oper.asks at *; rw [execOp_put oj hsj a oi.dst v h1] at hasks; exact hasks, hlets⟩
    refine .inl ?_
    unfold Oper.wp at *
    rw [execOp_put oj hsj a oi.dst v h1] at h
    generalize (execOp a.eval oj).run P w = r at *
    cases r with
    | ok n w' =>
      cases n <;> simp only [Oper.upon] at h ⊢
      case value u => exact ⟨keep a hy u, by rw [← Act.put_comm a v u h2]; exact h⟩
      case skip => exact ⟨keep a hy _, by rw [← Act.put_comm a v undef h2]; exact h⟩
      case defer d =>
        refine ⟨keep _ (keepD d) _, ?_⟩
        rw [← Act.put_comm _ v undef h2, ← Act.put_defers]
        exact h
      case enter f args =>
        refine Calls.mono h fun e w'' he => ?_
        cases e with
        | returned u => exact ⟨keep a hy u, by rw [← Act.put_comm a v u h2]; exact he⟩
        | panicked c => exact hQ _ _ _ he
        | outgrown => exact he
      case row row args => exact Rows.mono h fun u w'' he => ⟨keep a hy u, by rw [← Act.put_comm a v u h2]; exact he⟩
    | halt x w' =>
      cases x <;> simp only [Oper.upon] at h ⊢
      case panic u => exact hQ _ _ _ h
  · rename_i hw
    simp only [hw] at h
    exact ⟨keep a hy _, by rw [← Act.put_comm a v undef h2]; exact h⟩

/-- does j wait for i, through others? -/
def waitsT (md : Region.Mode) (ops : Array Oper) : Nat → Nat → Nat → Bool
  | 0, _, _ => false
  | f + 1, j, i => match ops[j]? with
    | none => false
    | some o => o.after.any fun e => Region.binds md e && (e.on == i || waitsT md ops f e.on i)

/-- what is listed has all listed that it waits for -/
def closedB (md : Region.Mode) (ops : Array Oper) (listed : Array Bool) : Bool :=
  (List.range ops.size).all fun j => !listed.getD j false || match ops[j]? with
    | none => true
    | some o => o.after.all fun e => !Region.binds md e || listed.getD e.on false
def Closed (md : Region.Mode) (ops : Array Oper) (listed : Array Bool) : Prop :=
  ∀ j o, ops[j]? = some o → listed.getD j false = true → ∀ e ∈ o.after, Region.binds md e = true → listed.getD e.on false = true
theorem closed_of {listed : Array Bool} (h : closedB md ops listed = true) : Closed md ops listed := fun j o hj hl e he hb => by
  unfold closedB at h
  have h1 := List.all_eq_true.1 h j (List.mem_range.2 (Array.getElem?_eq_some_iff.1 hj).1)
  simp only [hl, Bool.not_true, Bool.false_or, hj] at h1
  have h2 := Array.all_eq_true_iff_forall_mem.1 h1 e he
  simpa [hb] using h2
theorem Closed.set {listed : Array Bool} {j : Nat} (h : Closed md ops listed) (hj : j ∈ Region.ready md ops listed) : Closed md ops (listed.setIfInBounds j true) := fun k o hk hl e he hb => by
  by_cases hjk : j = k
  · subst hjk
    obtain ⟨_, o', ho', hall⟩ := mem_ready.1 hj
    rw [ho'] at hk; cases hk
    exact getD_set_true (hall e he hb)
  · rw [getD_set_ne false hjk] at hl
    exact getD_set_true (h k o hk hl e he hb)
theorem waitsT_listed {listed : Array Bool} (hc : Closed md ops listed) {i : Nat} : ∀ (f j : Nat) (o : Oper), ops[j]? = some o → (∀ e ∈ o.after, Region.binds md e = true → listed.getD e.on false = true) → waitsT md ops f j i = true → listed.getD i false = true
  | 0, j, o, _, _, h => by simp [waitsT] at h
  | f + 1, j, o, hj, hall, h => by
    unfold waitsT at h
    simp only [hj] at h
    obtain ⟨e, he, hb⟩ := Array.any_eq_true'.1 h
    simp only [Bool.and_eq_true, Bool.or_eq_true, beq_iff_eq] at hb
    obtain ⟨hb1, hb2⟩ := hb
    rcases hb2 with rfl | hw
    · exact hall e he hb1
    · have hl := hall e he hb1
      cases ho : ops[e.on]? with
      | none => cases f <;> simp [waitsT, ho] at hw
      | some o' => exact waitsT_listed hc f e.on o' ho (hc e.on o' ho hl) hw

/-- may i be taken first? -/
def freeK (md : Region.Mode) (ops : Array Oper) (nk : List Nat) (listed : Array Bool) (i : Nat) : Bool :=
  match ops[i]? with
  | none => false
  | some oi => (List.range ops.size).all fun j => j == i || listed.getD j true || match ops[j]? with
      | some oj => oj.after.any (fun e => Region.binds md e && e.on == i) || (oi.apart ops oj && (!nk.contains j || waitsT md ops ops.size j i))
      | none => true
def readB (md : Region.Mode) (ops : Array Oper) (nk : List Nat) (listed : Array Bool) (i : Nat) : Bool :=
  Region.noSelect ops && (Region.ready md ops listed).contains i && closedB md ops listed && freeK md ops nk listed i

theorem freeK_spec {i : Nat} {oi : Oper} {listed : Array Bool} (hi : ops[i]? = some oi) (h : freeK md ops nk listed i = true) (j : Nat) (oj : Oper)
    (hj : ops[j]? = some oj) (hne : j ≠ i) (hun : listed.getD j true = false) (hno : ∀ e ∈ oj.after, Region.binds md e = true → e.on ≠ i) :
    oi.apart ops oj = true ∧ (nk.contains j = false ∨ waitsT md ops ops.size j i = true) := by
  simp only [freeK, hi, List.all_eq_true, List.mem_range] at h
  have h1 := h j (Array.getElem?_eq_some_iff.1 hj).1
  simp only [hj, Bool.or_eq_true, beq_iff_eq, hne, false_or, hun, Bool.false_eq_true, Bool.and_eq_true, Bool.not_eq_true'] at h1
  rcases h1 with h1 | h1
  · obtain ⟨e, he, hb⟩ := Array.any_eq_true'.1 h1
    simp only [Bool.and_eq_true, beq_iff_eq] at hb
    exact absurd hb.2 (hno e he hb.1)
  · exact h1

theorem getD_false_of_true {listed : Array Bool} {i : Nat} (h : listed.getD i true = false) : listed.getD i false = false := by
  rcases Nat.lt_or_ge i listed.size with h' | h'
  · simp [h'] at h ⊢; exact h
  · simp [Array.getElem?_eq_none h'] at h

theorem wpK_first {i : Nat} {oi : Oper} {v : Value} (hi : ops[i]? = some oi) (hsel : ∀ (j : Nat) (o : Oper) cs b, ops[j]? = some o → o.op ≠ .select cs b)
    (hQ : ∀ c a w, Q (.panic c) (a.put oi.dst v) w → Q (.panic c) a w) :
    ∀ (fuel : Nat) (listed : Array Bool) (a : Act) (w : World), Closed md ops listed →
      (∀ j oj, ops[j]? = some oj → j ≠ i → listed.getD j true = false → (∀ e ∈ oj.after, Region.binds md e = true → e.on ≠ i) → oi.apart ops oj = true ∧ (nk.contains j = false ∨ waitsT md ops ops.size j i = true)) →
      i ∈ Region.ready md ops listed → YieldsB P ops (fun W => Below w.heap.size w W) oi v a →
      wpK P md ops nk Q fuel (listed.setIfInBounds i true) (a.put oi.dst v) w → wpK P md ops nk Q (fuel + 1) listed a w := by
  intro fuel
  induction fuel with
  | zero =>
    intro listed a w hcl _ hr hy H
    refine ⟨fun h => (by rw [h] at hr; cases hr), fun j hj => ?_⟩
    by_cases hji : j = i
    · subst hji; exact hy.wpOp hi (ext_refl w) ⟨fun _ => ext_refl w, H⟩
    · have := ready_mono hj hji
      rw [H.1] at this
      cases this
  | succ fuel ih =>
    intro listed a w hcl hfree hr hy H
    refine ⟨fun h => (by rw [h] at hr; cases hr), fun j hj => ?_⟩
    by_cases hji : j = i
    · subst hji; exact hy.wpOp hi (ext_refl w) ⟨fun _ => ext_refl w, H⟩
    · have h1 := H.2 j (ready_mono hj hji)
      obtain ⟨hjun, oj, hoj, hall⟩ := mem_ready.1 hj
      have hin := getD_false_of_true (mem_ready.1 hr).1
      have hnot : ∀ e ∈ oj.after, Region.binds md e = true → e.on ≠ i := fun e he hb heq => by
        have h1 := hall e he hb
        rw [heq, hin] at h1; cases h1
      obtain ⟨hap, hkw⟩ := hfree j oj hoj hji hjun hnot
      have hkeep : nk.contains j = false := by
        rcases hkw with h | h
        · exact h
        · have := waitsT_listed hcl _ j oj hoj hall h
          rw [hin] at this; cases this
      have h2 := wpOp_putB hoj hap (fun cs b => hsel i oi cs b hi) (fun cs b => hsel j oj cs b hoj) hQ hy h1
      have hfree' : ∀ k ok, ops[k]? = some ok → k ≠ i → (listed.setIfInBounds j true).getD k true = false →
          (∀ e ∈ ok.after, Region.binds md e = true → e.on ≠ i) → oi.apart ops ok = true ∧ (nk.contains k = false ∨ waitsT md ops ops.size k i = true) := fun k ok hk hki hun hno => by
        refine hfree k ok hk hki ?_ hno
        by_cases hjk : j = k
        · subst hjk; exact hjun
        · rw [getD_set_ne true hjk] at hun; exact hun
      refine wpOp_mono (fun a' w' h3 => ⟨h3.2.1, ih (listed.setIfInBounds j true) a' w' (hcl.set hj) hfree' (ready_mono hr (Ne.symm hji)) (h3.1.later fun W hW => ext_trans (h3.2.1 hkeep) hW) ?_⟩) h2
      rw [Array.setIfInBounds_comm _ _ hji]
      exact h3.2.2

theorem wpK_firstP {i : Nat} {oi : Oper} {v : Value} (hi : ops[i]? = some oi) (hsel : ∀ (j : Nat) (o : Oper) cs b, ops[j]? = some o → o.op ≠ .select cs b)
    (hQ : ∀ c a w, Q (.panic c) (a.put oi.dst v) w → Q (.panic c) a w) :
    ∀ (fuel : Nat) (listed : Array Bool) (a : Act) (w : World), Closed md ops listed →
      (∀ j oj, ops[j]? = some oj → j ≠ i → listed.getD j true = false → (∀ e ∈ oj.after, Region.binds md e = true → e.on ≠ i) → oi.apart ops oj = true) →
      i ∈ Region.ready md ops listed → YieldsB P ops (fun _ => True) oi v a →
      wpK P md ops nk Q fuel (listed.setIfInBounds i true) (a.put oi.dst v) w → wpK P md ops nk Q (fuel + 1) listed a w := by
  intro fuel
  induction fuel with
  | zero =>
    intro listed a w hcl _ hr hy H
    refine ⟨fun h => (by rw [h] at hr; cases hr), fun j hj => ?_⟩
    by_cases hji : j = i
    · subst hji; exact hy.wpOp hi trivial ⟨fun _ => ext_refl w, H⟩
    · have := ready_mono hj hji
      rw [H.1] at this
      cases this
  | succ fuel ih =>
    intro listed a w hcl hfree hr hy H
    refine ⟨fun h => (by rw [h] at hr; cases hr), fun j hj => ?_⟩
    by_cases hji : j = i
    · subst hji; exact hy.wpOp hi trivial ⟨fun _ => ext_refl w, H⟩
    · have h1 := H.2 j (ready_mono hj hji)
      obtain ⟨hjun, oj, hoj, hall⟩ := mem_ready.1 hj
      have hin := getD_false_of_true (mem_ready.1 hr).1
      have hnot : ∀ e ∈ oj.after, Region.binds md e = true → e.on ≠ i := fun e he hb heq => by
        have h1 := hall e he hb
        rw [heq, hin] at h1; cases h1
      have hap := hfree j oj hoj hji hjun hnot
      have h2 := wpOp_putB hoj hap (fun cs b => hsel i oi cs b hi) (fun cs b => hsel j oj cs b hoj) hQ hy h1
      have hfree' : ∀ k ok, ops[k]? = some ok → k ≠ i → (listed.setIfInBounds j true).getD k true = false →
          (∀ e ∈ ok.after, Region.binds md e = true → e.on ≠ i) → oi.apart ops ok = true := fun k ok hk hki hun hno => by
        refine hfree k ok hk hki ?_ hno
        by_cases hjk : j = k
        · subst hjk; exact hjun
        · rw [getD_set_ne true hjk] at hun; exact hun
      refine wpOp_mono (fun a' w' h3 => ⟨h3.2.1, ih (listed.setIfInBounds j true) a' w' (hcl.set hj) hfree' (ready_mono hr (Ne.symm hji)) h3.1 ?_⟩) h2
      rw [Array.setIfInBounds_comm _ _ hji]
      exact h3.2.2

/-! ### the rules of the walk -/
variable {n d : Nat} {a : Act} {L : List (Nat × Value)} {w w0 : World} {v : Value} {o : Oper} {H : List Ent}

theorem wp_regionK {id : Nat} {l : List Oper} (nk : List Nat) (listed : Array Bool) (hl : Array.replicate l.length false = listed) (M : Mem w0 w H) (hm : P.follows .mixedOrders = true)
    (h : ∀ w, Mem w0 w H → wpK P .any l.toArray nk Q l.length listed a w) : (Code.region id l.toArray true).wp P Q a w := by
  subst hl
  exact wp_region_any hm (wpAny_of_wpK _ _ _ _ (by have := h _ M.drew; simpa using this))

theorem k_read {f : Nat} {listed listed' : Array Bool} (i : Nat) (S : SeesD ds n a L) (hi : ops[i]? = some o) (hg : gd ops L o = some true) (hd : o.dst = some d) (hn : Nat.blt d n = true) (hst : readB md ops nk listed i = true) (hl : listed.setIfInBounds i true = listed')
    (hQ : ∀ c (d : Option Tmp) (u : Value) (a : Act) w, Q (.panic c) (a.put d u) w → Q (.panic c) a w) (hy : ∀ W, Below w.heap.size w W → Yields P a o W v) (k : ∀ a, SeesD ds n a ((d, v) :: L) → wpK P md ops nk Q f listed' a w) : wpK P md ops nk Q (f + 1) listed a w := by
  simp only [readB, Bool.and_eq_true] at hst
  obtain ⟨⟨⟨h1, h2⟩, h3⟩, h4⟩ := hst
  refine wpK_first hi (Region.noSelect_spec h1) (fun c a w h => hQ c _ _ a w h) f listed a w (closed_of h3) (fun j oj => freeK_spec hi h4 j oj) (by simpa using h2) (.inl ⟨gd_spec S hg, hy⟩) ?_
  rw [hl, hd]
  exact k _ (S.put hn v)
theorem k_pure {f : Nat} {listed listed' : Array Bool} (i : Nat) (S : SeesD ds n a L) (hi : ops[i]? = some o) (hg : gd ops L o = some true) (hd : o.dst = some d) (hn : Nat.blt d n = true) (hst : readB md ops [] listed i = true) (hl : listed.setIfInBounds i true = listed')
    (hQ : ∀ c (d : Option Tmp) (u : Value) (a : Act) w, Q (.panic c) (a.put d u) w → Q (.panic c) a w) (hy : ∀ W, Yields P a o W v) (k : ∀ a, SeesD ds n a ((d, v) :: L) → wpK P md ops nk Q f listed' a w) : wpK P md ops nk Q (f + 1) listed a w := by
  simp only [readB, Bool.and_eq_true] at hst
  obtain ⟨⟨⟨h1, h2⟩, h3⟩, h4⟩ := hst
  refine wpK_firstP hi (Region.noSelect_spec h1) (fun c a w h => hQ c _ _ a w h) f listed a w (closed_of h3) (fun j oj p1 p2 p3 p4 => (freeK_spec hi h4 j oj p1 p2 p3 p4).1) (by simpa using h2) (.inl ⟨gd_spec S hg, fun W _ => hy W⟩) ?_
  rw [hl, hd]
  exact k _ (S.put hn v)
theorem k_no {f : Nat} {listed listed' : Array Bool} (i : Nat) (S : SeesD ds n a L) (hi : ops[i]? = some o) (hg : gd ops L o = some false) (hd : o.dst = some d) (hn : Nat.blt d n = true) (hst : readB md ops [] listed i = true) (hl : listed.setIfInBounds i true = listed')
    (hQ : ∀ c (d : Option Tmp) (u : Value) (a : Act) w, Q (.panic c) (a.put d u) w → Q (.panic c) a w) (k : ∀ a, SeesD ds n a ((d, undef) :: L) → wpK P md ops nk Q f listed' a w) : wpK P md ops nk Q (f + 1) listed a w := by
  simp only [readB, Bool.and_eq_true] at hst
  obtain ⟨⟨⟨h1, h2⟩, h3⟩, h4⟩ := hst
  refine wpK_firstP hi (Region.noSelect_spec h1) (fun c a w h => hQ c _ _ a w h) f listed a w (closed_of h3) (fun j oj p1 p2 p3 p4 => (freeK_spec hi h4 j oj p1 p2 p3 p4).1) (by simpa using h2) (.inr ⟨gd_spec S hg, rfl⟩) ?_
  rw [hl, hd]
  exact k _ (S.put hn undef)
theorem k_end {listed : Array Bool} (hr : (Region.ready md ops listed).isEmpty = true) (h : Q .normal a w) : wpK P md ops nk Q 0 listed a w := ⟨by simpa using hr, h⟩

theorem wpOp_of_list {i : Nat} {K : Act → World → Prop} (hi : ops[i]? = some o) (h : wpList P ops (Exit.then K Q) [o] a w) : wpOp P ops Q i K a w := by
  unfold wpList at h
  unfold wpOp
  simp only [hi]
  have hlets : LetsOut (Exit.then K Q) → LetsOut Q := fun ⟨a, w, h⟩ => ⟨a, w, h⟩
  split
  · rename_i hw
    rw [if_pos hw] at h
    rcases h with h | ⟨h1, h2⟩
    · refine .inl ?_
      unfold Oper.wp at *
      generalize (execOp a.eval o).run P w = r at *
      cases r with
      | ok x w' =>
        cases x <;> simp only [Oper.upon] at h ⊢
        case enter f args =>
          refine Calls.mono h fun e w'' he => ?_
          cases e with
          | returned u => exact he
          | panicked c => exact he
          | outgrown => exact hlets he
        all_goals exact h
      | halt x w' =>
        cases x <;> simp only [Oper.upon] at h ⊢
        case panic u => exact h
    · exact .inr ⟨h1, hlets h2⟩
  · rename_i hw
    rw [if_neg hw] at h
    exact h
/-- one operation may come next, no other -/
theorem k_one {f : Nat} {listed listed' : Array Bool} (i : Nat) (hi : ops[i]? = some o) (hr : Nat.beq (Region.ready md ops listed).length 1 && (Region.ready md ops listed).contains i = true) (hl : listed.setIfInBounds i true = listed')
    (h : wpList P ops (Exit.then (fun a' w' => (nk.contains i = false → Below w.heap.size w w') ∧ wpK P md ops nk Q f listed' a' w') Q) [o] a w) : wpK P md ops nk Q (f + 1) listed a w := by
  have hr' : Region.ready md ops listed = [i] := by
    simp only [Bool.and_eq_true] at hr
    have h1 := Nat.eq_of_beq_eq_true hr.1
    have h2 : i ∈ Region.ready md ops listed := by simpa using hr.2
    obtain ⟨x, hx⟩ := List.length_eq_one_iff.1 h1
    rw [hx] at h2 ⊢
    simp at h2; rw [h2]
  refine ⟨fun h => (by rw [hr'] at h; cases h), fun j hj => ?_⟩
  rw [hr'] at hj
  obtain rfl : j = i := by simpa using hj
  rw [hl]
  exact wpOp_of_list hi h
/-- two may come next -/
theorem k_two {f : Nat} {listed l1 l2 : Array Bool} {o1 o2 : Oper} (i j : Nat) (hi : ops[i]? = some o1) (hj : ops[j]? = some o2) (hr : decide (Region.ready md ops listed = [i, j]) = true) (hl1 : listed.setIfInBounds i true = l1) (hl2 : listed.setIfInBounds j true = l2)
    (h1 : wpList P ops (Exit.then (fun a' w' => (nk.contains i = false → Below w.heap.size w w') ∧ wpK P md ops nk Q f l1 a' w') Q) [o1] a w)
    (h2 : wpList P ops (Exit.then (fun a' w' => (nk.contains j = false → Below w.heap.size w w') ∧ wpK P md ops nk Q f l2 a' w') Q) [o2] a w) : wpK P md ops nk Q (f + 1) listed a w := by
  have hr' := of_decide_eq_true hr
  refine ⟨fun h => (by rw [hr'] at h; cases h), fun k hk => ?_⟩
  rw [hr'] at hk
  simp only [List.mem_cons, List.not_mem_nil, or_false] at hk
  rcases hk with rfl | rfl
  · rw [hl1]; exact wpOp_of_list hi h1
  · rw [hl2]; exact wpOp_of_list hj h2
/-- three may come next -/
theorem k_three {f : Nat} {listed l1 l2 l3 : Array Bool} {o1 o2 o3 : Oper} (i j m : Nat) (hi : ops[i]? = some o1) (hj : ops[j]? = some o2) (hm : ops[m]? = some o3) (hr : decide (Region.ready md ops listed = [i, j, m]) = true) (hl1 : listed.setIfInBounds i true = l1) (hl2 : listed.setIfInBounds j true = l2) (hl3 : listed.setIfInBounds m true = l3)
    (h1 : wpList P ops (Exit.then (fun a' w' => (nk.contains i = false → Below w.heap.size w w') ∧ wpK P md ops nk Q f l1 a' w') Q) [o1] a w)
    (h2 : wpList P ops (Exit.then (fun a' w' => (nk.contains j = false → Below w.heap.size w w') ∧ wpK P md ops nk Q f l2 a' w') Q) [o2] a w)
    (h3 : wpList P ops (Exit.then (fun a' w' => (nk.contains m = false → Below w.heap.size w w') ∧ wpK P md ops nk Q f l3 a' w') Q) [o3] a w) : wpK P md ops nk Q (f + 1) listed a w := by
  have hr' := of_decide_eq_true hr
  refine ⟨fun h => (by rw [hr'] at h; cases h), fun k hk => ?_⟩
  rw [hr'] at hk
  simp only [List.mem_cons, List.not_mem_nil, or_false] at hk
  rcases hk with rfl | rfl | rfl
  · rw [hl1]; exact wpOp_of_list hi h1
  · rw [hl2]; exact wpOp_of_list hj h2
  · rw [hl3]; exact wpOp_of_list hm h3

end Go.Proofs.Ytafejnbfgkkjkaa

namespace Go.Proofs.Ytafejnbfgkkjkaa
open Go.RowKit Go.Sort
variable {ds : List Deferred}

variable {P : Program} {ops : Array Oper} {Q : Exit → Act → World → Prop} {rest : List Oper} {n d : Nat} {a : Act} {L : List (Nat × Value)} {w w0 : World} {v : Value} {o : Oper} {H : List Ent}

/-- the lowest byte of a number -/
def byteOf (i : Int) : UInt8 := UInt8.ofNat (i % 256).toNat
theorem wrap_u8 (i : Int) : IntKind.u8.wrap i = ((byteOf i).toNat : Int) := by
  have h : (0 : Int) ≤ i % 256 := by omega
  have h2 : i % 256 < 256 := by omega
  simp only [IntKind.wrap, IntKind.bits, IntKind.signed, byteOf, UInt8.toNat_ofNat']
  simp
  omega
theorem y_to8 {x : Operand} {k : IntKind} {i : Int} {src dst : TypeId} (S : SeesD ds n a L) (hx : val L x = some (.int k i)) (hs : (P.underlying src).isSome = true) (hd : P.underlying dst = some (.int .u8)) {d : Option Tmp} {t : TypeId} {p : String} {e : Array Edge} {g : Option (Nat × Bool)} :
    Yields P a ⟨d, .convert src dst x, t, p, e, g⟩ w (.int .u8 ((byteOf i).toNat : Int)) := by
  have h := y_conv (P := P) (w := w) S hx hs hd (d := d) (t := t) (p := p) (e := e) (g := g)
  rw [wrap_u8] at h; exact h
/-- a smaller number as one of 64 bits -/
theorem y_to64 {x : Operand} {k : IntKind} {i : Int} {src dst : TypeId} (S : SeesD ds n a L) (hx : val L x = some (.int k i)) (hs : (P.underlying src).isSome = true) (hd : P.underlying dst = some (.int .i64)) (h : -9223372036854775808 ≤ i ∧ i ≤ 9223372036854775807) {d : Option Tmp} {t : TypeId} {p : String} {e : Array Edge} {g : Option (Nat × Bool)} :
    Yields P a ⟨d, .convert src dst x, t, p, e, g⟩ w (.int .i64 i) := by
  have h' := y_conv (P := P) (w := w) S hx hs hd (d := d) (t := t) (p := p) (e := e) (g := g)
  rw [IntWalk.i64_in _ h] at h'; exact h'
theorem y_shrN {x y : Operand} {yk : IntKind} {i j : Int} (S : SeesD ds n a L) (hx : val L x = some (.int .i64 i)) (hy : val L y = some (.int yk j)) (h : 0 ≤ j ∧ j ≤ 64)
    {d : Option Tmp} {xt yt t : TypeId} {p : String} {e : Array Edge} {g : Option (Nat × Bool)} : Yields P a ⟨d, .binOp .shr xt x y yt, t, p, e, g⟩ w (.int .i64 (i / 2 ^ j.toNat)) := by
  have h' := y_shr (P := P) (w := w) S hx hy h.1 (d := d) (xt := xt) (yt := yt) (t := t) (p := p) (e := e) (g := g)
  rw [show min j.toNat IntKind.i64.bits = j.toNat by simp only [IntKind.bits]; omega, Int.fdiv_eq_ediv_of_nonneg _ (Int.pow_nonneg (by omega))] at h'
  exact h'
theorem y_shlN {x y : Operand} {yk : IntKind} {i j : Int} (S : SeesD ds n a L) (hx : val L x = some (.int .i64 i)) (hy : val L y = some (.int yk j)) (h : 0 ≤ j ∧ j ≤ 64) (hr : -9223372036854775808 ≤ i * 2 ^ j.toNat ∧ i * 2 ^ j.toNat ≤ 9223372036854775807)
    {d : Option Tmp} {xt yt t : TypeId} {p : String} {e : Array Edge} {g : Option (Nat × Bool)} : Yields P a ⟨d, .binOp .shl xt x y yt, t, p, e, g⟩ w (.int .i64 (i * 2 ^ j.toNat)) := by
  have h' := y_shl (P := P) (w := w) S hx hy h.1 (d := d) (xt := xt) (yt := yt) (t := t) (p := p) (e := e) (g := g)
  rw [show min j.toNat IntKind.i64.bits = j.toNat by simp only [IntKind.bits]; omega, IntWalk.i64_in _ hr] at h'
  exact h'
theorem y_orN {x y : Operand} {i j : Nat} (S : SeesD ds n a L) (hx : val L x = some (.int .i64 (i : Int))) (hy : val L y = some (.int .i64 (j : Int))) (hi : i < 2 ^ 63) (hj : j < 2 ^ 63)
    {d : Option Tmp} {xt yt t : TypeId} {p : String} {e : Array Edge} {g : Option (Nat × Bool)} : Yields P a ⟨d, .binOp .or xt x y yt, t, p, e, g⟩ w (.int .i64 ((i ||| j : Nat) : Int)) := by
  refine y_int S hx hy ?_
  have hlt : i ||| j < 2 ^ 63 := Nat.or_lt_two_pow hi hj
  have e1 : (BitVec.ofInt 64 (i : Int) ||| BitVec.ofInt 64 (j : Int)).toNat = i ||| j := by
    rw [BitVec.ofInt_natCast, BitVec.ofInt_natCast, BitVec.toNat_or, BitVec.toNat_ofNat, BitVec.toNat_ofNat, Nat.mod_eq_of_lt (by omega), Nat.mod_eq_of_lt (by omega)]
  show some (Value.int .i64 (IntKind.i64.wrap (((BitVec.ofInt 64 (i : Int) ||| BitVec.ofInt 64 (j : Int) : BitVec 64).toNat : Nat) : Int))) = _
  rw [e1, IntWalk.i64_in _ (by omega)]

/-! ### an array cut -/
theorem y_sliceA {x : Operand} {b o t m sz : Nat} (S : SeesD ds n a L) (hE : arrayElem P t = some (m, sz)) (hx : val L x = some (.pointer (some ⟨b, o, none⟩)))
    {d : Option Tmp} {ty : TypeId} {p : String} {ed : Array Edge} {g : Option (Nat × Bool)} : Yields P a ⟨d, .slice t x none none none, ty, p, ed, g⟩ w (.slice (some ⟨b, o, none⟩) m m) := by
  obtain ⟨e, hu, inf, hinf, rfl⟩ := arrayElem_spec hE
  unfold Yields execOp
  simp only [Option.map_none, S.eval hx]
  have e0 : (⟨b, o, none⟩ : Addr).add 0 = ⟨b, o, none⟩ := rfl
  simp [Instr.sliceAt, Instr.sliceBounds, underlying, hu, Instr.sureAddr, sizeOf, typeInfo, hinf, e0, go_sem]
theorem y_sliceA02 {x hi : Operand} {b o t m sz : Nat} {j : Int} {k2 : IntKind} (S : SeesD ds n a L) (hE : arrayElem P t = some (m, sz)) (hx : val L x = some (.pointer (some ⟨b, o, none⟩))) (h2 : val L hi = some (.int k2 j)) (h : 0 ≤ j ∧ j ≤ m)
    {d : Option Tmp} {ty : TypeId} {p : String} {ed : Array Edge} {g : Option (Nat × Bool)} : Yields P a ⟨d, .slice t x none (some hi) none, ty, p, ed, g⟩ w (.slice (some ⟨b, o, none⟩) j.toNat m) := by
  obtain ⟨e, hu, inf, hinf, rfl⟩ := arrayElem_spec hE
  unfold Yields execOp
  simp only [Option.map_none, Option.map_some, S.eval hx, S.eval h2]
  have e0 : (⟨b, o, none⟩ : Addr).add 0 = ⟨b, o, none⟩ := rfl
  simp [Instr.sliceAt, Instr.sliceBounds, Instr.sliceBound, asIntOf, underlying, hu, Instr.sureAddr, sizeOf, typeInfo, hinf, h, e0, go_sem]

/-! ### an array by value, one element -/
theorem y_indexV {x ix : Operand} {t m sz k : Nat} {cs es : List Value} {i : Int} {ki : IntKind} (S : SeesD ds n a L) (hE : arrayElem P t = some (m, sz)) (hT : ∀ e, P.underlying t = some (.array m e) → aggB P e = some k) (hx : val L x = some (.agg cs.toArray)) (hi : val L ix = some (.int ki i)) (h : 0 ≤ i ∧ i < m) (hes : cutL cs (i.toNat * sz) k = some es)
    {d : Option Tmp} {ty : TypeId} {p : String} {ed : Array Edge} {g : Option (Nat × Bool)} : Yields P a ⟨d, .index t x ix, ty, p, ed, g⟩ w (.agg es.toArray) := by
  obtain ⟨e, hu, inf, hinf, rfl⟩ := arrayElem_spec hE
  obtain ⟨h1, i', hi', hs'⟩ := aggB_spec (hT e hu)
  rw [hinf] at hi'; cases hi'
  obtain ⟨hl, hg⟩ := cutL_spec _ _ _ _ hes
  have hex : cs.toArray.extract (i.toNat * inf.size) (i.toNat * inf.size + inf.size) = es.toArray := by
    apply Array.ext_getElem?
    intro j
    rw [Array.getElem?_extract]
    rcases Nat.lt_or_ge j k with hj | hj
    · have := hg j hj
      have hlt : i.toNat * inf.size + j < cs.length := by
        rcases Nat.lt_or_ge (i.toNat * inf.size + j) cs.length with h | h
        · exact h
        · rw [List.getElem?_eq_none h, List.getElem?_eq_getElem (by omega)] at this; cases this
      simp only [List.size_toArray, List.getElem?_toArray]
      rw [if_pos (by omega), this]
    · have : es.toArray[j]? = none := by simp; omega
      rw [this, if_neg (by omega)]
  unfold Yields execOp
  simp only [S.eval hx, S.eval hi]
  simp only [Instr.index, asIntOf, Sem.run_bind, Sem.run_pure, Result.andThen_ok]
  rw [show (underlying t).run P w = .ok (.array m e) w by simp [underlying, hu, go_sem]]
  simp only [Result.andThen_ok, h.1, h.2, and_self, if_true, Sem.run_bind, run_sizeOf hinf, part, h1, Sem.run_pure, hex]

/-! ### copy -/
theorem oneCell_of {us : List Value} (h : allOne us = true) : ∀ u ∈ us, u.oneCell' = true := allOne_spec h
/-- 'copy' into a block of one's own, from what reads as cs -/
theorem st_copy {t e lo hi b o dl dc m : Nat} {x : Value} {s y : Operand} {l cs us : List Value} {T : TypeId} (S : SeesD ds n a L) (M : Mem w0 w H) (pos : Nat) {d : Nat} {ty : TypeId} {p : String} {ed : Array Edge} {g : Option (Nat × Bool)}
    (hg : gd ops L ⟨some d, .call { callee := .builtin .copy, args := #[s, y], argTypes := #[t, t] }, ty, p, ed, g⟩ = some true) (hn : Nat.blt d n = true)
    (hE : sliceElem P t = some (e, 1)) (hs : val L s = some (.slice (some ⟨b, o, none⟩) dl dc)) (hy : val L y = some x) (hp : H[pos]? = some (.blk b l.toArray T)) (hx : Rd lo hi w 1 x m cs) (hus : cs.take dl = us) (h1 : allOne us = true) (hfit : o + us.length ≤ l.length)
    (kk : ∀ a w, SeesD ds n a ((d, .int .i64 (us.length : Int)) :: L) → Mem w0 w (H.set pos (.blk b (l.take o ++ us ++ l.drop (o + us.length)).toArray T)) → wpList P ops Q rest a w) :
    wpList P ops Q (⟨some d, .call { callee := .builtin .copy, args := #[s, y], argTypes := #[t, t] }, ty, p, ed, g⟩ :: rest) a w := by
  obtain ⟨hu, inf, hinf, hsz⟩ := sliceElem_spec hE
  have B := M.blk pos hp
  have hlen : us.length = Nat.min m dl := by
    rw [← hus, List.length_take, hx.1, Nat.mul_one, Nat.min_comm]
  obtain ⟨cs', hrun⟩ := run_builtin (P := P) (w := w) (b := .copy) (xs := [s, y]) (vs := [.slice (some ⟨b, o, none⟩) dl dc, x]) S (by simp [vals, hs, hy]) (d := some d) (ts := #[t, t]) (t := ty) (p := p) (e := ed) (g := g)
  rcases hx.2.2 with ⟨rfl, rfl⟩ | ⟨ad, cap, rfl, hc, hm, ha, hsp⟩
  · have hu0 : us = [] := List.eq_nil_of_length_eq_zero (by rw [hlen]; exact Nat.zero_min _)
    subst hu0
    have hr := run_copy_nil (P := P) w t t ty e ⟨b, o, none⟩ dl dc hu (by simp [hinf])
    refine st_w (v := .int .i64 0) (w' := w) S hg rfl hn ?_ fun a S' => kk a w S' ?_
    · rw [hrun]
      simp only [builtin, Sem.run_bind]
      rw [show [Value.slice (some ⟨b, o, none⟩) dl dc, .slice none 0 0].toArray = #[.slice (some ⟨b, o, none⟩) dl dc, .slice none 0 0] from rfl, hr]
      rfl
    · rw [show l.take o ++ [] ++ l.drop (o + ([] : List Value).length) = l by simp, show H.set pos (.blk b l.toArray T) = H from ?_]
      · exact M
      · obtain ⟨h1, h2⟩ := List.getElem?_eq_some_iff.1 hp
        rw [← h2, List.set_getElem_self]
  · have hsrc : ∀ j v, us[j]? = some v → w.cell? (ad.add j) = some v := fun j v hj => by
      have hcs : cs[j]? = some v := by
        rw [← hus] at hj
        have hlt := (List.getElem?_eq_some_iff.1 hj).1
        rw [List.getElem?_take_of_lt (by simp at hlt; omega)] at hj
        exact hj
      exact ha.addA (fun hne => (hsp (Nat.pos_of_ne_zero fun h0 => hne (List.eq_nil_of_length_eq_zero (by rw [hx.1, h0, Nat.zero_mul])))).1) j v hcs
    have hr := run_copy_row (P := P) w t t ty e b o dl dc ad m cap l.toArray T us hu (by simp [hinf, hsz]) B hlen hsrc (by simpa using hfit) (oneCell_of h1)
    refine st_w (v := .int .i64 (us.length : Int)) (w' := _) S hg rfl hn (by
      rw [hrun]
      simp only [builtin, Sem.run_bind]
      rw [show [Value.slice (some ⟨b, o, none⟩) dl dc, .slice (some ad) m cap].toArray = #[.slice (some ⟨b, o, none⟩) dl dc, .slice (some ad) m cap] from rfl, hr]
      rfl) fun a S' => kk a _ S' ?_
    exact M.change pos hp rfl rfl (setRow_heap w b l.toArray _ T _ B) (by simp [World.setRow]) rfl rfl rfl (fun k hk => setRow_other w b k _ (fun e => hk (by subst e; simp [Ent.lo, Ent.hi])))

end Go.Proofs.Ytafejnbfgkkjkaa

namespace Go.Proofs.Ytafejnbfgkkjkaa
open Go.RowKit Go.Sort
variable {ds : List Deferred}

variable {P : Program} {ops : Array Oper} {Q : Exit → Act → World → Prop} {rest : List Oper} {n d : Nat} {a : Act} {L : List (Nat × Value)} {w w0 : World} {v : Value} {o : Oper} {H : List Ent}

theorem Mem.appendG {t e sz by_ lo hi lo' hi' m k ty : Nat} {zc xs news : List Value} {u x : Value} (M : Mem w0 w H) (hI : sliceInfo P t = some (e, sz, by_, zc)) (hzs : zc.length = sz) (hu : Rd lo hi w sz u k xs) (hcap : capV u < k + m) (hx : Rd lo' hi' w sz x m news)
    (hb : (k + m) * by_ ≤ 140737488355328) (h63 : k + m ≤ maxLen) :
    ∃ v' w' l' h', (Builtin.append_ #[t, t] ty #[u, x]).run P w = .ok v' w' ∧ Mem w0 w' (rowE l' h' e sz v' (k + m) (xs ++ news) :: H) := by
  obtain ⟨hU, i, z, hi', hz, rfl, rfl, hzc⟩ := sliceInfo_spec hI
  have hzs' : z.cells.size = i.size := by rw [hzc]; simpa using hzs
  have hsmall : k + m ≤ 9223372036854775807 := by simp only [maxLen] at h63; omega
  have hlx : news.length = m * i.size := hx.1
  have hlen : (xs ++ news).length = (k + m) * i.size := by rw [List.length_append, hu.1, hlx, Nat.add_mul]
  have hku := hu.cap
  have grown : ∀ (old : Nat), Mem w0 (w.drew.alloc (.cells (xs.toArray ++ news.toArray ++ Builtin.zeroCells z.cells (grownCap w (k + m) old e - (k + m))) e))
      (rowE w.heap.size (w.heap.size + 1) e i.size (.slice (some ⟨w.heap.size, 0, none⟩) (k + m) (grownCap w (k + m) old e)) (k + m) (xs ++ news) :: H) := by
    intro old
    have hge := grownCap_ge w (k + m) old e
    have hcm : grownCap w (k + m) old e ≤ maxLen := grownCap_le_maxLen w (k + m) old e h63
    refine M.push (ext_alloc (ext_drew (ext_refl w)) _) _ (rowE_ok ⟨hlen, .inr ⟨w.heap.size, _, _, rfl, Nat.le_refl _, heap_alloc_new w.drew _, hge, hcm, ?_, ?_⟩⟩ (fun k hk => by simp [Value.ownBlock] at hk; omega)) (Nat.le_refl _) (by simp [rowE, Ent.hi])
    · simp only [Array.size_append, List.size_toArray, size_zeroCells, hzs', hu.1, hlx, ← Nat.add_mul]
      congr 1
      omega
    · simp only [Array.toList_append, List.append_assoc]
      rw [← List.append_assoc, ← hlen]
      exact List.take_left
  rcases hx.2.2 with ⟨rfl, rfl⟩ | ⟨ad', cap', rfl, hc', hcm', hat, hsp⟩
  · omega
  · have hnews := hat.addA (fun hne => (hsp (Nat.pos_of_ne_zero fun h0 => hne (List.eq_nil_of_length_eq_zero (by rw [hlx, h0, Nat.zero_mul])))).1)
    rcases hu.2.2 with ⟨rfl, rfl⟩ | ⟨ad, cap, rfl, hc, hcm, hau, hspu⟩
    · have hx0 : xs = [] := List.eq_nil_of_length_eq_zero (by simpa using hu.1)
      subst hx0
      simp only [capV] at hcap
      have hr := run_append_nil (P := P) w t ty e i z hU hi' hz ad' m cap' news hlx hnews (by omega) (by omega) (by have hb := hb; simp only [Nat.zero_add] at hb; omega)
      have hgr := grown 0
      simp only [Nat.zero_add, List.nil_append, Array.empty_append] at hgr ⊢
      exact ⟨_, _, _, _, hr, hgr⟩
    · simp only [capV] at hcap
      have holds := hau.addA (fun hne => (hspu (Nat.pos_of_ne_zero fun h0 => hne (List.eq_nil_of_length_eq_zero (by rw [hu.1, h0, Nat.zero_mul])))).1)
      have hr := run_append_grow (P := P) w t ty e i z hU hi' hz ad k cap xs hu.1 holds ad' m cap' news hlx hnews (by omega) (by omega) (growslice_fits (by omega) hb)
      exact ⟨_, _, _, _, hr, grown cap⟩

theorem st_appendG {t e sz by_ lo hi lo' hi' m k : Nat} {zc xs news : List Value} {u x : Value} {s y : Operand} (S : SeesD ds n a L) (M : Mem w0 w H) {d : Nat} {ty : TypeId} {p : String} {ed : Array Edge} {g : Option (Nat × Bool)}
    (hg : gd ops L ⟨some d, .call { callee := .builtin .append, args := #[s, y], argTypes := #[t, t] }, ty, p, ed, g⟩ = some true) (hn : Nat.blt d n = true)
    (hI : sliceInfo P t = some (e, sz, by_, zc)) (hzs : zc.length = sz) (hs : val L s = some u) (hy : val L y = some x) (hu : Rd lo hi w sz u k xs) (hcap : capV u < k + m) (hx : Rd lo' hi' w sz x m news)
    (hb : (k + m) * by_ ≤ 140737488355328) (h63 : k + m ≤ maxLen)
    (kk : ∀ a w v' l' h', SeesD ds n a ((d, v') :: L) → Mem w0 w (rowE l' h' e sz v' (k + m) (xs ++ news) :: H) → wpList P ops Q rest a w) :
    wpList P ops Q (⟨some d, .call { callee := .builtin .append, args := #[s, y], argTypes := #[t, t] }, ty, p, ed, g⟩ :: rest) a w := by
  obtain ⟨v', w', l', h', hr, M'⟩ := M.appendG (ty := ty) hI hzs hu hcap hx hb h63
  refine st_w (v := v') (w' := w') S hg rfl hn ?_ fun a S' => kk a w' v' l' h' S' M'
  obtain ⟨cs, h⟩ := run_builtin (P := P) (w := w) (b := .append) (xs := [s, y]) (vs := [u, x]) S (by simp [vals, hs, hy]) (d := some d) (ts := #[t, t]) (t := ty) (p := p) (e := ed) (g := g)
  rw [h]
  simp only [builtin, Sem.run_bind]
  rw [show [u, x].toArray = #[u, x] from rfl, hr]
  rfl

/-! ### arrays built -/
def buildInfoA (P : Program) (t : TypeId) : Option (Nat × List Value) :=
  match P.info? t with
  | some i => match i.zero with
    | some z => match P.underlying t with
      | some (.array _ e) => match P.info? e with
        | some ie => some (ie.size, z.cells.toList)
        | none => none
      | _ => none
    | none => none
  | none => none
theorem y_buildA {T : TypeId} {sz : Nat} {ps : List (Nat × Operand)} {z vs cs : List Value} (S : SeesD ds n a L) (hB : buildInfoA P T = some (sz, z)) (hv : vals L (ps.map (·.2)) = some vs) (hf : fillL (fun i => some (i * sz, sz)) z ((ps.map (·.1)).zip vs) = some cs)
    {d : Option Tmp} {t : TypeId} {p : String} {e : Array Edge} {g : Option (Nat × Bool)} : Yields P a ⟨d, .build T ps.toArray, t, p, e, g⟩ w (.agg cs.toArray) := by
  unfold buildInfoA at hB
  cases hi : P.info? T with
  | none => simp [hi] at hB
  | some i =>
    simp only [hi] at hB
    cases hz : i.zero with
    | none => simp [hz] at hB
    | some zv =>
      simp only [hz] at hB
      cases hu : P.underlying T with
      | none => simp [hu] at hB
      | some td =>
        rw [hu] at hB
        cases td <;> simp only [reduceCtorEq] at hB
        rename_i m el
        cases hie : P.info? el with
        | none => simp [hie] at hB
        | some ie =>
          simp only [hie, Option.some.injEq, Prod.mk.injEq] at hB
          obtain ⟨rfl, rfl⟩ := hB
          have hparts : (ps.toArray.map fun (x : Nat × Operand) => (x.1, a.eval x.2)).toList = (ps.map (·.1)).zip vs := by
            rw [← S.evals hv, ← zip_eval a.eval ps]; simp
          have hfill := fill_of_fillL _ _ _ hf
          unfold Yields execOp
          simp only [Instr.build, Sem.run_bind]
          rw [show (zeroValue T).run P w = .ok zv w by simp [zeroValue, typeInfo, hi, hz, go_sem]]
          simp only [Result.andThen_ok]
          rw [show (underlying T).run P w = .ok (.array m el) w by simp [underlying, hu, go_sem]]
          simp only [Result.andThen_ok, Sem.run_bind, run_sizeOf hie, hparts]
          rw [Array.toArray_toList] at hfill
          rw [hfill]
          rfl

end Go.Proofs.Ytafejnbfgkkjkaa

namespace Go.Proofs.Ytafejnbfgkkjkaa
open Go.RowKit Go.Sort
variable {ds : List Deferred}

variable {P : Program} {ops : Array Oper} {Q : Exit → Act → World → Prop} {rest : List Oper} {n d : Nat} {a : Act} {L : List (Nat × Value)} {w w0 : World} {v : Value} {o : Oper} {H : List Ent}

theorem wrap_u64 {i : Int} (h : 0 ≤ i ∧ i ≤ 18446744073709551615) : IntKind.u64.wrap i = i := by
  simp only [IntKind.wrap, IntKind.bits, IntKind.signed]
  simp; omega
theorem y_toU64 {x : Operand} {k : IntKind} {i : Int} {src dst : TypeId} (S : SeesD ds n a L) (hx : val L x = some (.int k i)) (hs : (P.underlying src).isSome = true) (hd : P.underlying dst = some (.int .u64)) (h : 0 ≤ i ∧ i ≤ 18446744073709551615) {d : Option Tmp} {t : TypeId} {p : String} {e : Array Edge} {g : Option (Nat × Bool)} :
    Yields P a ⟨d, .convert src dst x, t, p, e, g⟩ w (.int .u64 i) := by
  have h' := y_conv (P := P) (w := w) S hx hs hd (d := d) (t := t) (p := p) (e := e) (g := g)
  rw [wrap_u64 h] at h'; exact h'
theorem y_andU255 {x y : Operand} {i : Int} (S : SeesD ds n a L) (hx : val L x = some (.int .u64 i)) (hy : val L y = some (.int .u64 255)) (h : 0 ≤ i ∧ i ≤ 18446744073709551615) {d : Option Tmp} {xt yt t : TypeId} {p : String} {e : Array Edge} {g : Option (Nat × Bool)} :
    Yields P a ⟨d, .binOp .and xt x y yt, t, p, e, g⟩ w (.int .u64 (i % 256)) := by
  refine y_int S hx hy ?_
  obtain ⟨m, rfl⟩ := Int.eq_ofNat_of_zero_le h.1
  show some (Value.int .u64 (IntKind.u64.wrap (((BitVec.ofInt 64 (m : Int) &&& BitVec.ofInt 64 255 : BitVec 64).toNat : Nat) : Int))) = _
  have e1 : (BitVec.ofInt 64 (m : Int) &&& BitVec.ofInt 64 255 : BitVec 64).toNat = m % 256 := by
    rw [BitVec.toNat_and, BitVec.ofInt_natCast, BitVec.toNat_ofNat, Nat.mod_eq_of_lt (by omega)]
    exact Nat.and_two_pow_sub_one_eq_mod m 8
  rw [e1, wrap_u64 (by omega)]
  simp
theorem y_shrU {x y : Operand} {yk : IntKind} {i : Int} {k : Nat} (S : SeesD ds n a L) (hx : val L x = some (.int .u64 i)) (hy : val L y = some (.int yk (k : Int))) (h : 0 ≤ i ∧ k ≤ 64)
    {d : Option Tmp} {xt yt t : TypeId} {p : String} {e : Array Edge} {g : Option (Nat × Bool)} : Yields P a ⟨d, .binOp .shr xt x y yt, t, p, e, g⟩ w (.int .u64 (i / 2 ^ k)) := by
  have h' := y_shr (P := P) (w := w) S hx hy (by omega) (d := d) (xt := xt) (yt := yt) (t := t) (p := p) (e := e) (g := g)
  rw [show min (k : Int).toNat IntKind.u64.bits = k by simp only [IntKind.bits]; omega, Int.fdiv_eq_ediv_of_nonneg _ (Int.pow_nonneg (by omega))] at h'
  exact h'
theorem y_shlU {x y : Operand} {yk : IntKind} {i : Int} {k : Nat} (S : SeesD ds n a L) (hx : val L x = some (.int .u64 i)) (hy : val L y = some (.int yk (k : Int))) (h : k ≤ 64) (hr : 0 ≤ i * 2 ^ k ∧ i * 2 ^ k ≤ 18446744073709551615)
    {d : Option Tmp} {xt yt t : TypeId} {p : String} {e : Array Edge} {g : Option (Nat × Bool)} : Yields P a ⟨d, .binOp .shl xt x y yt, t, p, e, g⟩ w (.int .u64 (i * 2 ^ k)) := by
  have h' := y_shl (P := P) (w := w) S hx hy (by omega) (d := d) (xt := xt) (yt := yt) (t := t) (p := p) (e := e) (g := g)
  rw [show min (k : Int).toNat IntKind.u64.bits = k by simp only [IntKind.bits]; omega, wrap_u64 hr] at h'
  exact h'
theorem y_orU {x y : Operand} {i j : Nat} (S : SeesD ds n a L) (hx : val L x = some (.int .u64 (i : Int))) (hy : val L y = some (.int .u64 (j : Int))) (hi : i < 2 ^ 64) (hj : j < 2 ^ 64)
    {d : Option Tmp} {xt yt t : TypeId} {p : String} {e : Array Edge} {g : Option (Nat × Bool)} : Yields P a ⟨d, .binOp .or xt x y yt, t, p, e, g⟩ w (.int .u64 ((i ||| j : Nat) : Int)) := by
  refine y_int S hx hy ?_
  have hlt : i ||| j < 2 ^ 64 := Nat.or_lt_two_pow hi hj
  have e1 : (BitVec.ofInt 64 (i : Int) ||| BitVec.ofInt 64 (j : Int)).toNat = i ||| j := by
    rw [BitVec.ofInt_natCast, BitVec.ofInt_natCast, BitVec.toNat_or, BitVec.toNat_ofNat, BitVec.toNat_ofNat, Nat.mod_eq_of_lt hi, Nat.mod_eq_of_lt hj]
  show some (Value.int .u64 (IntKind.u64.wrap (((BitVec.ofInt 64 (i : Int) ||| BitVec.ofInt 64 (j : Int) : BitVec 64).toNat : Nat) : Int))) = _
  rw [e1, wrap_u64 (by omega)]
theorem wrap_u8_in {i : Int} (h : 0 ≤ i ∧ i ≤ 255) : IntKind.u8.wrap i = i := by
  simp only [IntKind.wrap, IntKind.bits, IntKind.signed]
  simp; omega
theorem y_quo8 {x y : Operand} {i j : Int} (S : SeesD ds n a L) (hx : val L x = some (.int .u8 i)) (hy : val L y = some (.int .u8 j)) (h : 0 ≤ i ∧ i ≤ 255 ∧ 0 < j)
    {d : Option Tmp} {xt yt t : TypeId} {p : String} {e : Array Edge} {g : Option (Nat × Bool)} : Yields P a ⟨d, .binOp .quo xt x y yt, t, p, e, g⟩ w (.int .u8 (i / j)) := by
  obtain ⟨h0, h1, h2⟩ := h
  have hne : j ≠ 0 := by omega
  have hq : i.tdiv j = i / j := Int.tdiv_eq_ediv_of_nonneg h0
  have hb : 0 ≤ i / j ∧ i / j ≤ 255 := by
    have := Int.ediv_nonneg h0 (Int.le_of_lt h2)
    have := Int.ediv_le_self j h0
    omega
  unfold Yields execOp
  simp only [S.eval hx, S.eval hy]
  simp [eqGuard, binOp, Op.intDiv, go_sem, hne, hq, wrap_u8_in hb]
theorem y_rem8 {x y : Operand} {i j : Int} (S : SeesD ds n a L) (hx : val L x = some (.int .u8 i)) (hy : val L y = some (.int .u8 j)) (h : 0 ≤ i ∧ 0 < j)
    {d : Option Tmp} {xt yt t : TypeId} {p : String} {e : Array Edge} {g : Option (Nat × Bool)} : Yields P a ⟨d, .binOp .rem xt x y yt, t, p, e, g⟩ w (.int .u8 (i % j)) := by
  obtain ⟨h0, h2⟩ := h
  have hne : j ≠ 0 := by omega
  have hq : i.tmod j = i % j := Int.tmod_eq_emod_of_nonneg h0
  unfold Yields execOp
  simp only [S.eval hx, S.eval hy]
  simp [eqGuard, binOp, Op.intDiv, go_sem, hne, hq]

end Go.Proofs.Ytafejnbfgkkjkaa

namespace Go.Proofs.Ytafejnbfgkkjkaa
open Go.RowKit Go.Sort
variable {ds : List Deferred}

variable {P : Program} {ops : Array Oper} {Q : Exit → Act → World → Prop} {rest : List Oper} {n d : Nat} {a : Act} {L : List (Nat × Value)} {w w0 : World} {v : Value} {o : Oper} {H : List Ent}

/-- a row of one's own that is not empty, as the block that it is -/
theorem Mem.ofRow {lo hi e sz m : Nat} {xs : List Value} (M : Mem w0 w (rowE lo hi e sz v m xs :: H)) (hm : 0 < m) :
    ∃ g cap more, v = .slice (some ⟨g, 0, none⟩) m cap ∧ m ≤ cap ∧ cap ≤ maxLen ∧ (xs ++ more).length = cap * sz ∧ Mem w0 w (.blk g (xs ++ more).toArray e :: H) := by
  obtain ⟨hr, hk⟩ := M.own 0 rfl
  rcases hr.2 with ⟨_, rfl⟩ | ⟨g, cap, cur, rfl, hb, hgg, hc, hcm, hs, ht⟩
  · omega
  · have hg := hk g rfl
    have e1 : xs ++ cur.toList.drop (m * sz) = cur.toList := by rw [← ht, List.take_append_drop]
    refine ⟨g, cap, cur.toList.drop (m * sz), rfl, hc, hcm, by rw [e1]; simpa using hs, ?_⟩
    rw [e1]
    have hf := M.fits _ (List.mem_cons_self ..)
    have hf1 : w0.heap.size ≤ lo := hf.1
    have hf2 : hi ≤ w.heap.size := hf.2
    have hp := List.pairwise_cons.1 M.apart
    refine ⟨M.below, fun f hf => ?_, fun f hf => ?_, List.pairwise_cons.2 ⟨fun f hf => ?_, hp.2⟩⟩
    · rcases List.mem_cons.1 hf with rfl | hf
      · exact hgg
      · exact M.ok f (List.mem_cons_of_mem _ hf)
    · rcases List.mem_cons.1 hf with rfl | hf
      · exact ⟨show w0.heap.size ≤ g by omega, show g + 1 ≤ w.heap.size by omega⟩
      · exact M.fits f (List.mem_cons_of_mem _ hf)
    · rcases hp.1 f hf with h | h
      · exact .inl (show g + 1 ≤ f.lo by have : hi ≤ f.lo := h; omega)
      · exact .inr (show f.hi ≤ g by have : f.hi ≤ lo := h; omega)

theorem y_remZ {x y : Operand} {i j : Int} (S : SeesD ds n a L) (hx : val L x = some (.int .i64 i)) (hy : val L y = some (.int .i64 j)) (h : 0 < j)
    {d : Option Tmp} {xt yt t : TypeId} {p : String} {e : Array Edge} {g : Option (Nat × Bool)} : Yields P a ⟨d, .binOp .rem xt x y yt, t, p, e, g⟩ w (.int .i64 (i.tmod j)) := by
  have hne : j ≠ 0 := by omega
  unfold Yields execOp
  simp only [S.eval hx, S.eval hy]
  simp [eqGuard, binOp, Op.intDiv, go_sem, hne]
def bitB (j : Nat) : UInt8 := UInt8.ofNat (2 ^ j)
theorem bitB_toNat {j : Nat} (h : j < 8) : (bitB j).toNat = 2 ^ j := by
  unfold bitB; rw [UInt8.toNat_ofNat', Nat.mod_eq_of_lt]
  have : (2 : Nat) ^ j < 2 ^ 8 := Nat.pow_lt_pow_right (by omega) h
  omega
theorem y_shl8 {x y : Operand} {j : Int} (S : SeesD ds n a L) (hx : val L x = some (.int .u8 1)) (hy : val L y = some (.int .i64 j)) (h : 0 ≤ j ∧ j < 8)
    {d : Option Tmp} {xt yt t : TypeId} {p : String} {e : Array Edge} {g : Option (Nat × Bool)} : Yields P a ⟨d, .binOp .shl xt x y yt, t, p, e, g⟩ w (.int .u8 ((bitB j.toNat).toNat : Int)) := by
  have h' := y_shl (P := P) (w := w) S hx hy (by omega) (d := d) (xt := xt) (yt := yt) (t := t) (p := p) (e := e) (g := g)
  have e1 : min j.toNat IntKind.u8.bits = j.toNat := by simp only [IntKind.bits]; omega
  have hp : (2 : Nat) ^ j.toNat < 2 ^ 8 := Nat.pow_lt_pow_right (by omega) (by omega)
  rw [e1, show (1 : Int) * 2 ^ j.toNat = ((2 ^ j.toNat : Nat) : Int) by simp, wrap_u8_in ⟨Int.natCast_nonneg _, Int.ofNat_le.2 (show 2 ^ j.toNat ≤ 255 by omega)⟩] at h'
  rw [bitB_toNat (by omega)]; exact h'
theorem y_xor8 {x y : Operand} {b c : UInt8} (S : SeesD ds n a L) (hx : val L x = some (.int .u8 (b.toNat : Int))) (hy : val L y = some (.int .u8 (c.toNat : Int)))
    {d : Option Tmp} {xt yt t : TypeId} {p : String} {e : Array Edge} {g : Option (Nat × Bool)} : Yields P a ⟨d, .binOp .xor xt x y yt, t, p, e, g⟩ w (.int .u8 ((b ^^^ c).toNat : Int)) := by
  refine y_int S hx hy ?_
  have h1 : b.toNat < 256 := UInt8.toNat_lt b
  have h2 : c.toNat < 256 := UInt8.toNat_lt c
  have h3 : b.toNat ^^^ c.toNat < 2 ^ 8 := Nat.xor_lt_two_pow h1 h2
  show some (Value.int .u8 (IntKind.u8.wrap (((BitVec.ofInt 8 (b.toNat : Int) ^^^ BitVec.ofInt 8 (c.toNat : Int) : BitVec 8).toNat : Nat) : Int))) = _
  have e1 : (BitVec.ofInt 8 (b.toNat : Int) ^^^ BitVec.ofInt 8 (c.toNat : Int) : BitVec 8).toNat = (b ^^^ c).toNat := by
    rw [BitVec.ofInt_natCast, BitVec.ofInt_natCast, BitVec.toNat_xor, BitVec.toNat_ofNat, BitVec.toNat_ofNat, Nat.mod_eq_of_lt (by omega), Nat.mod_eq_of_lt (by omega), UInt8.toNat_xor]
  rw [e1, wrap_u8_in (by rw [UInt8.toNat_xor]; omega)]

/-- a byte of a block is set -/
theorem bcells_set (bs : List UInt8) (more : List Value) {i : Nat} (h : i < bs.length) (x : UInt8) : putL (bcells bs ++ more) i [.int .u8 (x.toNat : Int)] = bcells (bs.set i x) ++ more := by
  show (bcells bs ++ more).set i _ = _
  rw [List.set_append_left _ _ (by simpa [bcells] using h)]
  unfold bcells; rw [List.map_set]

end Go.Proofs.Ytafejnbfgkkjkaa

namespace Go.Proofs.Ytafejnbfgkkjkaa
open Go.RowKit Go.Sort
variable {ds : List Deferred}

variable {P : Program} {ops : Array Oper} {Q : Exit → Act → World → Prop} {rest : List Oper} {n d : Nat} {a : Act} {L : List (Nat × Value)} {w w0 : World} {v : Value} {o : Oper} {H : List Ent}

theorem putL_mid {A B C us : List Value} (h : us.length = B.length) : putL (A ++ (B ++ C)) A.length us = A ++ (us ++ C) := by
  rw [putL_eq _ _ _ (by simp only [List.length_append]; omega), List.take_left, ← List.drop_drop, List.drop_left, h, List.drop_left, List.append_assoc]
theorem putL_all {l us : List Value} (h : us.length = l.length) : putL l 0 us = us := by
  have := putL_mid (A := []) (B := l) (C := []) (us := us) h
  simpa using this
theorem cutL_left : ∀ (B C : List Value), cutL (B ++ C) 0 B.length = some B
  | [], [] => rfl
  | [], _ :: _ => rfl
  | b :: B, C => by simp only [List.cons_append, List.length_cons, cutL, cutL_left B C, Option.map_some]
theorem cutL_mid : ∀ (A B C : List Value), cutL (A ++ (B ++ C)) A.length B.length = some B
  | [], B, C => cutL_left B C
  | x :: A, B, C => by simp only [List.cons_append, List.length_cons, cutL]; exact cutL_mid A B C
theorem allOne_append : ∀ {xs ys : List Value}, allOne (xs ++ ys) = (allOne xs && allOne ys)
  | [], ys => by simp [allOne]
  | x :: xs, ys => by simp [allOne, allOne_append (xs := xs), Bool.and_assoc]
theorem st_storeAll {x y : Operand} {T : TypeId} {b sz : Nat} {l us : List Value} {BT : TypeId} (S : SeesD ds n a L) (M : Mem w0 w H) (pos : Nat) {t : TypeId} {p : String} {e : Array Edge} {g : Option (Nat × Bool)} (hg : gd ops L ⟨none, .store T x y, t, p, e, g⟩ = some true)
    (hT : (P.info? T).map (·.size) = some sz) (hx : val L x = some (.pointer (some ⟨b, 0, none⟩))) (hy : val L y = some (.agg us.toArray)) (hsz : us.length = sz) (h1 : allOne us = true) (hp : H[pos]? = some (.blk b l.toArray BT)) (hl : l.length = sz)
    (k : ∀ w, Mem w0 w (H.set pos (.blk b us.toArray BT)) → wpList P ops Q rest a w) : wpList P ops Q (⟨none, .store T x y, t, p, e, g⟩ :: rest) a w := by
  refine st_store (us := us) S M pos hg hT hx hy rfl hsz h1 hp (by omega) fun w M => k w ?_
  rwa [putL_all (by omega)] at M
/-- cells in the middle of a block are set -/
theorem st_storeMid {x y : Operand} {T : TypeId} {b o sz : Nat} {A B C us : List Value} {BT : TypeId} (S : SeesD ds n a L) (M : Mem w0 w H) (pos : Nat) {t : TypeId} {p : String} {e : Array Edge} {g : Option (Nat × Bool)} (hg : gd ops L ⟨none, .store T x y, t, p, e, g⟩ = some true)
    (hT : (P.info? T).map (·.size) = some sz) (hx : val L x = some (.pointer (some ⟨b, o, none⟩))) (hy : val L y = some v) (hu : v.cells.toList = us) (hsz : us.length = sz) (h1 : allOne us = true) (hp : H[pos]? = some (.blk b (A ++ (B ++ C)).toArray BT)) (hA : A.length = o) (hB : B.length = sz)
    (k : ∀ w, Mem w0 w (H.set pos (.blk b (A ++ (us ++ C)).toArray BT)) → wpList P ops Q rest a w) : wpList P ops Q (⟨none, .store T x y, t, p, e, g⟩ :: rest) a w := by
  subst hA
  refine st_store (us := us) S M pos hg hT hx hy hu hsz h1 hp (by simp only [List.length_append]; omega) fun w M => k w ?_
  rwa [putL_mid (by omega)] at M
theorem Mem.cellsMid {b o : Nat} {A B C : List Value} {t : TypeId} (M : Mem w0 w H) (p : Nat) (h : H[p]? = some (.blk b (A ++ (B ++ C)).toArray t)) (hA : A.length = o) : CellsAt w b o B := by
  subst hA; exact M.cellsAt p h (cutL_mid A B C)

theorem end_none {fn : Func} {R : Ending → World → Prop} (S : Sees n a L) (hr : fn.results = #[]) (h : R (.returned (.tuple #[])) w) : bodyPost P fn R .ret a w :=
  bodyPost_ret (run_results (rs := []) (vs := []) S hr .nil) S.defers h
theorem end_noneN {fn : Func} {R : Ending → World → Prop} (S : Sees n a L) (hr : fn.results = #[]) (h : R (.returned (.tuple #[])) w) : bodyPost P fn R .normal a w :=
  ⟨S.defers, _, run_results (rs := []) (vs := []) S hr .nil, h⟩

end Go.Proofs.Ytafejnbfgkkjkaa

namespace Go.Proofs.Ytafejnbfgkkjkaa
open Go.RowKit Go.Sort
variable {ds : List Deferred}

variable {P : Program} {ops : Array Oper} {Q : Exit → Act → World → Prop} {rest : List Oper} {n d : Nat} {a : Act} {L : List (Nat × Value)} {w w0 : World} {v : Value} {o : Oper} {H : List Ent}

theorem y_andNot {x y : Operand} {k : IntKind} {i j : Int} (S : SeesD ds n a L) (hx : val L x = some (.int k i)) (hy : val L y = some (.int k j))
    {d : Option Tmp} {xt yt t : TypeId} {p : String} {e : Array Edge} {g : Option (Nat × Bool)} : Yields P a ⟨d, .binOp .andNot xt x y yt, t, p, e, g⟩ w (.int k (k.wrap (BitVec.ofInt k.bits i &&& ~~~BitVec.ofInt k.bits j).toNat)) := by
  unfold Yields execOp
  simp only [S.eval hx, S.eval hy]
  simp [eqGuard, binOp, Op.intBits, go_sem]

theorem y_makeFunc {f : FuncId} {fs cs : List Operand} {vf vc : List Value} (S : SeesD ds n a L) (hf : vals L fs = some vf) (hc : vals L cs = some vc)
    {d : Option Tmp} {t : TypeId} {p : String} {e : Array Edge} {g : Option (Nat × Bool)} : Yields P a ⟨d, .makeFunc (.func f) fs.toArray cs.toArray, t, p, e, g⟩ w (.func (.func f) vf.toArray vc.toArray) := by
  have h1 : fs.toArray.map a.eval = vf.toArray := by rw [← S.evals hf]; simp
  have h2 : cs.toArray.map a.eval = vc.toArray := by rw [← S.evals hc]; simp
  unfold Yields execOp
  simp [h1, h2, Instr.makeFunc, go_sem]

theorem y_indexP {x ix : Operand} {t m sz : Nat} {cs : List Value} {i : Int} {ki : IntKind} (S : SeesD ds n a L) (hE : arrayElem P t = some (m, sz)) (hT : ∀ e, P.underlying t = some (.array m e) → plainB P e = true) (hx : val L x = some (.agg cs.toArray)) (hi : val L ix = some (.int ki i)) (h : 0 ≤ i ∧ i < m) (hv : cs[i.toNat * sz]? = some v)
    {d : Option Tmp} {ty : TypeId} {p : String} {ed : Array Edge} {g : Option (Nat × Bool)} : Yields P a ⟨d, .index t x ix, ty, p, ed, g⟩ w v := by
  obtain ⟨e, hu, inf, hinf, rfl⟩ := arrayElem_spec hE
  unfold Yields execOp
  simp only [S.eval hx, S.eval hi]
  simp only [Instr.index, asIntOf, Sem.run_bind, Sem.run_pure, Result.andThen_ok]
  rw [show (underlying t).run P w = .ok (.array m e) w by simp [underlying, hu, go_sem]]
  have hv' : cs.toArray[i.toNat * inf.size]? = some v := by rw [List.getElem?_toArray]; exact hv
  simp only [Result.andThen_ok, h.1, h.2, and_self, if_true, Sem.run_bind, run_sizeOf hinf, part, run_isAgg_plain (hT e hu), Sem.run_pure, hv', Bool.false_eq_true, if_false]

theorem st_callB {f : FuncId} {fx : Operand} {xs : List Operand} {vs fi ca : List Value} {R : Ending → World → Prop} (S : SeesD ds n a L) {d : Nat} {ts : Array TypeId} {t : TypeId} {p : String} {e : Array Edge} {g : Option (Nat × Bool)}
    (hE : Enters P f) (hg : gd ops L ⟨some d, .call { callee := .value fx, args := xs.toArray, argTypes := ts }, t, p, e, g⟩ = some true) (hn : Nat.blt d n = true) (hf : val L fx = some (.func (.func f) fi.toArray ca.toArray)) (hx : vals L xs = some vs) (hC : Calls P f (fi ++ (vs ++ ca)).toArray w R)
    (k : ∀ e w', R e w' → ∃ v, e = .returned v ∧ ∀ a, SeesD ds n a ((d, v) :: L) → wpList P ops Q rest a w') : wpList P ops Q (⟨some d, .call { callee := .value fx, args := xs.toArray, argTypes := ts }, t, p, e, g⟩ :: rest) a w := by
  unfold wpList
  rw [if_pos (gd_spec S hg)]
  refine .inl ?_
  unfold Oper.wp
  have h : xs.toArray.map a.eval = vs.toArray := by rw [← S.evals hx]; simp
  have hr : (execOp a.eval ⟨some d, .call { callee := .value fx, args := xs.toArray, argTypes := ts }, t, p, e, g⟩).run P w = .ok (.enter f (fi ++ (vs ++ ca)).toArray) w := by
    unfold execOp
    simp only [resolve, h, S.eval hf, Deferred.ofValue, Sem.run_bind, Sem.run_pure, Result.andThen_ok, invoke]
    rw [show fi.toArray ++ vs.toArray ++ ca.toArray = (fi ++ (vs ++ ca)).toArray by simp]
    exact hE _ _
  rw [hr, Oper.upon_enter]
  refine hC.mono fun e w' hR => ?_
  obtain ⟨v, rfl, hk⟩ := k e w' hR
  exact hk _ (S.put hn v)

/-! ### rows and blocks of one's own, read -/
theorem Mem.readAll {lo hi e sz m : Nat} {x : Value} {xs : List Value} (M : Mem w0 w H) (p : Nat) (h : H[p]? = some (rowE lo hi e sz x m xs)) (hm : m ≤ maxLen) : Rd 0 w.heap.size w sz x m xs :=
  (M.readRow p h hm).wide (Nat.zero_le _) (M.fits _ (List.mem_of_getElem? h)).2
theorem Rd.of_cells {lo hi b o sz m cap : Nat} {cs : List Value} (hc : CellsAt w b o cs) (hl : cs.length = m * sz) (h1 : lo ≤ b) (h2 : b < hi) (hm : m ≤ cap) (hx : cap ≤ maxLen) : Rd lo hi w sz (.slice (some ⟨b, o, none⟩) m cap) m cs :=
  ⟨hl, Nat.le_trans hm hx, .inr ⟨⟨b, o, none⟩, cap, rfl, hm, hx, hc, fun _ => ⟨rfl, h1, h2⟩⟩⟩
/-- a part of a block of one's own, as a slice -/
theorem Mem.sliceAt {b o sz m cap : Nat} {c : Array Value} {t : TypeId} {cs : List Value} (M : Mem w0 w H) (p : Nat) (h : H[p]? = some (.blk b c t)) (hc : CellsAt w b o cs) (hl : cs.length = m * sz) (hm : m ≤ cap) (hx : cap ≤ maxLen) : Rd 0 w.heap.size w sz (.slice (some ⟨b, o, none⟩) m cap) m cs :=
  Rd.of_cells hc hl (Nat.zero_le _) (M.fits _ (List.mem_of_getElem? h)).2 hm hx
theorem Fresh.from {w1 w2 : World} {e sz m : Nat} {x : Value} {cs : List Value} (h : Fresh w1 w2 e sz x m cs) (hb : Below w.heap.size w w1) : Fresh w w2 e sz x m cs := by
  obtain ⟨h0, lo, hi, h1, h2, h3, h4⟩ := h
  exact ⟨ext_trans hb h0, lo, hi, Nat.le_trans hb.size h1, h2, h3, h4⟩
theorem Fresh.rd0 {w' : World} {e sz m : Nat} {x : Value} {cs : List Value} (h : Fresh w w' e sz x m cs) (hm : m ≤ maxLen) : Rd 0 w'.heap.size w' sz x m cs := (h.rd hm).wide (Nat.zero_le _) (Nat.le_refl _)
theorem Mem.rowC {lo hi n : Nat} {t : TypeId} {v : Value} {xs ys : List UInt8} (M : Mem w0 w (rowE lo hi t 1 v (xs.length + n) (bcells xs ++ bcells ys) :: H)) (h : ys.length = n) : Mem w0 w (rowE lo hi t 1 v (xs ++ ys).length (bcells (xs ++ ys)) :: H) := by
  rw [bcells_append, List.length_append, h]; exact M

end Go.Proofs.Ytafejnbfgkkjkaa

namespace Go.Proofs.Ytafejnbfgkkjkaa
open Go.RowKit Go.Sort
variable {ds : List Deferred}

/-- a chunk of one's own, known by less -/
theorem Mem.ownMono {w0 w : World} {H : List Ent} {lo hi : Nat} {φ ψ : World → Prop} (M : Mem w0 w (.own lo hi φ :: H)) (h : ∀ w, φ w → ψ w) : Mem w0 w (.own lo hi ψ :: H) :=
  ⟨M.below, fun e he => by
    rcases List.mem_cons.1 he with rfl | he
    · exact fun w' hs => h w' (M.ok _ (List.mem_cons_self ..) w' hs)
    · exact M.ok e (List.mem_cons_of_mem _ he), fun e he => by
    rcases List.mem_cons.1 he with rfl | he
    · exact M.fits (.own lo hi φ) (List.mem_cons_self ..)
    · exact M.fits e (List.mem_cons_of_mem _ he), by
    have := List.pairwise_cons.1 M.apart
    exact .cons (fun f hf => this.1 f hf) this.2⟩
theorem Mem.blkEq {w0 w : World} {H : List Ent} {b : Nat} {c c' : Array Value} {t : TypeId} (M : Mem w0 w H) (p : Nat) (h : H[p]? = some (.blk b c t)) (hc : c = c') : Mem w0 w (H.set p (.blk b c' t)) := by
  subst hc
  obtain ⟨hp, he⟩ := List.getElem?_eq_some_iff.1 h
  rw [← he, List.set_getElem_self]; exact M

theorem Rd.cellAt {lo hi sz n j : Nat} {w : World} {v u : Value} {cs : List Value} (h : Rd lo hi w sz v n cs) (hj : cs[j]? = some u) : w.cell? ⟨(adr v).block, (adr v).off + j, none⟩ = some u := by
  rw [h.at_ j (List.getElem?_eq_some_iff.1 hj).1, hj]

section
variable {P : Program} {ops : Array Oper} {Q : Exit → Act → World → Prop} {rest : List Oper} {n d : Nat} {a : Act} {L : List (Nat × Value)} {w w0 : World} {v : Value} {o : Oper} {H : List Ent}

/-- the beginning of a row of one's own -/
theorem Mem.rowTake {lo hi e sz m i cap : Nat} {ad : Addr} {xs : List Value} (M : Mem w0 w (rowE lo hi e sz (.slice (some ad) m cap) m xs :: H)) (hi' : i ≤ m) : Mem w0 w (rowE lo hi e sz (.slice (some ad) i cap) i (xs.take (i * sz)) :: H) := by
  refine M.ownMono fun w h => ?_
  obtain ⟨⟨h1, h2⟩, h3⟩ := h
  have hle : i * sz ≤ m * sz := Nat.mul_le_mul_right _ hi'
  refine ⟨⟨by rw [List.length_take]; omega, ?_⟩, ?_⟩
  · rcases h2 with ⟨hn, _⟩ | ⟨g, cap', cur, he, hb, hgg, hc, hcm, hs, ht⟩
    · cases hn
    · injection he with e1 e2 e3
      have e1' := Option.some.inj e1
      subst e1' e3
      exact .inr ⟨g, cap, cur, rfl, hb, hgg, by omega, hcm, hs, by rw [← ht, List.take_take, Nat.min_eq_left hle]⟩
  · intro k hk
    exact h3 k (by simpa [Value.ownBlock] using hk)
theorem zeroCells_one (zc : List Value) : (Builtin.zeroCells zc.toArray 1).toList = zc := by
  apply List.ext_getElem
  · simp [Builtin.zeroCells]
  · intro i h1 h2
    simp [Builtin.zeroCells, Nat.mod_eq_of_lt h2, h2]
/-- 'clear' of one element -/
theorem st_clear1 {t e sz by_ b o c : Nat} {x : Operand} {zc l : List Value} {T : TypeId} (S : SeesD ds n a L) (M : Mem w0 w H) (pos : Nat) {d : Nat} {ty : TypeId} {p : String} {ed : Array Edge} {g : Option (Nat × Bool)}
    (hg : gd ops L ⟨some d, .call { callee := .builtin .clear, args := #[x], argTypes := #[t] }, ty, p, ed, g⟩ = some true) (hn : Nat.blt d n = true) (hI : sliceInfo P t = some (e, sz, by_, zc)) (hx : val L x = some (.slice (some ⟨b, o, none⟩) 1 c))
    (hp : H[pos]? = some (.blk b l.toArray T)) (h1 : allOne zc = true) (hle : o + zc.length ≤ l.length)
    (k : ∀ a w', SeesD ds n a ((d, .tuple #[]) :: L) → Mem w0 w' (H.set pos (.blk b (putL l o zc).toArray T)) → wpList P ops Q rest a w') : wpList P ops Q (⟨some d, .call { callee := .builtin .clear, args := #[x], argTypes := #[t] }, ty, p, ed, g⟩ :: rest) a w := by
  obtain ⟨hu, i, z, hi, hz, hsz, hby, hzc⟩ := sliceInfo_spec hI
  obtain ⟨w', hr, M'⟩ := storeCells_run (P := P) (b := b) (o := o) (T := T) zc 0 l w H pos M hp h1 (by omega)
  refine st_w (v := .tuple #[]) (w' := w') S hg rfl hn ?_ fun a S' => k a w' S' M'
  obtain ⟨cs, h⟩ := run_builtin (P := P) (w := w) (b := .clear) (xs := [x]) (vs := [.slice (some ⟨b, o, none⟩) 1 c]) S (by simp [vals, hx]) (d := some d) (ts := #[t]) (t := ty) (p := p) (e := ed) (g := g)
  rw [h]
  have hzv : (zeroValue e).run P w = .ok z w := by simp [zeroValue, typeInfo, hi, hz, go_sem]
  simp only [builtin, Builtin.clear_, Sem.run_bind]
  simp [underlying, hu, go_sem, hzv]
  unfold Value.cells at hzc
  rw [hzc, zeroCells_one, hr]
  rfl
theorem st_v {w' : World} (S : SeesD ds n a L) (hg : gd ops L o = some true) (hd : o.dst = none) (hy : (execOp a.eval o).run P w = .ok (.value v) w') (k : wpList P ops Q rest a w') : wpList P ops Q (o :: rest) a w := by
  unfold wpList
  rw [if_pos (gd_spec S hg)]
  refine .inl ?_
  unfold Oper.wp
  rw [hy, Oper.upon_value, hd]
  exact k
theorem st_clear1N {t e sz by_ b o c : Nat} {x : Operand} {zc l : List Value} {T : TypeId} (S : SeesD ds n a L) (M : Mem w0 w H) (pos : Nat) {ty : TypeId} {p : String} {ed : Array Edge} {g : Option (Nat × Bool)}
    (hg : gd ops L ⟨none, .call { callee := .builtin .clear, args := #[x], argTypes := #[t] }, ty, p, ed, g⟩ = some true) (hI : sliceInfo P t = some (e, sz, by_, zc)) (hx : val L x = some (.slice (some ⟨b, o, none⟩) 1 c))
    (hp : H[pos]? = some (.blk b l.toArray T)) (h1 : allOne zc = true) (hle : o + zc.length ≤ l.length)
    (k : ∀ w', Mem w0 w' (H.set pos (.blk b (putL l o zc).toArray T)) → wpList P ops Q rest a w') : wpList P ops Q (⟨none, .call { callee := .builtin .clear, args := #[x], argTypes := #[t] }, ty, p, ed, g⟩ :: rest) a w := by
  obtain ⟨hu, i, z, hi, hz, hsz, hby, hzc⟩ := sliceInfo_spec hI
  obtain ⟨w', hr, M'⟩ := storeCells_run (P := P) (b := b) (o := o) (T := T) zc 0 l w H pos M hp h1 (by omega)
  refine st_v (v := .tuple #[]) (w' := w') S hg rfl ?_ (k w' M')
  obtain ⟨cs, h⟩ := run_builtin (P := P) (w := w) (b := .clear) (xs := [x]) (vs := [.slice (some ⟨b, o, none⟩) 1 c]) S (by simp [vals, hx]) (d := none) (ts := #[t]) (t := ty) (p := p) (e := ed) (g := g)
  rw [h]
  have hzv : (zeroValue e).run P w = .ok z w := by simp [zeroValue, typeInfo, hi, hz, go_sem]
  simp only [builtin, Builtin.clear_, Sem.run_bind]
  simp [underlying, hu, go_sem, hzv]
  unfold Value.cells at hzc
  rw [hzc, zeroCells_one, hr]
  rfl
/-- 'append' onto a part of a block of one's own that has room -/
theorem st_appendIn {t e sz by_ b c k m b2 o2 c2 : Nat} {zc l news : List Value} {s y : Operand} (S : SeesD ds n a L) (M : Mem w0 w H) (pos : Nat) {d : Nat} {ty : TypeId} {p : String} {ed : Array Edge} {g : Option (Nat × Bool)}
    (hg : gd ops L ⟨some d, .call { callee := .builtin .append, args := #[s, y], argTypes := #[t, t] }, ty, p, ed, g⟩ = some true) (hn : Nat.blt d n = true) (hI : sliceInfo P t = some (e, sz, by_, zc))
    (hs : val L s = some (.slice (some ⟨b, 0, none⟩) k c)) (hy : val L y = some (.slice (some ⟨b2, o2, none⟩) m c2)) (hp : H[pos]? = some (.blk b l.toArray e)) (hx : CellsAt w b2 o2 news) (hlx : news.length = m * sz) (h1 : allOne news = true) (hroom : k + m ≤ c) (hcs : l.length = c * sz)
    (kk : ∀ a w', SeesD ds n a ((d, .slice (some ⟨b, 0, none⟩) (k + m) c) :: L) → Mem w0 w' (H.set pos (.blk b (l.take (k * sz) ++ news ++ l.drop (k * sz + news.length)).toArray e)) → wpList P ops Q rest a w') :
    wpList P ops Q (⟨some d, .call { callee := .builtin .append, args := #[s, y], argTypes := #[t, t] }, ty, p, ed, g⟩ :: rest) a w := by
  obtain ⟨hu, i, z, hi', hz, rfl, rfl, hzc⟩ := sliceInfo_spec hI
  have hB := M.blk pos hp
  have hfit : k * i.size + news.length ≤ l.toArray.size := by rw [List.size_toArray, hlx, hcs, ← Nat.add_mul]; exact Nat.mul_le_mul_right _ hroom
  have hr := run_append_room (P := P) w t ty e i hu hi' b k c l.toArray hB ⟨b2, o2, none⟩ m c2 news hlx hx.add (allOne_spec h1) hroom hfit
  have M' := M.change (w' := w.setRow b (l.take (k * i.size) ++ news ++ l.drop (k * i.size + news.length)).toArray) (e' := .blk b (l.take (k * i.size) ++ news ++ l.drop (k * i.size + news.length)).toArray e) pos hp rfl rfl
    (setRow_heap w b _ _ e _ hB) (by simp [World.setRow]) rfl rfl rfl (fun q hq => setRow_other w b q _ (fun e => hq (by subst e; simp [Ent.lo, Ent.hi])))
  refine st_w (v := .slice (some ⟨b, 0, none⟩) (k + m) c) (w' := w.setRow b (l.take (k * i.size) ++ news ++ l.drop (k * i.size + news.length)).toArray) S hg rfl hn ?_ fun a S' => kk a _ S' M'
  obtain ⟨cs, h⟩ := run_builtin (P := P) (w := w) (b := .append) (xs := [s, y]) (vs := [.slice (some ⟨b, 0, none⟩) k c, .slice (some ⟨b2, o2, none⟩) m c2]) S (by simp [vals, hs, hy]) (d := some d) (ts := #[t, t]) (t := ty) (p := p) (e := ed) (g := g)
  rw [h]
  simp only [builtin, Sem.run_bind]
  rw [show [Value.slice (some ⟨b, 0, none⟩) k c, Value.slice (some ⟨b2, o2, none⟩) m c2].toArray = #[.slice (some ⟨b, 0, none⟩) k c, .slice (some ⟨b2, o2, none⟩) m c2] from rfl, hr]
  rfl
end

end Go.Proofs.Ytafejnbfgkkjkaa

namespace Go.Proofs.Ytafejnbfgkkjkaa
open Go.RowKit Go.Sort
variable {ds : List Deferred}

variable {P : Program} {ops : Array Oper} {Q : Exit → Act → World → Prop} {md : Region.Mode} {nk : List Nat} {C : World → Prop}

/-- whatever order is picked from here on; an operation that is not among nk leaves what lay as it lay -/
def wpKC (P : Program) (md : Region.Mode) (ops : Array Oper) (nk : List Nat) (C : World → Prop) (Q : Exit → Act → World → Prop) : Nat → Array Bool → Act → World → Prop
  | 0, listed, a, w => Region.ready md ops listed = [] ∧ Q .normal a w
  | f + 1, listed, a, w => (Region.ready md ops listed = [] → Q .normal a w) ∧
    ∀ i ∈ Region.ready md ops listed, wpOp P ops Q i (fun a' w' => (nk.contains i = false → Below w.heap.size w w') ∧ C w' ∧ wpKC P md ops nk C Q f (listed.setIfInBounds i true) a' w') a w

theorem wpAny_of_wpKC : ∀ (f : Nat) (listed : Array Bool) (a : Act) (w : World), wpKC P md ops nk C Q f listed a w → wpAny P md ops Q f listed a w
  | 0, _, _, _, h => h
  | f + 1, _, _, _, h => ⟨h.1, fun i hi => wpOp_mono (fun a' w' h' => wpAny_of_wpKC f _ a' w' h'.2.2) (h.2 i hi)⟩

theorem wpKC_first {i : Nat} {oi : Oper} {v : Value} (hi : ops[i]? = some oi) (hsel : ∀ (j : Nat) (o : Oper) cs b, ops[j]? = some o → o.op ≠ .select cs b)
    (hQ : ∀ c a w, Q (.panic c) (a.put oi.dst v) w → Q (.panic c) a w) :
    ∀ (fuel : Nat) (listed : Array Bool) (a : Act) (w : World), Closed md ops listed →
      (∀ j oj, ops[j]? = some oj → j ≠ i → listed.getD j true = false → (∀ e ∈ oj.after, Region.binds md e = true → e.on ≠ i) → oi.apart ops oj = true ∧ (nk.contains j = false ∨ waitsT md ops ops.size j i = true)) →
      i ∈ Region.ready md ops listed → YieldsB P ops (fun W => Below w.heap.size w W) oi v a → C w →
      wpKC P md ops nk C Q fuel (listed.setIfInBounds i true) (a.put oi.dst v) w → wpKC P md ops nk C Q (fuel + 1) listed a w := by
  intro fuel
  induction fuel with
  | zero =>
    intro listed a w hcl _ hr hy hC H
    refine ⟨fun h => (by rw [h] at hr; cases hr), fun j hj => ?_⟩
    by_cases hji : j = i
    · subst hji; exact hy.wpOp hi (ext_refl w) ⟨fun _ => ext_refl w, hC, H⟩
    · have := ready_mono hj hji
      rw [H.1] at this
      cases this
  | succ fuel ih =>
    intro listed a w hcl hfree hr hy hC H
    refine ⟨fun h => (by rw [h] at hr; cases hr), fun j hj => ?_⟩
    by_cases hji : j = i
    · subst hji; exact hy.wpOp hi (ext_refl w) ⟨fun _ => ext_refl w, hC, H⟩
    · have h1 := H.2 j (ready_mono hj hji)
      obtain ⟨hjun, oj, hoj, hall⟩ := mem_ready.1 hj
      have hin := getD_false_of_true (mem_ready.1 hr).1
      have hnot : ∀ e ∈ oj.after, Region.binds md e = true → e.on ≠ i := fun e he hb heq => by
        have h1 := hall e he hb
        rw [heq, hin] at h1; cases h1
      obtain ⟨hap, hkw⟩ := hfree j oj hoj hji hjun hnot
      have hkeep : nk.contains j = false := by
        rcases hkw with h | h
        · exact h
        · have := waitsT_listed hcl _ j oj hoj hall h
          rw [hin] at this; cases this
      have h2 := wpOp_putB hoj hap (fun cs b => hsel i oi cs b hi) (fun cs b => hsel j oj cs b hoj) hQ hy h1
      have hfree' : ∀ k ok, ops[k]? = some ok → k ≠ i → (listed.setIfInBounds j true).getD k true = false →
          (∀ e ∈ ok.after, Region.binds md e = true → e.on ≠ i) → oi.apart ops ok = true ∧ (nk.contains k = false ∨ waitsT md ops ops.size k i = true) := fun k ok hk hki hun hno => by
        refine hfree k ok hk hki ?_ hno
        by_cases hjk : j = k
        · subst hjk; exact hjun
        · rw [getD_set_ne true hjk] at hun; exact hun
      refine wpOp_mono (fun a' w' h3 => ⟨h3.2.1, h3.2.2.1, ih (listed.setIfInBounds j true) a' w' (hcl.set hj) hfree' (ready_mono hr (Ne.symm hji)) (h3.1.later fun W hW => ext_trans (h3.2.1 hkeep) hW) h3.2.2.1 ?_⟩) h2
      rw [Array.setIfInBounds_comm _ _ hji]
      exact h3.2.2.2

theorem wpKC_firstC {i : Nat} {oi : Oper} {v : Value} (hi : ops[i]? = some oi) (hsel : ∀ (j : Nat) (o : Oper) cs b, ops[j]? = some o → o.op ≠ .select cs b)
    (hQ : ∀ c a w, Q (.panic c) (a.put oi.dst v) w → Q (.panic c) a w) :
    ∀ (fuel : Nat) (listed : Array Bool) (a : Act) (w : World), Closed md ops listed →
      (∀ j oj, ops[j]? = some oj → j ≠ i → listed.getD j true = false → (∀ e ∈ oj.after, Region.binds md e = true → e.on ≠ i) → oi.apart ops oj = true) →
      i ∈ Region.ready md ops listed → YieldsB P ops C oi v a → C w →
      wpKC P md ops nk C Q fuel (listed.setIfInBounds i true) (a.put oi.dst v) w → wpKC P md ops nk C Q (fuel + 1) listed a w := by
  intro fuel
  induction fuel with
  | zero =>
    intro listed a w hcl _ hr hy hC H
    refine ⟨fun h => (by rw [h] at hr; cases hr), fun j hj => ?_⟩
    by_cases hji : j = i
    · subst hji; exact hy.wpOp hi hC ⟨fun _ => ext_refl w, hC, H⟩
    · have := ready_mono hj hji
      rw [H.1] at this
      cases this
  | succ fuel ih =>
    intro listed a w hcl hfree hr hy hC H
    refine ⟨fun h => (by rw [h] at hr; cases hr), fun j hj => ?_⟩
    by_cases hji : j = i
    · subst hji; exact hy.wpOp hi hC ⟨fun _ => ext_refl w, hC, H⟩
    · have h1 := H.2 j (ready_mono hj hji)
      obtain ⟨hjun, oj, hoj, hall⟩ := mem_ready.1 hj
      have hin := getD_false_of_true (mem_ready.1 hr).1
      have hnot : ∀ e ∈ oj.after, Region.binds md e = true → e.on ≠ i := fun e he hb heq => by
        have h1 := hall e he hb
        rw [heq, hin] at h1; cases h1
      have hap := hfree j oj hoj hji hjun hnot
      have h2 := wpOp_putB hoj hap (fun cs b => hsel i oi cs b hi) (fun cs b => hsel j oj cs b hoj) hQ hy h1
      have hfree' : ∀ k ok, ops[k]? = some ok → k ≠ i → (listed.setIfInBounds j true).getD k true = false →
          (∀ e ∈ ok.after, Region.binds md e = true → e.on ≠ i) → oi.apart ops ok = true := fun k ok hk hki hun hno => by
        refine hfree k ok hk hki ?_ hno
        by_cases hjk : j = k
        · subst hjk; exact hjun
        · rw [getD_set_ne true hjk] at hun; exact hun
      refine wpOp_mono (fun a' w' h3 => ⟨h3.2.1, h3.2.2.1, ih (listed.setIfInBounds j true) a' w' (hcl.set hj) hfree' (ready_mono hr (Ne.symm hji)) h3.1 h3.2.2.1 ?_⟩) h2
      rw [Array.setIfInBounds_comm _ _ hji]
      exact h3.2.2.2

variable {n d : Nat} {a : Act} {L : List (Nat × Value)} {w w0 : World} {v : Value} {o : Oper} {H : List Ent}

theorem wp_regionKC {id : Nat} {l : List Oper} (nk : List Nat) (listed : Array Bool) (hl : Array.replicate l.length false = listed) (M : Mem w0 w H) (hm : P.follows .mixedOrders = true)
    (h : ∀ w, Mem w0 w H → wpKC P .any l.toArray nk C Q l.length listed a w) : (Code.region id l.toArray true).wp P Q a w := by
  subst hl
  exact wp_region_any hm (wpAny_of_wpKC _ _ _ _ (by have := h _ M.drew; simpa using this))

theorem kc_read {f : Nat} {listed listed' : Array Bool} (i : Nat) (S : SeesD ds n a L) (hi : ops[i]? = some o) (hg : gd ops L o = some true) (hd : o.dst = some d) (hn : Nat.blt d n = true) (hst : readB md ops nk listed i = true) (hl : listed.setIfInBounds i true = listed')
    (hQ : ∀ c (d : Option Tmp) (u : Value) (a : Act) w, Q (.panic c) (a.put d u) w → Q (.panic c) a w) (hC : C w) (hy : ∀ W, Below w.heap.size w W → Yields P a o W v) (k : ∀ a, SeesD ds n a ((d, v) :: L) → wpKC P md ops nk C Q f listed' a w) : wpKC P md ops nk C Q (f + 1) listed a w := by
  simp only [readB, Bool.and_eq_true] at hst
  obtain ⟨⟨⟨h1, h2⟩, h3⟩, h4⟩ := hst
  refine wpKC_first hi (Region.noSelect_spec h1) (fun c a w h => hQ c _ _ a w h) f listed a w (closed_of h3) (fun j oj => freeK_spec hi h4 j oj) (by simpa using h2) (.inl ⟨gd_spec S hg, hy⟩) hC ?_
  rw [hl, hd]
  exact k _ (S.put hn v)
theorem kc_readC {f : Nat} {listed listed' : Array Bool} (i : Nat) (S : SeesD ds n a L) (hi : ops[i]? = some o) (hg : gd ops L o = some true) (hd : o.dst = some d) (hn : Nat.blt d n = true) (hst : readB md ops [] listed i = true) (hl : listed.setIfInBounds i true = listed')
    (hQ : ∀ c (d : Option Tmp) (u : Value) (a : Act) w, Q (.panic c) (a.put d u) w → Q (.panic c) a w) (hC : C w) (hy : ∀ W, C W → Yields P a o W v) (k : ∀ a, SeesD ds n a ((d, v) :: L) → wpKC P md ops nk C Q f listed' a w) : wpKC P md ops nk C Q (f + 1) listed a w := by
  simp only [readB, Bool.and_eq_true] at hst
  obtain ⟨⟨⟨h1, h2⟩, h3⟩, h4⟩ := hst
  refine wpKC_firstC hi (Region.noSelect_spec h1) (fun c a w h => hQ c _ _ a w h) f listed a w (closed_of h3) (fun j oj p1 p2 p3 p4 => (freeK_spec hi h4 j oj p1 p2 p3 p4).1) (by simpa using h2) (.inl ⟨gd_spec S hg, fun W hW => hy W hW⟩) hC ?_
  rw [hl, hd]
  exact k _ (S.put hn v)
theorem kc_no {f : Nat} {listed listed' : Array Bool} (i : Nat) (S : SeesD ds n a L) (hi : ops[i]? = some o) (hg : gd ops L o = some false) (hd : o.dst = some d) (hn : Nat.blt d n = true) (hst : readB md ops [] listed i = true) (hl : listed.setIfInBounds i true = listed')
    (hQ : ∀ c (d : Option Tmp) (u : Value) (a : Act) w, Q (.panic c) (a.put d u) w → Q (.panic c) a w) (hC : C w) (k : ∀ a, SeesD ds n a ((d, undef) :: L) → wpKC P md ops nk C Q f listed' a w) : wpKC P md ops nk C Q (f + 1) listed a w := by
  simp only [readB, Bool.and_eq_true] at hst
  obtain ⟨⟨⟨h1, h2⟩, h3⟩, h4⟩ := hst
  refine wpKC_firstC hi (Region.noSelect_spec h1) (fun c a w h => hQ c _ _ a w h) f listed a w (closed_of h3) (fun j oj p1 p2 p3 p4 => (freeK_spec hi h4 j oj p1 p2 p3 p4).1) (by simpa using h2) (.inr ⟨gd_spec S hg, rfl⟩) hC ?_
  rw [hl, hd]
  exact k _ (S.put hn undef)
theorem kc_end {listed : Array Bool} (hr : (Region.ready md ops listed).isEmpty = true) (h : Q .normal a w) : wpKC P md ops nk C Q 0 listed a w := ⟨by simpa using hr, h⟩

/-- one operation may come next, no other -/
theorem kc_one {f : Nat} {listed listed' : Array Bool} (i : Nat) (hi : ops[i]? = some o) (hr : Nat.beq (Region.ready md ops listed).length 1 && (Region.ready md ops listed).contains i = true) (hl : listed.setIfInBounds i true = listed')
    (h : wpList P ops (Exit.then (fun a' w' => (nk.contains i = false → Below w.heap.size w w') ∧ C w' ∧ wpKC P md ops nk C Q f listed' a' w') Q) [o] a w) : wpKC P md ops nk C Q (f + 1) listed a w := by
  have hr' : Region.ready md ops listed = [i] := by
    simp only [Bool.and_eq_true] at hr
    have h1 := Nat.eq_of_beq_eq_true hr.1
    have h2 : i ∈ Region.ready md ops listed := by simpa using hr.2
    obtain ⟨x, hx⟩ := List.length_eq_one_iff.1 h1
    rw [hx] at h2 ⊢
    simp at h2; rw [h2]
  refine ⟨fun h => (by rw [hr'] at h; cases h), fun j hj => ?_⟩
  rw [hr'] at hj
  obtain rfl : j = i := by simpa using hj
  rw [hl]
  exact wpOp_of_list hi h
/-- two may come next -/
theorem kc_two {f : Nat} {listed l1 l2 : Array Bool} {o1 o2 : Oper} (i j : Nat) (hi : ops[i]? = some o1) (hj : ops[j]? = some o2) (hr : decide (Region.ready md ops listed = [i, j]) = true) (hl1 : listed.setIfInBounds i true = l1) (hl2 : listed.setIfInBounds j true = l2)
    (h1 : wpList P ops (Exit.then (fun a' w' => (nk.contains i = false → Below w.heap.size w w') ∧ C w' ∧ wpKC P md ops nk C Q f l1 a' w') Q) [o1] a w)
    (h2 : wpList P ops (Exit.then (fun a' w' => (nk.contains j = false → Below w.heap.size w w') ∧ C w' ∧ wpKC P md ops nk C Q f l2 a' w') Q) [o2] a w) : wpKC P md ops nk C Q (f + 1) listed a w := by
  have hr' := of_decide_eq_true hr
  refine ⟨fun h => (by rw [hr'] at h; cases h), fun k hk => ?_⟩
  rw [hr'] at hk
  simp only [List.mem_cons, List.not_mem_nil, or_false] at hk
  rcases hk with rfl | rfl
  · rw [hl1]; exact wpOp_of_list hi h1
  · rw [hl2]; exact wpOp_of_list hj h2
/-- three may come next -/
theorem kc_three {f : Nat} {listed l1 l2 l3 : Array Bool} {o1 o2 o3 : Oper} (i j m : Nat) (hi : ops[i]? = some o1) (hj : ops[j]? = some o2) (hm : ops[m]? = some o3) (hr : decide (Region.ready md ops listed = [i, j, m]) = true) (hl1 : listed.setIfInBounds i true = l1) (hl2 : listed.setIfInBounds j true = l2) (hl3 : listed.setIfInBounds m true = l3)
    (h1 : wpList P ops (Exit.then (fun a' w' => (nk.contains i = false → Below w.heap.size w w') ∧ C w' ∧ wpKC P md ops nk C Q f l1 a' w') Q) [o1] a w)
    (h2 : wpList P ops (Exit.then (fun a' w' => (nk.contains j = false → Below w.heap.size w w') ∧ C w' ∧ wpKC P md ops nk C Q f l2 a' w') Q) [o2] a w)
    (h3 : wpList P ops (Exit.then (fun a' w' => (nk.contains m = false → Below w.heap.size w w') ∧ C w' ∧ wpKC P md ops nk C Q f l3 a' w') Q) [o3] a w) : wpKC P md ops nk C Q (f + 1) listed a w := by
  have hr' := of_decide_eq_true hr
  refine ⟨fun h => (by rw [hr'] at h; cases h), fun k hk => ?_⟩
  rw [hr'] at hk
  simp only [List.mem_cons, List.not_mem_nil, or_false] at hk
  rcases hk with rfl | rfl | rfl
  · rw [hl1]; exact wpOp_of_list hi h1
  · rw [hl2]; exact wpOp_of_list hj h2
  · rw [hl3]; exact wpOp_of_list hm h3

end Go.Proofs.Ytafejnbfgkkjkaa

namespace Go.Proofs.Ytafejnbfgkkjkaa
open Go.RowKit Go.Sort

/-- as Q; by a goto to label l: J; by another goto: no way out -/
def jumpF (l : Nat) (J : Act → World → Prop) (Q : Exit → Act → World → Prop) : Exit → Act → World → Prop
  | .goto i, a, w => i = l ∧ J a w
  | e, a, w => Q e a w

variable {P : Program} {a : Act} {w : World} {Q : Exit → Act → World → Prop}

theorem wp_scope_fwd {c rest : Code} (l : Nat) (J : Act → World → Prop) (hf : findLabel c l = some rest) (h : c.wp P (jumpF l J Q) a w) (h' : ∀ a w, J a w → rest.wp P (Exit.noGoto Q) a w) : (Code.scope c).wp P Q a w := by
  intro b k cs
  obtain ⟨e, a1, w1, hq, ha⟩ := h b (.inScope c :: k) cs
  cases e with
  | normal => exact ⟨.normal, a1, w1, hq, .head step_scope (Steps.trans ha (.one step_inScope))⟩
  | exit i => exact ⟨.exit i, a1, w1, hq, fun k' hk => .head step_scope (ha k' (by simp [exitTo, hk]))⟩
  | goto i =>
    obtain ⟨rfl, hJ⟩ := hq
    have hg : gotoIn i (.inScope c :: k) = some (.code rest :: .inScope c :: k) := by simp [gotoIn, hf]
    have hs : Steps P (lone (b.at a (.code (.scope c) :: k)) cs w) (lone (b.at a1 (.code rest :: .inScope c :: k)) cs w1) := .head step_scope (ha _ hg)
    obtain ⟨e, a2, w2, hq2, ha2⟩ := h' a1 w1 hJ b (.inScope c :: k) cs
    cases e with
    | normal => exact ⟨.normal, a2, w2, hq2, hs.trans (Steps.trans ha2 (.one step_inScope))⟩
    | exit i => exact ⟨.exit i, a2, w2, hq2, fun k' hk => hs.trans (ha2 k' (by simp [exitTo, hk]))⟩
    | goto l => exact hq2.elim
    | ret => exact ⟨_, a2, w2, hq2, .of_steps hs ha2⟩
    | panic ch => exact ⟨_, a2, w2, hq2, .of_steps hs ha2⟩
    | outgrown => exact ⟨_, a2, w2, hq2, .of_steps hs ha2⟩
  | ret => exact ⟨_, a1, w1, hq, .of_steps (.one step_scope) ha⟩
  | panic ch => exact ⟨_, a1, w1, hq, .of_steps (.one step_scope) ha⟩
  | outgrown => exact ⟨_, a1, w1, hq, .of_steps (.one step_scope) ha⟩
theorem sj_normal {l : Nat} {J : Act → World → Prop} (h : Q .normal a w) : jumpF l J Q .normal a w := h
theorem sj_exit {l i : Nat} {J : Act → World → Prop} (h : Q (.exit i) a w) : jumpF l J Q (.exit i) a w := h
theorem sj_ret {l : Nat} {J : Act → World → Prop} (h : Q .ret a w) : jumpF l J Q .ret a w := h
theorem sj_goto {l : Nat} {J : Act → World → Prop} (h : J a w) : jumpF l J Q (.goto l) a w := ⟨rfl, h⟩
theorem then_goto {next : Act → World → Prop} {i : Nat} (h : Q (.goto i) a w) : Exit.then next Q (.goto i) a w := h
theorem block_goto {i j : Nat} (h : Q (.goto j) a w) : Exit.inBlock i Q (.goto j) a w := h

end Go.Proofs.Ytafejnbfgkkjkaa
