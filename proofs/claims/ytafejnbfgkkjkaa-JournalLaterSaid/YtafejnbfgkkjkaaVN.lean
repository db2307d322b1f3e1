/-
  The second walk: ranges over functions. What is walked for any frame is walked in a round, and where yield is called.
-/
import Derived.Test.YtafejnbfgkkjkaaGX
import Derived.Test.YtafejnbfgkkjkaaJoin
import Derived.RangeFuncLeaves
import Derived.RangeFuncRecord
import Derived.RangeFuncSeq
import Derived.OrdersIn
import Derived.TacticsIn
namespace Go.Proofs.Ytafejnbfgkkjkaa
open Go.RowKit Go.Sort
variable {ds : List Deferred}
variable {P : Program} {ops : Array Oper} {Q : Exit → Act → World → Prop} {md : Region.Mode} {rest : List Oper} {n d : Nat} {a : Act} {L : List (Nat × Value)} {w w0 : World} {v : Value} {o : Oper} {H : List Ent} {r : Option Nat}

/-- all functions, in the round r or in none -/
abbrev Fnc (r : Option Nat) : Fence := { fn := fun _ => True, depth := none, alive := false, round := r }
theorem callsIn_fr {k : Nat} {f : FuncId} {args : Array Value} {R : Ending → World → Prop} (h : Calls P f args w R) : CallsIn (Fnc r) k P f args w R := (callsIn_wide (n := k)).2 h
theorem rowsIn_fr {k : Nat} {row : String} {args : Array Value} {R : Value → World → Prop} (h : Rows P row args w R) : RowsIn (Fnc r) k P row args w R := fun c cs _ =>
  let ⟨v, w', h1, h2⟩ := h c cs; ⟨v, w', h1, (stepsIn_wide (P := P)).2 h2⟩
def noDefer (l : List Oper) : Bool := l.all fun o => match o.op with | .defer _ => false | _ => true
theorem noDefer_spec {l : List Oper} (h : noDefer l = true) {o : Oper} (ho : o ∈ l) : ∀ c, o.op ≠ .defer c := fun c hc => by
  have := List.all_eq_true.1 h o ho
  rw [hc] at this; cases this
theorem oper_in {next : Act → World → Prop} (hd : ∀ c, o.op ≠ .defer c) (h : o.wp P a w next Q) : o.wpIn (Fnc r) 0 P a w next Q := by
  refine ⟨fun _ _ => trivial, ?_⟩
  rw [Oper.semAt_eq _ _ _ hd]
  unfold Oper.wp at h
  generalize (execOp a.eval o).run P w = res at h ⊢
  cases res with
  | ok x w' =>
    cases x <;> simp only [Oper.upon] at h
    case value u => exact h
    case skip => exact h
    case defer d => exact h
    case enter f args => exact ⟨fun h => (by cases h), callsIn_fr h⟩
    case row row args => exact ⟨fun h => (by cases h), rowsIn_fr h⟩
  | halt x w' => cases x <;> simp only [Oper.upon] at h <;> exact h
theorem list_in : ∀ {l : List Oper} {a : Act} {w : World}, noDefer l = true → (∀ a w, ¬ Q .outgrown a w) → wpList P ops Q l a w → wpListIn (Fnc r) 0 P ops Q l a w
  | [], a, w, _, _, h => h
  | o :: l, a, w, hn, ho, h => by
    have hn' : noDefer l = true := by unfold noDefer at hn ⊢; simp only [List.all_cons, Bool.and_eq_true] at hn; exact hn.2
    unfold wpList at h
    unfold wpListIn
    split
    · rename_i hw
      rw [if_pos hw] at h
      rcases h with h | ⟨-, a', w', h⟩
      · exact Oper.wpIn_mono (fun a w h => list_in hn' ho h) (oper_in (noDefer_spec hn (List.mem_cons_self ..)) h)
      · exact absurd h (ho a' w')
    · rename_i hw
      rw [if_neg hw] at h
      exact ⟨fun _ _ => trivial, list_in hn' ho h⟩
/-- the first operations of a region, then the others -/
theorem listIn_pre : ∀ {l rest : List Oper} {a : Act} {w : World}, noDefer l = true → (∀ a w, ¬ Q .outgrown a w) → wpList P ops (Exit.then (fun a w => wpListIn (Fnc r) 0 P ops Q rest a w) Q) l a w → wpListIn (Fnc r) 0 P ops Q (l ++ rest) a w
  | [], rest, a, w, _, _, h => h
  | o :: l, rest, a, w, hn, ho, h => by
    have hn' : noDefer l = true := by unfold noDefer at hn ⊢; simp only [List.all_cons, Bool.and_eq_true] at hn; exact hn.2
    rw [List.cons_append]
    unfold wpList at h
    unfold wpListIn
    split
    · rename_i hw
      rw [if_pos hw] at h
      rcases h with h | ⟨-, a', w', h⟩
      · have h1 : o.wp P a w (fun a w => wpListIn (Fnc r) 0 P ops Q (l ++ rest) a w) Q := by
          have h2 : o.wp P a w (fun a w => wpListIn (Fnc r) 0 P ops Q (l ++ rest) a w) (Exit.then (fun a w => wpListIn (Fnc r) 0 P ops Q rest a w) Q) := Oper.wp_mono (fun a w h => listIn_pre hn' ho h) h
          unfold Oper.wp at h2 ⊢
          generalize (execOp a.eval o).run P w = res at h2 ⊢
          cases res with
          | ok x w' => cases x <;> exact h2
          | halt x w' => cases x <;> exact h2
        exact oper_in (noDefer_spec hn (List.mem_cons_self ..)) h1
      · exact absurd h (ho a' w')
    · rename_i hw
      rw [if_neg hw] at h
      exact ⟨fun _ _ => trivial, listIn_pre hn' ho h⟩
theorem any_in {l : List Oper} (hn : noDefer l = true) (ho : ∀ a w, ¬ Q .outgrown a w) : ∀ {f : Nat} {listed : Array Bool} {a : Act} {w : World}, wpAny P md l.toArray Q f listed a w → wpAnyIn (Fnc r) 0 P md l.toArray Q f listed a w
  | 0, _, _, _, h => h
  | f + 1, listed, a, w, h => by
    refine ⟨h.1, fun i hi => ?_⟩
    have h1 := h.2 i hi
    unfold wpOp at h1
    unfold wpOpIn
    split
    · rename_i he; simp only [he] at h1; exact any_in hn ho h1
    · rename_i o he
      simp only [he] at h1
      have hm : o ∈ l := by
        have := Array.mem_of_getElem? he
        simpa using this
      split
      · rename_i hw
        simp only [hw, if_true] at h1
        rcases h1 with h1 | ⟨-, a', w', h1⟩
        · exact Oper.wpIn_mono (fun a w h => any_in hn ho h) (oper_in (noDefer_spec hn hm) h1)
        · exact absurd h1 (ho a' w')
      · rename_i hw
        simp only [hw] at h1
        exact ⟨fun _ _ => trivial, any_in hn ho h1⟩

/-! ### codes in a round -/
theorem wpI_region {id : Nat} {l : List Oper} (hn : noDefer l = true) (ho : ∀ a w, ¬ Q .outgrown a w) (h : wpList P l.toArray Q l a w) : (Code.region id l.toArray false).wpIn (Fnc r) 0 P Q a w := wpIn_region_lit (list_in hn ho h)
theorem wpI_pre {id : Nat} (l1 l2 : List Oper) (hn : noDefer l1 = true) (ho : ∀ a w, ¬ Q .outgrown a w) (h : wpList P (l1 ++ l2).toArray (Exit.then (fun a w => wpListIn (Fnc r) 0 P (l1 ++ l2).toArray Q l2 a w) Q) l1 a w) : (Code.region id (l1 ++ l2).toArray false).wpIn (Fnc r) 0 P Q a w := wpIn_region_lit (listIn_pre hn ho h)
theorem wpI_cut {x y : Code} (I : Act → World → Prop) (h1 : x.wpIn (Fnc r) 0 P (Exit.then I Q) a w) (h2 : ∀ a w, I a w → y.wpIn (Fnc r) 0 P Q a w) : (Code.seq x y).wpIn (Fnc r) 0 P Q a w :=
  wpIn_seq (wpIn_mono h1 fun e a w h => by cases e <;> first | exact h2 a w h | exact h)
theorem stI_condT {c : Operand} {x y : Code} (S : SeesD ds n a L) (h : val L c = some (.bool true)) (k : x.wpIn (Fnc r) 0 P Q a w) : (Code.cond c x y).wpIn (Fnc r) 0 P Q a w := wpIn_cond_true (S.eval h) k
theorem stI_condF {c : Operand} {x y : Code} (S : SeesD ds n a L) (h : val L c = some (.bool false)) (k : y.wpIn (Fnc r) 0 P Q a w) : (Code.cond c x y).wpIn (Fnc r) 0 P Q a w := wpIn_cond_false (S.eval h) k
theorem wpI_regionK {id : Nat} {l : List Oper} (nk : List Nat) (listed : Array Bool) (hl : Array.replicate l.length false = listed) (M : Mem w0 w H) (hm : P.follows .mixedOrders = true) (hn : noDefer l = true) (ho : ∀ a w, ¬ Q .outgrown a w)
    (h : ∀ w, Mem w0 w H → wpK P .any l.toArray nk Q l.length listed a w) : (Code.region id l.toArray true).wpIn (Fnc r) 0 P Q a w := by
  subst hl
  exact wpIn_region_any hm (any_in hn ho (wpAny_of_wpK _ _ _ _ (by have := h _ M.drew; simpa using this)))
open Classical in
theorem wpI_loop_g {c : Code} (I : Nat → Act → World → Prop) (m0 : Nat) (h0 : I m0 a w) (round : ∀ m a w, I m a w → c.wpIn (Fnc r) 0 P (Exit.then (fun a' w' => ∃ m', m' < m ∧ I m' a' w') Q) a w) : (Code.loop c).wpIn (Fnc r) 0 P Q a w := by
  let μ : Act → World → Nat := fun a w => if h : ∃ k, I k a w ∧ ∀ j, j < k → ¬ I j a w then Classical.choose h else 0
  have hμ : ∀ a w m, I m a w → I (μ a w) a w ∧ μ a w ≤ m := fun a w m hm => by
    have h := least (p := fun k => I k a w) m hm
    have hs := Classical.choose_spec h
    have e : μ a w = Classical.choose h := dif_pos h
    rw [e]
    exact ⟨hs.1, Nat.le_of_not_lt fun hlt => hs.2 m hlt hm⟩
  refine wpIn_loop (fun a w => ∃ m, I m a w) μ ⟨m0, h0⟩ fun a w ⟨m, hm⟩ => ?_
  refine wpIn_mono (round _ a w (hμ a w m hm).1) fun e a' w' h => ?_
  cases e <;> try exact h
  obtain ⟨m', hlt, hm'⟩ := h
  exact ⟨⟨m', hm'⟩, Nat.lt_of_le_of_lt (hμ a' w' m' hm').2 hlt⟩

/-! ### what is ranged over -/
/-- a call of yield, whatever round -/
abbrev Yld (P : Program) (l : Nat) (args : List Value) (w : World) (R : Ending → World → Prop) : Prop := YieldAt (Fnc none) 0 P l args.toArray w R
/-- the function gf, with what it has caught, gives these, one behind the other; C: what it reads -/
def Gen {α : Type} (P : Program) (gf : FuncId) (lb : List Value) (encs : α → List Value) (xs : List α) (C : World → Prop) : Prop :=
  ∀ (l : Nat) (I : List α → World → Prop) (w : World), (∀ pre w, I pre w → C w) → (∀ pre w w', I pre w → Below w.heap.size w w' → I pre w') →
    (∀ pre x t w1, xs = pre ++ x :: t → I pre w1 → Yld P l (encs x) w1 fun e w2 => e = .returned (.bool true) ∧ I (pre ++ [x]) w2) → I [] w →
    CallsIn (Fnc none) 0 P gf ((.func (.yield l) #[] #[] :: lb).toArray) w fun e w' => (∃ v, e = .returned v) ∧ I xs w'

/-- a call of yield, as an operation -/
theorem stI_yield {fx : Operand} {xs : List Operand} {vs : List Value} {l : Nat} {R : Ending → World → Prop} (S : SeesD ds n a L) {d : Nat} {ts : Array TypeId} {t : TypeId} {p : String} {e : Array Edge} {g : Option (Nat × Bool)}
    (hg : gd ops L ⟨some d, .call { callee := .value fx, args := xs.toArray, argTypes := ts }, t, p, e, g⟩ = some true) (hn : Nat.blt d n = true) (hf : val L fx = some (.func (.yield l) #[] #[])) (hx : vals L xs = some vs) (hY : Yld P l vs w R)
    (k : ∀ e w', R e w' → ∃ v, e = .returned v ∧ ∀ a, SeesD ds n a ((d, v) :: L) → wpListIn (Fnc none) 0 P ops Q rest a w') : wpListIn (Fnc none) 0 P ops Q (⟨some d, .call { callee := .value fx, args := xs.toArray, argTypes := ts }, t, p, e, g⟩ :: rest) a w := by
  unfold wpListIn
  rw [if_pos (gd_spec S hg)]
  refine ⟨fun _ _ => trivial, ?_⟩
  obtain ⟨fn, tmps, assign, body, hy, hR⟩ := hY
  have h : xs.toArray.map a.eval = vs.toArray := by rw [← S.evals hx]; simp
  have hr : (execOp a.eval ⟨some d, .call { callee := .value fx, args := xs.toArray, argTypes := ts }, t, p, e, g⟩).run P w = .ok (.round l fn tmps assign body) w := by
    unfold execOp
    simp only [resolve, h, S.eval hf, Deferred.ofValue, Sem.run_bind, Sem.run_pure, Result.andThen_ok, invoke]
    rw [show (#[] : Array Value) ++ vs.toArray = vs.toArray by simp]
    exact hy
  rw [show (Fnc none).round = none from rfl, Oper.semAt_none, hr, Oper.uponIn_round]
  refine ⟨fun h => (by cases h), hR.mono fun e w' hR => ?_⟩
  obtain ⟨v, rfl, hk⟩ := k e w' hR
  exact hk _ (S.put hn v)

/-! ### a range over a function, of which each round goes on -/
def putsL : List Nat → List Value → List (Nat × Value) → List (Nat × Value)
  | p :: ps, v :: vs, L => putsL ps vs ((p, v) :: L)
  | _, _, L => L
theorem sees_puts : ∀ (ps : List Nat) (vs : List Value) {a : Act} {L : List (Nat × Value)}, (ps.all fun p => Nat.blt p n) = true → SeesD ds n a L → SeesD ds n { a with tmps := (ps.zip vs).foldl (fun t (q : Nat × Value) => t.setIfInBounds q.1 q.2) a.tmps } (putsL ps vs L)
  | [], _, a, L, _, S => by simpa [putsL] using S
  | p :: ps, [], a, L, _, S => by simpa [putsL] using S
  | p :: ps, v :: vs, a, L, hp, S => by
    simp only [List.all_cons, Bool.and_eq_true] at hp
    exact sees_puts ps vs hp.2 (S.put hp.1 v)
/-- what the loop keeps of itself -/
abbrev kE (D : Nat) (R : Loop) : Ent := .own D (D + 2) fun W => W.heap[D]? = some (.deferred (some [])) ∧ W.heap[D + 1]? = some (.loop R)
abbrev markE (D : Nat) : Ent := .own D (D + 2) fun W => W.heap[D]? = some (.deferred (some []))
abbrev markD (D : Nat) : Deferred := { target := .collected D, args := #[] }
theorem Mem.keep {D : Nat} {R R' : Loop} {W : World} (M : Mem w0 W (kE D R :: H)) : W.heap[D + 1]? = some (.loop R) ∧ Mem w0 (W.putObj (D + 1) (.loop R')) (kE D R' :: H) := by
  have h := M.own 0 rfl
  have hlt := (Array.getElem?_eq_some_iff.1 h.2).1
  refine ⟨h.2, ?_⟩
  have hoth : ∀ k, k ≠ D + 1 → (W.putObj (D + 1) (.loop R')).heap[k]? = W.heap[k]? := fun k hk => World.putObj_heap_other hk
  refine M.change (e' := kE D R') 0 rfl rfl rfl (fun W' hs => ⟨?_, ?_⟩) (by simp [World.putObj]) rfl rfl rfl (fun k hk => hoth k (fun e => hk (by subst e; simp [Ent.lo, Ent.hi])))
  · rw [hs D (Nat.le_refl _) (by omega), hoth D (by omega)]; exact h.1
  · rw [hs (D + 1) (by omega) (by omega)]; exact World.putObj_heap_same hlt
def roundQ (w0 : World) (B : Ent) (J : List Ent → Prop) : Exit → Act → World → Prop
  | .normal, _, W => ∃ Hs, Mem w0 W (B :: Hs) ∧ J Hs
  | _, _, _ => False
theorem wp_range {α : Type} {g : Operand} {ps : List Tmp} {assign body : Code} {gf : FuncId} {lb : List Value} {encs : α → List Value} {xs : List α} {C : World → Prop}
    (S : SeesD ds n a L) (M : Mem w0 w H) (hg : val L g = some (.func (.func gf) #[] lb.toArray)) (hE : Enters P gf) (G : Gen P gf lb encs xs C) (hps : ∀ x, (encs x).length = ps.length) (hpn : (ps.all fun p => Nat.blt p n) = true)
    (I : List α → List Ent → Prop) (h0 : I [] H) (hC : ∀ pre Hs W, I pre Hs → Mem w0 W Hs → C W)
    (hround : ∀ (l : Nat) (pre : List α) (x : α) (t : List α) (Hs : List Ent) (W : World) (B : Ent) (a' : Act), xs = pre ++ x :: t → I pre Hs → Mem w0 W (B :: Hs) → Sees n a' (putsL ps (encs x) L) →
      assign.wpIn (Fnc (some l)) 0 P (Exit.then (fun a1 W1 => ∃ Hs1, Mem w0 W1 (B :: Hs1) ∧ ∀ (W2 : World) (B2 : Ent), Mem w0 W2 (B2 :: Hs1) → body.wpIn (Fnc (some l)) 0 P (roundQ w0 B2 (I (pre ++ [x]))) a1 W2) (fun _ _ _ => False)) a' W)
    (hdone : ∀ (D : Nat) (W : World) (Hs : List Ent) (a' : Act), I xs Hs → Mem w0 W (markE D :: Hs) → SeesD (markD D :: ds) n a' L → Q .normal a' W) :
    (Code.rangeFunc g ps.toArray assign body).wp P Q a w := by
  refine (wpIn_wide (n := 0)).1 (wpIn_rangeFunc fun fn _ => ?_)
  obtain ⟨rec, hrec⟩ : ∃ rec : LoopState → Option Code → Loop, rec = fun st pe => { state := st, pending := pe, fn, tmps := a.tmps, params := ps.toArray, assign, body, defers := w.heap.size } := ⟨_, rfl⟩
  obtain ⟨W1, hW1⟩ : ∃ W1, (w.alloc (.deferred (some []))).alloc (.loop (rec .ready none)) = W1 := ⟨_, rfl⟩
  have M1 : Mem w0 W1 (kE w.heap.size (rec .ready none) :: H) := by
    rw [← hW1]
    refine M.push (ext_alloc (ext_alloc (ext_refl _) _) _) _ (fun W' hs => ⟨?_, ?_⟩) (Nat.le_refl _) (by simp [Ent.hi])
    · rw [hs w.heap.size (Nat.le_refl _) (by omega)]; exact (Below.heap_alloc _ _ _ (by simp)).trans (World.alloc_heap_new w _)
    · rw [hs (w.heap.size + 1) (by omega) (by omega)]
      have := World.alloc_heap_new (w.alloc (.deferred (some []))) (.loop (rec .ready none))
      rwa [World.size_alloc] at this
  have hev : a.eval g = .func (.func gf) #[] lb.toArray := S.eval hg
  refine ⟨w.heap.size + 1, [markD w.heap.size], W1, { target := .fn (.func gf) lb.toArray, args := #[.func (.yield (w.heap.size + 1)) #[] #[]] }, W1, gf, (.func (.yield (w.heap.size + 1)) #[] #[] :: lb).toArray, W1, ?_, ?_, fun _ _ => trivial, ?_, fun h => (by cases h), ?_⟩
  · rw [← hW1, hrec]; exact run_enterLoop_outer _ _ _ _ _
  · simp only [resolve, hev]
    simp [go_sem]
  · have := hE ((.func (.yield (w.heap.size + 1)) #[] #[] :: lb).toArray) W1
    simpa [invoke, go_sem] using this
  · refine CallsIn.mono (G (w.heap.size + 1) (fun pre W => ∃ Hs, Mem w0 W (kE w.heap.size (rec .ready none) :: Hs) ∧ I pre Hs) W1 (fun pre W ⟨Hs, M, h⟩ => hC pre Hs W h (M.drop 0)) (fun pre W W' ⟨Hs, M, h⟩ hb => ⟨Hs, M.grow hb, h⟩) ?_ ⟨H, M1, h0⟩) ?_
    · rintro pre x t W hx ⟨Hs, MW, hI⟩
      have hl := (MW.keep (R' := rec .ready none)).1
      have hy := run_yield (P := P) (args := (encs x).toArray) hl (by rw [hrec]; simp [hps x])
      rw [hrec] at hy
      refine ⟨fn, _, assign, body, hy, roundIn_of_wpIn trivial ?_⟩
      have hS : Sees n { tmps := (ps.toArray.zip (encs x).toArray).foldl (fun t (p, v) => t.setIfInBounds p v) a.tmps, defers := [] } (putsL ps (encs x) L) := by
        have h1 := sees_puts ps (encs x) hpn S
        have e : (ps.toArray.zip (encs x).toArray).foldl (fun t (p, v) => t.setIfInBounds p v) a.tmps = (ps.zip (encs x)).foldl (fun t (q : Nat × Value) => t.setIfInBounds q.1 q.2) a.tmps := by
          rw [List.zip_toArray, List.foldl_toArray]
        rw [e]
        exact ⟨h1.size, rfl, h1.at_, h1.lt⟩
      refine wpIn_mono (hround (w.heap.size + 1) pre x t Hs W _ _ hx hI MW hS) fun e a1 W2 h => ?_
      cases e with
      | normal =>
        obtain ⟨Hs1, M2, hb⟩ := h
        obtain ⟨hl2, M3⟩ := M2.keep (R' := { rec .ready none with state := .busy })
        refine ⟨_, run_beginRound hl2 (by rw [hrec]), ?_⟩
        refine wpIn_mono (hb _ _ M3) fun e a3 W3 h3 => ?_
        cases e with
        | normal =>
          obtain ⟨Hs3, M4, h4⟩ := h3
          obtain ⟨hl4, M5⟩ := M4.keep (R' := rec .ready none)
          have he := run_endRound (P := P) none hl4
          have e1 : ({ rec .ready none with state := LoopState.busy } : Loop).pending = none := by rw [hrec]
          have e2 : ({ ({ rec .ready none with state := LoopState.busy } : Loop) with state := if (none : Option Code).isNone then LoopState.ready else LoopState.done, pending := none } : Loop) = rec .ready none := by rw [hrec]; rfl
          rw [e2] at he
          exact ⟨_, _, he, rfl, Hs3, M5, h4⟩
        | exit id => exact h3.elim
        | goto t => exact h3.elim
        | ret => exact h3.elim
        | panic ch => exact h3.elim
        | outgrown => exact h3.elim
      | exit id => exact h.elim
      | goto t => exact h.elim
      | ret => exact h.elim
      | panic ch => exact h.elim
      | outgrown => exact h.elim
    · rintro e W2 ⟨⟨v, rfl⟩, Hs, M2, hI⟩
      obtain ⟨hl, M3⟩ := M2.keep (R' := { rec .ready none with state := .exhausted })
      have he := run_endLoop (P := P) hl (by rw [hrec]; simp)
      have he' : (Instr.endLoop (w.heap.size + 1)).run P W2 = .ok none (W2.putObj (w.heap.size + 1) (.loop { rec .ready none with state := .exhausted })) := he.trans (by rw [hrec])
      refine ⟨none, _, he', hdone w.heap.size _ Hs _ hI ?_ ⟨S.size, by rw [← S.defers]; rfl, S.at_, S.lt⟩⟩
      have h := M3.own 0 rfl
      refine M3.change (e' := markE w.heap.size) 0 rfl rfl rfl (fun W' hs => ?_) rfl rfl rfl rfl fun _ _ => rfl
      show W'.heap[w.heap.size]? = _
      rw [hs w.heap.size (Nat.le_refl _) (by omega)]; exact h.1

/-! ### functions that hold such a range -/
/-- such a function's end: no panic -/
def postM (P : Program) (fn : Func) (R : Ending → World → Prop) : Exit → Act → World → Prop
  | .normal, a, w => bodyPostM (Fnc none) 0 P fn R .normal a w
  | .ret, a, w => bodyPostM (Fnc none) 0 P fn R .ret a w
  | _, _, _ => False
theorem calls_enterM {f : FuncId} {fn : Func} {c : Code} {args : Array Value} {w : World} {R : Ending → World → Prop}
    (hf : P.funcs[f]? = some fn) (hb : fn.body = some c) (n : Nat) (hn : fn.ntmps = n) (hle : Nat.ble args.size n = true)
    (h : ∀ a, Sees n a (argSlots 0 args.toList) → c.wp P (postM P fn R) a w) : Calls P f args w R := by
  refine (callsIn_wide (n := 0)).1 (callsIn_of_wp_marks hf hb trivial ((wpIn_wide (n := 0)).2 (wp_mono (h _ ?_) fun e a w h => by cases e <;> first | exact h | exact h.elim)) rfl)
  have hle' : args.size ≤ n := by simpa using hle
  refine ⟨by simp [hn]; omega, rfl, fun t v hv hlt => ?_, fun t v hv => ?_⟩
  · obtain ⟨_, h2, h3⟩ := look_argSlots _ _ _ _ hv
    simp only [Nat.zero_add, Nat.sub_zero, Array.length_toList] at h2 h3
    simp only [Array.getD_eq_getD_getElem?]
    rw [Array.getElem?_append_left h2]
    simpa using by rw [← Array.getElem?_toList, h3]; rfl
  · obtain ⟨_, h2, _⟩ := look_argSlots _ _ _ _ hv
    simp only [Nat.zero_add, Array.length_toList] at h2
    omega

theorem calls_enterG {f : FuncId} {fn : Func} {c : Code} {args : Array Value} {w : World} {R : Ending → World → Prop}
    (hf : P.funcs[f]? = some fn) (hb : fn.body = some c) (n : Nat) (hn : fn.ntmps = n) (hle : Nat.ble args.size n = true)
    (h : ∀ a, Sees n a (argSlots 0 args.toList) → c.wpIn (Fnc none) 0 P (bodyPost P fn R) a w) : CallsIn (Fnc none) 0 P f args w R := by
  refine callsIn_of_wp hf hb trivial (h _ ?_) rfl
  have hle' : args.size ≤ n := by simpa using hle
  refine ⟨by simp [hn]; omega, rfl, fun t v hv hlt => ?_, fun t v hv => ?_⟩
  · obtain ⟨_, h2, h3⟩ := look_argSlots _ _ _ _ hv
    simp only [Nat.zero_add, Nat.sub_zero, Array.length_toList] at h2 h3
    simp only [Array.getD_eq_getD_getElem?]
    rw [Array.getElem?_append_left h2]
    simpa using by rw [← Array.getElem?_toList, h3]; rfl
  · obtain ⟨_, h2, _⟩ := look_argSlots _ _ _ _ hv
    simp only [Nat.zero_add, Array.length_toList] at h2
    omega
theorem wpI_preK {id : Nat} {l : List Oper} (k : Nat) (hn : noDefer l = true) (ho : ∀ a w, ¬ Q .outgrown a w) (h : wpList P l.toArray (Exit.then (fun a w => wpListIn (Fnc r) 0 P l.toArray Q (l.drop k) a w) Q) (l.take k) a w) : (Code.region id l.toArray false).wpIn (Fnc r) 0 P Q a w := by
  refine wpIn_region_lit ?_
  have hn' : noDefer (l.take k) = true := by
    unfold noDefer at hn ⊢
    exact List.all_eq_true.2 fun o ho => List.all_eq_true.1 hn o (List.mem_of_mem_take ho)
  have := listIn_pre (rest := l.drop k) hn' ho h
  rwa [List.take_append_drop] at this
theorem end_plain {fn : Func} {R : Ending → World → Prop} (h : bodyPost P fn R .ret a w) : postM P fn R .ret a w := by
  obtain ⟨h1, h2⟩ := h
  show LeavesInM (Fnc none) 0 P fn a.tmps R a.defers .returning w
  rw [h1]; exact h2
theorem end_plainN {fn : Func} {R : Ending → World → Prop} (h : bodyPost P fn R .normal a w) : postM P fn R .normal a w := by
  obtain ⟨h1, h2⟩ := h
  show LeavesInM (Fnc none) 0 P fn a.tmps R a.defers .returning w
  rw [h1]; exact h2
theorem end_mark {fn : Func} {R : Ending → World → Prop} {D : Nat} (S : SeesD (markD D :: ds) n a L) (M : Mem w0 w H) (p : Nat) (h : H[p]? = some (markE D)) (k : ∀ a' w', SeesD ds n a' L → Mem w0 w' (H.eraseIdx p) → postM P fn R .ret a' w') : postM P fn R .ret a w := by
  show LeavesInM (Fnc none) 0 P fn a.tmps R a.defers .returning w
  rw [S.defers]
  have hh := M.own p h
  have M2 : Mem w0 (w.putObj D (.deferred none)) (H.eraseIdx p) := by
    have := (M.change (w' := w.putObj D (.deferred none)) (e' := .own D (D + 2) fun _ => True) p h rfl rfl (fun _ _ => trivial) (by simp [World.putObj]) rfl rfl rfl (fun j hj => World.putObj_heap_other (fun e => hj (by subst e; simp [Ent.lo, Ent.hi])))).drop p
    rwa [List.eraseIdx_set_eq] at this
  exact ⟨by simp, .inl ⟨D, _, rfl, run_takeDeferred hh, k { a with defers := ds } _ ⟨S.size, rfl, S.at_, S.lt⟩ M2⟩⟩
theorem end_markN {fn : Func} {R : Ending → World → Prop} {D : Nat} (S : SeesD (markD D :: ds) n a L) (M : Mem w0 w H) (p : Nat) (h : H[p]? = some (markE D)) (k : ∀ a' w', SeesD ds n a' L → Mem w0 w' (H.eraseIdx p) → postM P fn R .normal a' w') : postM P fn R .normal a w := end_mark S M p h k

end Go.Proofs.Ytafejnbfgkkjkaa
