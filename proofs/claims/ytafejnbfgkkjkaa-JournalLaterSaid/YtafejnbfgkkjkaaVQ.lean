/-
  The second walk: ranges over functions whose values are made in each round.
-/
import Derived.Test.YtafejnbfgkkjkaaVP
namespace Go.Proofs.Ytafejnbfgkkjkaa
open Go.RowKit Go.Sort
variable {ds : List Deferred}
variable {P : Program} {ops : Array Oper} {Q : Exit → Act → World → Prop} {md : Region.Mode} {rest : List Oper} {n d : Nat} {a : Act} {L : List (Nat × Value)} {w w0 : World} {v : Value} {o : Oper} {H : List Ent} {r : Option Nat}

/-- the function gf, with what it has caught, gives these, one behind the other, until it is told to stop; what it gives is made in each round (E: what the generator owns meanwhile); C: what it reads -/
def GenV {α : Type} (P : Program) (gf : FuncId) (lb : List Value) (V : α → List Value → List Ent → Prop) (xs : List α) (C : World → Prop) : Prop :=
  ∀ (l : Nat) (w0 : World) (I X : List α → List Ent → Prop) (w : World) (Hs : List Ent), (∀ pre Hs W, I pre Hs → Mem w0 W Hs → C W) →
    (∀ pre x t E vs Hs W, xs = pre ++ x :: t → V x vs E → I pre Hs → Mem w0 W (E ++ Hs) → Yld P l vs W fun e W' => ∃ Hs', Mem w0 W' (E ++ Hs') ∧ ((e = .returned (.bool true) ∧ I (pre ++ [x]) Hs') ∨ (e = .returned (.bool false) ∧ X (pre ++ [x]) Hs'))) →
    I [] Hs → Mem w0 w Hs →
    CallsIn (Fnc none) 0 P gf ((.func (.yield l) #[] #[] :: lb).toArray) w fun e W => (∃ v, e = .returned v) ∧ ∃ Hs', Mem w0 W Hs' ∧ (I xs Hs' ∨ ∃ pre x t, xs = pre ++ x :: t ∧ X (pre ++ [x]) Hs')
theorem wp_rangeV {α : Type} {g : Operand} {ps : List Tmp} {assign body : Code} {gf : FuncId} {lb : List Value} {V : α → List Value → List Ent → Prop} {xs : List α} {C : World → Prop}
    (S : SeesD ds n a L) (M : Mem w0 w H) (hg : val L g = some (.func (.func gf) #[] lb.toArray)) (hE : Enters P gf) (G : GenV P gf lb V xs C) (hps : ∀ x vs E, V x vs E → vs.length = ps.length) (hpn : (ps.all fun p => Nat.blt p n) = true)
    (I : List α → List Ent → Prop) (X : Code → List α → List Ent → Prop) (h0 : I [] H) (hC : ∀ pre Hs W T, I pre Hs → Mem w0 W (Hs ++ T) → C W)
    (hround : ∀ (l : Nat) (pre : List α) (x : α) (t : List α) (Hs E : List Ent) (vs : List Value) (W : World) (B : Ent) (a' : Act), xs = pre ++ x :: t → V x vs E → I pre Hs → Mem w0 W (Hs ++ B :: E) → Sees n a' (putsL ps vs L) →
      assign.wpIn (Fnc (some l)) 0 P (Exit.then (fun a1 W1 => ∃ Hs1, Mem w0 W1 (Hs1 ++ B :: E) ∧ ∀ (W2 : World) (B2 : Ent), Mem w0 W2 (Hs1 ++ B2 :: E) → body.wpIn (Fnc (some l)) 0 P (roundX w0 (B2 :: E) (I (pre ++ [x])) (fun c => X c (pre ++ [x]))) a1 W2) (fun _ _ _ => False)) a' W)
    (hdone : ∀ (D : Nat) (W : World) (Hs : List Ent) (a' : Act), I xs Hs → Mem w0 W (markE D :: Hs) → SeesD (markD D :: ds) n a' L → Q .normal a' W)
    (hstop : ∀ (D : Nat) (W : World) (Hs : List Ent) (a' : Act) (c : Code) (pre : List α) (x : α) (t : List α), xs = pre ++ x :: t → X c (pre ++ [x]) Hs → Mem w0 W (markE D :: Hs) → SeesD (markD D :: ds) n a' L → c.wp P Q a' W) :
    (Code.rangeFunc g ps.toArray assign body).wp P Q a w := by
  refine (wpIn_wide (n := 0)).1 (wpIn_rangeFunc fun fn _ => ?_)
  obtain ⟨rec, hrec⟩ : ∃ rec : LoopState → Option Code → Loop, rec = fun st pe => { state := st, pending := pe, fn, tmps := a.tmps, params := ps.toArray, assign, body, defers := w.heap.size } := ⟨_, rfl⟩
  obtain ⟨W1, hW1⟩ : ∃ W1, (w.alloc (.deferred (some []))).alloc (.loop (rec .ready none)) = W1 := ⟨_, rfl⟩
  have M1 : Mem w0 W1 (kE w.heap.size (rec .ready none) :: H) := by
    rw [← hW1]
    refine M.push (ext_alloc (ext_alloc (ext_refl _) _) _) _ (fun W' hs => ⟨?_, ?_⟩) (Nat.le_refl _) (by simp [Ent.hi])
    · rw [hs w.heap.size (Nat.le_refl _) (by omega)]; exact (Below.heap_alloc _ _ _ (by simp)).trans (World.alloc_heap_new w _)
    · rw [hs (w.heap.size + 1) (by omega) (by omega)]
      have := World.alloc_heap_new (w.alloc (.deferred (some []))) (.loop (rec .ready none))
      rwa [World.size_alloc] at this
  have hev : a.eval g = .func (.func gf) #[] lb.toArray := S.eval hg
  have fin : ∀ (R R' : Loop) (Hs : List Ent) (W : World), Mem w0 W (kE w.heap.size R :: Hs) → Mem w0 (W.putObj (w.heap.size + 1) (.loop R')) (markE w.heap.size :: Hs) := fun R R' Hs W M2 => by
    have M3 := (M2.keep (R' := R')).2
    have h := M3.own 0 rfl
    refine M3.change (e' := markE w.heap.size) 0 rfl rfl rfl (fun W' hs => ?_) rfl rfl rfl rfl fun _ _ => rfl
    show W'.heap[w.heap.size]? = _
    rw [hs w.heap.size (Nat.le_refl _) (by omega)]; exact h.1
  refine ⟨w.heap.size + 1, [markD w.heap.size], W1, { target := .fn (.func gf) lb.toArray, args := #[.func (.yield (w.heap.size + 1)) #[] #[]] }, W1, gf, (.func (.yield (w.heap.size + 1)) #[] #[] :: lb).toArray, W1, ?_, ?_, fun _ _ => trivial, ?_, fun h => (by cases h), ?_⟩
  · rw [← hW1, hrec]; exact run_enterLoop_outer _ _ _ _ _
  · simp only [resolve, hev]
    simp [go_sem]
  · have := hE ((.func (.yield (w.heap.size + 1)) #[] #[] :: lb).toArray) W1
    simpa [invoke, go_sem] using this
  · refine CallsIn.mono (G (w.heap.size + 1) w0 (fun pre Hs => ∃ H1, Hs = kE w.heap.size (rec .ready none) :: H1 ∧ I pre H1) (fun pre Hs => ∃ c H1, Hs = kE w.heap.size (rec .done (some c)) :: H1 ∧ X c pre H1) W1 _ ?_ ?_ ⟨H, rfl, h0⟩ M1) ?_
    · rintro pre Hs W ⟨H1, rfl, hI⟩ M2
      exact hC pre H1 W [kE w.heap.size (rec .ready none)] hI (Mem.turn (E := []) M2)
    · rintro pre x t E vs Hs W hx hV ⟨H1, rfl, hI⟩ MW
      have MW2 := MW.turn
      have hl := (Mem.keep (R' := rec .ready none) MW2.tailK).1
      have hy := run_yield (P := P) (args := vs.toArray) hl (by rw [hrec]; simp [hps x vs E hV])
      rw [hrec] at hy
      refine ⟨fn, _, assign, body, hy, roundIn_of_wpIn trivial ?_⟩
      have hS : Sees n { tmps := (ps.toArray.zip (vs).toArray).foldl (fun t (p, v) => t.setIfInBounds p v) a.tmps, defers := [] } (putsL ps (vs) L) := by
        have h1 := sees_puts ps (vs) hpn S
        have e : (ps.toArray.zip (vs).toArray).foldl (fun t (p, v) => t.setIfInBounds p v) a.tmps = (ps.zip (vs)).foldl (fun t (q : Nat × Value) => t.setIfInBounds q.1 q.2) a.tmps := by
          rw [List.zip_toArray, List.foldl_toArray]
        rw [e]
        exact ⟨h1.size, rfl, h1.at_, h1.lt⟩
      refine wpIn_mono (hround (w.heap.size + 1) pre x t H1 E vs W (kE w.heap.size (rec .ready none)) _ hx hV hI MW2 hS) fun e a1 W2 h => ?_
      cases e with
      | normal =>
        obtain ⟨Hs1, M2, hb⟩ := h
        obtain ⟨hl2, M3⟩ := Mem.keep (R' := { rec .ready none with state := .busy }) M2.tailK
        refine ⟨_, run_beginRound hl2 (by rw [hrec]), ?_⟩
        refine wpIn_mono (hb _ _ M3.backK) fun e a3 W3 h3 => ?_
        have ends : ∀ (jump : Option Code) (Hs3 : List Ent), Mem w0 W3 (Hs3 ++ kE w.heap.size { rec .ready none with state := .busy } :: E) → ∃ W', (Instr.endRound (w.heap.size + 1) jump).run P W3 = .ok (.bool jump.isNone) W' ∧ Mem w0 W' (E ++ kE w.heap.size (rec (if jump.isNone then .ready else .done) jump) :: Hs3) := fun jump Hs3 M4 => by
          obtain ⟨hl4, M5⟩ := Mem.keep (R' := rec (if jump.isNone then .ready else .done) jump) M4.tailK
          have he := run_endRound (P := P) jump hl4
          have e2 : ({ ({ rec .ready none with state := LoopState.busy } : Loop) with state := if jump.isNone then LoopState.ready else LoopState.done, pending := jump } : Loop) = rec (if jump.isNone then .ready else .done) jump := by rw [hrec]
          rw [e2] at he
          exact ⟨_, he, M5.backK.turnB⟩
        cases e with
        | normal =>
          obtain ⟨Hs3, M4, h4⟩ := h3
          obtain ⟨W', he, M5⟩ := ends none Hs3 M4
          exact ⟨_, _, he, _, M5, .inl ⟨rfl, Hs3, rfl, h4⟩⟩
        | ret =>
          obtain ⟨Hs3, M4, h4⟩ := h3
          obtain ⟨W', he, M5⟩ := ends (some .ret) Hs3 M4
          exact ⟨_, _, he, _, M5, .inr ⟨rfl, _, Hs3, rfl, h4⟩⟩
        | exit id =>
          obtain ⟨Hs3, M4, h4⟩ := h3
          obtain ⟨W', he, M5⟩ := ends (some (.exit id)) Hs3 M4
          exact ⟨_, _, he, _, M5, .inr ⟨rfl, _, Hs3, rfl, h4⟩⟩
        | goto t =>
          obtain ⟨Hs3, M4, h4⟩ := h3
          obtain ⟨W', he, M5⟩ := ends (some (.goto t)) Hs3 M4
          exact ⟨_, _, he, _, M5, .inr ⟨rfl, _, Hs3, rfl, h4⟩⟩
        | panic ch => exact h3.elim
        | outgrown => exact h3.elim
      | exit id => exact h.elim
      | goto t => exact h.elim
      | ret => exact h.elim
      | panic ch => exact h.elim
      | outgrown => exact h.elim
    · rintro e W2 ⟨⟨v, rfl⟩, Hs, M2, hI⟩
      rcases hI with ⟨H1, rfl, hI⟩ | ⟨pre, x, t, hx, c, H1, rfl, hX⟩
      · obtain ⟨hl, -⟩ := Mem.keep (R' := rec .ready none) M2
        have he := run_endLoop (P := P) hl (by rw [hrec]; simp)
        have he' : (Instr.endLoop (w.heap.size + 1)).run P W2 = .ok none (W2.putObj (w.heap.size + 1) (.loop { rec .ready none with state := .exhausted })) := he.trans (by rw [hrec])
        exact ⟨none, _, he', hdone w.heap.size _ H1 _ hI (fin _ _ _ _ M2) ⟨S.size, by rw [← S.defers]; rfl, S.at_, S.lt⟩⟩
      · obtain ⟨hl, -⟩ := Mem.keep (R' := rec .ready none) M2
        have he := run_endLoop (P := P) hl (by rw [hrec]; simp)
        have he' : (Instr.endLoop (w.heap.size + 1)).run P W2 = .ok (some c) (W2.putObj (w.heap.size + 1) (.loop { rec .done (some c) with state := .exhausted })) := he.trans (by rw [hrec])
        exact ⟨some c, _, he', (wpIn_wide (n := 0)).2 (hstop w.heap.size _ H1 _ c pre x t hx hX (fin _ _ _ _ M2) ⟨S.size, by rw [← S.defers]; rfl, S.at_, S.lt⟩)⟩


end Go.Proofs.Ytafejnbfgkkjkaa
