/-
  law10: RecoverAgain.
-/
import Derived.Test.YtodfphphidhjbaaRy
import Derived.Test.YtodfphphidhjbaaHome
namespace Go.Proofs.Ytodfphphidhjbaa
open Go.RowKit Go.Sort

theorem great07_any (r : Rc) (ad : Option Addr) (l c : Nat) (w : World) : Calls Try.prog 5 #[.agg (r.cells (.slice ad l c))] w fun e w' => e = .returned (.bool (decide ((40 : Int) < (l : Int)))) ∧ Below w.heap.size w w' := by
  have M := Mem.start w
  refine calls_enter Try.func5 rfl 7 rfl rfl ?_; intro a S
  refine nxD ?_
  refine st_box S M rfl rfl rfl #[_, _, _, _, _, _, _, _, _, _, _, _] rfl ?_; clear S M a; intro a w1 b1 S M hB
  refine st_go [1] S rfl (by kernel_rfl) ?_; clear S a; intro a S
  refine nxA ?_
  refine st_run [6, 1] S M rfl (by kernel_rfl) ?_; clear S a; intro a S
  refine st_y S rfl rfl rfl (y_lenS (E := 49) S rfl (by kernel_rfl)) ?_; clear S a; intro a S
  refine st_go [1, 1] S rfl (by kernel_rfl) ?_; clear S a; intro a S
  refine nxC ?_
  refine wp_ret ?_
  refine end_one S rfl (res_tmp rfl) ?_
  exact ⟨rfl, M.below⟩
/-- the slice v reads as these records, each with its writes -/
def RcC (cs : List Value) (lo hi : Nat) (w : World) (v : Value) (l : Rl) : Prop :=
  Rd lo hi w 12 v l.length cs ∧ ∀ (i : Nat) (q : Rc × List Wr), l[i]? = some q → ∃ lv, (cs.drop (i * 12)).take 12 = (q.1.cells lv).toList ∧ Ws lo hi w lv q.2
theorem RcC.same {cs : List Value} {lo hi : Nat} {w w' : World} {v : Value} {l : Rl} (h : RcC cs lo hi w v l) (hs : SameOn lo hi w w') : RcC cs lo hi w' v l :=
  ⟨h.1.same hs, fun i q hi => let ⟨lv, e, hb⟩ := h.2 i q hi; ⟨lv, e, hb.same hs⟩⟩
theorem Mem.rcs {w0 w : World} {H : List Ent} {cs : List Value} {v : Value} {l : Rl} (M : Mem w0 w H) (h : RcC cs 0 w0.heap.size w0 v l) : RcC cs 0 w0.heap.size w v l := h.same fun k _ h2 => M.below.block k h2
theorem RcC.sl {cs : List Value} {lo hi i : Nat} {w : World} {v : Value} {l : Rl} {q : Rc × List Wr} (h : RcC cs lo hi w v l) (hi' : l[i]? = some q) : ∃ ad cp, (cs.drop (i * 12)).take 12 = (q.1.cells (.slice ad q.2.length cp)).toList ∧ Ws lo hi w (.slice ad q.2.length cp) q.2 := by
  obtain ⟨lv, e, hb⟩ := h.2 i q hi'
  obtain ⟨ad, cp, rfl, -, -⟩ := hb.form
  exact ⟨ad, cp, e, hb⟩
theorem PrBk.mono {cs : List Value} {ps : Pl} {es es' : List Ent} (h : PrBk cs ps es) (hs : ∀ e ∈ es, e ∈ es') : PrBk cs ps es' :=
  ⟨h.1, h.2.1, fun i q hq => let ⟨ad, cp, lo, hi, e, hm, hl⟩ := h.2.2 i q hq; ⟨ad, cp, lo, hi, e, hs _ hm, hl⟩⟩
theorem PrBk.short {cs : List Value} {ps : Pl} {es : List Ent} (h : PrBk cs ps es) : ∀ (i : Nat) (q : Pr × List Wr), ps[i]? = some q → q.2.length ≤ 1000000 := fun i q hq => let ⟨_, _, _, _, _, _, hl⟩ := h.2.2 i q hq; hl
theorem Mem.joinD1 {w0 w w' : World} {a d : Ent} {es es' : List Ent} (M : Mem w0 w (a :: es)) (M' : Mem w w' (d :: es')) : Mem w0 w' (a :: d :: (es ++ es')) :=
  (M.joinR M').perm (List.perm_middle.cons _)
theorem Mem.joinD2 {w0 w w' : World} {a b d : Ent} {es es' : List Ent} (M : Mem w0 w (a :: b :: es)) (M' : Mem w w' (d :: es')) : Mem w0 w' (a :: b :: d :: (es ++ es')) :=
  (M.joinR M').perm ((List.perm_middle.cons _).cons _)
theorem Mem.joinD3 {w0 w w' : World} {a b c d : Ent} {es es' : List Ent} (M : Mem w0 w (a :: b :: c :: es)) (M' : Mem w w' (d :: es')) : Mem w0 w' (a :: b :: c :: d :: (es ++ es')) :=
  (M.joinR M').perm (((List.perm_middle.cons _).cons _).cons _)
theorem Mem.joinD4 {w0 w w' : World} {a b c e d : Ent} {es es' : List Ent} (M : Mem w0 w (a :: b :: c :: e :: es)) (M' : Mem w w' (d :: es')) : Mem w0 w' (a :: b :: c :: e :: d :: (es ++ es')) :=
  (M.joinR M').perm ((((List.perm_middle.cons _).cons _).cons _).cons _)
theorem runP_next {l : Rl} {ps : Pl} {k : Nat} {q : Rc × List Wr} (h : l[k]? = some q) : runP ps (l.take (k + 1)) = if takes q.1 q.2 then ((stepP (runP ps (l.take k)).1 q.1 q.2).1, (runP ps (l.take k)).2 ++ (stepP (runP ps (l.take k)).1 q.1 q.2).2) else runP ps (l.take k) := by
  rw [take_snocP h, runP_snoc]
/-- a store behind so many records -/
structure Run (home : List V8) (l : Rl) (k : Nat) (s : St) (ps : Pl) : Prop where
  ok : s.ok
  hps : ps = (runP [] (l.take k)).1
  hhome : s.home = onF home (runP [] (l.take k)).2
  len : ps.length ≤ k
theorem Run.yes {home : List V8} {l : Rl} {k : Nat} {s : St} {ps : Pl} {q : Rc × List Wr} (h : Run home l k s ps) (hq : l[k]? = some q) (ht : takes q.1 q.2 = true) : Run home l (k + 1) (appSt s ps q.1 q.2) (stepP ps q.1 q.2).1 := by
  refine ⟨appSt_ok h.ok ps q.1 q.2, ?_, ?_, Nat.le_trans (stepP_len ps q.1 q.2) (Nat.succ_le_succ h.len)⟩
  · rw [runP_next hq, if_pos ht, ← h.hps]
  · show onF s.home _ = _
    rw [runP_next hq, if_pos ht, h.hhome, ← h.hps, onF_append]
theorem Run.no {home : List V8} {l : Rl} {k : Nat} {s : St} {ps : Pl} {q : Rc × List Wr} (h : Run home l k s ps) (hq : l[k]? = some q) (ht : takes q.1 q.2 = false) : Run home l (k + 1) s ps := by
  refine ⟨h.ok, ?_, ?_, Nat.le_succ_of_le h.len⟩
  · rw [runP_next hq, if_neg (by rw [ht]; simp)]; exact h.hps
  · rw [runP_next hq, if_neg (by rw [ht]; simp)]; exact h.hhome
theorem run_zero {home : List V8} {l : Rl} {s : St} (hs : s.ok) (hh : s.home = home) : Run home l 0 s [] := ⟨hs, rfl, hh, Nat.le_refl _⟩
def stH (home : List V8) : St := { zSt with home := home }
theorem stH_ok {home : List V8} (h : home.length = 32) : (stH home).ok := ⟨rfl, rfl, h, rfl, rfl⟩
theorem stH_fill {home : List V8} (h : home.length = 32) : putL (zSt.cellsL (.slice none 0 0)) 15 (hcells home) = (stH home).cellsL (.slice none 0 0) := by
  have := putL_mid (A := zSt.pre) (B := hcells zSt.home) (C := [.slice none 0 0, .int .i64 zSt.app]) (us := hcells home) (by rw [hcells_length, hcells_length, h]; rfl)
  exact this
def nm10 (n : Int) : Nm := ⟨n, 1, 1⟩
theorem name_any (n : Int) (w : World) : Calls Try.prog 7 #[.int .i64 n] w fun e w' => e = .returned (.agg (nm10 n).cells) ∧ Below w.heap.size w w' := by
  have M := Mem.start w
  refine calls_enter Try.func7 rfl 5 rfl rfl ?_; intro a S
  refine nxD ?_
  refine st_alloc S M rfl rfl #[.int .i64 0, .int .i64 0, .int .i64 0] (by kernel_rfl) ?_; clear S M a; intro a w1 b1 S M hB
  refine nxA ?_
  refine st_go [1] S rfl (by kernel_rfl) ?_; clear S a; intro a S
  refine st_y S rfl rfl rfl (y_build (ps := [(0, (Operand.tmp 3)), (1, (Operand.const (Value.int IntKind.i64 1))), (2, (Operand.const (Value.int IntKind.i64 1)))]) (pl := [(0, 1), (1, 1), (2, 1)]) (z := [.int .i64 0, .int .i64 0, .int .i64 0]) (cs := [_, _, _]) S (by kernel_rfl) rfl (rfl)) ?_; clear S a; intro a S
  refine st_store (sz := 3) (us := [_, _, _]) S M 0 rfl (by kernel_rfl) rfl rfl rfl rfl rfl rfl (by first | decide | (simp; done) | (simp; omega)) ?_; clear M; intro w2 M
  simp only [putL, List.set_cons_zero, List.set_cons_succ, Nat.reduceAdd] at M
  refine nxC ?_
  refine wp_ret ?_
  refine end_one S rfl (res_agg (cs := [_, _, _]) (by kernel_rfl) rfl rfl (M.cellsAt (k := 3) 0 rfl rfl)) ?_
  exact ⟨rfl, M.below⟩

theorem apply_form {s : St} {ps : Pl} {r : Rc} {x : List Wr} {w w' : World} {e : Ending} (h : ApplyPost s ps r x w e w') (hl : ps.length ≤ 10000) :
    ∃ s' ps' c da dc lo hi cs es, e = .returned (.tuple #[.agg (s'.cellsL (.slice da ps'.length dc)).toArray, .int .i64 c]) ∧ s'.ok ∧ Mem w w' (rowE lo hi 52 6 (.slice da ps'.length dc) ps'.length cs :: es) ∧ PrBk cs ps' es ∧
      ((takes r x = true ∧ c = 0 ∧ s' = appSt s ps r x ∧ ps' = (stepP ps r x).1) ∨ (takes r x = false ∧ c = 2 ∧ s' = zSt ∧ ps' = [])) := by
  obtain ⟨s', ps', c, dv, rfl, hs, ⟨lo, hi, cs, es, M, hB⟩, h⟩ := h
  have hl' : ps'.length ≤ 10001 := by
    rcases h with ⟨-, -, -, rfl⟩ | ⟨-, -, -, rfl⟩
    · exact Nat.le_trans (stepP_len ps r x) (Nat.succ_le_succ hl)
    · simp
  obtain ⟨da, dc, rfl, -, -⟩ := (M.readRow 0 rfl (by unfold maxLen; omega)).form
  exact ⟨s', ps', c, da, dc, lo, hi, cs, es, rfl, hs, M, hB, h⟩
theorem apply_ok (s : St) (hs : s.ok) (da : Option Addr) (dc : Nat) (cs : List Value) (ps ps' : Pl) (w : World) (hd : PrsC cs 0 w.heap.size w (.slice da ps.length dc) ps) (hps : ps.length ≤ 1000) (hws : ∀ (i : Nat) (q : Pr × List Wr), ps[i]? = some q → q.2.length ≤ 1000000)
    (r : Rc) (va : Option Addr) (vc : Nat) (x : List Wr) (hv : Ws 0 w.heap.size w (.slice va x.length vc) x) (hx : x.length ≤ 1000000) (hsh : r.shards ≤ 9223372036854775807) (ht : takes r x = true) (hp : (stepP ps r x).1 = ps') :
    Calls Try.prog 6 #[.agg (s.cellsL (.slice da ps.length dc)).toArray, .agg (r.cells (.slice va x.length vc))] w fun e w' => ∃ da' dc' lo hi cs' es, e = .returned (.tuple #[.agg ((appSt s ps r x).cellsL (.slice da' ps'.length dc')).toArray, .int .i64 0]) ∧
      Mem w w' (rowE lo hi 52 6 (.slice da' ps'.length dc') ps'.length cs' :: es) ∧ PrBk cs' ps' es :=
  (apply_any s hs _ cs ps w hd (by omega) hws r va vc x hv hx hsh).mono fun e w' h => by
    obtain ⟨s', ps'', c, da', dc', lo, hi, cs', es, rfl, -, M, hB, ⟨-, rfl, rfl, rfl⟩ | ⟨h, -⟩⟩ := apply_form h (by omega)
    · subst hp; exact ⟨da', dc', lo, hi, cs', es, rfl, M, hB⟩
    · rw [ht] at h; cases h

end Go.Proofs.Ytodfphphidhjbaa
