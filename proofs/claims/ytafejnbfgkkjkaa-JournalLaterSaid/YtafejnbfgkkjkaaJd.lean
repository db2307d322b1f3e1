/-
  Package journal: what a scan is, plainly; good, take.
-/
import Derived.Test.YtafejnbfgkkjkaaJc
import Derived.Test.YtafejnbfgkkjkaaL4D
import Derived.Test.YtafejnbfgkkjkaaBack
import Derived.Test.YtafejnbfgkkjkaaGF
namespace Go.Proofs.Ytafejnbfgkkjkaa
open Go.RowKit Go.Sort

abbrev FrB := Fr × List UInt8
/-- how far a scan is -/
structure Sc where
  seq : Int
  inc : Int
  begun : List FrB
  l : List (Int × List UInt8)
  next : Int
def goodP (s : Sc) (f : Fr) : Bool := f.seq == s.seq && !decide (f.inc < s.inc) && (match s.begun with
  | [] => f.part == 0
  | g :: _ => f.part == (s.begun.length : Int) && f.of == g.1.of && f.mark == g.1.mark && f.inc == g.1.inc)
open Classical in
noncomputable def takeP (s : Sc) (x : FrB) : Sc × Bool :=
  if ((s.begun ++ [x]).length : Int) < x.1.of then (⟨s.seq + 1, x.1.inc, s.begun ++ [x], s.l, s.next⟩, true)
  else if joinOk (s.begun ++ [x]) then (⟨s.seq + 1, x.1.inc, [], s.l ++ [((s.begun ++ [x]).head?.elim 0 (·.1.seq), outF (s.begun ++ [x]))], s.seq + 1⟩, true)
  else (⟨s.seq + 1, x.1.inc, s.begun ++ [x], s.l, s.next⟩, false)
noncomputable def stepP (s : Sc) (bs : List UInt8) : Sc × Bool := match readF bs with
  | none => (s, false)
  | some x => if goodP s x.1 = true then takeP s x else (s, false)
noncomputable def scanP (s : Sc) : List (List UInt8) → Sc
  | [] => s
  | x :: t => if (stepP s x).2 = true then scanP (stepP s x).1 t else (stepP s x).1

/-! how it lies in memory -/
abbrev FrM := Fr × RB
abbrev FrM.pl (p : FrM) : FrB := (p.1, p.2.bs)
abbrev FrM.cellsL (p : FrM) : List Value := p.1.cells p.2.val
def frC (fs : List FrM) : List Value := fs.flatMap FrM.cellsL
abbrev FdM := Int × RB
abbrev FdM.pl (p : FdM) : Int × List UInt8 := (p.1, p.2.bs)
abbrev FdM.cellsL (p : FdM) : List Value := [.int .i64 p.1, p.2.val]
def fdC (ls : List FdM) : List Value := ls.flatMap FdM.cellsL
theorem frC_length : ∀ fs, (frC fs).length = fs.length * 6
  | [] => rfl
  | x :: l => by
    show (x.cellsL ++ frC l).length = _
    rw [List.length_append, frC_length l]; simp; omega
theorem fdC_length : ∀ fs, (fdC fs).length = fs.length * 2
  | [] => rfl
  | x :: l => by
    show (x.cellsL ++ fdC l).length = _
    rw [List.length_append, fdC_length l]; simp; omega
theorem frC_get {l : List FrM} {i : Nat} {x : FrM} (hx : l[i]? = some x) : ((frC l).drop (i * 6)).take 6 = x.cellsL := by
  obtain ⟨hlt, he⟩ := List.getElem?_eq_some_iff.1 hx
  have e : frC l = frC (l.take i) ++ (x.cellsL ++ frC (l.drop (i + 1))) := by
    conv => lhs; rw [← List.take_append_drop i l, List.drop_eq_getElem_cons hlt, he]
    simp [frC]
  rw [e, show i * 6 = (frC (l.take i)).length by rw [frC_length, List.length_take]; omega, List.drop_left]
  rfl
theorem fdC_get {l : List FdM} {i : Nat} {x : FdM} (hx : l[i]? = some x) : ((fdC l).drop (i * 2)).take 2 = x.cellsL := by
  obtain ⟨hlt, he⟩ := List.getElem?_eq_some_iff.1 hx
  have e : fdC l = fdC (l.take i) ++ (x.cellsL ++ fdC (l.drop (i + 1))) := by
    conv => lhs; rw [← List.take_append_drop i l, List.drop_eq_getElem_cons hlt, he]
    simp [fdC]
  rw [e, show i * 2 = (fdC (l.take i)).length by rw [fdC_length, List.length_take]; omega, List.drop_left]
  rfl
structure ScM where
  fs : List FrM
  ls : List FdM
  ba : Option Addr
  bc : Nat
  la : Option Addr
  lc : Nat
  lo : Nat
  hi : Nat
  lo2 : Nat
  hi2 : Nat
abbrev ScM.bv (m : ScM) : Value := .slice m.ba m.fs.length m.bc
abbrev ScM.lv (m : ScM) : Value := .slice m.la m.ls.length m.lc
abbrev scC (s : Sc) (m : ScM) : List Value := [.int .i64 s.seq, .int .i64 s.inc, m.bv, m.lv, .int .i64 s.next]
def ScM.rows (m : ScM) : List Ent := m.fs.map (fun p => p.2.ent) ++ m.ls.map (fun p => p.2.ent)
def ScM.ents (b : Nat) (s : Sc) (m : ScM) : List Ent := .blk b (scC s m).toArray 63 :: rowE m.lo m.hi 59 6 m.bv m.fs.length (frC m.fs) :: rowE m.lo2 m.hi2 67 2 m.lv m.ls.length (fdC m.ls) :: m.rows
structure ScM.Ok (s : Sc) (m : ScM) : Prop where
  begun : s.begun = m.fs.map FrM.pl
  l : s.l = m.ls.map FdM.pl
  may : ∀ p ∈ m.fs, p.1.may p.2.bs.length = true
  short : ∀ p ∈ m.ls, p.2.bs.length ≤ 90
/-- these entries are the state at b, which is s -/
def ScE (b : Nat) (s : Sc) (E : List Ent) : Prop := ∃ m : ScM, m.Ok s ∧ E = m.ents b s
theorem Mem.readIn {w0 w : World} {H : List Ent} {lo hi e sz m : Nat} {x : Value} {xs : List Value} (M : Mem w0 w H) (h : rowE lo hi e sz x m xs ∈ H) (hm : m ≤ maxLen) : Rd 0 w.heap.size w sz x m xs := by
  obtain ⟨p, hp⟩ := List.getElem?_of_mem h
  exact M.readAll p hp hm
theorem frs_of {w0 w : World} {H : List Ent} {lo hi : Nat} {fs : List FrM} {v : Value} (M : Mem w0 w H) (h : rowE lo hi 59 6 v fs.length (frC fs) ∈ H) (hl : fs.length ≤ 1000) (he : ∀ p ∈ fs, p.2.ent ∈ H) (hm : ∀ p ∈ fs, p.1.may p.2.bs.length = true) :
    FrsC (frC fs) 0 w.heap.size w v (fs.map FrM.pl) := by
  refine ⟨by rw [List.length_map]; exact M.readIn h (by unfold maxLen; omega), fun i f bs hi => ?_⟩
  rw [List.getElem?_map] at hi
  cases hx : fs[i]? with
  | none => rw [hx] at hi; cases hi
  | some p =>
    rw [hx] at hi
    obtain ⟨rfl, rfl⟩ := Prod.mk.inj (Option.some.inj hi)
    have hp := List.mem_of_getElem? hx
    have := hm p hp
    simp only [Fr.may, decide_eq_true_eq] at this
    exact ⟨p.2.val, frC_get hx, M.readB (he p hp) (by omega)⟩
theorem Mem.backA {w0 w : World} {X A : List Ent} (M : Mem w0 w (X ++ A)) : Mem w0 w (A ++ X) := M.perm List.perm_append_comm
set_option maxHeartbeats 1000000 in
theorem good_any {wc w : World} {A E : List Ent} {b : Nat} {s : Sc} (f : Fr) (ad : Option Addr) (l c : Nat) (hE : ScE b s E) (M : Mem wc w (A ++ E)) (hb : s.begun.length ≤ 1000) :
    Calls Try.prog 38 #[.pointer (some ⟨b, 0, none⟩), .agg (f.cells (.slice ad l c)).toArray] w fun e w' => e = .returned (.bool (goodP s f)) ∧ Mem wc w' (A ++ E) := by
  obtain ⟨m, O, rfl⟩ := hE
  replace M : Mem wc w (.blk b (scC s m).toArray 63 :: rowE m.lo m.hi 59 6 m.bv m.fs.length (frC m.fs) :: rowE m.lo2 m.hi2 67 2 m.lv m.ls.length (fdC m.ls) :: (m.rows ++ A)) := M.perm List.perm_append_comm
  have hlen : s.begun.length = m.fs.length := by rw [O.begun, List.length_map]
  rw [hlen] at hb
  refine calls_enter Try.func38 rfl 66 rfl rfl ?_; intro a S
  refine wp_seq ?_
  skip
  refine wp_region_lit ?_
  refine st_box S M rfl rfl rfl #[_, _, _, _, _, _] rfl ?_; clear S M a; intro a w1 bF S M hB
  refine st_go [1] S rfl (by kernel_rfl) ?_; clear S a; intro a S
  refine nxC ?_
  refine wp_seq ?_
  refine wp_seq ?_
  refine wp_quiet M (by kernel_rfl) (by kernel_rfl) ?_
  refine qt_y S rfl rfl rfl (fun w M => y_fieldAddr (k := 0) S (by kernel_rfl) rfl) ?_; clear S a; intro a S
  refine qt_y S rfl rfl rfl (fun w M => y_load S (by kernel_rfl) rfl (M.cell 0 rfl rfl)) ?_; clear S a; intro a S
  refine qt_y S rfl rfl rfl (fun w M => y_move S rfl) ?_; clear S a; intro a S
  refine qt_y S rfl rfl rfl (fun w M => y_nilCheck S rfl) ?_; clear S a; intro a S
  refine qt_y S rfl rfl rfl (fun w M => y_fieldAddr (k := 0) S (by kernel_rfl) rfl) ?_; clear S a; intro a S
  refine qt_y S rfl rfl rfl (fun w M => y_load S (by kernel_rfl) rfl (M.cell 1 rfl rfl)) ?_; clear S a; intro a S
  refine qt_y S rfl rfl rfl (fun w M => y_int S rfl rfl rfl) ?_; clear S a; intro a S
  refine qt_y S rfl rfl rfl (fun w M => y_move S rfl) ?_; clear S a; intro a S
  refine st_if (t := 13) S rfl ?_ ?_
  · clear S; intro h13 S
    refine qt_skip 7 S rfl ?_; clear S a; intro a S
    refine qt_y S rfl rfl rfl (fun w M => y_pickT S rfl rfl) ?_; clear S a; intro a S
    refine wpQuiet_nil ?_; clear M; intro w2 M
    refine then_normal ?_
    refine st_condT S rfl ?_
    refine nxD ?_
    refine st_go [1] S rfl (by kernel_rfl) ?_; clear S a; intro a S
    refine nxC ?_
    refine wp_ret ?_
    refine then_ret ?_
    refine end_one S rfl (res_tmp rfl) ?_
    refine ⟨ret_bool ?_, Mem.backA (X := m.ents b s) (M.drop 0)⟩; clear S M; unfold goodP
    by_cases h1 : f.seq = s.seq
    · have h2 : f.inc < s.inc := by omega
      simp [h2]
    · simp [h1]
  clear S; intro h13 S
  refine qt_y S rfl rfl rfl (fun w M => y_fieldAddr (k := 1) S (by kernel_rfl) rfl) ?_; clear S a; intro a S
  refine qt_y S rfl rfl rfl (fun w M => y_load S (by kernel_rfl) rfl (M.cell 0 rfl rfl)) ?_; clear S a; intro a S
  refine qt_y S rfl rfl rfl (fun w M => y_move S rfl) ?_; clear S a; intro a S
  refine qt_y S rfl rfl rfl (fun w M => y_nilCheck S rfl) ?_; clear S a; intro a S
  refine qt_y S rfl rfl rfl (fun w M => y_fieldAddr (k := 1) S (by kernel_rfl) rfl) ?_; clear S a; intro a S
  refine qt_y S rfl rfl rfl (fun w M => y_load S (by kernel_rfl) rfl (M.cell 1 rfl rfl)) ?_; clear S a; intro a S
  refine qt_y S rfl rfl rfl (fun w M => y_int S rfl rfl rfl) ?_; clear S a; intro a S
  refine qt_y S rfl rfl rfl (fun w M => y_pickF S rfl rfl) ?_; clear S a; intro a S
  refine wpQuiet_nil ?_; clear M; intro w3 M
  replace S := S.sub [(0, _), (1, _), (3, _), (4, _), (21, _)] rfl
  refine then_normal ?_
  refine st_if (t := 21) S rfl ?_ ?_
  · clear S; intro h21 S
    refine st_condT S rfl ?_
    refine nxD ?_
    refine st_go [1] S rfl (by kernel_rfl) ?_; clear S a; intro a S
    refine nxC ?_
    refine wp_ret ?_
    refine then_ret ?_
    refine end_one S rfl (res_tmp rfl) ?_
    refine ⟨ret_bool ?_, Mem.backA (X := m.ents b s) (M.drop 0)⟩; clear S M; unfold goodP
    by_cases h1 : f.seq = s.seq
    · have h2 : f.inc < s.inc := by omega
      simp [h2]
    · simp [h1]
  clear S; intro h21 S
  refine st_condF S rfl ?_
  refine wp_skip ?_
  refine then_normal ?_
  refine wp_seq ?_
  refine nxD ?_
  refine st_run [1, 1, 3, 2] S M rfl (by kernel_rfl) ?_; clear S a; intro a S
  refine st_y S rfl rfl rfl (y_lenS (E := 59) S rfl (by kernel_rfl)) ?_; clear S a; intro a S
  refine st_go [1] S rfl (by kernel_rfl) ?_; clear S a; intro a S
  refine nxC ?_
  refine st_if (t := 27) S rfl ?_ ?_
  · clear S; intro h27 S
    refine st_condT S rfl ?_
    refine nxD ?_
    refine st_run [3, 1, 1, 1] S M rfl (by kernel_rfl) ?_; clear S a; intro a S
    refine nxC ?_
    refine wp_ret ?_
    refine then_ret ?_
    refine end_one S rfl (res_tmp rfl) ?_
    refine ⟨ret_bool ?_, Mem.backA (X := m.ents b s) (M.drop 0)⟩; clear S M
    have hnil : s.begun = [] := List.eq_nil_of_length_eq_zero (by omega)
    unfold goodP
    simp only [hnil]
    have h1 : f.seq = s.seq := by omega
    have h2 : ¬ f.inc < s.inc := by omega
    simp [h1, h2]
  clear S; intro h27 S
  refine st_condF S rfl ?_
  refine wp_skip ?_
  refine then_normal ?_
  refine wp_seq ?_
  obtain ⟨g, hg⟩ : ∃ g, m.fs[0]? = some g := ⟨_, List.getElem?_eq_getElem (by omega)⟩
  refine wp_region_lit ?_
  refine st_run [1, 1, 3, 2] S M rfl (by kernel_rfl) ?_; clear S a; intro a S
  refine st_y S rfl rfl rfl (y_indexR (e := 59) (sz := 6) S (by kernel_rfl) rfl (M.readAll 2 rfl (by unfold maxLen; omega)) rfl (by first | omega | (simp; done) | (simp; omega))) ?_; clear S a; intro a S
  refine st_y S rfl rfl rfl (y_loadAgg S (by kernel_rfl) rfl rfl ((M.readAll 2 rfl (by unfold maxLen; omega)).at_.row (i := 0) (frC_get hg) rfl)) ?_; clear S a; intro a S
  refine st_alloc S M rfl rfl #[.int .i64 0, .int .i64 0, .int .i64 0, .int .i64 0, .int .u32 0, .slice none 0 0] (by kernel_rfl) ?_; clear S M a; intro a w4 bG S M hB
  refine st_store (sz := 6) (us := [_, _, _, _, _, _]) S M 0 rfl (by kernel_rfl) rfl rfl rfl rfl rfl rfl (by first | decide | (simp; done) | (simp; omega)) ?_; clear M; intro w5 M
  simp only [putL, List.set_cons_zero, List.set_cons_succ, Nat.reduceAdd] at M
  refine nxC ?_
  refine wp_seq ?_
  refine wp_quiet M (by kernel_rfl) (by kernel_rfl) ?_
  refine qt_y S rfl rfl rfl (fun w M => y_fieldAddr (k := 2) S (by kernel_rfl) rfl) ?_; clear S a; intro a S
  refine qt_y S rfl rfl rfl (fun w M => y_load S (by kernel_rfl) rfl (M.cell 1 rfl rfl)) ?_; clear S a; intro a S
  refine qt_y S rfl rfl rfl (fun w M => y_move S rfl) ?_; clear S a; intro a S
  refine qt_y S rfl rfl rfl (fun w M => y_nilCheck S rfl) ?_; clear S a; intro a S
  refine qt_y S rfl rfl rfl (fun w M => y_fieldAddr (k := 2) S (by kernel_rfl) rfl) ?_; clear S a; intro a S
  refine qt_y S rfl rfl rfl (fun w M => y_load S (by kernel_rfl) rfl (M.cell 2 rfl rfl)) ?_; clear S a; intro a S
  refine qt_y S rfl rfl rfl (fun w M => y_lenS (E := 59) S rfl (by kernel_rfl)) ?_; clear S a; intro a S
  refine qt_y S rfl rfl rfl (fun w M => y_int S rfl rfl rfl) ?_; clear S a; intro a S
  refine qt_y S rfl rfl rfl (fun w M => y_move S rfl) ?_; clear S a; intro a S
  refine st_fi (t := 45) S rfl ?_ ?_
  · clear S; intro h45 S
    refine qt_skip 5 S rfl ?_; clear S a; intro a S
    refine qt_y S rfl rfl rfl (fun w M => y_pickF S rfl rfl) ?_; clear S a; intro a S
    refine qt_y S rfl rfl rfl (fun w M => y_move S rfl) ?_; clear S a; intro a S
    refine qt_skip 5 S rfl ?_; clear S a; intro a S
    refine qt_y S rfl rfl rfl (fun w M => y_pickF S rfl rfl) ?_; clear S a; intro a S
    refine qt_y S rfl rfl rfl (fun w M => y_move S rfl) ?_; clear S a; intro a S
    refine qt_skip 5 S rfl ?_; clear S a; intro a S
    refine qt_y S rfl rfl rfl (fun w M => y_pickF S rfl rfl) ?_; clear S a; intro a S
    refine qt_y S rfl rfl rfl (fun w M => y_assign S rfl) ?_; clear S a; intro a S
    refine wpQuiet_nil ?_; clear M; intro w9 M
    replace S := S.sub [(0, _), (1, _), (3, _), (21, _), (27, _), (5, _), (4, _)] rfl
    refine then_normal ?_
    refine wp_ret ?_
    refine end_one S rfl (res_tmp rfl) ?_
    refine ⟨ret_bool ?_, Mem.backA (X := m.ents b s) ((M.drop 0).drop 0)⟩; clear S M
    have hcons : s.begun = g.pl :: (m.fs.drop 1).map FrM.pl := by
      rw [O.begun]
      cases hf : m.fs with
      | nil => rw [hf] at hg; cases hg
      | cons x t => rw [hf] at hg; cases hg; rfl
    have h1 : f.seq = s.seq := by omega
    have h2 : ¬ f.inc < s.inc := by omega
    unfold goodP
    rw [hlen]
    simp only [hcons]
    simp [h1, h2, *]
  clear S; intro h45 S
  refine qt_y S rfl rfl rfl (fun w M => y_fieldAddr (k := 3) S (by kernel_rfl) rfl) ?_; clear S a; intro a S
  refine qt_y S rfl rfl rfl (fun w M => y_load S (by kernel_rfl) rfl (M.cell 1 rfl rfl)) ?_; clear S a; intro a S
  refine qt_y S rfl rfl rfl (fun w M => y_fieldAddr (k := 3) S (by kernel_rfl) rfl) ?_; clear S a; intro a S
  refine qt_y S rfl rfl rfl (fun w M => y_load S (by kernel_rfl) rfl (M.cell 0 rfl rfl)) ?_; clear S a; intro a S
  refine qt_y S rfl rfl rfl (fun w M => y_int S rfl rfl rfl) ?_; clear S a; intro a S
  refine qt_y S rfl rfl rfl (fun w M => y_pickT S rfl rfl) ?_; clear S a; intro a S
  refine qt_y S rfl rfl rfl (fun w M => y_move S rfl) ?_; clear S a; intro a S
  refine st_fi (t := 52) S rfl ?_ ?_
  · clear S; intro h52 S
    refine qt_skip 5 S rfl ?_; clear S a; intro a S
    refine qt_y S rfl rfl rfl (fun w M => y_pickF S rfl rfl) ?_; clear S a; intro a S
    refine qt_y S rfl rfl rfl (fun w M => y_move S rfl) ?_; clear S a; intro a S
    refine qt_skip 5 S rfl ?_; clear S a; intro a S
    refine qt_y S rfl rfl rfl (fun w M => y_pickF S rfl rfl) ?_; clear S a; intro a S
    refine qt_y S rfl rfl rfl (fun w M => y_assign S rfl) ?_; clear S a; intro a S
    refine wpQuiet_nil ?_; clear M; intro w8 M
    replace S := S.sub [(0, _), (1, _), (3, _), (21, _), (27, _), (5, _), (4, _)] rfl
    refine then_normal ?_
    refine wp_ret ?_
    refine end_one S rfl (res_tmp rfl) ?_
    refine ⟨ret_bool ?_, Mem.backA (X := m.ents b s) ((M.drop 0).drop 0)⟩; clear S M
    have hcons : s.begun = g.pl :: (m.fs.drop 1).map FrM.pl := by
      rw [O.begun]
      cases hf : m.fs with
      | nil => rw [hf] at hg; cases hg
      | cons x t => rw [hf] at hg; cases hg; rfl
    have h1 : f.seq = s.seq := by omega
    have h2 : ¬ f.inc < s.inc := by omega
    unfold goodP
    rw [hlen]
    simp only [hcons]
    simp [h1, h2, *]
  clear S; intro h52 S
  refine qt_y S rfl rfl rfl (fun w M => y_fieldAddr (k := 4) S (by kernel_rfl) rfl) ?_; clear S a; intro a S
  refine qt_y S rfl rfl rfl (fun w M => y_load S (by kernel_rfl) rfl (M.cell 1 rfl rfl)) ?_; clear S a; intro a S
  refine qt_y S rfl rfl rfl (fun w M => y_fieldAddr (k := 4) S (by kernel_rfl) rfl) ?_; clear S a; intro a S
  refine qt_y S rfl rfl rfl (fun w M => y_load S (by kernel_rfl) rfl (M.cell 0 rfl rfl)) ?_; clear S a; intro a S
  refine qt_y S rfl rfl rfl (fun w M => y_eql32 S rfl rfl) ?_; clear S a; intro a S
  refine qt_y S rfl rfl rfl (fun w M => y_pickT S rfl rfl) ?_; clear S a; intro a S
  refine qt_y S rfl rfl rfl (fun w M => y_move S rfl) ?_; clear S a; intro a S
  refine st_fi (t := 59) S rfl ?_ ?_
  · clear S; intro h59 S
    refine qt_skip 5 S rfl ?_; clear S a; intro a S
    refine qt_y S rfl rfl rfl (fun w M => y_pickF S rfl rfl) ?_; clear S a; intro a S
    refine qt_y S rfl rfl rfl (fun w M => y_assign S rfl) ?_; clear S a; intro a S
    refine wpQuiet_nil ?_; clear M; intro w7 M
    replace S := S.sub [(0, _), (1, _), (3, _), (21, _), (27, _), (5, _), (4, _)] rfl
    refine then_normal ?_
    refine wp_ret ?_
    refine end_one S rfl (res_tmp rfl) ?_
    refine ⟨ret_bool ?_, Mem.backA (X := m.ents b s) ((M.drop 0).drop 0)⟩; clear S M
    have hcons : s.begun = g.pl :: (m.fs.drop 1).map FrM.pl := by
      rw [O.begun]
      cases hf : m.fs with
      | nil => rw [hf] at hg; cases hg
      | cons x t => rw [hf] at hg; cases hg; rfl
    have h1 : f.seq = s.seq := by omega
    have h2 : ¬ f.inc < s.inc := by omega
    unfold goodP
    rw [hlen]
    simp only [hcons]
    simp [h1, h2, *]
  clear S; intro h59 S
  refine qt_y S rfl rfl rfl (fun w M => y_fieldAddr (k := 1) S (by kernel_rfl) rfl) ?_; clear S a; intro a S
  refine qt_y S rfl rfl rfl (fun w M => y_load S (by kernel_rfl) rfl (M.cell 1 rfl rfl)) ?_; clear S a; intro a S
  refine qt_y S rfl rfl rfl (fun w M => y_fieldAddr (k := 1) S (by kernel_rfl) rfl) ?_; clear S a; intro a S
  refine qt_y S rfl rfl rfl (fun w M => y_load S (by kernel_rfl) rfl (M.cell 0 rfl rfl)) ?_; clear S a; intro a S
  refine qt_y S rfl rfl rfl (fun w M => y_int S rfl rfl rfl) ?_; clear S a; intro a S
  refine qt_y S rfl rfl rfl (fun w M => y_pickT S rfl rfl) ?_; clear S a; intro a S
  refine qt_y S rfl rfl rfl (fun w M => y_assign S rfl) ?_; clear S a; intro a S
  refine wpQuiet_nil ?_; clear M; intro w6 M
  replace S := S.sub [(0, _), (1, _), (3, _), (21, _), (27, _), (5, _), (4, _)] rfl
  refine then_normal ?_
  refine wp_ret ?_
  refine end_one S rfl (res_tmp rfl) ?_
  refine ⟨ret_bool ?_, Mem.backA (X := m.ents b s) ((M.drop 0).drop 0)⟩; clear S M
  have hcons : s.begun = g.pl :: (m.fs.drop 1).map FrM.pl := by
    rw [O.begun]
    cases hf : m.fs with
    | nil => rw [hf] at hg; cases hg
    | cons x t => rw [hf] at hg; cases hg; rfl
  have h1 : f.seq = s.seq := by omega
  have h2 : ¬ f.inc < s.inc := by omega
  unfold goodP
  rw [hlen]
  simp only [hcons]
  simp [h1, h2, *]

end Go.Proofs.Ytafejnbfgkkjkaa
