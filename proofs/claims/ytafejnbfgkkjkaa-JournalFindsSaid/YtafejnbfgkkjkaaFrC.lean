/-
  Package frame: Cut.
-/
import Derived.Test.YtafejnbfgkkjkaaFrB
import Derived.Test.YtafejnbfgkkjkaaGS
namespace Go.Proofs.Ytafejnbfgkkjkaa
open Go.RowKit Go.Sort

/-- the slice v reads as these frames, each with its load; cs: its cells -/
def FrsC (cs : List Value) (lo hi : Nat) (w : World) (v : Value) (fs : List (Fr × List UInt8)) : Prop :=
  Rd lo hi w 6 v fs.length cs ∧ ∀ i f bs, fs[i]? = some (f, bs) → ∃ lv, (cs.drop (i * 6)).take 6 = f.cells lv ∧ Bs lo hi w lv bs
def Frs (lo hi : Nat) (w : World) (v : Value) (fs : List (Fr × List UInt8)) : Prop := ∃ cs, FrsC cs lo hi w v fs
theorem FrsC.same {cs : List Value} {lo hi : Nat} {w w' : World} {v : Value} {fs : List (Fr × List UInt8)} (h : FrsC cs lo hi w v fs) (hs : SameOn lo hi w w') : FrsC cs lo hi w' v fs :=
  ⟨h.1.same hs, fun i f bs hi => let ⟨lv, e, hb⟩ := h.2 i f bs hi; ⟨lv, e, hb.same hs⟩⟩
theorem FrsC.wide {cs : List Value} {lo hi lo' hi' : Nat} {w : World} {v : Value} {fs : List (Fr × List UInt8)} (h : FrsC cs lo hi w v fs) (h1 : lo' ≤ lo) (h2 : hi ≤ hi') : FrsC cs lo' hi' w v fs :=
  ⟨h.1.wide h1 h2, fun i f bs hi => let ⟨lv, e, hb⟩ := h.2 i f bs hi; ⟨lv, e, hb.wide h1 h2⟩⟩
/-- one frame of them -/
theorem FrsC.row {cs : List Value} {lo hi i : Nat} {w : World} {v lv : Value} {f : Fr} {bs : List UInt8} {fs : List (Fr × List UInt8)} (h : FrsC cs lo hi w v fs) (hi' : fs[i]? = some (f, bs)) (hr : (cs.drop (i * 6)).take 6 = f.cells lv) : CellsAt w (adr v).block ((adr v).off + i * 6) (f.cells lv) ∧ Bs lo hi w lv bs := by
  obtain ⟨lv', e, hb⟩ := h.2 i f bs hi'
  have : lv' = lv := by
    rw [e] at hr
    injection hr with _ hr; injection hr with _ hr; injection hr with _ hr; injection hr with _ hr; injection hr with _ hr; injection hr
  subst this
  exact ⟨h.1.at_.row e rfl, hb⟩
theorem Mem.frs {w0 w : World} {H : List Ent} {cs : List Value} {v : Value} {fs : List (Fr × List UInt8)} (M : Mem w0 w H) (h : FrsC cs 0 w0.heap.size w0 v fs) : FrsC cs 0 w0.heap.size w v fs := h.same fun k _ h2 => M.below.block k h2

/-- in how many frames -/
def nOf (n : Nat) : Nat := (n + 44) / 45
def frOf (bs : List UInt8) (seq inc : Int) (i : Nat) : Fr × List UInt8 := (⟨seq + i, inc, i, (nOf bs.length : Nat), sumT bs⟩, (bs.drop (i * 45)).take 45)
def cutF (bs : List UInt8) (seq inc : Int) : List (Fr × List UInt8) := (List.range (nOf bs.length)).map (frOf bs seq inc)
def cutOk (bs : List UInt8) (seq inc : Int) : Prop := bs ≠ [] ∧ (1 ≤ seq ∧ seq ≤ 1099511627776) ∧ (0 ≤ inc ∧ inc ≤ 1048576) ∧ bs.length ≤ 90 ∧ seq + (nOf bs.length : Nat) - 1 ≤ 1099511627776
open Classical in
noncomputable def cutE (bs : List UInt8) (seq inc : Int) : Int :=
  if cutOk bs seq inc then 0 else if bs ≠ [] ∧ (1 ≤ seq ∧ seq ≤ 1099511627776) ∧ (0 ≤ inc ∧ inc ≤ 1048576) ∧ 90 < bs.length then 3 else 2

open Classical in
noncomputable def cutR (bs : List UInt8) (seq inc : Int) : List (Fr × List UInt8) := if cutOk bs seq inc then cutF bs seq inc else []
def CutPost (bs : List UInt8) (seq inc : Int) (w : World) (e : Ending) (w' : World) : Prop :=
  ∃ v', e = .returned (.tuple #[v', .int .i64 (cutE bs seq inc)]) ∧ Below w.heap.size w w' ∧ Frs w.heap.size w'.heap.size w' v' (cutR bs seq inc)
theorem cutPost_no {bs : List UInt8} {seq inc : Int} {w w' : World} {H : List Ent} {x : Int} (M : Mem w w' H) (h : ¬ cutOk bs seq inc) (hx : x = cutE bs seq inc) : CutPost bs seq inc w (.returned (.tuple #[.slice none 0 0, .int .i64 x])) w' :=
  ⟨_, by rw [hx], M.below, [], by unfold cutR; rw [if_neg h]; exact ⟨Rd.nil _ _ _ _, fun i f bs hi => by simp at hi⟩⟩
theorem Mem.pushFrs {w0 w w' : World} {H : List Ent} {cs : List Value} {v : Value} {fs : List (Fr × List UInt8)} (M : Mem w0 w H) (hb : Below w.heap.size w w') (h : FrsC cs w.heap.size w'.heap.size w' v fs) : ∃ lo hi, w.heap.size ≤ lo ∧ Mem w0 w' (.own lo hi (fun w => FrsC cs lo hi w v fs) :: H) :=
  ⟨_, _, Nat.le_refl _, M.push hb (.own w.heap.size w'.heap.size fun x => FrsC cs w.heap.size w'.heap.size x v fs) (fun w'' hs => h.same hs) (Nat.le_refl _) (Nat.le_refl _)⟩

/-- what is known of the loads of k frames -/
def Loads (lo hi : Nat) (bs : List UInt8) (lvs : List Value) (w : World) : Prop := ∀ i lv, lvs[i]? = some lv → Bs lo hi w lv ((bs.drop (i * 45)).take 45)
theorem loads_more {w0 w : World} {lo hi lo' hi' b n : Nat} {bs : List UInt8} {lvs : List Value} {lv : Value} {c : Array Value} {t e : TypeId} (M : Mem w0 w [rowE lo' hi' e 1 lv n (bcells ((bs.drop (lvs.length * 45)).take 45)), .own lo hi (Loads lo hi bs lvs), .blk b c t])
    (hn : ((bs.drop (lvs.length * 45)).take 45).length = n) (hb : b < lo) (h1 : lo ≤ hi) (h2 : hi ≤ lo') : Mem w0 w [.own lo w.heap.size (Loads lo w.heap.size bs (lvs ++ [lv])), .blk b c t] := by
  have f0 := M.fits _ (List.mem_of_getElem? (show _[0]? = _ from rfl))
  have f1 := M.fits _ (List.mem_of_getElem? (show _[1]? = _ from rfl))
  simp only [rowE, Ent.lo, Ent.hi] at f0 f1
  refine M.merge lo w.heap.size _ f1.1 (Nat.le_refl _) (fun f hf => ?_) (fun w' hs => ?_)
  · simp only [List.mem_singleton] at hf; subst hf; left; simp only [Ent.hi]; omega
  · intro i x hx
    rcases Nat.lt_or_ge i lvs.length with hi' | hi'
    · rw [List.getElem?_append_left hi'] at hx
      exact (M.ownAll 1 rfl w' (hs.sub (Nat.le_refl _) f1.2) i x hx).wide (Nat.le_refl _) f1.2
    · have : i = lvs.length := by
        have := (List.getElem?_eq_some_iff.1 hx).1
        simp at this; omega
      subst this
      rw [List.getElem?_append_right (Nat.le_refl _)] at hx
      simp at hx
      subst hx
      obtain ⟨h3, h4⟩ := M.ownAll 0 rfl w' (hs.sub (by omega) f0.2)
      have := Rd.of_row h3 h4 (by rw [← hn]; simp [maxLen]; omega)
      unfold Bs; rw [hn]
      exact this.wide (by omega) f0.2

theorem cut_any (v : Value) (bs : List UInt8) (seq inc : Int) (w : World) (hv : Bs 0 w.heap.size w v bs) (hseq : -9223372036854775808 ≤ seq ∧ seq ≤ 9223372036854775807) : Calls Try.prog 20 #[v, .int .i64 seq, .int .i64 inc] w (CutPost bs seq inc w) := by
  have M := Mem.start w
  have hl := hv.2.1
  unfold maxLen at hl
  have hcap := hv.cap
  refine calls_enter Try.func20 rfl 79 rfl rfl ?_; intro a S
  refine nxD ?_
  refine st_go [1, 1] S rfl (by kernel_rfl) ?_; clear S a; intro a S
  refine nxC ?_
  refine wp_seq ?_
  refine nxD ?_
  refine st_go [1] S rfl (by kernel_rfl) ?_; clear S a; intro a S
  refine st_y S rfl rfl rfl (y_lenR (E := 5) S rfl (M.arg hv) (by kernel_rfl)) ?_; clear S a; intro a S
  refine st_go [1, 1] S rfl (by kernel_rfl) ?_; clear S a; intro a S
  refine st_if (t := 18) S rfl ?_ ?_
  · clear S; intro h18 S
    refine st_go [0, 0, 0, 1, 1, 0, 0, 0, 1] S rfl (by kernel_rfl) ?_; clear S a; intro a S
    refine nxC ?_
    refine st_condT S rfl ?_
    refine nxD ?_
    refine st_go [1, 1] S rfl (by kernel_rfl) ?_; clear S a; intro a S
    replace S := S.sub [(0, _), (1, _), (2, _), (27, _), (6, _), (7, _)] rfl
    refine nxC ?_
    refine wp_ret ?_
    refine then_ret ?_
    refine end_two S rfl (res_tmp rfl) (res_tmp rfl) ?_
    exact cutPost_no M (by unfold cutOk; simp only [← List.length_pos_iff] at *; omega) (by unfold cutE cutOk; simp only [← List.length_pos_iff] at *; rw [if_neg (by omega), if_neg (by omega)])
  clear S; intro h18 S
  refine st_go [1] S rfl (by kernel_rfl) ?_; clear S a; intro a S
  refine st_call (xs := [(Operand.tmp 19)]) S (enters_of Try.func29 (by decide) rfl) rfl rfl rfl (sequence_any _ _) ?_
  rintro _ w1 ⟨rfl, hK⟩; refine ⟨_, rfl, ?_⟩; clear S a; intro a S; replace M := M.grow hK
  refine st_go [1, 1, 1] S rfl (by kernel_rfl) ?_; clear S a; intro a S
  refine st_if (t := 23) S rfl ?_ ?_
  · clear S; intro h23 S
    refine st_go [0, 0, 0, 1] S rfl (by kernel_rfl) ?_; clear S a; intro a S
    refine nxC ?_
    refine st_condT S rfl ?_
    refine nxD ?_
    refine st_go [1, 1] S rfl (by kernel_rfl) ?_; clear S a; intro a S
    replace S := S.sub [(0, _), (1, _), (2, _), (27, _), (6, _), (7, _)] rfl
    refine nxC ?_
    refine wp_ret ?_
    refine then_ret ?_
    refine end_two S rfl (res_tmp rfl) (res_tmp rfl) ?_
    exact cutPost_no M (by unfold cutOk; simp only [← List.length_pos_iff] at *; omega) (by unfold cutE cutOk; simp only [← List.length_pos_iff] at *; rw [if_neg (by omega), if_neg (by omega)])
  clear S; intro h23 S
  refine st_go [1] S rfl (by kernel_rfl) ?_; clear S a; intro a S
  refine st_call (xs := [(Operand.tmp 24)]) S (enters_of Try.func30 (by decide) rfl) rfl rfl rfl (incarnation_any _ _) ?_
  rintro _ w2 ⟨rfl, hK⟩; refine ⟨_, rfl, ?_⟩; clear S a; intro a S; replace M := M.grow hK
  refine st_go [1, 1] S rfl (by kernel_rfl) ?_; clear S a; intro a S
  refine nxC ?_
  refine st_if (t := 27) S rfl ?_ ?_
  · clear S; intro h27 S
    refine st_condT S rfl ?_
    refine nxD ?_
    refine st_go [1, 1] S rfl (by kernel_rfl) ?_; clear S a; intro a S
    replace S := S.sub [(0, _), (1, _), (2, _), (27, _), (6, _), (7, _)] rfl
    refine nxC ?_
    refine wp_ret ?_
    refine then_ret ?_
    refine end_two S rfl (res_tmp rfl) (res_tmp rfl) ?_
    exact cutPost_no M (by unfold cutOk; simp only [← List.length_pos_iff] at *; omega) (by unfold cutE cutOk; simp only [← List.length_pos_iff] at *; rw [if_neg (by omega), if_neg (by omega)])
  clear S; intro h27 S
  refine st_condF S rfl ?_
  refine wp_skip ?_
  refine then_normal ?_
  refine wp_seq ?_
  refine nxD ?_
  refine st_go [1] S rfl (by kernel_rfl) ?_; clear S a; intro a S
  refine st_y S rfl rfl rfl (y_lenR (E := 5) S rfl (M.arg hv) (by kernel_rfl)) ?_; clear S a; intro a S
  refine st_go [1] S rfl (by kernel_rfl) ?_; clear S a; intro a S
  replace S := S.sub [(0, _), (1, _), (2, _), (6, _), (7, _), (27, _), (30, _)] rfl
  refine nxC ?_
  refine st_if (t := 30) S rfl ?_ ?_
  · clear S; intro h30 S
    refine st_condT S rfl ?_
    refine nxD ?_
    refine st_go [1, 1] S rfl (by kernel_rfl) ?_; clear S a; intro a S
    refine nxC ?_
    refine wp_ret ?_
    refine then_ret ?_
    refine end_two S rfl (res_tmp rfl) (res_tmp rfl) ?_
    exact cutPost_no M (by unfold cutOk; simp only [← List.length_pos_iff] at *; omega) (by unfold cutE cutOk; simp only [← List.length_pos_iff] at *; rw [if_neg (by omega), if_pos (by omega)])
  clear S; intro h30 S
  refine st_condF S rfl ?_
  refine wp_skip ?_
  refine nxE ?_
  refine st_go [1] S rfl (by kernel_rfl) ?_; clear S a; intro a S
  refine st_y S rfl rfl rfl (y_lenR (E := 5) S rfl (M.arg hv) (by kernel_rfl)) ?_; clear S a; intro a S
  (first | refine st_y S rfl rfl rfl (y_addN S rfl rfl (by omega)) ?_ | refine st_y S rfl rfl rfl (y_int S rfl rfl rfl) ?_); clear S a; intro a S
  (first | refine st_y S rfl rfl rfl (y_subN S rfl rfl (by omega)) ?_ | refine st_y S rfl rfl rfl (y_int S rfl rfl rfl) ?_); clear S a; intro a S
  refine st_y S rfl rfl rfl (y_quoN S rfl rfl (by omega)) ?_; clear S a; intro a S
  refine st_go [1] S rfl (by kernel_rfl) ?_; clear S a; intro a S
  refine nxC ?_
  refine wp_seq ?_
  refine nxD ?_
  refine st_go [1, 1] S rfl (by kernel_rfl) ?_; clear S a; intro a S
  (first | refine st_y S rfl rfl rfl (y_addN S rfl rfl (by omega)) ?_ | refine st_y S rfl rfl rfl (y_int S rfl rfl rfl) ?_); clear S a; intro a S
  (first | refine st_y S rfl rfl rfl (y_subN S rfl rfl (by omega)) ?_ | refine st_y S rfl rfl rfl (y_int S rfl rfl rfl) ?_); clear S a; intro a S
  refine st_call (xs := [(Operand.tmp 39)]) S (enters_of Try.func29 (by decide) rfl) rfl rfl rfl (sequence_any _ _) ?_
  rintro _ w3 ⟨rfl, hK⟩; refine ⟨_, rfl, ?_⟩; clear S a; intro a S; replace M := M.grow hK
  refine st_go [1] S rfl (by kernel_rfl) ?_; clear S a; intro a S
  refine nxC ?_
  refine st_if (t := 41) S rfl ?_ ?_
  · clear S; intro h41 S
    refine st_condT S rfl ?_
    refine nxD ?_
    refine st_go [1, 1] S rfl (by kernel_rfl) ?_; clear S a; intro a S
    refine nxC ?_
    refine wp_ret ?_
    refine then_ret ?_
    refine end_two S rfl (res_tmp rfl) (res_tmp rfl) ?_
    exact cutPost_no M (by unfold cutOk nOf; simp only [← List.length_pos_iff] at *; omega) (by unfold cutE cutOk nOf; simp only [← List.length_pos_iff] at *; rw [if_neg (by omega), if_neg (by omega)])
  clear S; intro h41 S
  refine st_condF S rfl ?_
  refine wp_skip ?_
  refine nxE ?_
  refine st_go [1] S rfl (by kernel_rfl) ?_; clear S a; intro a S
  refine st_call (xs := [(Operand.tmp 42)]) S (enters_of Try.func31 (by decide) rfl) rfl rfl rfl (sum_any v bs _ (M.argW hv)) ?_
  rintro _ w4 ⟨rfl, hK⟩; refine ⟨_, rfl, ?_⟩; clear S a; intro a S; replace M := M.grow hK
  refine st_go [1] S rfl (by kernel_rfl) ?_; clear S a; intro a S
  refine nxA ?_
  have e8 : ((bs.length : Int) + 45 - 1) / 45 = ((nOf bs.length : Nat) : Int) := by unfold nOf; omega
  have hn2 : nOf bs.length ≤ 2 := by unfold nOf; omega
  rw [e8] at S
  have hok : cutOk bs seq inc := by unfold cutOk; rw [← List.length_pos_iff]; omega
  refine st_y S rfl rfl rfl (y_move S rfl) ?_; clear S a; intro a S
  refine st_make (e := 59) (sz := 6) (by_ := 64) (zc := [.int .i64 0, .int .i64 0, .int .i64 0, .int .i64 0, .int .u32 0, .slice none 0 0]) S M rfl rfl (by kernel_rfl) rfl rfl (by omega) (by omega) (by omega) (by omega) ?_; clear S M a; intro a w5 b1 S M hB
  try simp only [Int.toNat_natCast, Int.reduceToNat, Nat.reduceMul] at S M
  refine st_go [1] S rfl (by kernel_rfl) ?_; clear S a; intro a S
  replace S := S.sub [(0, _), (1, _), (2, _), (6, _), (7, _), (27, _), (30, _), (8, _), (41, _), (9, _), (10, _)] rfl
  refine nxC ?_
  refine wp_seq ?_
  refine nxD ?_
  refine st_go [1] S rfl (by kernel_rfl) ?_; clear S a; intro a S
  refine st_y S rfl rfl rfl (y_lenS (E := 59) S rfl (by kernel_rfl)) ?_; clear S a; intro a S
  refine st_go [1] S rfl (by kernel_rfl) ?_; clear S a; intro a S
  refine nxC ?_
  refine wp_block ?_
  refine wp_loop_g (fun m a w' => ∃ (k : Nat) (l : List Value) (lo hi : Nat) (lvs : List Value), k ≤ nOf bs.length ∧ m = nOf bs.length - k ∧ Sees 79 a [(0, v), (1, .int .i64 seq), (2, .int .i64 inc), (8, .int .i64 (nOf bs.length : Nat)), (9, .int .u32 ((sumT bs).toNat : Int)), (10, .slice (some ⟨b1, 0, none⟩) (nOf bs.length) (nOf bs.length)), (47, .int .i64 (nOf bs.length : Nat)), (48, .int .i64 (k : Int))] ∧ Mem w w' [.own lo hi (Loads lo hi bs lvs), .blk b1 l.toArray 59] ∧ b1 < lo ∧ lo ≤ hi ∧ l.length = nOf bs.length * 6 ∧ lvs.length = k ∧ ∀ i lv, lvs[i]? = some lv → (l.drop (i * 6)).take 6 = (frOf bs seq inc i).1.cells lv) (nOf bs.length) ?_ ?_
  · skip
    have f := (M.fits _ (List.mem_of_getElem? (show _[0]? = _ from rfl))).2
    simp only [Ent.hi] at f
    exact ⟨0, _, _, _, [], Nat.zero_le _, rfl, S.sub _ rfl, M.pushTriv (Loads _ _ bs []) (fun _ i lv h => by simp at h), f, Nat.le_refl _, by simp [madeL_length], rfl, fun i lv h => by simp at h⟩
  clear S M a; intro m a wl
  rintro ⟨k, l, lo, hi, lvs, hk, rfl, S, M, hb, hlh, hll, hlv, hrow⟩
  refine nxD ?_
  refine st_go [1] S rfl (by kernel_rfl) ?_; clear S a; intro a S
  refine nxC ?_
  refine wp_seq ?_
  refine st_fi (t := 49) S rfl ?_ ?_
  · clear S; intro h49 S
    refine st_condF S rfl ?_
    refine wp_exit ?_
    refine then_exit ?_
    refine then_exit ?_
    refine block_hit ?_
    refine nxE ?_
    refine st_go [1, 1, 1] S rfl (by kernel_rfl) ?_; clear S a; intro a S
    refine nxC ?_
    refine wp_ret ?_
    refine end_two S rfl (res_tmp rfl) (res_tmp rfl) ?_
    obtain rfl : k = nOf bs.length := by omega
    have f0 := M.fits _ (List.mem_of_getElem? (show _[0]? = _ from rfl))
    have f1 := M.fits _ (List.mem_of_getElem? (show _[1]? = _ from rfl))
    simp only [Ent.lo, Ent.hi] at f0 f1
    refine ⟨_, by unfold cutE; rw [if_pos hok], M.below, ?_⟩
    unfold cutR; rw [if_pos hok]
    have hlc : (cutF bs seq inc).length = nOf bs.length := by simp [cutF]
    refine ⟨l, ?_, fun i f cs' hi' => ?_⟩
    · rw [hlc]
      exact (Rd.of_blk (M.blk 1 rfl) hll (Nat.le_refl _) (by unfold maxLen; omega) (List.take_of_length_le (by simp; omega))).wide f1.1 f1.2
    · have hlt := (List.getElem?_eq_some_iff.1 hi').1
      rw [hlc] at hlt
      simp only [cutF, List.getElem?_map, List.getElem?_range hlt, Option.map_some, Option.some.injEq] at hi'
      obtain ⟨lv, hlv'⟩ : ∃ lv, lvs[i]? = some lv := ⟨_, List.getElem?_eq_getElem (by omega)⟩
      refine ⟨lv, ?_, ?_⟩
      · rw [hrow i lv hlv', hi']
      · have := M.own 0 rfl i lv hlv'
        have e2 : (bs.drop (i * 45)).take 45 = cs' := congrArg Prod.snd hi'
        rw [← e2]
        exact this.wide f0.1 f0.2
  clear S; intro h49 S
  refine st_condT S rfl ?_
  refine wp_skip ?_
  refine then_normal ?_
  refine wp_seq ?_
  refine wp_block ?_
  refine nxD ?_
  refine st_go [1, 1] S rfl (by kernel_rfl) ?_; clear S a; intro a S
  refine nxA ?_
  have hk' : k < nOf bs.length := by omega
  have hkn : k * 45 < bs.length := by unfold nOf at hk'; omega
  refine st_y S rfl rfl rfl (y_move S rfl) ?_; clear S a; intro a S
  (first | refine st_y S rfl rfl rfl (y_mulN S rfl rfl (by omega)) ?_ | refine st_y S rfl rfl rfl (y_int S rfl rfl rfl) ?_); clear S a; intro a S
  refine st_go [1] S rfl (by kernel_rfl) ?_; clear S a; intro a S
  (first | refine st_y S rfl rfl rfl (y_addN S rfl rfl (by omega)) ?_ | refine st_y S rfl rfl rfl (y_int S rfl rfl rfl) ?_); clear S a; intro a S
  (first | refine st_y S rfl rfl rfl (y_mulN S rfl rfl (by omega)) ?_ | refine st_y S rfl rfl rfl (y_int S rfl rfl rfl) ?_); clear S a; intro a S
  refine st_go [1] S rfl (by kernel_rfl) ?_; clear S a; intro a S
  refine st_y S rfl rfl rfl (y_lenR (E := 5) S rfl (M.arg hv) (by kernel_rfl)) ?_; clear S a; intro a S
  refine st_y S rfl rfl rfl (y_min S rfl rfl) ?_; clear S a; intro a S
  refine st_go [1, 1] S rfl (by kernel_rfl) ?_; clear S a; intro a S
  refine nxA ?_
  refine st_go [1, 1, 1, 1] S rfl (by kernel_rfl) ?_; clear S a; intro a S
  refine st_y S rfl rfl rfl (y_slice3R (e := 5) (sz := 1) S (by kernel_rfl) rfl (M.arg hv) rfl rfl rfl (by first | omega | (simp; done) | (simp; omega))) ?_; clear S a; intro a S
  have hB := (M.argW hv).cutB (i := ((k : Int) * 45).toNat) (j := (min (((k : Int) + 1) * 45) (bs.length : Int)).toNat) (mx := (min (((k : Int) + 1) * 45) (bs.length : Int)).toNat) (by omega) (by omega) (by omega) (by omega)
  have eB : (bs.drop ((k : Int) * 45).toNat).take ((min (((k : Int) + 1) * 45) (bs.length : Int)).toNat - ((k : Int) * 45).toNat) = (bs.drop (k * 45)).take 45 := by
    rw [show ((k : Int) * 45).toNat = k * 45 by omega]
    rcases Nat.le_total ((k + 1) * 45) bs.length with h | h
    · congr 1; omega
    · rw [List.take_of_length_le (by simp; omega), List.take_of_length_le (by simp; omega)]
  rw [eB] at hB
  have hfit := (M.fits _ (List.mem_of_getElem? (show _[0]? = _ from rfl))).2
  simp only [Ent.hi] at hfit
  refine st_call (xs := [(Operand.tmp 63)]) S (enters_of Try.func32 (by decide) rfl) rfl rfl rfl (clone_any _ _ _ hB (by simp; omega)) ?_
  rintro _ w6 ⟨lv, rfl, hF⟩; refine ⟨_, rfl, ?_⟩; clear S a; intro a S
  obtain ⟨adL, capL, hlvE, -, -⟩ := (hF.rd (by simp [maxLen]; omega)).form
  obtain ⟨lo', hi', hlo', M⟩ := M.pushFresh hF
  subst hlvE
  refine st_go [1] S rfl (by kernel_rfl) ?_; clear S a; intro a S
  replace S := S.sub [(0, _), (1, _), (2, _), (8, _), (9, _), (10, _), (47, _), (48, _), (49, _), (11, _), (12, _), (13, _), (14, _)] rfl
  refine nxB ?_
  refine st_go [1, 1, 1, 1] S rfl (by kernel_rfl) ?_; clear S a; intro a S
  (first | refine st_y S rfl rfl rfl (y_addN S rfl rfl (by omega)) ?_ | refine st_y S rfl rfl rfl (y_int S rfl rfl rfl) ?_); clear S a; intro a S
  refine st_go [1, 1, 1, 1, 1] S rfl (by kernel_rfl) ?_; clear S a; intro a S
  refine st_y S rfl rfl rfl (y_build (ps := [(0, (Operand.tmp 69)), (1, (Operand.tmp 70)), (2, (Operand.tmp 71)), (3, (Operand.tmp 72)), (4, (Operand.tmp 73)), (5, (Operand.tmp 74))]) (pl := [(0, 1), (1, 1), (2, 1), (3, 1), (4, 1), (5, 1)]) (z := [.int .i64 0, .int .i64 0, .int .i64 0, .int .i64 0, .int .u32 0, .slice none 0 0]) (cs := [_, _, _, _, _, _]) S (by kernel_rfl) rfl (rfl)) ?_; clear S a; intro a S
  refine st_y S rfl rfl rfl (y_indexS (e := 59) (sz := 6) S (by kernel_rfl) rfl rfl (by first | omega | (simp; done) | (simp; omega))) ?_; clear S a; intro a S
  try simp only [Int.toNat_natCast, Nat.mul_one, Nat.zero_add] at S
  refine st_store (sz := 6) (us := [_, _, _, _, _, _]) S M 2 rfl (by kernel_rfl) rfl rfl rfl rfl rfl rfl (by simp; omega) ?_; clear M; intro w7 M
  simp only [List.set_cons_zero, List.set_cons_succ] at M
  refine wpList_nil ?_
  refine block_normal ?_
  refine nxF ?_
  (first | refine st_y S rfl rfl rfl (y_addN S rfl rfl (by omega)) ?_ | refine st_y S rfl rfl rfl (y_int S rfl rfl rfl) ?_); clear S a; intro a S
  refine st_go [1] S rfl (by kernel_rfl) ?_; clear S a; intro a S
  replace S := S.sub [(0, _), (1, _), (2, _), (8, _), (9, _), (10, _), (47, _), (49, _), (11, _), (12, _), (13, _), (14, _), (48, _)] rfl
  refine nxC ?_
  subst hlv
  have M2 := loads_more M rfl hb hlh (by omega)
  have hle : lvs.length * 6 + 6 ≤ l.length := by omega
  refine ⟨nOf bs.length - (lvs.length + 1), by omega, lvs.length + 1, _, lo, _, _, by omega, rfl, S.sub _ rfl, M2, hb, ?_, by rw [putL_length]; exact hll, by simp, ?_⟩
  · have f := (M.fits _ (List.mem_of_getElem? (show _[1]? = _ from rfl))); simp only [Ent.hi, Ent.lo] at f; omega
  · intro i lv hi'
    rcases Nat.lt_or_ge i lvs.length with h | h
    · rw [List.getElem?_append_left h] at hi'
      rw [putL_ahead (by simpa using hle) (by omega)]
      exact hrow i lv hi'
    · have : i = lvs.length := by
        have := (List.getElem?_eq_some_iff.1 hi').1
        simp at this; omega
      subst this
      rw [List.getElem?_append_right (Nat.le_refl _)] at hi'
      simp only [Nat.sub_self, List.getElem?_cons_zero, Option.some.injEq] at hi'
      subst hi'
      exact putL_same (us := [_, _, _, _, _, _]) hle

end Go.Proofs.Ytafejnbfgkkjkaa
