/-
  What PartStrict rests on, part 12.
-/
import Derived.Test.YtocppoflhllelaaGreatP6
import Derived.Test.YtocppoflhllelaaGreatP9
namespace Go.Proofs.YtocppoflhllelaaGreat
open Go.RowKit Go.Sort
theorem XN (a b n : Int) (w : World) : CQ 264 #[.agg #[.int .i64 a, .int .i64 b], .int .i64 n] w (.bool (decide (a ≤ n ∧ n ≤ b))) := by
 have M := Mem.start w
 refine qI Tryz.func264 15 ?_; intro a S
 refine nxD (qW_ S M ?_); intro a w1 b1 S M hB
 refine gq [[0,1],[4,1,1,1,1,1],[943,9]] ?_ ?_
 ·intro a h9 S
  refine gp [[0,0,0,0,0,1,1],[3],[930]] ?_
  grind
 intro a h9 S
 refine gp [[0,1,2,1,1,1,1],[3],[930]] ?_
 grind
theorem QP (w : World) : CQ 263 #[] w (.agg #[.int .i64 1, .int .i64 1099511627776]) := by
 have M := Mem.start w
 refine qI Tryz.func263 2 ?_; intro a S
 refine nxD (qN S M Zy ?_); intro a w1 b1 S M hB
 refine nxA (qB_ VD VW S ?_); intro a S
 refine go [[900,0],[3]] ?_; intro a w2 S M
 refine Vb S rfl (rA_ 2 0 M) ?_
 exact ⟨rfl, M.below⟩
theorem JiG (n : Int) (w : World) (h : 1 ≤ n ∧ n ≤ 1099511627776) : CQ 295 #[.int .i64 n] w (.int .i64 (2 + n % 24)) := by
 have M := Mem.start w
 refine qI Tryz.func295 6 ?_
 refine gp [[2,1],[4,1]] ?_; intro a S
 (refine qY S (yw S rfl rfl o_) ?_); intro a S
 refine gp [[901],[0,1],[3],[930]] ?_
 exact ⟨rfl, M.below⟩
def plE (n : Int) : Int := if 1 ≤ n ∧ n ≤ 1099511627776 then 0 else 2
def plV (n : Int) : Int := if 1 ≤ n ∧ n ≤ 1099511627776 then 2 + n % 24 else 0
theorem EO (n : Int) (w : World) : CQ 231 #[.int .i64 n] w (.tuple #[.int .i64 (plV n), .int .i64 (plE n)]) := by
 have M := Mem.start w
 refine qI Tryz.func231 10 ?_
 refine gp [[2,1,1],[5]] ?_; intro a S
 refine qK S rfl (QP _) M ?_; intro a w1 S hK M
 refine qG [1] S ?_; intro a S
 refine qK S rfl (XN _ _ _ _) M ?_; intro a w2 S hK M
 refine gq [[0,1],[2],[940,7]] ?_ ?_
 ·intro a h7 S
  refine gp [[3,1,1],[4],[931]] ?_
  unfold plV plE; rw [if_neg o_, if_neg o_]; exact ⟨rfl, M.below⟩
 intro a h7 S
 refine gp [[5,1]] ?_; intro a S
 refine qK S rfl (JiG _ _ o_) M ?_; intro a w3 S hK M
 refine gp [[0,1,1],[3],[931]] ?_
 unfold plV plE; rw [if_pos o_, if_pos o_]; exact ⟨rfl, M.below⟩
abbrev Zb (t n : Int) : Prop := (1 ≤ t ∧ t ≤ 1099511627776) ∧ t ≤ n ∧ n ≤ t + 24
theorem JcF (t n : Int) (w : World) : CQ 184 #[.agg #[.int .i64 t, .int .i64 n]] w (.bool (decide (Zb t n))) := by
 have M := Mem.start w
 refine qI Tryz.func184 18 ?_; intro a S
 refine nxD (qW_ S M ?_); intro a w1 b1 S M hB
 refine gp [[0,1],[3],[920]] ?_; intro a S
 refine jM (xs := []) S (Ji Tryz.func263 d_ rfl) rfl rfl rfl (ZQ fun w M => QP w) ?_
 refine gp [[921,1,1]] ?_; intro a S
 refine jM (xs := [.tmp 3, .tmp 5]) S (Ji Tryz.func264 d_ rfl) rfl rfl rfl (ZQ fun w M => XN _ _ _ w) ?_
 refine gp [[921,1]] ?_; intro a S
 refine qf 7 S ?_ ?_
 ·intro h7 S
  refine Vo 9 S rfl ?_
  refine go [[921,1,1],[3],[930]] ?_; intro w6 M
  refine ⟨Jb ?_, M.below⟩; grind
 intro h7 S
 refine gp [[921,1,1,1,1]] ?_; intro a S
 (refine qU S (fun w M => Zo S rfl rfl o_) ?_); intro a S
 refine qU S (fun w M => JW (ps := [(0, .tmp 9), (1, .tmp 12)]) (pl := VD) (z := VW) (cs := [_, _]) S k_ rfl (rfl)) ?_
 refine gp [[921,2,1]] ?_; intro a S
 refine jM (xs := [.tmp 13, .tmp 15]) S (Ji Tryz.func264 d_ rfl) rfl rfl rfl (ZQ fun w M => XN _ _ _ w) ?_
 refine go [[921,1,1],[3],[930]] ?_; intro w5 M
 refine ⟨Jb ?_, M.below⟩; grind
theorem JjB (t n : Int) (w : World) (h : Zb t n) : CQ 185 #[.agg #[.int .i64 t, .int .i64 n]] w (.int .i64 (n - t)) := by
 have M := Mem.start w
 have h' := h
 unfold Zb at h'
 refine qI Tryz.func185 11 ?_; intro a S
 refine nxD (qW_ S M ?_); intro a w1 b1 S M hB
 refine gp [[0,1],[5],[902,0,2]] ?_; intro a S
 refine qK S rfl (JcF _ _ _) M ?_; intro a w2 S hK M
 refine gp [[0,1],[2],[941,5],[5,2,1,1,1],[901],[0,1],[3],[930]] ?_
 exact ⟨rfl, M.below⟩
theorem Di (t n : Int) (w : World) (h : Zb t n) : CQ 100 #[.agg #[.int .i64 t, .int .i64 n]] w (.int .i64 (24 - (n - t))) := by
 have M := Mem.start w
 have h' := h
 unfold Zb at h'
 refine qI Tryz.func100 9 ?_; intro a S
 refine nxD (qW_ S M ?_); intro a w1 b1 S M hB
 refine gp [[0,1],[5],[902,0,2]] ?_; intro a S
 refine qK S rfl (JcF _ _ _) M ?_; intro a w2 S hK M
 refine gp [[0,1],[2],[941,5],[5],[902,0,2]] ?_; intro a S
 refine qK S rfl (JjB _ _ _ h) M ?_; intro a w3 S hK M
 refine gp [[901],[0,1],[3],[930]] ?_
 exact ⟨rfl, M.below⟩
/-! following -/
def YJ (f : Int) (k : Nat) : List Int := (List.range k).map fun i : Nat => f + (i : Int)
theorem Jbp (f : Int) (k : Nat) : YJ f (k + 1) = YJ f k ++ [f + (k : Int)] := by simp [YJ, List.range_succ]
theorem Jfs (f : Int) {k n : Nat} (h : k < n) : ∃ t, YJ f n = YJ f k ++ (f + (k : Int)) :: t := by
 refine ⟨(YJ f n).drop (k + 1), ?_⟩
 have hl : (YJ f n).length = n := by simp [YJ]
 have ht : (YJ f n).take k = YJ f k := by
  unfold YJ
  rw [← List.map_take, List.take_range, Nat.min_eq_left o_]
 grind [List.take_append_drop, YJ, List.drop_eq_getElem_cons]
abbrev Ji3 (x : Int) : List Value := [.int .i64 x]
structure FolC (bn bf : Nat) (f n : Int) (W : World) : Prop where
 n : Blk W bn #[.int .i64 n] 3
 f : Blk W bf #[.int .i64 f] 3
set_option maxHeartbeats 1000000 in
theorem Wm (bn bf : Nat) (f : Int) (n : Nat) (hf : -1099511627776 ≤ f ∧ f ≤ 2199023255552) (hn : n ≤ 1000) : Gen Tryz.prog 342 [p_ bn, p_ bf] Ji3 (YJ f n) (FolC bn bf f n) := by
 intro ll I w hC hg hY h0
 have M := Mem.start w
 refine vh Tryz.func342 rfl 16 rfl rfl ?_; intro a S
 refine wpIn_seq ?_
 refine Jq k_ (by rintro _ _ ⟨⟨_, h⟩, -⟩; cases h) ?_
 refine qY S (Jf S k_ rfl ((hC _ _ h0).n.cells 0)) ?_
 refine gp [[0,1],[2]] ?_; intro a S
 refine wpIn_block ?_
 refine jW (fun m a w' => ∃ (k : Nat), k ≤ n ∧ m = n - k ∧ Jk 16 a [(0, .func (.yield ll) #[] #[]), (1, p_ bn), (2, p_ bf), (5, .int .i64 (n : Int)), (6, .int .i64 (k : Int))] ∧ I (YJ f k) w') (n) ?_ ?_
 ·skip
  exact ⟨0, Nat.zero_le _, rfl, S.sub _ rfl, h0⟩
 intro m a wl
 rintro ⟨k, hk, rfl, S, hI⟩
 have M := Mem.start wl
 refine wpIn_seq ?_
 refine Jq k_ (by rintro _ _ ⟨⟨_, h⟩, -⟩; cases h) ?_
 refine qG [1] S ?_; intro a S
 refine nxC (wpIn_seq ?_)
 refine qf 7 S ?_ ?_
 ·intro h7 S
  refine Vc S rfl ?_
  refine wpIn_exit ?_
  refine gp [[3]] ?_; intro a S
  refine JD S rfl ?_
  grind
 intro h7 S
 refine Ya S rfl ?_
 refine wpIn_skip ?_
 refine Jn (wpIn_seq ?_)
 refine wpIn_block ?_
 refine wpIn_seq ?_
 refine Jq k_ (by rintro _ _ ⟨⟨_, h⟩, -⟩; cases h) ?_
 refine gp [[0,1,1],[2]] ?_; intro a S
 refine wpIn_seq ?_
 refine zP 4 k_ (by rintro _ _ ⟨⟨_, h⟩, -⟩; cases h) ?_; simp only [List.take_succ_cons, List.take_zero, List.drop_succ_cons, List.drop_zero]
 refine qG [1] S ?_; intro a S
 refine qY S (Jf S k_ rfl ((hC _ _ hI).f.cells 0)) ?_
 refine gp [[0,1],[901]] ?_; intro a S
 refine wpList_nil ?_; refine Jn ?_
 refine vM (xs := [.tmp 12]) S rfl k_ rfl rfl (hY (YJ f k) (f + (k : Int)) _ _ (Jfs f (n := n) o_).choose_spec (hg _ _ _ hI M.below)) ?_
 rintro _ w1 ⟨rfl, hI2⟩; refine rv_ ?_; intro a S; have M := Mem.start w1
 refine Yq k_ (by rintro _ _ ⟨⟨_, h⟩, -⟩; cases h) ?_
 refine gp [[0,1],[2],[941,14]] ?_; intro a S
 refine Vc S rfl ?_
 refine wpIn_skip ?_
 refine Jy (Jn (Jq k_ (by rintro _ _ ⟨⟨_, h⟩, -⟩; cases h) ?_))
 refine gp [[901],[0,1],[2]] ?_; intro a S
 exact ⟨n - (k + 1), by omega, k + 1, by omega, rfl, S.sub _ rfl, by grind [Jbp]⟩
theorem Jb0 (f n : Int) (w : World) : CT 316 #[.int .i64 f, .int .i64 n] w fun e w' => ∃ bn bf, e = .returned (.func (.func 342) #[] #[p_ bn, p_ bf]) ∧ Mem w w' [.blk bn #[.int .i64 n] 3, .blk bf #[.int .i64 f] 3] := by
 have M := Mem.start w
 refine qI Tryz.func316 6 ?_; intro a S
 refine nxD (VA S M rfl rfl rfl #[_] rfl ?_); intro a w1 bF S M hB
 refine VA S M rfl rfl rfl #[_] rfl ?_; intro a w2 bN S M hB
 refine qG [1] S ?_; intro a S
 refine nxA (qY S (Jx (fs := []) (cs := [.tmp 3, .tmp 2]) S rfl rfl) ?_); intro a S
 refine gp [[0,1],[3],[930]] ?_
 grind
def KD (t n k : Int) : Prop := k ≤ 24 - (n - t) ∧ n + k ≤ 1099511627776
def JjC (t n k : Int) (w : World) (e : Ending) (w' : World) : Prop := ∃ (er x y : Int) (v : Value), e = .returned (.tuple #[.agg #[.int .i64 x, .int .i64 y], v, .int .i64 er]) ∧ Below w.heap.size w w' ∧ ((er = 0 ∧ KD t n k ∧ t = x ∧ n + k = y) ∨ (er = 50 ∧ ¬ KD t n k))
set_option maxHeartbeats 1000000 in
theorem JjD (t n : Int) (k : Nat) (w : World) (h : Zb t n) (hk : k ≤ 24) : CT 266 #[.agg #[.int .i64 t, .int .i64 n], .int .i64 (k : Int)] w (JjC t n k w) := by
 have M := Mem.start w
 have h' := h
 unfold Zb at h'
 refine vg Tryz.func266 rfl 50 rfl rfl ?_; intro a S
 refine nxD (qW_ S M ?_); intro a w1 bL S M hB
 refine qN S M Zy ?_; intro a w2 bR S M hB
 refine gp [[0,1,1],[5],[902,1,2]] ?_; intro a S
 refine qK S rfl (JcF _ _ _) M ?_; intro a w3 S hK M
 refine gp [[0,1,1],[941,12]] ?_; intro a S
 refine qB_ VD VW S ?_
 refine gp [[0,1]] ?_; intro a S
 refine qK S rfl (XN _ _ _ _) M ?_; intro a w4 S hK M
 refine gp [[0,1,1],[2],[941,17],[6],[902,1,2]] ?_; intro a S
 refine qK S rfl (Di _ _ _ h) M ?_; intro a w5 S hK M
 refine gq [[0,1,1,1],[940,23]] ?_ ?_
 ·intro a h23 S
  refine gp [[0,0,0,0,0,0,1],[5]] ?_; intro a S
  refine qB_ VD VW S ?_
  refine go [[900,0],[0,1,1],[4]] ?_; intro a w6 S M
  refine jQ ?_
  refine JY S rfl (rA_ 2 0 M) rT_ rT_ ?_
  exact ⟨50, _, _, _, rfl, M.below, .inr ⟨rfl, by grind [KD]⟩⟩
 intro a h23 S
 refine gq [[0,2,2,1],[901],[0,1,1],[2],[940,29]] ?_ ?_
 ·intro a h29 S
  refine cT S (nxD (qB_ VD VW S ?_)); intro a S
  refine go [[900,0],[0,1,1],[4]] ?_; intro a w7 S M
  refine jQ ?_
  refine JY S rfl (rA_ 2 0 M) rT_ rT_ ?_
  exact ⟨50, _, _, _, rfl, M.below, .inr ⟨rfl, by grind [KD]⟩⟩
 intro a h29 S
 refine gp [[5,1]] ?_; intro a S
 refine Z2 (e := 3) (sz := 1) (by_ := 8) (zc := [.int .i64 0]) S M rfl rfl k_ rfl rfl o_ o_ o_ o_ ?_; intro a w8 b1 S M hB
 try simp only [Int.toNat_natCast, Int.reduceToNat] at S M
 refine qN S M #[.slice none 0 0] ?_; intro a w9 bO S M hB
 refine go [[900,0],[5,2,4,1]] ?_; intro a w10 S M
 refine qD S rfl (Jb0 n (k : Int) _) ?_
 rintro _ w11 ⟨bN, bF, rfl, M1⟩; refine rv_ ?_; intro a S; replace M := M.join M1; clear M1
 replace M := M.c_
 refine nxC (wp_block ?_)
 replace M := M.toRow (sz := 1) (m := 0) (cap := k) (xs := []) 3 rfl rfl (Nat.zero_le _) (by grind [maxLen]) (by grind [Yz]) rfl
 replace M := M.e_
 replace M := M.frn 3
 refine Dt (encs := Ji3) (xs := YJ n k) S M rfl (Ji Tryz.func342 d_ rfl) (Wm bN bF n k o_ o_) (fun _ => rfl) k_ (fun pre Hs => ∃ (v : Value) (lo hi : Nat), Hs = [.blk bO #[v] 89, Jd lo hi 3 1 v pre.length (pre.map fun x => .int .i64 x), .blk bN #[.int .i64 (k : Int)] 3, .blk bF #[.int .i64 n] 3, .blk bR Zy 97, .blk bL #[.int .i64 t, .int .i64 n] 97]) (⟨_, _, _, rfl⟩) (fun pre Hs W ⟨v, lo, hi, e⟩ M => by subst e; exact ⟨M.blk 2 rfl, M.blk 3 rfl⟩) ?_ ?_
 ·intro lY pre x tX Hs wr BK a hx hI M S
  simp only [ZF] at S
  obtain ⟨v, lo, hi, rfl⟩ := hI
  have hpl : pre.length ≤ 24 := by
   have e := congrArg List.length hx
   grind [YJ]
  refine Jq k_ (fun _ _ h => h) ?_
  refine gp [[0,1],[2]] ?_; intro a S
  refine ⟨_, M, ?_⟩; intro wb BK M
  refine wpIn_block ?_
  refine Jq k_ (fun _ _ h => h) ?_
  refine gp [[0,2,1]] ?_; intro a S
  refine JG (ps := [(0, .tmp 39)]) (e := 3) (sz := 1) (zl := [.int .i64 0]) (cs := [_]) S M rfl rfl k_ rfl (rfl) ?_; intro a w12 bZ S M hB
  refine qP_ (e := 3) (sz := 1) (by_ := 8) (zc := [.int .i64 0]) S M 3 rfl rfl rfl (show Rd _ _ _ 1 _ 1 [Value.int .i64 x] from M.sliceAt 0 rfl (M.cellsAt (k := 1) 0 rfl rfl) rfl (Nat.le_refl _) (by grind [maxLen])) ?_; intro a w13 vA loA hiA S M
  obtain ⟨aA, cA, rfl, -, -⟩ := (M.readAll 0 rfl (by grind [maxLen])).form
  refine go [[900,3],[2]] ?_; intro a w14 S M
  replace M := M.frn 2
  skip
  replace M := M.drp 2
  replace M := M.od [1, 2, 2]
  refine ⟨_, M, .slice aA (pre.length + 1) cA, loA, hiA, ?_⟩
  grind
 intro D1 wd Hs a hI M S
 obtain ⟨v, lo, hi, rfl⟩ := hI
 refine gp [[3]] ?_; intro a S
 refine Yo (C := fun W => Blk W bL #[.int .i64 t, .int .i64 n] 97 ∧ Blk W bO #[v] 89) [8] #[false, false, false, false, false, false, false, false, false, false, false] rfl M k_ ?_; intro w15 M; have hC := And.intro (M.blk 6 rfl) (M.blk 1 rfl)
 refine kcF 0 0 S hC ?_; intro a S
 refine JT 1 S rfl hC (fun w hC => Jf S k_ rfl (hC.1.cells 0)) ?_; intro a S
 refine kcF 2 1 S hC ?_; intro a S
 refine JT 3 S rfl hC (fun w hC => Jf S k_ rfl (hC.1.cells 1)) ?_; intro a S
 refine kcP 4 S hC ?_; intro a S
 (refine JT 5 S rfl hC (fun w _ => Zo S rfl rfl o_) ?_); intro a S
 refine JT 6 S rfl hC (fun w _ => JW (ps := [(0, .tmp 43), (1, .tmp 47)]) (pl := VD) (z := VW) (cs := [_, _]) S k_ rfl (rfl)) ?_; intro a S
 refine JT 7 S rfl hC (fun w hC => Jf S k_ rfl (hC.2.cells 0)) ?_; intro a S
 refine VV 8 rfl k_ ?_
 refine go [[900,5]] ?_; intro a w16 S M
 replace hC := And.intro (M.blk 6 rfl) (M.blk 1 rfl)
 refine nxC ⟨fun h => absurd h d_, hC, ?_⟩
 refine kcP 9 S hC ?_; intro a S
 refine kcP 10 S hC ?_; intro a S
 refine vS k_ ?_
 replace S := S.keep [0, 1, 2, 4, 17, 29, 7, 36, 5, 6]
 refine Jn (wp_ret (yR S M 0 rfl ?_)); intro a wM S M
 replace M := M.e_
 refine jQ ?_
 refine JY S rfl (rA_ 2 4 M) rT_ rT_ ?_
 exact ⟨0, _, _, _, rfl, M.below, .inl ⟨rfl, by grind [KD], rfl, rfl⟩⟩
section
variable {ds : List Deferred}
variable {P : Program} {ops : Array Oper} {Q : Exit → Act → World → Prop} {md : Region.Mode} {rest : List Oper} {n d : Nat} {a : Act} {L : List (Nat × Value)} {w w0 : World} {v : Value} {o : Oper} {H : List Ent} {r : Option Nat}
def Jjh {α : Type} (P : Program) (gf : FuncId) (lb : List Value) (V : α → List Value → List Ent → Prop) (xs : List α) (C : World → Prop) : Prop :=
 ∀ (l : Nat) (w0 : World) (I X : List α → List Ent → Prop) (w : World) (Hs : List Ent), (∀ pre Hs W, I pre Hs → Mem w0 W Hs → C W) →
  (∀ pre x t E vs Hs W, xs = pre ++ x :: t → V x vs E → I pre Hs → Mem w0 W (E ++ Hs) → Yld P l vs W fun e W' => ∃ Hs', Mem w0 W' (E ++ Hs') ∧ ((e = .returned (.bool true) ∧ I (pre ++ [x]) Hs') ∨ (e = .returned (.bool false) ∧ X (pre ++ [x]) Hs'))) →
  I [] Hs → Mem w0 w Hs →
  CallsIn (Fnc none) 0 P gf ((.func (.yield l) #[] #[] :: lb).toArray) w fun e W => (∃ v, e = .returned v) ∧ ∃ Hs', Mem w0 W Hs' ∧ (I xs Hs' ∨ ∃ pre x t, xs = pre ++ x :: t ∧ X (pre ++ [x]) Hs')
theorem JcW {α : Type} {g : Operand} {ps : List Tmp} {assign body : Code} {gf : FuncId} {lb : List Value} {V : α → List Value → List Ent → Prop} {xs : List α} {C : World → Prop}
 (S : SeesD ds n a L) (M : Mem w0 w H) (hg : val L g = some (.func (.func gf) #[] lb.toArray)) (hE : VL P gf) (G : Jjh P gf lb V xs C) (hps : ∀ x vs E, V x vs E → vs.length = ps.length) (hpn : (ps.all fun p => Nat.blt p n) = true)
 (I : List α → List Ent → Prop) (X : Code → List α → List Ent → Prop) (h0 : I [] H) (hC : ∀ pre Hs W T, I pre Hs → Mem w0 W (Hs ++ T) → C W)
 (hround : ∀ (l : Nat) (pre : List α) (x : α) (t : List α) (Hs E : List Ent) (vs : List Value) (W : World) (B : Ent) (a' : Act), xs = pre ++ x :: t → V x vs E → I pre Hs → Mem w0 W (Hs ++ B :: E) → Jk n a' (ZF ps vs L) →
   assign.wpIn (Fnc (some l)) 0 P (Exit.then (fun a1 W1 => ∃ Hs1, Mem w0 W1 (Hs1 ++ B :: E) ∧ ∀ (W2 : World) (B2 : Ent), Mem w0 W2 (Hs1 ++ B2 :: E) → body.wpIn (Fnc (some l)) 0 P (Jdy w0 (B2 :: E) (I (pre ++ [x])) (fun c => X c (pre ++ [x]))) a1 W2) (fun _ _ _ => False)) a' W)
 (hdone : ∀ (D : Nat) (W : World) (Hs : List Ent) (a' : Act), I xs Hs → Mem w0 W (jq D :: Hs) → SeesD (vI D :: ds) n a' L → Q .normal a' W)
 (hstop : ∀ (D : Nat) (W : World) (Hs : List Ent) (a' : Act) (c : Code) (pre : List α) (x : α) (t : List α), xs = pre ++ x :: t → X c (pre ++ [x]) Hs → Mem w0 W (jq D :: Hs) → SeesD (vI D :: ds) n a' L → c.wp P Q a' W) :
 (Code.rangeFunc g ps.toArray assign body).wp P Q a w := by
 refine (wpIn_wide (n := 0)).1 (wpIn_rangeFunc fun fn _ => ?_)
 obtain ⟨rec, hrec⟩ : ∃ rec : LoopState → Option Code → Loop, rec = fun st pe => { state := st, pending := pe, fn, tmps := a.tmps, params := ps.toArray, assign, body, defers := w.heap.size } := ⟨_, rfl⟩
 obtain ⟨W1, hW1⟩ : ∃ W1, (w.alloc (.deferred (some []))).alloc (.loop (rec .ready none)) = W1 := ⟨_, rfl⟩
 have M1 : Mem w0 W1 (kE w.heap.size (rec .ready none) :: H) := by
  rw [← hW1]
  refine M.push (Vd (Vd (JE _) _) _) _ (fun W' hs => ⟨?_, ?_⟩) (Nat.le_refl _) (by simp [Ent.hi])
  ·rw [hs w.heap.size (Nat.le_refl _) o_]; grind [Below.heap_alloc, World.alloc_heap_new]
  ·rw [hs (w.heap.size + 1) o_ o_]
   grind [World.alloc_heap_new, World.size_alloc]
 have hev : a.eval g = .func (.func gf) #[] lb.toArray := S.eval hg
 have fin : ∀ (R R' : Loop) (Hs : List Ent) (W : World), Mem w0 W (kE w.heap.size R :: Hs) → Mem w0 (W.putObj (w.heap.size + 1) (.loop R')) (jq w.heap.size :: Hs) := fun R R' Hs W M2 => by
  have M3 := (M2.keep (R' := R')).2
  have h := M3.own 0 rfl
  refine M3.change (e' := jq w.heap.size) 0 rfl rfl rfl (fun W' hs => ?_) rfl rfl rfl rfl fun _ _ => rfl
  show W'.heap[w.heap.size]? = _
  rw [hs w.heap.size (Nat.le_refl _) o_]; grind
 refine ⟨w.heap.size + 1, [vI w.heap.size], W1, { target := .fn (.func gf) lb.toArray, args := #[.func (.yield (w.heap.size + 1)) #[] #[]] }, W1, gf, (.func (.yield (w.heap.size + 1)) #[] #[] :: lb).toArray, W1, ?_, ?_, fun _ _ => trivial, ?_, fun h => (by cases h), ?_⟩
 ·rw [← hW1, hrec]; exact run_enterLoop_outer _ _ _ _ _
 ·simp only [resolve, hev]
  simp [go_sem]
 ·have := hE ((.func (.yield (w.heap.size + 1)) #[] #[] :: lb).toArray) W1
  grind [invoke]
 ·refine CallsIn.mono (G (w.heap.size + 1) w0 (fun pre Hs => ∃ H1, Hs = kE w.heap.size (rec .ready none) :: H1 ∧ I pre H1) (fun pre Hs => ∃ c H1, Hs = kE w.heap.size (rec .done (some c)) :: H1 ∧ X c pre H1) W1 _ ?_ ?_ ⟨H, rfl, h0⟩ M1) ?_
  ·rintro pre Hs W ⟨H1, rfl, hI⟩ M2
   exact hC pre H1 W [kE w.heap.size (rec .ready none)] hI (Mem.turn (E := []) M2)
  ·rintro pre x t E vs Hs W hx hV ⟨H1, rfl, hI⟩ MW
   have MW2 := MW.turn
   have hl := (Mem.keep (R' := rec .ready none) MW2.tailK).1
   have hy := run_yield (P := P) (args := vs.toArray) hl (by grind)
   rw [hrec] at hy
   refine ⟨fn, _, assign, body, hy, roundIn_of_wpIn trivial ?_⟩
   have hS : Jk n { tmps := (ps.toArray.zip (vs).toArray).foldl (fun t (p, v) => t.setIfInBounds p v) a.tmps, defers := [] } (ZF ps (vs) L) := by
    have h1 := yW ps (vs) hpn S
    have e : (ps.toArray.zip (vs).toArray).foldl (fun t (p, v) => t.setIfInBounds p v) a.tmps = (ps.zip (vs)).foldl (fun t (q : Nat × Value) => t.setIfInBounds q.1 q.2) a.tmps := by
     grind
    rw [e]
    exact ⟨h1.size, rfl, h1.at_, h1.lt⟩
   refine wpIn_mono (hround (w.heap.size + 1) pre x t H1 E vs W (kE w.heap.size (rec .ready none)) _ hx hV hI MW2 hS) fun e a1 W2 h => ?_
   cases e with
   | normal =>
     obtain ⟨Hs1, M2, hb⟩ := h
     obtain ⟨hl2, M3⟩ := Mem.keep (R' := { rec .ready none with state := .busy }) M2.tailK
     refine ⟨_, run_beginRound hl2 (by grind), ?_⟩
     refine wpIn_mono (hb _ _ M3.backK) fun e a3 W3 h3 => ?_
     have ends : ∀ (jump : Option Code) (Hs3 : List Ent), Mem w0 W3 (Hs3 ++ kE w.heap.size { rec .ready none with state := .busy } :: E) → ∃ W', (Instr.endRound (w.heap.size + 1) jump).run P W3 = .ok (.bool jump.isNone) W' ∧ Mem w0 W' (E ++ kE w.heap.size (rec (if jump.isNone then .ready else .done) jump) :: Hs3) := fun jump Hs3 M4 => by
      obtain ⟨hl4, M5⟩ := Mem.keep (R' := rec (if jump.isNone then .ready else .done) jump) M4.tailK
      have he := run_endRound (P := P) jump hl4
      have e2 : ({ ({ rec .ready none with state := LoopState.busy } : Loop) with state := if jump.isNone then LoopState.ready else LoopState.done, pending := jump } : Loop) = rec (if jump.isNone then .ready else .done) jump := by grind
      rw [e2] at he
      exact ⟨_, he, M5.backK.turnB⟩
     cases e with
     | normal =>
       obtain ⟨Hs3, M4, h4⟩ := h3
       obtain ⟨W', he, M5⟩ := ends none Hs3 M4
       exact ⟨_, _, he, _, M5, .inl ⟨rfl, Hs3, rfl, h4⟩⟩
     | ret =>
       obtain ⟨Hs3, M4, h4⟩ := h3
       obtain ⟨W', he, M5⟩ := ends (some .ret) Hs3 M4
       exact ⟨_, _, he, _, M5, .inr ⟨rfl, _, Hs3, rfl, h4⟩⟩
     | exit id =>
       obtain ⟨Hs3, M4, h4⟩ := h3
       obtain ⟨W', he, M5⟩ := ends (some (.exit id)) Hs3 M4
       exact ⟨_, _, he, _, M5, .inr ⟨rfl, _, Hs3, rfl, h4⟩⟩
     | goto t =>
       obtain ⟨Hs3, M4, h4⟩ := h3
       obtain ⟨W', he, M5⟩ := ends (some (.goto t)) Hs3 M4
       exact ⟨_, _, he, _, M5, .inr ⟨rfl, _, Hs3, rfl, h4⟩⟩
     | panic ch => exact h3.elim
     | outgrown => exact h3.elim
   | exit id => exact h.elim
   | goto t => exact h.elim
   | ret => exact h.elim
   | panic ch => exact h.elim
   | outgrown => exact h.elim
  ·rintro e W2 ⟨⟨v, rfl⟩, Hs, M2, hI⟩
   rcases hI with ⟨H1, rfl, hI⟩ | ⟨pre, x, t, hx, c, H1, rfl, hX⟩
   ·obtain ⟨hl, -⟩ := Mem.keep (R' := rec .ready none) M2
    have he := run_endLoop (P := P) hl (by grind)
    have he' : (Instr.endLoop (w.heap.size + 1)).run P W2 = .ok none (W2.putObj (w.heap.size + 1) (.loop { rec .ready none with state := .exhausted })) := he.trans (by grind)
    exact ⟨none, _, he', hdone w.heap.size _ H1 _ hI (fin _ _ _ _ M2) ⟨S.size, by rw [← S.defers]; rfl, S.at_, S.lt⟩⟩
   ·obtain ⟨hl, -⟩ := Mem.keep (R' := rec .ready none) M2
    have he := run_endLoop (P := P) hl (by grind)
    have he' : (Instr.endLoop (w.heap.size + 1)).run P W2 = .ok (some c) (W2.putObj (w.heap.size + 1) (.loop { rec .done (some c) with state := .exhausted })) := he.trans (by grind)
    exact ⟨some c, _, he', (wpIn_wide (n := 0)).2 (hstop w.heap.size _ H1 _ c pre x t hx hX (fin _ _ _ _ M2) ⟨S.size, by rw [← S.defers]; rfl, S.at_, S.lt⟩)⟩
end

theorem JbC (n : Int) (w : World) : CQ 199 #[.int .i64 n] w (.tuple #[.int .i64 (plV n), .int .i64 (plE n)]) := by
 have M := Mem.start w
 refine qI Tryz.func199 13 ?_
 refine gq [[2,1,1],[5,1,1,1],[940,6]] ?_ ?_
 ·intro a h6 S
  refine gp [[0,0,0,1],[5,1,1],[4],[931]] ?_
  unfold plV plE; (rw [if_neg o_, if_neg o_]; exact ⟨rfl, M.below⟩)
 intro a h6 S
 refine gq [[0,1,1,1],[2],[940,9]] ?_ ?_
 ·intro a h9 S
  refine gp [[3,1,1],[4],[931]] ?_
  unfold plV plE; (rw [if_neg o_, if_neg o_]; exact ⟨rfl, M.below⟩)
 intro a h9 S
 refine gp [[5,1]] ?_; intro a S
 (refine qY S (yw S rfl rfl o_) ?_); intro a S
 refine gp [[901],[0,1,1],[3],[931]] ?_
 unfold plV plE; (rw [if_pos o_, if_pos o_]; exact ⟨rfl, M.below⟩)
end Go.Proofs.YtocppoflhllelaaGreat
