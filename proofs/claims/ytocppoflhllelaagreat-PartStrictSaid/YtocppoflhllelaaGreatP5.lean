/-
  What PartStrict rests on, part 5.
-/
import Derived.RangeFuncLeaves
import Derived.RangeFuncRecord
import Derived.RangeFuncSeq
import Derived.OrdersIn
import Derived.TacticsIn
import Derived.Test.YtocppoflhllelaaGreatP3
namespace Go.Proofs.YtocppoflhllelaaGreat
open Go.RowKit Go.Sort
section
def VR (n k : Int) : Prop := 1 ≤ k ∧ k ≤ 6 ∧ 0 ≤ n ∧ n < 256 ^ k.toNat
theorem JiF (k : Nat) : (2 : Int) ^ (8 * k) = 256 ^ k := by rw [Int.pow_mul]; rfl
open Classical in
noncomputable def UI (n k : Int) : Bool := decide (VR n k)
theorem Jge (n k : Int) (w : World) : CQ 339 #[.int .i64 n, .int .i64 k] w (.bool (UI n k)) := by
 have M := Mem.start w
 have key : ∀ b : Bool, (b = true ↔ VR n k) → b = UI n k := fun b h => by grind [UI]
 refine qI Tryz.func339 22 ?_
 refine gq [[2,1],[4,1,1,1],[943,7]] ?_ ?_
 ·intro a h7 S
  refine gp [[0,0,0,1,1,0,0,1,1,0,0,0,0,0,1,1],[3],[930]] ?_
  refine ⟨Jb (key _ ?_), M.below⟩
  grind [VR]
 intro a h7 S
 refine gq [[0,1,1,1,1],[943,11]] ?_ ?_
 ·intro a h11 S
  refine gp [[0,0,0,1,1,0,0,0,0,0,1,1],[3],[930]] ?_
  refine ⟨Jb (key _ ?_), M.below⟩
  grind [VR]
 intro a h11 S
 refine gq [[0,1,1,1,1],[943,15]] ?_ ?_
 ·intro a h15 S
  refine gp [[0,0,0,0,0,0,1,1],[3],[930]] ?_
  refine ⟨Jb (key _ ?_), M.below⟩
  grind [VR]
 intro a h15 S
 refine gp [[0,1,1],[901]] ?_; intro a S
 (refine qY S (QA S rfl rfl o_) ?_); intro a S
 refine gp [[0,1,1,1],[3],[930]] ?_
 refine ⟨Jb (key _ ?_), M.below⟩
 unfold VR
 (have h8 : ((8 : Int) * k).toNat = 8 * k.toNat := by omega
  rw [h8, JiF]
  have hp : (0 : Int) < 256 ^ k.toNat := Int.pow_pos o_
  simp only [beq_iff_eq]
  constructor
  ·intro h
   refine ⟨by omega, by omega, by omega, ?_⟩
   rcases Int.lt_or_le n (256 ^ k.toNat) with hlt | hle
   ·omega
   ·have := Int.le_ediv_of_mul_le (a := 1) (b := n) hp o_
    omega
  grind [Int.ediv_eq_zero_of_lt])
theorem Jcx (v u : Value) (bs ms : List UInt8) (w : World) (hv : Bs 0 w.heap.size w v bs) (hu : Bs 0 w.heap.size w u ms) (hb : bs.length ≤ 70000000000000) (hm : ms.length ≤ 70000000000000) :
 CT 340 #[v, u] w fun e w' => ∃ v', e = .returned v' ∧ Fresh w w' 5 1 v' (bs ++ ms).length (Jh (bs ++ ms)) := by
 have M := Mem.start w
 refine qI Tryz.func340 18 ?_
 refine gp [[2,1],[4,1],[908,5],[0,1],[908,5],[901]] ?_; intro a S
 refine Z2 (e := 5) (sz := 1) (by_ := 1) (zc := Ym) S M rfl rfl k_ rfl rfl o_ o_ o_ o_ ?_; intro a w1 b1 S M hB
 try simp only [Int.reduceToNat] at S M
 refine gp [[0,1],[4]] ?_; intro a S
 rw [show ((bs.length : Int) + (ms.length : Int)).toNat = bs.length + ms.length by omega] at S M
 replace M := M.toRow (sz := 1) (m := 0) (cap := bs.length + ms.length) (xs := []) 0 rfl rfl (Nat.zero_le _) (by grind [maxLen]) (by simp [Yz]) (by simp)
 refine qY S (Vz S rfl) ?_
 refine gp [[0,1]] ?_; intro a S
 refine JI (e := 5) (sz := 1) (by_ := 1) (zc := Ym) S M 0 rfl rfl k_ rfl d_ rfl rfl rfl (M.arg hv) (JA _) o_ (by grind [maxLen]) ?_; intro a w2 vA loA hiA S M
 refine gp [[0,1],[4,1,1]] ?_; intro a S
 refine JI (e := 5) (sz := 1) (by_ := 1) (zc := Ym) S M 0 rfl rfl k_ rfl d_ rfl rfl rfl (M.arg hu) (JA _) o_ (by grind [maxLen]) ?_; intro a w3 vA loA hiA S M
 refine gp [[0,1],[3],[930]] ?_
 exact ⟨_, rfl, by have := M.fresh 0 rfl; grind [Vv]⟩
def Qo (n : Int) (k : Nat) : List Value := (List.range 6).map fun i => .int .u8 ((if i < k then V4 (n / 256 ^ i) else 0).toNat : Int)
theorem Jgm (n : Int) (k : Nat) : (Qo n k).set k (.int .u8 ((V4 (n / 256 ^ k)).toNat : Int)) = Qo n (k + 1) := by
 apply List.ext_getElem?
 grind [Qo]
theorem JeL {n : Int} {k : Nat} (hk : k ≤ 6) : (Qo n k).take k = Jh (leB n k) := by
 apply List.ext_getElem?
 grind [Qo, Jh, leB]
open Classical in
noncomputable def zZ (n k : Int) : Int := if VR n k then 0 else 2
def Jii (bs : List UInt8) (n k : Int) (w : World) (e : Ending) (w' : World) : Prop :=
 ∃ v', e = .returned (.tuple #[v', .int .i64 (zZ n k)]) ∧ Below w.heap.size w w' ∧ (VR n k → Fresh w w' 5 1 v' (bs ++ leB n k.toNat).length (Jh (bs ++ leB n k.toNat))) ∧ (¬ VR n k → v' = .slice none 0 0)
theorem We (v : Value) (bs : List UInt8) (n k : Int) (w : World) (hv : Bs 0 w.heap.size w v bs) (hb : bs.length ≤ 70000000000000) : CT 310 #[v, .int .i64 n, .int .i64 k] w (Jii bs n k w) := by
 have M := Mem.start w
 refine qI Tryz.func310 30 ?_
 refine gp [[2,1,1],[5,1,1]] ?_; intro a S
 refine qK S rfl (Jge _ _ _) M ?_; intro a w1 S hK M
 refine qG [1] S ?_; intro a S
 refine nxC (Js (t := 13) S rfl ?_ ?_)
 ·intro h13 S
  refine gp [[3,1,1],[4],[931]] ?_
  have hf : ¬ VR n k := by grind [UI]
  exact ⟨_, by grind [zZ], M.below, fun h => absurd h hf, fun _ => rfl⟩
 intro h13 S
 refine gp [[5]] ?_; intro a S
 have hf : VR n k := by grind [UI]
 obtain ⟨hk1, hk6, hn0, hnk⟩ := hf
 obtain ⟨K, rfl⟩ := Int.eq_ofNat_of_zero_le (show 0 ≤ k by omega)
 refine qN S M #[.int .u8 0, .int .u8 0, .int .u8 0, .int .u8 0, .int .u8 0, .int .u8 0] ?_; intro a w2 b1 S M hB
 refine gp [[5,1,1],[3]] ?_; intro a S
 refine Jc (fun m a w' => ∃ (j : Nat), j ≤ K ∧ m = K - j ∧ Jk 30 a [(0, v), (1, .int .i64 n), (2, .int .i64 (K : Int)), (8, p_ b1), (14, .int .i64 (K : Int)), (15, .int .i64 (j : Int))] ∧ Mem w w' [.blk b1 (Qo n j).toArray 402]) (K) ?_ ?_
 ·skip
  exact ⟨0, Nat.zero_le _, rfl, S.sub _ rfl, M⟩
 intro m a wl
 rintro ⟨j, hj, rfl, S, M⟩
 refine gq [[2,1],[3],[943,16]] ?_ ?_
 ·intro a h16 S
  refine gp [[8,1,1]] ?_; intro a S
  refine qY S (Jba (m := 6) (sz := 1) S k_ rfl rfl o_) ?_; intro a S
  obtain rfl : j = K := by omega
  have hd : Bs 0 wl.heap.size wl (.slice (some ⟨b1, 0, none⟩) j 6) (leB n j) := by
   unfold Bs; rw [Jl]
   exact (Rd.of_blk (M.blk 0 rfl) (by simp [Jh, leB]) o_ (by grind [maxLen]) (by grind [JeL])).wide (Nat.zero_le _) (M.fits _ (List.mem_of_getElem? (show _[0]? = _ from rfl))).2
  refine qD S rfl (Jcx v _ bs (leB n j) _ (M.argW hv) hd hb (by grind [Jl])) ?_
  rintro _ w4 ⟨v', rfl, hF⟩; refine rv_ ?_; intro a S
  obtain ⟨lo, hi, -, M⟩ := M.pushFresh hF
  refine gp [[0,1,1],[3],[931]] ?_
  have hf : VR n (j : Int) := ⟨hk1, hk6, hn0, hnk⟩
  exact ⟨_, by unfold zZ; rw [if_pos hf], M.below, fun _ => by
   rw [Int.toNat_natCast]; exact M.fresh 0 rfl, fun h => absurd hf h⟩
 intro a h16 S
 refine gp [[7,1,1],[3,1,1,1],[901]] ?_; intro a S
 (refine qY S (QA S rfl rfl o_) ?_); intro a S
 refine qY S (Zg S rfl k_ k_) ?_
 refine gp [[906,6,1]] ?_; intro a S
 refine Ju (sz := 1) (us := [_]) S M 0 rfl k_ rfl rfl rfl rfl rfl rfl (by grind [Qo]) ?_; intro w3 M
 replace M := M.s_
 refine gp [[4],[901],[0,1],[2]] ?_; intro a S
 have e8 : n / 2 ^ ((8 : Int) * (j : Int)).toNat = n / 256 ^ j := by rw [show ((8 : Int) * (j : Int)).toNat = 8 * j by omega, JiF]
 refine ⟨K - (j + 1), by omega, j + 1, by omega, rfl, S.sub _ rfl, ?_⟩
 rw [← Jgm, ← e8]; exact M
open Classical in
noncomputable def Wl (bs : List UInt8) (at_ k : Int) : Int := if k < 1 ∨ 6 < k then 2 else if at_ < 0 ∨ (bs.length : Int) - k < at_ then 40 else 0
def jB (bs : List UInt8) (at_ k : Int) : Int := if (1 ≤ k ∧ k ≤ 6) ∧ 0 ≤ at_ ∧ at_ ≤ (bs.length : Int) - k then (leN ((bs.drop at_.toNat).take k.toNat) : Int) else 0
theorem Jh4 (v : Value) (bs : List UInt8) (at_ k : Int) (w : World) (hv : Bs 0 w.heap.size w v bs) (hk : -9223372036854775808 ≤ k) : CQ 228 #[v, .int .i64 at_, .int .i64 k] w (.tuple #[.int .i64 (jB bs at_ k), .int .i64 (Wl bs at_ k)]) := by
 have M := Mem.start w
 have hl := hv.2.1
 unfold maxLen at hl
 refine qI Tryz.func228 44 ?_
 refine gq [[2,1,1],[5,1,1,1],[940,12]] ?_ ?_
 ·intro a h12 S
  refine gp [[0,0,0,1],[5,1,1],[4],[931]] ?_
  refine ⟨?_, M.below⟩; grind [jB, Wl]
 intro a h12 S
 refine gq [[0,1,1,1],[2],[940,15]] ?_ ?_
 ·intro a h15 S
  refine gp [[3,1,1],[4],[931]] ?_
  refine ⟨?_, M.below⟩; grind [jB, Wl]
 intro a h15 S
 refine gq [[6,1,1,1],[940,18]] ?_ ?_
 ·intro a h18 S
  refine gp [[0,0,0,0,0,0,0,1],[5,1,1],[4],[931]] ?_
  refine ⟨?_, M.below⟩; grind [jB, Wl]
 intro a h18 S
 refine gq [[0,1,1],[908,5],[0,1],[901],[0,1,1],[2],[940,25]] ?_ ?_
 ·intro a h25 S
  refine gp [[3,1,1],[4],[931]] ?_
  refine ⟨?_, M.below⟩; grind [jB, Wl]
 intro a h25 S
 refine gp [[5]] ?_; intro a S
 obtain ⟨K, rfl⟩ := Int.eq_ofNat_of_zero_le (show 0 ≤ k by omega)
 obtain ⟨A, rfl⟩ := Int.eq_ofNat_of_zero_le h18
 refine qY S (JP S rfl) ?_
 refine gp [[5,1,1],[3]] ?_; intro a S
 refine Jc (fun m a w' => ∃ (j : Nat), j ≤ K ∧ m = K - j ∧ Jk 44 a [(0, v), (1, .int .i64 (A : Int)), (2, .int .i64 (K : Int)), (8, .int .i64 ((leN ((bs.drop A).take j) : Nat) : Int)), (26, .int .i64 (K : Int)), (27, .int .i64 (j : Int))] ∧ Mem w w' []) (K) ?_ ?_
 ·skip
  exact ⟨0, Nat.zero_le _, rfl, S.sub _ rfl, M⟩
 intro m a wl
 rintro ⟨j, hj, rfl, S, M⟩
 refine gq [[2,1],[3],[943,28]] ?_ ?_
 ·intro a h28 S
  refine gp [[8,1,1,1],[3],[931]] ?_
  obtain rfl : j = K := by omega
  refine ⟨?_, M.below⟩
  grind [jB, Wl]
 intro a h28 S
 refine gp [[7,1,1],[3]] ?_; intro a S
 have hj5 : j ≤ 5 := by omega
 obtain ⟨x, hx⟩ : ∃ x, (bs.drop A)[j]? = some x := ⟨_, List.getElem?_eq_getElem (by grind)⟩
 have hx' : bs[((A : Int) + (j : Int)).toNat]? = some x := by grind
 obtain ⟨hs1, hs2⟩ := JgK x j hj5
 have hx256 : x.toNat < 256 := UInt8.toNat_lt x
 have hl1 := G6 ((bs.drop A).take j)
 have hl2 : leN ((bs.drop A).take j) < 2 ^ 40 := Nat.lt_of_lt_of_le hl1 (by
  rw [show (256 : Nat) = 2 ^ 8 from rfl, ← Nat.pow_mul]; exact Nat.pow_le_pow_right o_ (by grind))
 refine qY S (Vz S rfl) ?_
 refine gp [[0,1,1,1],[901],[907,5,1]] ?_; intro a S
 refine qY S (Jf S k_ rfl ((M.arg hv).byte hx')) ?_; intro a S
 (refine qY S (zG S rfl k_ k_ o_) ?_); intro a S
 refine gp [[0,1],[901]] ?_; intro a S
 (refine qY S (JcR S rfl rfl o_ (by rw [hs1]; omega)) ?_); intro a S
 rw [hs1] at S
 (refine qY S (Jjm S rfl rfl o_ o_) ?_); intro a S
 refine gp [[0,1],[4],[901],[0,1],[2]] ?_; intro a S
 refine ⟨K - (j + 1), by omega, j + 1, by omega, rfl, ?_, M⟩
 rw [← Ee hx]; exact S.sub _ rfl
end
section
variable {ds : List Deferred}
variable {P : Program} {ops : Array Oper} {Q : Exit → Act → World → Prop} {md : Region.Mode} {rest : List Oper} {n d : Nat} {a : Act} {L : List (Nat × Value)} {w w0 : World} {v : Value} {o : Oper} {H : List Ent} {r : Option Nat}
variable {args : Array Value} {c : Code} {R : Ending → World → Prop} {fn : Func} {f : FuncId} {l : List Oper} {D : Nat}
abbrev Fnc (r : Option Nat) : Fence := { fn := fun _ => True, depth := none, alive := false, round := r }
theorem Jct {k : Nat} (h : Calls P f args w R) : CallsIn (Fnc r) k P f args w R := (callsIn_wide (n := k)).2 h
theorem Jdx {k : Nat} {row : String} {R : Value → World → Prop} (h : Rows P row args w R) : RowsIn (Fnc r) k P row args w R := fun c cs _ =>
 let ⟨v, w', h1, h2⟩ := h c cs; ⟨v, w', h1, (stepsIn_wide (P := P)).2 h2⟩
def Yd (l : List Oper) : Bool := l.all fun o => match o.op with | .defer _ => false | _ => true
theorem yK (h : Yd l = true) {o : Oper} (ho : o ∈ l) : ∀ c, o.op ≠ .defer c := fun c hc => by
 have := List.all_eq_true.1 h o ho
 grind
theorem Wg {next : Act → World → Prop} (hd : ∀ c, o.op ≠ .defer c) (h : o.wp P a w next Q) : o.wpIn (Fnc r) 0 P a w next Q := by
 refine ⟨fun _ _ => trivial, ?_⟩
 rw [Oper.semAt_eq _ _ _ hd]
 unfold Oper.wp at h
 generalize (execOp a.eval o).run P w = res at h ⊢
 cases res with
 | ok x w' =>
   cases x <;> simp only [Oper.upon] at h
   case value u => exact h
   case skip => exact h
   case defer d => exact h
   case enter f args => exact ⟨fun h => (by cases h), Jct h⟩
   case row row args => exact ⟨fun h => (by cases h), Jdx h⟩
 | halt x w' => cases x <;> simp only [Oper.upon] at h <;> exact h
theorem Yq : ∀ {l : List Oper} {a : Act} {w : World}, Yd l = true → (∀ a w, ¬ Q .outgrown a w) → wpList P ops Q l a w → wpListIn (Fnc r) 0 P ops Q l a w
 | [], a, w, _, _, h => h
 | o :: l, a, w, hn, ho, h => by
   have hn' : Yd l = true := by grind [Yd]
   unfold wpList at h
   unfold wpListIn
   split
   ·rename_i hw
    rw [if_pos hw] at h
    rcases h with h | ⟨-, a', w', h⟩
    ·exact Oper.wpIn_mono (fun a w h => Yq hn' ho h) (Wg (yK hn (List.mem_cons_self ..)) h)
    ·exact absurd h (ho a' w')
   ·rename_i hw
    rw [if_neg hw] at h
    exact ⟨fun _ _ => trivial, Yq hn' ho h⟩
theorem Gl : ∀ {l rest : List Oper} {a : Act} {w : World}, Yd l = true → (∀ a w, ¬ Q .outgrown a w) → wpList P ops (Exit.then (fun a w => wpListIn (Fnc r) 0 P ops Q rest a w) Q) l a w → wpListIn (Fnc r) 0 P ops Q (l ++ rest) a w
 | [], rest, a, w, _, _, h => h
 | o :: l, rest, a, w, hn, ho, h => by
   have hn' : Yd l = true := by grind [Yd]
   rw [List.cons_append]
   unfold wpList at h
   unfold wpListIn
   split
   ·rename_i hw
    rw [if_pos hw] at h
    rcases h with h | ⟨-, a', w', h⟩
    ·have h1 : o.wp P a w (fun a w => wpListIn (Fnc r) 0 P ops Q (l ++ rest) a w) Q := by
      have h2 : o.wp P a w (fun a w => wpListIn (Fnc r) 0 P ops Q (l ++ rest) a w) (Exit.then (fun a w => wpListIn (Fnc r) 0 P ops Q rest a w) Q) := Oper.wp_mono (fun a w h => Gl hn' ho h) h
      unfold Oper.wp at h2 ⊢
      generalize (execOp a.eval o).run P w = res at h2 ⊢
      cases res with
      | ok x w' => cases x <;> exact h2
      | halt x w' => cases x <;> exact h2
     exact Wg (yK hn (List.mem_cons_self ..)) h1
    ·exact absurd h (ho a' w')
   ·rename_i hw
    rw [if_neg hw] at h
    exact ⟨fun _ _ => trivial, Gl hn' ho h⟩
/-! ### codes in a round -/
theorem Jq {id : Nat} (hn : Yd l = true) (ho : ∀ a w, ¬ Q .outgrown a w) (h : wpList P l.toArray Q l a w) : (Code.region id l.toArray false).wpIn (Fnc r) 0 P Q a w := wpIn_region_lit (Yq hn ho h)
theorem Ya {c : Operand} {x y : Code} (S : SeesD ds n a L) (h : val L c = some (.bool true)) (k : x.wpIn (Fnc r) 0 P Q a w) : (Code.cond c x y).wpIn (Fnc r) 0 P Q a w := wpIn_cond_true (S.eval h) k
theorem Vc {c : Operand} {x y : Code} (S : SeesD ds n a L) (h : val L c = some (.bool false)) (k : y.wpIn (Fnc r) 0 P Q a w) : (Code.cond c x y).wpIn (Fnc r) 0 P Q a w := wpIn_cond_false (S.eval h) k
open Classical in
theorem jW (I : Nat → Act → World → Prop) (m0 : Nat) (h0 : I m0 a w) (round : ∀ m a w, I m a w → c.wpIn (Fnc r) 0 P (Exit.then (fun a' w' => ∃ m', m' < m ∧ I m' a' w') Q) a w) : (Code.loop c).wpIn (Fnc r) 0 P Q a w := by
 let μ : Act → World → Nat := fun a w => if h : ∃ k, I k a w ∧ ∀ j, j < k → ¬ I j a w then Classical.choose h else 0
 have hμ : ∀ a w m, I m a w → I (μ a w) a w ∧ μ a w ≤ m := fun a w m hm => by
  have h := JgV (p := fun k => I k a w) m hm
  grind
 refine wpIn_loop (fun a w => ∃ m, I m a w) μ ⟨m0, h0⟩ fun a w ⟨m, hm⟩ => ?_
 refine wpIn_mono (round _ a w (hμ a w m hm).1) fun e a' w' h => ?_
 grind
/-! ### what is ranged over -/
abbrev Yld (P : Program) (l : Nat) (args : List Value) (w : World) (R : Ending → World → Prop) : Prop := YieldAt (Fnc none) 0 P l args.toArray w R
def Gen {α : Type} (P : Program) (gf : FuncId) (lb : List Value) (encs : α → List Value) (xs : List α) (C : World → Prop) : Prop :=
 ∀ (l : Nat) (I : List α → World → Prop) (w : World), (∀ pre w, I pre w → C w) → (∀ pre w w', I pre w → Below w.heap.size w w' → I pre w') →
  (∀ pre x t w1, xs = pre ++ x :: t → I pre w1 → Yld P l (encs x) w1 fun e w2 => e = .returned (.bool true) ∧ I (pre ++ [x]) w2) → I [] w →
  CallsIn (Fnc none) 0 P gf ((.func (.yield l) #[] #[] :: lb).toArray) w fun e w' => (∃ v, e = .returned v) ∧ I xs w'
theorem vM {fx : Operand} {xs : List Operand} {vs : List Value} {l : Nat} (S : SeesD ds n a L) {d : Nat} {ts : Array TypeId} {t : TypeId} {p : String} {e : Array Edge} {g : Option (Nat × Bool)} 
 (hg : gd ops L ⟨some d, .call { callee := .value fx, args := xs.toArray, argTypes := ts }, t, p, e, g⟩ = some true) (hn : Nat.blt d n = true) (hf : val L fx = some (.func (.yield l) #[] #[])) (hx : Vl L xs = some vs) (hY : Yld P l vs w R)
 (k : ∀ e w', R e w' → ∃ v, e = .returned v ∧ ∀ a, SeesD ds n a ((d, v) :: L) → wpListIn (Fnc none) 0 P ops Q rest a w') : wpListIn (Fnc none) 0 P ops Q (⟨some d, .call { callee := .value fx, args := xs.toArray, argTypes := ts }, t, p, e, g⟩ :: rest) a w := by
 unfold wpListIn
 rw [if_pos (VP S hg)]
 refine ⟨fun _ _ => trivial, ?_⟩
 obtain ⟨fn, tmps, assign, body, hy, hR⟩ := hY
 have h : xs.toArray.map a.eval = vs.toArray := by rw [← S.evals hx]; simp
 have hr : (execOp a.eval ⟨some d, .call { callee := .value fx, args := xs.toArray, argTypes := ts }, t, p, e, g⟩).run P w = .ok (.round l fn tmps assign body) w := by
  unfold execOp
  simp only [resolve, h, S.eval hf, Deferred.ofValue, Sem.run_bind, Sem.run_pure, Result.andThen_ok, invoke]
  grind
 rw [show (Fnc none).round = none from rfl, Oper.semAt_none, hr, Oper.uponIn_round]
 refine ⟨fun h => (by cases h), hR.mono fun e w' hR => ?_⟩
 obtain ⟨v, rfl, hk⟩ := k e w' hR
 exact hk _ (S.put hn v)
/-! ### a range over a function, of which each round goes on -/
def ZF : List Nat → List Value → List (Nat × Value) → List (Nat × Value)
 | p :: ps, v :: vs, L => ZF ps vs ((p, v) :: L)
 | _, _, L => L
theorem yW : ∀ (ps : List Nat) (vs : List Value) {a : Act} {L : List (Nat × Value)}, (ps.all fun p => Nat.blt p n) = true → SeesD ds n a L → SeesD ds n { a with tmps := (ps.zip vs).foldl (fun t (q : Nat × Value) => t.setIfInBounds q.1 q.2) a.tmps } (ZF ps vs L)
 | [], _, a, L, _, S => by simpa [ZF] using S
 | p :: ps, [], a, L, _, S => by simpa [ZF] using S
 | p :: ps, v :: vs, a, L, hp, S => by
   simp only [List.all_cons, Bool.and_eq_true] at hp
   exact yW ps vs hp.2 (S.put hp.1 v)
abbrev kE (D : Nat) (R : Loop) : Ent := .own D (D + 2) fun W => W.heap[D]? = some (.deferred (some [])) ∧ W.heap[D + 1]? = some (.loop R)
abbrev jq (D : Nat) : Ent := .own D (D + 2) fun W => W.heap[D]? = some (.deferred (some []))
abbrev vI (D : Nat) : Deferred := { target := .collected D, args := #[] }
theorem Mem.keep {R R' : Loop} {W : World} (M : Mem w0 W (kE D R :: H)) : W.heap[D + 1]? = some (.loop R) ∧ Mem w0 (W.putObj (D + 1) (.loop R')) (kE D R' :: H) := by
 have h := M.own 0 rfl
 have hlt := (Array.getElem?_eq_some_iff.1 h.2).1
 refine ⟨h.2, ?_⟩
 have hoth : ∀ k, k ≠ D + 1 → (W.putObj (D + 1) (.loop R')).heap[k]? = W.heap[k]? := fun k hk => World.putObj_heap_other hk
 refine M.change (e' := kE D R') 0 rfl rfl rfl (fun W' hs => ⟨?_, ?_⟩) (by simp [World.putObj]) rfl rfl rfl (fun k hk => hoth k (fun e => hk (by grind [Ent.lo, Ent.hi])))
 ·rw [hs D (Nat.le_refl _) o_, hoth D o_]; grind
 ·rw [hs (D + 1) o_ o_]; exact World.putObj_heap_same hlt
def Jiz (w0 : World) (B : Ent) (J : List Ent → Prop) : Exit → Act → World → Prop
 | .normal, _, W => ∃ Hs, Mem w0 W (B :: Hs) ∧ J Hs
 | _, _, _ => False
theorem Dt {α : Type} {g : Operand} {ps : List Tmp} {assign body : Code} {gf : FuncId} {lb : List Value} {encs : α → List Value} {xs : List α} {C : World → Prop} 
 (S : SeesD ds n a L) (M : Mem w0 w H) (hg : val L g = some (.func (.func gf) #[] lb.toArray)) (hE : VL P gf) (G : Gen P gf lb encs xs C) (hps : ∀ x, (encs x).length = ps.length) (hpn : (ps.all fun p => Nat.blt p n) = true)
 (I : List α → List Ent → Prop) (h0 : I [] H) (hC : ∀ pre Hs W, I pre Hs → Mem w0 W Hs → C W)
 (hround : ∀ (l : Nat) (pre : List α) (x : α) (t : List α) (Hs : List Ent) (W : World) (B : Ent) (a' : Act), xs = pre ++ x :: t → I pre Hs → Mem w0 W (B :: Hs) → Jk n a' (ZF ps (encs x) L) →
   assign.wpIn (Fnc (some l)) 0 P (Exit.then (fun a1 W1 => ∃ Hs1, Mem w0 W1 (B :: Hs1) ∧ ∀ (W2 : World) (B2 : Ent), Mem w0 W2 (B2 :: Hs1) → body.wpIn (Fnc (some l)) 0 P (Jiz w0 B2 (I (pre ++ [x]))) a1 W2) (fun _ _ _ => False)) a' W)
 (hdone : ∀ (D : Nat) (W : World) (Hs : List Ent) (a' : Act), I xs Hs → Mem w0 W (jq D :: Hs) → SeesD (vI D :: ds) n a' L → Q .normal a' W) :
 (Code.rangeFunc g ps.toArray assign body).wp P Q a w := by
 refine (wpIn_wide (n := 0)).1 (wpIn_rangeFunc fun fn _ => ?_)
 obtain ⟨rec, hrec⟩ : ∃ rec : LoopState → Option Code → Loop, rec = fun st pe => { state := st, pending := pe, fn, tmps := a.tmps, params := ps.toArray, assign, body, defers := w.heap.size } := ⟨_, rfl⟩
 obtain ⟨W1, hW1⟩ : ∃ W1, (w.alloc (.deferred (some []))).alloc (.loop (rec .ready none)) = W1 := ⟨_, rfl⟩
 have M1 : Mem w0 W1 (kE w.heap.size (rec .ready none) :: H) := by
  rw [← hW1]
  refine M.push (Vd (Vd (JE _) _) _) _ (fun W' hs => ⟨?_, ?_⟩) (Nat.le_refl _) (by simp [Ent.hi])
  ·rw [hs w.heap.size (Nat.le_refl _) o_]; grind [Below.heap_alloc, World.alloc_heap_new]
  ·rw [hs (w.heap.size + 1) o_ o_]
   grind [World.alloc_heap_new, World.size_alloc]
 have hev : a.eval g = .func (.func gf) #[] lb.toArray := S.eval hg
 refine ⟨w.heap.size + 1, [vI w.heap.size], W1, { target := .fn (.func gf) lb.toArray, args := #[.func (.yield (w.heap.size + 1)) #[] #[]] }, W1, gf, (.func (.yield (w.heap.size + 1)) #[] #[] :: lb).toArray, W1, ?_, ?_, fun _ _ => trivial, ?_, fun h => (by cases h), ?_⟩
 ·rw [← hW1, hrec]; exact run_enterLoop_outer _ _ _ _ _
 ·simp only [resolve, hev]
  simp [go_sem]
 ·have := hE ((.func (.yield (w.heap.size + 1)) #[] #[] :: lb).toArray) W1
  grind [invoke]
 ·refine CallsIn.mono (G (w.heap.size + 1) (fun pre W => ∃ Hs, Mem w0 W (kE w.heap.size (rec .ready none) :: Hs) ∧ I pre Hs) W1 (fun pre W ⟨Hs, M, h⟩ => hC pre Hs W h (M.drop 0)) (fun pre W W' ⟨Hs, M, h⟩ hb => ⟨Hs, M.grow hb, h⟩) ?_ ⟨H, M1, h0⟩) ?_
  ·rintro pre x t W hx ⟨Hs, MW, hI⟩
   have hl := (MW.keep (R' := rec .ready none)).1
   have hy := run_yield (P := P) (args := (encs x).toArray) hl (by grind)
   rw [hrec] at hy
   refine ⟨fn, _, assign, body, hy, roundIn_of_wpIn trivial ?_⟩
   have hS : Jk n { tmps := (ps.toArray.zip (encs x).toArray).foldl (fun t (p, v) => t.setIfInBounds p v) a.tmps, defers := [] } (ZF ps (encs x) L) := by
    have h1 := yW ps (encs x) hpn S
    have e : (ps.toArray.zip (encs x).toArray).foldl (fun t (p, v) => t.setIfInBounds p v) a.tmps = (ps.zip (encs x)).foldl (fun t (q : Nat × Value) => t.setIfInBounds q.1 q.2) a.tmps := by
     grind
    rw [e]
    exact ⟨h1.size, rfl, h1.at_, h1.lt⟩
   refine wpIn_mono (hround (w.heap.size + 1) pre x t Hs W _ _ hx hI MW hS) fun e a1 W2 h => ?_
   cases e with
   | normal =>
     obtain ⟨Hs1, M2, hb⟩ := h
     obtain ⟨hl2, M3⟩ := M2.keep (R' := { rec .ready none with state := .busy })
     refine ⟨_, run_beginRound hl2 (by grind), ?_⟩
     refine wpIn_mono (hb _ _ M3) fun e a3 W3 h3 => ?_
     cases e with
     | normal =>
       obtain ⟨Hs3, M4, h4⟩ := h3
       obtain ⟨hl4, M5⟩ := M4.keep (R' := rec .ready none)
       have he := run_endRound (P := P) none hl4
       have e1 : ({ rec .ready none with state := LoopState.busy } : Loop).pending = none := by grind
       have e2 : ({ ({ rec .ready none with state := LoopState.busy } : Loop) with state := if (none : Option Code).isNone then LoopState.ready else LoopState.done, pending := none } : Loop) = rec .ready none := by grind
       rw [e2] at he
       exact ⟨_, _, he, rfl, Hs3, M5, h4⟩
     | exit id => exact h3.elim
     | goto t => exact h3.elim
     | ret => exact h3.elim
     | panic ch => exact h3.elim
     | outgrown => exact h3.elim
   | exit id => exact h.elim
   | goto t => exact h.elim
   | ret => exact h.elim
   | panic ch => exact h.elim
   | outgrown => exact h.elim
  ·rintro e W2 ⟨⟨v, rfl⟩, Hs, M2, hI⟩
   obtain ⟨hl, M3⟩ := M2.keep (R' := { rec .ready none with state := .exhausted })
   have he := run_endLoop (P := P) hl (by grind)
   have he' : (Instr.endLoop (w.heap.size + 1)).run P W2 = .ok none (W2.putObj (w.heap.size + 1) (.loop { rec .ready none with state := .exhausted })) := he.trans (by grind)
   refine ⟨none, _, he', hdone w.heap.size _ Hs _ hI ?_ ⟨S.size, by rw [← S.defers]; rfl, S.at_, S.lt⟩⟩
   have h := M3.own 0 rfl
   refine M3.change (e' := jq w.heap.size) 0 rfl rfl rfl (fun W' hs => ?_) rfl rfl rfl rfl fun _ _ => rfl
   show W'.heap[w.heap.size]? = _
   rw [hs w.heap.size (Nat.le_refl _) o_]; grind
/-! ### functions that hold such a range -/
def Ga (P : Program) (fn : Func) (R : Ending → World → Prop) : Exit → Act → World → Prop
 | .normal, a, w => bodyPostM (Fnc none) 0 P fn R .normal a w
 | .ret, a, w => bodyPostM (Fnc none) 0 P fn R .ret a w
 | _, _, _ => False
theorem vg {w : World} 
 (hf : P.funcs[f]? = some fn) (hb : fn.body = some c) (n : Nat) (hn : fn.ntmps = n) (hle : Nat.ble args.size n = true)
 (h : ∀ a, Jk n a (ZW 0 args.toList) → c.wp P (Ga P fn R) a w) : Calls P f args w R := by
 refine (callsIn_wide (n := 0)).1 (callsIn_of_wp_marks hf hb trivial ((wpIn_wide (n := 0)).2 (wp_mono (h _ ?_) fun e a w h => by cases e <;> first | exact h | exact h.elim)) rfl)
 have hle' : args.size ≤ n := by simp_all
 refine ⟨by grind, rfl, fun t v hv hlt => ?_, fun t v hv => ?_⟩
 ·obtain ⟨_, h2, h3⟩ := Yh _ _ _ _ hv
  simp_all
 ·obtain ⟨_, h2, _⟩ := Yh _ _ _ _ hv
  grind
theorem vh {w : World} 
 (hf : P.funcs[f]? = some fn) (hb : fn.body = some c) (n : Nat) (hn : fn.ntmps = n) (hle : Nat.ble args.size n = true)
 (h : ∀ a, Jk n a (ZW 0 args.toList) → c.wpIn (Fnc none) 0 P (bodyPost P fn R) a w) : CallsIn (Fnc none) 0 P f args w R := by
 refine callsIn_of_wp hf hb trivial (h _ ?_) rfl
 have hle' : args.size ≤ n := by simp_all
 refine ⟨by grind, rfl, fun t v hv hlt => ?_, fun t v hv => ?_⟩
 ·obtain ⟨_, h2, h3⟩ := Yh _ _ _ _ hv
  simp_all
 ·obtain ⟨_, h2, _⟩ := Yh _ _ _ _ hv
  grind
theorem zP {id : Nat} (k : Nat) (hn : Yd l = true) (ho : ∀ a w, ¬ Q .outgrown a w) (h : wpList P l.toArray (Exit.then (fun a w => wpListIn (Fnc r) 0 P l.toArray Q (l.drop k) a w) Q) (l.take k) a w) : (Code.region id l.toArray false).wpIn (Fnc r) 0 P Q a w := by
 refine wpIn_region_lit ?_
 have hn' : Yd (l.take k) = true := by
  grind [Yd]
 have := Gl (rest := l.drop k) hn' ho h
 rwa [List.take_append_drop] at this
theorem jQ (h : bodyPost P fn R .ret a w) : Ga P fn R .ret a w := by
 obtain ⟨h1, h2⟩ := h
 show LeavesInM (Fnc none) 0 P fn a.tmps R a.defers .returning w
 rw [h1]; exact h2
theorem Jb8 (h : bodyPost P fn R .normal a w) : Ga P fn R .normal a w := by
 obtain ⟨h1, h2⟩ := h
 show LeavesInM (Fnc none) 0 P fn a.tmps R a.defers .returning w
 rw [h1]; exact h2
theorem yR (S : SeesD (vI D :: ds) n a L) (M : Mem w0 w H) (p : Nat) (h : H[p]? = some (jq D)) (k : ∀ a' w', SeesD ds n a' L → Mem w0 w' (H.eraseIdx p) → Ga P fn R .ret a' w') : Ga P fn R .ret a w := by
 show LeavesInM (Fnc none) 0 P fn a.tmps R a.defers .returning w
 rw [S.defers]
 have hh := M.own p h
 have M2 : Mem w0 (w.putObj D (.deferred none)) (H.eraseIdx p) := by
  have := (M.change (w' := w.putObj D (.deferred none)) (e' := .own D (D + 2) fun _ => True) p h rfl rfl (fun _ _ => trivial) (by simp [World.putObj]) rfl rfl rfl (fun j hj => World.putObj_heap_other (fun e => hj (by grind [Ent.lo, Ent.hi])))).drop p
  grind
 exact ⟨by simp, .inl ⟨D, _, rfl, run_takeDeferred hh, k { a with defers := ds } _ ⟨S.size, rfl, S.at_, S.lt⟩ M2⟩⟩
theorem JeG (S : SeesD (vI D :: ds) n a L) (M : Mem w0 w H) (p : Nat) (h : H[p]? = some (jq D)) (k : ∀ a' w', SeesD ds n a' L → Mem w0 w' (H.eraseIdx p) → Ga P fn R .normal a' w') : Ga P fn R .normal a w := yR S M p h k
end
end Go.Proofs.YtocppoflhllelaaGreat
