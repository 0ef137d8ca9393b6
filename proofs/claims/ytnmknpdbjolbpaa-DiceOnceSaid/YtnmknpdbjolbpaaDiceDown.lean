/- The contracts of package dice's down and of the iterator that it hands back: n - 1, .., 2, 1, one after the other; and of Order, a range over it. -/
import Derived.Test.YtnmknpdbjolbpaaDiceOrdRef
import Derived.RangeFuncFrom
import Derived.RangeFuncNested
import Derived.RangeFuncBound
import Derived.RangeFuncCalls
import Derived.RangeFuncLeaves
import Derived.Shelf.Abstract
import Derived.Shelf.RegionOpen
import Derived.WalkKit
import Derived.OwnWalkIn
import Derived.TacticsInMore
import Derived.LoopNIn
import Derived.LoopIn
import Derived.Laws.EntriesVeiled
namespace Go.Proofs.Ytnmknpdbjolbpaa
open Go.RowKit Go.Shelf
set_option linter.unusedVariables false
attribute [local go_sem] Oper.semAt_some
theorem rowIs_drew {w : World} {b t n : Nat} {f : Nat → Value} (h : w.rowIs b t n f) : w.drew.rowIs b t n f := h

/-- A place from 1 to J. -/
abbrev Rk (J : Nat) := { x : Nat // 1 ≤ x ∧ x ≤ J }
def downR (J : Nat) : (m : Nat) → m ≤ J → List (Rk J)
  | 0, _ => []
  | m + 1, h => ⟨m + 1, by omega, h⟩ :: downR J m (by omega)
def valR {J : Nat} (x : Rk J) : Int := (x.1 : Int)
theorem downR_val (J : Nat) : ∀ (m : Nat) (h : m ≤ J), (downR J m h).map valR = downFrom m := by
  intro m
  induction m with
  | zero => intro h; rfl
  | succ m ih =>
    intro h
    show valR _ :: (downR J m _).map valR = _
    rw [ih]
    rfl
theorem downR_len (J : Nat) : ∀ (m : Nat) (h : m ≤ J), (downR J m h).length = m := by
  intro m
  induction m with
  | zero => intro h; rfl
  | succ m ih =>
    intro h
    show (downR J m _).length + 1 = _
    rw [ih]

set_option maxHeartbeats 2000000 in
theorem down1_in (F : Fence) (n : Nat) (h25 : F.fn 25) (hro : F.round = none) (hn : 1 ≤ n) (l Bn n₀ K : Nat) (J Jx : List (Rk K) → World → Prop) (hK : K ≤ 999)
    (hY : ∀ pre x W, J pre W → pre.length < K → YieldAt F (n - 1) Try.prog l #[.int .i64 (valR x)] W fun e W' =>
      (e = .returned (.bool true) ∧ J (pre ++ [x]) W' ∧ Below n₀ W W') ∨ (e = .returned (.bool false) ∧ Jx (pre ++ [x]) W'))
    (W : World) (hBn : W.cell? ⟨Bn, 0, none⟩ = some (.int .i64 ((K : Int) + 1))) (h0 : J [] W) :
    CallsIn F n Try.prog 25 #[.func (.yield l) #[] #[], .pointer (some ⟨Bn, 0, none⟩)] W fun e W' => (∃ v, e = .returned v) ∧
      ((∃ ys, ys = downR K K (Nat.le_refl _) ∧ J ys W') ∨ (∃ pre, pre <+: downR K K (Nat.le_refl _) ∧ Jx pre W')) := by
  refine callsIn_of_wp Try.func25 rfl h25 ?_ hro
  simp only [Try.ntmps25, List.size_toArray, List.length_cons, List.length_nil, Nat.reduceAdd, Nat.reduceSub, Array.replicate_succ, Array.replicate_zero, List.push_toArray, List.append_toArray, List.nil_append, List.cons_append]
  gi_wp2
  gi_loopw [3] (fun i wr => ∃ (m : Nat) (hm : m ≤ K) (pre : List (Rk K)), i = .int .i64 m ∧ downR K K (Nat.le_refl _) = pre ++ downR K m hm ∧ J pre wr) (fun i _ => (intOf i).toNat)
  case atStart => exact ⟨K, Nat.le_refl _, [], by go_num, rfl, h0⟩
  case round =>
    obtain ⟨m, hm, pre, rfl, hx, hJs⟩ := hrel
    by_cases h1 : 0 < m
    · obtain ⟨i, hi⟩ : ∃ i, m = i + 1 := ⟨m - 1, by omega⟩
      subst hi
      have hlen : pre.length < K := by
        have := congrArg List.length hx
        rw [downR_len, List.length_append, downR_len] at this
        omega
      obtain ⟨fn, tmps, assign, body, hy, hR⟩ := hY pre ⟨i + 1, by omega, hm⟩ wr hJs hlen
      have hv : valR (⟨i + 1, by omega, hm⟩ : Rk K) = (i : Int) + 1 := rfl
      rw [hv] at hy
      have HX := Lib.hid hx
      clear hx
      gi_wp2
      refine hR.mono ?_
      rintro e W3 (⟨rfl, hJ3, hk3⟩ | ⟨rfl, hJx3⟩)
      · gi_wp2
        go_roundw
        case rel => exact ⟨i, by omega, pre ++ [⟨i + 1, by omega, hm⟩], by go_num, by rw [HX.out, List.append_assoc]; rfl, hJ3⟩
        case measure => simp [intOf]
      · gi_wp2
        go_end0
        exact ⟨⟨_, rfl⟩, .inr ⟨pre ++ [⟨i + 1, by omega, hm⟩], ⟨downR K i (by omega), by rw [HX.out, List.append_assoc]; rfl⟩, hJx3⟩⟩
    · obtain rfl : m = 0 := by omega
      have HX := Lib.hid hx
      clear hx
      gi_wp2
      refine ⟨fun _ h => (by cases h), ?_⟩
      gi_wp2
      go_end0
      exact ⟨⟨_, rfl⟩, .inl ⟨pre, by rw [HX.out]; simp [downR], hJs⟩⟩

theorem down_stops (F : Fence) (n : Nat) (h25 : F.fn 25) (hro : F.round = none) (hn : 1 ≤ n) (Bn n₀ K : Nat) (w : World) (hK : K ≤ 999) (hBn : Bn < w.heap.size) (hc : w.cell? ⟨Bn, 0, none⟩ = some (.int .i64 ((K : Int) + 1))) :
    SeqStopsK F n Try.prog 25 #[.pointer (some ⟨Bn, 0, none⟩)] (fun x : Rk K => #[Value.int .i64 (valR x)]) (Below n₀) (fun ys => ys = downR K K (Nat.le_refl _)) (fun pre => pre <+: downR K K (Nat.le_refl _)) K w := fun l J Jx W hW _ _ hY h0 =>
  down1_in F n h25 hro hn l Bn n₀ K J Jx hK hY W ((hW.cell (p := ⟨Bn, 0, none⟩) hBn).trans hc) h0
theorem down_any (c : Int) (w : World) :
    Calls Try.prog 24 #[.int .i64 c] w fun e w' => e = .returned (.func (.func 25) #[] #[.pointer (some ⟨w.heap.size, 0, none⟩)]) ∧ w.alloc (.cells #[.int .i64 c] 3) = w' := by
  have hmf : ∀ (fn : Fn) (first cap : Array Value) (w : World), (Instr.makeFunc fn first cap).run Try.prog w = .ok (.func fn first cap) w := fun _ _ _ _ => rfl
  go_enter Try.func24, Try.ntmps24
  go_wp2_with fail
  go_ret
  exact ⟨rfl, rfl⟩

/-- The numbers below k laid, the others 0. -/
def upF (k j : Nat) : Int := if j < k then (j : Int) else 0
theorem At.kept {w w' : World} {g : Nat} {t : TypeId} {cs : Array Value} {row : Option Nat} (h : At w g t cs) (hg : w.grownBy w' row) (hr : ∀ r, row = some r → ∃ o : Obj, w.heap[r]? = some o ∧ o.isCells = false) : At w' g t cs :=
  (grownBy_keeps_cells hg hr h rfl).trans h
theorem rowIs_kept {w w' : World} {g t n : Nat} {f : Nat → Value} {row : Option Nat} (h : w.rowIs g t n f) (hg : w.grownBy w' row) (hr : ∀ r, row = some r → ∃ o : Obj, w.heap[r]? = some o ∧ o.isCells = false) : w'.rowIs g t n f := by
  obtain ⟨c, hb, hn, hc⟩ := h
  exact ⟨c, (grownBy_keeps_cells hg hr hb rfl).trans hb, hn, hc⟩

/-- Where the dice stand, and what lies, behind the changes pre. -/
def stR (s : Int) (K : Nat) (pre : List (Rk K)) : Int × List Int := (pre.map valR).foldl goSt (s, firstL (K + 1))
theorem stR_snoc (s : Int) (K : Nat) (pre : List (Rk K)) (x : Rk K) : stR s K (pre ++ [x]) = goSt (stR s K pre) (valR x) := by
  unfold stR
  rw [List.map_append, List.foldl_append]
  rfl

def InvO (s : Int) (K : Nat) (w wr : World) (pre : List (Rk K)) (W : World) : Prop :=
  (At W wr.heap.size 31 #[.int .u64 (stR s K pre).1] ∧ W.rowIs w.heap.size 3 (K + 1) (fun j => .int .i64 ((stR s K pre).2.getD j 0)) ∧ At W (w.heap.size + 1) 34 #[.slice (some ⟨w.heap.size, 0, none⟩) (K + 1) (K + 1)] ∧ At W (wr.heap.size + 1) 26 #[.pointer (some ⟨wr.heap.size, 0, none⟩)] ∧ At W (wr.heap.size + 1 + 1) 46 #[.func (.func 23) #[] #[.pointer (some ⟨w.heap.size + 1, 0, none⟩)]] ∧ (stR s K pre).2.length = K + 1) ∧ Below w.heap.size w W
theorem below_drew {B : Nat} {a w : World} (h : Below B a w) : Below B a w.drew := ⟨h.os, h.tape, h.output, h.size, h.block⟩
theorem opIn_round {F : Fence} {n : Nat} {P : Program} {o : Oper} {a : Act} {w : World} {K : Act → World → Prop} {Q : Exit → Act → World → Prop} (hro : F.round = none) (l : Nat) (hd : ∀ c, o.op ≠ .defer c) (h : o.wpIn F n P a w K Q) : o.wpIn (F.inRound l) n P a w K Q := by
  unfold Oper.wpIn at *
  refine ⟨h.1, ?_⟩
  have h2 := h.2
  rw [hro, Oper.semAt_none] at h2
  rw [show (F.inRound l).round = some l from rfl, Oper.semAt_some l _ _ hd]
  generalize (execOp a.eval o).run P w = r at *
  cases r with
  | ok x w' => cases x <;> exact h2
  | halt x w' => cases x <;> exact h2
theorem anyIn_round {F : Fence} {n : Nat} {P : Program} {md : Region.Mode} {ops : Array Oper} {Q : Exit → Act → World → Prop} (hro : F.round = none) (l : Nat) (hd : ∀ o ∈ ops, ∀ c, o.op ≠ .defer c) :
    ∀ (fuel : Nat) (listed : Array Bool) (a : Act) (w : World), wpAnyIn F n P md ops Q fuel listed a w → wpAnyIn (F.inRound l) n P md ops Q fuel listed a w := by
  intro fuel
  induction fuel with
  | zero => exact fun _ _ _ h => h
  | succ fuel ih =>
    intro listed a w h
    refine ⟨h.1, fun i hi => ?_⟩
    have h2 := h.2 i hi
    unfold wpOpIn at h2 ⊢
    cases ho : ops[i]? with
    | none =>
      rw [ho] at h2
      exact ih _ _ _ h2
    | some o =>
      rw [ho] at h2
      dsimp only at h2 ⊢
      by_cases hw : Region.wanted o (yielded ops a.tmps) = true
      · rw [if_pos hw] at h2 ⊢
        exact opIn_round hro l (hd o (Array.mem_of_getElem? ho)) (Oper.wpIn_mono (ih _) h2)
      · rw [if_neg hw] at h2 ⊢
        exact ⟨h2.1, ih _ _ _ h2.2⟩
set_option maxRecDepth 100000 in
set_option maxHeartbeats 4000000 in
theorem order_in (s : Int) (K : Nat) (w : World) (hK : K ≤ 999) :
    Calls Try.prog 21 #[.int .u64 s, .int .i64 ((K : Int) + 1)] w fun e w' => ListPost (ordL s ((K : Int) + 1)) w e w' := by
  have hmf : ∀ (fn : Fn) (first cap : Array Value) (w : World), (Instr.makeFunc fn first cap).run Try.prog w = .ok (.func fn first cap) w := fun _ _ _ _ => rfl
  have HV := Lib.hid (show ordL s ((K : Int) + 1) = ((downFrom K).foldl goSt (s, firstL (K + 1))).2 by unfold ordL; rw [if_neg (by omega)]; rfl)
  have hmk : ∀ W : World, _ := fun W => run_make_row' (P := Try.prog) 34 3 (.int .i64 0) 8 Try.underlying34 info_int rfl .i64 .i64 (K + 1) (by omega) (by omega) W
  rw [show ((K + 1 : Nat) : Int) = (K : Int) + 1 from rfl] at hmk
  refine (callsIn_wide (n := 6)).1 ?_
  refine callsIn_of_wp_marks Try.func21 rfl trivial ?_ rfl
  simp only [Try.ntmps21, List.size_toArray, List.length_cons, List.length_nil, Nat.reduceAdd, Nat.reduceSub, Array.replicate_succ, Array.replicate_zero, List.push_toArray, List.append_toArray, List.nil_append, List.cons_append]
  gi_wp2_with fail
  obtain ⟨W1, hW1⟩ : ∃ W1, W1 = (w.alloc (.cells (madeCells #[.int .i64 0] (K + 1)) 3)).alloc (.cells #[.slice (some ⟨w.heap.size, 0, none⟩) (K + 1) (K + 1)] 34) := ⟨_, rfl⟩
  have hR1 : W1.rowIs w.heap.size 3 (K + 1) (fun j => .int .i64 (upF 0 j)) := by
    rw [hW1]
    exact ((World.rowIs_made w (.int .i64 0) (K + 1) 3).alloc _).congr fun j _ => by unfold upF; rw [if_neg (by omega)]
  have hS1 : At W1 (w.heap.size + 1) 34 #[.slice (some ⟨w.heap.size, 0, none⟩) (K + 1) (K + 1)] := by
    rw [hW1]
    have h := At.new (w.alloc (.cells (madeCells #[.int .i64 0] (K + 1)) 3)) 34 #[.slice (some ⟨w.heap.size, 0, none⟩) (K + 1) (K + 1)]
    simpa using h
  have hB1 : Below w.heap.size w W1 := by rw [hW1]; exact ((Below.refl _ _).alloc (Nat.le_refl _) _).alloc (by simp) _
  rw [← hW1]
  clear hW1 hmk
  gi_loopw [20] (fun i wr => ∃ k : Nat, i = .int .i64 k ∧ k ≤ K + 1 ∧ wr.rowIs w.heap.size 3 (K + 1) (fun j => .int .i64 (upF k j)) ∧ At wr (w.heap.size + 1) 34 #[.slice (some ⟨w.heap.size, 0, none⟩) (K + 1) (K + 1)] ∧ Below w.heap.size w wr) (fun i _ => K + 1 - (intOf i).toNat)
  case atStart => exact ⟨0, rfl, by omega, hR1, hS1, hB1⟩
  case round =>
    obtain ⟨k, rfl, hk, hR, hS, hB⟩ := hrel
    clear hR1 hS1 hB1
    by_cases hlt : k < K + 1
    · have hc := hR.cell hlt
      have hf := hR.frozen k
      have hs := hS.cell 0
      simp at hs
      have k0 : (k : Int) < (K : Int) + 1 := by omega
      gi_wp2
      go_roundw
      case rel => exact ⟨k + 1, by go_num, by omega, (hR.set k (.int .i64 k)).congr (fun j hj => by
        unfold upF
        by_cases e : j = k
        · rw [if_pos e, if_pos (by omega), e]
        · rw [if_neg e]
          by_cases h2 : j < k
          · rw [if_pos h2, if_pos (by omega)]
          · rw [if_neg h2, if_neg (by omega)]), hS.far (p := ⟨w.heap.size, k, none⟩) (by simp) _, hB.setCell (p := ⟨w.heap.size, k, none⟩) (Nat.le_refl _) _⟩
      case measure => simp [intOf]; omega
    · obtain rfl : k = K + 1 := by omega
      have hR2 : wr.rowIs w.heap.size 3 (K + 1) (fun j => .int .i64 ((firstL (K + 1)).getD j 0)) := hR.congr fun j hj => by
        unfold upF firstL
        rw [if_pos hj]
        simp [List.getD_eq_getElem?_getD, hj]
      have hsz := hB.size
      have sl := hS.lt
      clear hR hk hlt
      rw [show ((K + 1 : Nat) : Int) = (K : Int) + 1 from rfl]
      gi_wp2_with (refine ⟨trivial, ?_⟩; gi_at_call 12; refine (callsIn_wide.2 (new_any s _)).mono ?_; rintro e w' ⟨rfl, rfl⟩)
      refine ⟨trivial, ?_⟩
      refine (callsIn_wide.2 (down_any ((K : Int) + 1) _)).mono ?_; rintro e w' ⟨rfl, rfl⟩
      gi_wp2
      obtain ⟨W2, hW2⟩ : ∃ W2, W2 = (((wr.alloc (.cells #[.int .u64 s] 31)).alloc (.cells #[.pointer (some ⟨wr.heap.size, 0, none⟩)] 26)).alloc (.cells #[.func (.func 23) #[] #[.pointer (some ⟨w.heap.size + 1, 0, none⟩)]] 46)).alloc (.cells #[.int .i64 ((K : Int) + 1)] 3) := ⟨_, rfl⟩
      have hz2 : W2.heap.size = wr.heap.size + 1 + 1 + 1 + 1 := by rw [hW2]; simp
      have S2 : At W2 (w.heap.size + 1) 34 #[.slice (some ⟨w.heap.size, 0, none⟩) (K + 1) (K + 1)] := by rw [hW2]; exact (((hS.alloc _).alloc _).alloc _).alloc _
      have R2 : W2.rowIs w.heap.size 3 (K + 1) (fun j => .int .i64 ((firstL (K + 1)).getD j 0)) := by rw [hW2]; exact (((hR2.alloc _).alloc _).alloc _).alloc _
      have D2 : At W2 wr.heap.size 31 #[.int .u64 s] := by rw [hW2]; exact (((At.new _ _ _).alloc _).alloc _).alloc _
      have P2 : At W2 (wr.heap.size + 1) 26 #[.pointer (some ⟨wr.heap.size, 0, none⟩)] := by
        rw [hW2]
        have h := ((At.new (wr.alloc (.cells #[.int .u64 s] 31)) 26 #[.pointer (some ⟨wr.heap.size, 0, none⟩)]).alloc (.cells #[.func (.func 23) #[] #[.pointer (some ⟨w.heap.size + 1, 0, none⟩)]] 46)).alloc (.cells #[.int .i64 ((K : Int) + 1)] 3)
        simpa using h
      have C2 : At W2 (wr.heap.size + 1 + 1) 46 #[.func (.func 23) #[] #[.pointer (some ⟨w.heap.size + 1, 0, none⟩)]] := by
        rw [hW2]
        have h := (At.new ((wr.alloc (.cells #[.int .u64 s] 31)).alloc (.cells #[.pointer (some ⟨wr.heap.size, 0, none⟩)] 26)) 46 #[.func (.func 23) #[] #[.pointer (some ⟨w.heap.size + 1, 0, none⟩)]]).alloc (.cells #[.int .i64 ((K : Int) + 1)] 3)
        simpa using h
      have N2 : W2.cell? ⟨wr.heap.size + 1 + 1 + 1, 0, none⟩ = some (.int .i64 ((K : Int) + 1)) := by
        rw [hW2]
        have h := (At.new (((wr.alloc (.cells #[.int .u64 s] 31)).alloc (.cells #[.pointer (some ⟨wr.heap.size, 0, none⟩)] 26)).alloc (.cells #[.func (.func 23) #[] #[.pointer (some ⟨w.heap.size + 1, 0, none⟩)]] 46)) 3 #[.int .i64 ((K : Int) + 1)]).cell 0
        simpa using h
      have B2 : Below w.heap.size w W2 := by rw [hW2]; exact (((hB.alloc hsz _).alloc (by simp; omega) _).alloc (by simp; omega) _).alloc (by simp; omega) _
      rw [← hW2]
      clear hW2 hS hR2 hB
      refine wpIn_rangeFunc_ownF rfl (by omega) (gf := 25) (lb := #[.pointer (some ⟨wr.heap.size + 1 + 1 + 1, 0, none⟩)]) rfl trivial (enters_of Try.func25 (by kernel_rfl) rfl)
        (down_stops Fence.wide (6 - 1) trivial rfl (by omega) (wr.heap.size + 1 + 1 + 1) w.heap.size K W2 hK (by omega) N2) belowK_t (belowK_b (by omega)) (Below.refl _ _) (fun _ => rfl)
        (InvO s K w wr)
        (fun _ _ _ => False)
        (OwnFrom.and (Own.from (fun st A B row hs hg hr => ⟨hs.1.kept hg hr, rowIs_kept hs.2.1 hg hr, hs.2.2.1.kept hg hr, hs.2.2.2.1.kept hg hr, hs.2.2.2.2.1.kept hg hr, hs.2.2.2.2.2⟩) _) (ownFrom_below (Nat.le_refl _) (by omega)))
        (fun _ _ _ _ _ hs _ _ => hs)
        ⟨⟨D2, R2, S2, P2, C2, firstL_len _⟩, B2⟩
        (fun x => { tmps := #[.int .u64 s, .int .i64 ((K : Int) + 1), undef, undef, .slice none 0 0, .pointer (some ⟨w.heap.size + 1, 0, none⟩), u6, .pointer (some ⟨wr.heap.size + 1, 0, none⟩), .pointer (some ⟨wr.heap.size + 1 + 1, 0, none⟩), .int .i64 (valR x), .int .i64 ((K : Int) + 1), .bool (decide ((K : Int) + 1 < 1)), .bool (decide ((K : Int) + 1 < 1)), .int .i64 ((K : Int) + 1), .bool (decide (1000 < (K : Int) + 1)), .bool (decide ((K : Int) + 1 < 1) || decide (1000 < (K : Int) + 1)), .int .i64 ((K : Int) + 1), .slice (some ⟨w.heap.size, 0, none⟩) (K + 1) (K + 1), .slice (some ⟨w.heap.size, 0, none⟩) (K + 1) (K + 1), .int .i64 ((K : Int) + 1), .int .i64 ((K : Int) + 1), .bool false, u22, u23, u24, u25, u26, u27, .int .u64 s, .pointer (some ⟨wr.heap.size, 0, none⟩), .func (.func 23) #[] #[.pointer (some ⟨w.heap.size + 1, 0, none⟩)], .int .i64 ((K : Int) + 1), .func (.func 25) #[] #[.pointer (some ⟨wr.heap.size + 1 + 1 + 1, 0, none⟩)], .int .i64 (valR x), undef, undef, undef, undef, undef, undef, undef, undef], defers := [] }) ?assign ?body ?done ?stop
      case assign =>
        intro l x W K hK
        gi_wp2
        exact hK
      case body =>
        rintro l pre x W ⟨⟨hD, hR, hS, hP, hC, hL⟩, hB⟩ _
        have hst := Lib.hid (stR_snoc s K pre x)
        obtain ⟨d, hd⟩ : ∃ d, d = (stR s K pre).1 := ⟨_, rfl⟩
        obtain ⟨zs, hzs⟩ : ∃ zs, zs = (stR s K pre).2 := ⟨_, rfl⟩
        rw [← hd] at hD
        rw [← hzs] at hR hL
        obtain ⟨i, i1, i2⟩ := x
        have hbd := below_dice d (i : Int) (by omega) (by omega)
        obtain ⟨k, hk⟩ : ∃ k : Nat, belowZ (mixZ (stepZ d)) ((i : Int) + 1) = (k : Int) := Int.eq_ofNat_of_zero_le hbd.1
        rw [hk] at hbd
        have hki : k ≤ i := by omega
        have HST := Lib.hid (show stR s K (pre ++ [⟨i, i1, i2⟩]) = (stepZ d, swapL zs i k) by
          rw [hst.out]
          unfold goSt
          rw [← hd, ← hzs]
          show (stepZ d, swapL zs (i : Int).toNat (belowZ (mixZ (stepZ d)) ((i : Int) + 1)).toNat) = _
          rw [hk]
          rfl)
        have HK := Lib.hid hk
        have HL := Lib.hid hL
        have HW := Lib.hid (show IntKind.i64.wrap ((i : Int) + 1) = (i : Int) + 1 from IntWalk.i64_in _ ⟨by omega, by omega⟩)
        have hv : valR (⟨i, i1, i2⟩ : Rk K) = (i : Int) := rfl
        have hc0 := hC.cell 0
        have hp0 := hP.cell 0
        simp at hc0 hp0
        have HE := Lib.hid (show ∀ w4, w4.rowIs w.heap.size 3 (K + 1) (fun j => .int .i64 ((swapL zs i k).getD j 0)) → (W.setCell ⟨wr.heap.size, 0, none⟩ (.int .u64 (stepZ d))).drew.grownBy w4 (some w.heap.size) → ownPostK (Below w.heap.size) (InvO s K w wr) (fun _ _ _ => False) (pre ++ [⟨i, i1, i2⟩]) W .normal { tmps := #[], defers := [] } w4 from fun w4 h4 hg => by
          have hz : (W.setCell ⟨wr.heap.size, 0, none⟩ (.int .u64 (stepZ d))).drew.heap.size = W.heap.size := by simp [World.setCell, World.drew]
          have hl := hD.lt
          have k1 : KeepsOthers W (W.setCell ⟨wr.heap.size, 0, none⟩ (.int .u64 (stepZ d))).drew := (KeepsOthers.setCell _ _ _).trans (KeepsOthers.drew _)
          have r1 := rowIs_drew (hR.setOther (a := ⟨wr.heap.size, 0, none⟩) (by simp; omega) (.int .u64 (stepZ d)))
          have b1 : Below w.heap.size W (W.setCell ⟨wr.heap.size, 0, none⟩ (.int .u64 (stepZ d))).drew := below_drew ((Below.refl _ _).setCell (p := ⟨wr.heap.size, 0, none⟩) hsz _)
          have b4 : Below w.heap.size W w4 := b1.trans ⟨hg.os, hg.tape, hg.output, hg.size, fun k hk => hg.block k (by rw [hz]; omega) (by simp; omega)⟩
          refine ⟨k1.trans (KeepsOthers.of_grownBy hg fun j o e hj => ?_), b4, ⟨?_, ?_, ?_, ?_, ?_, ?_⟩, hB.trans b4⟩
          · cases e
            obtain ⟨c, hc, _⟩ := r1
            rw [hc] at hj
            cases hj
            rfl
          · rw [HST.out]
            exact (hD.put1 (.int .u64 (stepZ d))).drew.grown hg (by simp; omega)
          · rw [HST.out]
            exact h4
          · exact (hS.far (p := ⟨wr.heap.size, 0, none⟩) (by simp; omega) _).drew.grown hg (by simp)
          · exact (hP.far (p := ⟨wr.heap.size, 0, none⟩) (by simp) _).drew.grown hg (by simp; omega)
          · exact (hC.far (p := ⟨wr.heap.size, 0, none⟩) (by simp; omega) _).drew.grown hg (by simp; omega)
          · rw [HST.out]
            show (swapL zs i k).length = _
            rw [swapL_len]
            exact HL.out)
        clear hst hd hzs hk hbd hL
        rw [hv]
        have hmx : Try.prog.follows .mixedOrders = true := by kernel_rfl
        gi_wp2
        have WA := Lib.hid (below_in wr.heap.size d ((i : Int) + 1) W.drew (by omega) (by omega) hD.drew)
        have hSA : At (W.setCell ⟨wr.heap.size, 0, none⟩ (.int .u64 (stepZ d))).drew (w.heap.size + 1) 34 #[.slice (some ⟨w.heap.size, 0, none⟩) (K + 1) (K + 1)] := (hS.far (p := ⟨wr.heap.size, 0, none⟩) (by simp; omega) (.int .u64 (stepZ d))).drew
        have hRA : (W.setCell ⟨wr.heap.size, 0, none⟩ (.int .u64 (stepZ d))).drew.rowIs w.heap.size 3 (K + 1) (fun j => .int .i64 (zs.getD j 0)) := rowIs_drew (hR.setOther (a := ⟨wr.heap.size, 0, none⟩) (by simp; omega) (.int .u64 (stepZ d)))
        have CA := Lib.hid (change_any (w.heap.size + 1) w.heap.size (K + 1) i k zs (W.setCell ⟨wr.heap.size, 0, none⟩ (.int .u64 (stepZ d))).drew hSA hRA HL.out (by omega) (by omega) (by omega) (by omega))
        clear hSA hRA
        refine wpIn_region_any hmx ?_
        try (change wpAnyIn _ _ _ _ _ _ _ _ _ (World.drew _))
        refine anyIn_round rfl l (by simp) _ _ _ _ ?_
        refine wpAnyIn_take (i := 1) (v := .int .i64 (i : Int)) rfl rfl (by kernel_rfl) (by kernel_rfl) (by kernel_rfl) (fun _ _ _ h => h) ⟨Or.inl ⟨by rfl, by (intro w; go_simp)⟩, fun _ => rfl⟩ ?_
        refine wpAnyIn_take (i := 3) (v := .int .i64 (i : Int)) rfl rfl (by kernel_rfl) (by kernel_rfl) (by kernel_rfl) (fun _ _ _ h => h) ⟨Or.inl ⟨by rfl, by (intro w; go_simp)⟩, fun _ => rfl⟩ ?_
        refine wpAnyIn_take (i := 4) (v := .int .i64 (IntKind.i64.wrap ((i : Int) + 1))) rfl rfl (by kernel_rfl) (by kernel_rfl) (by kernel_rfl) (fun _ _ _ h => h) ⟨Or.inl ⟨by rfl, by (intro w; go_simp)⟩, fun _ => rfl⟩ ?_
        refine wpAnyIn_ready (rs := [0, 2]) (by kernel_rfl) (by simp) ?_
        refine AllReadyIn.cons rfl (fun K hK => ?_) ?_
        · go_simp
          refine hK _ _ ?_
          clear hK K
          refine wpAnyIn_ready (rs := [2]) (by kernel_rfl) (by simp) ?_
          refine AllReadyIn.cons rfl (fun K hK => ?_) ?_
          · go_simp
            refine hK _ _ ?_
            clear hK K
            refine wpAnyIn_ready (rs := [5]) (by kernel_rfl) (by simp) ?_
            refine AllReadyIn.cons rfl (fun K hK => ?_) ?_
            · go_simp
              gi_wp2_with (refine ⟨trivial, ?_⟩; gi_at_call 14; rw [HW.out]; refine (callsIn_wide.2 WA.out).mono ?_; rintro e w3 ⟨rfl, rfl⟩; rw [HK.out])
              try (refine hK _ _ ?_; clear hK K)
              refine wpAnyIn_ready (rs := [6]) (by kernel_rfl) (by simp) ?_
              refine AllReadyIn.cons rfl (fun K hK => ?_) ?_
              · go_simp
                gi_wp2_with (refine ⟨trivial, ?_⟩; gi_at_call 23; refine (callsIn_wide.2 CA.out).mono ?_; rintro e w4 ⟨rfl, hR4, hg4⟩)
                try (refine hK _ _ ?_; clear hK K)
                refine wpAnyIn_done (by kernel_rfl) ?_ _
                try gi_wp2
                exact HE.out _ hR4 hg4
              exact AllReadyIn.nil
            exact AllReadyIn.nil
          exact AllReadyIn.nil
        refine AllReadyIn.cons rfl (fun K hK => ?_) ?_
        · go_simp
          refine hK _ _ ?_
          clear hK K
          refine wpAnyIn_ready (rs := [0, 5]) (by kernel_rfl) (by simp) ?_
          refine AllReadyIn.cons rfl (fun K hK => ?_) ?_
          · go_simp
            refine hK _ _ ?_
            clear hK K
            refine wpAnyIn_ready (rs := [5]) (by kernel_rfl) (by simp) ?_
            refine AllReadyIn.cons rfl (fun K hK => ?_) ?_
            · go_simp
              gi_wp2_with (refine ⟨trivial, ?_⟩; gi_at_call 14; rw [HW.out]; refine (callsIn_wide.2 WA.out).mono ?_; rintro e w3 ⟨rfl, rfl⟩; rw [HK.out])
              try (refine hK _ _ ?_; clear hK K)
              refine wpAnyIn_ready (rs := [6]) (by kernel_rfl) (by simp) ?_
              refine AllReadyIn.cons rfl (fun K hK => ?_) ?_
              · go_simp
                gi_wp2_with (refine ⟨trivial, ?_⟩; gi_at_call 23; refine (callsIn_wide.2 CA.out).mono ?_; rintro e w4 ⟨rfl, hR4, hg4⟩)
                try (refine hK _ _ ?_; clear hK K)
                refine wpAnyIn_done (by kernel_rfl) ?_ _
                try gi_wp2
                exact HE.out _ hR4 hg4
              exact AllReadyIn.nil
            exact AllReadyIn.nil
          refine AllReadyIn.cons rfl (fun K hK => ?_) ?_
          · go_simp
            gi_wp2_with (refine ⟨trivial, ?_⟩; gi_at_call 14; rw [HW.out]; refine (callsIn_wide.2 WA.out).mono ?_; rintro e w3 ⟨rfl, rfl⟩; rw [HK.out])
            try (refine hK _ _ ?_; clear hK K)
            refine wpAnyIn_ready (rs := [0]) (by kernel_rfl) (by simp) ?_
            refine AllReadyIn.cons rfl (fun K hK => ?_) ?_
            · go_simp
              refine hK _ _ ?_
              clear hK K
              refine wpAnyIn_ready (rs := [6]) (by kernel_rfl) (by simp) ?_
              refine AllReadyIn.cons rfl (fun K hK => ?_) ?_
              · go_simp
                gi_wp2_with (refine ⟨trivial, ?_⟩; gi_at_call 23; refine (callsIn_wide.2 CA.out).mono ?_; rintro e w4 ⟨rfl, hR4, hg4⟩)
                try (refine hK _ _ ?_; clear hK K)
                refine wpAnyIn_done (by kernel_rfl) ?_ _
                try gi_wp2
                exact HE.out _ hR4 hg4
              exact AllReadyIn.nil
            exact AllReadyIn.nil
          exact AllReadyIn.nil
        exact AllReadyIn.nil
      case done =>
        rintro D ys W hD rfl ⟨⟨hDi, hR, hS, hP, hC, hL⟩, hB⟩ hK
        have hc := hS.cell 0
        simp at hc
        gi_wp2
        refine ⟨by simp, .inl ⟨_, _, rfl, run_takeDeferred hK, ?_⟩⟩
        refine ⟨_, results_tmp rfl _ _ _, ?_⟩
        have hb : Below (w.heap.size + 2) W (W.putObj D (.deferred none)) := belowK_b (w := W2) (by omega) W D _ _ hD hK rfl rfl
        have hf : (stR s K (downR K K (Nat.le_refl _))).2 = ordL s ((K : Int) + 1) := by
          unfold stR
          rw [downR_val, HV.out]
        rw [hf] at hL hR
        show ListPost (ordL s ((K : Int) + 1)) w (.returned (.slice (some ⟨w.heap.size, 0, none⟩) (K + 1) (K + 1))) (W.putObj D (.deferred none))
        refine ⟨some ⟨w.heap.size, 0, none⟩, K + 1, by rw [hL], fun _ => ⟨w.heap.size, 0, rfl, ?_, fun i hi => ?_⟩, hB.trans (hb.mono (by omega))⟩
        · have h1 := hb.size
          have h2 := hS.lt
          omega
        · rw [Nat.zero_add]
          exact (hb.cell (p := ⟨w.heap.size, i, none⟩) (by simp)).trans (hR.cell (by omega))
      case stop =>
        rintro D c pre W _ _ h _
        exact h.elim
set_option maxRecDepth 100000 in
theorem order_any (s n : Int) (w : World) (n0 : -9223372036854775808 ≤ n) (n1 : n ≤ 9223372036854775807) :
    Calls Try.prog 21 #[.int .u64 s, .int .i64 n] w fun e w' => ListPost (ordL s n) w e w' := by
  by_cases h : n < 1 ∨ 1000 < n
  · have HV := Lib.hid (show ordL s n = [] by unfold ordL; rw [if_pos h])
    have HF := Lib.hid (show ∀ w', Below w.heap.size w w' → ListPost (ordL s n) w (.returned (.slice none 0 0)) w' from fun w' hb => by
      rw [HV.out]
      exact ⟨none, 0, rfl, fun hl => absurd hl (by simp), hb⟩)
    have hmf : ∀ (fn : Fn) (first cap : Array Value) (w : World), (Instr.makeFunc fn first cap).run Try.prog w = .ok (.func fn first cap) w := fun _ _ _ _ => rfl
    by_cases h1 : n < 1
    · clear h
      go_enter Try.func21, Try.ntmps21
      go_wp2_with fail
      go_ret
      exact HF.out _ (Below.refl _ _)
    · have h2 : 1000 < n := by omega
      clear h
      go_enter Try.func21, Try.ntmps21
      go_wp2_with fail
      go_ret
      exact HF.out _ (Below.refl _ _)
  · obtain ⟨K, hK⟩ : ∃ K : Nat, n = (K : Int) + 1 := ⟨n.toNat - 1, by omega⟩
    subst hK
    exact order_in s K w (by omega)
end Go.Proofs.Ytnmknpdbjolbpaa
