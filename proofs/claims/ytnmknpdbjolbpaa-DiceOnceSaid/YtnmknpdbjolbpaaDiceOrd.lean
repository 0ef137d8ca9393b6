/- Orders of numbers: the plain laws (what is changed for what; nothing is lost), the contract of the reference's Order and Same, and of the closure that changes two places of an order. -/
import Derived.Test.YtnmknpdbjolbpaaDice
import Derived.Deep.OwnRows
import Derived.Deep.QuietTactic
import Derived.BigQuiet
import Derived.BigRegion
import Derived.OwnWalk
import Derived.Lib.Hide
import Derived.Outline
namespace Go.Proofs.Ytnmknpdbjolbpaa
open Go.RowKit
set_option linter.unusedVariables false

/-! ### Plain laws -/
/-- n, .., 2, 1. -/
def downFrom : Nat → List Int
  | 0 => []
  | i + 1 => ((i + 1 : Nat) : Int) :: downFrom i
def swapL (zs : List Int) (i k : Nat) : List Int := (zs.set i (zs.getD k 0)).set k (zs.getD i 0)
/-- One change: of place x and of one drawn below x + 1. -/
def goSt (st : Int × List Int) (x : Int) : Int × List Int := (stepZ st.1, swapL st.2 x.toNat (belowZ (mixZ (stepZ st.1)) (x + 1)).toNat)
def firstL (n : Nat) : List Int := (List.range n).map fun i : Nat => (i : Int)
def ordL (seed n : Int) : List Int := if n < 1 ∨ 1000 < n then [] else ((downFrom (n.toNat - 1)).foldl goSt (seed, firstL n.toNat)).2
theorem swapL_len (zs : List Int) (i k : Nat) : (swapL zs i k).length = zs.length := by unfold swapL; simp
theorem getD_set (zs : List Int) (i j : Nat) (a : Int) (hi : i < zs.length) : (zs.set i a).getD j 0 = if j = i then a else zs.getD j 0 := by
  rw [List.getD_eq_getElem?_getD, List.getElem?_set, List.getD_eq_getElem?_getD]
  by_cases h : i = j
  · subst h
    rw [if_pos rfl, if_pos hi, if_pos rfl]
    rfl
  · rw [if_neg h, if_neg (fun e => h e.symm)]
theorem swapL_get (zs : List Int) (i k j : Nat) (hi : i < zs.length) (hk : k < zs.length) : (swapL zs i k).getD j 0 = zs.getD (if j = k then i else if j = i then k else j) 0 := by
  unfold swapL
  rw [getD_set _ k j _ (by simpa using hk), getD_set zs i j _ hi]
  split
  · rfl
  · split <;> rfl
/-- Each number from 0 on is there, and once. -/
def Once (n : Nat) (zs : List Int) : Prop := zs.length = n ∧ (∀ j, j < n → 0 ≤ zs.getD j 0 ∧ zs.getD j 0 < n) ∧ ∀ i j, i < n → j < n → zs.getD i 0 = zs.getD j 0 → i = j
theorem once_first (n : Nat) : Once n (firstL n) := by
  have hg : ∀ j, j < n → (firstL n).getD j 0 = (j : Int) := fun j hj => by unfold firstL; simp [List.getD_eq_getElem?_getD, hj]
  refine ⟨by unfold firstL; simp, fun j hj => by rw [hg j hj]; omega, fun i j hi hj h => ?_⟩
  rw [hg i hi, hg j hj] at h
  omega
theorem once_swap {n : Nat} {zs : List Int} (h : Once n zs) (i k : Nat) (hi : i < n) (hk : k < n) : Once n (swapL zs i k) := by
  obtain ⟨h1, h2, h3⟩ := h
  have hσ : ∀ j, j < n → (if j = k then i else if j = i then k else j) < n := fun j hj => by split; omega; split <;> omega
  refine ⟨by rw [swapL_len, h1], fun j hj => ?_, fun a b ha hb e => ?_⟩
  · rw [swapL_get zs i k j (by omega) (by omega)]
    exact h2 _ (hσ j hj)
  · rw [swapL_get zs i k a (by omega) (by omega), swapL_get zs i k b (by omega) (by omega)] at e
    have := h3 _ _ (hσ a ha) (hσ b hb) e
    split at this <;> split at this <;> (try split at this) <;> (try split at this) <;> omega
theorem below_dice (s x : Int) (h0 : 0 ≤ x) (h1 : x ≤ 2147483647) : 0 ≤ belowZ (mixZ (stepZ s)) (x + 1) ∧ belowZ (mixZ (stepZ s)) (x + 1) ≤ x := by
  have := below_bd (mixZ (stepZ s)) (x + 1) (mixZ_bd _) (by omega)
  omega
theorem once_fold (n : Nat) (hn : n ≤ 1000) : ∀ (m : Nat) (st : Int × List Int), m < n → Once n st.2 → Once n ((downFrom m).foldl goSt st).2 := by
  intro m
  induction m with
  | zero => intro st _ h; exact h
  | succ m ih =>
    intro st hm h
    have hb := below_dice st.1 ((m + 1 : Nat) : Int) (by omega) (by omega)
    refine ih _ (by omega) ?_
    exact once_swap h _ _ (by simp; omega) (by omega)
theorem ordL_once (seed n : Int) (h0 : 1 ≤ n) (h1 : n ≤ 1000) : Once n.toNat (ordL seed n) := by
  unfold ordL
  rw [if_neg (by omega)]
  exact once_fold n.toNat (by omega) _ _ (by omega) (once_first _)
theorem ordL_len (seed n : Int) : (ordL seed n).length ≤ 1000 := by
  by_cases h : n < 1 ∨ 1000 < n
  · unfold ordL; rw [if_pos h]; simp
  · rw [(ordL_once seed n (by omega) (by omega)).1]; omega

/-! ### Rows of numbers in memory -/
/-- The numbers that a slice holds: each has its cell. -/
def Row64 (w : World) (a : Option Addr) (zs : List Int) : Prop :=
  0 < zs.length → ∃ b o, a = some ⟨b, o, none⟩ ∧ b < w.heap.size ∧ ∀ i, i < zs.length → w.cell? ⟨b, o + i, none⟩ = some (.int .i64 (zs.getD i 0))
theorem row64_step {w w' : World} {a : Option Addr} {zs : List Int} (h : Row64 w a zs) (hb : Below w.heap.size w w') : Row64 w' a zs := fun hl => by
  obtain ⟨b, o, e, hlt, hc⟩ := h hl
  exact ⟨b, o, e, Nat.lt_of_lt_of_le hlt hb.size, fun i hi => (hb.cell (p := ⟨b, o + i, none⟩) hlt).trans (hc i hi)⟩
theorem info_int : (Try.prog.info? 3).map (fun i => (i.zero, i.size, i.bytes)) = some (some (.int .i64 0), 1, 8) := by kernel_rfl
/-- What an order is handed back as: a slice that holds just these numbers. -/
def ListPost (zs : List Int) (w : World) (e : Ending) (w' : World) : Prop :=
  ∃ (p : Option Addr) (cap : Nat), e = .returned (.slice p zs.length cap) ∧ Row64 w' p zs ∧ Below w.heap.size w w'
theorem below_append {B : Nat} {w wr w1 : World} {v : Value} {n : Nat} {xs : List Value} {e : TypeId} {o : Obj} (hb : Below B w wr) (hB : B ≤ wr.heap.size) (hown : wr.ownsRow B e 1 v n xs) (hg : (wr.alloc o).grownBy w1 v.ownBlock) : Below B w w1 :=
  (hb.alloc hB o).grown hg (by simp; omega) (fun j hj => (hown.lt j hj).1)
theorem new_cell (w : World) (v : Value) (t : TypeId) : ∀ (j : Nat) (u : Value), [v][j]? = some u → (w.alloc (.cells #[v] t)).cell? ((⟨w.heap.size, 0, none⟩ : Addr).add j) = some u := by
  intro j u hj
  match j, hj with
  | 0, hj =>
    have e : v = u := by simpa using hj
    subst e
    simp [Addr.add]
theorem one_int (k : IntKind) (n : Int) : ∀ u ∈ [Value.int k n], u.oneCell' = true := by
  intro u hu
  have e : u = .int k n := by simpa using hu
  subst e
  rfl
theorem own_form {w : World} {base : Nat} {v : Value} {zs : List Int} (h : w.ownsRow base 3 1 v zs.length (zs.map (Value.int .i64))) (h0 : 0 < zs.length) : ∃ (g : Nat) (cap : Nat), v = .slice (some ⟨g, 0, none⟩) zs.length cap ∧ base ≤ g ∧ g < w.heap.size := by
  rcases h.2 with ⟨rfl, h1⟩ | ⟨g, cap, cur, rfl, hbg, hg, hnc, hcm, hcs, htake⟩
  · have e : zs = [] := by simpa using h1
    subst e
    simp at h0
  · exact ⟨g, cap, rfl, hbg, (h.lt g rfl).2⟩
theorem own_cell {w : World} {base g cap : Nat} {zs : List Int} (h : w.ownsRow base 3 1 (.slice (some ⟨g, 0, none⟩) zs.length cap) zs.length (zs.map (Value.int .i64))) (j : Nat) (hj : j < zs.length) : w.cell? ⟨g, j, none⟩ = some (.int .i64 (zs.getD j 0)) := by
  rw [h.cellAt j (by omega)]
  simp [List.getD_eq_getElem?_getD, hj]
theorem own_put {w : World} {base g cap n : Nat} {zs : List Int} (h : w.ownsRow base 3 1 (.slice (some ⟨g, 0, none⟩) n cap) n (zs.map (Value.int .i64))) (j : Nat) (a : Int) : (w.setCell ⟨g, j, none⟩ (.int .i64 a)).ownsRow base 3 1 (.slice (some ⟨g, 0, none⟩) n cap) n ((zs.set j a).map (Value.int .i64)) := by
  have := h.stored j (.int .i64 a)
  rw [List.map_set]
  exact this.1

theorem only_drew {a w : World} {r : Option Nat} (h : a.grownBy w r) : a.grownBy w.drew r := ⟨h.os, h.tape, h.output, h.size, h.block⟩
theorem only_put {a w : World} {g : Nat} (h : a.grownBy w (some g)) (i : Nat) (u : Value) : a.grownBy (w.setCell ⟨g, i, none⟩ u) (some g) :=
  ⟨h.os, h.tape, h.output, by simpa [World.setCell] using h.size, fun k hk hne => (Below.heap_setCell w ⟨g, i, none⟩ u k (fun e => hne (congrArg some e))).trans (h.block k hk hne)⟩
theorem only_step {a w w' : World} {r : Option Nat} (h : a.grownBy w r) (hb : Below w.heap.size w w') : a.grownBy w' r :=
  ⟨hb.os.trans h.os, hb.tape.trans h.tape, hb.output.trans h.output, Nat.le_trans h.size hb.size, fun k hk hne => (hb.block k (Nat.lt_of_lt_of_le hk h.size)).trans (h.block k hk hne)⟩
/-! ### Same -/
def sameB (zs ys : List Int) : Bool := decide (zs = ys)
theorem same_len (zs ys : List Int) (h : zs.length ≠ ys.length) : sameB zs ys = false := decide_eq_false fun e => h (by rw [e])
theorem same_all (zs ys : List Int) (h : zs.length = ys.length) (hk : ∀ i, i < zs.length → zs.getD i 0 = ys.getD i 0) : sameB zs ys = true := decide_eq_true (List.ext_getElem h fun i h1 h2 => by
  have := hk i h1
  rw [List.getD_eq_getElem?_getD, List.getD_eq_getElem?_getD, List.getElem?_eq_getElem h1, List.getElem?_eq_getElem h2] at this
  exact this)
theorem same_one (zs ys : List Int) (i : Nat) (h : zs.getD i 0 ≠ ys.getD i 0) : sameB zs ys = false := decide_eq_false fun e => h (by rw [e])
theorem same_any (a b : Option Addr) (ca cb : Nat) (zs ys : List Int) (w : World) (hA : Row64 w a zs) (hB : Row64 w b ys) (hn : zs.length ≤ 9223372036854775807) (hm : ys.length ≤ 9223372036854775807) :
    Calls Try.prog 20 #[.slice a zs.length ca, .slice b ys.length cb] w fun e w' => e = .returned (.bool (sameB zs ys)) ∧ Below w.heap.size w w' := by
  obtain ⟨n, hnn⟩ : ∃ n, n = zs.length := ⟨_, rfl⟩
  obtain ⟨m, hmm⟩ : ∃ m, m = ys.length := ⟨_, rfl⟩
  rw [← hnn, ← hmm]
  by_cases hl : n = m
  · have hl2 : zs.length = ys.length := by omega
    have HN := Lib.hid hnn
    have HM := Lib.hid hmm
    have HL := Lib.hid hl2
    rw [← hnn] at hn
    clear hnn hmm hm hl2
    subst hl
    have e0 : ((n : Int) != (n : Int)) = false := by simp
    go_enter Try.func20, Try.ntmps20
    go_wp2_with fail
    go_loopw [5] (fun i wr => ∃ k : Nat, i = .int .i64 k ∧ k ≤ n ∧ (∀ j, j < k → zs.getD j 0 = ys.getD j 0) ∧ Below w.heap.size w wr) (fun i _ => n - (intOf i).toNat)
    case atStart => exact ⟨0, rfl, by omega, fun j hj => by omega, Below.refl _ _⟩
    case round =>
      obtain ⟨k, rfl, hk, hal, hgr⟩ := hrel
      by_cases hlt : k < n
      · obtain ⟨b1, o1, rfl, hb1, hc1⟩ := hA (by rw [← HN.out]; omega)
        obtain ⟨b2, o2, rfl, hb2, hc2⟩ := hB (by rw [← HM.out]; omega)
        have c1 := (hgr.cell (p := ⟨b1, o1 + k, none⟩) hb1).trans (hc1 k (by rw [← HN.out]; omega))
        have c2 := (hgr.cell (p := ⟨b2, o2 + k, none⟩) hb2).trans (hc2 k (by rw [← HM.out]; omega))
        have HH := Lib.hid hal
        obtain ⟨x, hx⟩ : ∃ x, x = zs.getD k 0 := ⟨_, rfl⟩
        obtain ⟨y, hy⟩ : ∃ y, y = ys.getD k 0 := ⟨_, rfl⟩
        rw [← hx] at c1
        rw [← hy] at c2
        have HX := Lib.hid hx
        have HY := Lib.hid hy
        clear hc1 hc2 hal hx hy
        have k0 : (k : Int) < (n : Int) := by omega
        by_cases e : x = y
        · have e1 : (x != y) = false := by rw [bne_eq_false_iff_eq]; exact e
          have HE := Lib.hid (show ∀ j, j < k + 1 → zs.getD j 0 = ys.getD j 0 from fun j hj => by
            by_cases hjk : j = k
            · rw [hjk, ← HX.out, ← HY.out]; exact e
            · exact HH.out j (by omega))
          clear e
          go_wp2_with fail
          go_quiet (fail)
          go_wp2_with fail
          go_roundw
          case rel => exact ⟨k + 1, by go_num, by omega, HE.out, below_drewN hgr _⟩
          case measure => simp [intOf]; omega
        · have e1 : (x != y) = true := by rw [bne_iff_ne]; exact e
          have HE := Lib.hid (same_one zs ys k (by rw [← HX.out, ← HY.out]; exact e))
          clear e
          go_wp2_with fail
          go_quiet (fail)
          go_wp2_with fail
          go_ret
          exact ⟨by rw [HE.out]; rfl, below_drewN hgr _⟩
      · obtain rfl : k = n := by omega
        have HE := Lib.hid (same_all zs ys HL.out (fun i hi => hal i (by rw [HN.out]; exact hi)))
        clear hal
        go_wp2_with fail
        go_ret
        exact ⟨by rw [HE.out]; rfl, hgr⟩
  · have HE := Lib.hid (same_len zs ys (by omega))
    have e0 : ((n : Int) != (m : Int)) = true := by rw [bne_iff_ne]; omega
    clear hnn hmm hl
    go_enter Try.func20, Try.ntmps20
    go_wp2_with fail
    go_ret
    exact ⟨by rw [HE.out]; rfl, Below.refl _ _⟩


theorem change_any (bs g n i k : Nat) (zs : List Int) (w : World) (hS : At w bs 34 #[.slice (some ⟨g, 0, none⟩) n n]) (hR : w.rowIs g 3 n (fun j => .int .i64 (zs.getD j 0))) (hl : zs.length = n) (hn : n ≤ 1000) (hi : i < n) (hk : k < n) (hne : bs ≠ g) :
    Calls Try.prog 23 #[.int .i64 i, .int .i64 k, .pointer (some ⟨bs, 0, none⟩)] w fun e w' => e = .returned (.tuple #[]) ∧ w'.rowIs g 3 n (fun j => .int .i64 ((swapL zs i k).getD j 0)) ∧ w.grownBy w' (some g) := by
  have c0 := hS.cell 0
  simp at c0
  have ci := hR.cell hi
  have ck := hR.cell hk
  have fi := hR.frozen i
  have fk := hR.frozen k
  have i0 : (i : Int) < (n : Int) := by omega
  have k0 : (k : Int) < (n : Int) := by omega
  have i1 : 0 ≤ (i : Int) := by omega
  have k1 : 0 ≤ (k : Int) := by omega
  generalize hx : zs.getD i 0 = x at *
  generalize hy : zs.getD k 0 = y at *
  obtain ⟨v2, c2⟩ : ∃ v2, (w.setCell ⟨g, i, none⟩ (.int .i64 y)).cell? ⟨g, k, none⟩ = some v2 := ⟨_, (hR.set i (.int .i64 y)).cell hk⟩
  have HX := Lib.hid hx
  have HY := Lib.hid hy
  have HL := Lib.hid hl
  clear hx hy hl
  go_enter Try.func23, Try.ntmps23
  go_wp2_with fail
  go_region
  all_goals
    go_end0
    refine ⟨rfl, ?_, ?_⟩
    · refine World.rowIs.congr (f := fun j => if j = k then .int .i64 x else if j = i then .int .i64 y else .int .i64 (zs.getD j 0)) ?_ (fun j hj => ?_)
      · exact ((hR.set i (.int .i64 y)).set k (.int .i64 x)).drew
      · rw [swapL_get zs i k j (by rw [HL.out]; exact hi) (by rw [HL.out]; exact hk)]
        split
        · rw [HX.out]
        · split
          · rw [HY.out]
          · rfl
    · exact only_drew (only_put (only_put (World.grownBy.refl w _) i _) k _)
end Go.Proofs.Ytnmknpdbjolbpaa
