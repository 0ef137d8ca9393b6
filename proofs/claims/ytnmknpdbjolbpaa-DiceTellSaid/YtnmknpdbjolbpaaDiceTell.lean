/- 'vendue/venduelaw15.DiceTell' answers true at every input, and leaves its arguments as they were: the given statement Rows.DiceTellSaid. No condition. -/
import Derived.Test.YtnmknpdbjolbpaaRows
import Derived.Test.YtnmknpdbjolbpaaMem
import Derived.WalkKit
import Derived.ProofKit
import Derived.OpenShut
import Derived.Deep.RegionHeld3
import Derived.Deep.AppendLies
import Derived.Test.YtnmknpdbjolbpaaDice
namespace Go.Proofs.Ytnmknpdbjolbpaa.diceTell
open Go.ChangeShapes Go.WideShapes Go.ChangeAt Go.RowKit
open Go.ChangeMaps (open_string shut_string)
set_option linter.unusedVariables false


/-- What the walk is told of a slice of ints that came in: each element's cell. -/
def IsInts (w : World) (a : Option Addr) (len cap : Nat) : Prop :=
  len ≤ cap ∧ cap ≤ maxLen ∧ (0 < len → ∃ b o, a = some ⟨b, o, none⟩ ∧ b < w.heap.size ∧ ∀ i, i < len → ∃ n : Int, w.cell? ⟨b, o + i, none⟩ = some (.int .i64 n) ∧ (Lit.int .i64 n).wf = true)

section
variable {H : Type} {enc : TypeId × Value → H} {P : Program} {W : World} {base : Nat} {spare : Nat → Bool} {held : Bool}
theorem open_row {r : Reach} {b0 : Nat} {t e : TypeId} {v : Value} {d : DataW H} {p : List MemPlace} (ht : P.underlying t = some (.slice e)) (he : P.underlying e = some (.int .i64)) (hc : P.cellsOf e = 1)
    (hv : Value.okWide P W r b0 t v) (h : DataW.Trod enc P W 0 (fun _ => true) true t v d p) : ∃ a len cap, v = .slice a len cap ∧ IsInts W a len cap := by
  obtain ⟨a, len, cap, rfl⟩ := okWide_slice ht hv
  obtain ⟨fuel, hf⟩ := h
  rcases open_ints ht he hc hf with ⟨hcs, _⟩ | ⟨x, len', cap', zs, hcs, _, hl, hm, hz, _, hcell, hwf⟩
  · simp [Value.cells] at hcs
    obtain ⟨rfl, rfl, rfl⟩ := hcs
    exact ⟨none, 0, 0, rfl, Nat.le_refl _, by unfold maxLen; omega, fun h => by omega⟩
  · simp [Value.cells] at hcs
    obtain ⟨rfl, rfl, rfl⟩ := hcs
    simp at hz
    refine ⟨_, _, _, rfl, hl, hm, fun h0 => ?_⟩
    obtain ⟨b, o, sp⟩ := x
    have hc0 := hcell 0 (by omega)
    have hs : sp = none := by simpa [Addr.add] using World.cell?_spot hc0
    subst hs
    refine ⟨b, o, rfl, by simpa [Addr.add] using World.block_lt_of_cell? W _ hc0, fun i hi => ⟨zs.getD i 0, ?_, ?_⟩⟩
    · have h := hcell i (by omega)
      by_cases hi0 : i = 0
      · subst hi0
        simpa [Addr.add] using h
      · simpa [Addr.add, hi0] using h
    · refine hwf _ ?_
      rw [List.getD_eq_getElem?_getD, List.getElem?_eq_getElem (by omega)]
      simp
theorem open_arr3 {r : Reach} {b0 : Nat} {t e : TypeId} {v : Value} {d : DataW H} {p : List MemPlace} (ht : P.underlying t = some (.array 3 e)) (he : P.underlying e = some (.int .i64)) (hc : P.cellsOf e = 1) (hn : P.cellsOf t = 3)
    (hv : Value.okWide P W r b0 t v) (h : DataW.Trod enc P W 0 (fun _ => true) true t v d p) : ∃ q0 q1 q2 : Int, v = .agg #[.int .i64 q0, .int .i64 q1, .int .i64 q2] := by
  have hv' := hv
  simp only [Value.okWide, ht] at hv'
  obtain ⟨⟨cs⟩, rfl, hsz, _⟩ := hv'
  rw [hn] at hsz
  match cs, hsz with
  | [c0, c1, c2], _ =>
    obtain ⟨fuel, hf⟩ := h
    obtain ⟨xs, m, _, _, _, hlen, hx⟩ := DataW.trod_array ht hf
    match xs, hlen with
    | [x0, x1, x2], _ =>
      have g0 := hx 0 (by omega)
      have g1 := hx 1 (by omega)
      have g2 := hx 2 (by omega)
      rw [hc] at g0 g1 g2
      simp [Value.cells] at g0 g1 g2
      obtain ⟨n0, e0, _⟩ := DataW.trod_int he g0
      obtain ⟨n1, e1, _⟩ := DataW.trod_int he g1
      obtain ⟨n2, e2, _⟩ := DataW.trod_int he g2
      simp at e0 e1 e2
      subst e0 e1 e2
      exact ⟨n0, n1, n2, rfl⟩
end

set_option maxHeartbeats 1600000 in
theorem walk (a0 : Int) (a1 : Option Addr) (len1 cap1 : Nat) (q0 q1 q2 : Int) (w : World) (w0 : (Lit.int .u64 a0).wf = true) (k1 : IsInts w a1 len1 cap1) :
    Calls Try.prog 6 #[.int .u64 a0, .slice a1 len1 cap1, .agg #[.int .i64 q0, .int .i64 q1, .int .i64 q2]] w fun e w' => e = .returned (.bool true) ∧ Below w.heap.size w w' := by
  obtain ⟨h0, h0'⟩ := bd_u64 _ w0
  obtain ⟨hl, hm, hrow⟩ := k1
  clear w0
  unfold maxLen at hm
  go_enter Try.func6, Try.ntmps6
  go_wp2_with fail
  refine (awake_any _).mono ?_; rintro e w' ⟨rfl, rfl⟩
  go_wp2_with fail
  refine (new_any _ _).mono ?_; rintro e w' ⟨rfl, rfl⟩
  go_wp2_with fail
  obtain ⟨W1, hW1⟩ : ∃ W1, W1 = (((w.alloc (.cells #[.int .i64 q0, .int .i64 q1, .int .i64 q2] 35)).alloc (.cells #[.int .u64 11400714819323198485] 31)).alloc (.cells #[.int .u64 a0] 31)).alloc (.cells #[.int .u64 a0] 38) := ⟨_, rfl⟩
  have hg : Below w.heap.size w W1 := by rw [hW1]; exact ((((Below.refl _ _).alloc (Nat.le_refl _) _).alloc (by simp) _).alloc (by simp; omega) _).alloc (by simp; omega) _
  have hQ : At W1 w.heap.size 35 #[.int .i64 q0, .int .i64 q1, .int .i64 q2] := by rw [hW1]; exact (((At.new _ _ _).alloc _).alloc _).alloc _
  have hA : At W1 (w.heap.size + 1 + 1) 31 #[.int .u64 a0] := by rw [hW1]; have h := (At.new ((w.alloc (.cells #[.int .i64 q0, .int .i64 q1, .int .i64 q2] 35)).alloc (.cells #[.int .u64 11400714819323198485] 31)) 31 #[.int .u64 a0]).alloc (.cells #[.int .u64 a0] 38); simpa using h
  have hR : At W1 (w.heap.size + 1 + 1 + 1) 38 #[.int .u64 a0] := by rw [hW1]; have h := At.new (((w.alloc (.cells #[.int .i64 q0, .int .i64 q1, .int .i64 q2] 35)).alloc (.cells #[.int .u64 11400714819323198485] 31)).alloc (.cells #[.int .u64 a0] 31)) 38 #[.int .u64 a0]; simpa using h
  rw [← hW1]
  clear hW1
  go_loopw [10] (fun i wr => ∃ (s : Int) (k : Nat), i = .int .i64 k ∧ k ≤ 20 ∧ At wr w.heap.size 35 #[.int .i64 q0, .int .i64 q1, .int .i64 q2] ∧ At wr (w.heap.size + 1 + 1) 31 #[.int .u64 s] ∧ At wr (w.heap.size + 1 + 1 + 1) 38 #[.int .u64 s] ∧ Below w.heap.size w wr) (fun i _ => (21 - intOf i).toNat)
  case atStart => exact ⟨a0, 0, rfl, by omega, hQ, hA, hR, hg⟩
  case round =>
    obtain ⟨s, k, rfl, k1, hQr, hAr, hRr, hgr⟩ := hrel
    clear hQ hA hR hg
    by_cases hk : k < len1 ∧ k < 20
    · obtain ⟨hk, hk2⟩ := hk
      obtain ⟨b, o, rfl, hb, hcells⟩ := hrow (by omega)
      obtain ⟨n, hn, _⟩ := hcells k hk
      have hc : wr.cell? ⟨b, o + k, none⟩ = some (.int .i64 n) := by rw [← hn]; exact hgr.cell (p := ⟨b, o + k, none⟩) hb
      clear hn hcells hrow
      go_wp2_with fail
      have hbr : b < wr.heap.size := Nat.lt_of_lt_of_le hb hgr.size
      go_region_held3 (fun w' => w'.cell? ⟨b, o + k, none⟩ = some (.int .i64 n)) (first | assumption | go_keep)
        (first
          | (go_at_call 14; refine (below_any _ s n _ (by exact hAr.drew)).mono ?_; rintro e w1 ⟨rfl, hA1, hg1⟩; have hc1 := (hg1.cell_far ⟨b, o + k, none⟩ hbr (by simp; omega)).trans hc; have hbr1 := Nat.lt_of_lt_of_le hbr hg1.size)
          | (go_at_call 15; refine (refbelow_any _ s n _ (by exact hRr.drew.grown hg1 (by simp))).mono ?_; rintro e w2 ⟨rfl, hR2, hg2⟩; have hc2 := (hg2.cell_far ⟨b, o + k, none⟩ hbr1 (by simp; omega)).trans hc1; have hbr2 := Nat.lt_of_lt_of_le hbr1 hg2.size)
          | (go_at_call 13; refine (next_row _ (afterZ s n) _ (by exact hA1.grown hg2 (by simp))).mono ?_; rintro e w3 ⟨rfl, hA3, hg3⟩; have hc3 := (hg3.cell_far ⟨b, o + k, none⟩ hbr2 (by simp; omega)).trans hc2; have hbr3 := Nat.lt_of_lt_of_le hbr2 hg3.size)
          | (go_at_call 16; refine (refnext_row _ (afterZ s n) _ (by exact hR2.grown hg3 (by simp))).mono ?_; rintro e w4 ⟨rfl, hR4, hg4⟩; have hc4 := (hg4.cell_far ⟨b, o + k, none⟩ hbr3 (by simp; omega)).trans hc3))
      go_wp2_with fail
      go_roundw
      case rel => exact ⟨stepZ (afterZ s n), k + 1, by go_num, by omega, ((((hQr.drew.grown hg1 (by simp; omega)).grown hg2 (by simp; omega)).grown hg3 (by simp; omega)).grown hg4 (by simp; omega)), hA3.grown hg4 (by simp), hR4, below_row (below_row (below_row (below_row hgr.drew hg1 (by omega)) hg2 (by omega)) hg3 (by omega)) hg4 (by omega)⟩
      case measure => simp [intOf]; omega
    · have hc0 := hQr.cell 0
      have hc1 := hQr.cell 1
      have hc2 := hQr.cell 2
      have hlt := hQr.lt
      by_cases hk3 : k < len1
      · have hk5 : ¬ k < 20 := by omega
        clear hk
        go_wp2_with fail
        go_region_held3 (fun w' => w'.cell? ⟨w.heap.size, 0, none⟩ = some (.int .i64 q0) ∧ w'.cell? ⟨w.heap.size, 1, none⟩ = some (.int .i64 q1) ∧ w'.cell? ⟨w.heap.size, 2, none⟩ = some (.int .i64 q2)) (first | exact ⟨hc0, hc1, hc2⟩ | exact ⟨hd0, hd1, hd2⟩ | exact ⟨he0, he1, he2⟩ | go_keep)
          (first
            | (go_at_call 11; refine (mix_any a0 _ h0 h0').mono ?_; rintro e w' ⟨rfl, rfl⟩)
            | (go_at_call 17; refine (refmix_any a0 _ h0 h0').mono ?_; rintro e w' ⟨rfl, rfl⟩)
            | (go_at_call 18; refine (draw_any a0 q0 q1 q2 _ h0 h0').mono ?_; rintro e w1 ⟨rfl, hb1⟩; have hd0 := (hb1.cell (p := ⟨w.heap.size, 0, none⟩) hlt).trans hc0; have hd1 := (hb1.cell (p := ⟨w.heap.size, 1, none⟩) hlt).trans hc1; have hd2 := (hb1.cell (p := ⟨w.heap.size, 2, none⟩) hlt).trans hc2; have hlt1 := Nat.lt_of_lt_of_le hlt hb1.size)
            | (go_at_call 19; refine (refdraw_any a0 q0 q1 q2 _ h0 h0').mono ?_; rintro e w2 ⟨rfl, hb2⟩; have he0 := (hb2.cell (p := ⟨w.heap.size, 0, none⟩) hlt1).trans hd0; have he1 := (hb2.cell (p := ⟨w.heap.size, 1, none⟩) hlt1).trans hd1; have he2 := (hb2.cell (p := ⟨w.heap.size, 2, none⟩) hlt1).trans hd2))
        go_wp2_with fail
        go_ret
        exact ⟨rfl, below_step (below_step hgr.drew hb1) hb2⟩
      · clear hk
        go_wp2_with fail
        go_region_held3 (fun w' => w'.cell? ⟨w.heap.size, 0, none⟩ = some (.int .i64 q0) ∧ w'.cell? ⟨w.heap.size, 1, none⟩ = some (.int .i64 q1) ∧ w'.cell? ⟨w.heap.size, 2, none⟩ = some (.int .i64 q2)) (first | exact ⟨hc0, hc1, hc2⟩ | exact ⟨hd0, hd1, hd2⟩ | exact ⟨he0, he1, he2⟩ | go_keep)
          (first
            | (go_at_call 11; refine (mix_any a0 _ h0 h0').mono ?_; rintro e w' ⟨rfl, rfl⟩)
            | (go_at_call 17; refine (refmix_any a0 _ h0 h0').mono ?_; rintro e w' ⟨rfl, rfl⟩)
            | (go_at_call 18; refine (draw_any a0 q0 q1 q2 _ h0 h0').mono ?_; rintro e w1 ⟨rfl, hb1⟩; have hd0 := (hb1.cell (p := ⟨w.heap.size, 0, none⟩) hlt).trans hc0; have hd1 := (hb1.cell (p := ⟨w.heap.size, 1, none⟩) hlt).trans hc1; have hd2 := (hb1.cell (p := ⟨w.heap.size, 2, none⟩) hlt).trans hc2; have hlt1 := Nat.lt_of_lt_of_le hlt hb1.size)
            | (go_at_call 19; refine (refdraw_any a0 q0 q1 q2 _ h0 h0').mono ?_; rintro e w2 ⟨rfl, hb2⟩; have he0 := (hb2.cell (p := ⟨w.heap.size, 0, none⟩) hlt1).trans hd0; have he1 := (hb2.cell (p := ⟨w.heap.size, 1, none⟩) hlt1).trans hd1; have he2 := (hb2.cell (p := ⟨w.heap.size, 2, none⟩) hlt1).trans hd2))
        go_wp2_with fail
        go_ret
        exact ⟨rfl, below_step (below_step hgr.drew hb1) hb2⟩

theorem own : ownKnob Try.prog.godebug = none := by kernel_rfl
theorem laidOut : laidOutB Try.prog = true := by kernel_rfl

set_option maxRecDepth 100000 in
theorem lifted (os : Os) (started : os.Started) (H : Type) (enc : TypeId × Value → H) :
    ReturnsInHanded {} Try.checked os 6 .any (Rows.diceTellSpec.pre6 enc Try.prog Try.f6 Rows.diceTellRow.domain false) (Rows.diceTellSpec.post enc Try.prog Try.f6 false true false false) := by
  refine returnsInHanded_of_change (C := Try.checked) own started (by kernel_rfl) Try.func6
    (ChangeSpec.witness6 (enc := enc) (C := Try.checked) false ⟨#[], #[.int .u64 0, .slice none 0 0, .agg #[.int .i64 0, .int .i64 0, .int .i64 0]], []⟩ 8 (by kernel_rfl) (by kernel_rfl) (by kernel_rfl) (by kernel_rfl)) ?_
  intro W base args ds gs before hval0 hW hcnd hsz
  have hval : ∀ (j : Nat) t v, Try.f6.params[j]? = some t → args[j]? = some v → Value.okWide Try.prog W .any base t v := hval0
  have hW' := hW
  obtain ⟨p, q, hA0, hV, rfl, hfz, hnd⟩ := hW
  have hA : DataW.TrodAll enc Try.prog W 0 (fun _ => true) true Try.f6.params.toList args.toList ds p := hA0
  rw [Try.params6] at hA hval
  obtain ⟨v0, vs0, d0, ds0, p0, q0, hargs, rfl, rfl, h0, r0⟩ := trodAll_cons hA
  obtain ⟨v1, vs1, d1, ds1, p1, q1, rfl, rfl, rfl, h1, r1⟩ := trodAll_cons r0
  obtain ⟨v2, vs2, d2, ds2, p2, q2, rfl, rfl, rfl, h2, r2⟩ := trodAll_cons r1
  obtain ⟨rfl, rfl, rfl⟩ := trodAll_nil r2
  obtain rfl : args = #[v0, v1, v2] := by cases args; simp_all
  obtain ⟨rfl, rfl⟩ := trodVars_none hV
  obtain ⟨a0, rfl, rfl, rfl, w0⟩ := open_int Try.underlying22 (hval 0 22 v0 rfl rfl) h0
  obtain ⟨a1, len1, cap1, rfl, k1⟩ := open_row Try.underlying34 Try.underlying3 (by kernel_rfl) (hval 1 34 v1 rfl rfl) h1
  obtain ⟨q0, q1, q2, rfl⟩ := open_arr3 Try.underlying35 Try.underlying3 (by kernel_rfl) (by kernel_rfl) (hval 2 35 v2 rfl rfl) h2
  refine (walk a0 a1 len1 cap1 q0 q1 q2 W w0 k1).mono fun e W' ⟨he, hg⟩ => ?_
  subst he
  exact ⟨_, rfl, post_law laidOut (by kernel_rfl) rfl Try.underlying4 hW' rfl rfl hg⟩

theorem over : Rows.diceTellRow.holds Try.pinned (OpenSpec.ofChange Rows.diceTellSpec) :=
  OpenClaim.holds_of_wide 6 Try.f6 rfl rfl rfl rfl rfl rfl rfl ⟨rfl, rfl, rfl, rfl, rfl⟩ rfl rfl rfl rfl rfl (by kernel_rfl) Try.func6 (by kernel_rfl)
    (of_decide_eq_true (by kernel_rfl)) (by unfold Func.isWrapper; first | (rw [if_pos (by decide +kernel)]; kernel_rfl) | (rw [if_neg (by decide +kernel)]; exact ⟨rfl, rfl⟩))
    (fun os started H enc _ => lifted os started H enc)

/-- THE STATEMENT. -/
theorem proved : Rows.DiceTellSaid := over
#print axioms proved
end Go.Proofs.Ytnmknpdbjolbpaa.diceTell
