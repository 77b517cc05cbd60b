import Derived.Test.YtidedfhlocodgaaPInstNamesx0
import Derived.Test.YtidedfhlocodgaaPInstNamesx2
import Derived.Test.YtidedfhlocodgaaPInstNamesx3
import Derived.Test.YtidedfhlocodgaaPInstNamesx4
namespace Go.Proofs.Ytidedfhlocodgaa.PInstNames
open Go.RowKit Go.Proofs.YtidedfhlocodgaaW.PrintWords Go.Proofs.YtidedfhlocodgaaW.PrintLast Go.Proofs.YtidedfhlocodgaaW.PrintMore
attribute [local go_sem] max2_int min2_int max_two min_two max_three min_three max_four min_four   -- for this text's walks alone
set_option linter.unusedVariables false
set_option linter.unusedSimpArgs false

/-! ### veillaw7_InstNames: function 6 -/
mutual
def veillaw7_InstNames.j0 : Nat → Int → Int → Int → Int → Int → Int → Option (Bool)
  | 0, _, _, _, _, _, _ => none
  | k + 1, x5, x6, x150000, x150001, x150002, x150003 => veillaw7_InstNames.l0 k x5 x6 (([(⟨#[97, 98]⟩ : ByteArray), (⟨#[97, 98]⟩ : ByteArray), (⟨#[97, 98, 99]⟩ : ByteArray), (⟨#[97, 98, 99]⟩ : ByteArray), (⟨#[97, 98]⟩ : ByteArray), (⟨#[]⟩ : ByteArray), (⟨#[97]⟩ : ByteArray)] : List ByteArray)) false 0 x150000 x150001 x150002 x150003
def veillaw7_InstNames.l0 : Nat → Int → Int → List ByteArray → Bool → Int → Int → Int → Int → Int → Option (Bool)
  | 0, _, _, _, _, _, _, _, _, _ => none
  | k + 1, x5, x6, x8, x9, x10, x150000, x150001, x150002, x150003 => if 0 ≤ x5 then (if x5 < (x8.length : Int) then (if x10 < ((rdOf ByteArray.empty x8 x5).size : Int) then (if x9 = true then (veillaw7_InstNames.l0 k x5 x6 x8 true (wrap64 (x10 + 1)) x150000 x150001 x150002 x150003) else (if 0 ≤ x10 then (veillaw7_InstNames.l0 k x5 x6 x8 ((((bt (rdOf ByteArray.empty x8 x5) x10) - 97) % 256) == x6) (wrap64 (x10 + 1)) x150000 x150001 x150002 x150003) else (none))) else ((inst_May.f k x150000 x150001 x150002 x150003).bind fun t155 => (if (t155 == x9) = true then ((inst_May.f k x5 0 0 0).bind fun t156 => (if t156 = true then ((veillaw0_Num.f 0).bind fun t157 => (some (t157 == 0))) else (some false))) else (some false)))) else (none)) else (none)
end
def veillaw7_InstNames.f (k : Nat) (a0 : Int) (a1 : Int) : Option (Bool) := (veillaw7_awake.f k).bind fun t148 => (if t148 = true then (if (wrap64 (Int.tmod (IntKind.u64.wrap (a1)) 3)) = 0 then (veillaw7_InstNames.j0 k (wrap64 (Int.tmod (IntKind.u64.wrap (a0)) 7)) (wrap64 (Int.tmod (IntKind.u64.wrap (a1)) 3)) (wrap64 (Int.tmod (IntKind.u64.wrap (a0)) 7)) 3 0 0) else (if (wrap64 (Int.tmod (IntKind.u64.wrap (a1)) 3)) = 1 then (veillaw7_InstNames.j0 k (wrap64 (Int.tmod (IntKind.u64.wrap (a0)) 7)) (wrap64 (Int.tmod (IntKind.u64.wrap (a1)) 3)) (wrap64 (Int.tmod (IntKind.u64.wrap (a0)) 7)) 0 3 0) else (veillaw7_InstNames.j0 k (wrap64 (Int.tmod (IntKind.u64.wrap (a0)) 7)) (wrap64 (Int.tmod (IntKind.u64.wrap (a1)) 3)) (wrap64 (Int.tmod (IntKind.u64.wrap (a0)) 7)) 0 0 3))) else (some false))
theorem veillaw7_InstNames.mono_l : ∀ k, (∀ y0 y1 y2 y3 y4 y5, LeO (veillaw7_InstNames.j0 k y0 y1 y2 y3 y4 y5) (veillaw7_InstNames.j0 (k + 1) y0 y1 y2 y3 y4 y5)) ∧ (∀ y0 y1 y2 y3 y4 y5 y6 y7 y8, LeO (veillaw7_InstNames.l0 k y0 y1 y2 y3 y4 y5 y6 y7 y8) (veillaw7_InstNames.l0 (k + 1) y0 y1 y2 y3 y4 y5 y6 y7 y8))
  | 0 => ⟨fun _ _ _ _ _ _ r h => by simp [veillaw7_InstNames.j0] at h, fun _ _ _ _ _ _ _ _ _ r h => by simp [veillaw7_InstNames.l0] at h⟩
  | k + 1 => by
    obtain ⟨ih0, ih1⟩ := veillaw7_InstNames.mono_l k
    refine ⟨?_, ?_⟩
    · intro y0 y1 y2 y3 y4 y5
      unfold veillaw7_InstNames.j0
      repeat' first
      | (with_reducible exact ih0 _ _ _ _ _ _)
      | (with_reducible exact ih1 _ _ _ _ _ _ _ _ _)
      | (with_reducible exact inst_May.mono _ _ _ _ _)
      | (with_reducible exact veillaw7_awake.mono _)
      | (with_reducible exact LeO.refl _)
      | (with_reducible exact LeO.none _)
      | (with_reducible refine LeO.ite ?_ ?_)
      | (with_reducible refine LeO.bind ?_ (fun _ => ?_))
      | exact ih0 _ _ _ _ _ _
      | exact ih1 _ _ _ _ _ _ _ _ _
      | exact inst_May.mono _ _ _ _ _
      | exact veillaw7_awake.mono _
      | exact LeO.none _
      | refine LeO.ite ?_ ?_
      | refine LeO.bind ?_ (fun _ => ?_)
    · intro y0 y1 y2 y3 y4 y5 y6 y7 y8
      unfold veillaw7_InstNames.l0
      repeat' first
      | (with_reducible exact ih0 _ _ _ _ _ _)
      | (with_reducible exact ih1 _ _ _ _ _ _ _ _ _)
      | (with_reducible exact inst_May.mono _ _ _ _ _)
      | (with_reducible exact veillaw7_awake.mono _)
      | (with_reducible exact LeO.refl _)
      | (with_reducible exact LeO.none _)
      | (with_reducible refine LeO.ite ?_ ?_)
      | (with_reducible refine LeO.bind ?_ (fun _ => ?_))
      | exact ih0 _ _ _ _ _ _
      | exact ih1 _ _ _ _ _ _ _ _ _
      | exact inst_May.mono _ _ _ _ _
      | exact veillaw7_awake.mono _
      | exact LeO.none _
      | refine LeO.ite ?_ ?_
      | refine LeO.bind ?_ (fun _ => ?_)
theorem veillaw7_InstNames.mono : ∀ a0 a1 k, LeO (veillaw7_InstNames.f k a0 a1) (veillaw7_InstNames.f (k + 1) a0 a1) := by
  intro a0 a1 k
  obtain ⟨ih0, ih1⟩ := veillaw7_InstNames.mono_l k
  unfold veillaw7_InstNames.f
  repeat' first
      | (with_reducible exact ih0 _ _ _ _ _ _)
      | (with_reducible exact ih1 _ _ _ _ _ _ _ _ _)
      | (with_reducible exact inst_May.mono _ _ _ _ _)
      | (with_reducible exact veillaw7_awake.mono _)
      | (with_reducible exact LeO.refl _)
      | (with_reducible exact LeO.none _)
      | (with_reducible refine LeO.ite ?_ ?_)
      | (with_reducible refine LeO.bind ?_ (fun _ => ?_))
      | exact ih0 _ _ _ _ _ _
      | exact ih1 _ _ _ _ _ _ _ _ _
      | exact inst_May.mono _ _ _ _ _
      | exact veillaw7_awake.mono _
      | exact LeO.none _
      | refine LeO.ite ?_ ?_
      | refine LeO.bind ?_ (fun _ => ?_)
set_option maxHeartbeats 8000000 in
set_option maxRecDepth 100000 in
theorem veillaw7_InstNames.calls (k : Nat) (a0 : Int) (a1 : Int) (r : Bool) (w : World) (h : veillaw7_InstNames.f k a0 a1 = some r) :
    Calls Try.prog 6 #[.int .i64 a0, .int .i64 a1] w fun e w' => e = .returned (.bool r) ∧ Below w.heap.size w w' := by
  have hu23 := Try.underlying23
  have HB := Aside0.mk (Below.refl w.heap.size w)
  have H : ((veillaw7_awake.f k).bind fun t148 => (if t148 = true then (if (wrap64 (Int.tmod (IntKind.u64.wrap (a1)) 3)) = 0 then (veillaw7_InstNames.j0 k (wrap64 (Int.tmod (IntKind.u64.wrap (a0)) 7)) (wrap64 (Int.tmod (IntKind.u64.wrap (a1)) 3)) (wrap64 (Int.tmod (IntKind.u64.wrap (a0)) 7)) 3 0 0) else (if (wrap64 (Int.tmod (IntKind.u64.wrap (a1)) 3)) = 1 then (veillaw7_InstNames.j0 k (wrap64 (Int.tmod (IntKind.u64.wrap (a0)) 7)) (wrap64 (Int.tmod (IntKind.u64.wrap (a1)) 3)) (wrap64 (Int.tmod (IntKind.u64.wrap (a0)) 7)) 0 3 0) else (veillaw7_InstNames.j0 k (wrap64 (Int.tmod (IntKind.u64.wrap (a0)) 7)) (wrap64 (Int.tmod (IntKind.u64.wrap (a1)) 3)) (wrap64 (Int.tmod (IntKind.u64.wrap (a0)) 7)) 0 0 3))) else (some false))) = some r := h
  clear h
  replace H := Option.bind_eq_some_iff.mp H
  obtain ⟨t148, A30, H⟩ := H
  replace H : (if t148 = true then (if (wrap64 (Int.tmod (IntKind.u64.wrap (a1)) 3)) = 0 then (veillaw7_InstNames.j0 k (wrap64 (Int.tmod (IntKind.u64.wrap (a0)) 7)) (wrap64 (Int.tmod (IntKind.u64.wrap (a1)) 3)) (wrap64 (Int.tmod (IntKind.u64.wrap (a0)) 7)) 3 0 0) else (if (wrap64 (Int.tmod (IntKind.u64.wrap (a1)) 3)) = 1 then (veillaw7_InstNames.j0 k (wrap64 (Int.tmod (IntKind.u64.wrap (a0)) 7)) (wrap64 (Int.tmod (IntKind.u64.wrap (a1)) 3)) (wrap64 (Int.tmod (IntKind.u64.wrap (a0)) 7)) 0 3 0) else (veillaw7_InstNames.j0 k (wrap64 (Int.tmod (IntKind.u64.wrap (a0)) 7)) (wrap64 (Int.tmod (IntKind.u64.wrap (a1)) 3)) (wrap64 (Int.tmod (IntKind.u64.wrap (a0)) 7)) 0 0 3))) else (some false)) = some r := H
  have A3 := Aside0.mk A30
  clear A30
  by_cases c4 : t148 = true
  · subst c4
    have H1 : (if (wrap64 (Int.tmod (IntKind.u64.wrap (a1)) 3)) = 0 then (veillaw7_InstNames.j0 k (wrap64 (Int.tmod (IntKind.u64.wrap (a0)) 7)) (wrap64 (Int.tmod (IntKind.u64.wrap (a1)) 3)) (wrap64 (Int.tmod (IntKind.u64.wrap (a0)) 7)) 3 0 0) else (if (wrap64 (Int.tmod (IntKind.u64.wrap (a1)) 3)) = 1 then (veillaw7_InstNames.j0 k (wrap64 (Int.tmod (IntKind.u64.wrap (a0)) 7)) (wrap64 (Int.tmod (IntKind.u64.wrap (a1)) 3)) (wrap64 (Int.tmod (IntKind.u64.wrap (a0)) 7)) 0 3 0) else (veillaw7_InstNames.j0 k (wrap64 (Int.tmod (IntKind.u64.wrap (a0)) 7)) (wrap64 (Int.tmod (IntKind.u64.wrap (a1)) 3)) (wrap64 (Int.tmod (IntKind.u64.wrap (a0)) 7)) 0 0 3))) = some r := by rw [if_pos rfl] at H; exact H
    clear H
    have H := H1
    clear H1
    have HC5 := Aside0.mk H
    clear H
    go_enter Try.func6, Try.ntmps6
    go_upto_block 0 with (first | ((with_reducible refine gate_callee (f := 23) rfl ?_); refine goesL_ (some 11) rfl rfl Try.func23 (by kernel_rfl) rfl #[] rfl (by (try simp only [List.map_toArray, List.map_cons, List.map_nil]); first | done | rfl | (simp only [List.length_drop, List.length_take]; rfl)) ?_; (with_reducible refine (veillaw7_awake.calls k  true _ A3.out).mono ?_); rintro e w6 ⟨rfl, hb⟩; refine ⟨_, rfl, ?_⟩; have n0_ := Aside0.mk (below_step (by repeat (first | (with_reducible first | exact HB.out | apply below_alloc | apply pw_below_drewN | apply below_drew1) | exact HB.out)) hb); clear HB; have HB := n0_; clear n0_; (try clear hb); (try clear hb2); (try clear hk); (try clear hi)) | ((with_reducible refine gate_dst (N := 7) rfl ?_); refine box_event ?hg (N := 7) ?hd (cs := #[.int .i64 0, .int .i64 0, .int .i64 0, .int .i64 0]) (t := 23) ?hr ?_; (case hd => rfl); (case hg => rfl); (case hr => first | (go_simp; done) | (go_simp; rfl)); intro gb149 hg w7 hbox hb; have n0_ := Aside0.mk (below_step (by repeat (first | (with_reducible first | exact HB.out | apply below_alloc | apply pw_below_drewN | apply below_drew1) | exact HB.out)) hb); have n1_ := Aside0.mk (hbox); have n2_ := Aside0.mk ((by rw [hg]; exact (below_size (by repeat (first | (with_reducible first | exact HB.out | apply below_alloc | apply pw_below_drewN | apply below_drew1) | exact HB.out))) : w.heap.size ≤ gb149)); have n3_ := Aside0.mk ((by rw [hg]; exact (below_size (by repeat (first | (with_reducible first | exact HB.out | apply below_alloc | apply pw_below_drewN | apply below_drew1) | exact HB.out))) : w.heap.size ≤ gb149)); clear HB; have HB := n0_; have BK149 := n1_; have GW149 := n2_; have GE149 := n3_; clear n0_ n1_ n2_ n3_; clear hb hbox hg; have hcz8_0 : w7.cell? ⟨gb149, 0, none⟩ = some (.int .i64 0) := (blk_cell BK149.out 0).trans rfl; have hcz8_1 : w7.cell? ⟨gb149, 1, none⟩ = some (.int .i64 0) := (blk_cell BK149.out 1).trans rfl; have hcz8_2 : w7.cell? ⟨gb149, 2, none⟩ = some (.int .i64 0) := (blk_cell BK149.out 2).trans rfl; have hcz8_3 : w7.cell? ⟨gb149, 3, none⟩ = some (.int .i64 0) := (blk_cell BK149.out 3).trans rfl; have hfz8_0 := blk_frozen BK149.out 0; have hfz8_1 := blk_frozen BK149.out 1; have hfz8_2 := blk_frozen BK149.out 2; have hfz8_3 := blk_frozen BK149.out 3))
    (try simp only [Act.put, List.setIfInBounds_toArray, List.set_cons_zero, List.set_cons_succ])
    go_cut [] (fun wc => ∃ (kq : Nat) (x150001_4 : Int) (x150002_4 : Int) (x150003_4 : Int), Aside0 (veillaw7_InstNames.j0 kq (wrap64 (Int.tmod (IntKind.u64.wrap (a0)) 7)) (wrap64 (Int.tmod (IntKind.u64.wrap (a1)) 3)) (wrap64 (Int.tmod (IntKind.u64.wrap (a0)) 7)) x150001_4 x150002_4 x150003_4 = some r) ∧ Aside0 (kq ≤ k) ∧ Aside0 (wc.heap[gb149]? = some (.cells #[.int .i64 (wrap64 (Int.tmod (IntKind.u64.wrap (a0)) 7)), .int .i64 x150001_4, .int .i64 x150002_4, .int .i64 x150003_4] 23 (0, 0))) ∧ Aside0 (Below w.heap.size w wc))
    case first =>
      have H := HC5.out
      clear HC5
      by_cases c9 : (wrap64 (Int.tmod (IntKind.u64.wrap (a1)) 3)) = 0
      · rw [if_pos c9] at H
        have c9b0 : ((wrap64 (Int.tmod (IntKind.u64.wrap (a1)) 3)) == 0) = true := beq_iff_eq.mpr c9
        have c9b1 : ((wrap64 (Int.tmod (IntKind.u64.wrap (a1)) 3)) != 0) = false := bne_eq_false_iff_eq.mpr c9
        clear c9
        (first | rw [c9b0] | (simp only [i64_w, i32_w]; rw [c9b0]) | skip)
        have H' := Aside0.mk H
        clear H
        have hcz10_0 : w7.cell? ⟨gb149, 0, none⟩ = some (.int .i64 0) := (blk_cell BK149.out 0).trans rfl
        have hcz10_1 : w7.cell? ⟨gb149, 1, none⟩ = some (.int .i64 0) := (blk_cell BK149.out 1).trans rfl
        have hcz10_2 : w7.cell? ⟨gb149, 2, none⟩ = some (.int .i64 0) := (blk_cell BK149.out 2).trans rfl
        have hcz10_3 : w7.cell? ⟨gb149, 3, none⟩ = some (.int .i64 0) := (blk_cell BK149.out 3).trans rfl
        have hfz10_0 := blk_frozen BK149.out 0
        have hfz10_1 := blk_frozen BK149.out 1
        have hfz10_2 := blk_frozen BK149.out 2
        have hfz10_3 := blk_frozen BK149.out 3
        go_wp2
        go_meet
        case rel => exact ⟨_, (3), (0), (0), H', ⟨by first | omega | exact Nat.le_refl _⟩, ⟨by (with_reducible repeat (first | refine blk_drewN ?_ _ | refine blk_drew ?_ | refine blk_alloc ?_ _)); refine blk_put (cs := #[.int .i64 (wrap64 (Int.tmod (IntKind.u64.wrap (a0)) 7)), .int .i64 0, .int .i64 0, .int .i64 0]) ?_ 1 _ rfl; (with_reducible repeat (first | refine blk_drewN ?_ _ | refine blk_drew ?_ | refine blk_alloc ?_ _)); refine blk_put (cs := #[.int .i64 (wrap64 (Int.tmod (IntKind.u64.wrap (a0)) 7)), .int .i64 0, .int .i64 0, .int .i64 0]) ?_ 3 _ rfl; (with_reducible repeat (first | refine blk_drewN ?_ _ | refine blk_drew ?_ | refine blk_alloc ?_ _)); refine blk_put (cs := #[.int .i64 (wrap64 (Int.tmod (IntKind.u64.wrap (a0)) 7)), .int .i64 0, .int .i64 0, .int .i64 0]) ?_ 2 _ rfl; (with_reducible repeat (first | refine blk_drewN ?_ _ | refine blk_drew ?_ | refine blk_alloc ?_ _)); refine blk_put (cs := #[.int .i64 (wrap64 (Int.tmod (IntKind.u64.wrap (a0)) 7)), .int .i64 0, .int .i64 0, .int .i64 0]) ?_ 1 _ rfl; (with_reducible repeat (first | refine blk_drewN ?_ _ | refine blk_drew ?_ | refine blk_alloc ?_ _)); refine blk_put (cs := #[.int .i64 0, .int .i64 0, .int .i64 0, .int .i64 0]) ?_ 0 _ rfl; (with_reducible repeat (first | refine blk_drewN ?_ _ | refine blk_drew ?_ | refine blk_alloc ?_ _)); exact BK149.out⟩, ⟨by repeat (first | (with_reducible first | exact HB.out | apply below_alloc | apply pw_below_drewN | apply below_drew1 | refine below_set ?_ GE149.out) | exact HB.out)⟩⟩
      · rw [if_neg c9] at H
        have c9b0 : ((wrap64 (Int.tmod (IntKind.u64.wrap (a1)) 3)) == 0) = false := beq_eq_false_iff_ne.mpr c9
        have c9b1 : ((wrap64 (Int.tmod (IntKind.u64.wrap (a1)) 3)) != 0) = true := bne_iff_ne.mpr c9
        (first | rw [c9b0] | (simp only [i64_w, i32_w]; rw [c9b0]) | skip)
        by_cases c11 : (wrap64 (Int.tmod (IntKind.u64.wrap (a1)) 3)) = 1
        · rw [if_pos c11] at H
          have c11b0 : ((wrap64 (Int.tmod (IntKind.u64.wrap (a1)) 3)) == 1) = true := beq_iff_eq.mpr c11
          have c11b1 : ((wrap64 (Int.tmod (IntKind.u64.wrap (a1)) 3)) != 1) = false := bne_eq_false_iff_eq.mpr c11
          clear c11
          have H' := Aside0.mk H
          clear H
          have hcz12_0 : w7.cell? ⟨gb149, 0, none⟩ = some (.int .i64 0) := (blk_cell BK149.out 0).trans rfl
          have hcz12_1 : w7.cell? ⟨gb149, 1, none⟩ = some (.int .i64 0) := (blk_cell BK149.out 1).trans rfl
          have hcz12_2 : w7.cell? ⟨gb149, 2, none⟩ = some (.int .i64 0) := (blk_cell BK149.out 2).trans rfl
          have hcz12_3 : w7.cell? ⟨gb149, 3, none⟩ = some (.int .i64 0) := (blk_cell BK149.out 3).trans rfl
          have hfz12_0 := blk_frozen BK149.out 0
          have hfz12_1 := blk_frozen BK149.out 1
          have hfz12_2 := blk_frozen BK149.out 2
          have hfz12_3 := blk_frozen BK149.out 3
          go_wp2
          go_meet
          case rel => exact ⟨_, (0), (3), (0), H', ⟨by first | omega | exact Nat.le_refl _⟩, ⟨by (with_reducible repeat (first | refine blk_drewN ?_ _ | refine blk_drew ?_ | refine blk_alloc ?_ _)); refine blk_put (cs := #[.int .i64 (wrap64 (Int.tmod (IntKind.u64.wrap (a0)) 7)), .int .i64 0, .int .i64 0, .int .i64 0]) ?_ 2 _ rfl; (with_reducible repeat (first | refine blk_drewN ?_ _ | refine blk_drew ?_ | refine blk_alloc ?_ _)); refine blk_put (cs := #[.int .i64 (wrap64 (Int.tmod (IntKind.u64.wrap (a0)) 7)), .int .i64 0, .int .i64 0, .int .i64 0]) ?_ 3 _ rfl; (with_reducible repeat (first | refine blk_drewN ?_ _ | refine blk_drew ?_ | refine blk_alloc ?_ _)); refine blk_put (cs := #[.int .i64 (wrap64 (Int.tmod (IntKind.u64.wrap (a0)) 7)), .int .i64 0, .int .i64 0, .int .i64 0]) ?_ 2 _ rfl; (with_reducible repeat (first | refine blk_drewN ?_ _ | refine blk_drew ?_ | refine blk_alloc ?_ _)); refine blk_put (cs := #[.int .i64 (wrap64 (Int.tmod (IntKind.u64.wrap (a0)) 7)), .int .i64 0, .int .i64 0, .int .i64 0]) ?_ 1 _ rfl; (with_reducible repeat (first | refine blk_drewN ?_ _ | refine blk_drew ?_ | refine blk_alloc ?_ _)); refine blk_put (cs := #[.int .i64 0, .int .i64 0, .int .i64 0, .int .i64 0]) ?_ 0 _ rfl; (with_reducible repeat (first | refine blk_drewN ?_ _ | refine blk_drew ?_ | refine blk_alloc ?_ _)); exact BK149.out⟩, ⟨by repeat (first | (with_reducible first | exact HB.out | apply below_alloc | apply pw_below_drewN | apply below_drew1 | refine below_set ?_ GE149.out) | exact HB.out)⟩⟩
        · rw [if_neg c11] at H
          have c11b0 : ((wrap64 (Int.tmod (IntKind.u64.wrap (a1)) 3)) == 1) = false := beq_eq_false_iff_ne.mpr c11
          have c11b1 : ((wrap64 (Int.tmod (IntKind.u64.wrap (a1)) 3)) != 1) = true := bne_iff_ne.mpr c11
          have H' := Aside0.mk H
          clear H
          have hcz13_0 : w7.cell? ⟨gb149, 0, none⟩ = some (.int .i64 0) := (blk_cell BK149.out 0).trans rfl
          have hcz13_1 : w7.cell? ⟨gb149, 1, none⟩ = some (.int .i64 0) := (blk_cell BK149.out 1).trans rfl
          have hcz13_2 : w7.cell? ⟨gb149, 2, none⟩ = some (.int .i64 0) := (blk_cell BK149.out 2).trans rfl
          have hcz13_3 : w7.cell? ⟨gb149, 3, none⟩ = some (.int .i64 0) := (blk_cell BK149.out 3).trans rfl
          have hfz13_0 := blk_frozen BK149.out 0
          have hfz13_1 := blk_frozen BK149.out 1
          have hfz13_2 := blk_frozen BK149.out 2
          have hfz13_3 := blk_frozen BK149.out 3
          go_wp2
          go_meet
          case rel => exact ⟨_, (0), (0), (3), H', ⟨by first | omega | exact Nat.le_refl _⟩, ⟨by (with_reducible repeat (first | refine blk_drewN ?_ _ | refine blk_drew ?_ | refine blk_alloc ?_ _)); refine blk_put (cs := #[.int .i64 (wrap64 (Int.tmod (IntKind.u64.wrap (a0)) 7)), .int .i64 0, .int .i64 0, .int .i64 0]) ?_ 3 _ rfl; (with_reducible repeat (first | refine blk_drewN ?_ _ | refine blk_drew ?_ | refine blk_alloc ?_ _)); refine blk_put (cs := #[.int .i64 (wrap64 (Int.tmod (IntKind.u64.wrap (a0)) 7)), .int .i64 0, .int .i64 0, .int .i64 0]) ?_ 3 _ rfl; (with_reducible repeat (first | refine blk_drewN ?_ _ | refine blk_drew ?_ | refine blk_alloc ?_ _)); refine blk_put (cs := #[.int .i64 (wrap64 (Int.tmod (IntKind.u64.wrap (a0)) 7)), .int .i64 0, .int .i64 0, .int .i64 0]) ?_ 2 _ rfl; (with_reducible repeat (first | refine blk_drewN ?_ _ | refine blk_drew ?_ | refine blk_alloc ?_ _)); refine blk_put (cs := #[.int .i64 (wrap64 (Int.tmod (IntKind.u64.wrap (a0)) 7)), .int .i64 0, .int .i64 0, .int .i64 0]) ?_ 1 _ rfl; (with_reducible repeat (first | refine blk_drewN ?_ _ | refine blk_drew ?_ | refine blk_alloc ?_ _)); refine blk_put (cs := #[.int .i64 0, .int .i64 0, .int .i64 0, .int .i64 0]) ?_ 0 _ rfl; (with_reducible repeat (first | refine blk_drewN ?_ _ | refine blk_drew ?_ | refine blk_alloc ?_ _)); exact BK149.out⟩, ⟨by repeat (first | (with_reducible first | exact HB.out | apply below_alloc | apply pw_below_drewN | apply below_drew1 | refine below_set ?_ GE149.out) | exact HB.out)⟩⟩
    case rest =>
      clear HC5
      try clear c1
      try clear c2
      try clear p2
      try clear c4
      try clear c6
      try clear p6
      try clear c9
      try clear c9b0
      try clear c9b1
      try clear c11
      try clear c11b0
      try clear c11b1
      try clear hcz10_0
      try clear hcz10_1
      try clear hcz10_2
      try clear hcz10_3
      try clear hcz12_0
      try clear hcz12_1
      try clear hcz12_2
      try clear hcz12_3
      try clear hcz13_0
      try clear hcz13_1
      try clear hcz13_2
      try clear hcz13_3
      try clear hcz8_0
      try clear hcz8_1
      try clear hcz8_2
      try clear hcz8_3
      try clear hfz10_0
      try clear hfz10_1
      try clear hfz10_2
      try clear hfz10_3
      try clear hfz12_0
      try clear hfz12_1
      try clear hfz12_2
      try clear hfz12_3
      try clear hfz13_0
      try clear hfz13_1
      try clear hfz13_2
      try clear hfz13_3
      try clear hfz8_0
      try clear hfz8_1
      try clear hfz8_2
      try clear hfz8_3
      obtain ⟨kq, x150001_4, x150002_4, x150003_4, HA, HJ4, BK149, HB⟩ := hcut
      cases kq with
      | zero => exact absurd HA.out (by simp [veillaw7_InstNames.j0])
      | succ kj4 =>
        have H := HA.out
        clear HA
        simp only [veillaw7_InstNames.j0] at H
        obtain ⟨y150, hy150⟩ : ∃ y_ : List ByteArray, y_ = (([(⟨#[97, 98]⟩ : ByteArray), (⟨#[97, 98]⟩ : ByteArray), (⟨#[97, 98, 99]⟩ : ByteArray), (⟨#[97, 98, 99]⟩ : ByteArray), (⟨#[97, 98]⟩ : ByteArray), (⟨#[]⟩ : ByteArray), (⟨#[97]⟩ : ByteArray)] : List ByteArray)) := ⟨_, rfl⟩
        replace H : (veillaw7_InstNames.l0 kj4 (wrap64 (Int.tmod (IntKind.u64.wrap (a0)) 7)) (wrap64 (Int.tmod (IntKind.u64.wrap (a1)) 3)) y150 false 0 (wrap64 (Int.tmod (IntKind.u64.wrap (a0)) 7)) x150001_4 x150002_4 x150003_4) = some r := by first | (rw [hy150]; with_reducible exact H) | (have H2_ := (Option.bind_some _ _).symm.trans H; rw [hy150]; with_reducible exact H2_) | (have H2_ := (Option.bind_some _ _).symm.trans H; with_reducible exact H2_) | with_reducible exact H | (rw [hy150]; exact H) | exact H
        have Ny150 := Aside0.mk hy150
        clear hy150
        have H' := Aside0.mk H
        clear H
        go_wp2_with (first | ((with_reducible refine gate_dst (N := 31) rfl ?_); refine Kd.R_lit Kd.string _ 9 ?hg (N := 31) ?hd (xs := ([(⟨#[97, 98]⟩ : ByteArray), (⟨#[97, 98]⟩ : ByteArray), (⟨#[97, 98, 99]⟩ : ByteArray), (⟨#[97, 98, 99]⟩ : ByteArray), (⟨#[97, 98]⟩ : ByteArray), (⟨#[]⟩ : ByteArray), (⟨#[97]⟩ : ByteArray)] : List ByteArray)) (inner := [.string (⟨#[97, 98]⟩ : ByteArray), .string (⟨#[97, 98]⟩ : ByteArray), .string (⟨#[97, 98, 99]⟩ : ByteArray), .string (⟨#[97, 98, 99]⟩ : ByteArray), .string (⟨#[97, 98]⟩ : ByteArray), .string (⟨#[]⟩ : ByteArray), .string (⟨#[97]⟩ : ByteArray)]) (ok := fun _ => True) (okp := fun _ => True) ?hr ?hp (fun _ hk => hk) trivial (Below.refl _ _) (Nat.le_refl _) (by simp) ?_; (case hd => rfl); (case hg => rfl); (case hr => first | (go_simp; done) | (go_simp; rfl)); (case hp => exact (Reps.one (show Kd.M Kd.string _ _ _ (⟨#[97, 98]⟩ : ByteArray) [.string (⟨#[97, 98]⟩ : ByteArray)] from rfl) (Reps.one (show Kd.M Kd.string _ _ _ (⟨#[97, 98]⟩ : ByteArray) [.string (⟨#[97, 98]⟩ : ByteArray)] from rfl) (Reps.one (show Kd.M Kd.string _ _ _ (⟨#[97, 98, 99]⟩ : ByteArray) [.string (⟨#[97, 98, 99]⟩ : ByteArray)] from rfl) (Reps.one (show Kd.M Kd.string _ _ _ (⟨#[97, 98, 99]⟩ : ByteArray) [.string (⟨#[97, 98, 99]⟩ : ByteArray)] from rfl) (Reps.one (show Kd.M Kd.string _ _ _ (⟨#[97, 98]⟩ : ByteArray) [.string (⟨#[97, 98]⟩ : ByteArray)] from rfl) (Reps.one (show Kd.M Kd.string _ _ _ (⟨#[]⟩ : ByteArray) [.string (⟨#[]⟩ : ByteArray)] from rfl) (Reps.one (show Kd.M Kd.string _ _ _ (⟨#[97]⟩ : ByteArray) [.string (⟨#[97]⟩ : ByteArray)] from rfl) (Reps.none _ _))))))))); intro v151 w14 ho15 hb hg_ hnew_; clear hg_ hnew_; (first | rw [← Ny150.out] at ho15 | (simp only [Int.reduceToNat] at ho15; rw [← Ny150.out] at ho15)); have n0_ := Aside0.mk (Kd.R_lower ho15 (below_size (by repeat (first | (with_reducible first | exact HB.out | apply below_alloc | apply pw_below_drewN | apply below_drew1 | refine below_set ?_ GE149.out) | exact HB.out)))); have n1_ := Aside0.mk (blk_below (g := gb149) (o := .cells #[.int .i64 (wrap64 (Int.tmod (IntKind.u64.wrap (a0)) 7)), .int .i64 x150001_4, .int .i64 x150002_4, .int .i64 x150003_4] 23 (0, 0)) (by (with_reducible repeat (first | refine blk_drewN ?_ _ | refine blk_drew ?_ | refine blk_alloc ?_ _)); exact BK149.out) hb); have n2_ := Aside0.mk (below_step (by repeat (first | (with_reducible first | exact HB.out | apply below_alloc | apply pw_below_drewN | apply below_drew1 | refine below_set ?_ GE149.out) | exact HB.out)) hb); clear BK149; clear HB; have HO152 := n0_; have BK149 := n1_; have HB := n2_; clear n0_ n1_ n2_; clear hb ho15))
        go_loopg [9, 10] kj4 (fun kq v9 v10 w' => ∃ (x9_2 : Bool) (x10_2 : Int), v9 = .bool x9_2 ∧ v10 = .int .i64 x10_2 ∧ Aside0 (veillaw7_InstNames.l0 kq (wrap64 (Int.tmod (IntKind.u64.wrap (a0)) 7)) (wrap64 (Int.tmod (IntKind.u64.wrap (a1)) 3)) y150 x9_2 x10_2 (wrap64 (Int.tmod (IntKind.u64.wrap (a0)) 7)) x150001_4 x150002_4 x150003_4 = some r) ∧ Aside0 (kq ≤ kj4) ∧ Aside0 (Kd.R Kd.string 9 w' w.heap.size (fun _ => True) v151 y150) ∧ Aside0 (w'.heap[gb149]? = some (.cells #[.int .i64 (wrap64 (Int.tmod (IntKind.u64.wrap (a0)) 7)), .int .i64 x150001_4, .int .i64 x150002_4, .int .i64 x150003_4] 23 (0, 0))) ∧ Aside0 (Below w.heap.size w w'))
        case atStart => exact ⟨(false), (0), (by first | rfl | (simp; done) | (simp [*]; done)), (by first | rfl | (simp; done) | (simp [*]; done)), H', ⟨Nat.le_refl _⟩, ⟨by (with_reducible repeat (first | apply Kd.R_alloc | apply Kd.R_drewN | apply Kd.R_drew)); exact HO152.out⟩, ⟨by (with_reducible repeat (first | refine blk_drewN ?_ _ | refine blk_drew ?_ | refine blk_alloc ?_ _)); exact BK149.out⟩, ⟨by repeat (first | (with_reducible first | exact HB.out | apply below_alloc | apply pw_below_drewN | apply below_drew1 | refine below_set ?_ GE149.out) | exact HB.out)⟩⟩
        case round =>
          clear H'
          try clear c1
          try clear c2
          try clear p2
          try clear c4
          try clear c6
          try clear p6
          try clear c9
          try clear c9b0
          try clear c9b1
          try clear c11
          try clear c11b0
          try clear c11b1
          try clear hcz10_0
          try clear hcz10_1
          try clear hcz10_2
          try clear hcz10_3
          try clear hcz12_0
          try clear hcz12_1
          try clear hcz12_2
          try clear hcz12_3
          try clear hcz13_0
          try clear hcz13_1
          try clear hcz13_2
          try clear hcz13_3
          try clear hcz8_0
          try clear hcz8_1
          try clear hcz8_2
          try clear hcz8_3
          try clear hfz10_0
          try clear hfz10_1
          try clear hfz10_2
          try clear hfz10_3
          try clear hfz12_0
          try clear hfz12_1
          try clear hfz12_2
          try clear hfz12_3
          try clear hfz13_0
          try clear hfz13_1
          try clear hfz13_2
          try clear hfz13_3
          try clear hfz8_0
          try clear hfz8_1
          try clear hfz8_2
          try clear hfz8_3
          try clear p2
          try clear p6
          obtain ⟨x9_2, x10_2, rfl, rfl, HA, HK2, HO_8, BK149, HB⟩ := hrel
          cases gk with
          | zero => exact absurd HA.out (by simp [veillaw7_InstNames.l0])
          | succ k2 =>
            have H := HA.out
            clear HA
            simp only [veillaw7_InstNames.l0] at H
            have hji16 : True := trivial
            replace H : (if 0 ≤ ((wrap64 (Int.tmod (IntKind.u64.wrap (a0)) 7))) then (if ((wrap64 (Int.tmod (IntKind.u64.wrap (a0)) 7))) < (y150.length : Int) then (if x10_2 < ((rdOf ByteArray.empty y150 ((wrap64 (Int.tmod (IntKind.u64.wrap (a0)) 7)))).size : Int) then (if x9_2 = true then (veillaw7_InstNames.l0 k2 ((wrap64 (Int.tmod (IntKind.u64.wrap (a0)) 7))) (wrap64 (Int.tmod (IntKind.u64.wrap (a1)) 3)) y150 true (wrap64 (x10_2 + 1)) ((wrap64 (Int.tmod (IntKind.u64.wrap (a0)) 7))) x150001_4 x150002_4 x150003_4) else (if 0 ≤ x10_2 then (veillaw7_InstNames.l0 k2 ((wrap64 (Int.tmod (IntKind.u64.wrap (a0)) 7))) (wrap64 (Int.tmod (IntKind.u64.wrap (a1)) 3)) y150 ((((bt (rdOf ByteArray.empty y150 ((wrap64 (Int.tmod (IntKind.u64.wrap (a0)) 7)))) x10_2) - 97) % 256) == (wrap64 (Int.tmod (IntKind.u64.wrap (a1)) 3))) (wrap64 (x10_2 + 1)) ((wrap64 (Int.tmod (IntKind.u64.wrap (a0)) 7))) x150001_4 x150002_4 x150003_4) else (none))) else ((inst_May.f k2 ((wrap64 (Int.tmod (IntKind.u64.wrap (a0)) 7))) x150001_4 x150002_4 x150003_4).bind fun t155 => (if (t155 == x9_2) = true then ((inst_May.f k2 ((wrap64 (Int.tmod (IntKind.u64.wrap (a0)) 7))) 0 0 0).bind fun t156 => (if t156 = true then ((veillaw0_Num.f 0).bind fun t157 => (some (t157 == 0))) else (some false))) else (some false)))) else (none)) else (none)) = some r := H
            have hji16w : (IntKind.i64.wrap (Int.tmod (IntKind.u64.wrap (a0)) 7)) = (wrap64 (Int.tmod (IntKind.u64.wrap (a0)) 7)) := i64_w _
            by_cases c17 : 0 ≤ ((wrap64 (Int.tmod (IntKind.u64.wrap (a0)) 7)))
            · rw [if_pos c17] at H
              have c17b0 : decide (0 ≤ ((wrap64 (Int.tmod (IntKind.u64.wrap (a0)) 7)))) = true := decide_eq_true c17
              clear c17
              by_cases c18 : ((wrap64 (Int.tmod (IntKind.u64.wrap (a0)) 7))) < (y150.length : Int)
              · rw [if_pos c18] at H
                have c18b0 : decide (((wrap64 (Int.tmod (IntKind.u64.wrap (a0)) 7))) < (y150.length : Int)) = true := decide_eq_true c18
                clear c18
                by_cases c19 : x10_2 < ((rdOf ByteArray.empty y150 ((wrap64 (Int.tmod (IntKind.u64.wrap (a0)) 7)))).size : Int)
                · rw [if_pos c19] at H
                  have c19b0 : decide (x10_2 < ((rdOf ByteArray.empty y150 ((wrap64 (Int.tmod (IntKind.u64.wrap (a0)) 7)))).size : Int)) = true := decide_eq_true c19
                  clear c19
                  by_cases c20 : x9_2 = true
                  · subst c20
                    have H1 : (veillaw7_InstNames.l0 k2 ((wrap64 (Int.tmod (IntKind.u64.wrap (a0)) 7))) (wrap64 (Int.tmod (IntKind.u64.wrap (a1)) 3)) y150 true (wrap64 (x10_2 + 1)) ((wrap64 (Int.tmod (IntKind.u64.wrap (a0)) 7))) x150001_4 x150002_4 x150003_4) = some r := by rw [if_pos rfl] at H; exact H
                    clear H
                    have H := H1
                    clear H1
                    have H' := Aside0.mk H
                    clear H
                    obtain ⟨Ao21, co21, eo21⟩ := Kd.R_slice HO_8.out
                    subst eo21
                    have p153 : 0 ≤ (((wrap64 (Int.tmod (IntKind.u64.wrap (a0)) 7))) : Int) := of_decide_eq_true (by first | (with_reducible assumption) | assumption)
                    have q153 : ((wrap64 (Int.tmod (IntKind.u64.wrap (a0)) 7))) < (y150.length : Int) := of_decide_eq_true (by first | (with_reducible assumption) | assumption)
                    obtain ⟨ad153, e153, hx153_0⟩ := Kd.at_string (Kd.R_reads' HO_8.out).2.2 ((wrap64 (Int.tmod (IntKind.u64.wrap (a0)) 7))) p153 q153
                    cases e153
                    replace p153 := eq_true p153
                    replace q153 := eq_true q153
                    go_wp2
                    go_roundg k2
                    case measure => have := HJ4.out; have := HK2.out; omega
                    case rel => exact ⟨(true), (wrap64 (x10_2 + 1)), (by first | rfl | (simp; done) | (simp [*]; done)), (by first | rfl | (simp; done) | (simp [*]; done)), H', ⟨by have := HJ4.out; have := HK2.out; omega⟩, ⟨by (with_reducible repeat (first | apply Kd.R_alloc | apply Kd.R_drewN | apply Kd.R_drew)); exact HO_8.out⟩, ⟨by (with_reducible repeat (first | refine blk_drewN ?_ _ | refine blk_drew ?_ | refine blk_alloc ?_ _)); exact BK149.out⟩, ⟨by repeat (first | (with_reducible first | exact HB.out | apply below_alloc | apply pw_below_drewN | apply below_drew1 | refine below_set ?_ GE149.out) | exact HB.out)⟩⟩
                  · replace c20 := Bool.eq_false_iff.mpr c20
                    subst c20
                    have H1 : (if 0 ≤ x10_2 then (veillaw7_InstNames.l0 k2 ((wrap64 (Int.tmod (IntKind.u64.wrap (a0)) 7))) (wrap64 (Int.tmod (IntKind.u64.wrap (a1)) 3)) y150 ((((bt (rdOf ByteArray.empty y150 ((wrap64 (Int.tmod (IntKind.u64.wrap (a0)) 7)))) x10_2) - 97) % 256) == (wrap64 (Int.tmod (IntKind.u64.wrap (a1)) 3))) (wrap64 (x10_2 + 1)) ((wrap64 (Int.tmod (IntKind.u64.wrap (a0)) 7))) x150001_4 x150002_4 x150003_4) else (none)) = some r := by rw [if_neg (show ¬ (false = true) by decide)] at H; exact H
                    clear H
                    have H := H1
                    clear H1
                    by_cases c22 : 0 ≤ x10_2
                    · rw [if_pos c22] at H
                      have c22b0 : decide (0 ≤ x10_2) = true := decide_eq_true c22
                      clear c22
                      have H' := Aside0.mk H
                      clear H
                      obtain ⟨Ao24, co24, eo24⟩ := Kd.R_slice HO_8.out
                      subst eo24
                      have p153 : 0 ≤ (((wrap64 (Int.tmod (IntKind.u64.wrap (a0)) 7))) : Int) := of_decide_eq_true (by first | (with_reducible assumption) | assumption)
                      have q153 : ((wrap64 (Int.tmod (IntKind.u64.wrap (a0)) 7))) < (y150.length : Int) := of_decide_eq_true (by first | (with_reducible assumption) | assumption)
                      obtain ⟨ad153, e153, hx153_0⟩ := Kd.at_string (Kd.R_reads' HO_8.out).2.2 ((wrap64 (Int.tmod (IntKind.u64.wrap (a0)) 7))) p153 q153
                      cases e153
                      replace p153 := eq_true p153
                      replace q153 := eq_true q153
                      have p154 : 0 ≤ (((wrap64 (Int.tmod (IntKind.u64.wrap (a0)) 7))) : Int) := of_decide_eq_true (by first | (with_reducible assumption) | assumption)
                      have q154 : ((wrap64 (Int.tmod (IntKind.u64.wrap (a0)) 7))) < (y150.length : Int) := of_decide_eq_true (by first | (with_reducible assumption) | assumption)
                      obtain ⟨ad154, e154, hx154_0⟩ := Kd.at_string (Kd.R_reads' HO_8.out).2.2 ((wrap64 (Int.tmod (IntKind.u64.wrap (a0)) 7))) p154 q154
                      obtain rfl : ad153 = ad154 := (by injection e154)
                      replace p154 := eq_true p154
                      replace q154 := eq_true q154
                      have p23 : 0 ≤ (x10_2 : Int) := of_decide_eq_true (by first | (with_reducible assumption) | assumption)
                      have q23 : x10_2 < ((rdOf ByteArray.empty y150 ((wrap64 (Int.tmod (IntKind.u64.wrap (a0)) 7)))).size : Int) := of_decide_eq_true (by first | (with_reducible assumption) | assumption)
                      have hx23 := bt_at (rdOf ByteArray.empty y150 ((wrap64 (Int.tmod (IntKind.u64.wrap (a0)) 7)))) x10_2
                      replace p23 := eq_true p23
                      replace q23 := eq_true q23
                      go_wp2
                      go_roundg k2
                      case measure => have := HJ4.out; have := HK2.out; omega
                      case rel => exact ⟨(((((bt (rdOf ByteArray.empty y150 ((wrap64 (Int.tmod (IntKind.u64.wrap (a0)) 7)))) x10_2) - 97) % 256) == (wrap64 (Int.tmod (IntKind.u64.wrap (a1)) 3)))), (wrap64 (x10_2 + 1)), (by first | rfl | (simp; done) | (simp; done) | (simp [*]; done)), (by first | rfl | (simp; done) | (simp [*]; done)), H', ⟨by have := HJ4.out; have := HK2.out; omega⟩, ⟨by (with_reducible repeat (first | apply Kd.R_alloc | apply Kd.R_drewN | apply Kd.R_drew)); exact HO_8.out⟩, ⟨by (with_reducible repeat (first | refine blk_drewN ?_ _ | refine blk_drew ?_ | refine blk_alloc ?_ _)); exact BK149.out⟩, ⟨by repeat (first | (with_reducible first | exact HB.out | apply below_alloc | apply pw_below_drewN | apply below_drew1 | refine below_set ?_ GE149.out) | exact HB.out)⟩⟩
                    · rw [if_neg c22] at H
                      exact absurd H (by simp)
                · rw [if_neg c19] at H
                  have c19b0 : decide (x10_2 < ((rdOf ByteArray.empty y150 ((wrap64 (Int.tmod (IntKind.u64.wrap (a0)) 7)))).size : Int)) = false := decide_eq_false c19
                  clear c19
                  replace H := Option.bind_eq_some_iff.mp H
                  obtain ⟨t155, A250, H⟩ := H
                  replace H : (if (t155 == x9_2) = true then ((inst_May.f k2 ((wrap64 (Int.tmod (IntKind.u64.wrap (a0)) 7))) 0 0 0).bind fun t156 => (if t156 = true then ((veillaw0_Num.f 0).bind fun t157 => (some (t157 == 0))) else (some false))) else (some false)) = some r := H
                  have A25 := Aside0.mk A250
                  clear A250
                  by_cases c26 : (t155 == x9_2) = true
                  · rw [if_pos c26] at H
                    have c26b0 : (t155 == x9_2) = true := c26
                    (try (have c26b1 : decide (t155 = x9_2) = true := by simpa using c26))
                    (try (have c26b2 : (t155 == x9_2) = true := by simpa using c26))
                    clear c26
                    replace H := Option.bind_eq_some_iff.mp H
                    obtain ⟨t156, A270, H⟩ := H
                    replace H : (if t156 = true then ((veillaw0_Num.f 0).bind fun t157 => (some (t157 == 0))) else (some false)) = some r := H
                    have A27 := Aside0.mk A270
                    clear A270
                    by_cases c28 : t156 = true
                    · subst c28
                      have H1 : ((veillaw0_Num.f 0).bind fun t157 => (some (t157 == 0))) = some r := by rw [if_pos rfl] at H; exact H
                      clear H
                      have H := H1
                      clear H1
                      replace H := Option.bind_eq_some_iff.mp H
                      obtain ⟨t157, A290, H⟩ := H
                      replace H : (some (t157 == 0)) = some r := H
                      have A29 := Aside0.mk A290
                      clear A290
                      obtain rfl := Option.some.inj H
                      obtain ⟨Ao30, co30, eo30⟩ := Kd.R_slice HO_8.out
                      subst eo30
                      have p153 : 0 ≤ (((wrap64 (Int.tmod (IntKind.u64.wrap (a0)) 7))) : Int) := of_decide_eq_true (by first | (with_reducible assumption) | assumption)
                      have q153 : ((wrap64 (Int.tmod (IntKind.u64.wrap (a0)) 7))) < (y150.length : Int) := of_decide_eq_true (by first | (with_reducible assumption) | assumption)
                      obtain ⟨ad153, e153, hx153_0⟩ := Kd.at_string (Kd.R_reads' HO_8.out).2.2 ((wrap64 (Int.tmod (IntKind.u64.wrap (a0)) 7))) p153 q153
                      cases e153
                      replace p153 := eq_true p153
                      replace q153 := eq_true q153
                      have hcz31_0 : wr.cell? ⟨gb149, 0, none⟩ = some (.int .i64 ((wrap64 (Int.tmod (IntKind.u64.wrap (a0)) 7)))) := (blk_cell BK149.out 0).trans rfl
                      have hcz31_1 : wr.cell? ⟨gb149, 1, none⟩ = some (.int .i64 x150001_4) := (blk_cell BK149.out 1).trans rfl
                      have hcz31_2 : wr.cell? ⟨gb149, 2, none⟩ = some (.int .i64 x150002_4) := (blk_cell BK149.out 2).trans rfl
                      have hcz31_3 : wr.cell? ⟨gb149, 3, none⟩ = some (.int .i64 x150003_4) := (blk_cell BK149.out 3).trans rfl
                      have hfz31_0 := blk_frozen BK149.out 0
                      have hfz31_1 := blk_frozen BK149.out 1
                      have hfz31_2 := blk_frozen BK149.out 2
                      have hfz31_3 := blk_frozen BK149.out 3
                      go_wp2_with (first | ((with_reducible refine gate_callee (f := 21) rfl ?_); refine goesL_ (some 55) rfl rfl Try.func21 (by kernel_rfl) rfl #[.agg #[.int .i64 ((wrap64 (Int.tmod (IntKind.u64.wrap (a0)) 7))), .int .i64 x150001_4, .int .i64 x150002_4, .int .i64 x150003_4]] rfl (by (try simp only [List.map_toArray, List.map_cons, List.map_nil]); first | done | (rfl) | rfl | (simp only [List.length_drop, List.length_take]; rfl)) ?_; (with_reducible refine (inst_May.calls k2 ((wrap64 (Int.tmod (IntKind.u64.wrap (a0)) 7))) x150001_4 x150002_4 x150003_4 t155 _ A25.out).mono ?_); rintro e w32 ⟨rfl, hb⟩; refine ⟨_, rfl, ?_⟩; have n0_ := Aside0.mk (Kd.R_below (by (with_reducible repeat (first | apply Kd.R_alloc | apply Kd.R_drewN | apply Kd.R_drew)); exact HO_8.out) hb); have n1_ := Aside0.mk (blk_below (g := gb149) (o := .cells #[.int .i64 ((wrap64 (Int.tmod (IntKind.u64.wrap (a0)) 7))), .int .i64 x150001_4, .int .i64 x150002_4, .int .i64 x150003_4] 23 (0, 0)) (by (with_reducible repeat (first | refine blk_drewN ?_ _ | refine blk_drew ?_ | refine blk_alloc ?_ _)); exact BK149.out) hb); have n2_ := Aside0.mk (below_step (by repeat (first | (with_reducible first | exact HB.out | apply below_alloc | apply pw_below_drewN | apply below_drew1 | refine below_set ?_ GE149.out) | exact HB.out)) hb); clear HO_8; clear BK149; clear HB; have HO_8 := n0_; have BK149 := n1_; have HB := n2_; clear n0_ n1_ n2_; (try clear hb); (try clear hb2); (try clear hk); (try clear hi)) | (go_at_call 21; (with_reducible refine (inst_May.calls k2 ((wrap64 (Int.tmod (IntKind.u64.wrap (a0)) 7))) 0 0 0 true _ A27.out).mono ?_); rintro e w33 ⟨rfl, hb⟩; have n0_ := Aside0.mk (Kd.R_below (by (with_reducible repeat (first | apply Kd.R_alloc | apply Kd.R_drewN | apply Kd.R_drew)); exact HO_8.out) hb); have n1_ := Aside0.mk (blk_below (g := gb149) (o := .cells #[.int .i64 ((wrap64 (Int.tmod (IntKind.u64.wrap (a0)) 7))), .int .i64 x150001_4, .int .i64 x150002_4, .int .i64 x150003_4] 23 (0, 0)) (by (with_reducible repeat (first | refine blk_drewN ?_ _ | refine blk_drew ?_ | refine blk_alloc ?_ _)); exact BK149.out) hb); have n2_ := Aside0.mk (below_step (by repeat (first | (with_reducible first | exact HB.out | apply below_alloc | apply pw_below_drewN | apply below_drew1 | refine below_set ?_ GE149.out) | exact HB.out)) hb); clear HO_8; clear BK149; clear HB; have HO_8 := n0_; have BK149 := n1_; have HB := n2_; clear n0_ n1_ n2_; (try clear hb); (try clear hb2); (try clear hk); (try clear hi)) | (go_at_call 20; (with_reducible refine (veillaw0_Num.calls 0 t157 _ A29.out).mono ?_); rintro e w' ⟨rfl, ⟨nd, rfl⟩⟩))
                      go_ret
                      exact ⟨by first | rfl | (simp [errW_none, errW_some] <;> rfl) | (simp only [← hji16]; first | rfl | (simp [errW_none, errW_some] <;> rfl)) | (simp [*, errW_none, errW_some] <;> rfl), by repeat (first | (with_reducible first | exact HB.out | apply below_alloc | apply pw_below_drewN | apply below_drew1 | refine below_set ?_ GE149.out) | exact HB.out)⟩
                    · replace c28 := Bool.eq_false_iff.mpr c28
                      subst c28
                      have H1 : (some false) = some r := by rw [if_neg (show ¬ (false = true) by decide)] at H; exact H
                      clear H
                      have H := H1
                      clear H1
                      obtain rfl := Option.some.inj H
                      obtain ⟨Ao34, co34, eo34⟩ := Kd.R_slice HO_8.out
                      subst eo34
                      have p153 : 0 ≤ (((wrap64 (Int.tmod (IntKind.u64.wrap (a0)) 7))) : Int) := of_decide_eq_true (by first | (with_reducible assumption) | assumption)
                      have q153 : ((wrap64 (Int.tmod (IntKind.u64.wrap (a0)) 7))) < (y150.length : Int) := of_decide_eq_true (by first | (with_reducible assumption) | assumption)
                      obtain ⟨ad153, e153, hx153_0⟩ := Kd.at_string (Kd.R_reads' HO_8.out).2.2 ((wrap64 (Int.tmod (IntKind.u64.wrap (a0)) 7))) p153 q153
                      cases e153
                      replace p153 := eq_true p153
                      replace q153 := eq_true q153
                      have hcz35_0 : wr.cell? ⟨gb149, 0, none⟩ = some (.int .i64 ((wrap64 (Int.tmod (IntKind.u64.wrap (a0)) 7)))) := (blk_cell BK149.out 0).trans rfl
                      have hcz35_1 : wr.cell? ⟨gb149, 1, none⟩ = some (.int .i64 x150001_4) := (blk_cell BK149.out 1).trans rfl
                      have hcz35_2 : wr.cell? ⟨gb149, 2, none⟩ = some (.int .i64 x150002_4) := (blk_cell BK149.out 2).trans rfl
                      have hcz35_3 : wr.cell? ⟨gb149, 3, none⟩ = some (.int .i64 x150003_4) := (blk_cell BK149.out 3).trans rfl
                      have hfz35_0 := blk_frozen BK149.out 0
                      have hfz35_1 := blk_frozen BK149.out 1
                      have hfz35_2 := blk_frozen BK149.out 2
                      have hfz35_3 := blk_frozen BK149.out 3
                      go_wp2_with (first | ((with_reducible refine gate_callee (f := 21) rfl ?_); refine goesL_ (some 55) rfl rfl Try.func21 (by kernel_rfl) rfl #[.agg #[.int .i64 ((wrap64 (Int.tmod (IntKind.u64.wrap (a0)) 7))), .int .i64 x150001_4, .int .i64 x150002_4, .int .i64 x150003_4]] rfl (by (try simp only [List.map_toArray, List.map_cons, List.map_nil]); first | done | (rfl) | rfl | (simp only [List.length_drop, List.length_take]; rfl)) ?_; (with_reducible refine (inst_May.calls k2 ((wrap64 (Int.tmod (IntKind.u64.wrap (a0)) 7))) x150001_4 x150002_4 x150003_4 t155 _ A25.out).mono ?_); rintro e w36 ⟨rfl, hb⟩; refine ⟨_, rfl, ?_⟩; have n0_ := Aside0.mk (Kd.R_below (by (with_reducible repeat (first | apply Kd.R_alloc | apply Kd.R_drewN | apply Kd.R_drew)); exact HO_8.out) hb); have n1_ := Aside0.mk (blk_below (g := gb149) (o := .cells #[.int .i64 ((wrap64 (Int.tmod (IntKind.u64.wrap (a0)) 7))), .int .i64 x150001_4, .int .i64 x150002_4, .int .i64 x150003_4] 23 (0, 0)) (by (with_reducible repeat (first | refine blk_drewN ?_ _ | refine blk_drew ?_ | refine blk_alloc ?_ _)); exact BK149.out) hb); have n2_ := Aside0.mk (below_step (by repeat (first | (with_reducible first | exact HB.out | apply below_alloc | apply pw_below_drewN | apply below_drew1 | refine below_set ?_ GE149.out) | exact HB.out)) hb); clear HO_8; clear BK149; clear HB; have HO_8 := n0_; have BK149 := n1_; have HB := n2_; clear n0_ n1_ n2_; (try clear hb); (try clear hb2); (try clear hk); (try clear hi)) | (go_at_call 21; (with_reducible refine (inst_May.calls k2 ((wrap64 (Int.tmod (IntKind.u64.wrap (a0)) 7))) 0 0 0 false _ A27.out).mono ?_); rintro e w37 ⟨rfl, hb⟩; have n0_ := Aside0.mk (Kd.R_below (by (with_reducible repeat (first | apply Kd.R_alloc | apply Kd.R_drewN | apply Kd.R_drew)); exact HO_8.out) hb); have n1_ := Aside0.mk (blk_below (g := gb149) (o := .cells #[.int .i64 ((wrap64 (Int.tmod (IntKind.u64.wrap (a0)) 7))), .int .i64 x150001_4, .int .i64 x150002_4, .int .i64 x150003_4] 23 (0, 0)) (by (with_reducible repeat (first | refine blk_drewN ?_ _ | refine blk_drew ?_ | refine blk_alloc ?_ _)); exact BK149.out) hb); have n2_ := Aside0.mk (below_step (by repeat (first | (with_reducible first | exact HB.out | apply below_alloc | apply pw_below_drewN | apply below_drew1 | refine below_set ?_ GE149.out) | exact HB.out)) hb); clear HO_8; clear BK149; clear HB; have HO_8 := n0_; have BK149 := n1_; have HB := n2_; clear n0_ n1_ n2_; (try clear hb); (try clear hb2); (try clear hk); (try clear hi)))
                      go_ret
                      exact ⟨by first | rfl | (simp [errW_none, errW_some] <;> rfl) | (simp only [← hji16]; first | rfl | (simp [errW_none, errW_some] <;> rfl)) | (simp [*, errW_none, errW_some] <;> rfl), by repeat (first | (with_reducible first | exact HB.out | apply below_alloc | apply pw_below_drewN | apply below_drew1 | refine below_set ?_ GE149.out) | exact HB.out)⟩
                  · rw [if_neg c26] at H
                    have c26b0 : (t155 == x9_2) = false := by simpa using c26
                    (try (have c26b1 : decide (t155 = x9_2) = false := by simpa using c26))
                    (try (have c26b2 : (t155 == x9_2) = false := by simpa using c26))
                    (try (have c26b3 : ¬ (t155 = x9_2) := by simpa using c26))
                    clear c26
                    obtain rfl := Option.some.inj H
                    obtain ⟨Ao38, co38, eo38⟩ := Kd.R_slice HO_8.out
                    subst eo38
                    have p153 : 0 ≤ (((wrap64 (Int.tmod (IntKind.u64.wrap (a0)) 7))) : Int) := of_decide_eq_true (by first | (with_reducible assumption) | assumption)
                    have q153 : ((wrap64 (Int.tmod (IntKind.u64.wrap (a0)) 7))) < (y150.length : Int) := of_decide_eq_true (by first | (with_reducible assumption) | assumption)
                    obtain ⟨ad153, e153, hx153_0⟩ := Kd.at_string (Kd.R_reads' HO_8.out).2.2 ((wrap64 (Int.tmod (IntKind.u64.wrap (a0)) 7))) p153 q153
                    cases e153
                    replace p153 := eq_true p153
                    replace q153 := eq_true q153
                    have hcz39_0 : wr.cell? ⟨gb149, 0, none⟩ = some (.int .i64 ((wrap64 (Int.tmod (IntKind.u64.wrap (a0)) 7)))) := (blk_cell BK149.out 0).trans rfl
                    have hcz39_1 : wr.cell? ⟨gb149, 1, none⟩ = some (.int .i64 x150001_4) := (blk_cell BK149.out 1).trans rfl
                    have hcz39_2 : wr.cell? ⟨gb149, 2, none⟩ = some (.int .i64 x150002_4) := (blk_cell BK149.out 2).trans rfl
                    have hcz39_3 : wr.cell? ⟨gb149, 3, none⟩ = some (.int .i64 x150003_4) := (blk_cell BK149.out 3).trans rfl
                    have hfz39_0 := blk_frozen BK149.out 0
                    have hfz39_1 := blk_frozen BK149.out 1
                    have hfz39_2 := blk_frozen BK149.out 2
                    have hfz39_3 := blk_frozen BK149.out 3
                    go_wp2_with (first | ((with_reducible refine gate_callee (f := 21) rfl ?_); refine goesL_ (some 55) rfl rfl Try.func21 (by kernel_rfl) rfl #[.agg #[.int .i64 ((wrap64 (Int.tmod (IntKind.u64.wrap (a0)) 7))), .int .i64 x150001_4, .int .i64 x150002_4, .int .i64 x150003_4]] rfl (by (try simp only [List.map_toArray, List.map_cons, List.map_nil]); first | done | (rfl) | rfl | (simp only [List.length_drop, List.length_take]; rfl)) ?_; (with_reducible refine (inst_May.calls k2 ((wrap64 (Int.tmod (IntKind.u64.wrap (a0)) 7))) x150001_4 x150002_4 x150003_4 t155 _ A25.out).mono ?_); rintro e w40 ⟨rfl, hb⟩; refine ⟨_, rfl, ?_⟩; have n0_ := Aside0.mk (Kd.R_below (by (with_reducible repeat (first | apply Kd.R_alloc | apply Kd.R_drewN | apply Kd.R_drew)); exact HO_8.out) hb); have n1_ := Aside0.mk (blk_below (g := gb149) (o := .cells #[.int .i64 ((wrap64 (Int.tmod (IntKind.u64.wrap (a0)) 7))), .int .i64 x150001_4, .int .i64 x150002_4, .int .i64 x150003_4] 23 (0, 0)) (by (with_reducible repeat (first | refine blk_drewN ?_ _ | refine blk_drew ?_ | refine blk_alloc ?_ _)); exact BK149.out) hb); have n2_ := Aside0.mk (below_step (by repeat (first | (with_reducible first | exact HB.out | apply below_alloc | apply pw_below_drewN | apply below_drew1 | refine below_set ?_ GE149.out) | exact HB.out)) hb); clear HO_8; clear BK149; clear HB; have HO_8 := n0_; have BK149 := n1_; have HB := n2_; clear n0_ n1_ n2_; (try clear hb); (try clear hb2); (try clear hk); (try clear hi)))
                    go_ret
                    exact ⟨by first | rfl | (simp [errW_none, errW_some] <;> rfl) | (simp only [← hji16]; first | rfl | (simp [errW_none, errW_some] <;> rfl)) | (simp [*, errW_none, errW_some] <;> rfl), by repeat (first | (with_reducible first | exact HB.out | apply below_alloc | apply pw_below_drewN | apply below_drew1 | refine below_set ?_ GE149.out) | exact HB.out)⟩
              · rw [if_neg c18] at H
                exact absurd H (by simp)
            · rw [if_neg c17] at H
              exact absurd H (by simp)
  · replace c4 := Bool.eq_false_iff.mpr c4
    subst c4
    have H1 : (some false) = some r := by rw [if_neg (show ¬ (false = true) by decide)] at H; exact H
    clear H
    have H := H1
    clear H1
    obtain rfl := Option.some.inj H
    go_enter Try.func6, Try.ntmps6
    go_wp2_with (first | ((with_reducible refine gate_callee (f := 23) rfl ?_); refine goesL_ (some 11) rfl rfl Try.func23 (by kernel_rfl) rfl #[] rfl (by (try simp only [List.map_toArray, List.map_cons, List.map_nil]); first | done | rfl | (simp only [List.length_drop, List.length_take]; rfl)) ?_; (with_reducible refine (veillaw7_awake.calls k  false _ A3.out).mono ?_); rintro e w41 ⟨rfl, hb⟩; refine ⟨_, rfl, ?_⟩; have n0_ := Aside0.mk (below_step (by repeat (first | (with_reducible first | exact HB.out | apply below_alloc | apply pw_below_drewN | apply below_drew1) | exact HB.out)) hb); clear HB; have HB := n0_; clear n0_; (try clear hb); (try clear hb2); (try clear hk); (try clear hi)))
    go_ret
    exact ⟨by first | rfl | (simp [errW_none, errW_some] <;> rfl) | (simp [*, errW_none, errW_some] <;> rfl), by repeat (first | (with_reducible first | exact HB.out | apply below_alloc | apply pw_below_drewN | apply below_drew1) | exact HB.out)⟩

/-- THE ONE PURE STATEMENT of veillaw7_InstNames: yours. -/
def veillaw7_InstNames.Pure : Prop := ∀ (a0 : Int) (a1 : Int), (Lit.int .i64 a0).wf = true → (Lit.int .i64 a1).wf = true → ∃ k, veillaw7_InstNames.f k a0 a1 = some true
theorem veillaw7_InstNames.walk (P : veillaw7_InstNames.Pure) (a0 : Int) (a1 : Int) (w : World) (w0 : (Lit.int .i64 a0).wf = true) (w1 : (Lit.int .i64 a1).wf = true) :
    Calls Try.prog 6 #[.int .i64 a0, .int .i64 a1] w fun e w' => e = .returned (.bool true) ∧ Below w.heap.size w w' := by
  obtain ⟨k, h⟩ := P a0 a1 w0 w1
  refine (veillaw7_InstNames.calls k a0 a1 true w h).mono ?_
  rintro e w' ⟨rfl, hd⟩
  exact ⟨rfl, hd⟩

end Go.Proofs.Ytidedfhlocodgaa.PInstNames
