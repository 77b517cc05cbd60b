import Derived.Test.YtidedfhlocodgaaPProgPartsx0
import Derived.Test.YtidedfhlocodgaaPProgPartsx2
import Derived.Test.YtidedfhlocodgaaPProgPartsx4
import Derived.Test.YtidedfhlocodgaaPProgPartsx5
namespace Go.Proofs.Ytidedfhlocodgaa.PProgParts
open Go.RowKit Go.Proofs.YtidedfhlocodgaaW.PrintWords Go.Proofs.YtidedfhlocodgaaW.PrintLast Go.Proofs.YtidedfhlocodgaaW.PrintMore
attribute [local go_sem] max2_int min2_int max_two min_two max_three min_three max_four min_four   -- for this text's walks alone
set_option linter.unusedVariables false
set_option linter.unusedSimpArgs false

/-! ### veillaw8_ProgParts: function 15 -/
mutual
def veillaw8_ProgParts.l0 : Nat → List (S23) → Int → Int → Option (Bool)
  | 0, _, _, _ => none
  | k + 1, x0, x1, x5 => if x5 < (x0.length : Int) then (if 0 ≤ x5 then (if ((rd_T23 x0 x5).f0) = 4 then (some true) else (veillaw8_ProgParts.l0 k x0 x1 (wrap64 (x5 + 1)))) else (none)) else (if (IntKind.u64.wrap (wrap64 ((x0.length : Int) + 1))) = 0 then (none) else ((prog_Put.f k x0).bind fun bt181 => (if 0 ≤ (wrap64 (Int.tmod (IntKind.u64.wrap (x1)) (IntKind.u64.wrap (wrap64 ((x0.length : Int) + 1))))) then (if (wrap64 (Int.tmod (IntKind.u64.wrap (x1)) (IntKind.u64.wrap (wrap64 ((x0.length : Int) + 1))))) ≤ (x0.length : Int) then ((prog_Put.f k (x0.take ((wrap64 (Int.tmod (IntKind.u64.wrap (x1)) (IntKind.u64.wrap (wrap64 ((x0.length : Int) + 1))))) : Int).toNat)).bind fun bt187 => ((prog_Put.f k (x0.drop ((wrap64 (Int.tmod (IntKind.u64.wrap (x1)) (IntKind.u64.wrap (wrap64 ((x0.length : Int) + 1))))) : Int).toNat)).bind fun bt193 => ((veillaw0_Num.f bt181.2).bind fun t195 => (if t195 = 0 then ((veillaw0_Num.f bt187.2).bind fun t196 => (if t196 = 0 then ((veillaw0_Num.f bt193.2).bind fun t197 => (if t197 = 0 then (if (bt181.1.size : Int) < 1 then (veillaw8_ProgParts.j1 k x0 (wrap64 (Int.tmod (IntKind.u64.wrap (x1)) (IntKind.u64.wrap (wrap64 ((x0.length : Int) + 1))))) bt181.1 bt187.1 bt193.1 true) else (if (bt187.1.size : Int) < 1 then (veillaw8_ProgParts.j1 k x0 (wrap64 (Int.tmod (IntKind.u64.wrap (x1)) (IntKind.u64.wrap (wrap64 ((x0.length : Int) + 1))))) bt181.1 bt187.1 bt193.1 true) else (veillaw8_ProgParts.j1 k x0 (wrap64 (Int.tmod (IntKind.u64.wrap (x1)) (IntKind.u64.wrap (wrap64 ((x0.length : Int) + 1))))) bt181.1 bt187.1 bt193.1 (decide ((bt193.1.size : Int) < 1))))) else (veillaw8_ProgParts.j1 k x0 (wrap64 (Int.tmod (IntKind.u64.wrap (x1)) (IntKind.u64.wrap (wrap64 ((x0.length : Int) + 1))))) bt181.1 bt187.1 bt193.1 true))) else (veillaw8_ProgParts.j1 k x0 (wrap64 (Int.tmod (IntKind.u64.wrap (x1)) (IntKind.u64.wrap (wrap64 ((x0.length : Int) + 1))))) bt181.1 bt187.1 bt193.1 true))) else (some (bt181.1.toList == ([] : List UInt8))))))) else (none)) else (none))))
def veillaw8_ProgParts.j1 : Nat → List (S23) → Int → ByteArray → ByteArray → ByteArray → Bool → Option (Bool)
  | 0, _, _, _, _, _, _ => none
  | k + 1, x0, x6, x7, x9, x11, x81 => if x81 = true then (some false) else (if 1 ≤ (x7.size : Int) then (if 1 ≤ (x9.size : Int) then (if 1 ≤ (x11.size : Int) then (if (x9.extract 1 x9.size).size + (x11.extract 1 x11.size).size ≤ 9223372036854775807 then (if (x7.extract 1 x7.size).toList = ((x9.extract 1 x9.size) ++ (x11.extract 1 x11.size)).toList then (if 0 ≤ x6 then (if x6 ≤ (x0.length : Int) then ((prog_May.f k (x0.take (x6 : Int).toNat)).bind fun t202 => (if t202 = true then ((prog_May.f k (x0.drop (x6 : Int).toNat)).bind fun t207 => (some t207)) else (some false))) else (none)) else (none)) else (some false)) else (none)) else (none)) else (none)) else (none))
end
def veillaw8_ProgParts.f (k : Nat) (l0 : List (S23)) (a1 : Int) : Option (Bool) := (veillaw8_awake.f k).bind fun t179 => (if t179 = true then (veillaw8_ProgParts.l0 k l0 a1 0) else (some false))
theorem veillaw8_ProgParts.mono_l : ∀ k, (∀ y0 y1 y2, LeO (veillaw8_ProgParts.l0 k y0 y1 y2) (veillaw8_ProgParts.l0 (k + 1) y0 y1 y2)) ∧ (∀ y0 y1 y2 y3 y4 y5, LeO (veillaw8_ProgParts.j1 k y0 y1 y2 y3 y4 y5) (veillaw8_ProgParts.j1 (k + 1) y0 y1 y2 y3 y4 y5))
  | 0 => ⟨fun _ _ _ r h => by simp [veillaw8_ProgParts.l0] at h, fun _ _ _ _ _ _ r h => by simp [veillaw8_ProgParts.j1] at h⟩
  | k + 1 => by
    obtain ⟨ih0, ih1⟩ := veillaw8_ProgParts.mono_l k
    refine ⟨?_, ?_⟩
    · intro y0 y1 y2
      unfold veillaw8_ProgParts.l0
      repeat' first
      | (with_reducible exact ih0 _ _ _)
      | (with_reducible exact ih1 _ _ _ _ _ _)
      | (with_reducible exact prog_May.mono _ _)
      | (with_reducible exact prog_Put.mono _ _)
      | (with_reducible exact veillaw8_awake.mono _)
      | (with_reducible exact LeO.refl _)
      | (with_reducible exact LeO.none _)
      | (with_reducible refine LeO.ite ?_ ?_)
      | (with_reducible refine LeO.bind ?_ (fun _ => ?_))
      | exact ih0 _ _ _
      | exact ih1 _ _ _ _ _ _
      | exact prog_May.mono _ _
      | exact prog_Put.mono _ _
      | exact veillaw8_awake.mono _
      | exact LeO.none _
      | refine LeO.ite ?_ ?_
      | refine LeO.bind ?_ (fun _ => ?_)
    · intro y0 y1 y2 y3 y4 y5
      unfold veillaw8_ProgParts.j1
      repeat' first
      | (with_reducible exact ih0 _ _ _)
      | (with_reducible exact ih1 _ _ _ _ _ _)
      | (with_reducible exact prog_May.mono _ _)
      | (with_reducible exact prog_Put.mono _ _)
      | (with_reducible exact veillaw8_awake.mono _)
      | (with_reducible exact LeO.refl _)
      | (with_reducible exact LeO.none _)
      | (with_reducible refine LeO.ite ?_ ?_)
      | (with_reducible refine LeO.bind ?_ (fun _ => ?_))
      | exact ih0 _ _ _
      | exact ih1 _ _ _ _ _ _
      | exact prog_May.mono _ _
      | exact prog_Put.mono _ _
      | exact veillaw8_awake.mono _
      | exact LeO.none _
      | refine LeO.ite ?_ ?_
      | refine LeO.bind ?_ (fun _ => ?_)
theorem veillaw8_ProgParts.mono : ∀ a0 a1 k, LeO (veillaw8_ProgParts.f k a0 a1) (veillaw8_ProgParts.f (k + 1) a0 a1) := by
  intro a0 a1 k
  obtain ⟨ih0, ih1⟩ := veillaw8_ProgParts.mono_l k
  unfold veillaw8_ProgParts.f
  repeat' first
      | (with_reducible exact ih0 _ _ _)
      | (with_reducible exact ih1 _ _ _ _ _ _)
      | (with_reducible exact prog_May.mono _ _)
      | (with_reducible exact prog_Put.mono _ _)
      | (with_reducible exact veillaw8_awake.mono _)
      | (with_reducible exact LeO.refl _)
      | (with_reducible exact LeO.none _)
      | (with_reducible refine LeO.ite ?_ ?_)
      | (with_reducible refine LeO.bind ?_ (fun _ => ?_))
      | exact ih0 _ _ _
      | exact ih1 _ _ _ _ _ _
      | exact prog_May.mono _ _
      | exact prog_Put.mono _ _
      | exact veillaw8_awake.mono _
      | exact LeO.none _
      | refine LeO.ite ?_ ?_
      | refine LeO.bind ?_ (fun _ => ?_)
def veillaw8_ProgParts.T16 : Bool × List (List Nat × List Nat) := (true, [([], []), ([0], [0]), ([], []), ([2], [2]), ([], []), ([4], [4]), ([3, 5], [3, 5]), ([1, 6], [1, 6]), ([7], [7]), ([8], [8]), ([8], [8]), ([9, 10, 8], [8, 9, 10]), ([11, 8, 8], [8, 11]), ([8, 12], [8, 12]), ([13, 12], [13]), ([14], [14]), ([14], [14]), ([15, 16, 14], [14, 15, 16]), ([17, 14, 14], [14, 17]), ([14, 18], [14, 18]), ([19, 18, 0, 1, 2, 3, 4, 5, 6, 7, 8, 9, 10, 11, 12, 13, 14, 15, 16, 17, 18, 19], [19])])
def veillaw8_ProgParts.B16 : List Nat := [0, 1, 0, 4, 0, 16, 60, 127, 255, 511, 511, 2047, 4095, 8191, 16383, 32767, 32767, 131071, 262143, 524287, 1048575]
theorem veillaw8_ProgParts.tab16 : rtab .any (opsOf Try.f15 16) = veillaw8_ProgParts.T16 := by kernel_rfl
theorem veillaw8_ProgParts.bits16 : waitsOk veillaw8_ProgParts.T16.2 veillaw8_ProgParts.B16 = true := by kernel_rfl
set_option maxHeartbeats 8000000 in
set_option maxRecDepth 100000 in
theorem veillaw8_ProgParts.calls (k : Nat) (A0 : Option Addr) (c0 : Nat) (l0 : List (S23)) (a1 : Int) (r : Bool) (w : World) (hr0 : Kd.C k23 w A0 l0.length l0) (hc0 : l0.length ≤ c0) (h : veillaw8_ProgParts.f k l0 a1 = some r) (hr : r = true := by rfl) :
    Calls Try.prog 15 #[.slice A0 l0.length c0, .int .i64 a1] w fun e w' => e = .returned (.bool r) ∧ Below w.heap.size w w' := by
  have HR0 := Aside0.mk hr0
  have HC0 := Aside0.mk hc0
  clear hr0 hc0
  have HB := Aside0.mk (Below.refl w.heap.size w)
  have H : ((veillaw8_awake.f k).bind fun t179 => (if t179 = true then (veillaw8_ProgParts.l0 k l0 a1 0) else (some false))) = some r := h
  clear h
  replace H := Option.bind_eq_some_iff.mp H
  obtain ⟨t179, A30, H⟩ := H
  replace H : (if t179 = true then (veillaw8_ProgParts.l0 k l0 a1 0) else (some false)) = some r := H
  have A3 := Aside0.mk A30
  clear A30
  by_cases c4 : t179 = true
  · subst c4
    have H1 : (veillaw8_ProgParts.l0 k l0 a1 0) = some r := by rw [if_pos rfl] at H; exact H
    clear H
    have H := H1
    clear H1
    have H' := Aside0.mk H
    clear H
    go_enter Try.func15, Try.ntmps15
    go_wp2_with (first | ((with_reducible refine gate_callee (f := 41) rfl ?_); refine goesL_ (some 13) rfl rfl Try.func41 (by kernel_rfl) rfl #[] rfl (by (try simp only [List.map_toArray, List.map_cons, List.map_nil]); first | done | rfl | (simp only [List.length_drop, List.length_take]; rfl)) ?_; (with_reducible refine (veillaw8_awake.calls k  true _ A3.out).mono ?_); rintro e w5 ⟨rfl, hb⟩; refine ⟨_, rfl, ?_⟩; have n0_ := Aside0.mk (below_step (by repeat (first | (with_reducible first | exact HB.out | apply below_alloc | apply pw_below_drewN | apply below_drew1) | exact HB.out)) hb); clear HB; have HB := n0_; clear n0_; (try clear hb); (try clear hb2); (try clear hk); (try clear hi)))
    go_loopg [5] k (fun kq v5 w' => ∃ (x5_1 : Int), v5 = .int .i64 x5_1 ∧ Aside0 (veillaw8_ProgParts.l0 kq l0 a1 x5_1 = some r) ∧ Aside0 (kq ≤ k) ∧ Aside0 (Below w.heap.size w w'))
    case atStart => exact ⟨(0), (by first | rfl | (simp; done) | (simp [*]; done)), H', ⟨Nat.le_refl _⟩, ⟨by repeat (first | (with_reducible first | exact HB.out | apply below_alloc | apply pw_below_drewN | apply below_drew1) | exact HB.out)⟩⟩
    case round =>
      clear H'
      try clear c1
      try clear p2
      try clear c4
      obtain ⟨x5_1, rfl, HA, HK1, HB⟩ := hrel
      cases gk with
      | zero => exact absurd HA.out (by simp [veillaw8_ProgParts.l0])
      | succ k1 =>
        have H := HA.out
        clear HA
        simp only [veillaw8_ProgParts.l0] at H
        by_cases c6 : x5_1 < (l0.length : Int)
        · rw [if_pos c6] at H
          have c6b0 : decide (x5_1 < (l0.length : Int)) = true := decide_eq_true c6
          clear c6
          by_cases c7 : 0 ≤ x5_1
          · rw [if_pos c7] at H
            have c7b0 : decide (0 ≤ x5_1) = true := decide_eq_true c7
            clear c7
            by_cases c8 : ((rd_T23 l0 x5_1).f0) = 4
            · rw [if_pos c8] at H
              have c8b0 : (((rd_T23 l0 x5_1).f0) == 4) = true := beq_iff_eq.mpr c8
              have c8b1 : (((rd_T23 l0 x5_1).f0) != 4) = false := bne_eq_false_iff_eq.mpr c8
              clear c8
              obtain rfl := Option.some.inj H
              have p180 : 0 ≤ (x5_1 : Int) := of_decide_eq_true (by first | (with_reducible assumption) | assumption)
              have q180 : x5_1 < (l0.length : Int) := of_decide_eq_true (by first | (with_reducible assumption) | assumption)
              obtain ⟨ad180, e180, hx180_0, hx180_1, hx180_2, hx180_3⟩ := at_T23 HR0.out x5_1 p180 q180
              cases e180
              replace hx180_0 := (HB.out.cell (World.block_lt_of_cell? w _ hx180_0)).trans hx180_0
              replace hx180_1 := (HB.out.cell (World.block_lt_of_cell? w _ hx180_1)).trans hx180_1
              replace hx180_2 := (HB.out.cell (World.block_lt_of_cell? w _ hx180_2)).trans hx180_2
              replace hx180_3 := (HB.out.cell (World.block_lt_of_cell? w _ hx180_3)).trans hx180_3
              replace p180 := eq_true p180
              replace q180 := eq_true q180
              go_wp2
              go_ret
              exact ⟨by first | rfl | (simp [errW_none, errW_some] <;> rfl) | (simp [*, errW_none, errW_some] <;> rfl), by repeat (first | (with_reducible first | exact HB.out | apply below_alloc | apply pw_below_drewN | apply below_drew1) | exact HB.out)⟩
            · rw [if_neg c8] at H
              have c8b0 : (((rd_T23 l0 x5_1).f0) == 4) = false := beq_eq_false_iff_ne.mpr c8
              have c8b1 : (((rd_T23 l0 x5_1).f0) != 4) = true := bne_iff_ne.mpr c8
              have H' := Aside0.mk H
              clear H
              have p180 : 0 ≤ (x5_1 : Int) := of_decide_eq_true (by first | (with_reducible assumption) | assumption)
              have q180 : x5_1 < (l0.length : Int) := of_decide_eq_true (by first | (with_reducible assumption) | assumption)
              obtain ⟨ad180, e180, hx180_0, hx180_1, hx180_2, hx180_3⟩ := at_T23 HR0.out x5_1 p180 q180
              cases e180
              replace hx180_0 := (HB.out.cell (World.block_lt_of_cell? w _ hx180_0)).trans hx180_0
              replace hx180_1 := (HB.out.cell (World.block_lt_of_cell? w _ hx180_1)).trans hx180_1
              replace hx180_2 := (HB.out.cell (World.block_lt_of_cell? w _ hx180_2)).trans hx180_2
              replace hx180_3 := (HB.out.cell (World.block_lt_of_cell? w _ hx180_3)).trans hx180_3
              replace p180 := eq_true p180
              replace q180 := eq_true q180
              go_wp2
              go_roundg k1
              case measure => have := HK1.out; omega
              case rel => exact ⟨(wrap64 (x5_1 + 1)), (by first | rfl | (simp; done) | (simp [*]; done)), H', ⟨by have := HK1.out; omega⟩, ⟨by repeat (first | (with_reducible first | exact HB.out | apply below_alloc | apply pw_below_drewN | apply below_drew1) | exact HB.out)⟩⟩
          · rw [if_neg c7] at H
            exact absurd H (by simp)
        · rw [if_neg c6] at H
          have c6b0 : decide (x5_1 < (l0.length : Int)) = false := decide_eq_false c6
          clear c6
          by_cases c9 : (IntKind.u64.wrap (wrap64 ((l0.length : Int) + 1))) = 0
          · rw [if_pos c9] at H
            exact absurd H (by simp)
          · rw [if_neg c9] at H
            have c9b0 : ((IntKind.u64.wrap (wrap64 ((l0.length : Int) + 1))) == 0) = false := beq_eq_false_iff_ne.mpr c9
            have c9b1 : ((IntKind.u64.wrap (wrap64 ((l0.length : Int) + 1))) != 0) = true := bne_iff_ne.mpr c9
            replace H := Option.bind_eq_some_iff.mp H
            obtain ⟨⟨t181, t182⟩, A100, H⟩ := H
            replace H : (if 0 ≤ (wrap64 (Int.tmod (IntKind.u64.wrap (a1)) (IntKind.u64.wrap (wrap64 ((l0.length : Int) + 1))))) then (if (wrap64 (Int.tmod (IntKind.u64.wrap (a1)) (IntKind.u64.wrap (wrap64 ((l0.length : Int) + 1))))) ≤ (l0.length : Int) then ((prog_Put.f k1 (l0.take ((wrap64 (Int.tmod (IntKind.u64.wrap (a1)) (IntKind.u64.wrap (wrap64 ((l0.length : Int) + 1))))) : Int).toNat)).bind fun bt187 => ((prog_Put.f k1 (l0.drop ((wrap64 (Int.tmod (IntKind.u64.wrap (a1)) (IntKind.u64.wrap (wrap64 ((l0.length : Int) + 1))))) : Int).toNat)).bind fun bt193 => ((veillaw0_Num.f t182).bind fun t195 => (if t195 = 0 then ((veillaw0_Num.f bt187.2).bind fun t196 => (if t196 = 0 then ((veillaw0_Num.f bt193.2).bind fun t197 => (if t197 = 0 then (if (t181.size : Int) < 1 then (veillaw8_ProgParts.j1 k1 l0 (wrap64 (Int.tmod (IntKind.u64.wrap (a1)) (IntKind.u64.wrap (wrap64 ((l0.length : Int) + 1))))) t181 bt187.1 bt193.1 true) else (if (bt187.1.size : Int) < 1 then (veillaw8_ProgParts.j1 k1 l0 (wrap64 (Int.tmod (IntKind.u64.wrap (a1)) (IntKind.u64.wrap (wrap64 ((l0.length : Int) + 1))))) t181 bt187.1 bt193.1 true) else (veillaw8_ProgParts.j1 k1 l0 (wrap64 (Int.tmod (IntKind.u64.wrap (a1)) (IntKind.u64.wrap (wrap64 ((l0.length : Int) + 1))))) t181 bt187.1 bt193.1 (decide ((bt193.1.size : Int) < 1))))) else (veillaw8_ProgParts.j1 k1 l0 (wrap64 (Int.tmod (IntKind.u64.wrap (a1)) (IntKind.u64.wrap (wrap64 ((l0.length : Int) + 1))))) t181 bt187.1 bt193.1 true))) else (veillaw8_ProgParts.j1 k1 l0 (wrap64 (Int.tmod (IntKind.u64.wrap (a1)) (IntKind.u64.wrap (wrap64 ((l0.length : Int) + 1))))) t181 bt187.1 bt193.1 true))) else (some (t181.toList == ([] : List UInt8))))))) else (none)) else (none)) = some r := H
            have A10 := Aside0.mk A100
            clear A100
            obtain ⟨ji11, hji11⟩ : ∃ j_ : Int, (wrap64 (Int.tmod (IntKind.u64.wrap (a1)) (IntKind.u64.wrap (wrap64 ((l0.length : Int) + 1))))) = j_ := ⟨_, rfl⟩
            replace H : (if 0 ≤ (ji11) then (if (ji11) ≤ (l0.length : Int) then ((prog_Put.f k1 (l0.take ((ji11) : Int).toNat)).bind fun bt187 => ((prog_Put.f k1 (l0.drop ((ji11) : Int).toNat)).bind fun bt193 => ((veillaw0_Num.f t182).bind fun t195 => (if t195 = 0 then ((veillaw0_Num.f bt187.2).bind fun t196 => (if t196 = 0 then ((veillaw0_Num.f bt193.2).bind fun t197 => (if t197 = 0 then (if (t181.size : Int) < 1 then (veillaw8_ProgParts.j1 k1 l0 ji11 t181 bt187.1 bt193.1 true) else (if (bt187.1.size : Int) < 1 then (veillaw8_ProgParts.j1 k1 l0 ji11 t181 bt187.1 bt193.1 true) else (veillaw8_ProgParts.j1 k1 l0 ji11 t181 bt187.1 bt193.1 (decide ((bt193.1.size : Int) < 1))))) else (veillaw8_ProgParts.j1 k1 l0 ji11 t181 bt187.1 bt193.1 true))) else (veillaw8_ProgParts.j1 k1 l0 ji11 t181 bt187.1 bt193.1 true))) else (some (t181.toList == ([] : List UInt8))))))) else (none)) else (none)) = some r := by first | (rw [hji11] at H; exact H) | (simp only [hji11] at H ⊢; exact H)
            (try rw [hji11] at A10)
            have hji11w : (IntKind.i64.wrap (Int.tmod (IntKind.u64.wrap (a1)) (IntKind.u64.wrap (wrap64 ((l0.length : Int) + 1))))) = ji11 := (i64_w _).trans hji11
            by_cases c12 : 0 ≤ (ji11)
            · rw [if_pos c12] at H
              have c12b0 := eq_true c12
              have c12b1 : decide (0 ≤ (ji11)) = true := decide_eq_true c12
              clear c12
              by_cases c13 : (ji11) ≤ (l0.length : Int)
              · rw [if_pos c13] at H
                have c13b0 := eq_true c13
                have c13b1 : decide ((ji11) ≤ (l0.length : Int)) = true := decide_eq_true c13
                clear c13
                obtain ⟨y183, hy183⟩ : ∃ y_ : List (S23), y_ = (l0.take ((ji11) : Int).toNat) := ⟨_, rfl⟩
                replace H : ((prog_Put.f k1 y183).bind fun bt187 => ((prog_Put.f k1 (l0.drop ((ji11) : Int).toNat)).bind fun bt193 => ((veillaw0_Num.f t182).bind fun t195 => (if t195 = 0 then ((veillaw0_Num.f bt187.2).bind fun t196 => (if t196 = 0 then ((veillaw0_Num.f bt193.2).bind fun t197 => (if t197 = 0 then (if (t181.size : Int) < 1 then (veillaw8_ProgParts.j1 k1 l0 ji11 t181 bt187.1 bt193.1 true) else (if (bt187.1.size : Int) < 1 then (veillaw8_ProgParts.j1 k1 l0 ji11 t181 bt187.1 bt193.1 true) else (veillaw8_ProgParts.j1 k1 l0 ji11 t181 bt187.1 bt193.1 (decide ((bt193.1.size : Int) < 1))))) else (veillaw8_ProgParts.j1 k1 l0 ji11 t181 bt187.1 bt193.1 true))) else (veillaw8_ProgParts.j1 k1 l0 ji11 t181 bt187.1 bt193.1 true))) else (some (t181.toList == ([] : List UInt8))))))) = some r := by first | (rw [hy183]; with_reducible exact H) | (have H2_ := (Option.bind_some _ _).symm.trans H; rw [hy183]; with_reducible exact H2_) | (have H2_ := (Option.bind_some _ _).symm.trans H; with_reducible exact H2_) | with_reducible exact H | (rw [hy183]; exact H) | exact H
                have Ny183 := Aside0.mk hy183
                clear hy183
                replace H := Option.bind_eq_some_iff.mp H
                obtain ⟨⟨t187, t188⟩, A140, H⟩ := H
                replace H : ((prog_Put.f k1 (l0.drop ((ji11) : Int).toNat)).bind fun bt193 => ((veillaw0_Num.f t182).bind fun t195 => (if t195 = 0 then ((veillaw0_Num.f t188).bind fun t196 => (if t196 = 0 then ((veillaw0_Num.f bt193.2).bind fun t197 => (if t197 = 0 then (if (t181.size : Int) < 1 then (veillaw8_ProgParts.j1 k1 l0 ji11 t181 t187 bt193.1 true) else (if (t187.size : Int) < 1 then (veillaw8_ProgParts.j1 k1 l0 ji11 t181 t187 bt193.1 true) else (veillaw8_ProgParts.j1 k1 l0 ji11 t181 t187 bt193.1 (decide ((bt193.1.size : Int) < 1))))) else (veillaw8_ProgParts.j1 k1 l0 ji11 t181 t187 bt193.1 true))) else (veillaw8_ProgParts.j1 k1 l0 ji11 t181 t187 bt193.1 true))) else (some (t181.toList == ([] : List UInt8)))))) = some r := H
                have A14 := Aside0.mk A140
                clear A140
                have c15b0 := eq_true (of_decide_eq_true (by first | (with_reducible assumption) | assumption) : 0 ≤ (ji11))
                have c16b0 := eq_true (of_decide_eq_true (by first | (with_reducible assumption) | assumption) : (ji11) ≤ (l0.length : Int))
                obtain ⟨y189, hy189⟩ : ∃ y_ : List (S23), y_ = (l0.drop ((ji11) : Int).toNat) := ⟨_, rfl⟩
                replace H : ((prog_Put.f k1 y189).bind fun bt193 => ((veillaw0_Num.f t182).bind fun t195 => (if t195 = 0 then ((veillaw0_Num.f t188).bind fun t196 => (if t196 = 0 then ((veillaw0_Num.f bt193.2).bind fun t197 => (if t197 = 0 then (if (t181.size : Int) < 1 then (veillaw8_ProgParts.j1 k1 l0 ji11 t181 t187 bt193.1 true) else (if (t187.size : Int) < 1 then (veillaw8_ProgParts.j1 k1 l0 ji11 t181 t187 bt193.1 true) else (veillaw8_ProgParts.j1 k1 l0 ji11 t181 t187 bt193.1 (decide ((bt193.1.size : Int) < 1))))) else (veillaw8_ProgParts.j1 k1 l0 ji11 t181 t187 bt193.1 true))) else (veillaw8_ProgParts.j1 k1 l0 ji11 t181 t187 bt193.1 true))) else (some (t181.toList == ([] : List UInt8)))))) = some r := by first | (rw [hy189]; with_reducible exact H) | (have H2_ := (Option.bind_some _ _).symm.trans H; rw [hy189]; with_reducible exact H2_) | (have H2_ := (Option.bind_some _ _).symm.trans H; with_reducible exact H2_) | with_reducible exact H | (rw [hy189]; exact H) | exact H
                have Ny189 := Aside0.mk hy189
                clear hy189
                replace H := Option.bind_eq_some_iff.mp H
                obtain ⟨⟨t193, t194⟩, A170, H⟩ := H
                replace H : ((veillaw0_Num.f t182).bind fun t195 => (if t195 = 0 then ((veillaw0_Num.f t188).bind fun t196 => (if t196 = 0 then ((veillaw0_Num.f t194).bind fun t197 => (if t197 = 0 then (if (t181.size : Int) < 1 then (veillaw8_ProgParts.j1 k1 l0 ji11 t181 t187 t193 true) else (if (t187.size : Int) < 1 then (veillaw8_ProgParts.j1 k1 l0 ji11 t181 t187 t193 true) else (veillaw8_ProgParts.j1 k1 l0 ji11 t181 t187 t193 (decide ((t193.size : Int) < 1))))) else (veillaw8_ProgParts.j1 k1 l0 ji11 t181 t187 t193 true))) else (veillaw8_ProgParts.j1 k1 l0 ji11 t181 t187 t193 true))) else (some (t181.toList == ([] : List UInt8))))) = some r := H
                have A17 := Aside0.mk A170
                clear A170
                replace H := Option.bind_eq_some_iff.mp H
                obtain ⟨t195, A180, H⟩ := H
                replace H : (if t195 = 0 then ((veillaw0_Num.f t188).bind fun t196 => (if t196 = 0 then ((veillaw0_Num.f t194).bind fun t197 => (if t197 = 0 then (if (t181.size : Int) < 1 then (veillaw8_ProgParts.j1 k1 l0 ji11 t181 t187 t193 true) else (if (t187.size : Int) < 1 then (veillaw8_ProgParts.j1 k1 l0 ji11 t181 t187 t193 true) else (veillaw8_ProgParts.j1 k1 l0 ji11 t181 t187 t193 (decide ((t193.size : Int) < 1))))) else (veillaw8_ProgParts.j1 k1 l0 ji11 t181 t187 t193 true))) else (veillaw8_ProgParts.j1 k1 l0 ji11 t181 t187 t193 true))) else (some (t181.toList == ([] : List UInt8)))) = some r := H
                have A18 := Aside0.mk A180
                clear A180
                by_cases c19 : t195 = 0
                · rw [if_pos c19] at H
                  have c19b0 : (t195 == 0) = true := beq_iff_eq.mpr c19
                  have c19b1 : (t195 != 0) = false := bne_eq_false_iff_eq.mpr c19
                  clear c19
                  have HC20 := Aside0.mk H
                  clear H
                  go_upto_region 14 with (first | ((with_reducible refine gate_callee (f := 33) rfl ?_); refine goesL_ (some 37) rfl rfl Try.func33 (by kernel_rfl) rfl #[.slice A0 l0.length c0] rfl (by (try simp only [List.map_toArray, List.map_cons, List.map_nil]); first | done | rfl | (simp only [List.length_drop, List.length_take]; rfl)) ?_; (with_reducible refine (prog_Put.calls k1 _ _ l0 t181 t182 _ ?side1 ?side2 A10.out).mono ?_); (case side1 => repeat (first | exact (Kd.C_below HR0.out HB.out) | (with_reducible refine Kd.C_alloc ?_ _) | (with_reducible refine Kd.C_drewN ?_ _) | (with_reducible refine Kd.C_drew ?_))); (case side2 => exact HC0.out); rintro e w21 ⟨rfl, hb⟩; refine ⟨_, rfl, ?_⟩; have n0_ := Aside0.mk (below_step (by repeat (first | (with_reducible first | exact HB.out | apply below_alloc | apply pw_below_drewN | apply below_drew1) | exact HB.out)) hb); clear HB; have HB := n0_; clear n0_; (try clear hb); (try clear hb2); (try clear hk); (try clear hi); have q22 : ((ji11) : Int) ≤ ((l0.length : Int) : Int) := of_decide_eq_true (by first | (with_reducible assumption) | assumption); obtain ⟨i022, hi022, _, hsz22, _⟩ := info_parts info23; have hroom22 : l0.length ≤ c0 := HC0.out; have hC22 : Kd.C k23 _ A0 l0.length l0 := HR0.out; have hcut22 := cut_to (P := Try.prog) 37 23 .i64 Try.underlying37 hi022 A0 l0.length c0 (ji11) (of_decide_eq_true (by first | (with_reducible assumption) | assumption)) q22 hroom22; have hr22 := Kd.C_take (m := ((ji11) : Int).toNat) hC22 (by omega); have hy22 : y183.length = ((ji11) : Int).toNat := (by rw [Ny183.out, List.length_take]; omega); rw [← Ny183.out] at hr22; rw [← hy22] at hcut22; have HR186 := Aside0.mk hr22; have HC186 := Aside0.mk (show y183.length ≤ c0 from by omega); clear hr22 hC22 hroom22 hi022 hsz22; have KY22 := Aside0.mk hy22; clear hy22; replace q22 := eq_true q22) | ((with_reducible refine gate_callee (f := 33) rfl ?_); refine goesL_ (some 44) rfl rfl Try.func33 (by kernel_rfl) rfl #[.slice A0 y183.length c0] rfl (by (try simp only [List.map_toArray, List.map_cons, List.map_nil]); first | done | rfl | (simp only [List.length_drop, List.length_take]; rfl)) ?_; (with_reducible refine (prog_Put.calls k1 _ _ y183 t187 t188 _ ?side1 ?side2 A14.out).mono ?_); (case side1 => repeat (first | exact (Kd.C_below HR186.out HB.out) | (with_reducible refine Kd.C_alloc ?_ _) | (with_reducible refine Kd.C_drewN ?_ _) | (with_reducible refine Kd.C_drew ?_))); (case side2 => exact HC186.out); rintro e w23 ⟨rfl, hb⟩; refine ⟨_, rfl, ?_⟩; have n0_ := Aside0.mk (below_step (by repeat (first | (with_reducible first | exact HB.out | apply below_alloc | apply pw_below_drewN | apply below_drew1) | exact HB.out)) hb); clear HB; have HB := n0_; clear n0_; (try clear hb); (try clear hb2); (try clear hk); (try clear hi); have q24 : ((ji11) : Int) ≤ ((l0.length : Int) : Int) := of_decide_eq_true (by first | (with_reducible assumption) | assumption); obtain ⟨i024, hi024, _, hsz24, _⟩ := info_parts info23; have hroom24 : l0.length ≤ c0 := HC0.out; have hC24 : Kd.C k23 _ A0 l0.length l0 := HR0.out; have q024 : (0 : Int) ≤ ((ji11) : Int) := of_decide_eq_true (by first | (with_reducible assumption) | assumption); have hcut24 := cut_from (P := Try.prog) 37 23 .i64 Try.underlying37 hi024 4 hsz24 A0 l0.length c0 (ji11) q024 q24; have hr24 := Kd.C_drop (m := ((ji11) : Int).toNat) (c := c0) hC24 (by omega) hroom24; obtain ⟨A24, hA24⟩ : ∃ A1, A1 = (if c0 = ((ji11) : Int).toNat then A0 else (A0 : Option Addr).map (·.add (((ji11) : Int).toNat * 4))) := ⟨_, rfl⟩; obtain ⟨c24, hc24⟩ : ∃ c1, c1 = c0 - ((ji11) : Int).toNat := ⟨_, rfl⟩; have hy24 : y189.length = l0.length - ((ji11) : Int).toNat := (by rw [Ny189.out, List.length_drop] <;> omega); rw [show (l0).drop ((ji11) : Int).toNat = y189 from Ny189.out.symm] at hr24; replace hr24 : Kd.C k23 _ A24 y189.length y189 := (by rw [hA24]; exact hr24); rw [← hy24, ← hA24, ← hc24] at hcut24; have HR192 := Aside0.mk hr24; have HC192 := Aside0.mk (show y189.length ≤ c24 from by rw [hy24, hc24]; exact Nat.sub_le_sub_right hroom24 _); clear hr24 hC24 hroom24 hi024 hsz24 hc24; have KY24 := Aside0.mk hy24; have KA24 := Aside0.mk hA24; clear hy24 hA24; replace q24 := eq_true q24) | ((with_reducible refine gate_callee (f := 33) rfl ?_); refine goesL_ (some 51) rfl rfl Try.func33 (by kernel_rfl) rfl #[.slice A24 y189.length c24] rfl (by (try simp only [List.map_toArray, List.map_cons, List.map_nil]); first | done | rfl | (simp only [List.length_drop, List.length_take]; rfl)) ?_; (with_reducible refine (prog_Put.calls k1 _ _ y189 t193 t194 _ ?side1 ?side2 A17.out).mono ?_); (case side1 => repeat (first | exact (Kd.C_below HR192.out HB.out) | (with_reducible refine Kd.C_alloc ?_ _) | (with_reducible refine Kd.C_drewN ?_ _) | (with_reducible refine Kd.C_drew ?_))); (case side2 => exact HC192.out); rintro e w25 ⟨rfl, hb⟩; refine ⟨_, rfl, ?_⟩; have n0_ := Aside0.mk (below_step (by repeat (first | (with_reducible first | exact HB.out | apply below_alloc | apply pw_below_drewN | apply below_drew1) | exact HB.out)) hb); clear HB; have HB := n0_; clear n0_; (try clear hb); (try clear hb2); (try clear hk); (try clear hi)) | ((with_reducible refine gate_callee (f := 20) rfl ?_); refine goesL_ (some 55) rfl rfl Try.func20 (by kernel_rfl) rfl #[.int .i64 t182] rfl (by (try simp only [List.map_toArray, List.map_cons, List.map_nil]); first | done | rfl | (simp only [List.length_drop, List.length_take]; rfl)) ?_; (with_reducible refine (veillaw0_Num.calls t182 t195 _ A18.out).mono ?_); rintro e w' ⟨rfl, ⟨nd, rfl⟩⟩; refine ⟨_, rfl, ?_⟩))
                  (try simp only [Act.put, List.setIfInBounds_toArray, List.set_cons_zero, List.set_cons_succ])
                  go_cut [81] (fun v81 wc => ∃ (kq : Nat) (x81_19 : Bool), v81 = .bool x81_19 ∧ Aside0 (veillaw8_ProgParts.j1 kq l0 ji11 t181 t187 t193 x81_19 = some r) ∧ Aside0 (kq ≤ k1) ∧ Aside0 (Below w.heap.size w wc))
                  case first =>
                    have H := HC20.out
                    clear HC20
                    replace H := Option.bind_eq_some_iff.mp H
                    obtain ⟨t196, A260, H⟩ := H
                    replace H : (if t196 = 0 then ((veillaw0_Num.f t194).bind fun t197 => (if t197 = 0 then (if (t181.size : Int) < 1 then (veillaw8_ProgParts.j1 k1 l0 ji11 t181 t187 t193 true) else (if (t187.size : Int) < 1 then (veillaw8_ProgParts.j1 k1 l0 ji11 t181 t187 t193 true) else (veillaw8_ProgParts.j1 k1 l0 ji11 t181 t187 t193 (decide ((t193.size : Int) < 1))))) else (veillaw8_ProgParts.j1 k1 l0 ji11 t181 t187 t193 true))) else (veillaw8_ProgParts.j1 k1 l0 ji11 t181 t187 t193 true)) = some r := H
                    have A26 := Aside0.mk A260
                    clear A260
                    by_cases c27 : t196 = 0
                    · rw [if_pos c27] at H
                      have c27b0 : (t196 == 0) = true := beq_iff_eq.mpr c27
                      have c27b1 : (t196 != 0) = false := bne_eq_false_iff_eq.mpr c27
                      clear c27
                      (first | rw [c27b0] | (simp only [i64_w, i32_w]; rw [c27b0]) | skip)
                      replace H := Option.bind_eq_some_iff.mp H
                      obtain ⟨t197, A280, H⟩ := H
                      replace H : (if t197 = 0 then (if (t181.size : Int) < 1 then (veillaw8_ProgParts.j1 k1 l0 ji11 t181 t187 t193 true) else (if (t187.size : Int) < 1 then (veillaw8_ProgParts.j1 k1 l0 ji11 t181 t187 t193 true) else (veillaw8_ProgParts.j1 k1 l0 ji11 t181 t187 t193 (decide ((t193.size : Int) < 1))))) else (veillaw8_ProgParts.j1 k1 l0 ji11 t181 t187 t193 true)) = some r := H
                      have A28 := Aside0.mk A280
                      clear A280
                      by_cases c29 : t197 = 0
                      · rw [if_pos c29] at H
                        have c29b0 : (t197 == 0) = true := beq_iff_eq.mpr c29
                        have c29b1 : (t197 != 0) = false := bne_eq_false_iff_eq.mpr c29
                        clear c29
                        by_cases c30 : (t181.size : Int) < 1
                        · rw [if_pos c30] at H
                          have c30b0 : decide ((t181.size : Int) < 1) = true := decide_eq_true c30
                          have c30b1 : decide (t181.size < 1) = true := decide_eq_true (by omega)
                          clear c30
                          have H' := Aside0.mk H
                          clear H
                          go_wp2_with (first | ((with_reducible refine gate_callee (f := 20) rfl ?_); refine goesL_ (some 60) rfl rfl Try.func20 (by kernel_rfl) rfl #[.int .i64 t188] rfl (by (try simp only [List.map_toArray, List.map_cons, List.map_nil]); first | done | rfl | (simp only [List.length_drop, List.length_take]; rfl)) ?_; (with_reducible refine (veillaw0_Num.calls t188 t196 _ A26.out).mono ?_); rintro e w' ⟨rfl, ⟨nd, rfl⟩⟩; refine ⟨_, rfl, ?_⟩) | (go_at_call 20; (with_reducible refine (veillaw0_Num.calls t194 t197 _ A28.out).mono ?_); rintro e w' ⟨rfl, ⟨nd, rfl⟩⟩))
                          go_meet
                          case rel => exact ⟨_, (true), (by first | rfl | (simp; done) | (simp [*]; done)), H', ⟨by have := HK1.out; first | omega | exact Nat.le_refl _⟩, ⟨by repeat (first | (with_reducible first | exact HB.out | apply below_alloc | apply pw_below_drewN | apply below_drew1) | exact HB.out)⟩⟩
                        · rw [if_neg c30] at H
                          have c30b0 : decide ((t181.size : Int) < 1) = false := decide_eq_false c30
                          have c30b1 : decide (t181.size < 1) = false := decide_eq_false (by omega)
                          clear c30
                          by_cases c31 : (t187.size : Int) < 1
                          · rw [if_pos c31] at H
                            have c31b0 : decide ((t187.size : Int) < 1) = true := decide_eq_true c31
                            have c31b1 : decide (t187.size < 1) = true := decide_eq_true (by omega)
                            clear c31
                            have H' := Aside0.mk H
                            clear H
                            go_wp2_with (first | ((with_reducible refine gate_callee (f := 20) rfl ?_); refine goesL_ (some 60) rfl rfl Try.func20 (by kernel_rfl) rfl #[.int .i64 t188] rfl (by (try simp only [List.map_toArray, List.map_cons, List.map_nil]); first | done | rfl | (simp only [List.length_drop, List.length_take]; rfl)) ?_; (with_reducible refine (veillaw0_Num.calls t188 t196 _ A26.out).mono ?_); rintro e w' ⟨rfl, ⟨nd, rfl⟩⟩; refine ⟨_, rfl, ?_⟩) | (go_at_call 20; (with_reducible refine (veillaw0_Num.calls t194 t197 _ A28.out).mono ?_); rintro e w' ⟨rfl, ⟨nd, rfl⟩⟩))
                            go_meet
                            case rel => exact ⟨_, (true), (by first | rfl | (simp; done) | (simp [*]; done)), H', ⟨by have := HK1.out; first | omega | exact Nat.le_refl _⟩, ⟨by repeat (first | (with_reducible first | exact HB.out | apply below_alloc | apply pw_below_drewN | apply below_drew1) | exact HB.out)⟩⟩
                          · rw [if_neg c31] at H
                            have c31b0 : decide ((t187.size : Int) < 1) = false := decide_eq_false c31
                            have c31b1 : decide (t187.size < 1) = false := decide_eq_false (by omega)
                            clear c31
                            have H' := Aside0.mk H
                            clear H
                            go_wp2_with (first | ((with_reducible refine gate_callee (f := 20) rfl ?_); refine goesL_ (some 60) rfl rfl Try.func20 (by kernel_rfl) rfl #[.int .i64 t188] rfl (by (try simp only [List.map_toArray, List.map_cons, List.map_nil]); first | done | rfl | (simp only [List.length_drop, List.length_take]; rfl)) ?_; (with_reducible refine (veillaw0_Num.calls t188 t196 _ A26.out).mono ?_); rintro e w' ⟨rfl, ⟨nd, rfl⟩⟩; refine ⟨_, rfl, ?_⟩) | (go_at_call 20; (with_reducible refine (veillaw0_Num.calls t194 t197 _ A28.out).mono ?_); rintro e w' ⟨rfl, ⟨nd, rfl⟩⟩))
                            go_meet
                            case rel => exact ⟨_, (decide ((t193.size : Int) < 1)), (by first | rfl | (simp; done) | (simp [*]; done)), H', ⟨by have := HK1.out; first | omega | exact Nat.le_refl _⟩, ⟨by repeat (first | (with_reducible first | exact HB.out | apply below_alloc | apply pw_below_drewN | apply below_drew1) | exact HB.out)⟩⟩
                      · rw [if_neg c29] at H
                        have c29b0 : (t197 == 0) = false := beq_eq_false_iff_ne.mpr c29
                        have c29b1 : (t197 != 0) = true := bne_iff_ne.mpr c29
                        have H' := Aside0.mk H
                        clear H
                        go_wp2_with (first | ((with_reducible refine gate_callee (f := 20) rfl ?_); refine goesL_ (some 60) rfl rfl Try.func20 (by kernel_rfl) rfl #[.int .i64 t188] rfl (by (try simp only [List.map_toArray, List.map_cons, List.map_nil]); first | done | rfl | (simp only [List.length_drop, List.length_take]; rfl)) ?_; (with_reducible refine (veillaw0_Num.calls t188 t196 _ A26.out).mono ?_); rintro e w' ⟨rfl, ⟨nd, rfl⟩⟩; refine ⟨_, rfl, ?_⟩) | (go_at_call 20; (with_reducible refine (veillaw0_Num.calls t194 t197 _ A28.out).mono ?_); rintro e w' ⟨rfl, ⟨nd, rfl⟩⟩))
                        go_meet
                        case rel => exact ⟨_, (true), (by first | rfl | (simp; done) | (simp [*]; done)), H', ⟨by have := HK1.out; first | omega | exact Nat.le_refl _⟩, ⟨by repeat (first | (with_reducible first | exact HB.out | apply below_alloc | apply pw_below_drewN | apply below_drew1) | exact HB.out)⟩⟩
                    · rw [if_neg c27] at H
                      have c27b0 : (t196 == 0) = false := beq_eq_false_iff_ne.mpr c27
                      have c27b1 : (t196 != 0) = true := bne_iff_ne.mpr c27
                      (first | rw [c27b0] | (simp only [i64_w, i32_w]; rw [c27b0]) | skip)
                      have H' := Aside0.mk H
                      clear H
                      go_wp2_with (first | ((with_reducible refine gate_callee (f := 20) rfl ?_); refine goesL_ (some 60) rfl rfl Try.func20 (by kernel_rfl) rfl #[.int .i64 t188] rfl (by (try simp only [List.map_toArray, List.map_cons, List.map_nil]); first | done | rfl | (simp only [List.length_drop, List.length_take]; rfl)) ?_; (with_reducible refine (veillaw0_Num.calls t188 t196 _ A26.out).mono ?_); rintro e w' ⟨rfl, ⟨nd, rfl⟩⟩; refine ⟨_, rfl, ?_⟩))
                      go_meet
                      case rel => exact ⟨_, (true), (by first | rfl | (simp; done) | (simp [*]; done)), H', ⟨by have := HK1.out; first | omega | exact Nat.le_refl _⟩, ⟨by repeat (first | (with_reducible first | exact HB.out | apply below_alloc | apply pw_below_drewN | apply below_drew1) | exact HB.out)⟩⟩
                  case rest =>
                    clear HC20
                    try clear c1
                    try clear p1
                    try clear q1
                    try clear hx1
                    try clear c2
                    try clear p2
                    try clear q2
                    try clear c3
                    try clear c4
                    try clear c6
                    try clear c6b0
                    try clear p6
                    try clear c7
                    try clear c7b0
                    try clear c8
                    try clear c8b0
                    try clear c8b1
                    try clear c9
                    try clear c9b0
                    try clear c9b1
                    try clear c12
                    try clear c12b0
                    try clear c12b1
                    try clear c13
                    try clear c13b0
                    try clear c13b1
                    try clear c15
                    try clear c15b0
                    try clear c16
                    try clear c16b0
                    try clear p18
                    try clear q18
                    try clear hx18
                    try clear c19
                    try clear c19b0
                    try clear c19b1
                    try clear c20
                    try clear q22
                    try clear c24
                    try clear q24
                    try clear c27
                    try clear c27b0
                    try clear c27b1
                    try clear c29
                    try clear c29b0
                    try clear c29b1
                    try clear c30
                    try clear c30b0
                    try clear c30b1
                    try clear c31
                    try clear c31b0
                    try clear c31b1
                    try clear hx180_0
                    try clear hx180_1
                    try clear hx180_2
                    try clear hx180_3
                    try clear p180
                    try clear p2
                    try clear q024
                    try clear q180
                    try clear q22
                    try clear q24
                    obtain ⟨kq, x81_19, rfl, HA, HJ19, HB⟩ := hcut
                    cases kq with
                    | zero => exact absurd HA.out (by simp [veillaw8_ProgParts.j1])
                    | succ kj19 =>
                      have H := HA.out
                      clear HA
                      simp only [veillaw8_ProgParts.j1] at H
                      by_cases c32 : x81_19 = true
                      · subst c32
                        have H1 : (some false) = some r := by rw [if_pos rfl] at H; exact H
                        clear H
                        have H := H1
                        clear H1
                        exact absurd ((Option.some.inj H).trans hr) (by decide)
                      · replace c32 := Bool.eq_false_iff.mpr c32
                        subst c32
                        have H1 : (if 1 ≤ (t181.size : Int) then (if 1 ≤ (t187.size : Int) then (if 1 ≤ (t193.size : Int) then (if (t187.extract 1 t187.size).size + (t193.extract 1 t193.size).size ≤ 9223372036854775807 then (if (t181.extract 1 t181.size).toList = ((t187.extract 1 t187.size) ++ (t193.extract 1 t193.size)).toList then (if 0 ≤ ji11 then (if ji11 ≤ (l0.length : Int) then ((prog_May.f kj19 (l0.take (ji11 : Int).toNat)).bind fun t202 => (if t202 = true then ((prog_May.f kj19 (l0.drop (ji11 : Int).toNat)).bind fun t207 => (some t207)) else (some false))) else (none)) else (none)) else (some false)) else (none)) else (none)) else (none)) else (none)) = some r := by rw [if_neg (show ¬ (false = true) by decide)] at H; exact H
                        clear H
                        have H := H1
                        clear H1
                        by_cases c33 : 1 ≤ (t181.size : Int)
                        · rw [if_pos c33] at H
                          have c33b0 := eq_true c33
                          have c33b1 : decide (1 ≤ (t181.size : Int)) = true := decide_eq_true c33
                          clear c33
                          by_cases c34 : 1 ≤ (t187.size : Int)
                          · rw [if_pos c34] at H
                            have c34b0 := eq_true c34
                            have c34b1 : decide (1 ≤ (t187.size : Int)) = true := decide_eq_true c34
                            clear c34
                            by_cases c35 : 1 ≤ (t193.size : Int)
                            · rw [if_pos c35] at H
                              have c35b0 := eq_true c35
                              have c35b1 : decide (1 ≤ (t193.size : Int)) = true := decide_eq_true c35
                              clear c35
                              by_cases c36 : (t187.extract 1 t187.size).size + (t193.extract 1 t193.size).size ≤ 9223372036854775807
                              · rw [if_pos c36] at H
                                have c36b0 := eq_true c36
                                have c36b1 : decide ((t187.extract 1 t187.size).size + (t193.extract 1 t193.size).size ≤ 9223372036854775807) = true := decide_eq_true c36
                                try have c36b2 : (9223372036854775807 < (t187.extract 1 t187.size).size + (t193.extract 1 t193.size).size) = False := eq_false (Nat.not_lt.2 c36)
                                by_cases c37 : (t181.extract 1 t181.size).toList = ((t187.extract 1 t187.size) ++ (t193.extract 1 t193.size)).toList
                                · rw [if_pos c37] at H
                                  have c37b0 : ((t181.extract 1 t181.size).toList == ((t187.extract 1 t187.size) ++ (t193.extract 1 t193.size)).toList) = true := beq_iff_eq.mpr c37
                                  have c37b1 : ((t181.extract 1 t181.size).toList != ((t187.extract 1 t187.size) ++ (t193.extract 1 t193.size)).toList) = false := bne_eq_false_iff_eq.mpr c37
                                  clear c37
                                  by_cases c38 : 0 ≤ ji11
                                  · rw [if_pos c38] at H
                                    have c38b0 := eq_true c38
                                    have c38b1 : decide (0 ≤ ji11) = true := decide_eq_true c38
                                    clear c38
                                    by_cases c39 : ji11 ≤ (l0.length : Int)
                                    · rw [if_pos c39] at H
                                      have c39b0 := eq_true c39
                                      have c39b1 : decide (ji11 ≤ (l0.length : Int)) = true := decide_eq_true c39
                                      clear c39
                                      obtain ⟨y198, hy198⟩ : ∃ y_ : List (S23), y_ = (l0.take (ji11 : Int).toNat) := ⟨_, rfl⟩
                                      replace H : ((prog_May.f kj19 y198).bind fun t202 => (if t202 = true then ((prog_May.f kj19 (l0.drop (ji11 : Int).toNat)).bind fun t207 => (some t207)) else (some false))) = some r := by first | (rw [hy198]; with_reducible exact H) | (have H2_ := (Option.bind_some _ _).symm.trans H; rw [hy198]; with_reducible exact H2_) | (have H2_ := (Option.bind_some _ _).symm.trans H; with_reducible exact H2_) | with_reducible exact H | (rw [hy198]; exact H) | exact H
                                      have Ny198 := Aside0.mk hy198
                                      clear hy198
                                      replace H := Option.bind_eq_some_iff.mp H
                                      obtain ⟨t202, A400, H⟩ := H
                                      replace H : (if t202 = true then ((prog_May.f kj19 (l0.drop (ji11 : Int).toNat)).bind fun t207 => (some t207)) else (some false)) = some r := H
                                      have A40 := Aside0.mk A400
                                      clear A400
                                      by_cases c41 : t202 = true
                                      · subst c41
                                        have H1 : ((prog_May.f kj19 (l0.drop (ji11 : Int).toNat)).bind fun t207 => (some t207)) = some r := by rw [if_pos rfl] at H; exact H
                                        clear H
                                        have H := H1
                                        clear H1
                                        have c42b0 := eq_true (of_decide_eq_true (by first | (with_reducible assumption) | assumption) : 0 ≤ ji11)
                                        have c43b0 := eq_true (of_decide_eq_true (by first | (with_reducible assumption) | assumption) : ji11 ≤ (l0.length : Int))
                                        obtain ⟨y203, hy203⟩ : ∃ y_ : List (S23), y_ = (l0.drop (ji11 : Int).toNat) := ⟨_, rfl⟩
                                        replace H : ((prog_May.f kj19 y203).bind fun t207 => (some t207)) = some r := by first | (rw [hy203]; with_reducible exact H) | (have H2_ := (Option.bind_some _ _).symm.trans H; rw [hy203]; with_reducible exact H2_) | (have H2_ := (Option.bind_some _ _).symm.trans H; with_reducible exact H2_) | with_reducible exact H | (rw [hy203]; exact H) | exact H
                                        have Ny203 := Aside0.mk hy203
                                        clear hy203
                                        replace H := Option.bind_eq_some_iff.mp H
                                        obtain ⟨t207, A440, H⟩ := H
                                        replace H : (some t207) = some r := H
                                        have A44 := Aside0.mk A440
                                        clear A440
                                        obtain rfl := Option.some.inj H
                                        try go_wp2
                                        have n0_ := Aside0.mk (below_drew1 HB.out)
                                        clear HB
                                        have HB := n0_
                                        clear n0_
                                        have q46 : (ji11 : Int) ≤ ((l0.length : Int) : Int) := of_decide_eq_true (by first | (with_reducible assumption) | assumption)
                                        obtain ⟨i046, hi046, _, hsz46, _⟩ := info_parts info23
                                        have hroom46 : l0.length ≤ c0 := HC0.out
                                        have hC46 : Kd.C k23 _ A0 l0.length l0 := HR0.out
                                        have hcut46 := cut_to (P := Try.prog) 37 23 .i64 Try.underlying37 hi046 A0 l0.length c0 ji11 (of_decide_eq_true (by first | (with_reducible assumption) | assumption)) q46 hroom46
                                        have hr46 := Kd.C_take (m := (ji11 : Int).toNat) hC46 (by omega)
                                        have hy46 : y198.length = (ji11 : Int).toNat := (by rw [Ny198.out, List.length_take]; omega)
                                        rw [← Ny198.out] at hr46
                                        rw [← hy46] at hcut46
                                        have HR201 := Aside0.mk hr46
                                        have HC201 := Aside0.mk (show y198.length ≤ c0 from by omega)
                                        clear hr46 hC46 hroom46 hi046 hsz46
                                        have KY46 := Aside0.mk hy46
                                        clear hcut22
                                        clear hy46
                                        replace q46 := eq_true q46
                                        refine start_ (n := 21) (S := fun w' => True) (ds := []) #[false, false, false, false, false, false, false, false, false, false, false, false, false, false, false, false, false, false, false, false, false] (by kernel_rfl) rfl rfl trivial (fun hHeld => ?_); refine with_tabW veillaw8_ProgParts.tab16 veillaw8_ProgParts.bits16 (fun HT_ HW_ => ?_)
                                        generalize wc.drew = w45 at HB HR201 hHeld ⊢
                                        refine pure_ (i := 0) (N := some 82) (v := ?_) (a' := ?_) #[true, false, false, false, false, false, false, false, false, false, false, false, false, false, false, false, false, false, false, false, false] rfl rfl (any_of HT_.out (by kernel_rfl)) (fun _ _ _ h => h) (Or.inl ⟨by rfl, ?_⟩) ?_ ?_
                                        rotate_left
                                        · intro w'
                                          go_simp
                                          with_reducible rfl
                                        rotate_left
                                        · simp only [Act.put, List.setIfInBounds_toArray, List.set_cons_zero, List.set_cons_succ, i64_w, i32_w]
                                          rfl
                                        refine pure_ (i := 1) (N := some 83) (v := ?_) (a' := ?_) #[true, true, false, false, false, false, false, false, false, false, false, false, false, false, false, false, false, false, false, false, false] rfl rfl (any_of HT_.out (by kernel_rfl)) (fun _ _ _ h => h) (Or.inl ⟨by rfl, ?_⟩) ?_ ?_
                                        rotate_left
                                        · intro w'
                                          go_simp
                                          with_reducible rfl
                                        rotate_left
                                        · simp only [Act.put, List.setIfInBounds_toArray, List.set_cons_zero, List.set_cons_succ, i64_w, i32_w]
                                          rfl
                                        refine pure_ (i := 2) (N := some 84) (v := ?_) (a' := ?_) #[true, true, true, false, false, false, false, false, false, false, false, false, false, false, false, false, false, false, false, false, false] rfl rfl (any_of HT_.out (by kernel_rfl)) (fun _ _ _ h => h) (Or.inl ⟨by rfl, ?_⟩) ?_ ?_
                                        rotate_left
                                        · intro w'
                                          go_simp
                                          with_reducible rfl
                                        rotate_left
                                        · simp only [Act.put, List.setIfInBounds_toArray, List.set_cons_zero, List.set_cons_succ, i64_w, i32_w]
                                          rfl
                                        refine pure_ (i := 3) (N := some 85) (v := ?_) (a' := ?_) #[true, true, true, true, false, false, false, false, false, false, false, false, false, false, false, false, false, false, false, false, false] rfl rfl (any_of HT_.out (by kernel_rfl)) (fun _ _ _ h => h) (Or.inl ⟨by rfl, ?_⟩) ?_ ?_
                                        rotate_left
                                        · intro w'
                                          go_simp
                                          with_reducible rfl
                                        rotate_left
                                        · simp only [Act.put, List.setIfInBounds_toArray, List.set_cons_zero, List.set_cons_succ, i64_w, i32_w]
                                          rfl
                                        refine pure_ (i := 4) (N := some 86) (v := ?_) (a' := ?_) #[true, true, true, true, true, false, false, false, false, false, false, false, false, false, false, false, false, false, false, false, false] rfl rfl (any_of HT_.out (by kernel_rfl)) (fun _ _ _ h => h) (Or.inl ⟨by rfl, ?_⟩) ?_ ?_
                                        rotate_left
                                        · intro w'
                                          go_simp
                                          with_reducible rfl
                                        rotate_left
                                        · simp only [Act.put, List.setIfInBounds_toArray, List.set_cons_zero, List.set_cons_succ, i64_w, i32_w]
                                          rfl
                                        refine pure_ (i := 5) (N := some 87) (v := ?_) (a' := ?_) #[true, true, true, true, true, true, false, false, false, false, false, false, false, false, false, false, false, false, false, false, false] rfl rfl (any_of HT_.out (by kernel_rfl)) (fun _ _ _ h => h) (Or.inl ⟨by rfl, ?_⟩) ?_ ?_
                                        rotate_left
                                        · intro w'
                                          go_simp
                                          with_reducible rfl
                                        rotate_left
                                        · simp only [Act.put, List.setIfInBounds_toArray, List.set_cons_zero, List.set_cons_succ, i64_w, i32_w]
                                          rfl
                                        refine pure_ (i := 6) (N := some 88) (v := ?_) (a' := ?_) #[true, true, true, true, true, true, true, false, false, false, false, false, false, false, false, false, false, false, false, false, false] rfl rfl (any_of HT_.out (by kernel_rfl)) (fun _ _ _ h => h) (Or.inl ⟨by rfl, ?_⟩) ?_ ?_
                                        rotate_left
                                        · intro w'
                                          go_simp
                                          first | (with_reducible rfl) | (rw [if_neg (by have h_ := c36; simp only [ByteArray.size_extract] at h_; omega)])
                                        rotate_left
                                        · simp only [Act.put, List.setIfInBounds_toArray, List.set_cons_zero, List.set_cons_succ, i64_w, i32_w]
                                          rfl
                                        refine pure_ (i := 7) (N := some 89) (v := ?_) (a' := ?_) #[true, true, true, true, true, true, true, true, false, false, false, false, false, false, false, false, false, false, false, false, false] rfl rfl (any_of HT_.out (by kernel_rfl)) (fun _ _ _ h => h) (Or.inl ⟨by rfl, ?_⟩) ?_ ?_
                                        rotate_left
                                        · intro w'
                                          go_simp
                                          with_reducible rfl
                                        rotate_left
                                        · simp only [Act.put, List.setIfInBounds_toArray, List.set_cons_zero, List.set_cons_succ, i64_w, i32_w]
                                          rfl
                                        refine pure_ (i := 8) (N := some 90) (v := ?_) (a' := ?_) #[true, true, true, true, true, true, true, true, true, false, false, false, false, false, false, false, false, false, false, false, false] rfl rfl (any_of HT_.out (by kernel_rfl)) (fun _ _ _ h => h) (Or.inl ⟨by rfl, ?_⟩) ?_ ?_
                                        rotate_left
                                        · intro w'
                                          go_simp
                                          with_reducible rfl
                                        rotate_left
                                        · simp only [Act.put, List.setIfInBounds_toArray, List.set_cons_zero, List.set_cons_succ, i64_w, i32_w]
                                          rfl
                                        refine pure_ (i := 9) (N := some 91) (v := ?_) (a' := ?_) #[true, true, true, true, true, true, true, true, true, true, false, false, false, false, false, false, false, false, false, false, false] rfl rfl (any_of HT_.out (by kernel_rfl)) (fun _ _ _ h => h) (Or.inl ⟨by rfl, ?_⟩) ?_ ?_
                                        rotate_left
                                        · intro w'
                                          go_simp
                                          with_reducible rfl
                                        rotate_left
                                        · simp only [Act.put, List.setIfInBounds_toArray, List.set_cons_zero, List.set_cons_succ, i64_w, i32_w]
                                          rfl
                                        refine pure_ (i := 10) (N := some 92) (v := ?_) (a' := ?_) #[true, true, true, true, true, true, true, true, true, true, true, false, false, false, false, false, false, false, false, false, false] rfl rfl (any_of HT_.out (by kernel_rfl)) (fun _ _ _ h => h) (Or.inl ⟨by rfl, ?_⟩) ?_ ?_
                                        rotate_left
                                        · intro w'
                                          go_simp
                                          with_reducible rfl
                                        rotate_left
                                        · simp only [Act.put, List.setIfInBounds_toArray, List.set_cons_zero, List.set_cons_succ, i64_w, i32_w]
                                          rfl
                                        refine pure_ (i := 11) (N := some 93) (v := ?_) (a' := ?_) #[true, true, true, true, true, true, true, true, true, true, true, true, false, false, false, false, false, false, false, false, false] rfl rfl (any_of HT_.out (by kernel_rfl)) (fun _ _ _ h => h) (Or.inl ⟨by rfl, ?_⟩) ?_ ?_
                                        rotate_left
                                        · intro w'
                                          go_simp
                                          with_reducible rfl
                                        rotate_left
                                        · simp only [Act.put, List.setIfInBounds_toArray, List.set_cons_zero, List.set_cons_succ, i64_w, i32_w]
                                          rfl
                                        refine one_ (i := 12) (N := some 94) #[true, true, true, true, true, true, true, true, true, true, true, true, true, false, false, false, false, false, false, false, false] rfl rfl (one_of HT_.out (by kernel_rfl)) (by decide) (fun K hK => ?_)
                                        refine goes_ Try.func38 (by kernel_rfl) rfl #[.slice A0 y198.length c0] (by rfl) rfl rfl (by (try simp only [List.map_toArray, List.map_cons, List.map_nil]); first | done | rfl | (simp [Act.eval, KY22.out, KY46.out]; done) | (simp only [List.length_drop, List.length_take]; rfl)) ?_
                                        with_reducible refine (prog_May.calls kj19 _ _ y198 true _ ?side1 ?side2 A40.out).mono ?_
                                        (case side1 => repeat (first | exact (Kd.C_below HR201.out HB.out) | (with_reducible refine Kd.C_alloc ?_ _) | (with_reducible refine Kd.C_drewN ?_ _) | (with_reducible refine Kd.C_drew ?_)))
                                        (case side2 => exact HC201.out)
                                        rintro e w47 ⟨rfl, hb⟩
                                        refine ⟨_, rfl, ?_⟩
                                        have n0_ := Aside0.mk (below_step (by repeat (first | (with_reducible first | exact HB.out | apply below_alloc | apply pw_below_drewN | apply below_drew1) | exact HB.out)) hb)
                                        clear HB
                                        have HB := n0_
                                        clear n0_
                                        (try clear hb)
                                        (try clear hb2)
                                        (try clear hk)
                                        (try clear hi)
                                        have q48 : (ji11 : Int) ≤ ((l0.length : Int) : Int) := of_decide_eq_true (by first | (with_reducible assumption) | assumption)
                                        obtain ⟨i048, hi048, _, hsz48, _⟩ := info_parts info23
                                        have hroom48 : l0.length ≤ c0 := HC0.out
                                        have hC48 : Kd.C k23 _ A0 l0.length l0 := HR0.out
                                        have q048 : (0 : Int) ≤ (ji11 : Int) := of_decide_eq_true (by first | (with_reducible assumption) | assumption)
                                        have hcut48 := cut_from (P := Try.prog) 37 23 .i64 Try.underlying37 hi048 4 hsz48 A0 l0.length c0 ji11 q048 q48
                                        have hr48 := Kd.C_drop (m := (ji11 : Int).toNat) (c := c0) hC48 (by omega) hroom48
                                        obtain ⟨A48, hA48⟩ : ∃ A1, A1 = (if c0 = (ji11 : Int).toNat then A0 else (A0 : Option Addr).map (·.add ((ji11 : Int).toNat * 4))) := ⟨_, rfl⟩
                                        obtain ⟨c48, hc48⟩ : ∃ c1, c1 = c0 - (ji11 : Int).toNat := ⟨_, rfl⟩
                                        have hy48 : y203.length = l0.length - (ji11 : Int).toNat := (by rw [Ny203.out, List.length_drop] <;> omega)
                                        rw [show (l0).drop (ji11 : Int).toNat = y203 from Ny203.out.symm] at hr48
                                        replace hr48 : Kd.C k23 _ A48 y203.length y203 := (by rw [hA48]; exact hr48)
                                        rw [← hy48, ← hA48, ← hc48] at hcut48
                                        have HR206 := Aside0.mk hr48
                                        have HC206 := Aside0.mk (show y203.length ≤ c48 from by rw [hy48, hc48]; exact Nat.sub_le_sub_right hroom48 _)
                                        clear hr48 hC48 hroom48 hi048 hsz48 hc48
                                        have KY48 := Aside0.mk hy48
                                        clear hcut24
                                        have KA48 := Aside0.mk hA48
                                        clear hy48 hA48
                                        replace q48 := eq_true q48
                                        refine hK.out _ _ trivial (fun hHeld => ?_)
                                        clear hK K
                                        refine norm_ (a' := ?_) ?_ ?_
                                        rotate_left
                                        · show Act.put _ (some 94) _ = _
                                          simp only [Act.put, List.setIfInBounds_toArray, List.set_cons_zero, List.set_cons_succ, i64_w, i32_w]
                                          rfl
                                        refine pure_ (i := 13) (N := some 95) (v := ?_) (a' := ?_) #[true, true, true, true, true, true, true, true, true, true, true, true, true, true, false, false, false, false, false, false, false] rfl rfl (any_of HT_.out (by kernel_rfl)) (fun _ _ _ h => h) (Or.inl ⟨by rfl, ?_⟩) ?_ ?_
                                        rotate_left
                                        · intro w'
                                          go_simp
                                          with_reducible rfl
                                        rotate_left
                                        · simp only [Act.put, List.setIfInBounds_toArray, List.set_cons_zero, List.set_cons_succ, i64_w, i32_w]
                                          rfl
                                        refine pure_ (i := 14) (N := some 96) (v := ?_) (a' := ?_) #[true, true, true, true, true, true, true, true, true, true, true, true, true, true, true, false, false, false, false, false, false] rfl rfl (any_of HT_.out (by kernel_rfl)) (fun _ _ _ h => h) (Or.inl ⟨by rfl, ?_⟩) ?_ ?_
                                        rotate_left
                                        · intro w'
                                          go_simp
                                          with_reducible rfl
                                        rotate_left
                                        · simp only [Act.put, List.setIfInBounds_toArray, List.set_cons_zero, List.set_cons_succ, i64_w, i32_w]
                                          rfl
                                        refine pure_ (i := 15) (N := some 97) (v := ?_) (a' := ?_) #[true, true, true, true, true, true, true, true, true, true, true, true, true, true, true, true, false, false, false, false, false] rfl rfl (any_of HT_.out (by kernel_rfl)) (fun _ _ _ h => h) (Or.inl ⟨by rfl, ?_⟩) ?_ ?_
                                        rotate_left
                                        · intro w'
                                          go_simp
                                          with_reducible rfl
                                        rotate_left
                                        · simp only [Act.put, List.setIfInBounds_toArray, List.set_cons_zero, List.set_cons_succ, i64_w, i32_w]
                                          rfl
                                        refine pure_ (i := 16) (N := some 98) (v := ?_) (a' := ?_) #[true, true, true, true, true, true, true, true, true, true, true, true, true, true, true, true, true, false, false, false, false] rfl rfl (any_of HT_.out (by kernel_rfl)) (fun _ _ _ h => h) (Or.inl ⟨by rfl, ?_⟩) ?_ ?_
                                        rotate_left
                                        · intro w'
                                          go_simp
                                          with_reducible rfl
                                        rotate_left
                                        · simp only [Act.put, List.setIfInBounds_toArray, List.set_cons_zero, List.set_cons_succ, i64_w, i32_w]
                                          rfl
                                        refine pure_ (i := 17) (N := some 99) (v := ?_) (a' := ?_) #[true, true, true, true, true, true, true, true, true, true, true, true, true, true, true, true, true, true, false, false, false] rfl rfl (any_of HT_.out (by kernel_rfl)) (fun _ _ _ h => h) (Or.inl ⟨by rfl, ?_⟩) ?_ ?_
                                        rotate_left
                                        · intro w'
                                          go_simp
                                          with_reducible rfl
                                        rotate_left
                                        · simp only [Act.put, List.setIfInBounds_toArray, List.set_cons_zero, List.set_cons_succ, i64_w, i32_w]
                                          rfl
                                        refine one_ (i := 18) (N := some 100) #[true, true, true, true, true, true, true, true, true, true, true, true, true, true, true, true, true, true, true, false, false] rfl rfl (one_of HT_.out (by kernel_rfl)) (by decide) (fun K hK => ?_)
                                        refine goes_ Try.func38 (by kernel_rfl) rfl #[.slice A48 y203.length c48] (by rfl) rfl rfl (by (try simp only [List.map_toArray, List.map_cons, List.map_nil]); first | done | rfl | (simp only [List.length_drop, List.length_take]; rfl)) ?_
                                        with_reducible refine (prog_May.calls kj19 _ _ y203 t207 _ ?side1 ?side2 A44.out).mono ?_
                                        (case side1 => repeat (first | exact (Kd.C_below HR206.out HB.out) | (with_reducible refine Kd.C_alloc ?_ _) | (with_reducible refine Kd.C_drewN ?_ _) | (with_reducible refine Kd.C_drew ?_)))
                                        (case side2 => exact HC206.out)
                                        rintro e w49 ⟨rfl, hb⟩
                                        refine ⟨_, rfl, ?_⟩
                                        have n0_ := Aside0.mk (below_step (by repeat (first | (with_reducible first | exact HB.out | apply below_alloc | apply pw_below_drewN | apply below_drew1) | exact HB.out)) hb)
                                        clear HB
                                        have HB := n0_
                                        clear n0_
                                        (try clear hb)
                                        (try clear hb2)
                                        (try clear hk)
                                        (try clear hi)
                                        refine hK.out _ _ trivial (fun hHeld => ?_)
                                        clear hK K
                                        refine norm_ (a' := ?_) ?_ ?_
                                        rotate_left
                                        · show Act.put _ (some 100) _ = _
                                          simp only [Act.put, List.setIfInBounds_toArray, List.set_cons_zero, List.set_cons_succ, i64_w, i32_w]
                                          rfl
                                        refine pure_ (i := 19) (N := some 101) (v := ?_) (a' := ?_) #[true, true, true, true, true, true, true, true, true, true, true, true, true, true, true, true, true, true, true, true, false] rfl rfl (any_of HT_.out (by kernel_rfl)) (fun _ _ _ h => h) (Or.inl ⟨by rfl, ?_⟩) ?_ ?_
                                        rotate_left
                                        · intro w'
                                          go_simp
                                          with_reducible rfl
                                        rotate_left
                                        · simp only [Act.put, List.setIfInBounds_toArray, List.set_cons_zero, List.set_cons_succ, i64_w, i32_w]
                                          rfl
                                        refine pure_ (i := 20) (N := some 4) (v := ?_) (a' := ?_) #[true, true, true, true, true, true, true, true, true, true, true, true, true, true, true, true, true, true, true, true, true] rfl rfl (any_of HT_.out (by kernel_rfl)) (fun _ _ _ h => h) (Or.inl ⟨by rfl, ?_⟩) ?_ ?_
                                        rotate_left
                                        · intro w'
                                          go_simp
                                          with_reducible rfl
                                        rotate_left
                                        · simp only [Act.put, List.setIfInBounds_toArray, List.set_cons_zero, List.set_cons_succ, i64_w, i32_w]
                                          rfl
                                        refine done_ (done_of HT_.out (by kernel_rfl)) ?_
                                        try go_wp2
                                        go_ret
                                        exact ⟨by first | rfl | (simp [errW_none, errW_some] <;> rfl) | (simp only [← hji11]; first | rfl | (simp [errW_none, errW_some] <;> rfl)) | (simp [*, errW_none, errW_some] <;> rfl), by repeat (first | (with_reducible first | exact HB.out | apply below_alloc | apply pw_below_drewN | apply below_drew1) | exact HB.out)⟩
                                      · replace c41 := Bool.eq_false_iff.mpr c41
                                        subst c41
                                        have H1 : (some false) = some r := by rw [if_neg (show ¬ (false = true) by decide)] at H; exact H
                                        clear H
                                        have H := H1
                                        clear H1
                                        exact absurd ((Option.some.inj H).trans hr) (by decide)
                                    · rw [if_neg c39] at H
                                      exact absurd H (by simp)
                                  · rw [if_neg c38] at H
                                    exact absurd H (by simp)
                                · rw [if_neg c37] at H
                                  have c37b0 : ((t181.extract 1 t181.size).toList == ((t187.extract 1 t187.size) ++ (t193.extract 1 t193.size)).toList) = false := beq_eq_false_iff_ne.mpr c37
                                  have c37b1 : ((t181.extract 1 t181.size).toList != ((t187.extract 1 t187.size) ++ (t193.extract 1 t193.size)).toList) = true := bne_iff_ne.mpr c37
                                  exact absurd ((Option.some.inj H).trans hr) (by decide)
                              · rw [if_neg c36] at H
                                exact absurd H (by simp)
                            · rw [if_neg c35] at H
                              exact absurd H (by simp)
                          · rw [if_neg c34] at H
                            exact absurd H (by simp)
                        · rw [if_neg c33] at H
                          exact absurd H (by simp)
                · rw [if_neg c19] at H
                  have c19b0 : (t195 == 0) = false := beq_eq_false_iff_ne.mpr c19
                  have c19b1 : (t195 != 0) = true := bne_iff_ne.mpr c19
                  obtain rfl := Option.some.inj H
                  go_wp2_with (first | ((with_reducible refine gate_callee (f := 33) rfl ?_); refine goesL_ (some 37) rfl rfl Try.func33 (by kernel_rfl) rfl #[.slice A0 l0.length c0] rfl (by (try simp only [List.map_toArray, List.map_cons, List.map_nil]); first | done | rfl | (simp only [List.length_drop, List.length_take]; rfl)) ?_; (with_reducible refine (prog_Put.calls k1 _ _ l0 t181 t182 _ ?side1 ?side2 A10.out).mono ?_); (case side1 => repeat (first | exact (Kd.C_below HR0.out HB.out) | (with_reducible refine Kd.C_alloc ?_ _) | (with_reducible refine Kd.C_drewN ?_ _) | (with_reducible refine Kd.C_drew ?_))); (case side2 => exact HC0.out); rintro e w54 ⟨rfl, hb⟩; refine ⟨_, rfl, ?_⟩; have n0_ := Aside0.mk (below_step (by repeat (first | (with_reducible first | exact HB.out | apply below_alloc | apply pw_below_drewN | apply below_drew1) | exact HB.out)) hb); clear HB; have HB := n0_; clear n0_; (try clear hb); (try clear hb2); (try clear hk); (try clear hi); have q55 : ((ji11) : Int) ≤ ((l0.length : Int) : Int) := of_decide_eq_true (by first | (with_reducible assumption) | assumption); obtain ⟨i055, hi055, _, hsz55, _⟩ := info_parts info23; have hroom55 : l0.length ≤ c0 := HC0.out; have hC55 : Kd.C k23 _ A0 l0.length l0 := HR0.out; have hcut55 := cut_to (P := Try.prog) 37 23 .i64 Try.underlying37 hi055 A0 l0.length c0 (ji11) (of_decide_eq_true (by first | (with_reducible assumption) | assumption)) q55 hroom55; have hr55 := Kd.C_take (m := ((ji11) : Int).toNat) hC55 (by omega); have hy55 : y183.length = ((ji11) : Int).toNat := (by rw [Ny183.out, List.length_take]; omega); rw [← Ny183.out] at hr55; rw [← hy55] at hcut55; have HR186 := Aside0.mk hr55; have HC186 := Aside0.mk (show y183.length ≤ c0 from by omega); clear hr55 hC55 hroom55 hi055 hsz55; have KY55 := Aside0.mk hy55; clear hy55; replace q55 := eq_true q55) | ((with_reducible refine gate_callee (f := 33) rfl ?_); refine goesL_ (some 44) rfl rfl Try.func33 (by kernel_rfl) rfl #[.slice A0 y183.length c0] rfl (by (try simp only [List.map_toArray, List.map_cons, List.map_nil]); first | done | rfl | (simp only [List.length_drop, List.length_take]; rfl)) ?_; (with_reducible refine (prog_Put.calls k1 _ _ y183 t187 t188 _ ?side1 ?side2 A14.out).mono ?_); (case side1 => repeat (first | exact (Kd.C_below HR186.out HB.out) | (with_reducible refine Kd.C_alloc ?_ _) | (with_reducible refine Kd.C_drewN ?_ _) | (with_reducible refine Kd.C_drew ?_))); (case side2 => exact HC186.out); rintro e w56 ⟨rfl, hb⟩; refine ⟨_, rfl, ?_⟩; have n0_ := Aside0.mk (below_step (by repeat (first | (with_reducible first | exact HB.out | apply below_alloc | apply pw_below_drewN | apply below_drew1) | exact HB.out)) hb); clear HB; have HB := n0_; clear n0_; (try clear hb); (try clear hb2); (try clear hk); (try clear hi); have q57 : ((ji11) : Int) ≤ ((l0.length : Int) : Int) := of_decide_eq_true (by first | (with_reducible assumption) | assumption); obtain ⟨i057, hi057, _, hsz57, _⟩ := info_parts info23; have hroom57 : l0.length ≤ c0 := HC0.out; have hC57 : Kd.C k23 _ A0 l0.length l0 := HR0.out; have q057 : (0 : Int) ≤ ((ji11) : Int) := of_decide_eq_true (by first | (with_reducible assumption) | assumption); have hcut57 := cut_from (P := Try.prog) 37 23 .i64 Try.underlying37 hi057 4 hsz57 A0 l0.length c0 (ji11) q057 q57; have hr57 := Kd.C_drop (m := ((ji11) : Int).toNat) (c := c0) hC57 (by omega) hroom57; obtain ⟨A57, hA57⟩ : ∃ A1, A1 = (if c0 = ((ji11) : Int).toNat then A0 else (A0 : Option Addr).map (·.add (((ji11) : Int).toNat * 4))) := ⟨_, rfl⟩; obtain ⟨c57, hc57⟩ : ∃ c1, c1 = c0 - ((ji11) : Int).toNat := ⟨_, rfl⟩; have hy57 : y189.length = l0.length - ((ji11) : Int).toNat := (by rw [Ny189.out, List.length_drop] <;> omega); rw [show (l0).drop ((ji11) : Int).toNat = y189 from Ny189.out.symm] at hr57; replace hr57 : Kd.C k23 _ A57 y189.length y189 := (by rw [hA57]; exact hr57); rw [← hy57, ← hA57, ← hc57] at hcut57; have HR192 := Aside0.mk hr57; have HC192 := Aside0.mk (show y189.length ≤ c57 from by rw [hy57, hc57]; exact Nat.sub_le_sub_right hroom57 _); clear hr57 hC57 hroom57 hi057 hsz57 hc57; have KY57 := Aside0.mk hy57; have KA57 := Aside0.mk hA57; clear hy57 hA57; replace q57 := eq_true q57) | ((with_reducible refine gate_callee (f := 33) rfl ?_); refine goesL_ (some 51) rfl rfl Try.func33 (by kernel_rfl) rfl #[.slice A57 y189.length c57] rfl (by (try simp only [List.map_toArray, List.map_cons, List.map_nil]); first | done | rfl | (simp only [List.length_drop, List.length_take]; rfl)) ?_; (with_reducible refine (prog_Put.calls k1 _ _ y189 t193 t194 _ ?side1 ?side2 A17.out).mono ?_); (case side1 => repeat (first | exact (Kd.C_below HR192.out HB.out) | (with_reducible refine Kd.C_alloc ?_ _) | (with_reducible refine Kd.C_drewN ?_ _) | (with_reducible refine Kd.C_drew ?_))); (case side2 => exact HC192.out); rintro e w58 ⟨rfl, hb⟩; refine ⟨_, rfl, ?_⟩; have n0_ := Aside0.mk (below_step (by repeat (first | (with_reducible first | exact HB.out | apply below_alloc | apply pw_below_drewN | apply below_drew1) | exact HB.out)) hb); clear HB; have HB := n0_; clear n0_; (try clear hb); (try clear hb2); (try clear hk); (try clear hi)) | ((with_reducible refine gate_callee (f := 20) rfl ?_); refine goesL_ (some 55) rfl rfl Try.func20 (by kernel_rfl) rfl #[.int .i64 t182] rfl (by (try simp only [List.map_toArray, List.map_cons, List.map_nil]); first | done | rfl | (simp only [List.length_drop, List.length_take]; rfl)) ?_; (with_reducible refine (veillaw0_Num.calls t182 t195 _ A18.out).mono ?_); rintro e w' ⟨rfl, ⟨nd, rfl⟩⟩; refine ⟨_, rfl, ?_⟩))
                  go_ret
                  exact ⟨by first | rfl | (simp [errW_none, errW_some] <;> rfl) | (simp only [← hji11]; first | rfl | (simp [errW_none, errW_some] <;> rfl)) | (simp [*, errW_none, errW_some] <;> rfl), by repeat (first | (with_reducible first | exact HB.out | apply below_alloc | apply pw_below_drewN | apply below_drew1) | exact HB.out)⟩
              · rw [if_neg c13] at H
                exact absurd H (by simp)
            · rw [if_neg c12] at H
              exact absurd H (by simp)
  · replace c4 := Bool.eq_false_iff.mpr c4
    subst c4
    have H1 : (some false) = some r := by rw [if_neg (show ¬ (false = true) by decide)] at H; exact H
    clear H
    have H := H1
    clear H1
    exact absurd ((Option.some.inj H).trans hr) (by decide)

end Go.Proofs.Ytidedfhlocodgaa.PProgParts
