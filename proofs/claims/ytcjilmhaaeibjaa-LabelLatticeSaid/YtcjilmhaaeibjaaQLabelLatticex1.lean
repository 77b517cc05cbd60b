import Derived.Test.YtcjilmhaaeibjaaPLabelLatticex0
namespace Go.Proofs.Ytcjilmhaaeibjaa.PLabelLattice
open Go.RowKit Go.Proofs.YtcjilmhaaeibjaaW.PrintWords Go.Proofs.YtcjilmhaaeibjaaW.PrintLast Go.Proofs.YtcjilmhaaeibjaaW.PrintMore
attribute [local go_sem] max2_int min2_int max_two min_two max_three min_three max_four min_four   -- for this text's walks alone
set_option linter.unusedVariables false
set_option linter.unusedSimpArgs false

/-! ### label_May: function 20 -/
def label_May.f (a0 : Int) : Option (Bool) := if a0 ≥ 0 then (some (decide (a0 < 4))) else (some false)
set_option maxHeartbeats 8000000 in
set_option maxRecDepth 100000 in
theorem label_May.calls (a0 : Int) (r : Bool) (w : World) (h : label_May.f a0 = some r) :
    Calls Try.prog 20 #[.int .i64 a0] w fun e w' => e = .returned (.bool r) ∧ Drawn0 w w' := by
  have H : (if a0 ≥ 0 then (some (decide (a0 < 4))) else (some false)) = some r := h
  clear h
  by_cases c2 : a0 ≥ 0
  · rw [if_pos c2] at H
    have c2b0 : decide (0 ≤ a0) = true := decide_eq_true c2
    clear c2
    obtain rfl := Option.some.inj H
    go_enter Try.func20, Try.ntmps20
    go_wp2
    go_ret
    exact ⟨by first | rfl | (simp; done) | (simp [*]; done), by repeat (first | exact Drawn0.refl _ | apply Drawn0.step)⟩
  · rw [if_neg c2] at H
    have c2b0 : decide (0 ≤ a0) = false := decide_eq_false c2
    clear c2
    obtain rfl := Option.some.inj H
    go_enter Try.func20, Try.ntmps20
    go_wp2
    go_ret
    exact ⟨by first | rfl | (simp; done) | (simp [*]; done), by repeat (first | exact Drawn0.refl _ | apply Drawn0.step)⟩

/-! ### label_Join: function 15 -/
def label_Join.f (a0 : Int) (a1 : Int) : Option (Int × Int) := (label_May.f a0).bind fun t101 => (if t101 = true then ((label_May.f a1).bind fun t102 => (if t102 = true then (some (Go.bits .or .i64 a0 a1, 0)) else (some (0, 100)))) else (some (0, 100)))
set_option maxHeartbeats 8000000 in
set_option maxRecDepth 100000 in
theorem label_Join.calls (a0 : Int) (a1 : Int) (r1 : Int) (r2 : Int) (w : World) (h : label_Join.f a0 a1 = some (r1, r2)) :
    Calls Try.prog 15 #[.int .i64 a0, .int .i64 a1] w fun e w' => e = .returned (.tuple #[.int .i64 r1, .int .i64 r2]) ∧ Drawn0 w w' := by
  have H : ((label_May.f a0).bind fun t101 => (if t101 = true then ((label_May.f a1).bind fun t102 => (if t102 = true then (some (Go.bits .or .i64 a0 a1, 0)) else (some (0, 100)))) else (some (0, 100)))) = some (r1, r2) := h
  clear h
  replace H := Option.bind_eq_some_iff.mp H
  obtain ⟨t101, A30, H⟩ := H
  replace H : (if t101 = true then ((label_May.f a1).bind fun t102 => (if t102 = true then (some (Go.bits .or .i64 a0 a1, 0)) else (some (0, 100)))) else (some (0, 100))) = some (r1, r2) := H
  have A3 := Aside0.mk A30
  clear A30
  by_cases c4 : t101 = true
  · subst c4
    have H1 : ((label_May.f a1).bind fun t102 => (if t102 = true then (some (Go.bits .or .i64 a0 a1, 0)) else (some (0, 100)))) = some (r1, r2) := by rw [if_pos rfl] at H; exact H
    clear H
    have H := H1
    clear H1
    replace H := Option.bind_eq_some_iff.mp H
    obtain ⟨t102, A50, H⟩ := H
    replace H : (if t102 = true then (some (Go.bits .or .i64 a0 a1, 0)) else (some (0, 100))) = some (r1, r2) := H
    have A5 := Aside0.mk A50
    clear A50
    by_cases c6 : t102 = true
    · subst c6
      have H1 : (some (Go.bits .or .i64 a0 a1, 0)) = some (r1, r2) := by rw [if_pos rfl] at H; exact H
      clear H
      have H := H1
      clear H1
      simp only [Option.some.injEq, Prod.mk.injEq] at H
      obtain ⟨rfl, rfl⟩ := H
      go_enter Try.func15, Try.ntmps15
      go_wp2_with (first | ((with_reducible refine gate_callee (f := 20) rfl ?_); refine goesL_ (some 7) rfl rfl Try.func20 (by kernel_rfl) rfl #[.int .i64 a0] rfl (by (try simp only [List.map_toArray, List.map_cons, List.map_nil]); first | done | rfl | (simp only [List.length_drop, List.length_take]; rfl)) ?_; (with_reducible refine (label_May.calls a0 true _ A3.out).mono ?_); rintro e w' ⟨rfl, ⟨nd, rfl⟩⟩; refine ⟨_, rfl, ?_⟩) | (go_at_call 20; (with_reducible refine (label_May.calls a1 true _ A5.out).mono ?_); rintro e w' ⟨rfl, ⟨nd, rfl⟩⟩))
      go_ret2
      exact ⟨by first | rfl | (simp; done) | (simp [*]; done), by repeat (first | exact Drawn0.refl _ | apply Drawn0.step)⟩
    · replace c6 := Bool.eq_false_iff.mpr c6
      subst c6
      have H1 : (some (0, 100)) = some (r1, r2) := by rw [if_neg (show ¬ (false = true) by decide)] at H; exact H
      clear H
      have H := H1
      clear H1
      simp only [Option.some.injEq, Prod.mk.injEq] at H
      obtain ⟨rfl, rfl⟩ := H
      go_enter Try.func15, Try.ntmps15
      go_wp2_with (first | ((with_reducible refine gate_callee (f := 20) rfl ?_); refine goesL_ (some 7) rfl rfl Try.func20 (by kernel_rfl) rfl #[.int .i64 a0] rfl (by (try simp only [List.map_toArray, List.map_cons, List.map_nil]); first | done | rfl | (simp only [List.length_drop, List.length_take]; rfl)) ?_; (with_reducible refine (label_May.calls a0 true _ A3.out).mono ?_); rintro e w' ⟨rfl, ⟨nd, rfl⟩⟩; refine ⟨_, rfl, ?_⟩) | (go_at_call 20; (with_reducible refine (label_May.calls a1 false _ A5.out).mono ?_); rintro e w' ⟨rfl, ⟨nd, rfl⟩⟩))
      go_ret2
      exact ⟨by first | rfl | (simp; done) | (simp [*]; done), by repeat (first | exact Drawn0.refl _ | apply Drawn0.step)⟩
  · replace c4 := Bool.eq_false_iff.mpr c4
    subst c4
    have H1 : (some (0, 100)) = some (r1, r2) := by rw [if_neg (show ¬ (false = true) by decide)] at H; exact H
    clear H
    have H := H1
    clear H1
    simp only [Option.some.injEq, Prod.mk.injEq] at H
    obtain ⟨rfl, rfl⟩ := H
    go_enter Try.func15, Try.ntmps15
    go_wp2_with (first | ((with_reducible refine gate_callee (f := 20) rfl ?_); refine goesL_ (some 7) rfl rfl Try.func20 (by kernel_rfl) rfl #[.int .i64 a0] rfl (by (try simp only [List.map_toArray, List.map_cons, List.map_nil]); first | done | rfl | (simp only [List.length_drop, List.length_take]; rfl)) ?_; (with_reducible refine (label_May.calls a0 false _ A3.out).mono ?_); rintro e w' ⟨rfl, ⟨nd, rfl⟩⟩; refine ⟨_, rfl, ?_⟩))
    go_ret2
    exact ⟨by first | rfl | (simp; done) | (simp [*]; done), by repeat (first | exact Drawn0.refl _ | apply Drawn0.step)⟩

/-! ### label_Under: function 23 -/
def label_Under.f (a0 : Int) (a1 : Int) : Option (Bool) := some ((Go.bits .or .i64 a0 a1) == a1)
set_option maxHeartbeats 8000000 in
set_option maxRecDepth 100000 in
theorem label_Under.calls (a0 : Int) (a1 : Int) (r : Bool) (w : World) (h : label_Under.f a0 a1 = some r) :
    Calls Try.prog 23 #[.int .i64 a0, .int .i64 a1] w fun e w' => e = .returned (.bool r) ∧ Drawn0 w w' := by
  have H : (some ((Go.bits .or .i64 a0 a1) == a1)) = some r := h
  clear h
  obtain rfl := Option.some.inj H
  go_enter Try.func23, Try.ntmps23
  go_wp2
  go_ret
  exact ⟨by first | rfl | (simp; done) | (simp [*]; done), by repeat (first | exact Drawn0.refl _ | apply Drawn0.step)⟩

/-! ### label_Below: function 17 -/
def label_Below.f (a0 : Int) (a1 : Int) : Option (Bool × Int) := (label_May.f a0).bind fun t103 => (if t103 = true then ((label_May.f a1).bind fun t104 => (if t104 = true then ((label_Under.f a0 a1).bind fun t105 => (some (t105, 0))) else (some (false, 100)))) else (some (false, 100)))
set_option maxHeartbeats 8000000 in
set_option maxRecDepth 100000 in
theorem label_Below.calls (a0 : Int) (a1 : Int) (r1 : Bool) (r2 : Int) (w : World) (h : label_Below.f a0 a1 = some (r1, r2)) :
    Calls Try.prog 17 #[.int .i64 a0, .int .i64 a1] w fun e w' => e = .returned (.tuple #[.bool r1, .int .i64 r2]) ∧ Drawn0 w w' := by
  have H : ((label_May.f a0).bind fun t103 => (if t103 = true then ((label_May.f a1).bind fun t104 => (if t104 = true then ((label_Under.f a0 a1).bind fun t105 => (some (t105, 0))) else (some (false, 100)))) else (some (false, 100)))) = some (r1, r2) := h
  clear h
  replace H := Option.bind_eq_some_iff.mp H
  obtain ⟨t103, A30, H⟩ := H
  replace H : (if t103 = true then ((label_May.f a1).bind fun t104 => (if t104 = true then ((label_Under.f a0 a1).bind fun t105 => (some (t105, 0))) else (some (false, 100)))) else (some (false, 100))) = some (r1, r2) := H
  have A3 := Aside0.mk A30
  clear A30
  by_cases c4 : t103 = true
  · subst c4
    have H1 : ((label_May.f a1).bind fun t104 => (if t104 = true then ((label_Under.f a0 a1).bind fun t105 => (some (t105, 0))) else (some (false, 100)))) = some (r1, r2) := by rw [if_pos rfl] at H; exact H
    clear H
    have H := H1
    clear H1
    replace H := Option.bind_eq_some_iff.mp H
    obtain ⟨t104, A50, H⟩ := H
    replace H : (if t104 = true then ((label_Under.f a0 a1).bind fun t105 => (some (t105, 0))) else (some (false, 100))) = some (r1, r2) := H
    have A5 := Aside0.mk A50
    clear A50
    by_cases c6 : t104 = true
    · subst c6
      have H1 : ((label_Under.f a0 a1).bind fun t105 => (some (t105, 0))) = some (r1, r2) := by rw [if_pos rfl] at H; exact H
      clear H
      have H := H1
      clear H1
      replace H := Option.bind_eq_some_iff.mp H
      obtain ⟨t105, A70, H⟩ := H
      replace H : (some (t105, 0)) = some (r1, r2) := H
      have A7 := Aside0.mk A70
      clear A70
      simp only [Option.some.injEq, Prod.mk.injEq] at H
      obtain ⟨rfl, rfl⟩ := H
      go_enter Try.func17, Try.ntmps17
      go_wp2_with (first | ((with_reducible refine gate_callee (f := 20) rfl ?_); refine goesL_ (some 7) rfl rfl Try.func20 (by kernel_rfl) rfl #[.int .i64 a0] rfl (by (try simp only [List.map_toArray, List.map_cons, List.map_nil]); first | done | rfl | (simp only [List.length_drop, List.length_take]; rfl)) ?_; (with_reducible refine (label_May.calls a0 true _ A3.out).mono ?_); rintro e w' ⟨rfl, ⟨nd, rfl⟩⟩; refine ⟨_, rfl, ?_⟩) | (go_at_call 20; (with_reducible refine (label_May.calls a1 true _ A5.out).mono ?_); rintro e w' ⟨rfl, ⟨nd, rfl⟩⟩) | ((with_reducible refine gate_callee (f := 23) rfl ?_); refine goesL_ (some 16) rfl rfl Try.func23 (by kernel_rfl) rfl #[.int .i64 a0, .int .i64 a1] rfl (by (try simp only [List.map_toArray, List.map_cons, List.map_nil]); first | done | rfl | (simp only [List.length_drop, List.length_take]; rfl)) ?_; (with_reducible refine (label_Under.calls a0 a1 t105 _ A7.out).mono ?_); rintro e w' ⟨rfl, ⟨nd, rfl⟩⟩; refine ⟨_, rfl, ?_⟩))
      go_ret2
      exact ⟨by first | rfl | (simp; done) | (simp [*]; done), by repeat (first | exact Drawn0.refl _ | apply Drawn0.step)⟩
    · replace c6 := Bool.eq_false_iff.mpr c6
      subst c6
      have H1 : (some (false, 100)) = some (r1, r2) := by rw [if_neg (show ¬ (false = true) by decide)] at H; exact H
      clear H
      have H := H1
      clear H1
      simp only [Option.some.injEq, Prod.mk.injEq] at H
      obtain ⟨rfl, rfl⟩ := H
      go_enter Try.func17, Try.ntmps17
      go_wp2_with (first | ((with_reducible refine gate_callee (f := 20) rfl ?_); refine goesL_ (some 7) rfl rfl Try.func20 (by kernel_rfl) rfl #[.int .i64 a0] rfl (by (try simp only [List.map_toArray, List.map_cons, List.map_nil]); first | done | rfl | (simp only [List.length_drop, List.length_take]; rfl)) ?_; (with_reducible refine (label_May.calls a0 true _ A3.out).mono ?_); rintro e w' ⟨rfl, ⟨nd, rfl⟩⟩; refine ⟨_, rfl, ?_⟩) | (go_at_call 20; (with_reducible refine (label_May.calls a1 false _ A5.out).mono ?_); rintro e w' ⟨rfl, ⟨nd, rfl⟩⟩))
      go_ret2
      exact ⟨by first | rfl | (simp; done) | (simp [*]; done), by repeat (first | exact Drawn0.refl _ | apply Drawn0.step)⟩
  · replace c4 := Bool.eq_false_iff.mpr c4
    subst c4
    have H1 : (some (false, 100)) = some (r1, r2) := by rw [if_neg (show ¬ (false = true) by decide)] at H; exact H
    clear H
    have H := H1
    clear H1
    simp only [Option.some.injEq, Prod.mk.injEq] at H
    obtain ⟨rfl, rfl⟩ := H
    go_enter Try.func17, Try.ntmps17
    go_wp2_with (first | ((with_reducible refine gate_callee (f := 20) rfl ?_); refine goesL_ (some 7) rfl rfl Try.func20 (by kernel_rfl) rfl #[.int .i64 a0] rfl (by (try simp only [List.map_toArray, List.map_cons, List.map_nil]); first | done | rfl | (simp only [List.length_drop, List.length_take]; rfl)) ?_; (with_reducible refine (label_May.calls a0 false _ A3.out).mono ?_); rintro e w' ⟨rfl, ⟨nd, rfl⟩⟩; refine ⟨_, rfl, ?_⟩))
    go_ret2
    exact ⟨by first | rfl | (simp; done) | (simp [*]; done), by repeat (first | exact Drawn0.refl _ | apply Drawn0.step)⟩

/-! ### veillaw0_Num: function 19 -/
def veillaw0_Num.f (a0 : Int) : Option (Int) := some a0
set_option maxHeartbeats 8000000 in
set_option maxRecDepth 100000 in
theorem veillaw0_Num.calls (a0 : Int) (r : Int) (w : World) (h : veillaw0_Num.f a0 = some r) :
    Calls Try.prog 19 #[.int .i64 a0] w fun e w' => e = .returned (.int .i64 r) ∧ Drawn0 w w' := by
  have H : (some a0) = some r := h
  clear h
  obtain rfl := Option.some.inj H
  go_enter Try.func19, Try.ntmps19
  go_wp2
  go_ret
  exact ⟨by first | rfl | (simp; done) | (simp [*]; done), by repeat (first | exact Drawn0.refl _ | apply Drawn0.step)⟩

/-! ### veillaw1_awake: function 22 -/
def veillaw1_awake.f  : Option (Bool) := (label_Join.f 1 2).bind fun bt106 => ((label_Below.f 1 3).bind fun bt108 => ((label_Below.f 1 2).bind fun bt110 => ((label_Join.f 4 0).bind fun bt112 => ((label_Below.f (-1) 0).bind fun bt114 => (if bt106.1 = 3 then ((veillaw0_Num.f bt106.2).bind fun t116 => (if t116 = 0 then (if bt108.1 = true then ((veillaw0_Num.f bt108.2).bind fun t117 => (if t117 = 0 then (if bt110.1 = true then (some false) else ((veillaw0_Num.f bt110.2).bind fun t118 => (if t118 = 0 then ((veillaw0_Num.f bt112.2).bind fun t119 => (if t119 = 100 then ((veillaw0_Num.f bt114.2).bind fun t120 => (if t120 = 100 then ((label_May.f 3).bind fun t121 => (if t121 = true then ((label_May.f 4).bind fun t122 => (some (!t122))) else (some false))) else (some false))) else (some false))) else (some false)))) else (some false))) else (some false)) else (some false))) else (some false))))))
set_option maxHeartbeats 8000000 in
set_option maxRecDepth 100000 in
theorem veillaw1_awake.calls  (r : Bool) (w : World) (h : veillaw1_awake.f  = some r) :
    Calls Try.prog 22 #[] w fun e w' => e = .returned (.bool r) ∧ Drawn0 w w' := by
  have H : ((label_Join.f 1 2).bind fun bt106 => ((label_Below.f 1 3).bind fun bt108 => ((label_Below.f 1 2).bind fun bt110 => ((label_Join.f 4 0).bind fun bt112 => ((label_Below.f (-1) 0).bind fun bt114 => (if bt106.1 = 3 then ((veillaw0_Num.f bt106.2).bind fun t116 => (if t116 = 0 then (if bt108.1 = true then ((veillaw0_Num.f bt108.2).bind fun t117 => (if t117 = 0 then (if bt110.1 = true then (some false) else ((veillaw0_Num.f bt110.2).bind fun t118 => (if t118 = 0 then ((veillaw0_Num.f bt112.2).bind fun t119 => (if t119 = 100 then ((veillaw0_Num.f bt114.2).bind fun t120 => (if t120 = 100 then ((label_May.f 3).bind fun t121 => (if t121 = true then ((label_May.f 4).bind fun t122 => (some (!t122))) else (some false))) else (some false))) else (some false))) else (some false)))) else (some false))) else (some false)) else (some false))) else (some false))))))) = some r := h
  clear h
  replace H := Option.bind_eq_some_iff.mp H
  obtain ⟨⟨t106, t107⟩, A10, H⟩ := H
  replace H : ((label_Below.f 1 3).bind fun bt108 => ((label_Below.f 1 2).bind fun bt110 => ((label_Join.f 4 0).bind fun bt112 => ((label_Below.f (-1) 0).bind fun bt114 => (if t106 = 3 then ((veillaw0_Num.f t107).bind fun t116 => (if t116 = 0 then (if bt108.1 = true then ((veillaw0_Num.f bt108.2).bind fun t117 => (if t117 = 0 then (if bt110.1 = true then (some false) else ((veillaw0_Num.f bt110.2).bind fun t118 => (if t118 = 0 then ((veillaw0_Num.f bt112.2).bind fun t119 => (if t119 = 100 then ((veillaw0_Num.f bt114.2).bind fun t120 => (if t120 = 100 then ((label_May.f 3).bind fun t121 => (if t121 = true then ((label_May.f 4).bind fun t122 => (some (!t122))) else (some false))) else (some false))) else (some false))) else (some false)))) else (some false))) else (some false)) else (some false))) else (some false)))))) = some r := H
  have A1 := Aside0.mk A10
  clear A10
  replace H := Option.bind_eq_some_iff.mp H
  obtain ⟨⟨t108, t109⟩, A20, H⟩ := H
  replace H : ((label_Below.f 1 2).bind fun bt110 => ((label_Join.f 4 0).bind fun bt112 => ((label_Below.f (-1) 0).bind fun bt114 => (if t106 = 3 then ((veillaw0_Num.f t107).bind fun t116 => (if t116 = 0 then (if t108 = true then ((veillaw0_Num.f t109).bind fun t117 => (if t117 = 0 then (if bt110.1 = true then (some false) else ((veillaw0_Num.f bt110.2).bind fun t118 => (if t118 = 0 then ((veillaw0_Num.f bt112.2).bind fun t119 => (if t119 = 100 then ((veillaw0_Num.f bt114.2).bind fun t120 => (if t120 = 100 then ((label_May.f 3).bind fun t121 => (if t121 = true then ((label_May.f 4).bind fun t122 => (some (!t122))) else (some false))) else (some false))) else (some false))) else (some false)))) else (some false))) else (some false)) else (some false))) else (some false))))) = some r := H
  have A2 := Aside0.mk A20
  clear A20
  replace H := Option.bind_eq_some_iff.mp H
  obtain ⟨⟨t110, t111⟩, A30, H⟩ := H
  replace H : ((label_Join.f 4 0).bind fun bt112 => ((label_Below.f (-1) 0).bind fun bt114 => (if t106 = 3 then ((veillaw0_Num.f t107).bind fun t116 => (if t116 = 0 then (if t108 = true then ((veillaw0_Num.f t109).bind fun t117 => (if t117 = 0 then (if t110 = true then (some false) else ((veillaw0_Num.f t111).bind fun t118 => (if t118 = 0 then ((veillaw0_Num.f bt112.2).bind fun t119 => (if t119 = 100 then ((veillaw0_Num.f bt114.2).bind fun t120 => (if t120 = 100 then ((label_May.f 3).bind fun t121 => (if t121 = true then ((label_May.f 4).bind fun t122 => (some (!t122))) else (some false))) else (some false))) else (some false))) else (some false)))) else (some false))) else (some false)) else (some false))) else (some false)))) = some r := H
  have A3 := Aside0.mk A30
  clear A30
  replace H := Option.bind_eq_some_iff.mp H
  obtain ⟨⟨t112, t113⟩, A40, H⟩ := H
  replace H : ((label_Below.f (-1) 0).bind fun bt114 => (if t106 = 3 then ((veillaw0_Num.f t107).bind fun t116 => (if t116 = 0 then (if t108 = true then ((veillaw0_Num.f t109).bind fun t117 => (if t117 = 0 then (if t110 = true then (some false) else ((veillaw0_Num.f t111).bind fun t118 => (if t118 = 0 then ((veillaw0_Num.f t113).bind fun t119 => (if t119 = 100 then ((veillaw0_Num.f bt114.2).bind fun t120 => (if t120 = 100 then ((label_May.f 3).bind fun t121 => (if t121 = true then ((label_May.f 4).bind fun t122 => (some (!t122))) else (some false))) else (some false))) else (some false))) else (some false)))) else (some false))) else (some false)) else (some false))) else (some false))) = some r := H
  have A4 := Aside0.mk A40
  clear A40
  replace H := Option.bind_eq_some_iff.mp H
  obtain ⟨⟨t114, t115⟩, A50, H⟩ := H
  replace H : (if t106 = 3 then ((veillaw0_Num.f t107).bind fun t116 => (if t116 = 0 then (if t108 = true then ((veillaw0_Num.f t109).bind fun t117 => (if t117 = 0 then (if t110 = true then (some false) else ((veillaw0_Num.f t111).bind fun t118 => (if t118 = 0 then ((veillaw0_Num.f t113).bind fun t119 => (if t119 = 100 then ((veillaw0_Num.f t115).bind fun t120 => (if t120 = 100 then ((label_May.f 3).bind fun t121 => (if t121 = true then ((label_May.f 4).bind fun t122 => (some (!t122))) else (some false))) else (some false))) else (some false))) else (some false)))) else (some false))) else (some false)) else (some false))) else (some false)) = some r := H
  have A5 := Aside0.mk A50
  clear A50
  by_cases c6 : t106 = 3
  · rw [if_pos c6] at H
    have c6b0 : (t106 == 3) = true := beq_iff_eq.mpr c6
    have c6b1 : (t106 != 3) = false := bne_eq_false_iff_eq.mpr c6
    clear c6
    replace H := Option.bind_eq_some_iff.mp H
    obtain ⟨t116, A70, H⟩ := H
    replace H : (if t116 = 0 then (if t108 = true then ((veillaw0_Num.f t109).bind fun t117 => (if t117 = 0 then (if t110 = true then (some false) else ((veillaw0_Num.f t111).bind fun t118 => (if t118 = 0 then ((veillaw0_Num.f t113).bind fun t119 => (if t119 = 100 then ((veillaw0_Num.f t115).bind fun t120 => (if t120 = 100 then ((label_May.f 3).bind fun t121 => (if t121 = true then ((label_May.f 4).bind fun t122 => (some (!t122))) else (some false))) else (some false))) else (some false))) else (some false)))) else (some false))) else (some false)) else (some false)) = some r := H
    have A7 := Aside0.mk A70
    clear A70
    by_cases c8 : t116 = 0
    · rw [if_pos c8] at H
      have c8b0 : (t116 == 0) = true := beq_iff_eq.mpr c8
      have c8b1 : (t116 != 0) = false := bne_eq_false_iff_eq.mpr c8
      clear c8
      by_cases c9 : t108 = true
      · subst c9
        have H1 : ((veillaw0_Num.f t109).bind fun t117 => (if t117 = 0 then (if t110 = true then (some false) else ((veillaw0_Num.f t111).bind fun t118 => (if t118 = 0 then ((veillaw0_Num.f t113).bind fun t119 => (if t119 = 100 then ((veillaw0_Num.f t115).bind fun t120 => (if t120 = 100 then ((label_May.f 3).bind fun t121 => (if t121 = true then ((label_May.f 4).bind fun t122 => (some (!t122))) else (some false))) else (some false))) else (some false))) else (some false)))) else (some false))) = some r := by rw [if_pos rfl] at H; exact H
        clear H
        have H := H1
        clear H1
        replace H := Option.bind_eq_some_iff.mp H
        obtain ⟨t117, A100, H⟩ := H
        replace H : (if t117 = 0 then (if t110 = true then (some false) else ((veillaw0_Num.f t111).bind fun t118 => (if t118 = 0 then ((veillaw0_Num.f t113).bind fun t119 => (if t119 = 100 then ((veillaw0_Num.f t115).bind fun t120 => (if t120 = 100 then ((label_May.f 3).bind fun t121 => (if t121 = true then ((label_May.f 4).bind fun t122 => (some (!t122))) else (some false))) else (some false))) else (some false))) else (some false)))) else (some false)) = some r := H
        have A10 := Aside0.mk A100
        clear A100
        by_cases c11 : t117 = 0
        · rw [if_pos c11] at H
          have c11b0 : (t117 == 0) = true := beq_iff_eq.mpr c11
          have c11b1 : (t117 != 0) = false := bne_eq_false_iff_eq.mpr c11
          clear c11
          by_cases c12 : t110 = true
          · subst c12
            have H1 : (some false) = some r := by rw [if_pos rfl] at H; exact H
            clear H
            have H := H1
            clear H1
            obtain rfl := Option.some.inj H
            go_enter Try.func22, Try.ntmps22
            go_wp2_with (first | ((with_reducible refine gate_callee (f := 15) rfl ?_); refine goesL_ (some 12) rfl rfl Try.func15 (by kernel_rfl) rfl #[.int .i64 1, .int .i64 2] rfl (by (try simp only [List.map_toArray, List.map_cons, List.map_nil]); first | done | rfl | (simp only [List.length_drop, List.length_take]; rfl)) ?_; (with_reducible refine (label_Join.calls 1 2 t106 t107 _ A1.out).mono ?_); rintro e w' ⟨rfl, ⟨nd, rfl⟩⟩; refine ⟨_, rfl, ?_⟩) | ((with_reducible refine gate_callee (f := 17) rfl ?_); refine goesL_ (some 16) rfl rfl Try.func17 (by kernel_rfl) rfl #[.int .i64 1, .int .i64 3] rfl (by (try simp only [List.map_toArray, List.map_cons, List.map_nil]); first | done | rfl | (simp only [List.length_drop, List.length_take]; rfl)) ?_; (with_reducible refine (label_Below.calls 1 3 true t109 _ A2.out).mono ?_); rintro e w' ⟨rfl, ⟨nd, rfl⟩⟩; refine ⟨_, rfl, ?_⟩) | ((with_reducible refine gate_callee (f := 17) rfl ?_); refine goesL_ (some 20) rfl rfl Try.func17 (by kernel_rfl) rfl #[.int .i64 1, .int .i64 2] rfl (by (try simp only [List.map_toArray, List.map_cons, List.map_nil]); first | done | rfl | (simp only [List.length_drop, List.length_take]; rfl)) ?_; (with_reducible refine (label_Below.calls 1 2 true t111 _ A3.out).mono ?_); rintro e w' ⟨rfl, ⟨nd, rfl⟩⟩; refine ⟨_, rfl, ?_⟩) | ((with_reducible refine gate_callee (f := 15) rfl ?_); refine goesL_ (some 24) rfl rfl Try.func15 (by kernel_rfl) rfl #[.int .i64 4, .int .i64 0] rfl (by (try simp only [List.map_toArray, List.map_cons, List.map_nil]); first | done | rfl | (simp only [List.length_drop, List.length_take]; rfl)) ?_; (with_reducible refine (label_Join.calls 4 0 t112 t113 _ A4.out).mono ?_); rintro e w' ⟨rfl, ⟨nd, rfl⟩⟩; refine ⟨_, rfl, ?_⟩) | ((with_reducible refine gate_callee (f := 17) rfl ?_); refine goesL_ (some 28) rfl rfl Try.func17 (by kernel_rfl) rfl #[.int .i64 (-1), .int .i64 0] rfl (by (try simp only [List.map_toArray, List.map_cons, List.map_nil]); first | done | rfl | (simp only [List.length_drop, List.length_take]; rfl)) ?_; (with_reducible refine (label_Below.calls (-1) 0 t114 t115 _ A5.out).mono ?_); rintro e w' ⟨rfl, ⟨nd, rfl⟩⟩; refine ⟨_, rfl, ?_⟩) | (go_at_call 19; (with_reducible refine (veillaw0_Num.calls t107 t116 _ A7.out).mono ?_); rintro e w' ⟨rfl, ⟨nd, rfl⟩⟩) | (go_at_call 19; (with_reducible refine (veillaw0_Num.calls t109 t117 _ A10.out).mono ?_); rintro e w' ⟨rfl, ⟨nd, rfl⟩⟩))
            go_ret
            exact ⟨by first | rfl | (simp; done) | (simp [*]; done), by repeat (first | exact Drawn0.refl _ | apply Drawn0.step)⟩
          · replace c12 := Bool.eq_false_iff.mpr c12
            subst c12
            have H1 : ((veillaw0_Num.f t111).bind fun t118 => (if t118 = 0 then ((veillaw0_Num.f t113).bind fun t119 => (if t119 = 100 then ((veillaw0_Num.f t115).bind fun t120 => (if t120 = 100 then ((label_May.f 3).bind fun t121 => (if t121 = true then ((label_May.f 4).bind fun t122 => (some (!t122))) else (some false))) else (some false))) else (some false))) else (some false))) = some r := by rw [if_neg (show ¬ (false = true) by decide)] at H; exact H
            clear H
            have H := H1
            clear H1
            replace H := Option.bind_eq_some_iff.mp H
            obtain ⟨t118, A130, H⟩ := H
            replace H : (if t118 = 0 then ((veillaw0_Num.f t113).bind fun t119 => (if t119 = 100 then ((veillaw0_Num.f t115).bind fun t120 => (if t120 = 100 then ((label_May.f 3).bind fun t121 => (if t121 = true then ((label_May.f 4).bind fun t122 => (some (!t122))) else (some false))) else (some false))) else (some false))) else (some false)) = some r := H
            have A13 := Aside0.mk A130
            clear A130
            by_cases c14 : t118 = 0
            · rw [if_pos c14] at H
              have c14b0 : (t118 == 0) = true := beq_iff_eq.mpr c14
              have c14b1 : (t118 != 0) = false := bne_eq_false_iff_eq.mpr c14
              clear c14
              replace H := Option.bind_eq_some_iff.mp H
              obtain ⟨t119, A150, H⟩ := H
              replace H : (if t119 = 100 then ((veillaw0_Num.f t115).bind fun t120 => (if t120 = 100 then ((label_May.f 3).bind fun t121 => (if t121 = true then ((label_May.f 4).bind fun t122 => (some (!t122))) else (some false))) else (some false))) else (some false)) = some r := H
              have A15 := Aside0.mk A150
              clear A150
              by_cases c16 : t119 = 100
              · rw [if_pos c16] at H
                have c16b0 : (t119 == 100) = true := beq_iff_eq.mpr c16
                have c16b1 : (t119 != 100) = false := bne_eq_false_iff_eq.mpr c16
                clear c16
                replace H := Option.bind_eq_some_iff.mp H
                obtain ⟨t120, A170, H⟩ := H
                replace H : (if t120 = 100 then ((label_May.f 3).bind fun t121 => (if t121 = true then ((label_May.f 4).bind fun t122 => (some (!t122))) else (some false))) else (some false)) = some r := H
                have A17 := Aside0.mk A170
                clear A170
                by_cases c18 : t120 = 100
                · rw [if_pos c18] at H
                  have c18b0 : (t120 == 100) = true := beq_iff_eq.mpr c18
                  have c18b1 : (t120 != 100) = false := bne_eq_false_iff_eq.mpr c18
                  clear c18
                  replace H := Option.bind_eq_some_iff.mp H
                  obtain ⟨t121, A190, H⟩ := H
                  replace H : (if t121 = true then ((label_May.f 4).bind fun t122 => (some (!t122))) else (some false)) = some r := H
                  have A19 := Aside0.mk A190
                  clear A190
                  by_cases c20 : t121 = true
                  · subst c20
                    have H1 : ((label_May.f 4).bind fun t122 => (some (!t122))) = some r := by rw [if_pos rfl] at H; exact H
                    clear H
                    have H := H1
                    clear H1
                    replace H := Option.bind_eq_some_iff.mp H
                    obtain ⟨t122, A210, H⟩ := H
                    replace H : (some (!t122)) = some r := H
                    have A21 := Aside0.mk A210
                    clear A210
                    obtain rfl := Option.some.inj H
                    go_enter Try.func22, Try.ntmps22
                    go_wp2_with (first | ((with_reducible refine gate_callee (f := 15) rfl ?_); refine goesL_ (some 12) rfl rfl Try.func15 (by kernel_rfl) rfl #[.int .i64 1, .int .i64 2] rfl (by (try simp only [List.map_toArray, List.map_cons, List.map_nil]); first | done | rfl | (simp only [List.length_drop, List.length_take]; rfl)) ?_; (with_reducible refine (label_Join.calls 1 2 t106 t107 _ A1.out).mono ?_); rintro e w' ⟨rfl, ⟨nd, rfl⟩⟩; refine ⟨_, rfl, ?_⟩) | ((with_reducible refine gate_callee (f := 17) rfl ?_); refine goesL_ (some 16) rfl rfl Try.func17 (by kernel_rfl) rfl #[.int .i64 1, .int .i64 3] rfl (by (try simp only [List.map_toArray, List.map_cons, List.map_nil]); first | done | rfl | (simp only [List.length_drop, List.length_take]; rfl)) ?_; (with_reducible refine (label_Below.calls 1 3 true t109 _ A2.out).mono ?_); rintro e w' ⟨rfl, ⟨nd, rfl⟩⟩; refine ⟨_, rfl, ?_⟩) | ((with_reducible refine gate_callee (f := 17) rfl ?_); refine goesL_ (some 20) rfl rfl Try.func17 (by kernel_rfl) rfl #[.int .i64 1, .int .i64 2] rfl (by (try simp only [List.map_toArray, List.map_cons, List.map_nil]); first | done | rfl | (simp only [List.length_drop, List.length_take]; rfl)) ?_; (with_reducible refine (label_Below.calls 1 2 false t111 _ A3.out).mono ?_); rintro e w' ⟨rfl, ⟨nd, rfl⟩⟩; refine ⟨_, rfl, ?_⟩) | ((with_reducible refine gate_callee (f := 15) rfl ?_); refine goesL_ (some 24) rfl rfl Try.func15 (by kernel_rfl) rfl #[.int .i64 4, .int .i64 0] rfl (by (try simp only [List.map_toArray, List.map_cons, List.map_nil]); first | done | rfl | (simp only [List.length_drop, List.length_take]; rfl)) ?_; (with_reducible refine (label_Join.calls 4 0 t112 t113 _ A4.out).mono ?_); rintro e w' ⟨rfl, ⟨nd, rfl⟩⟩; refine ⟨_, rfl, ?_⟩) | ((with_reducible refine gate_callee (f := 17) rfl ?_); refine goesL_ (some 28) rfl rfl Try.func17 (by kernel_rfl) rfl #[.int .i64 (-1), .int .i64 0] rfl (by (try simp only [List.map_toArray, List.map_cons, List.map_nil]); first | done | rfl | (simp only [List.length_drop, List.length_take]; rfl)) ?_; (with_reducible refine (label_Below.calls (-1) 0 t114 t115 _ A5.out).mono ?_); rintro e w' ⟨rfl, ⟨nd, rfl⟩⟩; refine ⟨_, rfl, ?_⟩) | (go_at_call 19; (with_reducible refine (veillaw0_Num.calls t107 t116 _ A7.out).mono ?_); rintro e w' ⟨rfl, ⟨nd, rfl⟩⟩) | (go_at_call 19; (with_reducible refine (veillaw0_Num.calls t109 t117 _ A10.out).mono ?_); rintro e w' ⟨rfl, ⟨nd, rfl⟩⟩) | (go_at_call 19; (with_reducible refine (veillaw0_Num.calls t111 t118 _ A13.out).mono ?_); rintro e w' ⟨rfl, ⟨nd, rfl⟩⟩) | (go_at_call 19; (with_reducible refine (veillaw0_Num.calls t113 t119 _ A15.out).mono ?_); rintro e w' ⟨rfl, ⟨nd, rfl⟩⟩) | (go_at_call 19; (with_reducible refine (veillaw0_Num.calls t115 t120 _ A17.out).mono ?_); rintro e w' ⟨rfl, ⟨nd, rfl⟩⟩) | (go_at_call 20; (with_reducible refine (label_May.calls 3 true _ A19.out).mono ?_); rintro e w' ⟨rfl, ⟨nd, rfl⟩⟩) | (go_at_call 20; (with_reducible refine (label_May.calls 4 t122 _ A21.out).mono ?_); rintro e w' ⟨rfl, ⟨nd, rfl⟩⟩))
                    go_ret
                    exact ⟨by first | rfl | (simp; done) | (simp [*]; done), by repeat (first | exact Drawn0.refl _ | apply Drawn0.step)⟩
                  · replace c20 := Bool.eq_false_iff.mpr c20
                    subst c20
                    have H1 : (some false) = some r := by rw [if_neg (show ¬ (false = true) by decide)] at H; exact H
                    clear H
                    have H := H1
                    clear H1
                    obtain rfl := Option.some.inj H
                    go_enter Try.func22, Try.ntmps22
                    go_wp2_with (first | ((with_reducible refine gate_callee (f := 15) rfl ?_); refine goesL_ (some 12) rfl rfl Try.func15 (by kernel_rfl) rfl #[.int .i64 1, .int .i64 2] rfl (by (try simp only [List.map_toArray, List.map_cons, List.map_nil]); first | done | rfl | (simp only [List.length_drop, List.length_take]; rfl)) ?_; (with_reducible refine (label_Join.calls 1 2 t106 t107 _ A1.out).mono ?_); rintro e w' ⟨rfl, ⟨nd, rfl⟩⟩; refine ⟨_, rfl, ?_⟩) | ((with_reducible refine gate_callee (f := 17) rfl ?_); refine goesL_ (some 16) rfl rfl Try.func17 (by kernel_rfl) rfl #[.int .i64 1, .int .i64 3] rfl (by (try simp only [List.map_toArray, List.map_cons, List.map_nil]); first | done | rfl | (simp only [List.length_drop, List.length_take]; rfl)) ?_; (with_reducible refine (label_Below.calls 1 3 true t109 _ A2.out).mono ?_); rintro e w' ⟨rfl, ⟨nd, rfl⟩⟩; refine ⟨_, rfl, ?_⟩) | ((with_reducible refine gate_callee (f := 17) rfl ?_); refine goesL_ (some 20) rfl rfl Try.func17 (by kernel_rfl) rfl #[.int .i64 1, .int .i64 2] rfl (by (try simp only [List.map_toArray, List.map_cons, List.map_nil]); first | done | rfl | (simp only [List.length_drop, List.length_take]; rfl)) ?_; (with_reducible refine (label_Below.calls 1 2 false t111 _ A3.out).mono ?_); rintro e w' ⟨rfl, ⟨nd, rfl⟩⟩; refine ⟨_, rfl, ?_⟩) | ((with_reducible refine gate_callee (f := 15) rfl ?_); refine goesL_ (some 24) rfl rfl Try.func15 (by kernel_rfl) rfl #[.int .i64 4, .int .i64 0] rfl (by (try simp only [List.map_toArray, List.map_cons, List.map_nil]); first | done | rfl | (simp only [List.length_drop, List.length_take]; rfl)) ?_; (with_reducible refine (label_Join.calls 4 0 t112 t113 _ A4.out).mono ?_); rintro e w' ⟨rfl, ⟨nd, rfl⟩⟩; refine ⟨_, rfl, ?_⟩) | ((with_reducible refine gate_callee (f := 17) rfl ?_); refine goesL_ (some 28) rfl rfl Try.func17 (by kernel_rfl) rfl #[.int .i64 (-1), .int .i64 0] rfl (by (try simp only [List.map_toArray, List.map_cons, List.map_nil]); first | done | rfl | (simp only [List.length_drop, List.length_take]; rfl)) ?_; (with_reducible refine (label_Below.calls (-1) 0 t114 t115 _ A5.out).mono ?_); rintro e w' ⟨rfl, ⟨nd, rfl⟩⟩; refine ⟨_, rfl, ?_⟩) | (go_at_call 19; (with_reducible refine (veillaw0_Num.calls t107 t116 _ A7.out).mono ?_); rintro e w' ⟨rfl, ⟨nd, rfl⟩⟩) | (go_at_call 19; (with_reducible refine (veillaw0_Num.calls t109 t117 _ A10.out).mono ?_); rintro e w' ⟨rfl, ⟨nd, rfl⟩⟩) | (go_at_call 19; (with_reducible refine (veillaw0_Num.calls t111 t118 _ A13.out).mono ?_); rintro e w' ⟨rfl, ⟨nd, rfl⟩⟩) | (go_at_call 19; (with_reducible refine (veillaw0_Num.calls t113 t119 _ A15.out).mono ?_); rintro e w' ⟨rfl, ⟨nd, rfl⟩⟩) | (go_at_call 19; (with_reducible refine (veillaw0_Num.calls t115 t120 _ A17.out).mono ?_); rintro e w' ⟨rfl, ⟨nd, rfl⟩⟩) | (go_at_call 20; (with_reducible refine (label_May.calls 3 false _ A19.out).mono ?_); rintro e w' ⟨rfl, ⟨nd, rfl⟩⟩))
                    go_ret
                    exact ⟨by first | rfl | (simp; done) | (simp [*]; done), by repeat (first | exact Drawn0.refl _ | apply Drawn0.step)⟩
                · rw [if_neg c18] at H
                  have c18b0 : (t120 == 100) = false := beq_eq_false_iff_ne.mpr c18
                  have c18b1 : (t120 != 100) = true := bne_iff_ne.mpr c18
                  obtain rfl := Option.some.inj H
                  go_enter Try.func22, Try.ntmps22
                  go_wp2_with (first | ((with_reducible refine gate_callee (f := 15) rfl ?_); refine goesL_ (some 12) rfl rfl Try.func15 (by kernel_rfl) rfl #[.int .i64 1, .int .i64 2] rfl (by (try simp only [List.map_toArray, List.map_cons, List.map_nil]); first | done | rfl | (simp only [List.length_drop, List.length_take]; rfl)) ?_; (with_reducible refine (label_Join.calls 1 2 t106 t107 _ A1.out).mono ?_); rintro e w' ⟨rfl, ⟨nd, rfl⟩⟩; refine ⟨_, rfl, ?_⟩) | ((with_reducible refine gate_callee (f := 17) rfl ?_); refine goesL_ (some 16) rfl rfl Try.func17 (by kernel_rfl) rfl #[.int .i64 1, .int .i64 3] rfl (by (try simp only [List.map_toArray, List.map_cons, List.map_nil]); first | done | rfl | (simp only [List.length_drop, List.length_take]; rfl)) ?_; (with_reducible refine (label_Below.calls 1 3 true t109 _ A2.out).mono ?_); rintro e w' ⟨rfl, ⟨nd, rfl⟩⟩; refine ⟨_, rfl, ?_⟩) | ((with_reducible refine gate_callee (f := 17) rfl ?_); refine goesL_ (some 20) rfl rfl Try.func17 (by kernel_rfl) rfl #[.int .i64 1, .int .i64 2] rfl (by (try simp only [List.map_toArray, List.map_cons, List.map_nil]); first | done | rfl | (simp only [List.length_drop, List.length_take]; rfl)) ?_; (with_reducible refine (label_Below.calls 1 2 false t111 _ A3.out).mono ?_); rintro e w' ⟨rfl, ⟨nd, rfl⟩⟩; refine ⟨_, rfl, ?_⟩) | ((with_reducible refine gate_callee (f := 15) rfl ?_); refine goesL_ (some 24) rfl rfl Try.func15 (by kernel_rfl) rfl #[.int .i64 4, .int .i64 0] rfl (by (try simp only [List.map_toArray, List.map_cons, List.map_nil]); first | done | rfl | (simp only [List.length_drop, List.length_take]; rfl)) ?_; (with_reducible refine (label_Join.calls 4 0 t112 t113 _ A4.out).mono ?_); rintro e w' ⟨rfl, ⟨nd, rfl⟩⟩; refine ⟨_, rfl, ?_⟩) | ((with_reducible refine gate_callee (f := 17) rfl ?_); refine goesL_ (some 28) rfl rfl Try.func17 (by kernel_rfl) rfl #[.int .i64 (-1), .int .i64 0] rfl (by (try simp only [List.map_toArray, List.map_cons, List.map_nil]); first | done | rfl | (simp only [List.length_drop, List.length_take]; rfl)) ?_; (with_reducible refine (label_Below.calls (-1) 0 t114 t115 _ A5.out).mono ?_); rintro e w' ⟨rfl, ⟨nd, rfl⟩⟩; refine ⟨_, rfl, ?_⟩) | (go_at_call 19; (with_reducible refine (veillaw0_Num.calls t107 t116 _ A7.out).mono ?_); rintro e w' ⟨rfl, ⟨nd, rfl⟩⟩) | (go_at_call 19; (with_reducible refine (veillaw0_Num.calls t109 t117 _ A10.out).mono ?_); rintro e w' ⟨rfl, ⟨nd, rfl⟩⟩) | (go_at_call 19; (with_reducible refine (veillaw0_Num.calls t111 t118 _ A13.out).mono ?_); rintro e w' ⟨rfl, ⟨nd, rfl⟩⟩) | (go_at_call 19; (with_reducible refine (veillaw0_Num.calls t113 t119 _ A15.out).mono ?_); rintro e w' ⟨rfl, ⟨nd, rfl⟩⟩) | (go_at_call 19; (with_reducible refine (veillaw0_Num.calls t115 t120 _ A17.out).mono ?_); rintro e w' ⟨rfl, ⟨nd, rfl⟩⟩))
                  go_ret
                  exact ⟨by first | rfl | (simp; done) | (simp [*]; done), by repeat (first | exact Drawn0.refl _ | apply Drawn0.step)⟩
              · rw [if_neg c16] at H
                have c16b0 : (t119 == 100) = false := beq_eq_false_iff_ne.mpr c16
                have c16b1 : (t119 != 100) = true := bne_iff_ne.mpr c16
                obtain rfl := Option.some.inj H
                go_enter Try.func22, Try.ntmps22
                go_wp2_with (first | ((with_reducible refine gate_callee (f := 15) rfl ?_); refine goesL_ (some 12) rfl rfl Try.func15 (by kernel_rfl) rfl #[.int .i64 1, .int .i64 2] rfl (by (try simp only [List.map_toArray, List.map_cons, List.map_nil]); first | done | rfl | (simp only [List.length_drop, List.length_take]; rfl)) ?_; (with_reducible refine (label_Join.calls 1 2 t106 t107 _ A1.out).mono ?_); rintro e w' ⟨rfl, ⟨nd, rfl⟩⟩; refine ⟨_, rfl, ?_⟩) | ((with_reducible refine gate_callee (f := 17) rfl ?_); refine goesL_ (some 16) rfl rfl Try.func17 (by kernel_rfl) rfl #[.int .i64 1, .int .i64 3] rfl (by (try simp only [List.map_toArray, List.map_cons, List.map_nil]); first | done | rfl | (simp only [List.length_drop, List.length_take]; rfl)) ?_; (with_reducible refine (label_Below.calls 1 3 true t109 _ A2.out).mono ?_); rintro e w' ⟨rfl, ⟨nd, rfl⟩⟩; refine ⟨_, rfl, ?_⟩) | ((with_reducible refine gate_callee (f := 17) rfl ?_); refine goesL_ (some 20) rfl rfl Try.func17 (by kernel_rfl) rfl #[.int .i64 1, .int .i64 2] rfl (by (try simp only [List.map_toArray, List.map_cons, List.map_nil]); first | done | rfl | (simp only [List.length_drop, List.length_take]; rfl)) ?_; (with_reducible refine (label_Below.calls 1 2 false t111 _ A3.out).mono ?_); rintro e w' ⟨rfl, ⟨nd, rfl⟩⟩; refine ⟨_, rfl, ?_⟩) | ((with_reducible refine gate_callee (f := 15) rfl ?_); refine goesL_ (some 24) rfl rfl Try.func15 (by kernel_rfl) rfl #[.int .i64 4, .int .i64 0] rfl (by (try simp only [List.map_toArray, List.map_cons, List.map_nil]); first | done | rfl | (simp only [List.length_drop, List.length_take]; rfl)) ?_; (with_reducible refine (label_Join.calls 4 0 t112 t113 _ A4.out).mono ?_); rintro e w' ⟨rfl, ⟨nd, rfl⟩⟩; refine ⟨_, rfl, ?_⟩) | ((with_reducible refine gate_callee (f := 17) rfl ?_); refine goesL_ (some 28) rfl rfl Try.func17 (by kernel_rfl) rfl #[.int .i64 (-1), .int .i64 0] rfl (by (try simp only [List.map_toArray, List.map_cons, List.map_nil]); first | done | rfl | (simp only [List.length_drop, List.length_take]; rfl)) ?_; (with_reducible refine (label_Below.calls (-1) 0 t114 t115 _ A5.out).mono ?_); rintro e w' ⟨rfl, ⟨nd, rfl⟩⟩; refine ⟨_, rfl, ?_⟩) | (go_at_call 19; (with_reducible refine (veillaw0_Num.calls t107 t116 _ A7.out).mono ?_); rintro e w' ⟨rfl, ⟨nd, rfl⟩⟩) | (go_at_call 19; (with_reducible refine (veillaw0_Num.calls t109 t117 _ A10.out).mono ?_); rintro e w' ⟨rfl, ⟨nd, rfl⟩⟩) | (go_at_call 19; (with_reducible refine (veillaw0_Num.calls t111 t118 _ A13.out).mono ?_); rintro e w' ⟨rfl, ⟨nd, rfl⟩⟩) | (go_at_call 19; (with_reducible refine (veillaw0_Num.calls t113 t119 _ A15.out).mono ?_); rintro e w' ⟨rfl, ⟨nd, rfl⟩⟩))
                go_ret
                exact ⟨by first | rfl | (simp; done) | (simp [*]; done), by repeat (first | exact Drawn0.refl _ | apply Drawn0.step)⟩
            · rw [if_neg c14] at H
              have c14b0 : (t118 == 0) = false := beq_eq_false_iff_ne.mpr c14
              have c14b1 : (t118 != 0) = true := bne_iff_ne.mpr c14
              obtain rfl := Option.some.inj H
              go_enter Try.func22, Try.ntmps22
              go_wp2_with (first | ((with_reducible refine gate_callee (f := 15) rfl ?_); refine goesL_ (some 12) rfl rfl Try.func15 (by kernel_rfl) rfl #[.int .i64 1, .int .i64 2] rfl (by (try simp only [List.map_toArray, List.map_cons, List.map_nil]); first | done | rfl | (simp only [List.length_drop, List.length_take]; rfl)) ?_; (with_reducible refine (label_Join.calls 1 2 t106 t107 _ A1.out).mono ?_); rintro e w' ⟨rfl, ⟨nd, rfl⟩⟩; refine ⟨_, rfl, ?_⟩) | ((with_reducible refine gate_callee (f := 17) rfl ?_); refine goesL_ (some 16) rfl rfl Try.func17 (by kernel_rfl) rfl #[.int .i64 1, .int .i64 3] rfl (by (try simp only [List.map_toArray, List.map_cons, List.map_nil]); first | done | rfl | (simp only [List.length_drop, List.length_take]; rfl)) ?_; (with_reducible refine (label_Below.calls 1 3 true t109 _ A2.out).mono ?_); rintro e w' ⟨rfl, ⟨nd, rfl⟩⟩; refine ⟨_, rfl, ?_⟩) | ((with_reducible refine gate_callee (f := 17) rfl ?_); refine goesL_ (some 20) rfl rfl Try.func17 (by kernel_rfl) rfl #[.int .i64 1, .int .i64 2] rfl (by (try simp only [List.map_toArray, List.map_cons, List.map_nil]); first | done | rfl | (simp only [List.length_drop, List.length_take]; rfl)) ?_; (with_reducible refine (label_Below.calls 1 2 false t111 _ A3.out).mono ?_); rintro e w' ⟨rfl, ⟨nd, rfl⟩⟩; refine ⟨_, rfl, ?_⟩) | ((with_reducible refine gate_callee (f := 15) rfl ?_); refine goesL_ (some 24) rfl rfl Try.func15 (by kernel_rfl) rfl #[.int .i64 4, .int .i64 0] rfl (by (try simp only [List.map_toArray, List.map_cons, List.map_nil]); first | done | rfl | (simp only [List.length_drop, List.length_take]; rfl)) ?_; (with_reducible refine (label_Join.calls 4 0 t112 t113 _ A4.out).mono ?_); rintro e w' ⟨rfl, ⟨nd, rfl⟩⟩; refine ⟨_, rfl, ?_⟩) | ((with_reducible refine gate_callee (f := 17) rfl ?_); refine goesL_ (some 28) rfl rfl Try.func17 (by kernel_rfl) rfl #[.int .i64 (-1), .int .i64 0] rfl (by (try simp only [List.map_toArray, List.map_cons, List.map_nil]); first | done | rfl | (simp only [List.length_drop, List.length_take]; rfl)) ?_; (with_reducible refine (label_Below.calls (-1) 0 t114 t115 _ A5.out).mono ?_); rintro e w' ⟨rfl, ⟨nd, rfl⟩⟩; refine ⟨_, rfl, ?_⟩) | (go_at_call 19; (with_reducible refine (veillaw0_Num.calls t107 t116 _ A7.out).mono ?_); rintro e w' ⟨rfl, ⟨nd, rfl⟩⟩) | (go_at_call 19; (with_reducible refine (veillaw0_Num.calls t109 t117 _ A10.out).mono ?_); rintro e w' ⟨rfl, ⟨nd, rfl⟩⟩) | (go_at_call 19; (with_reducible refine (veillaw0_Num.calls t111 t118 _ A13.out).mono ?_); rintro e w' ⟨rfl, ⟨nd, rfl⟩⟩))
              go_ret
              exact ⟨by first | rfl | (simp; done) | (simp [*]; done), by repeat (first | exact Drawn0.refl _ | apply Drawn0.step)⟩
        · rw [if_neg c11] at H
          have c11b0 : (t117 == 0) = false := beq_eq_false_iff_ne.mpr c11
          have c11b1 : (t117 != 0) = true := bne_iff_ne.mpr c11
          obtain rfl := Option.some.inj H
          go_enter Try.func22, Try.ntmps22
          go_wp2_with (first | ((with_reducible refine gate_callee (f := 15) rfl ?_); refine goesL_ (some 12) rfl rfl Try.func15 (by kernel_rfl) rfl #[.int .i64 1, .int .i64 2] rfl (by (try simp only [List.map_toArray, List.map_cons, List.map_nil]); first | done | rfl | (simp only [List.length_drop, List.length_take]; rfl)) ?_; (with_reducible refine (label_Join.calls 1 2 t106 t107 _ A1.out).mono ?_); rintro e w' ⟨rfl, ⟨nd, rfl⟩⟩; refine ⟨_, rfl, ?_⟩) | ((with_reducible refine gate_callee (f := 17) rfl ?_); refine goesL_ (some 16) rfl rfl Try.func17 (by kernel_rfl) rfl #[.int .i64 1, .int .i64 3] rfl (by (try simp only [List.map_toArray, List.map_cons, List.map_nil]); first | done | rfl | (simp only [List.length_drop, List.length_take]; rfl)) ?_; (with_reducible refine (label_Below.calls 1 3 true t109 _ A2.out).mono ?_); rintro e w' ⟨rfl, ⟨nd, rfl⟩⟩; refine ⟨_, rfl, ?_⟩) | ((with_reducible refine gate_callee (f := 17) rfl ?_); refine goesL_ (some 20) rfl rfl Try.func17 (by kernel_rfl) rfl #[.int .i64 1, .int .i64 2] rfl (by (try simp only [List.map_toArray, List.map_cons, List.map_nil]); first | done | rfl | (simp only [List.length_drop, List.length_take]; rfl)) ?_; (with_reducible refine (label_Below.calls 1 2 t110 t111 _ A3.out).mono ?_); rintro e w' ⟨rfl, ⟨nd, rfl⟩⟩; refine ⟨_, rfl, ?_⟩) | ((with_reducible refine gate_callee (f := 15) rfl ?_); refine goesL_ (some 24) rfl rfl Try.func15 (by kernel_rfl) rfl #[.int .i64 4, .int .i64 0] rfl (by (try simp only [List.map_toArray, List.map_cons, List.map_nil]); first | done | rfl | (simp only [List.length_drop, List.length_take]; rfl)) ?_; (with_reducible refine (label_Join.calls 4 0 t112 t113 _ A4.out).mono ?_); rintro e w' ⟨rfl, ⟨nd, rfl⟩⟩; refine ⟨_, rfl, ?_⟩) | ((with_reducible refine gate_callee (f := 17) rfl ?_); refine goesL_ (some 28) rfl rfl Try.func17 (by kernel_rfl) rfl #[.int .i64 (-1), .int .i64 0] rfl (by (try simp only [List.map_toArray, List.map_cons, List.map_nil]); first | done | rfl | (simp only [List.length_drop, List.length_take]; rfl)) ?_; (with_reducible refine (label_Below.calls (-1) 0 t114 t115 _ A5.out).mono ?_); rintro e w' ⟨rfl, ⟨nd, rfl⟩⟩; refine ⟨_, rfl, ?_⟩) | (go_at_call 19; (with_reducible refine (veillaw0_Num.calls t107 t116 _ A7.out).mono ?_); rintro e w' ⟨rfl, ⟨nd, rfl⟩⟩) | (go_at_call 19; (with_reducible refine (veillaw0_Num.calls t109 t117 _ A10.out).mono ?_); rintro e w' ⟨rfl, ⟨nd, rfl⟩⟩))
          go_ret
          exact ⟨by first | rfl | (simp; done) | (simp [*]; done), by repeat (first | exact Drawn0.refl _ | apply Drawn0.step)⟩
      · replace c9 := Bool.eq_false_iff.mpr c9
        subst c9
        have H1 : (some false) = some r := by rw [if_neg (show ¬ (false = true) by decide)] at H; exact H
        clear H
        have H := H1
        clear H1
        obtain rfl := Option.some.inj H
        go_enter Try.func22, Try.ntmps22
        go_wp2_with (first | ((with_reducible refine gate_callee (f := 15) rfl ?_); refine goesL_ (some 12) rfl rfl Try.func15 (by kernel_rfl) rfl #[.int .i64 1, .int .i64 2] rfl (by (try simp only [List.map_toArray, List.map_cons, List.map_nil]); first | done | rfl | (simp only [List.length_drop, List.length_take]; rfl)) ?_; (with_reducible refine (label_Join.calls 1 2 t106 t107 _ A1.out).mono ?_); rintro e w' ⟨rfl, ⟨nd, rfl⟩⟩; refine ⟨_, rfl, ?_⟩) | ((with_reducible refine gate_callee (f := 17) rfl ?_); refine goesL_ (some 16) rfl rfl Try.func17 (by kernel_rfl) rfl #[.int .i64 1, .int .i64 3] rfl (by (try simp only [List.map_toArray, List.map_cons, List.map_nil]); first | done | rfl | (simp only [List.length_drop, List.length_take]; rfl)) ?_; (with_reducible refine (label_Below.calls 1 3 false t109 _ A2.out).mono ?_); rintro e w' ⟨rfl, ⟨nd, rfl⟩⟩; refine ⟨_, rfl, ?_⟩) | ((with_reducible refine gate_callee (f := 17) rfl ?_); refine goesL_ (some 20) rfl rfl Try.func17 (by kernel_rfl) rfl #[.int .i64 1, .int .i64 2] rfl (by (try simp only [List.map_toArray, List.map_cons, List.map_nil]); first | done | rfl | (simp only [List.length_drop, List.length_take]; rfl)) ?_; (with_reducible refine (label_Below.calls 1 2 t110 t111 _ A3.out).mono ?_); rintro e w' ⟨rfl, ⟨nd, rfl⟩⟩; refine ⟨_, rfl, ?_⟩) | ((with_reducible refine gate_callee (f := 15) rfl ?_); refine goesL_ (some 24) rfl rfl Try.func15 (by kernel_rfl) rfl #[.int .i64 4, .int .i64 0] rfl (by (try simp only [List.map_toArray, List.map_cons, List.map_nil]); first | done | rfl | (simp only [List.length_drop, List.length_take]; rfl)) ?_; (with_reducible refine (label_Join.calls 4 0 t112 t113 _ A4.out).mono ?_); rintro e w' ⟨rfl, ⟨nd, rfl⟩⟩; refine ⟨_, rfl, ?_⟩) | ((with_reducible refine gate_callee (f := 17) rfl ?_); refine goesL_ (some 28) rfl rfl Try.func17 (by kernel_rfl) rfl #[.int .i64 (-1), .int .i64 0] rfl (by (try simp only [List.map_toArray, List.map_cons, List.map_nil]); first | done | rfl | (simp only [List.length_drop, List.length_take]; rfl)) ?_; (with_reducible refine (label_Below.calls (-1) 0 t114 t115 _ A5.out).mono ?_); rintro e w' ⟨rfl, ⟨nd, rfl⟩⟩; refine ⟨_, rfl, ?_⟩) | (go_at_call 19; (with_reducible refine (veillaw0_Num.calls t107 t116 _ A7.out).mono ?_); rintro e w' ⟨rfl, ⟨nd, rfl⟩⟩))
        go_ret
        exact ⟨by first | rfl | (simp; done) | (simp [*]; done), by repeat (first | exact Drawn0.refl _ | apply Drawn0.step)⟩
    · rw [if_neg c8] at H
      have c8b0 : (t116 == 0) = false := beq_eq_false_iff_ne.mpr c8
      have c8b1 : (t116 != 0) = true := bne_iff_ne.mpr c8
      obtain rfl := Option.some.inj H
      go_enter Try.func22, Try.ntmps22
      go_wp2_with (first | ((with_reducible refine gate_callee (f := 15) rfl ?_); refine goesL_ (some 12) rfl rfl Try.func15 (by kernel_rfl) rfl #[.int .i64 1, .int .i64 2] rfl (by (try simp only [List.map_toArray, List.map_cons, List.map_nil]); first | done | rfl | (simp only [List.length_drop, List.length_take]; rfl)) ?_; (with_reducible refine (label_Join.calls 1 2 t106 t107 _ A1.out).mono ?_); rintro e w' ⟨rfl, ⟨nd, rfl⟩⟩; refine ⟨_, rfl, ?_⟩) | ((with_reducible refine gate_callee (f := 17) rfl ?_); refine goesL_ (some 16) rfl rfl Try.func17 (by kernel_rfl) rfl #[.int .i64 1, .int .i64 3] rfl (by (try simp only [List.map_toArray, List.map_cons, List.map_nil]); first | done | rfl | (simp only [List.length_drop, List.length_take]; rfl)) ?_; (with_reducible refine (label_Below.calls 1 3 t108 t109 _ A2.out).mono ?_); rintro e w' ⟨rfl, ⟨nd, rfl⟩⟩; refine ⟨_, rfl, ?_⟩) | ((with_reducible refine gate_callee (f := 17) rfl ?_); refine goesL_ (some 20) rfl rfl Try.func17 (by kernel_rfl) rfl #[.int .i64 1, .int .i64 2] rfl (by (try simp only [List.map_toArray, List.map_cons, List.map_nil]); first | done | rfl | (simp only [List.length_drop, List.length_take]; rfl)) ?_; (with_reducible refine (label_Below.calls 1 2 t110 t111 _ A3.out).mono ?_); rintro e w' ⟨rfl, ⟨nd, rfl⟩⟩; refine ⟨_, rfl, ?_⟩) | ((with_reducible refine gate_callee (f := 15) rfl ?_); refine goesL_ (some 24) rfl rfl Try.func15 (by kernel_rfl) rfl #[.int .i64 4, .int .i64 0] rfl (by (try simp only [List.map_toArray, List.map_cons, List.map_nil]); first | done | rfl | (simp only [List.length_drop, List.length_take]; rfl)) ?_; (with_reducible refine (label_Join.calls 4 0 t112 t113 _ A4.out).mono ?_); rintro e w' ⟨rfl, ⟨nd, rfl⟩⟩; refine ⟨_, rfl, ?_⟩) | ((with_reducible refine gate_callee (f := 17) rfl ?_); refine goesL_ (some 28) rfl rfl Try.func17 (by kernel_rfl) rfl #[.int .i64 (-1), .int .i64 0] rfl (by (try simp only [List.map_toArray, List.map_cons, List.map_nil]); first | done | rfl | (simp only [List.length_drop, List.length_take]; rfl)) ?_; (with_reducible refine (label_Below.calls (-1) 0 t114 t115 _ A5.out).mono ?_); rintro e w' ⟨rfl, ⟨nd, rfl⟩⟩; refine ⟨_, rfl, ?_⟩) | (go_at_call 19; (with_reducible refine (veillaw0_Num.calls t107 t116 _ A7.out).mono ?_); rintro e w' ⟨rfl, ⟨nd, rfl⟩⟩))
      go_ret
      exact ⟨by first | rfl | (simp; done) | (simp [*]; done), by repeat (first | exact Drawn0.refl _ | apply Drawn0.step)⟩
  · rw [if_neg c6] at H
    have c6b0 : (t106 == 3) = false := beq_eq_false_iff_ne.mpr c6
    have c6b1 : (t106 != 3) = true := bne_iff_ne.mpr c6
    obtain rfl := Option.some.inj H
    go_enter Try.func22, Try.ntmps22
    go_wp2_with (first | ((with_reducible refine gate_callee (f := 15) rfl ?_); refine goesL_ (some 12) rfl rfl Try.func15 (by kernel_rfl) rfl #[.int .i64 1, .int .i64 2] rfl (by (try simp only [List.map_toArray, List.map_cons, List.map_nil]); first | done | rfl | (simp only [List.length_drop, List.length_take]; rfl)) ?_; (with_reducible refine (label_Join.calls 1 2 t106 t107 _ A1.out).mono ?_); rintro e w' ⟨rfl, ⟨nd, rfl⟩⟩; refine ⟨_, rfl, ?_⟩) | ((with_reducible refine gate_callee (f := 17) rfl ?_); refine goesL_ (some 16) rfl rfl Try.func17 (by kernel_rfl) rfl #[.int .i64 1, .int .i64 3] rfl (by (try simp only [List.map_toArray, List.map_cons, List.map_nil]); first | done | rfl | (simp only [List.length_drop, List.length_take]; rfl)) ?_; (with_reducible refine (label_Below.calls 1 3 t108 t109 _ A2.out).mono ?_); rintro e w' ⟨rfl, ⟨nd, rfl⟩⟩; refine ⟨_, rfl, ?_⟩) | ((with_reducible refine gate_callee (f := 17) rfl ?_); refine goesL_ (some 20) rfl rfl Try.func17 (by kernel_rfl) rfl #[.int .i64 1, .int .i64 2] rfl (by (try simp only [List.map_toArray, List.map_cons, List.map_nil]); first | done | rfl | (simp only [List.length_drop, List.length_take]; rfl)) ?_; (with_reducible refine (label_Below.calls 1 2 t110 t111 _ A3.out).mono ?_); rintro e w' ⟨rfl, ⟨nd, rfl⟩⟩; refine ⟨_, rfl, ?_⟩) | ((with_reducible refine gate_callee (f := 15) rfl ?_); refine goesL_ (some 24) rfl rfl Try.func15 (by kernel_rfl) rfl #[.int .i64 4, .int .i64 0] rfl (by (try simp only [List.map_toArray, List.map_cons, List.map_nil]); first | done | rfl | (simp only [List.length_drop, List.length_take]; rfl)) ?_; (with_reducible refine (label_Join.calls 4 0 t112 t113 _ A4.out).mono ?_); rintro e w' ⟨rfl, ⟨nd, rfl⟩⟩; refine ⟨_, rfl, ?_⟩) | ((with_reducible refine gate_callee (f := 17) rfl ?_); refine goesL_ (some 28) rfl rfl Try.func17 (by kernel_rfl) rfl #[.int .i64 (-1), .int .i64 0] rfl (by (try simp only [List.map_toArray, List.map_cons, List.map_nil]); first | done | rfl | (simp only [List.length_drop, List.length_take]; rfl)) ?_; (with_reducible refine (label_Below.calls (-1) 0 t114 t115 _ A5.out).mono ?_); rintro e w' ⟨rfl, ⟨nd, rfl⟩⟩; refine ⟨_, rfl, ?_⟩))
    go_ret
    exact ⟨by first | rfl | (simp; done) | (simp [*]; done), by repeat (first | exact Drawn0.refl _ | apply Drawn0.step)⟩

/-! ### veillaw1_LabelLattice: function 5 -/
def veillaw1_LabelLattice.f (a0 : Int) (a1 : Int) (a2 : Int) : Option (Bool) := (veillaw1_awake.f).bind fun t123 => (if t123 = true then ((label_Join.f (Go.bits .and .i64 a0 3) (Go.bits .and .i64 a1 3)).bind fun bt124 => ((label_Join.f (Go.bits .and .i64 a1 3) (Go.bits .and .i64 a0 3)).bind fun bt126 => ((label_Below.f (Go.bits .and .i64 a0 3) bt124.1).bind fun bt128 => ((label_Below.f (Go.bits .and .i64 a0 3) (Go.bits .and .i64 a2 3)).bind fun bt130 => ((label_Below.f (Go.bits .and .i64 a1 3) (Go.bits .and .i64 a2 3)).bind fun bt132 => ((label_Below.f bt124.1 (Go.bits .and .i64 a2 3)).bind fun bt134 => ((label_Below.f (Go.bits .and .i64 a0 3) (Go.bits .and .i64 a1 3)).bind fun bt136 => ((label_Below.f (Go.bits .and .i64 a1 3) (Go.bits .and .i64 a0 3)).bind fun bt138 => ((veillaw0_Num.f bt124.2).bind fun t140 => (if t140 = 0 then ((veillaw0_Num.f bt126.2).bind fun t141 => (if t141 = 0 then (if bt124.1 = bt126.1 then (if bt128.1 = true then ((veillaw0_Num.f bt128.2).bind fun t142 => (if t142 = 0 then ((veillaw0_Num.f bt130.2).bind fun t143 => (if t143 = 0 then ((veillaw0_Num.f bt132.2).bind fun t144 => (if t144 = 0 then ((veillaw0_Num.f bt134.2).bind fun t145 => (if t145 = 0 then (if bt130.1 = true then (if (bt134.1 == bt132.1) = true then ((veillaw0_Num.f bt136.2).bind fun t146 => (if t146 = 0 then ((veillaw0_Num.f bt138.2).bind fun t147 => (if t147 = 0 then (if bt136.1 = true then (some (bt138.1 == ((Go.bits .and .i64 a0 3) == (Go.bits .and .i64 a1 3)))) else (some (false == ((Go.bits .and .i64 a0 3) == (Go.bits .and .i64 a1 3))))) else (some false))) else (some false))) else (some false)) else (if (bt134.1 == false) = true then ((veillaw0_Num.f bt136.2).bind fun t148 => (if t148 = 0 then ((veillaw0_Num.f bt138.2).bind fun t149 => (if t149 = 0 then (if bt136.1 = true then (some (bt138.1 == ((Go.bits .and .i64 a0 3) == (Go.bits .and .i64 a1 3)))) else (some (false == ((Go.bits .and .i64 a0 3) == (Go.bits .and .i64 a1 3))))) else (some false))) else (some false))) else (some false))) else (some false))) else (some false))) else (some false))) else (some false))) else (some false)) else (some false)) else (some false))) else (some false))))))))))) else (some false))
set_option maxHeartbeats 8000000 in
set_option maxRecDepth 100000 in
theorem veillaw1_LabelLattice.calls (a0 : Int) (a1 : Int) (a2 : Int) (r : Bool) (w : World) (h : veillaw1_LabelLattice.f a0 a1 a2 = some r) (hr : r = true := by rfl) :
    Calls Try.prog 5 #[.int .i64 a0, .int .i64 a1, .int .i64 a2] w fun e w' => e = .returned (.bool r) ∧ Drawn0 w w' := by
  have H : ((veillaw1_awake.f).bind fun t123 => (if t123 = true then ((label_Join.f (Go.bits .and .i64 a0 3) (Go.bits .and .i64 a1 3)).bind fun bt124 => ((label_Join.f (Go.bits .and .i64 a1 3) (Go.bits .and .i64 a0 3)).bind fun bt126 => ((label_Below.f (Go.bits .and .i64 a0 3) bt124.1).bind fun bt128 => ((label_Below.f (Go.bits .and .i64 a0 3) (Go.bits .and .i64 a2 3)).bind fun bt130 => ((label_Below.f (Go.bits .and .i64 a1 3) (Go.bits .and .i64 a2 3)).bind fun bt132 => ((label_Below.f bt124.1 (Go.bits .and .i64 a2 3)).bind fun bt134 => ((label_Below.f (Go.bits .and .i64 a0 3) (Go.bits .and .i64 a1 3)).bind fun bt136 => ((label_Below.f (Go.bits .and .i64 a1 3) (Go.bits .and .i64 a0 3)).bind fun bt138 => ((veillaw0_Num.f bt124.2).bind fun t140 => (if t140 = 0 then ((veillaw0_Num.f bt126.2).bind fun t141 => (if t141 = 0 then (if bt124.1 = bt126.1 then (if bt128.1 = true then ((veillaw0_Num.f bt128.2).bind fun t142 => (if t142 = 0 then ((veillaw0_Num.f bt130.2).bind fun t143 => (if t143 = 0 then ((veillaw0_Num.f bt132.2).bind fun t144 => (if t144 = 0 then ((veillaw0_Num.f bt134.2).bind fun t145 => (if t145 = 0 then (if bt130.1 = true then (if (bt134.1 == bt132.1) = true then ((veillaw0_Num.f bt136.2).bind fun t146 => (if t146 = 0 then ((veillaw0_Num.f bt138.2).bind fun t147 => (if t147 = 0 then (if bt136.1 = true then (some (bt138.1 == ((Go.bits .and .i64 a0 3) == (Go.bits .and .i64 a1 3)))) else (some (false == ((Go.bits .and .i64 a0 3) == (Go.bits .and .i64 a1 3))))) else (some false))) else (some false))) else (some false)) else (if (bt134.1 == false) = true then ((veillaw0_Num.f bt136.2).bind fun t148 => (if t148 = 0 then ((veillaw0_Num.f bt138.2).bind fun t149 => (if t149 = 0 then (if bt136.1 = true then (some (bt138.1 == ((Go.bits .and .i64 a0 3) == (Go.bits .and .i64 a1 3)))) else (some (false == ((Go.bits .and .i64 a0 3) == (Go.bits .and .i64 a1 3))))) else (some false))) else (some false))) else (some false))) else (some false))) else (some false))) else (some false))) else (some false))) else (some false)) else (some false)) else (some false))) else (some false))))))))))) else (some false))) = some r := h
  clear h
  replace H := Option.bind_eq_some_iff.mp H
  obtain ⟨t123, A40, H⟩ := H
  replace H : (if t123 = true then ((label_Join.f (Go.bits .and .i64 a0 3) (Go.bits .and .i64 a1 3)).bind fun bt124 => ((label_Join.f (Go.bits .and .i64 a1 3) (Go.bits .and .i64 a0 3)).bind fun bt126 => ((label_Below.f (Go.bits .and .i64 a0 3) bt124.1).bind fun bt128 => ((label_Below.f (Go.bits .and .i64 a0 3) (Go.bits .and .i64 a2 3)).bind fun bt130 => ((label_Below.f (Go.bits .and .i64 a1 3) (Go.bits .and .i64 a2 3)).bind fun bt132 => ((label_Below.f bt124.1 (Go.bits .and .i64 a2 3)).bind fun bt134 => ((label_Below.f (Go.bits .and .i64 a0 3) (Go.bits .and .i64 a1 3)).bind fun bt136 => ((label_Below.f (Go.bits .and .i64 a1 3) (Go.bits .and .i64 a0 3)).bind fun bt138 => ((veillaw0_Num.f bt124.2).bind fun t140 => (if t140 = 0 then ((veillaw0_Num.f bt126.2).bind fun t141 => (if t141 = 0 then (if bt124.1 = bt126.1 then (if bt128.1 = true then ((veillaw0_Num.f bt128.2).bind fun t142 => (if t142 = 0 then ((veillaw0_Num.f bt130.2).bind fun t143 => (if t143 = 0 then ((veillaw0_Num.f bt132.2).bind fun t144 => (if t144 = 0 then ((veillaw0_Num.f bt134.2).bind fun t145 => (if t145 = 0 then (if bt130.1 = true then (if (bt134.1 == bt132.1) = true then ((veillaw0_Num.f bt136.2).bind fun t146 => (if t146 = 0 then ((veillaw0_Num.f bt138.2).bind fun t147 => (if t147 = 0 then (if bt136.1 = true then (some (bt138.1 == ((Go.bits .and .i64 a0 3) == (Go.bits .and .i64 a1 3)))) else (some (false == ((Go.bits .and .i64 a0 3) == (Go.bits .and .i64 a1 3))))) else (some false))) else (some false))) else (some false)) else (if (bt134.1 == false) = true then ((veillaw0_Num.f bt136.2).bind fun t148 => (if t148 = 0 then ((veillaw0_Num.f bt138.2).bind fun t149 => (if t149 = 0 then (if bt136.1 = true then (some (bt138.1 == ((Go.bits .and .i64 a0 3) == (Go.bits .and .i64 a1 3)))) else (some (false == ((Go.bits .and .i64 a0 3) == (Go.bits .and .i64 a1 3))))) else (some false))) else (some false))) else (some false))) else (some false))) else (some false))) else (some false))) else (some false))) else (some false)) else (some false)) else (some false))) else (some false))))))))))) else (some false)) = some r := H
  have A4 := Aside0.mk A40
  clear A40
  by_cases c5 : t123 = true
  · subst c5
    have H1 : ((label_Join.f (Go.bits .and .i64 a0 3) (Go.bits .and .i64 a1 3)).bind fun bt124 => ((label_Join.f (Go.bits .and .i64 a1 3) (Go.bits .and .i64 a0 3)).bind fun bt126 => ((label_Below.f (Go.bits .and .i64 a0 3) bt124.1).bind fun bt128 => ((label_Below.f (Go.bits .and .i64 a0 3) (Go.bits .and .i64 a2 3)).bind fun bt130 => ((label_Below.f (Go.bits .and .i64 a1 3) (Go.bits .and .i64 a2 3)).bind fun bt132 => ((label_Below.f bt124.1 (Go.bits .and .i64 a2 3)).bind fun bt134 => ((label_Below.f (Go.bits .and .i64 a0 3) (Go.bits .and .i64 a1 3)).bind fun bt136 => ((label_Below.f (Go.bits .and .i64 a1 3) (Go.bits .and .i64 a0 3)).bind fun bt138 => ((veillaw0_Num.f bt124.2).bind fun t140 => (if t140 = 0 then ((veillaw0_Num.f bt126.2).bind fun t141 => (if t141 = 0 then (if bt124.1 = bt126.1 then (if bt128.1 = true then ((veillaw0_Num.f bt128.2).bind fun t142 => (if t142 = 0 then ((veillaw0_Num.f bt130.2).bind fun t143 => (if t143 = 0 then ((veillaw0_Num.f bt132.2).bind fun t144 => (if t144 = 0 then ((veillaw0_Num.f bt134.2).bind fun t145 => (if t145 = 0 then (if bt130.1 = true then (if (bt134.1 == bt132.1) = true then ((veillaw0_Num.f bt136.2).bind fun t146 => (if t146 = 0 then ((veillaw0_Num.f bt138.2).bind fun t147 => (if t147 = 0 then (if bt136.1 = true then (some (bt138.1 == ((Go.bits .and .i64 a0 3) == (Go.bits .and .i64 a1 3)))) else (some (false == ((Go.bits .and .i64 a0 3) == (Go.bits .and .i64 a1 3))))) else (some false))) else (some false))) else (some false)) else (if (bt134.1 == false) = true then ((veillaw0_Num.f bt136.2).bind fun t148 => (if t148 = 0 then ((veillaw0_Num.f bt138.2).bind fun t149 => (if t149 = 0 then (if bt136.1 = true then (some (bt138.1 == ((Go.bits .and .i64 a0 3) == (Go.bits .and .i64 a1 3)))) else (some (false == ((Go.bits .and .i64 a0 3) == (Go.bits .and .i64 a1 3))))) else (some false))) else (some false))) else (some false))) else (some false))) else (some false))) else (some false))) else (some false))) else (some false)) else (some false)) else (some false))) else (some false))))))))))) = some r := by rw [if_pos rfl] at H; exact H
    clear H
    have H := H1
    clear H1
    replace H := Option.bind_eq_some_iff.mp H
    obtain ⟨⟨t124, t125⟩, A60, H⟩ := H
    replace H : ((label_Join.f (Go.bits .and .i64 a1 3) (Go.bits .and .i64 a0 3)).bind fun bt126 => ((label_Below.f (Go.bits .and .i64 a0 3) t124).bind fun bt128 => ((label_Below.f (Go.bits .and .i64 a0 3) (Go.bits .and .i64 a2 3)).bind fun bt130 => ((label_Below.f (Go.bits .and .i64 a1 3) (Go.bits .and .i64 a2 3)).bind fun bt132 => ((label_Below.f t124 (Go.bits .and .i64 a2 3)).bind fun bt134 => ((label_Below.f (Go.bits .and .i64 a0 3) (Go.bits .and .i64 a1 3)).bind fun bt136 => ((label_Below.f (Go.bits .and .i64 a1 3) (Go.bits .and .i64 a0 3)).bind fun bt138 => ((veillaw0_Num.f t125).bind fun t140 => (if t140 = 0 then ((veillaw0_Num.f bt126.2).bind fun t141 => (if t141 = 0 then (if t124 = bt126.1 then (if bt128.1 = true then ((veillaw0_Num.f bt128.2).bind fun t142 => (if t142 = 0 then ((veillaw0_Num.f bt130.2).bind fun t143 => (if t143 = 0 then ((veillaw0_Num.f bt132.2).bind fun t144 => (if t144 = 0 then ((veillaw0_Num.f bt134.2).bind fun t145 => (if t145 = 0 then (if bt130.1 = true then (if (bt134.1 == bt132.1) = true then ((veillaw0_Num.f bt136.2).bind fun t146 => (if t146 = 0 then ((veillaw0_Num.f bt138.2).bind fun t147 => (if t147 = 0 then (if bt136.1 = true then (some (bt138.1 == ((Go.bits .and .i64 a0 3) == (Go.bits .and .i64 a1 3)))) else (some (false == ((Go.bits .and .i64 a0 3) == (Go.bits .and .i64 a1 3))))) else (some false))) else (some false))) else (some false)) else (if (bt134.1 == false) = true then ((veillaw0_Num.f bt136.2).bind fun t148 => (if t148 = 0 then ((veillaw0_Num.f bt138.2).bind fun t149 => (if t149 = 0 then (if bt136.1 = true then (some (bt138.1 == ((Go.bits .and .i64 a0 3) == (Go.bits .and .i64 a1 3)))) else (some (false == ((Go.bits .and .i64 a0 3) == (Go.bits .and .i64 a1 3))))) else (some false))) else (some false))) else (some false))) else (some false))) else (some false))) else (some false))) else (some false))) else (some false)) else (some false)) else (some false))) else (some false)))))))))) = some r := H
    have A6 := Aside0.mk A60
    clear A60
    replace H := Option.bind_eq_some_iff.mp H
    obtain ⟨⟨t126, t127⟩, A70, H⟩ := H
    replace H : ((label_Below.f (Go.bits .and .i64 a0 3) t124).bind fun bt128 => ((label_Below.f (Go.bits .and .i64 a0 3) (Go.bits .and .i64 a2 3)).bind fun bt130 => ((label_Below.f (Go.bits .and .i64 a1 3) (Go.bits .and .i64 a2 3)).bind fun bt132 => ((label_Below.f t124 (Go.bits .and .i64 a2 3)).bind fun bt134 => ((label_Below.f (Go.bits .and .i64 a0 3) (Go.bits .and .i64 a1 3)).bind fun bt136 => ((label_Below.f (Go.bits .and .i64 a1 3) (Go.bits .and .i64 a0 3)).bind fun bt138 => ((veillaw0_Num.f t125).bind fun t140 => (if t140 = 0 then ((veillaw0_Num.f t127).bind fun t141 => (if t141 = 0 then (if t124 = t126 then (if bt128.1 = true then ((veillaw0_Num.f bt128.2).bind fun t142 => (if t142 = 0 then ((veillaw0_Num.f bt130.2).bind fun t143 => (if t143 = 0 then ((veillaw0_Num.f bt132.2).bind fun t144 => (if t144 = 0 then ((veillaw0_Num.f bt134.2).bind fun t145 => (if t145 = 0 then (if bt130.1 = true then (if (bt134.1 == bt132.1) = true then ((veillaw0_Num.f bt136.2).bind fun t146 => (if t146 = 0 then ((veillaw0_Num.f bt138.2).bind fun t147 => (if t147 = 0 then (if bt136.1 = true then (some (bt138.1 == ((Go.bits .and .i64 a0 3) == (Go.bits .and .i64 a1 3)))) else (some (false == ((Go.bits .and .i64 a0 3) == (Go.bits .and .i64 a1 3))))) else (some false))) else (some false))) else (some false)) else (if (bt134.1 == false) = true then ((veillaw0_Num.f bt136.2).bind fun t148 => (if t148 = 0 then ((veillaw0_Num.f bt138.2).bind fun t149 => (if t149 = 0 then (if bt136.1 = true then (some (bt138.1 == ((Go.bits .and .i64 a0 3) == (Go.bits .and .i64 a1 3)))) else (some (false == ((Go.bits .and .i64 a0 3) == (Go.bits .and .i64 a1 3))))) else (some false))) else (some false))) else (some false))) else (some false))) else (some false))) else (some false))) else (some false))) else (some false)) else (some false)) else (some false))) else (some false))))))))) = some r := H
    have A7 := Aside0.mk A70
    clear A70
    replace H := Option.bind_eq_some_iff.mp H
    obtain ⟨⟨t128, t129⟩, A80, H⟩ := H
    replace H : ((label_Below.f (Go.bits .and .i64 a0 3) (Go.bits .and .i64 a2 3)).bind fun bt130 => ((label_Below.f (Go.bits .and .i64 a1 3) (Go.bits .and .i64 a2 3)).bind fun bt132 => ((label_Below.f t124 (Go.bits .and .i64 a2 3)).bind fun bt134 => ((label_Below.f (Go.bits .and .i64 a0 3) (Go.bits .and .i64 a1 3)).bind fun bt136 => ((label_Below.f (Go.bits .and .i64 a1 3) (Go.bits .and .i64 a0 3)).bind fun bt138 => ((veillaw0_Num.f t125).bind fun t140 => (if t140 = 0 then ((veillaw0_Num.f t127).bind fun t141 => (if t141 = 0 then (if t124 = t126 then (if t128 = true then ((veillaw0_Num.f t129).bind fun t142 => (if t142 = 0 then ((veillaw0_Num.f bt130.2).bind fun t143 => (if t143 = 0 then ((veillaw0_Num.f bt132.2).bind fun t144 => (if t144 = 0 then ((veillaw0_Num.f bt134.2).bind fun t145 => (if t145 = 0 then (if bt130.1 = true then (if (bt134.1 == bt132.1) = true then ((veillaw0_Num.f bt136.2).bind fun t146 => (if t146 = 0 then ((veillaw0_Num.f bt138.2).bind fun t147 => (if t147 = 0 then (if bt136.1 = true then (some (bt138.1 == ((Go.bits .and .i64 a0 3) == (Go.bits .and .i64 a1 3)))) else (some (false == ((Go.bits .and .i64 a0 3) == (Go.bits .and .i64 a1 3))))) else (some false))) else (some false))) else (some false)) else (if (bt134.1 == false) = true then ((veillaw0_Num.f bt136.2).bind fun t148 => (if t148 = 0 then ((veillaw0_Num.f bt138.2).bind fun t149 => (if t149 = 0 then (if bt136.1 = true then (some (bt138.1 == ((Go.bits .and .i64 a0 3) == (Go.bits .and .i64 a1 3)))) else (some (false == ((Go.bits .and .i64 a0 3) == (Go.bits .and .i64 a1 3))))) else (some false))) else (some false))) else (some false))) else (some false))) else (some false))) else (some false))) else (some false))) else (some false)) else (some false)) else (some false))) else (some false)))))))) = some r := H
    have A8 := Aside0.mk A80
    clear A80
    replace H := Option.bind_eq_some_iff.mp H
    obtain ⟨⟨t130, t131⟩, A90, H⟩ := H
    replace H : ((label_Below.f (Go.bits .and .i64 a1 3) (Go.bits .and .i64 a2 3)).bind fun bt132 => ((label_Below.f t124 (Go.bits .and .i64 a2 3)).bind fun bt134 => ((label_Below.f (Go.bits .and .i64 a0 3) (Go.bits .and .i64 a1 3)).bind fun bt136 => ((label_Below.f (Go.bits .and .i64 a1 3) (Go.bits .and .i64 a0 3)).bind fun bt138 => ((veillaw0_Num.f t125).bind fun t140 => (if t140 = 0 then ((veillaw0_Num.f t127).bind fun t141 => (if t141 = 0 then (if t124 = t126 then (if t128 = true then ((veillaw0_Num.f t129).bind fun t142 => (if t142 = 0 then ((veillaw0_Num.f t131).bind fun t143 => (if t143 = 0 then ((veillaw0_Num.f bt132.2).bind fun t144 => (if t144 = 0 then ((veillaw0_Num.f bt134.2).bind fun t145 => (if t145 = 0 then (if t130 = true then (if (bt134.1 == bt132.1) = true then ((veillaw0_Num.f bt136.2).bind fun t146 => (if t146 = 0 then ((veillaw0_Num.f bt138.2).bind fun t147 => (if t147 = 0 then (if bt136.1 = true then (some (bt138.1 == ((Go.bits .and .i64 a0 3) == (Go.bits .and .i64 a1 3)))) else (some (false == ((Go.bits .and .i64 a0 3) == (Go.bits .and .i64 a1 3))))) else (some false))) else (some false))) else (some false)) else (if (bt134.1 == false) = true then ((veillaw0_Num.f bt136.2).bind fun t148 => (if t148 = 0 then ((veillaw0_Num.f bt138.2).bind fun t149 => (if t149 = 0 then (if bt136.1 = true then (some (bt138.1 == ((Go.bits .and .i64 a0 3) == (Go.bits .and .i64 a1 3)))) else (some (false == ((Go.bits .and .i64 a0 3) == (Go.bits .and .i64 a1 3))))) else (some false))) else (some false))) else (some false))) else (some false))) else (some false))) else (some false))) else (some false))) else (some false)) else (some false)) else (some false))) else (some false))))))) = some r := H
    have A9 := Aside0.mk A90
    clear A90
    replace H := Option.bind_eq_some_iff.mp H
    obtain ⟨⟨t132, t133⟩, A100, H⟩ := H
    replace H : ((label_Below.f t124 (Go.bits .and .i64 a2 3)).bind fun bt134 => ((label_Below.f (Go.bits .and .i64 a0 3) (Go.bits .and .i64 a1 3)).bind fun bt136 => ((label_Below.f (Go.bits .and .i64 a1 3) (Go.bits .and .i64 a0 3)).bind fun bt138 => ((veillaw0_Num.f t125).bind fun t140 => (if t140 = 0 then ((veillaw0_Num.f t127).bind fun t141 => (if t141 = 0 then (if t124 = t126 then (if t128 = true then ((veillaw0_Num.f t129).bind fun t142 => (if t142 = 0 then ((veillaw0_Num.f t131).bind fun t143 => (if t143 = 0 then ((veillaw0_Num.f t133).bind fun t144 => (if t144 = 0 then ((veillaw0_Num.f bt134.2).bind fun t145 => (if t145 = 0 then (if t130 = true then (if (bt134.1 == t132) = true then ((veillaw0_Num.f bt136.2).bind fun t146 => (if t146 = 0 then ((veillaw0_Num.f bt138.2).bind fun t147 => (if t147 = 0 then (if bt136.1 = true then (some (bt138.1 == ((Go.bits .and .i64 a0 3) == (Go.bits .and .i64 a1 3)))) else (some (false == ((Go.bits .and .i64 a0 3) == (Go.bits .and .i64 a1 3))))) else (some false))) else (some false))) else (some false)) else (if (bt134.1 == false) = true then ((veillaw0_Num.f bt136.2).bind fun t148 => (if t148 = 0 then ((veillaw0_Num.f bt138.2).bind fun t149 => (if t149 = 0 then (if bt136.1 = true then (some (bt138.1 == ((Go.bits .and .i64 a0 3) == (Go.bits .and .i64 a1 3)))) else (some (false == ((Go.bits .and .i64 a0 3) == (Go.bits .and .i64 a1 3))))) else (some false))) else (some false))) else (some false))) else (some false))) else (some false))) else (some false))) else (some false))) else (some false)) else (some false)) else (some false))) else (some false)))))) = some r := H
    have A10 := Aside0.mk A100
    clear A100
    replace H := Option.bind_eq_some_iff.mp H
    obtain ⟨⟨t134, t135⟩, A110, H⟩ := H
    replace H : ((label_Below.f (Go.bits .and .i64 a0 3) (Go.bits .and .i64 a1 3)).bind fun bt136 => ((label_Below.f (Go.bits .and .i64 a1 3) (Go.bits .and .i64 a0 3)).bind fun bt138 => ((veillaw0_Num.f t125).bind fun t140 => (if t140 = 0 then ((veillaw0_Num.f t127).bind fun t141 => (if t141 = 0 then (if t124 = t126 then (if t128 = true then ((veillaw0_Num.f t129).bind fun t142 => (if t142 = 0 then ((veillaw0_Num.f t131).bind fun t143 => (if t143 = 0 then ((veillaw0_Num.f t133).bind fun t144 => (if t144 = 0 then ((veillaw0_Num.f t135).bind fun t145 => (if t145 = 0 then (if t130 = true then (if (t134 == t132) = true then ((veillaw0_Num.f bt136.2).bind fun t146 => (if t146 = 0 then ((veillaw0_Num.f bt138.2).bind fun t147 => (if t147 = 0 then (if bt136.1 = true then (some (bt138.1 == ((Go.bits .and .i64 a0 3) == (Go.bits .and .i64 a1 3)))) else (some (false == ((Go.bits .and .i64 a0 3) == (Go.bits .and .i64 a1 3))))) else (some false))) else (some false))) else (some false)) else (if (t134 == false) = true then ((veillaw0_Num.f bt136.2).bind fun t148 => (if t148 = 0 then ((veillaw0_Num.f bt138.2).bind fun t149 => (if t149 = 0 then (if bt136.1 = true then (some (bt138.1 == ((Go.bits .and .i64 a0 3) == (Go.bits .and .i64 a1 3)))) else (some (false == ((Go.bits .and .i64 a0 3) == (Go.bits .and .i64 a1 3))))) else (some false))) else (some false))) else (some false))) else (some false))) else (some false))) else (some false))) else (some false))) else (some false)) else (some false)) else (some false))) else (some false))))) = some r := H
    have A11 := Aside0.mk A110
    clear A110
    replace H := Option.bind_eq_some_iff.mp H
    obtain ⟨⟨t136, t137⟩, A120, H⟩ := H
    replace H : ((label_Below.f (Go.bits .and .i64 a1 3) (Go.bits .and .i64 a0 3)).bind fun bt138 => ((veillaw0_Num.f t125).bind fun t140 => (if t140 = 0 then ((veillaw0_Num.f t127).bind fun t141 => (if t141 = 0 then (if t124 = t126 then (if t128 = true then ((veillaw0_Num.f t129).bind fun t142 => (if t142 = 0 then ((veillaw0_Num.f t131).bind fun t143 => (if t143 = 0 then ((veillaw0_Num.f t133).bind fun t144 => (if t144 = 0 then ((veillaw0_Num.f t135).bind fun t145 => (if t145 = 0 then (if t130 = true then (if (t134 == t132) = true then ((veillaw0_Num.f t137).bind fun t146 => (if t146 = 0 then ((veillaw0_Num.f bt138.2).bind fun t147 => (if t147 = 0 then (if t136 = true then (some (bt138.1 == ((Go.bits .and .i64 a0 3) == (Go.bits .and .i64 a1 3)))) else (some (false == ((Go.bits .and .i64 a0 3) == (Go.bits .and .i64 a1 3))))) else (some false))) else (some false))) else (some false)) else (if (t134 == false) = true then ((veillaw0_Num.f t137).bind fun t148 => (if t148 = 0 then ((veillaw0_Num.f bt138.2).bind fun t149 => (if t149 = 0 then (if t136 = true then (some (bt138.1 == ((Go.bits .and .i64 a0 3) == (Go.bits .and .i64 a1 3)))) else (some (false == ((Go.bits .and .i64 a0 3) == (Go.bits .and .i64 a1 3))))) else (some false))) else (some false))) else (some false))) else (some false))) else (some false))) else (some false))) else (some false))) else (some false)) else (some false)) else (some false))) else (some false)))) = some r := H
    have A12 := Aside0.mk A120
    clear A120
    replace H := Option.bind_eq_some_iff.mp H
    obtain ⟨⟨t138, t139⟩, A130, H⟩ := H
    replace H : ((veillaw0_Num.f t125).bind fun t140 => (if t140 = 0 then ((veillaw0_Num.f t127).bind fun t141 => (if t141 = 0 then (if t124 = t126 then (if t128 = true then ((veillaw0_Num.f t129).bind fun t142 => (if t142 = 0 then ((veillaw0_Num.f t131).bind fun t143 => (if t143 = 0 then ((veillaw0_Num.f t133).bind fun t144 => (if t144 = 0 then ((veillaw0_Num.f t135).bind fun t145 => (if t145 = 0 then (if t130 = true then (if (t134 == t132) = true then ((veillaw0_Num.f t137).bind fun t146 => (if t146 = 0 then ((veillaw0_Num.f t139).bind fun t147 => (if t147 = 0 then (if t136 = true then (some (t138 == ((Go.bits .and .i64 a0 3) == (Go.bits .and .i64 a1 3)))) else (some (false == ((Go.bits .and .i64 a0 3) == (Go.bits .and .i64 a1 3))))) else (some false))) else (some false))) else (some false)) else (if (t134 == false) = true then ((veillaw0_Num.f t137).bind fun t148 => (if t148 = 0 then ((veillaw0_Num.f t139).bind fun t149 => (if t149 = 0 then (if t136 = true then (some (t138 == ((Go.bits .and .i64 a0 3) == (Go.bits .and .i64 a1 3)))) else (some (false == ((Go.bits .and .i64 a0 3) == (Go.bits .and .i64 a1 3))))) else (some false))) else (some false))) else (some false))) else (some false))) else (some false))) else (some false))) else (some false))) else (some false)) else (some false)) else (some false))) else (some false))) = some r := H
    have A13 := Aside0.mk A130
    clear A130
    replace H := Option.bind_eq_some_iff.mp H
    obtain ⟨t140, A140, H⟩ := H
    replace H : (if t140 = 0 then ((veillaw0_Num.f t127).bind fun t141 => (if t141 = 0 then (if t124 = t126 then (if t128 = true then ((veillaw0_Num.f t129).bind fun t142 => (if t142 = 0 then ((veillaw0_Num.f t131).bind fun t143 => (if t143 = 0 then ((veillaw0_Num.f t133).bind fun t144 => (if t144 = 0 then ((veillaw0_Num.f t135).bind fun t145 => (if t145 = 0 then (if t130 = true then (if (t134 == t132) = true then ((veillaw0_Num.f t137).bind fun t146 => (if t146 = 0 then ((veillaw0_Num.f t139).bind fun t147 => (if t147 = 0 then (if t136 = true then (some (t138 == ((Go.bits .and .i64 a0 3) == (Go.bits .and .i64 a1 3)))) else (some (false == ((Go.bits .and .i64 a0 3) == (Go.bits .and .i64 a1 3))))) else (some false))) else (some false))) else (some false)) else (if (t134 == false) = true then ((veillaw0_Num.f t137).bind fun t148 => (if t148 = 0 then ((veillaw0_Num.f t139).bind fun t149 => (if t149 = 0 then (if t136 = true then (some (t138 == ((Go.bits .and .i64 a0 3) == (Go.bits .and .i64 a1 3)))) else (some (false == ((Go.bits .and .i64 a0 3) == (Go.bits .and .i64 a1 3))))) else (some false))) else (some false))) else (some false))) else (some false))) else (some false))) else (some false))) else (some false))) else (some false)) else (some false)) else (some false))) else (some false)) = some r := H
    have A14 := Aside0.mk A140
    clear A140
    by_cases c15 : t140 = 0
    · rw [if_pos c15] at H
      have c15b0 : (t140 == 0) = true := beq_iff_eq.mpr c15
      have c15b1 : (t140 != 0) = false := bne_eq_false_iff_eq.mpr c15
      clear c15
      replace H := Option.bind_eq_some_iff.mp H
      obtain ⟨t141, A160, H⟩ := H
      replace H : (if t141 = 0 then (if t124 = t126 then (if t128 = true then ((veillaw0_Num.f t129).bind fun t142 => (if t142 = 0 then ((veillaw0_Num.f t131).bind fun t143 => (if t143 = 0 then ((veillaw0_Num.f t133).bind fun t144 => (if t144 = 0 then ((veillaw0_Num.f t135).bind fun t145 => (if t145 = 0 then (if t130 = true then (if (t134 == t132) = true then ((veillaw0_Num.f t137).bind fun t146 => (if t146 = 0 then ((veillaw0_Num.f t139).bind fun t147 => (if t147 = 0 then (if t136 = true then (some (t138 == ((Go.bits .and .i64 a0 3) == (Go.bits .and .i64 a1 3)))) else (some (false == ((Go.bits .and .i64 a0 3) == (Go.bits .and .i64 a1 3))))) else (some false))) else (some false))) else (some false)) else (if (t134 == false) = true then ((veillaw0_Num.f t137).bind fun t148 => (if t148 = 0 then ((veillaw0_Num.f t139).bind fun t149 => (if t149 = 0 then (if t136 = true then (some (t138 == ((Go.bits .and .i64 a0 3) == (Go.bits .and .i64 a1 3)))) else (some (false == ((Go.bits .and .i64 a0 3) == (Go.bits .and .i64 a1 3))))) else (some false))) else (some false))) else (some false))) else (some false))) else (some false))) else (some false))) else (some false))) else (some false)) else (some false)) else (some false)) = some r := H
      have A16 := Aside0.mk A160
      clear A160
      by_cases c17 : t141 = 0
      · rw [if_pos c17] at H
        have c17b0 : (t141 == 0) = true := beq_iff_eq.mpr c17
        have c17b1 : (t141 != 0) = false := bne_eq_false_iff_eq.mpr c17
        clear c17
        by_cases c18 : t124 = t126
        · rw [if_pos c18] at H
          have c18b0 : (t124 == t126) = true := beq_iff_eq.mpr c18
          have c18b1 : (t124 != t126) = false := bne_eq_false_iff_eq.mpr c18
          clear c18
          by_cases c19 : t128 = true
          · subst c19
            have H1 : ((veillaw0_Num.f t129).bind fun t142 => (if t142 = 0 then ((veillaw0_Num.f t131).bind fun t143 => (if t143 = 0 then ((veillaw0_Num.f t133).bind fun t144 => (if t144 = 0 then ((veillaw0_Num.f t135).bind fun t145 => (if t145 = 0 then (if t130 = true then (if (t134 == t132) = true then ((veillaw0_Num.f t137).bind fun t146 => (if t146 = 0 then ((veillaw0_Num.f t139).bind fun t147 => (if t147 = 0 then (if t136 = true then (some (t138 == ((Go.bits .and .i64 a0 3) == (Go.bits .and .i64 a1 3)))) else (some (false == ((Go.bits .and .i64 a0 3) == (Go.bits .and .i64 a1 3))))) else (some false))) else (some false))) else (some false)) else (if (t134 == false) = true then ((veillaw0_Num.f t137).bind fun t148 => (if t148 = 0 then ((veillaw0_Num.f t139).bind fun t149 => (if t149 = 0 then (if t136 = true then (some (t138 == ((Go.bits .and .i64 a0 3) == (Go.bits .and .i64 a1 3)))) else (some (false == ((Go.bits .and .i64 a0 3) == (Go.bits .and .i64 a1 3))))) else (some false))) else (some false))) else (some false))) else (some false))) else (some false))) else (some false))) else (some false))) = some r := by rw [if_pos rfl] at H; exact H
            clear H
            have H := H1
            clear H1
            replace H := Option.bind_eq_some_iff.mp H
            obtain ⟨t142, A200, H⟩ := H
            replace H : (if t142 = 0 then ((veillaw0_Num.f t131).bind fun t143 => (if t143 = 0 then ((veillaw0_Num.f t133).bind fun t144 => (if t144 = 0 then ((veillaw0_Num.f t135).bind fun t145 => (if t145 = 0 then (if t130 = true then (if (t134 == t132) = true then ((veillaw0_Num.f t137).bind fun t146 => (if t146 = 0 then ((veillaw0_Num.f t139).bind fun t147 => (if t147 = 0 then (if t136 = true then (some (t138 == ((Go.bits .and .i64 a0 3) == (Go.bits .and .i64 a1 3)))) else (some (false == ((Go.bits .and .i64 a0 3) == (Go.bits .and .i64 a1 3))))) else (some false))) else (some false))) else (some false)) else (if (t134 == false) = true then ((veillaw0_Num.f t137).bind fun t148 => (if t148 = 0 then ((veillaw0_Num.f t139).bind fun t149 => (if t149 = 0 then (if t136 = true then (some (t138 == ((Go.bits .and .i64 a0 3) == (Go.bits .and .i64 a1 3)))) else (some (false == ((Go.bits .and .i64 a0 3) == (Go.bits .and .i64 a1 3))))) else (some false))) else (some false))) else (some false))) else (some false))) else (some false))) else (some false))) else (some false)) = some r := H
            have A20 := Aside0.mk A200
            clear A200
            by_cases c21 : t142 = 0
            · rw [if_pos c21] at H
              have c21b0 : (t142 == 0) = true := beq_iff_eq.mpr c21
              have c21b1 : (t142 != 0) = false := bne_eq_false_iff_eq.mpr c21
              clear c21
              replace H := Option.bind_eq_some_iff.mp H
              obtain ⟨t143, A220, H⟩ := H
              replace H : (if t143 = 0 then ((veillaw0_Num.f t133).bind fun t144 => (if t144 = 0 then ((veillaw0_Num.f t135).bind fun t145 => (if t145 = 0 then (if t130 = true then (if (t134 == t132) = true then ((veillaw0_Num.f t137).bind fun t146 => (if t146 = 0 then ((veillaw0_Num.f t139).bind fun t147 => (if t147 = 0 then (if t136 = true then (some (t138 == ((Go.bits .and .i64 a0 3) == (Go.bits .and .i64 a1 3)))) else (some (false == ((Go.bits .and .i64 a0 3) == (Go.bits .and .i64 a1 3))))) else (some false))) else (some false))) else (some false)) else (if (t134 == false) = true then ((veillaw0_Num.f t137).bind fun t148 => (if t148 = 0 then ((veillaw0_Num.f t139).bind fun t149 => (if t149 = 0 then (if t136 = true then (some (t138 == ((Go.bits .and .i64 a0 3) == (Go.bits .and .i64 a1 3)))) else (some (false == ((Go.bits .and .i64 a0 3) == (Go.bits .and .i64 a1 3))))) else (some false))) else (some false))) else (some false))) else (some false))) else (some false))) else (some false)) = some r := H
              have A22 := Aside0.mk A220
              clear A220
              by_cases c23 : t143 = 0
              · rw [if_pos c23] at H
                have c23b0 : (t143 == 0) = true := beq_iff_eq.mpr c23
                have c23b1 : (t143 != 0) = false := bne_eq_false_iff_eq.mpr c23
                clear c23
                replace H := Option.bind_eq_some_iff.mp H
                obtain ⟨t144, A240, H⟩ := H
                replace H : (if t144 = 0 then ((veillaw0_Num.f t135).bind fun t145 => (if t145 = 0 then (if t130 = true then (if (t134 == t132) = true then ((veillaw0_Num.f t137).bind fun t146 => (if t146 = 0 then ((veillaw0_Num.f t139).bind fun t147 => (if t147 = 0 then (if t136 = true then (some (t138 == ((Go.bits .and .i64 a0 3) == (Go.bits .and .i64 a1 3)))) else (some (false == ((Go.bits .and .i64 a0 3) == (Go.bits .and .i64 a1 3))))) else (some false))) else (some false))) else (some false)) else (if (t134 == false) = true then ((veillaw0_Num.f t137).bind fun t148 => (if t148 = 0 then ((veillaw0_Num.f t139).bind fun t149 => (if t149 = 0 then (if t136 = true then (some (t138 == ((Go.bits .and .i64 a0 3) == (Go.bits .and .i64 a1 3)))) else (some (false == ((Go.bits .and .i64 a0 3) == (Go.bits .and .i64 a1 3))))) else (some false))) else (some false))) else (some false))) else (some false))) else (some false)) = some r := H
                have A24 := Aside0.mk A240
                clear A240
                by_cases c25 : t144 = 0
                · rw [if_pos c25] at H
                  have c25b0 : (t144 == 0) = true := beq_iff_eq.mpr c25
                  have c25b1 : (t144 != 0) = false := bne_eq_false_iff_eq.mpr c25
                  clear c25
                  replace H := Option.bind_eq_some_iff.mp H
                  obtain ⟨t145, A260, H⟩ := H
                  replace H : (if t145 = 0 then (if t130 = true then (if (t134 == t132) = true then ((veillaw0_Num.f t137).bind fun t146 => (if t146 = 0 then ((veillaw0_Num.f t139).bind fun t147 => (if t147 = 0 then (if t136 = true then (some (t138 == ((Go.bits .and .i64 a0 3) == (Go.bits .and .i64 a1 3)))) else (some (false == ((Go.bits .and .i64 a0 3) == (Go.bits .and .i64 a1 3))))) else (some false))) else (some false))) else (some false)) else (if (t134 == false) = true then ((veillaw0_Num.f t137).bind fun t148 => (if t148 = 0 then ((veillaw0_Num.f t139).bind fun t149 => (if t149 = 0 then (if t136 = true then (some (t138 == ((Go.bits .and .i64 a0 3) == (Go.bits .and .i64 a1 3)))) else (some (false == ((Go.bits .and .i64 a0 3) == (Go.bits .and .i64 a1 3))))) else (some false))) else (some false))) else (some false))) else (some false)) = some r := H
                  have A26 := Aside0.mk A260
                  clear A260
                  by_cases c27 : t145 = 0
                  · rw [if_pos c27] at H
                    have c27b0 : (t145 == 0) = true := beq_iff_eq.mpr c27
                    have c27b1 : (t145 != 0) = false := bne_eq_false_iff_eq.mpr c27
                    clear c27
                    by_cases c28 : t130 = true
                    · subst c28
                      have H1 : (if (t134 == t132) = true then ((veillaw0_Num.f t137).bind fun t146 => (if t146 = 0 then ((veillaw0_Num.f t139).bind fun t147 => (if t147 = 0 then (if t136 = true then (some (t138 == ((Go.bits .and .i64 a0 3) == (Go.bits .and .i64 a1 3)))) else (some (false == ((Go.bits .and .i64 a0 3) == (Go.bits .and .i64 a1 3))))) else (some false))) else (some false))) else (some false)) = some r := by rw [if_pos rfl] at H; exact H
                      clear H
                      have H := H1
                      clear H1
                      by_cases c29 : (t134 == t132) = true
                      · rw [if_pos c29] at H
                        have c29b0 : (t134 == t132) = true := c29
                        (try (have c29b1 : decide (t134 = t132) = true := by simpa using c29))
                        (try (have c29b2 : (t134 == t132) = true := by simpa using c29))
                        clear c29
                        replace H := Option.bind_eq_some_iff.mp H
                        obtain ⟨t146, A300, H⟩ := H
                        replace H : (if t146 = 0 then ((veillaw0_Num.f t139).bind fun t147 => (if t147 = 0 then (if t136 = true then (some (t138 == ((Go.bits .and .i64 a0 3) == (Go.bits .and .i64 a1 3)))) else (some (false == ((Go.bits .and .i64 a0 3) == (Go.bits .and .i64 a1 3))))) else (some false))) else (some false)) = some r := H
                        have A30 := Aside0.mk A300
                        clear A300
                        by_cases c31 : t146 = 0
                        · rw [if_pos c31] at H
                          have c31b0 : (t146 == 0) = true := beq_iff_eq.mpr c31
                          have c31b1 : (t146 != 0) = false := bne_eq_false_iff_eq.mpr c31
                          clear c31
                          replace H := Option.bind_eq_some_iff.mp H
                          obtain ⟨t147, A320, H⟩ := H
                          replace H : (if t147 = 0 then (if t136 = true then (some (t138 == ((Go.bits .and .i64 a0 3) == (Go.bits .and .i64 a1 3)))) else (some (false == ((Go.bits .and .i64 a0 3) == (Go.bits .and .i64 a1 3))))) else (some false)) = some r := H
                          have A32 := Aside0.mk A320
                          clear A320
                          by_cases c33 : t147 = 0
                          · rw [if_pos c33] at H
                            have c33b0 : (t147 == 0) = true := beq_iff_eq.mpr c33
                            have c33b1 : (t147 != 0) = false := bne_eq_false_iff_eq.mpr c33
                            clear c33
                            by_cases c34 : t136 = true
                            · subst c34
                              have H1 : (some (t138 == ((Go.bits .and .i64 a0 3) == (Go.bits .and .i64 a1 3)))) = some r := by rw [if_pos rfl] at H; exact H
                              clear H
                              have H := H1
                              clear H1
                              obtain rfl := Option.some.inj H
                              go_enter Try.func5, Try.ntmps5
                              go_wp2_with (first | ((with_reducible refine gate_callee (f := 22) rfl ?_); refine goesL_ (some 26) rfl rfl Try.func22 (by kernel_rfl) rfl #[] rfl (by (try simp only [List.map_toArray, List.map_cons, List.map_nil]); first | done | rfl | (simp only [List.length_drop, List.length_take]; rfl)) ?_; (with_reducible refine (veillaw1_awake.calls  true _ A4.out).mono ?_); rintro e w' ⟨rfl, ⟨nd, rfl⟩⟩; refine ⟨_, rfl, ?_⟩) | ((with_reducible refine gate_callee (f := 15) rfl ?_); refine goesL_ (some 37) rfl rfl Try.func15 (by kernel_rfl) rfl #[.int .i64 (Go.bits .and .i64 a0 3), .int .i64 (Go.bits .and .i64 a1 3)] rfl (by (try simp only [List.map_toArray, List.map_cons, List.map_nil]); first | done | rfl | (simp only [List.length_drop, List.length_take]; rfl)) ?_; (with_reducible refine (label_Join.calls (Go.bits .and .i64 a0 3) (Go.bits .and .i64 a1 3) t124 t125 _ A6.out).mono ?_); rintro e w' ⟨rfl, ⟨nd, rfl⟩⟩; refine ⟨_, rfl, ?_⟩) | ((with_reducible refine gate_callee (f := 15) rfl ?_); refine goesL_ (some 43) rfl rfl Try.func15 (by kernel_rfl) rfl #[.int .i64 (Go.bits .and .i64 a1 3), .int .i64 (Go.bits .and .i64 a0 3)] rfl (by (try simp only [List.map_toArray, List.map_cons, List.map_nil]); first | done | rfl | (simp only [List.length_drop, List.length_take]; rfl)) ?_; (with_reducible refine (label_Join.calls (Go.bits .and .i64 a1 3) (Go.bits .and .i64 a0 3) t126 t127 _ A7.out).mono ?_); rintro e w' ⟨rfl, ⟨nd, rfl⟩⟩; refine ⟨_, rfl, ?_⟩) | ((with_reducible refine gate_callee (f := 17) rfl ?_); refine goesL_ (some 49) rfl rfl Try.func17 (by kernel_rfl) rfl #[.int .i64 (Go.bits .and .i64 a0 3), .int .i64 t124] rfl (by (try simp only [List.map_toArray, List.map_cons, List.map_nil]); first | done | rfl | (simp only [List.length_drop, List.length_take]; rfl)) ?_; (with_reducible refine (label_Below.calls (Go.bits .and .i64 a0 3) t124 true t129 _ A8.out).mono ?_); rintro e w' ⟨rfl, ⟨nd, rfl⟩⟩; refine ⟨_, rfl, ?_⟩) | ((with_reducible refine gate_callee (f := 17) rfl ?_); refine goesL_ (some 55) rfl rfl Try.func17 (by kernel_rfl) rfl #[.int .i64 (Go.bits .and .i64 a0 3), .int .i64 (Go.bits .and .i64 a2 3)] rfl (by (try simp only [List.map_toArray, List.map_cons, List.map_nil]); first | done | rfl | (simp only [List.length_drop, List.length_take]; rfl)) ?_; (with_reducible refine (label_Below.calls (Go.bits .and .i64 a0 3) (Go.bits .and .i64 a2 3) true t131 _ A9.out).mono ?_); rintro e w' ⟨rfl, ⟨nd, rfl⟩⟩; refine ⟨_, rfl, ?_⟩) | ((with_reducible refine gate_callee (f := 17) rfl ?_); refine goesL_ (some 61) rfl rfl Try.func17 (by kernel_rfl) rfl #[.int .i64 (Go.bits .and .i64 a1 3), .int .i64 (Go.bits .and .i64 a2 3)] rfl (by (try simp only [List.map_toArray, List.map_cons, List.map_nil]); first | done | rfl | (simp only [List.length_drop, List.length_take]; rfl)) ?_; (with_reducible refine (label_Below.calls (Go.bits .and .i64 a1 3) (Go.bits .and .i64 a2 3) t132 t133 _ A10.out).mono ?_); rintro e w' ⟨rfl, ⟨nd, rfl⟩⟩; refine ⟨_, rfl, ?_⟩) | ((with_reducible refine gate_callee (f := 17) rfl ?_); refine goesL_ (some 67) rfl rfl Try.func17 (by kernel_rfl) rfl #[.int .i64 t124, .int .i64 (Go.bits .and .i64 a2 3)] rfl (by (try simp only [List.map_toArray, List.map_cons, List.map_nil]); first | done | rfl | (simp only [List.length_drop, List.length_take]; rfl)) ?_; (with_reducible refine (label_Below.calls t124 (Go.bits .and .i64 a2 3) t134 t135 _ A11.out).mono ?_); rintro e w' ⟨rfl, ⟨nd, rfl⟩⟩; refine ⟨_, rfl, ?_⟩) | ((with_reducible refine gate_callee (f := 17) rfl ?_); refine goesL_ (some 73) rfl rfl Try.func17 (by kernel_rfl) rfl #[.int .i64 (Go.bits .and .i64 a0 3), .int .i64 (Go.bits .and .i64 a1 3)] rfl (by (try simp only [List.map_toArray, List.map_cons, List.map_nil]); first | done | rfl | (simp only [List.length_drop, List.length_take]; rfl)) ?_; (with_reducible refine (label_Below.calls (Go.bits .and .i64 a0 3) (Go.bits .and .i64 a1 3) true t137 _ A12.out).mono ?_); rintro e w' ⟨rfl, ⟨nd, rfl⟩⟩; refine ⟨_, rfl, ?_⟩) | ((with_reducible refine gate_callee (f := 17) rfl ?_); refine goesL_ (some 79) rfl rfl Try.func17 (by kernel_rfl) rfl #[.int .i64 (Go.bits .and .i64 a1 3), .int .i64 (Go.bits .and .i64 a0 3)] rfl (by (try simp only [List.map_toArray, List.map_cons, List.map_nil]); first | done | rfl | (simp only [List.length_drop, List.length_take]; rfl)) ?_; (with_reducible refine (label_Below.calls (Go.bits .and .i64 a1 3) (Go.bits .and .i64 a0 3) t138 t139 _ A13.out).mono ?_); rintro e w' ⟨rfl, ⟨nd, rfl⟩⟩; refine ⟨_, rfl, ?_⟩) | (go_at_call 19; (with_reducible refine (veillaw0_Num.calls t125 t140 _ A14.out).mono ?_); rintro e w' ⟨rfl, ⟨nd, rfl⟩⟩) | (go_at_call 19; (with_reducible refine (veillaw0_Num.calls t127 t141 _ A16.out).mono ?_); rintro e w' ⟨rfl, ⟨nd, rfl⟩⟩) | (go_at_call 19; (with_reducible refine (veillaw0_Num.calls t129 t142 _ A20.out).mono ?_); rintro e w' ⟨rfl, ⟨nd, rfl⟩⟩) | (go_at_call 19; (with_reducible refine (veillaw0_Num.calls t131 t143 _ A22.out).mono ?_); rintro e w' ⟨rfl, ⟨nd, rfl⟩⟩) | (go_at_call 19; (with_reducible refine (veillaw0_Num.calls t133 t144 _ A24.out).mono ?_); rintro e w' ⟨rfl, ⟨nd, rfl⟩⟩) | (go_at_call 19; (with_reducible refine (veillaw0_Num.calls t135 t145 _ A26.out).mono ?_); rintro e w' ⟨rfl, ⟨nd, rfl⟩⟩) | (go_at_call 19; (with_reducible refine (veillaw0_Num.calls t137 t146 _ A30.out).mono ?_); rintro e w' ⟨rfl, ⟨nd, rfl⟩⟩) | (go_at_call 19; (with_reducible refine (veillaw0_Num.calls t139 t147 _ A32.out).mono ?_); rintro e w' ⟨rfl, ⟨nd, rfl⟩⟩))
                              go_ret
                              exact ⟨by first | rfl | (simp; done) | (simp [*]; done), by repeat (first | exact Drawn0.refl _ | apply Drawn0.step)⟩
                            · replace c34 := Bool.eq_false_iff.mpr c34
                              subst c34
                              have H1 : (some (false == ((Go.bits .and .i64 a0 3) == (Go.bits .and .i64 a1 3)))) = some r := by rw [if_neg (show ¬ (false = true) by decide)] at H; exact H
                              clear H
                              have H := H1
                              clear H1
                              obtain rfl := Option.some.inj H
                              go_enter Try.func5, Try.ntmps5
                              go_wp2_with (first | ((with_reducible refine gate_callee (f := 22) rfl ?_); refine goesL_ (some 26) rfl rfl Try.func22 (by kernel_rfl) rfl #[] rfl (by (try simp only [List.map_toArray, List.map_cons, List.map_nil]); first | done | rfl | (simp only [List.length_drop, List.length_take]; rfl)) ?_; (with_reducible refine (veillaw1_awake.calls  true _ A4.out).mono ?_); rintro e w' ⟨rfl, ⟨nd, rfl⟩⟩; refine ⟨_, rfl, ?_⟩) | ((with_reducible refine gate_callee (f := 15) rfl ?_); refine goesL_ (some 37) rfl rfl Try.func15 (by kernel_rfl) rfl #[.int .i64 (Go.bits .and .i64 a0 3), .int .i64 (Go.bits .and .i64 a1 3)] rfl (by (try simp only [List.map_toArray, List.map_cons, List.map_nil]); first | done | rfl | (simp only [List.length_drop, List.length_take]; rfl)) ?_; (with_reducible refine (label_Join.calls (Go.bits .and .i64 a0 3) (Go.bits .and .i64 a1 3) t124 t125 _ A6.out).mono ?_); rintro e w' ⟨rfl, ⟨nd, rfl⟩⟩; refine ⟨_, rfl, ?_⟩) | ((with_reducible refine gate_callee (f := 15) rfl ?_); refine goesL_ (some 43) rfl rfl Try.func15 (by kernel_rfl) rfl #[.int .i64 (Go.bits .and .i64 a1 3), .int .i64 (Go.bits .and .i64 a0 3)] rfl (by (try simp only [List.map_toArray, List.map_cons, List.map_nil]); first | done | rfl | (simp only [List.length_drop, List.length_take]; rfl)) ?_; (with_reducible refine (label_Join.calls (Go.bits .and .i64 a1 3) (Go.bits .and .i64 a0 3) t126 t127 _ A7.out).mono ?_); rintro e w' ⟨rfl, ⟨nd, rfl⟩⟩; refine ⟨_, rfl, ?_⟩) | ((with_reducible refine gate_callee (f := 17) rfl ?_); refine goesL_ (some 49) rfl rfl Try.func17 (by kernel_rfl) rfl #[.int .i64 (Go.bits .and .i64 a0 3), .int .i64 t124] rfl (by (try simp only [List.map_toArray, List.map_cons, List.map_nil]); first | done | rfl | (simp only [List.length_drop, List.length_take]; rfl)) ?_; (with_reducible refine (label_Below.calls (Go.bits .and .i64 a0 3) t124 true t129 _ A8.out).mono ?_); rintro e w' ⟨rfl, ⟨nd, rfl⟩⟩; refine ⟨_, rfl, ?_⟩) | ((with_reducible refine gate_callee (f := 17) rfl ?_); refine goesL_ (some 55) rfl rfl Try.func17 (by kernel_rfl) rfl #[.int .i64 (Go.bits .and .i64 a0 3), .int .i64 (Go.bits .and .i64 a2 3)] rfl (by (try simp only [List.map_toArray, List.map_cons, List.map_nil]); first | done | rfl | (simp only [List.length_drop, List.length_take]; rfl)) ?_; (with_reducible refine (label_Below.calls (Go.bits .and .i64 a0 3) (Go.bits .and .i64 a2 3) true t131 _ A9.out).mono ?_); rintro e w' ⟨rfl, ⟨nd, rfl⟩⟩; refine ⟨_, rfl, ?_⟩) | ((with_reducible refine gate_callee (f := 17) rfl ?_); refine goesL_ (some 61) rfl rfl Try.func17 (by kernel_rfl) rfl #[.int .i64 (Go.bits .and .i64 a1 3), .int .i64 (Go.bits .and .i64 a2 3)] rfl (by (try simp only [List.map_toArray, List.map_cons, List.map_nil]); first | done | rfl | (simp only [List.length_drop, List.length_take]; rfl)) ?_; (with_reducible refine (label_Below.calls (Go.bits .and .i64 a1 3) (Go.bits .and .i64 a2 3) t132 t133 _ A10.out).mono ?_); rintro e w' ⟨rfl, ⟨nd, rfl⟩⟩; refine ⟨_, rfl, ?_⟩) | ((with_reducible refine gate_callee (f := 17) rfl ?_); refine goesL_ (some 67) rfl rfl Try.func17 (by kernel_rfl) rfl #[.int .i64 t124, .int .i64 (Go.bits .and .i64 a2 3)] rfl (by (try simp only [List.map_toArray, List.map_cons, List.map_nil]); first | done | rfl | (simp only [List.length_drop, List.length_take]; rfl)) ?_; (with_reducible refine (label_Below.calls t124 (Go.bits .and .i64 a2 3) t134 t135 _ A11.out).mono ?_); rintro e w' ⟨rfl, ⟨nd, rfl⟩⟩; refine ⟨_, rfl, ?_⟩) | ((with_reducible refine gate_callee (f := 17) rfl ?_); refine goesL_ (some 73) rfl rfl Try.func17 (by kernel_rfl) rfl #[.int .i64 (Go.bits .and .i64 a0 3), .int .i64 (Go.bits .and .i64 a1 3)] rfl (by (try simp only [List.map_toArray, List.map_cons, List.map_nil]); first | done | rfl | (simp only [List.length_drop, List.length_take]; rfl)) ?_; (with_reducible refine (label_Below.calls (Go.bits .and .i64 a0 3) (Go.bits .and .i64 a1 3) false t137 _ A12.out).mono ?_); rintro e w' ⟨rfl, ⟨nd, rfl⟩⟩; refine ⟨_, rfl, ?_⟩) | ((with_reducible refine gate_callee (f := 17) rfl ?_); refine goesL_ (some 79) rfl rfl Try.func17 (by kernel_rfl) rfl #[.int .i64 (Go.bits .and .i64 a1 3), .int .i64 (Go.bits .and .i64 a0 3)] rfl (by (try simp only [List.map_toArray, List.map_cons, List.map_nil]); first | done | rfl | (simp only [List.length_drop, List.length_take]; rfl)) ?_; (with_reducible refine (label_Below.calls (Go.bits .and .i64 a1 3) (Go.bits .and .i64 a0 3) t138 t139 _ A13.out).mono ?_); rintro e w' ⟨rfl, ⟨nd, rfl⟩⟩; refine ⟨_, rfl, ?_⟩) | (go_at_call 19; (with_reducible refine (veillaw0_Num.calls t125 t140 _ A14.out).mono ?_); rintro e w' ⟨rfl, ⟨nd, rfl⟩⟩) | (go_at_call 19; (with_reducible refine (veillaw0_Num.calls t127 t141 _ A16.out).mono ?_); rintro e w' ⟨rfl, ⟨nd, rfl⟩⟩) | (go_at_call 19; (with_reducible refine (veillaw0_Num.calls t129 t142 _ A20.out).mono ?_); rintro e w' ⟨rfl, ⟨nd, rfl⟩⟩) | (go_at_call 19; (with_reducible refine (veillaw0_Num.calls t131 t143 _ A22.out).mono ?_); rintro e w' ⟨rfl, ⟨nd, rfl⟩⟩) | (go_at_call 19; (with_reducible refine (veillaw0_Num.calls t133 t144 _ A24.out).mono ?_); rintro e w' ⟨rfl, ⟨nd, rfl⟩⟩) | (go_at_call 19; (with_reducible refine (veillaw0_Num.calls t135 t145 _ A26.out).mono ?_); rintro e w' ⟨rfl, ⟨nd, rfl⟩⟩) | (go_at_call 19; (with_reducible refine (veillaw0_Num.calls t137 t146 _ A30.out).mono ?_); rintro e w' ⟨rfl, ⟨nd, rfl⟩⟩) | (go_at_call 19; (with_reducible refine (veillaw0_Num.calls t139 t147 _ A32.out).mono ?_); rintro e w' ⟨rfl, ⟨nd, rfl⟩⟩))
                              go_ret
                              exact ⟨by first | rfl | (simp; done) | (simp [*]; done), by repeat (first | exact Drawn0.refl _ | apply Drawn0.step)⟩
                          · rw [if_neg c33] at H
                            have c33b0 : (t147 == 0) = false := beq_eq_false_iff_ne.mpr c33
                            have c33b1 : (t147 != 0) = true := bne_iff_ne.mpr c33
                            exact absurd ((Option.some.inj H).trans hr) (by decide)
                        · rw [if_neg c31] at H
                          have c31b0 : (t146 == 0) = false := beq_eq_false_iff_ne.mpr c31
                          have c31b1 : (t146 != 0) = true := bne_iff_ne.mpr c31
                          exact absurd ((Option.some.inj H).trans hr) (by decide)
                      · rw [if_neg c29] at H
                        have c29b0 : (t134 == t132) = false := by simpa using c29
                        (try (have c29b1 : decide (t134 = t132) = false := by simpa using c29))
                        (try (have c29b2 : (t134 == t132) = false := by simpa using c29))
                        (try (have c29b3 : ¬ (t134 = t132) := by simpa using c29))
                        clear c29
                        exact absurd ((Option.some.inj H).trans hr) (by decide)
                    · replace c28 := Bool.eq_false_iff.mpr c28
                      subst c28
                      have H1 : (if (t134 == false) = true then ((veillaw0_Num.f t137).bind fun t148 => (if t148 = 0 then ((veillaw0_Num.f t139).bind fun t149 => (if t149 = 0 then (if t136 = true then (some (t138 == ((Go.bits .and .i64 a0 3) == (Go.bits .and .i64 a1 3)))) else (some (false == ((Go.bits .and .i64 a0 3) == (Go.bits .and .i64 a1 3))))) else (some false))) else (some false))) else (some false)) = some r := by rw [if_neg (show ¬ (false = true) by decide)] at H; exact H
                      clear H
                      have H := H1
                      clear H1
                      by_cases c35 : (t134 == false) = true
                      · rw [if_pos c35] at H
                        have c35b0 : (t134 == false) = true := c35
                        (try (have c35b1 : decide (t134 = false) = true := by simpa using c35))
                        (try (have c35b2 : (t134 == false) = true := by simpa using c35))
                        clear c35
                        replace H := Option.bind_eq_some_iff.mp H
                        obtain ⟨t148, A360, H⟩ := H
                        replace H : (if t148 = 0 then ((veillaw0_Num.f t139).bind fun t149 => (if t149 = 0 then (if t136 = true then (some (t138 == ((Go.bits .and .i64 a0 3) == (Go.bits .and .i64 a1 3)))) else (some (false == ((Go.bits .and .i64 a0 3) == (Go.bits .and .i64 a1 3))))) else (some false))) else (some false)) = some r := H
                        have A36 := Aside0.mk A360
                        clear A360
                        by_cases c37 : t148 = 0
                        · rw [if_pos c37] at H
                          have c37b0 : (t148 == 0) = true := beq_iff_eq.mpr c37
                          have c37b1 : (t148 != 0) = false := bne_eq_false_iff_eq.mpr c37
                          clear c37
                          replace H := Option.bind_eq_some_iff.mp H
                          obtain ⟨t149, A380, H⟩ := H
                          replace H : (if t149 = 0 then (if t136 = true then (some (t138 == ((Go.bits .and .i64 a0 3) == (Go.bits .and .i64 a1 3)))) else (some (false == ((Go.bits .and .i64 a0 3) == (Go.bits .and .i64 a1 3))))) else (some false)) = some r := H
                          have A38 := Aside0.mk A380
                          clear A380
                          by_cases c39 : t149 = 0
                          · rw [if_pos c39] at H
                            have c39b0 : (t149 == 0) = true := beq_iff_eq.mpr c39
                            have c39b1 : (t149 != 0) = false := bne_eq_false_iff_eq.mpr c39
                            clear c39
                            by_cases c40 : t136 = true
                            · subst c40
                              have H1 : (some (t138 == ((Go.bits .and .i64 a0 3) == (Go.bits .and .i64 a1 3)))) = some r := by rw [if_pos rfl] at H; exact H
                              clear H
                              have H := H1
                              clear H1
                              obtain rfl := Option.some.inj H
                              go_enter Try.func5, Try.ntmps5
                              go_wp2_with (first | ((with_reducible refine gate_callee (f := 22) rfl ?_); refine goesL_ (some 26) rfl rfl Try.func22 (by kernel_rfl) rfl #[] rfl (by (try simp only [List.map_toArray, List.map_cons, List.map_nil]); first | done | rfl | (simp only [List.length_drop, List.length_take]; rfl)) ?_; (with_reducible refine (veillaw1_awake.calls  true _ A4.out).mono ?_); rintro e w' ⟨rfl, ⟨nd, rfl⟩⟩; refine ⟨_, rfl, ?_⟩) | ((with_reducible refine gate_callee (f := 15) rfl ?_); refine goesL_ (some 37) rfl rfl Try.func15 (by kernel_rfl) rfl #[.int .i64 (Go.bits .and .i64 a0 3), .int .i64 (Go.bits .and .i64 a1 3)] rfl (by (try simp only [List.map_toArray, List.map_cons, List.map_nil]); first | done | rfl | (simp only [List.length_drop, List.length_take]; rfl)) ?_; (with_reducible refine (label_Join.calls (Go.bits .and .i64 a0 3) (Go.bits .and .i64 a1 3) t124 t125 _ A6.out).mono ?_); rintro e w' ⟨rfl, ⟨nd, rfl⟩⟩; refine ⟨_, rfl, ?_⟩) | ((with_reducible refine gate_callee (f := 15) rfl ?_); refine goesL_ (some 43) rfl rfl Try.func15 (by kernel_rfl) rfl #[.int .i64 (Go.bits .and .i64 a1 3), .int .i64 (Go.bits .and .i64 a0 3)] rfl (by (try simp only [List.map_toArray, List.map_cons, List.map_nil]); first | done | rfl | (simp only [List.length_drop, List.length_take]; rfl)) ?_; (with_reducible refine (label_Join.calls (Go.bits .and .i64 a1 3) (Go.bits .and .i64 a0 3) t126 t127 _ A7.out).mono ?_); rintro e w' ⟨rfl, ⟨nd, rfl⟩⟩; refine ⟨_, rfl, ?_⟩) | ((with_reducible refine gate_callee (f := 17) rfl ?_); refine goesL_ (some 49) rfl rfl Try.func17 (by kernel_rfl) rfl #[.int .i64 (Go.bits .and .i64 a0 3), .int .i64 t124] rfl (by (try simp only [List.map_toArray, List.map_cons, List.map_nil]); first | done | rfl | (simp only [List.length_drop, List.length_take]; rfl)) ?_; (with_reducible refine (label_Below.calls (Go.bits .and .i64 a0 3) t124 true t129 _ A8.out).mono ?_); rintro e w' ⟨rfl, ⟨nd, rfl⟩⟩; refine ⟨_, rfl, ?_⟩) | ((with_reducible refine gate_callee (f := 17) rfl ?_); refine goesL_ (some 55) rfl rfl Try.func17 (by kernel_rfl) rfl #[.int .i64 (Go.bits .and .i64 a0 3), .int .i64 (Go.bits .and .i64 a2 3)] rfl (by (try simp only [List.map_toArray, List.map_cons, List.map_nil]); first | done | rfl | (simp only [List.length_drop, List.length_take]; rfl)) ?_; (with_reducible refine (label_Below.calls (Go.bits .and .i64 a0 3) (Go.bits .and .i64 a2 3) false t131 _ A9.out).mono ?_); rintro e w' ⟨rfl, ⟨nd, rfl⟩⟩; refine ⟨_, rfl, ?_⟩) | ((with_reducible refine gate_callee (f := 17) rfl ?_); refine goesL_ (some 61) rfl rfl Try.func17 (by kernel_rfl) rfl #[.int .i64 (Go.bits .and .i64 a1 3), .int .i64 (Go.bits .and .i64 a2 3)] rfl (by (try simp only [List.map_toArray, List.map_cons, List.map_nil]); first | done | rfl | (simp only [List.length_drop, List.length_take]; rfl)) ?_; (with_reducible refine (label_Below.calls (Go.bits .and .i64 a1 3) (Go.bits .and .i64 a2 3) t132 t133 _ A10.out).mono ?_); rintro e w' ⟨rfl, ⟨nd, rfl⟩⟩; refine ⟨_, rfl, ?_⟩) | ((with_reducible refine gate_callee (f := 17) rfl ?_); refine goesL_ (some 67) rfl rfl Try.func17 (by kernel_rfl) rfl #[.int .i64 t124, .int .i64 (Go.bits .and .i64 a2 3)] rfl (by (try simp only [List.map_toArray, List.map_cons, List.map_nil]); first | done | rfl | (simp only [List.length_drop, List.length_take]; rfl)) ?_; (with_reducible refine (label_Below.calls t124 (Go.bits .and .i64 a2 3) t134 t135 _ A11.out).mono ?_); rintro e w' ⟨rfl, ⟨nd, rfl⟩⟩; refine ⟨_, rfl, ?_⟩) | ((with_reducible refine gate_callee (f := 17) rfl ?_); refine goesL_ (some 73) rfl rfl Try.func17 (by kernel_rfl) rfl #[.int .i64 (Go.bits .and .i64 a0 3), .int .i64 (Go.bits .and .i64 a1 3)] rfl (by (try simp only [List.map_toArray, List.map_cons, List.map_nil]); first | done | rfl | (simp only [List.length_drop, List.length_take]; rfl)) ?_; (with_reducible refine (label_Below.calls (Go.bits .and .i64 a0 3) (Go.bits .and .i64 a1 3) true t137 _ A12.out).mono ?_); rintro e w' ⟨rfl, ⟨nd, rfl⟩⟩; refine ⟨_, rfl, ?_⟩) | ((with_reducible refine gate_callee (f := 17) rfl ?_); refine goesL_ (some 79) rfl rfl Try.func17 (by kernel_rfl) rfl #[.int .i64 (Go.bits .and .i64 a1 3), .int .i64 (Go.bits .and .i64 a0 3)] rfl (by (try simp only [List.map_toArray, List.map_cons, List.map_nil]); first | done | rfl | (simp only [List.length_drop, List.length_take]; rfl)) ?_; (with_reducible refine (label_Below.calls (Go.bits .and .i64 a1 3) (Go.bits .and .i64 a0 3) t138 t139 _ A13.out).mono ?_); rintro e w' ⟨rfl, ⟨nd, rfl⟩⟩; refine ⟨_, rfl, ?_⟩) | (go_at_call 19; (with_reducible refine (veillaw0_Num.calls t125 t140 _ A14.out).mono ?_); rintro e w' ⟨rfl, ⟨nd, rfl⟩⟩) | (go_at_call 19; (with_reducible refine (veillaw0_Num.calls t127 t141 _ A16.out).mono ?_); rintro e w' ⟨rfl, ⟨nd, rfl⟩⟩) | (go_at_call 19; (with_reducible refine (veillaw0_Num.calls t129 t142 _ A20.out).mono ?_); rintro e w' ⟨rfl, ⟨nd, rfl⟩⟩) | (go_at_call 19; (with_reducible refine (veillaw0_Num.calls t131 t143 _ A22.out).mono ?_); rintro e w' ⟨rfl, ⟨nd, rfl⟩⟩) | (go_at_call 19; (with_reducible refine (veillaw0_Num.calls t133 t144 _ A24.out).mono ?_); rintro e w' ⟨rfl, ⟨nd, rfl⟩⟩) | (go_at_call 19; (with_reducible refine (veillaw0_Num.calls t135 t145 _ A26.out).mono ?_); rintro e w' ⟨rfl, ⟨nd, rfl⟩⟩) | (go_at_call 19; (with_reducible refine (veillaw0_Num.calls t137 t148 _ A36.out).mono ?_); rintro e w' ⟨rfl, ⟨nd, rfl⟩⟩) | (go_at_call 19; (with_reducible refine (veillaw0_Num.calls t139 t149 _ A38.out).mono ?_); rintro e w' ⟨rfl, ⟨nd, rfl⟩⟩))
                              go_ret
                              exact ⟨by first | rfl | (simp; done) | (simp [*]; done), by repeat (first | exact Drawn0.refl _ | apply Drawn0.step)⟩
                            · replace c40 := Bool.eq_false_iff.mpr c40
                              subst c40
                              have H1 : (some (false == ((Go.bits .and .i64 a0 3) == (Go.bits .and .i64 a1 3)))) = some r := by rw [if_neg (show ¬ (false = true) by decide)] at H; exact H
                              clear H
                              have H := H1
                              clear H1
                              obtain rfl := Option.some.inj H
                              go_enter Try.func5, Try.ntmps5
                              go_wp2_with (first | ((with_reducible refine gate_callee (f := 22) rfl ?_); refine goesL_ (some 26) rfl rfl Try.func22 (by kernel_rfl) rfl #[] rfl (by (try simp only [List.map_toArray, List.map_cons, List.map_nil]); first | done | rfl | (simp only [List.length_drop, List.length_take]; rfl)) ?_; (with_reducible refine (veillaw1_awake.calls  true _ A4.out).mono ?_); rintro e w' ⟨rfl, ⟨nd, rfl⟩⟩; refine ⟨_, rfl, ?_⟩) | ((with_reducible refine gate_callee (f := 15) rfl ?_); refine goesL_ (some 37) rfl rfl Try.func15 (by kernel_rfl) rfl #[.int .i64 (Go.bits .and .i64 a0 3), .int .i64 (Go.bits .and .i64 a1 3)] rfl (by (try simp only [List.map_toArray, List.map_cons, List.map_nil]); first | done | rfl | (simp only [List.length_drop, List.length_take]; rfl)) ?_; (with_reducible refine (label_Join.calls (Go.bits .and .i64 a0 3) (Go.bits .and .i64 a1 3) t124 t125 _ A6.out).mono ?_); rintro e w' ⟨rfl, ⟨nd, rfl⟩⟩; refine ⟨_, rfl, ?_⟩) | ((with_reducible refine gate_callee (f := 15) rfl ?_); refine goesL_ (some 43) rfl rfl Try.func15 (by kernel_rfl) rfl #[.int .i64 (Go.bits .and .i64 a1 3), .int .i64 (Go.bits .and .i64 a0 3)] rfl (by (try simp only [List.map_toArray, List.map_cons, List.map_nil]); first | done | rfl | (simp only [List.length_drop, List.length_take]; rfl)) ?_; (with_reducible refine (label_Join.calls (Go.bits .and .i64 a1 3) (Go.bits .and .i64 a0 3) t126 t127 _ A7.out).mono ?_); rintro e w' ⟨rfl, ⟨nd, rfl⟩⟩; refine ⟨_, rfl, ?_⟩) | ((with_reducible refine gate_callee (f := 17) rfl ?_); refine goesL_ (some 49) rfl rfl Try.func17 (by kernel_rfl) rfl #[.int .i64 (Go.bits .and .i64 a0 3), .int .i64 t124] rfl (by (try simp only [List.map_toArray, List.map_cons, List.map_nil]); first | done | rfl | (simp only [List.length_drop, List.length_take]; rfl)) ?_; (with_reducible refine (label_Below.calls (Go.bits .and .i64 a0 3) t124 true t129 _ A8.out).mono ?_); rintro e w' ⟨rfl, ⟨nd, rfl⟩⟩; refine ⟨_, rfl, ?_⟩) | ((with_reducible refine gate_callee (f := 17) rfl ?_); refine goesL_ (some 55) rfl rfl Try.func17 (by kernel_rfl) rfl #[.int .i64 (Go.bits .and .i64 a0 3), .int .i64 (Go.bits .and .i64 a2 3)] rfl (by (try simp only [List.map_toArray, List.map_cons, List.map_nil]); first | done | rfl | (simp only [List.length_drop, List.length_take]; rfl)) ?_; (with_reducible refine (label_Below.calls (Go.bits .and .i64 a0 3) (Go.bits .and .i64 a2 3) false t131 _ A9.out).mono ?_); rintro e w' ⟨rfl, ⟨nd, rfl⟩⟩; refine ⟨_, rfl, ?_⟩) | ((with_reducible refine gate_callee (f := 17) rfl ?_); refine goesL_ (some 61) rfl rfl Try.func17 (by kernel_rfl) rfl #[.int .i64 (Go.bits .and .i64 a1 3), .int .i64 (Go.bits .and .i64 a2 3)] rfl (by (try simp only [List.map_toArray, List.map_cons, List.map_nil]); first | done | rfl | (simp only [List.length_drop, List.length_take]; rfl)) ?_; (with_reducible refine (label_Below.calls (Go.bits .and .i64 a1 3) (Go.bits .and .i64 a2 3) t132 t133 _ A10.out).mono ?_); rintro e w' ⟨rfl, ⟨nd, rfl⟩⟩; refine ⟨_, rfl, ?_⟩) | ((with_reducible refine gate_callee (f := 17) rfl ?_); refine goesL_ (some 67) rfl rfl Try.func17 (by kernel_rfl) rfl #[.int .i64 t124, .int .i64 (Go.bits .and .i64 a2 3)] rfl (by (try simp only [List.map_toArray, List.map_cons, List.map_nil]); first | done | rfl | (simp only [List.length_drop, List.length_take]; rfl)) ?_; (with_reducible refine (label_Below.calls t124 (Go.bits .and .i64 a2 3) t134 t135 _ A11.out).mono ?_); rintro e w' ⟨rfl, ⟨nd, rfl⟩⟩; refine ⟨_, rfl, ?_⟩) | ((with_reducible refine gate_callee (f := 17) rfl ?_); refine goesL_ (some 73) rfl rfl Try.func17 (by kernel_rfl) rfl #[.int .i64 (Go.bits .and .i64 a0 3), .int .i64 (Go.bits .and .i64 a1 3)] rfl (by (try simp only [List.map_toArray, List.map_cons, List.map_nil]); first | done | rfl | (simp only [List.length_drop, List.length_take]; rfl)) ?_; (with_reducible refine (label_Below.calls (Go.bits .and .i64 a0 3) (Go.bits .and .i64 a1 3) false t137 _ A12.out).mono ?_); rintro e w' ⟨rfl, ⟨nd, rfl⟩⟩; refine ⟨_, rfl, ?_⟩) | ((with_reducible refine gate_callee (f := 17) rfl ?_); refine goesL_ (some 79) rfl rfl Try.func17 (by kernel_rfl) rfl #[.int .i64 (Go.bits .and .i64 a1 3), .int .i64 (Go.bits .and .i64 a0 3)] rfl (by (try simp only [List.map_toArray, List.map_cons, List.map_nil]); first | done | rfl | (simp only [List.length_drop, List.length_take]; rfl)) ?_; (with_reducible refine (label_Below.calls (Go.bits .and .i64 a1 3) (Go.bits .and .i64 a0 3) t138 t139 _ A13.out).mono ?_); rintro e w' ⟨rfl, ⟨nd, rfl⟩⟩; refine ⟨_, rfl, ?_⟩) | (go_at_call 19; (with_reducible refine (veillaw0_Num.calls t125 t140 _ A14.out).mono ?_); rintro e w' ⟨rfl, ⟨nd, rfl⟩⟩) | (go_at_call 19; (with_reducible refine (veillaw0_Num.calls t127 t141 _ A16.out).mono ?_); rintro e w' ⟨rfl, ⟨nd, rfl⟩⟩) | (go_at_call 19; (with_reducible refine (veillaw0_Num.calls t129 t142 _ A20.out).mono ?_); rintro e w' ⟨rfl, ⟨nd, rfl⟩⟩) | (go_at_call 19; (with_reducible refine (veillaw0_Num.calls t131 t143 _ A22.out).mono ?_); rintro e w' ⟨rfl, ⟨nd, rfl⟩⟩) | (go_at_call 19; (with_reducible refine (veillaw0_Num.calls t133 t144 _ A24.out).mono ?_); rintro e w' ⟨rfl, ⟨nd, rfl⟩⟩) | (go_at_call 19; (with_reducible refine (veillaw0_Num.calls t135 t145 _ A26.out).mono ?_); rintro e w' ⟨rfl, ⟨nd, rfl⟩⟩) | (go_at_call 19; (with_reducible refine (veillaw0_Num.calls t137 t148 _ A36.out).mono ?_); rintro e w' ⟨rfl, ⟨nd, rfl⟩⟩) | (go_at_call 19; (with_reducible refine (veillaw0_Num.calls t139 t149 _ A38.out).mono ?_); rintro e w' ⟨rfl, ⟨nd, rfl⟩⟩))
                              go_ret
                              exact ⟨by first | rfl | (simp; done) | (simp [*]; done), by repeat (first | exact Drawn0.refl _ | apply Drawn0.step)⟩
                          · rw [if_neg c39] at H
                            have c39b0 : (t149 == 0) = false := beq_eq_false_iff_ne.mpr c39
                            have c39b1 : (t149 != 0) = true := bne_iff_ne.mpr c39
                            exact absurd ((Option.some.inj H).trans hr) (by decide)
                        · rw [if_neg c37] at H
                          have c37b0 : (t148 == 0) = false := beq_eq_false_iff_ne.mpr c37
                          have c37b1 : (t148 != 0) = true := bne_iff_ne.mpr c37
                          exact absurd ((Option.some.inj H).trans hr) (by decide)
                      · rw [if_neg c35] at H
                        have c35b0 : (t134 == false) = false := by simpa using c35
                        (try (have c35b1 : decide (t134 = false) = false := by simpa using c35))
                        (try (have c35b2 : (t134 == false) = false := by simpa using c35))
                        (try (have c35b3 : ¬ (t134 = false) := by simpa using c35))
                        clear c35
                        exact absurd ((Option.some.inj H).trans hr) (by decide)
                  · rw [if_neg c27] at H
                    have c27b0 : (t145 == 0) = false := beq_eq_false_iff_ne.mpr c27
                    have c27b1 : (t145 != 0) = true := bne_iff_ne.mpr c27
                    exact absurd ((Option.some.inj H).trans hr) (by decide)
                · rw [if_neg c25] at H
                  have c25b0 : (t144 == 0) = false := beq_eq_false_iff_ne.mpr c25
                  have c25b1 : (t144 != 0) = true := bne_iff_ne.mpr c25
                  exact absurd ((Option.some.inj H).trans hr) (by decide)
              · rw [if_neg c23] at H
                have c23b0 : (t143 == 0) = false := beq_eq_false_iff_ne.mpr c23
                have c23b1 : (t143 != 0) = true := bne_iff_ne.mpr c23
                exact absurd ((Option.some.inj H).trans hr) (by decide)
            · rw [if_neg c21] at H
              have c21b0 : (t142 == 0) = false := beq_eq_false_iff_ne.mpr c21
              have c21b1 : (t142 != 0) = true := bne_iff_ne.mpr c21
              exact absurd ((Option.some.inj H).trans hr) (by decide)
          · replace c19 := Bool.eq_false_iff.mpr c19
            subst c19
            have H1 : (some false) = some r := by rw [if_neg (show ¬ (false = true) by decide)] at H; exact H
            clear H
            have H := H1
            clear H1
            exact absurd ((Option.some.inj H).trans hr) (by decide)
        · rw [if_neg c18] at H
          have c18b0 : (t124 == t126) = false := beq_eq_false_iff_ne.mpr c18
          have c18b1 : (t124 != t126) = true := bne_iff_ne.mpr c18
          exact absurd ((Option.some.inj H).trans hr) (by decide)
      · rw [if_neg c17] at H
        have c17b0 : (t141 == 0) = false := beq_eq_false_iff_ne.mpr c17
        have c17b1 : (t141 != 0) = true := bne_iff_ne.mpr c17
        exact absurd ((Option.some.inj H).trans hr) (by decide)
    · rw [if_neg c15] at H
      have c15b0 : (t140 == 0) = false := beq_eq_false_iff_ne.mpr c15
      have c15b1 : (t140 != 0) = true := bne_iff_ne.mpr c15
      exact absurd ((Option.some.inj H).trans hr) (by decide)
  · replace c5 := Bool.eq_false_iff.mpr c5
    subst c5
    have H1 : (some false) = some r := by rw [if_neg (show ¬ (false = true) by decide)] at H; exact H
    clear H
    have H := H1
    clear H1
    exact absurd ((Option.some.inj H).trans hr) (by decide)

/-- THE ONE PURE STATEMENT of veillaw1_LabelLattice: yours. -/
def veillaw1_LabelLattice.Pure : Prop := ∀ (a0 : Int) (a1 : Int) (a2 : Int), (Lit.int .i64 a0).wf = true → (Lit.int .i64 a1).wf = true → (Lit.int .i64 a2).wf = true → veillaw1_LabelLattice.f a0 a1 a2 = some true
theorem veillaw1_LabelLattice.walk (P : veillaw1_LabelLattice.Pure) (a0 : Int) (a1 : Int) (a2 : Int) (w : World) (w0 : (Lit.int .i64 a0).wf = true) (w1 : (Lit.int .i64 a1).wf = true) (w2 : (Lit.int .i64 a2).wf = true) :
    Calls Try.prog 5 #[.int .i64 a0, .int .i64 a1, .int .i64 a2] w fun e w' => e = .returned (.bool true) ∧ Below w.heap.size w w' := by
  have h := P a0 a1 a2 w0 w1 w2
  refine (veillaw1_LabelLattice.calls a0 a1 a2 true w h).mono ?_
  rintro e w' ⟨rfl, hd⟩
  exact ⟨rfl, hd.below⟩

end Go.Proofs.Ytcjilmhaaeibjaa.PLabelLattice
