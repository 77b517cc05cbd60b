import Derived.Test.YtidedfhlocodgaaPProgFormsx0
import Derived.Test.YtidedfhlocodgaaPProgFormsx2
import Derived.Test.YtidedfhlocodgaaPProgFormsx4
import Derived.Test.YtidedfhlocodgaaPProgFormsx5
namespace Go.Proofs.Ytidedfhlocodgaa.PProgForms
open Go.RowKit Go.Proofs.YtidedfhlocodgaaW.PrintWords Go.Proofs.YtidedfhlocodgaaW.PrintLast Go.Proofs.YtidedfhlocodgaaW.PrintMore
attribute [local go_sem] max2_int min2_int max_two min_two max_three min_three max_four min_four   -- for this text's walks alone
set_option linter.unusedVariables false
set_option linter.unusedSimpArgs false

/-! ### veillaw8_ProgForms: function 13 -/
def veillaw8_ProgForms.f (k : Nat) (a0 : Int) (a1 : Int) : Option (Bool) := (veillaw8_awake.f k).bind fun t179 => (if t179 = true then (if 0 ≤ (wrap64 (16 + (wrap64 (1 + (Go.bits .and .i64 a1 1023))))) then (if (wrap64 (16 + (wrap64 (1 + (Go.bits .and .i64 a1 1023)))) : Int).toNat ≤ 8796093022208 then ((some (([(([(⟨wrap64 (6 + (wrap64 (1 + (Go.bits .and .i64 a1 1023)))), 0, 0, 0⟩ : S23)] : List (S23))), (([(⟨4, 0, 0, 0⟩ : S23)] : List (S23))), (([(⟨0, 0, 0, 0⟩ : S23), (⟨4, 0, 1, 0⟩ : S23)] : List (S23))), (([(⟨4, 0, 2, 0⟩ : S23)] : List (S23))), (List.replicate (wrap64 (16 + (wrap64 (1 + (Go.bits .and .i64 a1 1023)))) : Int).toNat z23)] : List (List (S23))) : List (List (S23)))).bind fun y195 => (if 0 ≤ (wrap64 (Int.tmod (IntKind.u64.wrap (a0)) 5)) then (if (wrap64 (Int.tmod (IntKind.u64.wrap (a0)) 5)) < (y195.length : Int) then ((prog_Put.f k (rd_L3 y195 (wrap64 (Int.tmod (IntKind.u64.wrap (a0)) 5)))).bind fun bt199 => ((some (([(⟨#[]⟩ : ByteArray), (⟨#[1]⟩ : ByteArray), (⟨#[0, 0]⟩ : ByteArray), (⟨#[1, 7, 0, 0, 0]⟩ : ByteArray), (⟨#[1, 4, 0, 0, 0]⟩ : ByteArray), (⟨#[1, 4, 0, 2, 0]⟩ : ByteArray), (⟨#[2, 5, 0, 0, 0]⟩ : ByteArray), (⟨#[1, 5, 0, 0, 0, 0]⟩ : ByteArray)] : List ByteArray) : List ByteArray)).bind fun y201 => (if 0 ≤ (Go.bits .and .i64 (a0 / 8) 7) then (if (Go.bits .and .i64 (a0 / 8) 7) < (y201.length : Int) then ((prog_Get.f k (rdOf ByteArray.empty y201 (Go.bits .and .i64 (a0 / 8) 7))).bind fun bt205 => ((some (([17] : List Int) : List Int)).bind fun y209 => (if 68 ≤ 281474976710656 then ((some (List.replicate 68 0 : List Int)).bind fun y212 => (if (strOfNums y209).size + (strOfNums y212).size ≤ 9223372036854775807 then ((prog_Get.f k ((strOfNums y209) ++ (strOfNums y212))).bind fun bt215 => ((prog_May.f k (rd_L3 y195 (wrap64 (Int.tmod (IntKind.u64.wrap (a0)) 5)))).bind fun t219 => (if t219 = true then (some false) else (if bt199.1.toList = ([] : List UInt8) then ((veillaw0_Num.f bt199.2).bind fun t220 => (if t220 = 800 then ((veillaw0_Num.f bt205.2).bind fun t221 => (if t221 = 800 then ((veillaw0_Num.f bt215.2).bind fun t222 => (some (t222 == 800))) else (some false))) else (some false))) else (some false))))) else (none))) else (none)))) else (none)) else (none)))) else (none)) else (none))) else (none)) else (none)) else (some false))
theorem veillaw8_ProgForms.mono : ∀ a0 a1 k, LeO (veillaw8_ProgForms.f k a0 a1) (veillaw8_ProgForms.f (k + 1) a0 a1) := by
  intro a0 a1 k
  unfold veillaw8_ProgForms.f
  repeat' first
      | (with_reducible exact prog_Get.mono _ _)
      | (with_reducible exact prog_May.mono _ _)
      | (with_reducible exact prog_Put.mono _ _)
      | (with_reducible exact veillaw8_awake.mono _)
      | (with_reducible exact LeO.refl _)
      | (with_reducible exact LeO.none _)
      | (with_reducible refine LeO.ite ?_ ?_)
      | (with_reducible refine LeO.bind ?_ (fun _ => ?_))
      | exact prog_Get.mono _ _
      | exact prog_May.mono _ _
      | exact prog_Put.mono _ _
      | exact veillaw8_awake.mono _
      | exact LeO.none _
      | refine LeO.ite ?_ ?_
      | refine LeO.bind ?_ (fun _ => ?_)
def veillaw8_ProgForms.T9 : Bool × List (List Nat × List Nat) := (true, [([], []), ([0], [0]), ([], []), ([2], [2]), ([1, 3], [1, 3]), ([4], [4]), ([5], [5]), ([6], [6]), ([6], [6]), ([7, 5, 0, 1, 2, 3, 4, 5, 6, 7], [7]), ([8, 9, 0, 1, 2, 3, 4, 5, 6, 7, 8, 9], [8])])
def veillaw8_ProgForms.B9 : List Nat := [0, 1, 0, 4, 15, 31, 63, 127, 127, 255, 1023]
theorem veillaw8_ProgForms.tab9 : rtab .any (opsOf Try.f13 9) = veillaw8_ProgForms.T9 := by kernel_rfl
theorem veillaw8_ProgForms.bits9 : waitsOk veillaw8_ProgForms.T9.2 veillaw8_ProgForms.B9 = true := by kernel_rfl
set_option maxHeartbeats 8000000 in
set_option maxRecDepth 100000 in
theorem veillaw8_ProgForms.calls (k : Nat) (a0 : Int) (a1 : Int) (r : Bool) (w : World) (h : veillaw8_ProgForms.f k a0 a1 = some r) (hr : r = true := by rfl) :
    Calls Try.prog 13 #[.int .i64 a0, .int .i64 a1] w fun e w' => e = .returned (.bool r) ∧ Below w.heap.size w w' := by
  have hu23 := Try.underlying23
  have HB := Aside0.mk (Below.refl w.heap.size w)
  have H : ((veillaw8_awake.f k).bind fun t179 => (if t179 = true then (if 0 ≤ (wrap64 (16 + (wrap64 (1 + (Go.bits .and .i64 a1 1023))))) then (if (wrap64 (16 + (wrap64 (1 + (Go.bits .and .i64 a1 1023)))) : Int).toNat ≤ 8796093022208 then ((some (([(([(⟨wrap64 (6 + (wrap64 (1 + (Go.bits .and .i64 a1 1023)))), 0, 0, 0⟩ : S23)] : List (S23))), (([(⟨4, 0, 0, 0⟩ : S23)] : List (S23))), (([(⟨0, 0, 0, 0⟩ : S23), (⟨4, 0, 1, 0⟩ : S23)] : List (S23))), (([(⟨4, 0, 2, 0⟩ : S23)] : List (S23))), (List.replicate (wrap64 (16 + (wrap64 (1 + (Go.bits .and .i64 a1 1023)))) : Int).toNat z23)] : List (List (S23))) : List (List (S23)))).bind fun y195 => (if 0 ≤ (wrap64 (Int.tmod (IntKind.u64.wrap (a0)) 5)) then (if (wrap64 (Int.tmod (IntKind.u64.wrap (a0)) 5)) < (y195.length : Int) then ((prog_Put.f k (rd_L3 y195 (wrap64 (Int.tmod (IntKind.u64.wrap (a0)) 5)))).bind fun bt199 => ((some (([(⟨#[]⟩ : ByteArray), (⟨#[1]⟩ : ByteArray), (⟨#[0, 0]⟩ : ByteArray), (⟨#[1, 7, 0, 0, 0]⟩ : ByteArray), (⟨#[1, 4, 0, 0, 0]⟩ : ByteArray), (⟨#[1, 4, 0, 2, 0]⟩ : ByteArray), (⟨#[2, 5, 0, 0, 0]⟩ : ByteArray), (⟨#[1, 5, 0, 0, 0, 0]⟩ : ByteArray)] : List ByteArray) : List ByteArray)).bind fun y201 => (if 0 ≤ (Go.bits .and .i64 (a0 / 8) 7) then (if (Go.bits .and .i64 (a0 / 8) 7) < (y201.length : Int) then ((prog_Get.f k (rdOf ByteArray.empty y201 (Go.bits .and .i64 (a0 / 8) 7))).bind fun bt205 => ((some (([17] : List Int) : List Int)).bind fun y209 => (if 68 ≤ 281474976710656 then ((some (List.replicate 68 0 : List Int)).bind fun y212 => (if (strOfNums y209).size + (strOfNums y212).size ≤ 9223372036854775807 then ((prog_Get.f k ((strOfNums y209) ++ (strOfNums y212))).bind fun bt215 => ((prog_May.f k (rd_L3 y195 (wrap64 (Int.tmod (IntKind.u64.wrap (a0)) 5)))).bind fun t219 => (if t219 = true then (some false) else (if bt199.1.toList = ([] : List UInt8) then ((veillaw0_Num.f bt199.2).bind fun t220 => (if t220 = 800 then ((veillaw0_Num.f bt205.2).bind fun t221 => (if t221 = 800 then ((veillaw0_Num.f bt215.2).bind fun t222 => (some (t222 == 800))) else (some false))) else (some false))) else (some false))))) else (none))) else (none)))) else (none)) else (none)))) else (none)) else (none))) else (none)) else (none)) else (some false))) = some r := h
  clear h
  replace H := Option.bind_eq_some_iff.mp H
  obtain ⟨t179, A30, H⟩ := H
  replace H : (if t179 = true then (if 0 ≤ (wrap64 (16 + (wrap64 (1 + (Go.bits .and .i64 a1 1023))))) then (if (wrap64 (16 + (wrap64 (1 + (Go.bits .and .i64 a1 1023)))) : Int).toNat ≤ 8796093022208 then ((some (([(([(⟨wrap64 (6 + (wrap64 (1 + (Go.bits .and .i64 a1 1023)))), 0, 0, 0⟩ : S23)] : List (S23))), (([(⟨4, 0, 0, 0⟩ : S23)] : List (S23))), (([(⟨0, 0, 0, 0⟩ : S23), (⟨4, 0, 1, 0⟩ : S23)] : List (S23))), (([(⟨4, 0, 2, 0⟩ : S23)] : List (S23))), (List.replicate (wrap64 (16 + (wrap64 (1 + (Go.bits .and .i64 a1 1023)))) : Int).toNat z23)] : List (List (S23))) : List (List (S23)))).bind fun y195 => (if 0 ≤ (wrap64 (Int.tmod (IntKind.u64.wrap (a0)) 5)) then (if (wrap64 (Int.tmod (IntKind.u64.wrap (a0)) 5)) < (y195.length : Int) then ((prog_Put.f k (rd_L3 y195 (wrap64 (Int.tmod (IntKind.u64.wrap (a0)) 5)))).bind fun bt199 => ((some (([(⟨#[]⟩ : ByteArray), (⟨#[1]⟩ : ByteArray), (⟨#[0, 0]⟩ : ByteArray), (⟨#[1, 7, 0, 0, 0]⟩ : ByteArray), (⟨#[1, 4, 0, 0, 0]⟩ : ByteArray), (⟨#[1, 4, 0, 2, 0]⟩ : ByteArray), (⟨#[2, 5, 0, 0, 0]⟩ : ByteArray), (⟨#[1, 5, 0, 0, 0, 0]⟩ : ByteArray)] : List ByteArray) : List ByteArray)).bind fun y201 => (if 0 ≤ (Go.bits .and .i64 (a0 / 8) 7) then (if (Go.bits .and .i64 (a0 / 8) 7) < (y201.length : Int) then ((prog_Get.f k (rdOf ByteArray.empty y201 (Go.bits .and .i64 (a0 / 8) 7))).bind fun bt205 => ((some (([17] : List Int) : List Int)).bind fun y209 => (if 68 ≤ 281474976710656 then ((some (List.replicate 68 0 : List Int)).bind fun y212 => (if (strOfNums y209).size + (strOfNums y212).size ≤ 9223372036854775807 then ((prog_Get.f k ((strOfNums y209) ++ (strOfNums y212))).bind fun bt215 => ((prog_May.f k (rd_L3 y195 (wrap64 (Int.tmod (IntKind.u64.wrap (a0)) 5)))).bind fun t219 => (if t219 = true then (some false) else (if bt199.1.toList = ([] : List UInt8) then ((veillaw0_Num.f bt199.2).bind fun t220 => (if t220 = 800 then ((veillaw0_Num.f bt205.2).bind fun t221 => (if t221 = 800 then ((veillaw0_Num.f bt215.2).bind fun t222 => (some (t222 == 800))) else (some false))) else (some false))) else (some false))))) else (none))) else (none)))) else (none)) else (none)))) else (none)) else (none))) else (none)) else (none)) else (some false)) = some r := H
  have A3 := Aside0.mk A30
  clear A30
  by_cases c4 : t179 = true
  · subst c4
    have H1 : (if 0 ≤ (wrap64 (16 + (wrap64 (1 + (Go.bits .and .i64 a1 1023))))) then (if (wrap64 (16 + (wrap64 (1 + (Go.bits .and .i64 a1 1023)))) : Int).toNat ≤ 8796093022208 then ((some (([(([(⟨wrap64 (6 + (wrap64 (1 + (Go.bits .and .i64 a1 1023)))), 0, 0, 0⟩ : S23)] : List (S23))), (([(⟨4, 0, 0, 0⟩ : S23)] : List (S23))), (([(⟨0, 0, 0, 0⟩ : S23), (⟨4, 0, 1, 0⟩ : S23)] : List (S23))), (([(⟨4, 0, 2, 0⟩ : S23)] : List (S23))), (List.replicate (wrap64 (16 + (wrap64 (1 + (Go.bits .and .i64 a1 1023)))) : Int).toNat z23)] : List (List (S23))) : List (List (S23)))).bind fun y195 => (if 0 ≤ (wrap64 (Int.tmod (IntKind.u64.wrap (a0)) 5)) then (if (wrap64 (Int.tmod (IntKind.u64.wrap (a0)) 5)) < (y195.length : Int) then ((prog_Put.f k (rd_L3 y195 (wrap64 (Int.tmod (IntKind.u64.wrap (a0)) 5)))).bind fun bt199 => ((some (([(⟨#[]⟩ : ByteArray), (⟨#[1]⟩ : ByteArray), (⟨#[0, 0]⟩ : ByteArray), (⟨#[1, 7, 0, 0, 0]⟩ : ByteArray), (⟨#[1, 4, 0, 0, 0]⟩ : ByteArray), (⟨#[1, 4, 0, 2, 0]⟩ : ByteArray), (⟨#[2, 5, 0, 0, 0]⟩ : ByteArray), (⟨#[1, 5, 0, 0, 0, 0]⟩ : ByteArray)] : List ByteArray) : List ByteArray)).bind fun y201 => (if 0 ≤ (Go.bits .and .i64 (a0 / 8) 7) then (if (Go.bits .and .i64 (a0 / 8) 7) < (y201.length : Int) then ((prog_Get.f k (rdOf ByteArray.empty y201 (Go.bits .and .i64 (a0 / 8) 7))).bind fun bt205 => ((some (([17] : List Int) : List Int)).bind fun y209 => (if 68 ≤ 281474976710656 then ((some (List.replicate 68 0 : List Int)).bind fun y212 => (if (strOfNums y209).size + (strOfNums y212).size ≤ 9223372036854775807 then ((prog_Get.f k ((strOfNums y209) ++ (strOfNums y212))).bind fun bt215 => ((prog_May.f k (rd_L3 y195 (wrap64 (Int.tmod (IntKind.u64.wrap (a0)) 5)))).bind fun t219 => (if t219 = true then (some false) else (if bt199.1.toList = ([] : List UInt8) then ((veillaw0_Num.f bt199.2).bind fun t220 => (if t220 = 800 then ((veillaw0_Num.f bt205.2).bind fun t221 => (if t221 = 800 then ((veillaw0_Num.f bt215.2).bind fun t222 => (some (t222 == 800))) else (some false))) else (some false))) else (some false))))) else (none))) else (none)))) else (none)) else (none)))) else (none)) else (none))) else (none)) else (none)) = some r := by rw [if_pos rfl] at H; exact H
    clear H
    have H := H1
    clear H1
    obtain ⟨y180, hy180⟩ : ∃ y_ : List (S23), y_ = (([(⟨wrap64 (6 + (wrap64 (1 + (Go.bits .and .i64 a1 1023)))), 0, 0, 0⟩ : S23)] : List (S23))) := ⟨_, rfl⟩
    replace H : (if 0 ≤ (wrap64 (16 + (wrap64 (1 + (Go.bits .and .i64 a1 1023))))) then (if (wrap64 (16 + (wrap64 (1 + (Go.bits .and .i64 a1 1023)))) : Int).toNat ≤ 8796093022208 then ((some (([y180, (([(⟨4, 0, 0, 0⟩ : S23)] : List (S23))), (([(⟨0, 0, 0, 0⟩ : S23), (⟨4, 0, 1, 0⟩ : S23)] : List (S23))), (([(⟨4, 0, 2, 0⟩ : S23)] : List (S23))), (List.replicate (wrap64 (16 + (wrap64 (1 + (Go.bits .and .i64 a1 1023)))) : Int).toNat z23)] : List (List (S23))) : List (List (S23)))).bind fun y195 => (if 0 ≤ (wrap64 (Int.tmod (IntKind.u64.wrap (a0)) 5)) then (if (wrap64 (Int.tmod (IntKind.u64.wrap (a0)) 5)) < (y195.length : Int) then ((prog_Put.f k (rd_L3 y195 (wrap64 (Int.tmod (IntKind.u64.wrap (a0)) 5)))).bind fun bt199 => ((some (([(⟨#[]⟩ : ByteArray), (⟨#[1]⟩ : ByteArray), (⟨#[0, 0]⟩ : ByteArray), (⟨#[1, 7, 0, 0, 0]⟩ : ByteArray), (⟨#[1, 4, 0, 0, 0]⟩ : ByteArray), (⟨#[1, 4, 0, 2, 0]⟩ : ByteArray), (⟨#[2, 5, 0, 0, 0]⟩ : ByteArray), (⟨#[1, 5, 0, 0, 0, 0]⟩ : ByteArray)] : List ByteArray) : List ByteArray)).bind fun y201 => (if 0 ≤ (Go.bits .and .i64 (a0 / 8) 7) then (if (Go.bits .and .i64 (a0 / 8) 7) < (y201.length : Int) then ((prog_Get.f k (rdOf ByteArray.empty y201 (Go.bits .and .i64 (a0 / 8) 7))).bind fun bt205 => ((some (([17] : List Int) : List Int)).bind fun y209 => (if 68 ≤ 281474976710656 then ((some (List.replicate 68 0 : List Int)).bind fun y212 => (if (strOfNums y209).size + (strOfNums y212).size ≤ 9223372036854775807 then ((prog_Get.f k ((strOfNums y209) ++ (strOfNums y212))).bind fun bt215 => ((prog_May.f k (rd_L3 y195 (wrap64 (Int.tmod (IntKind.u64.wrap (a0)) 5)))).bind fun t219 => (if t219 = true then (some false) else (if bt199.1.toList = ([] : List UInt8) then ((veillaw0_Num.f bt199.2).bind fun t220 => (if t220 = 800 then ((veillaw0_Num.f bt205.2).bind fun t221 => (if t221 = 800 then ((veillaw0_Num.f bt215.2).bind fun t222 => (some (t222 == 800))) else (some false))) else (some false))) else (some false))))) else (none))) else (none)))) else (none)) else (none)))) else (none)) else (none))) else (none)) else (none)) = some r := by first | (rw [hy180]; with_reducible exact H) | (have H2_ := (Option.bind_some _ _).symm.trans H; rw [hy180]; with_reducible exact H2_) | (have H2_ := (Option.bind_some _ _).symm.trans H; with_reducible exact H2_) | with_reducible exact H | (rw [hy180]; exact H) | exact H
    have Ny180 := Aside0.mk hy180
    clear hy180
    obtain ⟨y183, hy183⟩ : ∃ y_ : List (S23), y_ = (([(⟨4, 0, 0, 0⟩ : S23)] : List (S23))) := ⟨_, rfl⟩
    replace H : (if 0 ≤ (wrap64 (16 + (wrap64 (1 + (Go.bits .and .i64 a1 1023))))) then (if (wrap64 (16 + (wrap64 (1 + (Go.bits .and .i64 a1 1023)))) : Int).toNat ≤ 8796093022208 then ((some (([y180, y183, (([(⟨0, 0, 0, 0⟩ : S23), (⟨4, 0, 1, 0⟩ : S23)] : List (S23))), (([(⟨4, 0, 2, 0⟩ : S23)] : List (S23))), (List.replicate (wrap64 (16 + (wrap64 (1 + (Go.bits .and .i64 a1 1023)))) : Int).toNat z23)] : List (List (S23))) : List (List (S23)))).bind fun y195 => (if 0 ≤ (wrap64 (Int.tmod (IntKind.u64.wrap (a0)) 5)) then (if (wrap64 (Int.tmod (IntKind.u64.wrap (a0)) 5)) < (y195.length : Int) then ((prog_Put.f k (rd_L3 y195 (wrap64 (Int.tmod (IntKind.u64.wrap (a0)) 5)))).bind fun bt199 => ((some (([(⟨#[]⟩ : ByteArray), (⟨#[1]⟩ : ByteArray), (⟨#[0, 0]⟩ : ByteArray), (⟨#[1, 7, 0, 0, 0]⟩ : ByteArray), (⟨#[1, 4, 0, 0, 0]⟩ : ByteArray), (⟨#[1, 4, 0, 2, 0]⟩ : ByteArray), (⟨#[2, 5, 0, 0, 0]⟩ : ByteArray), (⟨#[1, 5, 0, 0, 0, 0]⟩ : ByteArray)] : List ByteArray) : List ByteArray)).bind fun y201 => (if 0 ≤ (Go.bits .and .i64 (a0 / 8) 7) then (if (Go.bits .and .i64 (a0 / 8) 7) < (y201.length : Int) then ((prog_Get.f k (rdOf ByteArray.empty y201 (Go.bits .and .i64 (a0 / 8) 7))).bind fun bt205 => ((some (([17] : List Int) : List Int)).bind fun y209 => (if 68 ≤ 281474976710656 then ((some (List.replicate 68 0 : List Int)).bind fun y212 => (if (strOfNums y209).size + (strOfNums y212).size ≤ 9223372036854775807 then ((prog_Get.f k ((strOfNums y209) ++ (strOfNums y212))).bind fun bt215 => ((prog_May.f k (rd_L3 y195 (wrap64 (Int.tmod (IntKind.u64.wrap (a0)) 5)))).bind fun t219 => (if t219 = true then (some false) else (if bt199.1.toList = ([] : List UInt8) then ((veillaw0_Num.f bt199.2).bind fun t220 => (if t220 = 800 then ((veillaw0_Num.f bt205.2).bind fun t221 => (if t221 = 800 then ((veillaw0_Num.f bt215.2).bind fun t222 => (some (t222 == 800))) else (some false))) else (some false))) else (some false))))) else (none))) else (none)))) else (none)) else (none)))) else (none)) else (none))) else (none)) else (none)) = some r := by first | (rw [hy183]; with_reducible exact H) | (have H2_ := (Option.bind_some _ _).symm.trans H; rw [hy183]; with_reducible exact H2_) | (have H2_ := (Option.bind_some _ _).symm.trans H; with_reducible exact H2_) | with_reducible exact H | (rw [hy183]; exact H) | exact H
    have Ny183 := Aside0.mk hy183
    clear hy183
    obtain ⟨y186, hy186⟩ : ∃ y_ : List (S23), y_ = (([(⟨0, 0, 0, 0⟩ : S23), (⟨4, 0, 1, 0⟩ : S23)] : List (S23))) := ⟨_, rfl⟩
    replace H : (if 0 ≤ (wrap64 (16 + (wrap64 (1 + (Go.bits .and .i64 a1 1023))))) then (if (wrap64 (16 + (wrap64 (1 + (Go.bits .and .i64 a1 1023)))) : Int).toNat ≤ 8796093022208 then ((some (([y180, y183, y186, (([(⟨4, 0, 2, 0⟩ : S23)] : List (S23))), (List.replicate (wrap64 (16 + (wrap64 (1 + (Go.bits .and .i64 a1 1023)))) : Int).toNat z23)] : List (List (S23))) : List (List (S23)))).bind fun y195 => (if 0 ≤ (wrap64 (Int.tmod (IntKind.u64.wrap (a0)) 5)) then (if (wrap64 (Int.tmod (IntKind.u64.wrap (a0)) 5)) < (y195.length : Int) then ((prog_Put.f k (rd_L3 y195 (wrap64 (Int.tmod (IntKind.u64.wrap (a0)) 5)))).bind fun bt199 => ((some (([(⟨#[]⟩ : ByteArray), (⟨#[1]⟩ : ByteArray), (⟨#[0, 0]⟩ : ByteArray), (⟨#[1, 7, 0, 0, 0]⟩ : ByteArray), (⟨#[1, 4, 0, 0, 0]⟩ : ByteArray), (⟨#[1, 4, 0, 2, 0]⟩ : ByteArray), (⟨#[2, 5, 0, 0, 0]⟩ : ByteArray), (⟨#[1, 5, 0, 0, 0, 0]⟩ : ByteArray)] : List ByteArray) : List ByteArray)).bind fun y201 => (if 0 ≤ (Go.bits .and .i64 (a0 / 8) 7) then (if (Go.bits .and .i64 (a0 / 8) 7) < (y201.length : Int) then ((prog_Get.f k (rdOf ByteArray.empty y201 (Go.bits .and .i64 (a0 / 8) 7))).bind fun bt205 => ((some (([17] : List Int) : List Int)).bind fun y209 => (if 68 ≤ 281474976710656 then ((some (List.replicate 68 0 : List Int)).bind fun y212 => (if (strOfNums y209).size + (strOfNums y212).size ≤ 9223372036854775807 then ((prog_Get.f k ((strOfNums y209) ++ (strOfNums y212))).bind fun bt215 => ((prog_May.f k (rd_L3 y195 (wrap64 (Int.tmod (IntKind.u64.wrap (a0)) 5)))).bind fun t219 => (if t219 = true then (some false) else (if bt199.1.toList = ([] : List UInt8) then ((veillaw0_Num.f bt199.2).bind fun t220 => (if t220 = 800 then ((veillaw0_Num.f bt205.2).bind fun t221 => (if t221 = 800 then ((veillaw0_Num.f bt215.2).bind fun t222 => (some (t222 == 800))) else (some false))) else (some false))) else (some false))))) else (none))) else (none)))) else (none)) else (none)))) else (none)) else (none))) else (none)) else (none)) = some r := by first | (rw [hy186]; with_reducible exact H) | (have H2_ := (Option.bind_some _ _).symm.trans H; rw [hy186]; with_reducible exact H2_) | (have H2_ := (Option.bind_some _ _).symm.trans H; with_reducible exact H2_) | with_reducible exact H | (rw [hy186]; exact H) | exact H
    have Ny186 := Aside0.mk hy186
    clear hy186
    obtain ⟨y189, hy189⟩ : ∃ y_ : List (S23), y_ = (([(⟨4, 0, 2, 0⟩ : S23)] : List (S23))) := ⟨_, rfl⟩
    replace H : (if 0 ≤ (wrap64 (16 + (wrap64 (1 + (Go.bits .and .i64 a1 1023))))) then (if (wrap64 (16 + (wrap64 (1 + (Go.bits .and .i64 a1 1023)))) : Int).toNat ≤ 8796093022208 then ((some (([y180, y183, y186, y189, (List.replicate (wrap64 (16 + (wrap64 (1 + (Go.bits .and .i64 a1 1023)))) : Int).toNat z23)] : List (List (S23))) : List (List (S23)))).bind fun y195 => (if 0 ≤ (wrap64 (Int.tmod (IntKind.u64.wrap (a0)) 5)) then (if (wrap64 (Int.tmod (IntKind.u64.wrap (a0)) 5)) < (y195.length : Int) then ((prog_Put.f k (rd_L3 y195 (wrap64 (Int.tmod (IntKind.u64.wrap (a0)) 5)))).bind fun bt199 => ((some (([(⟨#[]⟩ : ByteArray), (⟨#[1]⟩ : ByteArray), (⟨#[0, 0]⟩ : ByteArray), (⟨#[1, 7, 0, 0, 0]⟩ : ByteArray), (⟨#[1, 4, 0, 0, 0]⟩ : ByteArray), (⟨#[1, 4, 0, 2, 0]⟩ : ByteArray), (⟨#[2, 5, 0, 0, 0]⟩ : ByteArray), (⟨#[1, 5, 0, 0, 0, 0]⟩ : ByteArray)] : List ByteArray) : List ByteArray)).bind fun y201 => (if 0 ≤ (Go.bits .and .i64 (a0 / 8) 7) then (if (Go.bits .and .i64 (a0 / 8) 7) < (y201.length : Int) then ((prog_Get.f k (rdOf ByteArray.empty y201 (Go.bits .and .i64 (a0 / 8) 7))).bind fun bt205 => ((some (([17] : List Int) : List Int)).bind fun y209 => (if 68 ≤ 281474976710656 then ((some (List.replicate 68 0 : List Int)).bind fun y212 => (if (strOfNums y209).size + (strOfNums y212).size ≤ 9223372036854775807 then ((prog_Get.f k ((strOfNums y209) ++ (strOfNums y212))).bind fun bt215 => ((prog_May.f k (rd_L3 y195 (wrap64 (Int.tmod (IntKind.u64.wrap (a0)) 5)))).bind fun t219 => (if t219 = true then (some false) else (if bt199.1.toList = ([] : List UInt8) then ((veillaw0_Num.f bt199.2).bind fun t220 => (if t220 = 800 then ((veillaw0_Num.f bt205.2).bind fun t221 => (if t221 = 800 then ((veillaw0_Num.f bt215.2).bind fun t222 => (some (t222 == 800))) else (some false))) else (some false))) else (some false))))) else (none))) else (none)))) else (none)) else (none)))) else (none)) else (none))) else (none)) else (none)) = some r := by first | (rw [hy189]; with_reducible exact H) | (have H2_ := (Option.bind_some _ _).symm.trans H; rw [hy189]; with_reducible exact H2_) | (have H2_ := (Option.bind_some _ _).symm.trans H; with_reducible exact H2_) | with_reducible exact H | (rw [hy189]; exact H) | exact H
    have Ny189 := Aside0.mk hy189
    clear hy189
    obtain ⟨ji5, hji5⟩ : ∃ j_ : Int, (wrap64 (16 + (wrap64 (1 + (Go.bits .and .i64 a1 1023))))) = j_ := ⟨_, rfl⟩
    replace H : (if 0 ≤ (ji5) then (if (ji5 : Int).toNat ≤ 8796093022208 then ((some (([y180, y183, y186, y189, (List.replicate (ji5 : Int).toNat z23)] : List (List (S23))) : List (List (S23)))).bind fun y195 => (if 0 ≤ (wrap64 (Int.tmod (IntKind.u64.wrap (a0)) 5)) then (if (wrap64 (Int.tmod (IntKind.u64.wrap (a0)) 5)) < (y195.length : Int) then ((prog_Put.f k (rd_L3 y195 (wrap64 (Int.tmod (IntKind.u64.wrap (a0)) 5)))).bind fun bt199 => ((some (([(⟨#[]⟩ : ByteArray), (⟨#[1]⟩ : ByteArray), (⟨#[0, 0]⟩ : ByteArray), (⟨#[1, 7, 0, 0, 0]⟩ : ByteArray), (⟨#[1, 4, 0, 0, 0]⟩ : ByteArray), (⟨#[1, 4, 0, 2, 0]⟩ : ByteArray), (⟨#[2, 5, 0, 0, 0]⟩ : ByteArray), (⟨#[1, 5, 0, 0, 0, 0]⟩ : ByteArray)] : List ByteArray) : List ByteArray)).bind fun y201 => (if 0 ≤ (Go.bits .and .i64 (a0 / 8) 7) then (if (Go.bits .and .i64 (a0 / 8) 7) < (y201.length : Int) then ((prog_Get.f k (rdOf ByteArray.empty y201 (Go.bits .and .i64 (a0 / 8) 7))).bind fun bt205 => ((some (([17] : List Int) : List Int)).bind fun y209 => (if 68 ≤ 281474976710656 then ((some (List.replicate 68 0 : List Int)).bind fun y212 => (if (strOfNums y209).size + (strOfNums y212).size ≤ 9223372036854775807 then ((prog_Get.f k ((strOfNums y209) ++ (strOfNums y212))).bind fun bt215 => ((prog_May.f k (rd_L3 y195 (wrap64 (Int.tmod (IntKind.u64.wrap (a0)) 5)))).bind fun t219 => (if t219 = true then (some false) else (if bt199.1.toList = ([] : List UInt8) then ((veillaw0_Num.f bt199.2).bind fun t220 => (if t220 = 800 then ((veillaw0_Num.f bt205.2).bind fun t221 => (if t221 = 800 then ((veillaw0_Num.f bt215.2).bind fun t222 => (some (t222 == 800))) else (some false))) else (some false))) else (some false))))) else (none))) else (none)))) else (none)) else (none)))) else (none)) else (none))) else (none)) else (none)) = some r := by first | (rw [hji5] at H; exact H) | (simp only [hji5] at H ⊢; exact H)
    (try rw [hji5] at A3)
    have hji5w : (IntKind.i64.wrap (16 + (wrap64 (1 + (Go.bits .and .i64 a1 1023))))) = ji5 := (i64_w _).trans hji5
    by_cases c6 : 0 ≤ (ji5)
    · rw [if_pos c6] at H
      have c6b0 := eq_true c6
      have c6b1 : decide (0 ≤ (ji5)) = true := decide_eq_true c6
      clear c6
      by_cases c7 : (ji5 : Int).toNat ≤ 8796093022208
      · rw [if_pos c7] at H
        have c7b0 := eq_true c7
        have c7b1 : decide ((ji5 : Int).toNat ≤ 8796093022208) = true := decide_eq_true c7
        clear c7
        obtain ⟨y192, hy192⟩ : ∃ y_ : List (S23), y_ = (List.replicate (ji5 : Int).toNat z23) := ⟨_, rfl⟩
        replace H : ((some (([y180, y183, y186, y189, y192] : List (List (S23))) : List (List (S23)))).bind fun y195 => (if 0 ≤ (wrap64 (Int.tmod (IntKind.u64.wrap (a0)) 5)) then (if (wrap64 (Int.tmod (IntKind.u64.wrap (a0)) 5)) < (y195.length : Int) then ((prog_Put.f k (rd_L3 y195 (wrap64 (Int.tmod (IntKind.u64.wrap (a0)) 5)))).bind fun bt199 => ((some (([(⟨#[]⟩ : ByteArray), (⟨#[1]⟩ : ByteArray), (⟨#[0, 0]⟩ : ByteArray), (⟨#[1, 7, 0, 0, 0]⟩ : ByteArray), (⟨#[1, 4, 0, 0, 0]⟩ : ByteArray), (⟨#[1, 4, 0, 2, 0]⟩ : ByteArray), (⟨#[2, 5, 0, 0, 0]⟩ : ByteArray), (⟨#[1, 5, 0, 0, 0, 0]⟩ : ByteArray)] : List ByteArray) : List ByteArray)).bind fun y201 => (if 0 ≤ (Go.bits .and .i64 (a0 / 8) 7) then (if (Go.bits .and .i64 (a0 / 8) 7) < (y201.length : Int) then ((prog_Get.f k (rdOf ByteArray.empty y201 (Go.bits .and .i64 (a0 / 8) 7))).bind fun bt205 => ((some (([17] : List Int) : List Int)).bind fun y209 => (if 68 ≤ 281474976710656 then ((some (List.replicate 68 0 : List Int)).bind fun y212 => (if (strOfNums y209).size + (strOfNums y212).size ≤ 9223372036854775807 then ((prog_Get.f k ((strOfNums y209) ++ (strOfNums y212))).bind fun bt215 => ((prog_May.f k (rd_L3 y195 (wrap64 (Int.tmod (IntKind.u64.wrap (a0)) 5)))).bind fun t219 => (if t219 = true then (some false) else (if bt199.1.toList = ([] : List UInt8) then ((veillaw0_Num.f bt199.2).bind fun t220 => (if t220 = 800 then ((veillaw0_Num.f bt205.2).bind fun t221 => (if t221 = 800 then ((veillaw0_Num.f bt215.2).bind fun t222 => (some (t222 == 800))) else (some false))) else (some false))) else (some false))))) else (none))) else (none)))) else (none)) else (none)))) else (none)) else (none))) = some r := by first | (rw [hy192]; with_reducible exact H) | (have H2_ := (Option.bind_some _ _).symm.trans H; rw [hy192]; with_reducible exact H2_) | (have H2_ := (Option.bind_some _ _).symm.trans H; with_reducible exact H2_) | with_reducible exact H | (rw [hy192]; exact H) | exact H
        have Ny192 := Aside0.mk hy192
        clear hy192
        obtain ⟨y195, hy195⟩ : ∃ y_ : List (List (S23)), y_ = (([y180, y183, y186, y189, y192] : List (List (S23)))) := ⟨_, rfl⟩
        replace H : (if 0 ≤ (wrap64 (Int.tmod (IntKind.u64.wrap (a0)) 5)) then (if (wrap64 (Int.tmod (IntKind.u64.wrap (a0)) 5)) < (y195.length : Int) then ((prog_Put.f k (rd_L3 y195 (wrap64 (Int.tmod (IntKind.u64.wrap (a0)) 5)))).bind fun bt199 => ((some (([(⟨#[]⟩ : ByteArray), (⟨#[1]⟩ : ByteArray), (⟨#[0, 0]⟩ : ByteArray), (⟨#[1, 7, 0, 0, 0]⟩ : ByteArray), (⟨#[1, 4, 0, 0, 0]⟩ : ByteArray), (⟨#[1, 4, 0, 2, 0]⟩ : ByteArray), (⟨#[2, 5, 0, 0, 0]⟩ : ByteArray), (⟨#[1, 5, 0, 0, 0, 0]⟩ : ByteArray)] : List ByteArray) : List ByteArray)).bind fun y201 => (if 0 ≤ (Go.bits .and .i64 (a0 / 8) 7) then (if (Go.bits .and .i64 (a0 / 8) 7) < (y201.length : Int) then ((prog_Get.f k (rdOf ByteArray.empty y201 (Go.bits .and .i64 (a0 / 8) 7))).bind fun bt205 => ((some (([17] : List Int) : List Int)).bind fun y209 => (if 68 ≤ 281474976710656 then ((some (List.replicate 68 0 : List Int)).bind fun y212 => (if (strOfNums y209).size + (strOfNums y212).size ≤ 9223372036854775807 then ((prog_Get.f k ((strOfNums y209) ++ (strOfNums y212))).bind fun bt215 => ((prog_May.f k (rd_L3 y195 (wrap64 (Int.tmod (IntKind.u64.wrap (a0)) 5)))).bind fun t219 => (if t219 = true then (some false) else (if bt199.1.toList = ([] : List UInt8) then ((veillaw0_Num.f bt199.2).bind fun t220 => (if t220 = 800 then ((veillaw0_Num.f bt205.2).bind fun t221 => (if t221 = 800 then ((veillaw0_Num.f bt215.2).bind fun t222 => (some (t222 == 800))) else (some false))) else (some false))) else (some false))))) else (none))) else (none)))) else (none)) else (none)))) else (none)) else (none)) = some r := by first | (rw [hy195]; with_reducible exact H) | (have H2_ := (Option.bind_some _ _).symm.trans H; rw [hy195]; with_reducible exact H2_) | (have H2_ := (Option.bind_some _ _).symm.trans H; with_reducible exact H2_) | with_reducible exact H | (rw [hy195]; exact H) | exact H
        have Ny195 := Aside0.mk hy195
        clear hy195
        obtain ⟨ji8, hji8⟩ : ∃ j_ : Int, (wrap64 (Int.tmod (IntKind.u64.wrap (a0)) 5)) = j_ := ⟨_, rfl⟩
        replace H : (if 0 ≤ (ji8) then (if (ji8) < (y195.length : Int) then ((prog_Put.f k (rd_L3 y195 (ji8))).bind fun bt199 => ((some (([(⟨#[]⟩ : ByteArray), (⟨#[1]⟩ : ByteArray), (⟨#[0, 0]⟩ : ByteArray), (⟨#[1, 7, 0, 0, 0]⟩ : ByteArray), (⟨#[1, 4, 0, 0, 0]⟩ : ByteArray), (⟨#[1, 4, 0, 2, 0]⟩ : ByteArray), (⟨#[2, 5, 0, 0, 0]⟩ : ByteArray), (⟨#[1, 5, 0, 0, 0, 0]⟩ : ByteArray)] : List ByteArray) : List ByteArray)).bind fun y201 => (if 0 ≤ (Go.bits .and .i64 (a0 / 8) 7) then (if (Go.bits .and .i64 (a0 / 8) 7) < (y201.length : Int) then ((prog_Get.f k (rdOf ByteArray.empty y201 (Go.bits .and .i64 (a0 / 8) 7))).bind fun bt205 => ((some (([17] : List Int) : List Int)).bind fun y209 => (if 68 ≤ 281474976710656 then ((some (List.replicate 68 0 : List Int)).bind fun y212 => (if (strOfNums y209).size + (strOfNums y212).size ≤ 9223372036854775807 then ((prog_Get.f k ((strOfNums y209) ++ (strOfNums y212))).bind fun bt215 => ((prog_May.f k (rd_L3 y195 (ji8))).bind fun t219 => (if t219 = true then (some false) else (if bt199.1.toList = ([] : List UInt8) then ((veillaw0_Num.f bt199.2).bind fun t220 => (if t220 = 800 then ((veillaw0_Num.f bt205.2).bind fun t221 => (if t221 = 800 then ((veillaw0_Num.f bt215.2).bind fun t222 => (some (t222 == 800))) else (some false))) else (some false))) else (some false))))) else (none))) else (none)))) else (none)) else (none)))) else (none)) else (none)) = some r := by first | (rw [hji8] at H; exact H) | (simp only [hji8] at H ⊢; exact H)
        (try rw [hji8] at A3)
        have hji8w : (IntKind.i64.wrap (Int.tmod (IntKind.u64.wrap (a0)) 5)) = ji8 := (i64_w _).trans hji8
        by_cases c9 : 0 ≤ (ji8)
        · rw [if_pos c9] at H
          have c9b0 : decide (0 ≤ (ji8)) = true := decide_eq_true c9
          clear c9
          by_cases c10 : (ji8) < (y195.length : Int)
          · rw [if_pos c10] at H
            have c10b0 : decide ((ji8) < (y195.length : Int)) = true := decide_eq_true c10
            clear c10
            replace H := Option.bind_eq_some_iff.mp H
            obtain ⟨⟨t199, t200⟩, A110, H⟩ := H
            replace H : ((some (([(⟨#[]⟩ : ByteArray), (⟨#[1]⟩ : ByteArray), (⟨#[0, 0]⟩ : ByteArray), (⟨#[1, 7, 0, 0, 0]⟩ : ByteArray), (⟨#[1, 4, 0, 0, 0]⟩ : ByteArray), (⟨#[1, 4, 0, 2, 0]⟩ : ByteArray), (⟨#[2, 5, 0, 0, 0]⟩ : ByteArray), (⟨#[1, 5, 0, 0, 0, 0]⟩ : ByteArray)] : List ByteArray) : List ByteArray)).bind fun y201 => (if 0 ≤ (Go.bits .and .i64 (a0 / 8) 7) then (if (Go.bits .and .i64 (a0 / 8) 7) < (y201.length : Int) then ((prog_Get.f k (rdOf ByteArray.empty y201 (Go.bits .and .i64 (a0 / 8) 7))).bind fun bt205 => ((some (([17] : List Int) : List Int)).bind fun y209 => (if 68 ≤ 281474976710656 then ((some (List.replicate 68 0 : List Int)).bind fun y212 => (if (strOfNums y209).size + (strOfNums y212).size ≤ 9223372036854775807 then ((prog_Get.f k ((strOfNums y209) ++ (strOfNums y212))).bind fun bt215 => ((prog_May.f k (rd_L3 y195 (ji8))).bind fun t219 => (if t219 = true then (some false) else (if t199.toList = ([] : List UInt8) then ((veillaw0_Num.f t200).bind fun t220 => (if t220 = 800 then ((veillaw0_Num.f bt205.2).bind fun t221 => (if t221 = 800 then ((veillaw0_Num.f bt215.2).bind fun t222 => (some (t222 == 800))) else (some false))) else (some false))) else (some false))))) else (none))) else (none)))) else (none)) else (none))) = some r := H
            have A11 := Aside0.mk A110
            clear A110
            obtain ⟨y201, hy201⟩ : ∃ y_ : List ByteArray, y_ = (([(⟨#[]⟩ : ByteArray), (⟨#[1]⟩ : ByteArray), (⟨#[0, 0]⟩ : ByteArray), (⟨#[1, 7, 0, 0, 0]⟩ : ByteArray), (⟨#[1, 4, 0, 0, 0]⟩ : ByteArray), (⟨#[1, 4, 0, 2, 0]⟩ : ByteArray), (⟨#[2, 5, 0, 0, 0]⟩ : ByteArray), (⟨#[1, 5, 0, 0, 0, 0]⟩ : ByteArray)] : List ByteArray)) := ⟨_, rfl⟩
            replace H : (if 0 ≤ (Go.bits .and .i64 (a0 / 8) 7) then (if (Go.bits .and .i64 (a0 / 8) 7) < (y201.length : Int) then ((prog_Get.f k (rdOf ByteArray.empty y201 (Go.bits .and .i64 (a0 / 8) 7))).bind fun bt205 => ((some (([17] : List Int) : List Int)).bind fun y209 => (if 68 ≤ 281474976710656 then ((some (List.replicate 68 0 : List Int)).bind fun y212 => (if (strOfNums y209).size + (strOfNums y212).size ≤ 9223372036854775807 then ((prog_Get.f k ((strOfNums y209) ++ (strOfNums y212))).bind fun bt215 => ((prog_May.f k (rd_L3 y195 (ji8))).bind fun t219 => (if t219 = true then (some false) else (if t199.toList = ([] : List UInt8) then ((veillaw0_Num.f t200).bind fun t220 => (if t220 = 800 then ((veillaw0_Num.f bt205.2).bind fun t221 => (if t221 = 800 then ((veillaw0_Num.f bt215.2).bind fun t222 => (some (t222 == 800))) else (some false))) else (some false))) else (some false))))) else (none))) else (none)))) else (none)) else (none)) = some r := by first | (rw [hy201]; with_reducible exact H) | (have H2_ := (Option.bind_some _ _).symm.trans H; rw [hy201]; with_reducible exact H2_) | (have H2_ := (Option.bind_some _ _).symm.trans H; with_reducible exact H2_) | with_reducible exact H | (rw [hy201]; exact H) | exact H
            have Ny201 := Aside0.mk hy201
            clear hy201
            obtain ⟨ji12, hji12⟩ : ∃ j_ : Int, (Go.bits .and .i64 (a0 / 8) 7) = j_ := ⟨_, rfl⟩
            replace H : (if 0 ≤ (ji12) then (if (ji12) < (y201.length : Int) then ((prog_Get.f k (rdOf ByteArray.empty y201 (ji12))).bind fun bt205 => ((some (([17] : List Int) : List Int)).bind fun y209 => (if 68 ≤ 281474976710656 then ((some (List.replicate 68 0 : List Int)).bind fun y212 => (if (strOfNums y209).size + (strOfNums y212).size ≤ 9223372036854775807 then ((prog_Get.f k ((strOfNums y209) ++ (strOfNums y212))).bind fun bt215 => ((prog_May.f k (rd_L3 y195 (ji8))).bind fun t219 => (if t219 = true then (some false) else (if t199.toList = ([] : List UInt8) then ((veillaw0_Num.f t200).bind fun t220 => (if t220 = 800 then ((veillaw0_Num.f bt205.2).bind fun t221 => (if t221 = 800 then ((veillaw0_Num.f bt215.2).bind fun t222 => (some (t222 == 800))) else (some false))) else (some false))) else (some false))))) else (none))) else (none)))) else (none)) else (none)) = some r := by first | (rw [hji12] at H; exact H) | (simp only [hji12] at H ⊢; exact H)
            (try rw [hji12] at A3)
            (try rw [hji12] at A11)
            by_cases c13 : 0 ≤ (ji12)
            · rw [if_pos c13] at H
              have c13b0 : decide (0 ≤ (ji12)) = true := decide_eq_true c13
              clear c13
              by_cases c14 : (ji12) < (y201.length : Int)
              · rw [if_pos c14] at H
                have c14b0 : decide ((ji12) < (y201.length : Int)) = true := decide_eq_true c14
                clear c14
                replace H := Option.bind_eq_some_iff.mp H
                obtain ⟨⟨t205, t206⟩, A150, H⟩ := H
                replace H : ((some (([17] : List Int) : List Int)).bind fun y209 => (if 68 ≤ 281474976710656 then ((some (List.replicate 68 0 : List Int)).bind fun y212 => (if (strOfNums y209).size + (strOfNums y212).size ≤ 9223372036854775807 then ((prog_Get.f k ((strOfNums y209) ++ (strOfNums y212))).bind fun bt215 => ((prog_May.f k (rd_L3 y195 (ji8))).bind fun t219 => (if t219 = true then (some false) else (if t199.toList = ([] : List UInt8) then ((veillaw0_Num.f t200).bind fun t220 => (if t220 = 800 then ((veillaw0_Num.f t206).bind fun t221 => (if t221 = 800 then ((veillaw0_Num.f bt215.2).bind fun t222 => (some (t222 == 800))) else (some false))) else (some false))) else (some false))))) else (none))) else (none))) = some r := H
                have A15 := Aside0.mk A150
                clear A150
                obtain ⟨y209, hy209⟩ : ∃ y_ : List Int, y_ = (([17] : List Int)) := ⟨_, rfl⟩
                replace H : (if 68 ≤ 281474976710656 then ((some (List.replicate 68 0 : List Int)).bind fun y212 => (if (strOfNums y209).size + (strOfNums y212).size ≤ 9223372036854775807 then ((prog_Get.f k ((strOfNums y209) ++ (strOfNums y212))).bind fun bt215 => ((prog_May.f k (rd_L3 y195 (ji8))).bind fun t219 => (if t219 = true then (some false) else (if t199.toList = ([] : List UInt8) then ((veillaw0_Num.f t200).bind fun t220 => (if t220 = 800 then ((veillaw0_Num.f t206).bind fun t221 => (if t221 = 800 then ((veillaw0_Num.f bt215.2).bind fun t222 => (some (t222 == 800))) else (some false))) else (some false))) else (some false))))) else (none))) else (none)) = some r := by first | (rw [hy209]; with_reducible exact H) | (have H2_ := (Option.bind_some _ _).symm.trans H; rw [hy209]; with_reducible exact H2_) | (have H2_ := (Option.bind_some _ _).symm.trans H; with_reducible exact H2_) | with_reducible exact H | (rw [hy209]; exact H) | exact H
                have Ny209 := Aside0.mk hy209
                clear hy209
                by_cases c16 : 68 ≤ 281474976710656
                · rw [if_pos c16] at H
                  have c16b0 := eq_true c16
                  have c16b1 : decide (68 ≤ 281474976710656) = true := decide_eq_true c16
                  clear c16
                  obtain ⟨y212, hy212⟩ : ∃ y_ : List Int, y_ = (List.replicate 68 0) := ⟨_, rfl⟩
                  replace H : (if (strOfNums y209).size + (strOfNums y212).size ≤ 9223372036854775807 then ((prog_Get.f k ((strOfNums y209) ++ (strOfNums y212))).bind fun bt215 => ((prog_May.f k (rd_L3 y195 (ji8))).bind fun t219 => (if t219 = true then (some false) else (if t199.toList = ([] : List UInt8) then ((veillaw0_Num.f t200).bind fun t220 => (if t220 = 800 then ((veillaw0_Num.f t206).bind fun t221 => (if t221 = 800 then ((veillaw0_Num.f bt215.2).bind fun t222 => (some (t222 == 800))) else (some false))) else (some false))) else (some false))))) else (none)) = some r := by first | (rw [hy212]; with_reducible exact H) | (have H2_ := (Option.bind_some _ _).symm.trans H; rw [hy212]; with_reducible exact H2_) | (have H2_ := (Option.bind_some _ _).symm.trans H; with_reducible exact H2_) | with_reducible exact H | (rw [hy212]; exact H) | exact H
                  have Ny212 := Aside0.mk hy212
                  clear hy212
                  by_cases c17 : (strOfNums y209).size + (strOfNums y212).size ≤ 9223372036854775807
                  · rw [if_pos c17] at H
                    have c17b0 := eq_true c17
                    have c17b1 : decide ((strOfNums y209).size + (strOfNums y212).size ≤ 9223372036854775807) = true := decide_eq_true c17
                    try have c17b2 : (9223372036854775807 < (strOfNums y209).size + (strOfNums y212).size) = False := eq_false (Nat.not_lt.2 c17)
                    replace H := Option.bind_eq_some_iff.mp H
                    obtain ⟨⟨t215, t216⟩, A180, H⟩ := H
                    replace H : ((prog_May.f k (rd_L3 y195 (ji8))).bind fun t219 => (if t219 = true then (some false) else (if t199.toList = ([] : List UInt8) then ((veillaw0_Num.f t200).bind fun t220 => (if t220 = 800 then ((veillaw0_Num.f t206).bind fun t221 => (if t221 = 800 then ((veillaw0_Num.f t216).bind fun t222 => (some (t222 == 800))) else (some false))) else (some false))) else (some false)))) = some r := H
                    have A18 := Aside0.mk A180
                    clear A180
                    replace H := Option.bind_eq_some_iff.mp H
                    obtain ⟨t219, A190, H⟩ := H
                    replace H : (if t219 = true then (some false) else (if t199.toList = ([] : List UInt8) then ((veillaw0_Num.f t200).bind fun t220 => (if t220 = 800 then ((veillaw0_Num.f t206).bind fun t221 => (if t221 = 800 then ((veillaw0_Num.f t216).bind fun t222 => (some (t222 == 800))) else (some false))) else (some false))) else (some false))) = some r := H
                    have A19 := Aside0.mk A190
                    clear A190
                    by_cases c20 : t219 = true
                    · subst c20
                      have H1 : (some false) = some r := by rw [if_pos rfl] at H; exact H
                      clear H
                      have H := H1
                      clear H1
                      exact absurd ((Option.some.inj H).trans hr) (by decide)
                    · replace c20 := Bool.eq_false_iff.mpr c20
                      subst c20
                      have H1 : (if t199.toList = ([] : List UInt8) then ((veillaw0_Num.f t200).bind fun t220 => (if t220 = 800 then ((veillaw0_Num.f t206).bind fun t221 => (if t221 = 800 then ((veillaw0_Num.f t216).bind fun t222 => (some (t222 == 800))) else (some false))) else (some false))) else (some false)) = some r := by rw [if_neg (show ¬ (false = true) by decide)] at H; exact H
                      clear H
                      have H := H1
                      clear H1
                      by_cases c55 : t199.toList = ([] : List UInt8)
                      · rw [if_pos c55] at H
                        have c55b0 : (t199.toList == ([] : List UInt8)) = true := beq_iff_eq.mpr c55
                        have c55b1 : (t199.toList != ([] : List UInt8)) = false := bne_eq_false_iff_eq.mpr c55
                        clear c55
                        replace H := Option.bind_eq_some_iff.mp H
                        obtain ⟨t220, A560, H⟩ := H
                        replace H : (if t220 = 800 then ((veillaw0_Num.f t206).bind fun t221 => (if t221 = 800 then ((veillaw0_Num.f t216).bind fun t222 => (some (t222 == 800))) else (some false))) else (some false)) = some r := H
                        have A56 := Aside0.mk A560
                        clear A560
                        by_cases c57 : t220 = 800
                        · rw [if_pos c57] at H
                          have c57b0 : (t220 == 800) = true := beq_iff_eq.mpr c57
                          have c57b1 : (t220 != 800) = false := bne_eq_false_iff_eq.mpr c57
                          clear c57
                          replace H := Option.bind_eq_some_iff.mp H
                          obtain ⟨t221, A580, H⟩ := H
                          replace H : (if t221 = 800 then ((veillaw0_Num.f t216).bind fun t222 => (some (t222 == 800))) else (some false)) = some r := H
                          have A58 := Aside0.mk A580
                          clear A580
                          by_cases c59 : t221 = 800
                          · rw [if_pos c59] at H
                            have c59b0 : (t221 == 800) = true := beq_iff_eq.mpr c59
                            have c59b1 : (t221 != 800) = false := bne_eq_false_iff_eq.mpr c59
                            clear c59
                            replace H := Option.bind_eq_some_iff.mp H
                            obtain ⟨t222, A600, H⟩ := H
                            replace H : (some (t222 == 800)) = some r := H
                            have A60 := Aside0.mk A600
                            clear A600
                            obtain rfl := Option.some.inj H
                            go_enter Try.func13, Try.ntmps13
                            try go_wp2_with (first | ((with_reducible refine gate_callee (f := 41) rfl ?_); refine goesL_ (some 15) rfl rfl Try.func41 (by kernel_rfl) rfl #[] rfl (by (try simp only [List.map_toArray, List.map_cons, List.map_nil]); first | done | rfl | (simp only [List.length_drop, List.length_take]; rfl)) ?_; (with_reducible refine (veillaw8_awake.calls k  true _ A3.out).mono ?_); rintro e w61 ⟨rfl, hb⟩; refine ⟨_, rfl, ?_⟩; have n0_ := Aside0.mk (below_step (by repeat (first | (with_reducible first | exact HB.out | apply below_alloc | apply pw_below_drewN | apply below_drew1) | exact HB.out)) hb); clear HB; have HB := n0_; clear n0_; (try clear hb); (try clear hb2); (try clear hk); (try clear hi)) | ((with_reducible refine gate_dst (N := 23) rfl ?_); refine Kd.R_lit k23 _ 23 ?hg (N := 23) ?hd (xs := ([(⟨wrap64 (6 + (wrap64 (1 + (Go.bits .and .i64 a1 1023)))), 0, 0, 0⟩ : S23)] : List (S23))) (inner := [.int .i64 (wrap64 (6 + (wrap64 (1 + (Go.bits .and .i64 a1 1023))))), .int .i64 0, .int .i64 0, .int .i64 0]) (ok := fun _ => True) (okp := fun _ => True) ?hr ?hp (fun _ hk => hk) trivial (Below.refl _ _) (Nat.le_refl _) (by simp) ?_; (case hd => rfl); (case hg => rfl); (case hr => first | (go_simp; done) | (go_simp; rfl)); (case hp => exact (Reps.c4 (show Kd.M k23 _ _ _ (⟨wrap64 (6 + (wrap64 (1 + (Go.bits .and .i64 a1 1023)))), 0, 0, 0⟩ : S23) [.int .i64 (wrap64 (6 + (wrap64 (1 + (Go.bits .and .i64 a1 1023))))), .int .i64 0, .int .i64 0, .int .i64 0] from (k23_mkM _ _ _ (⟨wrap64 (6 + (wrap64 (1 + (Go.bits .and .i64 a1 1023)))), 0, 0, 0⟩ : S23) )) (Reps.none _ _))); intro v181 w62 ho63 hb hg_ hnew_; clear hg_ hnew_; (first | rw [← Ny180.out] at ho63 | (simp only [Int.reduceToNat] at ho63; rw [← Ny180.out] at ho63)); have n0_ := Aside0.mk (Kd.R_lower ho63 (below_size (by repeat (first | (with_reducible first | exact HB.out | apply below_alloc | apply pw_below_drewN | apply below_drew1) | exact HB.out)))); have n1_ := Aside0.mk (below_step (by repeat (first | (with_reducible first | exact HB.out | apply below_alloc | apply pw_below_drewN | apply below_drew1) | exact HB.out)) hb); clear HB; have HO182 := n0_; have HB := n1_; clear n0_ n1_; clear hb ho63) | ((with_reducible refine gate_dst (N := 25) rfl ?_); refine Kd.R_lit k23 _ 23 ?hg (N := 25) ?hd (xs := ([(⟨4, 0, 0, 0⟩ : S23)] : List (S23))) (inner := [.int .i64 4, .int .i64 0, .int .i64 0, .int .i64 0]) (ok := fun _ => True) (okp := fun _ => True) ?hr ?hp (fun _ hk => hk) trivial (Below.refl _ _) (Nat.le_refl _) (by simp) ?_; (case hd => rfl); (case hg => rfl); (case hr => first | (go_simp; done) | (go_simp; rfl)); (case hp => exact (Reps.c4 (show Kd.M k23 _ _ _ (⟨4, 0, 0, 0⟩ : S23) [.int .i64 4, .int .i64 0, .int .i64 0, .int .i64 0] from (k23_mkM _ _ _ (⟨4, 0, 0, 0⟩ : S23) )) (Reps.none _ _))); intro v184 w64 ho65 hb hg_ hnew_; clear hg_ hnew_; (first | rw [← Ny183.out] at ho65 | (simp only [Int.reduceToNat] at ho65; rw [← Ny183.out] at ho65)); have n0_ := Aside0.mk (Kd.R_elder' (by (with_reducible repeat (first | apply Kd.R_alloc | apply Kd.R_drewN | apply Kd.R_drew)); exact HO182.out) (Kd.R_base ho65) hb); have n1_ := Aside0.mk (Kd.R_lower (Kd.R_new' ho65 (Kd.R_lt (by (with_reducible repeat (first | apply Kd.R_alloc | apply Kd.R_drewN | apply Kd.R_drew)); exact HO182.out))) (below_size (by repeat (first | (with_reducible first | exact HB.out | apply below_alloc | apply pw_below_drewN | apply below_drew1) | exact HB.out)))); have n2_ := Aside0.mk (below_step (by repeat (first | (with_reducible first | exact HB.out | apply below_alloc | apply pw_below_drewN | apply below_drew1) | exact HB.out)) hb); clear HO182; clear HB; have HO182 := n0_; have HO185 := n1_; have HB := n2_; clear n0_ n1_ n2_; clear hb ho65) | ((with_reducible refine gate_dst (N := 28) rfl ?_); refine Kd.R_lit k23 _ 23 ?hg (N := 28) ?hd (xs := ([(⟨0, 0, 0, 0⟩ : S23), (⟨4, 0, 1, 0⟩ : S23)] : List (S23))) (inner := [.int .i64 0, .int .i64 0, .int .i64 0, .int .i64 0, .int .i64 4, .int .i64 0, .int .i64 1, .int .i64 0]) (ok := fun _ => True) (okp := fun _ => True) ?hr ?hp (fun _ hk => hk) trivial (Below.refl _ _) (Nat.le_refl _) (by simp) ?_; (case hd => rfl); (case hg => rfl); (case hr => first | (go_simp; done) | (go_simp; rfl)); (case hp => exact (Reps.c4 (show Kd.M k23 _ _ _ (⟨0, 0, 0, 0⟩ : S23) [.int .i64 0, .int .i64 0, .int .i64 0, .int .i64 0] from (k23_mkM _ _ _ (⟨0, 0, 0, 0⟩ : S23) )) (Reps.c4 (show Kd.M k23 _ _ _ (⟨4, 0, 1, 0⟩ : S23) [.int .i64 4, .int .i64 0, .int .i64 1, .int .i64 0] from (k23_mkM _ _ _ (⟨4, 0, 1, 0⟩ : S23) )) (Reps.none _ _)))); intro v187 w66 ho67 hb hg_ hnew_; clear hg_ hnew_; (first | rw [← Ny186.out] at ho67 | (simp only [Int.reduceToNat] at ho67; rw [← Ny186.out] at ho67)); have n0_ := Aside0.mk (Kd.R_elder' (by (with_reducible repeat (first | apply Kd.R_alloc | apply Kd.R_drewN | apply Kd.R_drew)); exact HO182.out) (Kd.R_base ho67) hb); have n1_ := Aside0.mk (Kd.R_elder' (by (with_reducible repeat (first | apply Kd.R_alloc | apply Kd.R_drewN | apply Kd.R_drew)); exact HO185.out) (Kd.R_base ho67) hb); have n2_ := Aside0.mk (Kd.R_lower (Kd.R_new' (Kd.R_new' ho67 (Kd.R_lt (by (with_reducible repeat (first | apply Kd.R_alloc | apply Kd.R_drewN | apply Kd.R_drew)); exact HO182.out))) (Kd.R_lt (by (with_reducible repeat (first | apply Kd.R_alloc | apply Kd.R_drewN | apply Kd.R_drew)); exact HO185.out))) (below_size (by repeat (first | (with_reducible first | exact HB.out | apply below_alloc | apply pw_below_drewN | apply below_drew1) | exact HB.out)))); have n3_ := Aside0.mk (below_step (by repeat (first | (with_reducible first | exact HB.out | apply below_alloc | apply pw_below_drewN | apply below_drew1) | exact HB.out)) hb); clear HO182; clear HO185; clear HB; have HO182 := n0_; have HO185 := n1_; have HO188 := n2_; have HB := n3_; clear n0_ n1_ n2_ n3_; clear hb ho67) | ((with_reducible refine gate_dst (N := 30) rfl ?_); refine Kd.R_lit k23 _ 23 ?hg (N := 30) ?hd (xs := ([(⟨4, 0, 2, 0⟩ : S23)] : List (S23))) (inner := [.int .i64 4, .int .i64 0, .int .i64 2, .int .i64 0]) (ok := fun _ => True) (okp := fun _ => True) ?hr ?hp (fun _ hk => hk) trivial (Below.refl _ _) (Nat.le_refl _) (by simp) ?_; (case hd => rfl); (case hg => rfl); (case hr => first | (go_simp; done) | (go_simp; rfl)); (case hp => exact (Reps.c4 (show Kd.M k23 _ _ _ (⟨4, 0, 2, 0⟩ : S23) [.int .i64 4, .int .i64 0, .int .i64 2, .int .i64 0] from (k23_mkM _ _ _ (⟨4, 0, 2, 0⟩ : S23) )) (Reps.none _ _))); intro v190 w68 ho69 hb hg_ hnew_; clear hg_ hnew_; (first | rw [← Ny189.out] at ho69 | (simp only [Int.reduceToNat] at ho69; rw [← Ny189.out] at ho69)); have n0_ := Aside0.mk (Kd.R_elder' (by (with_reducible repeat (first | apply Kd.R_alloc | apply Kd.R_drewN | apply Kd.R_drew)); exact HO182.out) (Kd.R_base ho69) hb); have n1_ := Aside0.mk (Kd.R_elder' (by (with_reducible repeat (first | apply Kd.R_alloc | apply Kd.R_drewN | apply Kd.R_drew)); exact HO185.out) (Kd.R_base ho69) hb); have n2_ := Aside0.mk (Kd.R_elder' (by (with_reducible repeat (first | apply Kd.R_alloc | apply Kd.R_drewN | apply Kd.R_drew)); exact HO188.out) (Kd.R_base ho69) hb); have n3_ := Aside0.mk (Kd.R_lower (Kd.R_new' (Kd.R_new' (Kd.R_new' ho69 (Kd.R_lt (by (with_reducible repeat (first | apply Kd.R_alloc | apply Kd.R_drewN | apply Kd.R_drew)); exact HO182.out))) (Kd.R_lt (by (with_reducible repeat (first | apply Kd.R_alloc | apply Kd.R_drewN | apply Kd.R_drew)); exact HO185.out))) (Kd.R_lt (by (with_reducible repeat (first | apply Kd.R_alloc | apply Kd.R_drewN | apply Kd.R_drew)); exact HO188.out))) (below_size (by repeat (first | (with_reducible first | exact HB.out | apply below_alloc | apply pw_below_drewN | apply below_drew1) | exact HB.out)))); have n4_ := Aside0.mk (below_step (by repeat (first | (with_reducible first | exact HB.out | apply below_alloc | apply pw_below_drewN | apply below_drew1) | exact HB.out)) hb); clear HO182; clear HO185; clear HO188; clear HB; have HO182 := n0_; have HO185 := n1_; have HO188 := n2_; have HO191 := n3_; have HB := n4_; clear n0_ n1_ n2_ n3_ n4_; clear hb ho69) | ((with_reducible refine gate_dst (N := 33) rfl ?_); refine Kd.R_make k23 _ 23 rfl (N := 33) rfl 37 _ _ rfl ji5 rfl rfl Try.underlying37 (.agg #[(.int .i64 0), (.int .i64 0), (.int .i64 0), (.int .i64 0)]) 32 info23 rfl (by decide) (by omega) z23 (ok := fun _ => True) (okp := fun _ => True) (k23_mkM _ _ _ z23 ) (fun _ hk => hk) trivial (of_decide_eq_true (by first | (with_reducible assumption) | assumption)) (Nat.le_trans (Nat.mul_le_mul_right _ (of_decide_eq_true (by first | (with_reducible assumption) | assumption) : ji5.toNat ≤ 8796093022208)) (by omega)) (Below.refl _ _) (Nat.le_refl _) ?_; intro v193 w70 ho71 hb hg_ hnew_; clear hg_ hnew_; (first | rw [← Ny192.out] at ho71 | (simp only [Int.reduceToNat] at ho71; rw [← Ny192.out] at ho71)); have n0_ := Aside0.mk (Kd.R_elder' (by (with_reducible repeat (first | apply Kd.R_alloc | apply Kd.R_drewN | apply Kd.R_drew)); exact HO182.out) (Kd.R_base ho71) hb); have n1_ := Aside0.mk (Kd.R_elder' (by (with_reducible repeat (first | apply Kd.R_alloc | apply Kd.R_drewN | apply Kd.R_drew)); exact HO185.out) (Kd.R_base ho71) hb); have n2_ := Aside0.mk (Kd.R_elder' (by (with_reducible repeat (first | apply Kd.R_alloc | apply Kd.R_drewN | apply Kd.R_drew)); exact HO188.out) (Kd.R_base ho71) hb); have n3_ := Aside0.mk (Kd.R_elder' (by (with_reducible repeat (first | apply Kd.R_alloc | apply Kd.R_drewN | apply Kd.R_drew)); exact HO191.out) (Kd.R_base ho71) hb); have n4_ := Aside0.mk (Kd.R_lower (Kd.R_new' (Kd.R_new' (Kd.R_new' (Kd.R_new' ho71 (Kd.R_lt (by (with_reducible repeat (first | apply Kd.R_alloc | apply Kd.R_drewN | apply Kd.R_drew)); exact HO182.out))) (Kd.R_lt (by (with_reducible repeat (first | apply Kd.R_alloc | apply Kd.R_drewN | apply Kd.R_drew)); exact HO185.out))) (Kd.R_lt (by (with_reducible repeat (first | apply Kd.R_alloc | apply Kd.R_drewN | apply Kd.R_drew)); exact HO188.out))) (Kd.R_lt (by (with_reducible repeat (first | apply Kd.R_alloc | apply Kd.R_drewN | apply Kd.R_drew)); exact HO191.out))) (below_size (by repeat (first | (with_reducible first | exact HB.out | apply below_alloc | apply pw_below_drewN | apply below_drew1) | exact HB.out)))); have n5_ := Aside0.mk (below_step (by repeat (first | (with_reducible first | exact HB.out | apply below_alloc | apply pw_below_drewN | apply below_drew1) | exact HB.out)) hb); clear HO182; clear HO185; clear HO188; clear HO191; clear HB; have HO182 := n0_; have HO185 := n1_; have HO188 := n2_; have HO191 := n3_; have HO194 := n4_; have HB := n5_; clear n0_ n1_ n2_ n3_ n4_ n5_; clear hb ho71; obtain ⟨Ao72, co72, eo72⟩ := Kd.R_slice HO182.out; subst eo72; obtain ⟨Ao73, co73, eo73⟩ := Kd.R_slice HO185.out; subst eo73; obtain ⟨Ao74, co74, eo74⟩ := Kd.R_slice HO188.out; subst eo74; obtain ⟨Ao75, co75, eo75⟩ := Kd.R_slice HO191.out; subst eo75; obtain ⟨Ao76, co76, eo76⟩ := Kd.R_slice HO194.out; subst eo76) | ((with_reducible refine gate_dst (N := 34) rfl ?_); refine Kd.N_lit (Kd.slice 23 k23) _ 37 ?hg (N' := 34) ?hd (xs := ([y180, y183, y186, y189, y192] : List (List (S23)))) (inner := [.slice Ao72 y180.length co72, .slice Ao73 y183.length co73, .slice Ao74 y186.length co74, .slice Ao75 y189.length co75, .slice Ao76 y192.length co76]) (ok := (fun _ => True)) (okp := (fun _ => True)) ?hr ?hp (fun _ hk => hk) ((show ∀ k_, w70.heap.size ≤ k_ → (fun _ => True) k_ from fun k_ hk => trivial) _ (Nat.le_refl _)) (Below.refl _ _) (Nat.le_refl _) (by simp) ?_; (case hd => rfl); (case hg => rfl); (case hr => first | (go_simp; done) | (go_simp; rfl)); (case hp => exact (Reps.one (show Kd.FK (Kd.slice 23 k23) _ _ y180 [.slice Ao72 y180.length co72] from (Kd.FK_slice_mk (Kd.R_reads' (Kd.R_mono (ok' := (fun _ => True)) (HO182.out) (fun k_ hk => trivial))).2.1 (Kd.R_F (Kd.R_mono (ok' := (fun _ => True)) (HO182.out) (fun k_ hk => trivial))))) (Reps.one (show Kd.FK (Kd.slice 23 k23) _ _ y183 [.slice Ao73 y183.length co73] from (Kd.FK_slice_mk (Kd.R_reads' (Kd.R_mono (ok' := (fun _ => True)) (HO185.out) (fun k_ hk => trivial))).2.1 (Kd.R_F (Kd.R_mono (ok' := (fun _ => True)) (HO185.out) (fun k_ hk => trivial))))) (Reps.one (show Kd.FK (Kd.slice 23 k23) _ _ y186 [.slice Ao74 y186.length co74] from (Kd.FK_slice_mk (Kd.R_reads' (Kd.R_mono (ok' := (fun _ => True)) (HO188.out) (fun k_ hk => trivial))).2.1 (Kd.R_F (Kd.R_mono (ok' := (fun _ => True)) (HO188.out) (fun k_ hk => trivial))))) (Reps.one (show Kd.FK (Kd.slice 23 k23) _ _ y189 [.slice Ao75 y189.length co75] from (Kd.FK_slice_mk (Kd.R_reads' (Kd.R_mono (ok' := (fun _ => True)) (HO191.out) (fun k_ hk => trivial))).2.1 (Kd.R_F (Kd.R_mono (ok' := (fun _ => True)) (HO191.out) (fun k_ hk => trivial))))) (Reps.one (show Kd.FK (Kd.slice 23 k23) _ _ y192 [.slice Ao76 y192.length co76] from (Kd.FK_slice_mk (Kd.R_reads' (Kd.R_mono (ok' := (fun _ => True)) (HO194.out) (fun k_ hk => trivial))).2.1 (Kd.R_F (Kd.R_mono (ok' := (fun _ => True)) (HO194.out) (fun k_ hk => trivial))))) (Reps.none _ _))))))); intro v196 w77 ho78 hb hg_ hnew_; clear hg_ hnew_; (first | rw [← Ny195.out] at ho78 | (simp only [Int.reduceToNat] at ho78; rw [← Ny195.out] at ho78)); have n0_ := Aside0.mk (Kd.N_lower ho78 (below_size (by repeat (first | (with_reducible first | exact HB.out | apply below_alloc | apply pw_below_drewN | apply below_drew1) | exact HB.out)))); have n1_ := Aside0.mk (below_step (by repeat (first | (with_reducible first | exact HB.out | apply below_alloc | apply pw_below_drewN | apply below_drew1) | exact HB.out)) hb); clear HB; clear HO182; clear HO185; clear HO188; clear HO191; clear HO194; have HO197 := n0_; have HB := n1_; clear n0_ n1_; clear hb ho78; obtain ⟨Ao79, co79, eo79⟩ := Kd.N_slice HO197.out; subst eo79; have p198 : 0 ≤ ((ji8) : Int) := of_decide_eq_true (by first | (with_reducible assumption) | assumption); have q198 : (ji8) < (y195.length : Int) := of_decide_eq_true (by first | (with_reducible assumption) | assumption); obtain ⟨ad198, A198_0, c198_0, e198, hx198_0, hl198_0, hi198_0⟩ := at_L3 (Kd.N_reads' HO197.out).2.2 (ji8) p198 q198; cases e198; obtain ⟨ce198, hce198, hMe198, hcc198⟩ := Kd.N_get HO197.out [] (ji8) p198 (by first | exact q198 | exact of_decide_eq_true (by first | (with_reducible assumption) | assumption) | (have e_ := (Kd.N_reads' HO197.out).1; omega)); obtain ⟨ua198_0, uc198_0, rfl, ul198_0, ge198_0⟩ := Kd.FK_slice_open hMe198; have hv198_0 := hcc198 0 _ rfl; rw [Nat.add_zero, show ((Kd.slice 23 k23)).sz = 1 from rfl, Nat.mul_one] at hv198_0; replace hv198_0 := Option.some.inj (hv198_0.symm.trans hx198_0); injection hv198_0 with hva_ hvn_ hvc_; rw [hva_] at ge198_0; rw [hvc_] at ul198_0; have HL198_0 := Aside0.mk (show Kd.V k23 23 _ w.heap.size _ _ (rd_L3 y195 (ji8)) from Kd.V_mk ul198_0 ge198_0); clear hva_ hvn_ hvc_ ge198_0 ul198_0; clear hcc198 hce198; have HR198_0 := Aside0.mk hi198_0; have HC198_0 := Aside0.mk hl198_0; clear hi198_0 hl198_0; replace p198 := eq_true p198; replace q198 := eq_true q198) | ((with_reducible refine gate_callee (f := 33) rfl ?_); refine goesL_ (some 44) rfl rfl Try.func33 (by kernel_rfl) rfl #[.slice A198_0 (rd_L3 y195 (ji8)).length c198_0] rfl (by (try simp only [List.map_toArray, List.map_cons, List.map_nil]); first | done | (simp only [hji8]; rfl) | rfl | (simp only [List.length_drop, List.length_take]; rfl)) ?_; (with_reducible refine (prog_Put.calls k _ _ (rd_L3 y195 (ji8)) t199 t200 _ ?side1 ?side2 A11.out).mono ?_); (case side1 => repeat (first | exact (by repeat (first | (with_reducible exact HR198_0.out) | (with_reducible refine Kd.C_alloc ?_ _) | (with_reducible refine Kd.C_drewN ?_ _) | (with_reducible refine Kd.C_drew ?_) | exact HR198_0.out)) | (with_reducible refine Kd.C_alloc ?_ _) | (with_reducible refine Kd.C_drewN ?_ _) | (with_reducible refine Kd.C_drew ?_))); (case side2 => exact HC198_0.out); rintro e w80 ⟨rfl, hb⟩; refine ⟨_, rfl, ?_⟩; have n0_ := Aside0.mk (Kd.N_below (by (with_reducible repeat (first | apply Kd.N_alloc | apply Kd.N_drewN | apply Kd.N_drew)); exact HO197.out) hb); have n1_ := Aside0.mk (Kd.V_below (by (with_reducible repeat (first | apply Kd.V_alloc | apply Kd.V_drewN | apply Kd.V_drew)); exact HL198_0.out) hb); have n2_ := Aside0.mk (Kd.C_below (by repeat (first | (with_reducible exact HR198_0.out) | (with_reducible refine Kd.C_alloc ?_ _) | (with_reducible refine Kd.C_drewN ?_ _) | (with_reducible refine Kd.C_drew ?_) | exact HR198_0.out)) hb); have n3_ := Aside0.mk (below_step (by repeat (first | (with_reducible first | exact HB.out | apply below_alloc | apply pw_below_drewN | apply below_drew1) | exact HB.out)) hb); clear HO197; clear HL198_0; clear HR198_0; clear HB; have HO197 := n0_; have HL198_0 := n1_; have HR198_0 := n2_; have HB := n3_; clear n0_ n1_ n2_ n3_; (try clear hb); (try clear hb2); (try clear hk); (try clear hi)) | ((with_reducible refine gate_dst (N := 47) rfl ?_); refine Kd.R_lit Kd.string _ 9 ?hg (N := 47) ?hd (xs := ([(⟨#[]⟩ : ByteArray), (⟨#[1]⟩ : ByteArray), (⟨#[0, 0]⟩ : ByteArray), (⟨#[1, 7, 0, 0, 0]⟩ : ByteArray), (⟨#[1, 4, 0, 0, 0]⟩ : ByteArray), (⟨#[1, 4, 0, 2, 0]⟩ : ByteArray), (⟨#[2, 5, 0, 0, 0]⟩ : ByteArray), (⟨#[1, 5, 0, 0, 0, 0]⟩ : ByteArray)] : List ByteArray)) (inner := [.string (⟨#[]⟩ : ByteArray), .string (⟨#[1]⟩ : ByteArray), .string (⟨#[0, 0]⟩ : ByteArray), .string (⟨#[1, 7, 0, 0, 0]⟩ : ByteArray), .string (⟨#[1, 4, 0, 0, 0]⟩ : ByteArray), .string (⟨#[1, 4, 0, 2, 0]⟩ : ByteArray), .string (⟨#[2, 5, 0, 0, 0]⟩ : ByteArray), .string (⟨#[1, 5, 0, 0, 0, 0]⟩ : ByteArray)]) (ok := fun _ => True) (okp := fun _ => True) ?hr ?hp (fun _ hk => hk) trivial (Below.refl _ _) (Nat.le_refl _) (by simp) ?_; (case hd => rfl); (case hg => rfl); (case hr => first | (go_simp; done) | (go_simp; rfl)); (case hp => exact (Reps.one (show Kd.M Kd.string _ _ _ (⟨#[]⟩ : ByteArray) [.string (⟨#[]⟩ : ByteArray)] from rfl) (Reps.one (show Kd.M Kd.string _ _ _ (⟨#[1]⟩ : ByteArray) [.string (⟨#[1]⟩ : ByteArray)] from rfl) (Reps.one (show Kd.M Kd.string _ _ _ (⟨#[0, 0]⟩ : ByteArray) [.string (⟨#[0, 0]⟩ : ByteArray)] from rfl) (Reps.one (show Kd.M Kd.string _ _ _ (⟨#[1, 7, 0, 0, 0]⟩ : ByteArray) [.string (⟨#[1, 7, 0, 0, 0]⟩ : ByteArray)] from rfl) (Reps.one (show Kd.M Kd.string _ _ _ (⟨#[1, 4, 0, 0, 0]⟩ : ByteArray) [.string (⟨#[1, 4, 0, 0, 0]⟩ : ByteArray)] from rfl) (Reps.one (show Kd.M Kd.string _ _ _ (⟨#[1, 4, 0, 2, 0]⟩ : ByteArray) [.string (⟨#[1, 4, 0, 2, 0]⟩ : ByteArray)] from rfl) (Reps.one (show Kd.M Kd.string _ _ _ (⟨#[2, 5, 0, 0, 0]⟩ : ByteArray) [.string (⟨#[2, 5, 0, 0, 0]⟩ : ByteArray)] from rfl) (Reps.one (show Kd.M Kd.string _ _ _ (⟨#[1, 5, 0, 0, 0, 0]⟩ : ByteArray) [.string (⟨#[1, 5, 0, 0, 0, 0]⟩ : ByteArray)] from rfl) (Reps.none _ _)))))))))); intro v202 w81 ho82 hb hg_ hnew_; clear hg_ hnew_; (first | rw [← Ny201.out] at ho82 | (simp only [Int.reduceToNat] at ho82; rw [← Ny201.out] at ho82)); have n0_ := Aside0.mk (Kd.N_elder' (by (with_reducible repeat (first | apply Kd.N_alloc | apply Kd.N_drewN | apply Kd.N_drew)); exact HO197.out) (Kd.R_base ho82) hb); have n1_ := Aside0.mk (Kd.V_elder' (by (with_reducible repeat (first | apply Kd.V_alloc | apply Kd.V_drewN | apply Kd.V_drew)); exact HL198_0.out) (Kd.R_base ho82) hb); have n2_ := Aside0.mk (Kd.R_lower ho82 (below_size (by repeat (first | (with_reducible first | exact HB.out | apply below_alloc | apply pw_below_drewN | apply below_drew1) | exact HB.out)))); have n3_ := Aside0.mk (Kd.C_below (by repeat (first | (with_reducible exact HR198_0.out) | (with_reducible refine Kd.C_alloc ?_ _) | (with_reducible refine Kd.C_drewN ?_ _) | (with_reducible refine Kd.C_drew ?_) | exact HR198_0.out)) hb); have n4_ := Aside0.mk (below_step (by repeat (first | (with_reducible first | exact HB.out | apply below_alloc | apply pw_below_drewN | apply below_drew1) | exact HB.out)) hb); clear HO197; clear HL198_0; clear HR198_0; clear HB; have HO197 := n0_; have HL198_0 := n1_; have HO203 := n2_; have HR198_0 := n3_; have HB := n4_; clear n0_ n1_ n2_ n3_ n4_; clear hb ho82; obtain ⟨Ao83, co83, eo83⟩ := Kd.R_slice HO203.out; subst eo83; have p204 : 0 ≤ ((ji12) : Int) := of_decide_eq_true (by first | (with_reducible assumption) | assumption); have q204 : (ji12) < (y201.length : Int) := of_decide_eq_true (by first | (with_reducible assumption) | assumption); obtain ⟨ad204, e204, hx204_0⟩ := Kd.at_string (Kd.R_reads' HO203.out).2.2 (ji12) p204 q204; cases e204; replace p204 := eq_true p204; replace q204 := eq_true q204) | ((with_reducible refine gate_callee (f := 35) rfl ?_); refine goesL_ (some 55) rfl rfl Try.func35 (by kernel_rfl) rfl #[.string (rdOf ByteArray.empty y201 (ji12))] rfl (by (try simp only [List.map_toArray, List.map_cons, List.map_nil]); first | done | (simp only [hji12]; rfl) | rfl | (simp only [List.length_drop, List.length_take]; rfl)) ?_; (with_reducible refine (prog_Get.calls k (rdOf ByteArray.empty y201 (ji12)) t205 t206 _ A15.out).mono ?_); rintro e w84 ⟨v207, rfl, ho0, hb⟩; refine ⟨_, rfl, ?_⟩; have n0_ := Aside0.mk (Kd.N_elder' (by (with_reducible repeat (first | apply Kd.N_alloc | apply Kd.N_drewN | apply Kd.N_drew)); exact HO197.out) (Kd.R_base ho0) hb); have n1_ := Aside0.mk (Kd.V_elder' (by (with_reducible repeat (first | apply Kd.V_alloc | apply Kd.V_drewN | apply Kd.V_drew)); exact HL198_0.out) (Kd.R_base ho0) hb); have n2_ := Aside0.mk (Kd.R_below (by (with_reducible repeat (first | apply Kd.R_alloc | apply Kd.R_drewN | apply Kd.R_drew)); exact HO203.out) hb); have n3_ := Aside0.mk (Kd.R_lower ho0 (below_size (by repeat (first | (with_reducible first | exact HB.out | apply below_alloc | apply pw_below_drewN | apply below_drew1) | exact HB.out)))); have n4_ := Aside0.mk (Kd.C_below (by repeat (first | (with_reducible exact HR198_0.out) | (with_reducible refine Kd.C_alloc ?_ _) | (with_reducible refine Kd.C_drewN ?_ _) | (with_reducible refine Kd.C_drew ?_) | exact HR198_0.out)) hb); have n5_ := Aside0.mk (below_step (by repeat (first | (with_reducible first | exact HB.out | apply below_alloc | apply pw_below_drewN | apply below_drew1) | exact HB.out)) hb); clear HO197; clear HL198_0; clear HO203; clear HR198_0; clear HB; have HO197 := n0_; have HL198_0 := n1_; have HO203 := n2_; have HO208 := n3_; have HR198_0 := n4_; have HB := n5_; clear n0_ n1_ n2_ n3_ n4_ n5_; (try clear hb); (try clear hb2); (try clear hk); (try clear hi); (try clear ho0)))
                            have n0_ := Aside0.mk (Kd.N_drew HO197.out)
                            have n1_ := Aside0.mk (Kd.V_drew HL198_0.out)
                            have n2_ := Aside0.mk (Kd.R_drew HO203.out)
                            have n3_ := Aside0.mk (Kd.R_drew HO208.out)
                            have n4_ := Aside0.mk (Kd.C_drew HR198_0.out)
                            have n5_ := Aside0.mk (below_drew1 HB.out)
                            clear HO197
                            clear HL198_0
                            clear HO203
                            clear HO208
                            clear HR198_0
                            clear HB
                            have HO197 := n0_
                            have HL198_0 := n1_
                            have HO203 := n2_
                            have HO208 := n3_
                            have HR198_0 := n4_
                            have HB := n5_
                            clear n0_ n1_ n2_ n3_ n4_ n5_
                            refine start_ (n := 11) (S := fun w' => True) (ds := []) #[false, false, false, false, false, false, false, false, false, false, false] (by kernel_rfl) rfl rfl trivial (fun hHeld => ?_); refine with_tabW veillaw8_ProgForms.tab9 veillaw8_ProgForms.bits9 (fun HT_ HW_ => ?_)
                            generalize w84.drew = w85 at HO197 HL198_0 HO203 HO208 HR198_0 HB hHeld ⊢
                            refine join_ (σ := Value × Value) 7 #[true, true, true, true, false, false, false, false, false, false, false] (fun s_ => [(59, s_.1), (60, .string (strOfNums y209)), (61, s_.2), (62, .string (strOfNums y212))]) (fun s_ w' => (Kd.V k23 23 w' w.heap.size (fun k_ => some k_ ≠ (.slice (some ad198) y195.length co79 : Value).ownBlock ∧ some k_ ≠ (.slice (some ad204) y201.length co83 : Value).ownBlock ∧ some k_ ≠ (v207 : Value).ownBlock ∧ some k_ ≠ (s_.1 : Value).ownBlock ∧ some k_ ≠ (s_.2 : Value).ownBlock) (.slice A198_0 (rd_L3 y195 (ji8)).length c198_0) (rd_L3 y195 (ji8))) ∧ (Kd.N (Kd.slice 23 k23) 37 w' w.heap.size (fun k_ => some k_ ≠ (.slice (some ad204) y201.length co83 : Value).ownBlock ∧ some k_ ≠ (v207 : Value).ownBlock ∧ some k_ ≠ (s_.1 : Value).ownBlock ∧ some k_ ≠ (s_.2 : Value).ownBlock) (.slice (some ad198) y195.length co79) y195) ∧ (Kd.R Kd.string 9 w' w.heap.size (fun _ => True) (.slice (some ad204) y201.length co83) y201) ∧ (Kd.R k23 23 w' w.heap.size (fun _ => True) v207 t205) ∧ (Kd.R (Kd.int .u8) 5 w' w.heap.size (fun k_ => some k_ ≠ (s_.2 : Value).ownBlock) s_.1 y209) ∧ (Kd.R (Kd.int .u8) 5 w' w.heap.size (fun k_ => some k_ ≠ (s_.1 : Value).ownBlock) s_.2 y212) ∧ (Below w.heap.size w w')) ?_ ?_
                            rotate_left
                            · intro hJ0_1_2_3
                              refine join_ (σ := Value × Value) 8 #[true, true, true, false, false, false, false, false, false, false, false] (fun s_ => [(59, s_.1), (60, .string (strOfNums y209)), (61, s_.2)]) (fun s_ w' => (Kd.V k23 23 w' w.heap.size (fun k_ => some k_ ≠ (.slice (some ad198) y195.length co79 : Value).ownBlock ∧ some k_ ≠ (.slice (some ad204) y201.length co83 : Value).ownBlock ∧ some k_ ≠ (v207 : Value).ownBlock ∧ some k_ ≠ (s_.1 : Value).ownBlock ∧ some k_ ≠ (s_.2 : Value).ownBlock) (.slice A198_0 (rd_L3 y195 (ji8)).length c198_0) (rd_L3 y195 (ji8))) ∧ (Kd.N (Kd.slice 23 k23) 37 w' w.heap.size (fun k_ => some k_ ≠ (.slice (some ad204) y201.length co83 : Value).ownBlock ∧ some k_ ≠ (v207 : Value).ownBlock ∧ some k_ ≠ (s_.1 : Value).ownBlock ∧ some k_ ≠ (s_.2 : Value).ownBlock) (.slice (some ad198) y195.length co79) y195) ∧ (Kd.R Kd.string 9 w' w.heap.size (fun _ => True) (.slice (some ad204) y201.length co83) y201) ∧ (Kd.R k23 23 w' w.heap.size (fun _ => True) v207 t205) ∧ (Kd.R (Kd.int .u8) 5 w' w.heap.size (fun k_ => some k_ ≠ (s_.2 : Value).ownBlock) s_.1 y209) ∧ (Kd.R (Kd.int .u8) 5 w' w.heap.size (fun k_ => some k_ ≠ (s_.1 : Value).ownBlock) s_.2 y212) ∧ (Below w.heap.size w w')) ?_ ?_
                              rotate_left
                              · intro hJ0_1_2
                                refine join_ (σ := Value × Value) 8 #[true, false, true, true, false, false, false, false, false, false, false] (fun s_ => [(59, s_.1), (61, s_.2), (62, .string (strOfNums y212))]) (fun s_ w' => (Kd.V k23 23 w' w.heap.size (fun k_ => some k_ ≠ (.slice (some ad198) y195.length co79 : Value).ownBlock ∧ some k_ ≠ (.slice (some ad204) y201.length co83 : Value).ownBlock ∧ some k_ ≠ (v207 : Value).ownBlock ∧ some k_ ≠ (s_.1 : Value).ownBlock ∧ some k_ ≠ (s_.2 : Value).ownBlock) (.slice A198_0 (rd_L3 y195 (ji8)).length c198_0) (rd_L3 y195 (ji8))) ∧ (Kd.N (Kd.slice 23 k23) 37 w' w.heap.size (fun k_ => some k_ ≠ (.slice (some ad204) y201.length co83 : Value).ownBlock ∧ some k_ ≠ (v207 : Value).ownBlock ∧ some k_ ≠ (s_.1 : Value).ownBlock ∧ some k_ ≠ (s_.2 : Value).ownBlock) (.slice (some ad198) y195.length co79) y195) ∧ (Kd.R Kd.string 9 w' w.heap.size (fun _ => True) (.slice (some ad204) y201.length co83) y201) ∧ (Kd.R k23 23 w' w.heap.size (fun _ => True) v207 t205) ∧ (Kd.R (Kd.int .u8) 5 w' w.heap.size (fun k_ => some k_ ≠ (s_.2 : Value).ownBlock) s_.1 y209) ∧ (Kd.R (Kd.int .u8) 5 w' w.heap.size (fun k_ => some k_ ≠ (s_.1 : Value).ownBlock) s_.2 y212) ∧ (Below w.heap.size w w')) ?_ ?_
                                rotate_left
                                · intro hJ0_2_3
                                  refine join_ (σ := Value) 9 #[true, true, false, false, false, false, false, false, false, false, false] (fun s_ => [(59, s_), (60, .string (strOfNums y209))]) (fun s_ w' => (Kd.V k23 23 w' w.heap.size (fun k_ => some k_ ≠ (.slice (some ad198) y195.length co79 : Value).ownBlock ∧ some k_ ≠ (.slice (some ad204) y201.length co83 : Value).ownBlock ∧ some k_ ≠ (v207 : Value).ownBlock ∧ some k_ ≠ (s_ : Value).ownBlock) (.slice A198_0 (rd_L3 y195 (ji8)).length c198_0) (rd_L3 y195 (ji8))) ∧ (Kd.N (Kd.slice 23 k23) 37 w' w.heap.size (fun k_ => some k_ ≠ (.slice (some ad204) y201.length co83 : Value).ownBlock ∧ some k_ ≠ (v207 : Value).ownBlock ∧ some k_ ≠ (s_ : Value).ownBlock) (.slice (some ad198) y195.length co79) y195) ∧ (Kd.R Kd.string 9 w' w.heap.size (fun _ => True) (.slice (some ad204) y201.length co83) y201) ∧ (Kd.R k23 23 w' w.heap.size (fun _ => True) v207 t205) ∧ (Kd.R (Kd.int .u8) 5 w' w.heap.size (fun _ => True) s_ y209) ∧ (Below w.heap.size w w')) ?_ ?_
                                  rotate_left
                                  · intro hJ0_1
                                    refine join_ (σ := Value × Value) 9 #[true, false, true, false, false, false, false, false, false, false, false] (fun s_ => [(59, s_.1), (61, s_.2)]) (fun s_ w' => (Kd.V k23 23 w' w.heap.size (fun k_ => some k_ ≠ (.slice (some ad198) y195.length co79 : Value).ownBlock ∧ some k_ ≠ (.slice (some ad204) y201.length co83 : Value).ownBlock ∧ some k_ ≠ (v207 : Value).ownBlock ∧ some k_ ≠ (s_.1 : Value).ownBlock ∧ some k_ ≠ (s_.2 : Value).ownBlock) (.slice A198_0 (rd_L3 y195 (ji8)).length c198_0) (rd_L3 y195 (ji8))) ∧ (Kd.N (Kd.slice 23 k23) 37 w' w.heap.size (fun k_ => some k_ ≠ (.slice (some ad204) y201.length co83 : Value).ownBlock ∧ some k_ ≠ (v207 : Value).ownBlock ∧ some k_ ≠ (s_.1 : Value).ownBlock ∧ some k_ ≠ (s_.2 : Value).ownBlock) (.slice (some ad198) y195.length co79) y195) ∧ (Kd.R Kd.string 9 w' w.heap.size (fun _ => True) (.slice (some ad204) y201.length co83) y201) ∧ (Kd.R k23 23 w' w.heap.size (fun _ => True) v207 t205) ∧ (Kd.R (Kd.int .u8) 5 w' w.heap.size (fun k_ => some k_ ≠ (s_.2 : Value).ownBlock) s_.1 y209) ∧ (Kd.R (Kd.int .u8) 5 w' w.heap.size (fun k_ => some k_ ≠ (s_.1 : Value).ownBlock) s_.2 y212) ∧ (Below w.heap.size w w')) ?_ ?_
                                    rotate_left
                                    · intro hJ0_2
                                      refine join_ (σ := Value) 9 #[false, false, true, true, false, false, false, false, false, false, false] (fun s_ => [(61, s_), (62, .string (strOfNums y212))]) (fun s_ w' => (Kd.V k23 23 w' w.heap.size (fun k_ => some k_ ≠ (.slice (some ad198) y195.length co79 : Value).ownBlock ∧ some k_ ≠ (.slice (some ad204) y201.length co83 : Value).ownBlock ∧ some k_ ≠ (v207 : Value).ownBlock ∧ some k_ ≠ (s_ : Value).ownBlock) (.slice A198_0 (rd_L3 y195 (ji8)).length c198_0) (rd_L3 y195 (ji8))) ∧ (Kd.N (Kd.slice 23 k23) 37 w' w.heap.size (fun k_ => some k_ ≠ (.slice (some ad204) y201.length co83 : Value).ownBlock ∧ some k_ ≠ (v207 : Value).ownBlock ∧ some k_ ≠ (s_ : Value).ownBlock) (.slice (some ad198) y195.length co79) y195) ∧ (Kd.R Kd.string 9 w' w.heap.size (fun _ => True) (.slice (some ad204) y201.length co83) y201) ∧ (Kd.R k23 23 w' w.heap.size (fun _ => True) v207 t205) ∧ (Kd.R (Kd.int .u8) 5 w' w.heap.size (fun _ => True) s_ y212) ∧ (Below w.heap.size w w')) ?_ ?_
                                      rotate_left
                                      · intro hJ2_3
                                        refine join_ (σ := Value) 10 #[true, false, false, false, false, false, false, false, false, false, false] (fun s_ => [(59, s_)]) (fun s_ w' => (Kd.V k23 23 w' w.heap.size (fun k_ => some k_ ≠ (.slice (some ad198) y195.length co79 : Value).ownBlock ∧ some k_ ≠ (.slice (some ad204) y201.length co83 : Value).ownBlock ∧ some k_ ≠ (v207 : Value).ownBlock ∧ some k_ ≠ (s_ : Value).ownBlock) (.slice A198_0 (rd_L3 y195 (ji8)).length c198_0) (rd_L3 y195 (ji8))) ∧ (Kd.N (Kd.slice 23 k23) 37 w' w.heap.size (fun k_ => some k_ ≠ (.slice (some ad204) y201.length co83 : Value).ownBlock ∧ some k_ ≠ (v207 : Value).ownBlock ∧ some k_ ≠ (s_ : Value).ownBlock) (.slice (some ad198) y195.length co79) y195) ∧ (Kd.R Kd.string 9 w' w.heap.size (fun _ => True) (.slice (some ad204) y201.length co83) y201) ∧ (Kd.R k23 23 w' w.heap.size (fun _ => True) v207 t205) ∧ (Kd.R (Kd.int .u8) 5 w' w.heap.size (fun _ => True) s_ y209) ∧ (Below w.heap.size w w')) ?_ ?_
                                        rotate_left
                                        · intro hJ0
                                          refine join_ (σ := Value) 10 #[false, false, true, false, false, false, false, false, false, false, false] (fun s_ => [(61, s_)]) (fun s_ w' => (Kd.V k23 23 w' w.heap.size (fun k_ => some k_ ≠ (.slice (some ad198) y195.length co79 : Value).ownBlock ∧ some k_ ≠ (.slice (some ad204) y201.length co83 : Value).ownBlock ∧ some k_ ≠ (v207 : Value).ownBlock ∧ some k_ ≠ (s_ : Value).ownBlock) (.slice A198_0 (rd_L3 y195 (ji8)).length c198_0) (rd_L3 y195 (ji8))) ∧ (Kd.N (Kd.slice 23 k23) 37 w' w.heap.size (fun k_ => some k_ ≠ (.slice (some ad204) y201.length co83 : Value).ownBlock ∧ some k_ ≠ (v207 : Value).ownBlock ∧ some k_ ≠ (s_ : Value).ownBlock) (.slice (some ad198) y195.length co79) y195) ∧ (Kd.R Kd.string 9 w' w.heap.size (fun _ => True) (.slice (some ad204) y201.length co83) y201) ∧ (Kd.R k23 23 w' w.heap.size (fun _ => True) v207 t205) ∧ (Kd.R (Kd.int .u8) 5 w' w.heap.size (fun _ => True) s_ y212) ∧ (Below w.heap.size w w')) ?_ ?_
                                          rotate_left
                                          · intro hJ2
                                            refine two_ (i := 0) (j := 2) (Ni := some 59) (Nj := some 61) #[true, false, false, false, false, false, false, false, false, false, false] #[false, false, true, false, false, false, false, false, false, false, false] rfl rfl rfl rfl (two_of HT_.out (by kernel_rfl)) (by decide) (by decide) (fun K hK => ?_) (fun K hK => ?_)
                                            · skip
                                              refine Kd.R_lit_step (Kd.int .u8) _ 5 ?hg (N := 59) ?hd (xs := ([17] : List Int)) (inner := [.int .u8 17]) (ok := fun _ => True) (okp := fun _ => True) ?hr ?hp (fun _ hk => hk) trivial (Below.refl _ _) (Nat.le_refl _) (by simp) ?_; (case hd => rfl); (case hg => rfl); (case hr => first | (go_simp; done) | (go_simp; rfl)); (case hp => exact (Reps.one (show Kd.M (Kd.int .u8) _ _ _ 17 [.int .u8 17] from rfl) (Reps.none _ _)))
                                              intro v210 w86 ho87 hb hg_ hnew_
                                              clear hg_ hnew_
                                              (first | rw [← Ny209.out] at ho87 | (simp only [Int.reduceToNat] at ho87; rw [← Ny209.out] at ho87))
                                              have n0_ := Aside0.mk (Kd.N_elder' (by (with_reducible repeat (first | apply Kd.N_alloc | apply Kd.N_drewN | apply Kd.N_drew)); exact HO197.out) (Kd.R_base ho87) hb)
                                              have n1_ := Aside0.mk (Kd.V_elder' (by (with_reducible repeat (first | apply Kd.V_alloc | apply Kd.V_drewN | apply Kd.V_drew)); exact HL198_0.out) (Kd.R_base ho87) hb)
                                              have n2_ := Aside0.mk (Kd.R_below (by (with_reducible repeat (first | apply Kd.R_alloc | apply Kd.R_drewN | apply Kd.R_drew)); exact HO203.out) hb)
                                              have n3_ := Aside0.mk (Kd.R_below (by (with_reducible repeat (first | apply Kd.R_alloc | apply Kd.R_drewN | apply Kd.R_drew)); exact HO208.out) hb)
                                              have n4_ := Aside0.mk (Kd.R_lower ho87 (below_size (by repeat (first | (with_reducible first | exact HB.out | apply below_alloc | apply pw_below_drewN | apply below_drew1) | exact HB.out))))
                                              have n5_ := Aside0.mk (Kd.C_below (by repeat (first | (with_reducible exact HR198_0.out) | (with_reducible refine Kd.C_alloc ?_ _) | (with_reducible refine Kd.C_drewN ?_ _) | (with_reducible refine Kd.C_drew ?_) | exact HR198_0.out)) hb)
                                              have n6_ := Aside0.mk (below_step (by repeat (first | (with_reducible first | exact HB.out | apply below_alloc | apply pw_below_drewN | apply below_drew1) | exact HB.out)) hb)
                                              clear HO197
                                              clear HL198_0
                                              clear HO203
                                              clear HO208
                                              clear HR198_0
                                              clear HB
                                              have HO197 := n0_
                                              have HL198_0 := n1_
                                              have HO203 := n2_
                                              have HO208 := n3_
                                              have HO211 := n4_
                                              have HR198_0 := n5_
                                              have HB := n6_
                                              clear n0_ n1_ n2_ n3_ n4_ n5_ n6_
                                              clear hb ho87
                                              refine hK.out _ _ trivial (fun hHeld => ?_)
                                              clear hK K
                                              refine norm_ (a' := ?_) ?_ ?_
                                              rotate_left
                                              · show Act.put _ (some 59) _ = _
                                                simp only [Act.put, List.setIfInBounds_toArray, List.set_cons_zero, List.set_cons_succ, i64_w, i32_w]
                                                rfl
                                              exact norm_ (by first | (simp only [putAll, Act.put, List.setIfInBounds_toArray, List.set_cons_zero, List.set_cons_succ]; done) | (simp only [putAll, Act.put, List.setIfInBounds_toArray, List.set_cons_zero, List.set_cons_succ]; rfl)) (hJ0 (v210) _ ⟨(by (with_reducible repeat (first | apply Kd.V_alloc | apply Kd.V_drewN | apply Kd.V_drew)); exact Kd.V_mono HL198_0.out (fun _ hk => ⟨hk.1.1.1.2, ⟨hk.1.1.2, ⟨hk.1.2, hk.2⟩⟩⟩)), (by (with_reducible repeat (first | apply Kd.N_alloc | apply Kd.N_drewN | apply Kd.N_drew)); exact Kd.N_mono HO197.out (fun _ hk => ⟨hk.1.1.2, ⟨hk.1.2, hk.2⟩⟩)), (by (with_reducible repeat (first | apply Kd.R_alloc | apply Kd.R_drewN | apply Kd.R_drew)); exact HO203.out), (by (with_reducible repeat (first | apply Kd.R_alloc | apply Kd.R_drewN | apply Kd.R_drew)); exact HO208.out), (by (with_reducible repeat (first | apply Kd.R_alloc | apply Kd.R_drewN | apply Kd.R_drew)); exact HO211.out), (by repeat (first | (with_reducible first | exact HB.out | apply below_alloc | apply pw_below_drewN | apply below_drew1) | exact HB.out))⟩)
                                            · skip
                                              refine Kd.R_make_step (Kd.int .u8) _ 5 (by rfl) (N := 61) rfl 69 _ _ rfl 68 rfl rfl Try.underlying69 (.int .u8 0) 1 info5 rfl (by decide) (by omega) 0 (ok := fun _ => True) (okp := fun _ => True) rfl (fun _ hk => hk) trivial (by omega) (by omega) (Below.refl _ _) (Nat.le_refl _) ?_
                                              intro v213 w86 ho87 hb hg_ hnew_
                                              clear hg_ hnew_
                                              (first | rw [← Ny212.out] at ho87 | (simp only [Int.reduceToNat] at ho87; rw [← Ny212.out] at ho87))
                                              have n0_ := Aside0.mk (Kd.N_elder' (by (with_reducible repeat (first | apply Kd.N_alloc | apply Kd.N_drewN | apply Kd.N_drew)); exact HO197.out) (Kd.R_base ho87) hb)
                                              have n1_ := Aside0.mk (Kd.V_elder' (by (with_reducible repeat (first | apply Kd.V_alloc | apply Kd.V_drewN | apply Kd.V_drew)); exact HL198_0.out) (Kd.R_base ho87) hb)
                                              have n2_ := Aside0.mk (Kd.R_below (by (with_reducible repeat (first | apply Kd.R_alloc | apply Kd.R_drewN | apply Kd.R_drew)); exact HO203.out) hb)
                                              have n3_ := Aside0.mk (Kd.R_below (by (with_reducible repeat (first | apply Kd.R_alloc | apply Kd.R_drewN | apply Kd.R_drew)); exact HO208.out) hb)
                                              have n4_ := Aside0.mk (Kd.R_lower ho87 (below_size (by repeat (first | (with_reducible first | exact HB.out | apply below_alloc | apply pw_below_drewN | apply below_drew1) | exact HB.out))))
                                              have n5_ := Aside0.mk (Kd.C_below (by repeat (first | (with_reducible exact HR198_0.out) | (with_reducible refine Kd.C_alloc ?_ _) | (with_reducible refine Kd.C_drewN ?_ _) | (with_reducible refine Kd.C_drew ?_) | exact HR198_0.out)) hb)
                                              have n6_ := Aside0.mk (below_step (by repeat (first | (with_reducible first | exact HB.out | apply below_alloc | apply pw_below_drewN | apply below_drew1) | exact HB.out)) hb)
                                              clear HO197
                                              clear HL198_0
                                              clear HO203
                                              clear HO208
                                              clear HR198_0
                                              clear HB
                                              have HO197 := n0_
                                              have HL198_0 := n1_
                                              have HO203 := n2_
                                              have HO208 := n3_
                                              have HO214 := n4_
                                              have HR198_0 := n5_
                                              have HB := n6_
                                              clear n0_ n1_ n2_ n3_ n4_ n5_ n6_
                                              clear hb ho87
                                              refine hK.out _ _ trivial (fun hHeld => ?_)
                                              clear hK K
                                              refine norm_ (a' := ?_) ?_ ?_
                                              rotate_left
                                              · show Act.put _ (some 61) _ = _
                                                simp only [Act.put, List.setIfInBounds_toArray, List.set_cons_zero, List.set_cons_succ, i64_w, i32_w]
                                                rfl
                                              exact norm_ (by first | (simp only [putAll, Act.put, List.setIfInBounds_toArray, List.set_cons_zero, List.set_cons_succ]; done) | (simp only [putAll, Act.put, List.setIfInBounds_toArray, List.set_cons_zero, List.set_cons_succ]; rfl)) (hJ2 (v213) _ ⟨(by (with_reducible repeat (first | apply Kd.V_alloc | apply Kd.V_drewN | apply Kd.V_drew)); exact Kd.V_mono HL198_0.out (fun _ hk => ⟨hk.1.1.1.2, ⟨hk.1.1.2, ⟨hk.1.2, hk.2⟩⟩⟩)), (by (with_reducible repeat (first | apply Kd.N_alloc | apply Kd.N_drewN | apply Kd.N_drew)); exact Kd.N_mono HO197.out (fun _ hk => ⟨hk.1.1.2, ⟨hk.1.2, hk.2⟩⟩)), (by (with_reducible repeat (first | apply Kd.R_alloc | apply Kd.R_drewN | apply Kd.R_drew)); exact HO203.out), (by (with_reducible repeat (first | apply Kd.R_alloc | apply Kd.R_drewN | apply Kd.R_drew)); exact HO208.out), (by (with_reducible repeat (first | apply Kd.R_alloc | apply Kd.R_drewN | apply Kd.R_drew)); exact HO214.out), (by repeat (first | (with_reducible first | exact HB.out | apply below_alloc | apply pw_below_drewN | apply below_drew1) | exact HB.out))⟩)
                                          · skip
                                            rintro v213 w88 ⟨h0_, h1_, h2_, h3_, h4_, h5_⟩
                                            have n0_ : Aside0 (Kd.V k23 23 w88 w.heap.size (fun k_ => some k_ ≠ (.slice (some ad198) y195.length co79 : Value).ownBlock ∧ some k_ ≠ (.slice (some ad204) y201.length co83 : Value).ownBlock ∧ some k_ ≠ (v207 : Value).ownBlock ∧ some k_ ≠ (v213 : Value).ownBlock) (.slice A198_0 (rd_L3 y195 (ji8)).length c198_0) (rd_L3 y195 (ji8))) := ⟨h0_⟩
                                            have n1_ : Aside0 (Kd.N (Kd.slice 23 k23) 37 w88 w.heap.size (fun k_ => some k_ ≠ (.slice (some ad204) y201.length co83 : Value).ownBlock ∧ some k_ ≠ (v207 : Value).ownBlock ∧ some k_ ≠ (v213 : Value).ownBlock) (.slice (some ad198) y195.length co79) y195) := ⟨h1_⟩
                                            have n2_ : Aside0 (Kd.R Kd.string 9 w88 w.heap.size (fun _ => True) (.slice (some ad204) y201.length co83) y201) := ⟨h2_⟩
                                            have n3_ : Aside0 (Kd.R k23 23 w88 w.heap.size (fun _ => True) v207 t205) := ⟨h3_⟩
                                            have n4_ : Aside0 (Kd.R (Kd.int .u8) 5 w88 w.heap.size (fun _ => True) v213 y212) := ⟨h4_⟩
                                            have n5_ : Aside0 (Below w.heap.size w w88) := ⟨h5_⟩
                                            clear HO197
                                            clear HL198_0
                                            clear HO203
                                            clear HO208
                                            clear HR198_0
                                            clear HB
                                            clear h0_ h1_ h2_ h3_ h4_ h5_
                                            have HL198_0 := n0_
                                            have HO197 := n1_
                                            have HO203 := n2_
                                            have HO208 := n3_
                                            have HO214 := n4_
                                            have HB := n5_
                                            clear n0_ n1_ n2_ n3_ n4_ n5_
                                            have hHeld := trivial
                                            refine norm_ (a' := ?_) ?_ ?_
                                            rotate_left
                                            · simp only [putAll, Act.put, List.setIfInBounds_toArray, List.set_cons_zero, List.set_cons_succ]
                                              rfl
                                            refine two_ (i := 0) (j := 3) (Ni := some 59) (Nj := some 62) #[true, false, true, false, false, false, false, false, false, false, false] #[false, false, true, true, false, false, false, false, false, false, false] rfl rfl rfl rfl (two_of HT_.out (by kernel_rfl)) (by decide) (by decide) (fun K hK => ?_) (fun K hK => ?_)
                                            · skip
                                              refine Kd.R_lit_step (Kd.int .u8) _ 5 ?hg (N := 59) ?hd (xs := ([17] : List Int)) (inner := [.int .u8 17]) (ok := fun _ => True) (okp := fun _ => True) ?hr ?hp (fun _ hk => hk) trivial (Below.refl _ _) (Nat.le_refl _) (by simp) ?_; (case hd => rfl); (case hg => rfl); (case hr => first | (go_simp; done) | (go_simp; rfl)); (case hp => exact (Reps.one (show Kd.M (Kd.int .u8) _ _ _ 17 [.int .u8 17] from rfl) (Reps.none _ _)))
                                              intro v210 w89 ho90 hb hg_ hnew_
                                              clear hg_ hnew_
                                              (first | rw [← Ny209.out] at ho90 | (simp only [Int.reduceToNat] at ho90; rw [← Ny209.out] at ho90))
                                              have n0_ := Aside0.mk (Kd.N_elder' (by (with_reducible repeat (first | apply Kd.N_alloc | apply Kd.N_drewN | apply Kd.N_drew)); exact HO197.out) (Kd.R_base ho90) hb)
                                              have n1_ := Aside0.mk (Kd.V_elder' (by (with_reducible repeat (first | apply Kd.V_alloc | apply Kd.V_drewN | apply Kd.V_drew)); exact HL198_0.out) (Kd.R_base ho90) hb)
                                              have n2_ := Aside0.mk (Kd.R_below (by (with_reducible repeat (first | apply Kd.R_alloc | apply Kd.R_drewN | apply Kd.R_drew)); exact HO203.out) hb)
                                              have n3_ := Aside0.mk (Kd.R_below (by (with_reducible repeat (first | apply Kd.R_alloc | apply Kd.R_drewN | apply Kd.R_drew)); exact HO208.out) hb)
                                              have n4_ := Aside0.mk (Kd.R_elder' (by (with_reducible repeat (first | apply Kd.R_alloc | apply Kd.R_drewN | apply Kd.R_drew)); exact HO214.out) (Kd.R_base ho90) hb)
                                              have n5_ := Aside0.mk (Kd.R_lower (Kd.R_new' ho90 (Kd.R_lt (by (with_reducible repeat (first | apply Kd.R_alloc | apply Kd.R_drewN | apply Kd.R_drew)); exact HO214.out))) (below_size (by repeat (first | (with_reducible first | exact HB.out | apply below_alloc | apply pw_below_drewN | apply below_drew1) | exact HB.out))))
                                              have n6_ := Aside0.mk (below_step (by repeat (first | (with_reducible first | exact HB.out | apply below_alloc | apply pw_below_drewN | apply below_drew1) | exact HB.out)) hb)
                                              clear HO197
                                              clear HL198_0
                                              clear HO203
                                              clear HO208
                                              clear HO214
                                              clear HB
                                              have HO197 := n0_
                                              have HL198_0 := n1_
                                              have HO203 := n2_
                                              have HO208 := n3_
                                              have HO214 := n4_
                                              have HO211 := n5_
                                              have HB := n6_
                                              clear n0_ n1_ n2_ n3_ n4_ n5_ n6_
                                              clear hb ho90
                                              refine hK.out _ _ trivial (fun hHeld => ?_)
                                              clear hK K
                                              refine norm_ (a' := ?_) ?_ ?_
                                              rotate_left
                                              · show Act.put _ (some 59) _ = _
                                                simp only [Act.put, List.setIfInBounds_toArray, List.set_cons_zero, List.set_cons_succ, i64_w, i32_w]
                                                rfl
                                              exact norm_ (by first | (simp only [putAll, Act.put, List.setIfInBounds_toArray, List.set_cons_zero, List.set_cons_succ]; done) | (simp only [putAll, Act.put, List.setIfInBounds_toArray, List.set_cons_zero, List.set_cons_succ]; rfl)) (hJ0_2 (v210, v213) _ ⟨(by (with_reducible repeat (first | apply Kd.V_alloc | apply Kd.V_drewN | apply Kd.V_drew)); exact Kd.V_mono HL198_0.out (fun _ hk => ⟨hk.1.1, ⟨hk.1.2.1, ⟨hk.1.2.2.1, ⟨hk.2, hk.1.2.2.2⟩⟩⟩⟩)), (by (with_reducible repeat (first | apply Kd.N_alloc | apply Kd.N_drewN | apply Kd.N_drew)); exact Kd.N_mono HO197.out (fun _ hk => ⟨hk.1.1, ⟨hk.1.2.1, ⟨hk.2, hk.1.2.2⟩⟩⟩)), (by (with_reducible repeat (first | apply Kd.R_alloc | apply Kd.R_drewN | apply Kd.R_drew)); exact HO203.out), (by (with_reducible repeat (first | apply Kd.R_alloc | apply Kd.R_drewN | apply Kd.R_drew)); exact HO208.out), (by (with_reducible repeat (first | apply Kd.R_alloc | apply Kd.R_drewN | apply Kd.R_drew)); exact Kd.R_mono HO211.out (fun _ hk => hk.2)), (by (with_reducible repeat (first | apply Kd.R_alloc | apply Kd.R_drewN | apply Kd.R_drew)); exact Kd.R_mono HO214.out (fun _ hk => hk.2)), (by repeat (first | (with_reducible first | exact HB.out | apply below_alloc | apply pw_below_drewN | apply below_drew1) | exact HB.out))⟩)
                                            · skip
                                              have hcv89 := own_string (P := Try.prog) Try.underlying69 Try.underlying5 Try.underlying9 (Kd.own_of_R HO214.out)
                                              refine value_ (w1 := ?_) (v := ?_) (by rfl) rfl ?_ ?_
                                              rotate_left 2
                                              · go_simp
                                                constructor
                                                · rfl
                                                · rfl
                                              clear hcv89
                                              refine hK.out _ _ trivial (fun hHeld => ?_)
                                              clear hK K
                                              refine norm_ (a' := ?_) ?_ ?_
                                              rotate_left
                                              · show Act.put _ (some 62) _ = _
                                                simp only [Act.put, List.setIfInBounds_toArray, List.set_cons_zero, List.set_cons_succ, i64_w, i32_w]
                                                rfl
                                              exact norm_ (by first | (simp only [putAll, Act.put, List.setIfInBounds_toArray, List.set_cons_zero, List.set_cons_succ]; done) | (simp only [putAll, Act.put, List.setIfInBounds_toArray, List.set_cons_zero, List.set_cons_succ]; rfl)) (hJ2_3 (v213) _ ⟨(by (with_reducible repeat (first | apply Kd.V_alloc | apply Kd.V_drewN | apply Kd.V_drew)); exact HL198_0.out), (by (with_reducible repeat (first | apply Kd.N_alloc | apply Kd.N_drewN | apply Kd.N_drew)); exact HO197.out), (by (with_reducible repeat (first | apply Kd.R_alloc | apply Kd.R_drewN | apply Kd.R_drew)); exact HO203.out), (by (with_reducible repeat (first | apply Kd.R_alloc | apply Kd.R_drewN | apply Kd.R_drew)); exact HO208.out), (by (with_reducible repeat (first | apply Kd.R_alloc | apply Kd.R_drewN | apply Kd.R_drew)); exact HO214.out), (by repeat (first | (with_reducible first | exact HB.out | apply below_alloc | apply pw_below_drewN | apply below_drew1) | exact HB.out))⟩)
                                        · skip
                                          rintro v210 w88 ⟨h0_, h1_, h2_, h3_, h4_, h5_⟩
                                          have n0_ : Aside0 (Kd.V k23 23 w88 w.heap.size (fun k_ => some k_ ≠ (.slice (some ad198) y195.length co79 : Value).ownBlock ∧ some k_ ≠ (.slice (some ad204) y201.length co83 : Value).ownBlock ∧ some k_ ≠ (v207 : Value).ownBlock ∧ some k_ ≠ (v210 : Value).ownBlock) (.slice A198_0 (rd_L3 y195 (ji8)).length c198_0) (rd_L3 y195 (ji8))) := ⟨h0_⟩
                                          have n1_ : Aside0 (Kd.N (Kd.slice 23 k23) 37 w88 w.heap.size (fun k_ => some k_ ≠ (.slice (some ad204) y201.length co83 : Value).ownBlock ∧ some k_ ≠ (v207 : Value).ownBlock ∧ some k_ ≠ (v210 : Value).ownBlock) (.slice (some ad198) y195.length co79) y195) := ⟨h1_⟩
                                          have n2_ : Aside0 (Kd.R Kd.string 9 w88 w.heap.size (fun _ => True) (.slice (some ad204) y201.length co83) y201) := ⟨h2_⟩
                                          have n3_ : Aside0 (Kd.R k23 23 w88 w.heap.size (fun _ => True) v207 t205) := ⟨h3_⟩
                                          have n4_ : Aside0 (Kd.R (Kd.int .u8) 5 w88 w.heap.size (fun _ => True) v210 y209) := ⟨h4_⟩
                                          have n5_ : Aside0 (Below w.heap.size w w88) := ⟨h5_⟩
                                          clear HO197
                                          clear HL198_0
                                          clear HO203
                                          clear HO208
                                          clear HR198_0
                                          clear HB
                                          clear h0_ h1_ h2_ h3_ h4_ h5_
                                          have HL198_0 := n0_
                                          have HO197 := n1_
                                          have HO203 := n2_
                                          have HO208 := n3_
                                          have HO211 := n4_
                                          have HB := n5_
                                          clear n0_ n1_ n2_ n3_ n4_ n5_
                                          have hHeld := trivial
                                          refine norm_ (a' := ?_) ?_ ?_
                                          rotate_left
                                          · simp only [putAll, Act.put, List.setIfInBounds_toArray, List.set_cons_zero, List.set_cons_succ]
                                            rfl
                                          refine two_ (i := 1) (j := 2) (Ni := some 60) (Nj := some 61) #[true, true, false, false, false, false, false, false, false, false, false] #[true, false, true, false, false, false, false, false, false, false, false] rfl rfl rfl rfl (two_of HT_.out (by kernel_rfl)) (by decide) (by decide) (fun K hK => ?_) (fun K hK => ?_)
                                          · skip
                                            have hcv89 := own_string (P := Try.prog) Try.underlying69 Try.underlying5 Try.underlying9 (Kd.own_of_R HO211.out)
                                            refine value_ (w1 := ?_) (v := ?_) (by rfl) rfl ?_ ?_
                                            rotate_left 2
                                            · go_simp
                                              constructor
                                              · rfl
                                              · rfl
                                            clear hcv89
                                            refine hK.out _ _ trivial (fun hHeld => ?_)
                                            clear hK K
                                            refine norm_ (a' := ?_) ?_ ?_
                                            rotate_left
                                            · show Act.put _ (some 60) _ = _
                                              simp only [Act.put, List.setIfInBounds_toArray, List.set_cons_zero, List.set_cons_succ, i64_w, i32_w]
                                              rfl
                                            exact norm_ (by first | (simp only [putAll, Act.put, List.setIfInBounds_toArray, List.set_cons_zero, List.set_cons_succ]; done) | (simp only [putAll, Act.put, List.setIfInBounds_toArray, List.set_cons_zero, List.set_cons_succ]; rfl)) (hJ0_1 (v210) _ ⟨(by (with_reducible repeat (first | apply Kd.V_alloc | apply Kd.V_drewN | apply Kd.V_drew)); exact HL198_0.out), (by (with_reducible repeat (first | apply Kd.N_alloc | apply Kd.N_drewN | apply Kd.N_drew)); exact HO197.out), (by (with_reducible repeat (first | apply Kd.R_alloc | apply Kd.R_drewN | apply Kd.R_drew)); exact HO203.out), (by (with_reducible repeat (first | apply Kd.R_alloc | apply Kd.R_drewN | apply Kd.R_drew)); exact HO208.out), (by (with_reducible repeat (first | apply Kd.R_alloc | apply Kd.R_drewN | apply Kd.R_drew)); exact HO211.out), (by repeat (first | (with_reducible first | exact HB.out | apply below_alloc | apply pw_below_drewN | apply below_drew1) | exact HB.out))⟩)
                                          · skip
                                            refine Kd.R_make_step (Kd.int .u8) _ 5 (by rfl) (N := 61) rfl 69 _ _ rfl 68 rfl rfl Try.underlying69 (.int .u8 0) 1 info5 rfl (by decide) (by omega) 0 (ok := fun _ => True) (okp := fun _ => True) rfl (fun _ hk => hk) trivial (by omega) (by omega) (Below.refl _ _) (Nat.le_refl _) ?_
                                            intro v213 w89 ho90 hb hg_ hnew_
                                            clear hg_ hnew_
                                            (first | rw [← Ny212.out] at ho90 | (simp only [Int.reduceToNat] at ho90; rw [← Ny212.out] at ho90))
                                            have n0_ := Aside0.mk (Kd.N_elder' (by (with_reducible repeat (first | apply Kd.N_alloc | apply Kd.N_drewN | apply Kd.N_drew)); exact HO197.out) (Kd.R_base ho90) hb)
                                            have n1_ := Aside0.mk (Kd.V_elder' (by (with_reducible repeat (first | apply Kd.V_alloc | apply Kd.V_drewN | apply Kd.V_drew)); exact HL198_0.out) (Kd.R_base ho90) hb)
                                            have n2_ := Aside0.mk (Kd.R_below (by (with_reducible repeat (first | apply Kd.R_alloc | apply Kd.R_drewN | apply Kd.R_drew)); exact HO203.out) hb)
                                            have n3_ := Aside0.mk (Kd.R_below (by (with_reducible repeat (first | apply Kd.R_alloc | apply Kd.R_drewN | apply Kd.R_drew)); exact HO208.out) hb)
                                            have n4_ := Aside0.mk (Kd.R_elder' (by (with_reducible repeat (first | apply Kd.R_alloc | apply Kd.R_drewN | apply Kd.R_drew)); exact HO211.out) (Kd.R_base ho90) hb)
                                            have n5_ := Aside0.mk (Kd.R_lower (Kd.R_new' ho90 (Kd.R_lt (by (with_reducible repeat (first | apply Kd.R_alloc | apply Kd.R_drewN | apply Kd.R_drew)); exact HO211.out))) (below_size (by repeat (first | (with_reducible first | exact HB.out | apply below_alloc | apply pw_below_drewN | apply below_drew1) | exact HB.out))))
                                            have n6_ := Aside0.mk (below_step (by repeat (first | (with_reducible first | exact HB.out | apply below_alloc | apply pw_below_drewN | apply below_drew1) | exact HB.out)) hb)
                                            clear HO197
                                            clear HL198_0
                                            clear HO203
                                            clear HO208
                                            clear HO211
                                            clear HB
                                            have HO197 := n0_
                                            have HL198_0 := n1_
                                            have HO203 := n2_
                                            have HO208 := n3_
                                            have HO211 := n4_
                                            have HO214 := n5_
                                            have HB := n6_
                                            clear n0_ n1_ n2_ n3_ n4_ n5_ n6_
                                            clear hb ho90
                                            refine hK.out _ _ trivial (fun hHeld => ?_)
                                            clear hK K
                                            refine norm_ (a' := ?_) ?_ ?_
                                            rotate_left
                                            · show Act.put _ (some 61) _ = _
                                              simp only [Act.put, List.setIfInBounds_toArray, List.set_cons_zero, List.set_cons_succ, i64_w, i32_w]
                                              rfl
                                            exact norm_ (by first | (simp only [putAll, Act.put, List.setIfInBounds_toArray, List.set_cons_zero, List.set_cons_succ]; done) | (simp only [putAll, Act.put, List.setIfInBounds_toArray, List.set_cons_zero, List.set_cons_succ]; rfl)) (hJ0_2 (v210, v213) _ ⟨(by (with_reducible repeat (first | apply Kd.V_alloc | apply Kd.V_drewN | apply Kd.V_drew)); exact Kd.V_mono HL198_0.out (fun _ hk => ⟨hk.1.1, ⟨hk.1.2.1, ⟨hk.1.2.2.1, ⟨hk.1.2.2.2, hk.2⟩⟩⟩⟩)), (by (with_reducible repeat (first | apply Kd.N_alloc | apply Kd.N_drewN | apply Kd.N_drew)); exact Kd.N_mono HO197.out (fun _ hk => ⟨hk.1.1, ⟨hk.1.2.1, ⟨hk.1.2.2, hk.2⟩⟩⟩)), (by (with_reducible repeat (first | apply Kd.R_alloc | apply Kd.R_drewN | apply Kd.R_drew)); exact HO203.out), (by (with_reducible repeat (first | apply Kd.R_alloc | apply Kd.R_drewN | apply Kd.R_drew)); exact HO208.out), (by (with_reducible repeat (first | apply Kd.R_alloc | apply Kd.R_drewN | apply Kd.R_drew)); exact Kd.R_mono HO211.out (fun _ hk => hk.2)), (by (with_reducible repeat (first | apply Kd.R_alloc | apply Kd.R_drewN | apply Kd.R_drew)); exact Kd.R_mono HO214.out (fun _ hk => hk.2)), (by repeat (first | (with_reducible first | exact HB.out | apply below_alloc | apply pw_below_drewN | apply below_drew1) | exact HB.out))⟩)
                                      · skip
                                        rintro v213 w89 ⟨h0_, h1_, h2_, h3_, h4_, h5_⟩
                                        have n0_ : Aside0 (Kd.V k23 23 w89 w.heap.size (fun k_ => some k_ ≠ (.slice (some ad198) y195.length co79 : Value).ownBlock ∧ some k_ ≠ (.slice (some ad204) y201.length co83 : Value).ownBlock ∧ some k_ ≠ (v207 : Value).ownBlock ∧ some k_ ≠ (v213 : Value).ownBlock) (.slice A198_0 (rd_L3 y195 (ji8)).length c198_0) (rd_L3 y195 (ji8))) := ⟨h0_⟩
                                        have n1_ : Aside0 (Kd.N (Kd.slice 23 k23) 37 w89 w.heap.size (fun k_ => some k_ ≠ (.slice (some ad204) y201.length co83 : Value).ownBlock ∧ some k_ ≠ (v207 : Value).ownBlock ∧ some k_ ≠ (v213 : Value).ownBlock) (.slice (some ad198) y195.length co79) y195) := ⟨h1_⟩
                                        have n2_ : Aside0 (Kd.R Kd.string 9 w89 w.heap.size (fun _ => True) (.slice (some ad204) y201.length co83) y201) := ⟨h2_⟩
                                        have n3_ : Aside0 (Kd.R k23 23 w89 w.heap.size (fun _ => True) v207 t205) := ⟨h3_⟩
                                        have n4_ : Aside0 (Kd.R (Kd.int .u8) 5 w89 w.heap.size (fun _ => True) v213 y212) := ⟨h4_⟩
                                        have n5_ : Aside0 (Below w.heap.size w w89) := ⟨h5_⟩
                                        clear HO197
                                        clear HL198_0
                                        clear HO203
                                        clear HO208
                                        clear HR198_0
                                        clear HB
                                        clear h0_ h1_ h2_ h3_ h4_ h5_
                                        have HL198_0 := n0_
                                        have HO197 := n1_
                                        have HO203 := n2_
                                        have HO208 := n3_
                                        have HO214 := n4_
                                        have HB := n5_
                                        clear n0_ n1_ n2_ n3_ n4_ n5_
                                        have hHeld := trivial
                                        refine norm_ (a' := ?_) ?_ ?_
                                        rotate_left
                                        · simp only [putAll, Act.put, List.setIfInBounds_toArray, List.set_cons_zero, List.set_cons_succ]
                                          rfl
                                        refine one_ (i := 0) (N := some 59) #[true, false, true, true, false, false, false, false, false, false, false] rfl rfl (one_of HT_.out (by kernel_rfl)) (by decide) (fun K hK => ?_)
                                        refine Kd.R_lit_step (Kd.int .u8) _ 5 ?hg (N := 59) ?hd (xs := ([17] : List Int)) (inner := [.int .u8 17]) (ok := fun _ => True) (okp := fun _ => True) ?hr ?hp (fun _ hk => hk) trivial (Below.refl _ _) (Nat.le_refl _) (by simp) ?_; (case hd => rfl); (case hg => rfl); (case hr => first | (go_simp; done) | (go_simp; rfl)); (case hp => exact (Reps.one (show Kd.M (Kd.int .u8) _ _ _ 17 [.int .u8 17] from rfl) (Reps.none _ _)))
                                        intro v210 w90 ho91 hb hg_ hnew_
                                        clear hg_ hnew_
                                        (first | rw [← Ny209.out] at ho91 | (simp only [Int.reduceToNat] at ho91; rw [← Ny209.out] at ho91))
                                        have n0_ := Aside0.mk (Kd.N_elder' (by (with_reducible repeat (first | apply Kd.N_alloc | apply Kd.N_drewN | apply Kd.N_drew)); exact HO197.out) (Kd.R_base ho91) hb)
                                        have n1_ := Aside0.mk (Kd.V_elder' (by (with_reducible repeat (first | apply Kd.V_alloc | apply Kd.V_drewN | apply Kd.V_drew)); exact HL198_0.out) (Kd.R_base ho91) hb)
                                        have n2_ := Aside0.mk (Kd.R_below (by (with_reducible repeat (first | apply Kd.R_alloc | apply Kd.R_drewN | apply Kd.R_drew)); exact HO203.out) hb)
                                        have n3_ := Aside0.mk (Kd.R_below (by (with_reducible repeat (first | apply Kd.R_alloc | apply Kd.R_drewN | apply Kd.R_drew)); exact HO208.out) hb)
                                        have n4_ := Aside0.mk (Kd.R_elder' (by (with_reducible repeat (first | apply Kd.R_alloc | apply Kd.R_drewN | apply Kd.R_drew)); exact HO214.out) (Kd.R_base ho91) hb)
                                        have n5_ := Aside0.mk (Kd.R_lower (Kd.R_new' ho91 (Kd.R_lt (by (with_reducible repeat (first | apply Kd.R_alloc | apply Kd.R_drewN | apply Kd.R_drew)); exact HO214.out))) (below_size (by repeat (first | (with_reducible first | exact HB.out | apply below_alloc | apply pw_below_drewN | apply below_drew1) | exact HB.out))))
                                        have n6_ := Aside0.mk (below_step (by repeat (first | (with_reducible first | exact HB.out | apply below_alloc | apply pw_below_drewN | apply below_drew1) | exact HB.out)) hb)
                                        clear HO197
                                        clear HL198_0
                                        clear HO203
                                        clear HO208
                                        clear HO214
                                        clear HB
                                        have HO197 := n0_
                                        have HL198_0 := n1_
                                        have HO203 := n2_
                                        have HO208 := n3_
                                        have HO214 := n4_
                                        have HO211 := n5_
                                        have HB := n6_
                                        clear n0_ n1_ n2_ n3_ n4_ n5_ n6_
                                        clear hb ho91
                                        refine hK.out _ _ trivial (fun hHeld => ?_)
                                        clear hK K
                                        refine norm_ (a' := ?_) ?_ ?_
                                        rotate_left
                                        · show Act.put _ (some 59) _ = _
                                          simp only [Act.put, List.setIfInBounds_toArray, List.set_cons_zero, List.set_cons_succ, i64_w, i32_w]
                                          rfl
                                        exact norm_ (by first | (simp only [putAll, Act.put, List.setIfInBounds_toArray, List.set_cons_zero, List.set_cons_succ]; done) | (simp only [putAll, Act.put, List.setIfInBounds_toArray, List.set_cons_zero, List.set_cons_succ]; rfl)) (hJ0_2_3 (v210, v213) _ ⟨(by (with_reducible repeat (first | apply Kd.V_alloc | apply Kd.V_drewN | apply Kd.V_drew)); exact Kd.V_mono HL198_0.out (fun _ hk => ⟨hk.1.1, ⟨hk.1.2.1, ⟨hk.1.2.2.1, ⟨hk.2, hk.1.2.2.2⟩⟩⟩⟩)), (by (with_reducible repeat (first | apply Kd.N_alloc | apply Kd.N_drewN | apply Kd.N_drew)); exact Kd.N_mono HO197.out (fun _ hk => ⟨hk.1.1, ⟨hk.1.2.1, ⟨hk.2, hk.1.2.2⟩⟩⟩)), (by (with_reducible repeat (first | apply Kd.R_alloc | apply Kd.R_drewN | apply Kd.R_drew)); exact HO203.out), (by (with_reducible repeat (first | apply Kd.R_alloc | apply Kd.R_drewN | apply Kd.R_drew)); exact HO208.out), (by (with_reducible repeat (first | apply Kd.R_alloc | apply Kd.R_drewN | apply Kd.R_drew)); exact Kd.R_mono HO211.out (fun _ hk => hk.2)), (by (with_reducible repeat (first | apply Kd.R_alloc | apply Kd.R_drewN | apply Kd.R_drew)); exact Kd.R_mono HO214.out (fun _ hk => hk.2)), (by repeat (first | (with_reducible first | exact HB.out | apply below_alloc | apply pw_below_drewN | apply below_drew1) | exact HB.out))⟩)
                                    · skip
                                      rintro ⟨v210, v213⟩ w90 ⟨h0_, h1_, h2_, h3_, h4_, h5_, h6_⟩
                                      have n0_ : Aside0 (Kd.V k23 23 w90 w.heap.size (fun k_ => some k_ ≠ (.slice (some ad198) y195.length co79 : Value).ownBlock ∧ some k_ ≠ (.slice (some ad204) y201.length co83 : Value).ownBlock ∧ some k_ ≠ (v207 : Value).ownBlock ∧ some k_ ≠ (v210 : Value).ownBlock ∧ some k_ ≠ (v213 : Value).ownBlock) (.slice A198_0 (rd_L3 y195 (ji8)).length c198_0) (rd_L3 y195 (ji8))) := ⟨h0_⟩
                                      have n1_ : Aside0 (Kd.N (Kd.slice 23 k23) 37 w90 w.heap.size (fun k_ => some k_ ≠ (.slice (some ad204) y201.length co83 : Value).ownBlock ∧ some k_ ≠ (v207 : Value).ownBlock ∧ some k_ ≠ (v210 : Value).ownBlock ∧ some k_ ≠ (v213 : Value).ownBlock) (.slice (some ad198) y195.length co79) y195) := ⟨h1_⟩
                                      have n2_ : Aside0 (Kd.R Kd.string 9 w90 w.heap.size (fun _ => True) (.slice (some ad204) y201.length co83) y201) := ⟨h2_⟩
                                      have n3_ : Aside0 (Kd.R k23 23 w90 w.heap.size (fun _ => True) v207 t205) := ⟨h3_⟩
                                      have n4_ : Aside0 (Kd.R (Kd.int .u8) 5 w90 w.heap.size (fun k_ => some k_ ≠ (v213 : Value).ownBlock) v210 y209) := ⟨h4_⟩
                                      have n5_ : Aside0 (Kd.R (Kd.int .u8) 5 w90 w.heap.size (fun k_ => some k_ ≠ (v210 : Value).ownBlock) v213 y212) := ⟨h5_⟩
                                      have n6_ : Aside0 (Below w.heap.size w w90) := ⟨h6_⟩
                                      clear HO197
                                      clear HL198_0
                                      clear HO203
                                      clear HO208
                                      clear HR198_0
                                      clear HB
                                      clear h0_ h1_ h2_ h3_ h4_ h5_ h6_
                                      have HL198_0 := n0_
                                      have HO197 := n1_
                                      have HO203 := n2_
                                      have HO208 := n3_
                                      have HO211 := n4_
                                      have HO214 := n5_
                                      have HB := n6_
                                      clear n0_ n1_ n2_ n3_ n4_ n5_ n6_
                                      have hHeld := trivial
                                      refine norm_ (a' := ?_) ?_ ?_
                                      rotate_left
                                      · simp only [putAll, Act.put, List.setIfInBounds_toArray, List.set_cons_zero, List.set_cons_succ]
                                        rfl
                                      refine two_ (i := 1) (j := 3) (Ni := some 60) (Nj := some 62) #[true, true, true, false, false, false, false, false, false, false, false] #[true, false, true, true, false, false, false, false, false, false, false] rfl rfl rfl rfl (two_of HT_.out (by kernel_rfl)) (by decide) (by decide) (fun K hK => ?_) (fun K hK => ?_)
                                      · skip
                                        have hcv91 := own_string (P := Try.prog) Try.underlying69 Try.underlying5 Try.underlying9 (Kd.own_of_R HO211.out)
                                        refine value_ (w1 := ?_) (v := ?_) (by rfl) rfl ?_ ?_
                                        rotate_left 2
                                        · go_simp
                                          constructor
                                          · rfl
                                          · rfl
                                        clear hcv91
                                        refine hK.out _ _ trivial (fun hHeld => ?_)
                                        clear hK K
                                        refine norm_ (a' := ?_) ?_ ?_
                                        rotate_left
                                        · show Act.put _ (some 60) _ = _
                                          simp only [Act.put, List.setIfInBounds_toArray, List.set_cons_zero, List.set_cons_succ, i64_w, i32_w]
                                          rfl
                                        exact norm_ (by first | (simp only [putAll, Act.put, List.setIfInBounds_toArray, List.set_cons_zero, List.set_cons_succ]; done) | (simp only [putAll, Act.put, List.setIfInBounds_toArray, List.set_cons_zero, List.set_cons_succ]; rfl)) (hJ0_1_2 (v210, v213) _ ⟨(by (with_reducible repeat (first | apply Kd.V_alloc | apply Kd.V_drewN | apply Kd.V_drew)); exact HL198_0.out), (by (with_reducible repeat (first | apply Kd.N_alloc | apply Kd.N_drewN | apply Kd.N_drew)); exact HO197.out), (by (with_reducible repeat (first | apply Kd.R_alloc | apply Kd.R_drewN | apply Kd.R_drew)); exact HO203.out), (by (with_reducible repeat (first | apply Kd.R_alloc | apply Kd.R_drewN | apply Kd.R_drew)); exact HO208.out), (by (with_reducible repeat (first | apply Kd.R_alloc | apply Kd.R_drewN | apply Kd.R_drew)); exact HO211.out), (by (with_reducible repeat (first | apply Kd.R_alloc | apply Kd.R_drewN | apply Kd.R_drew)); exact HO214.out), (by repeat (first | (with_reducible first | exact HB.out | apply below_alloc | apply pw_below_drewN | apply below_drew1) | exact HB.out))⟩)
                                      · skip
                                        have hcv91 := own_string (P := Try.prog) Try.underlying69 Try.underlying5 Try.underlying9 (Kd.own_of_R HO214.out)
                                        refine value_ (w1 := ?_) (v := ?_) (by rfl) rfl ?_ ?_
                                        rotate_left 2
                                        · go_simp
                                          constructor
                                          · rfl
                                          · rfl
                                        clear hcv91
                                        refine hK.out _ _ trivial (fun hHeld => ?_)
                                        clear hK K
                                        refine norm_ (a' := ?_) ?_ ?_
                                        rotate_left
                                        · show Act.put _ (some 62) _ = _
                                          simp only [Act.put, List.setIfInBounds_toArray, List.set_cons_zero, List.set_cons_succ, i64_w, i32_w]
                                          rfl
                                        exact norm_ (by first | (simp only [putAll, Act.put, List.setIfInBounds_toArray, List.set_cons_zero, List.set_cons_succ]; done) | (simp only [putAll, Act.put, List.setIfInBounds_toArray, List.set_cons_zero, List.set_cons_succ]; rfl)) (hJ0_2_3 (v210, v213) _ ⟨(by (with_reducible repeat (first | apply Kd.V_alloc | apply Kd.V_drewN | apply Kd.V_drew)); exact HL198_0.out), (by (with_reducible repeat (first | apply Kd.N_alloc | apply Kd.N_drewN | apply Kd.N_drew)); exact HO197.out), (by (with_reducible repeat (first | apply Kd.R_alloc | apply Kd.R_drewN | apply Kd.R_drew)); exact HO203.out), (by (with_reducible repeat (first | apply Kd.R_alloc | apply Kd.R_drewN | apply Kd.R_drew)); exact HO208.out), (by (with_reducible repeat (first | apply Kd.R_alloc | apply Kd.R_drewN | apply Kd.R_drew)); exact HO211.out), (by (with_reducible repeat (first | apply Kd.R_alloc | apply Kd.R_drewN | apply Kd.R_drew)); exact HO214.out), (by repeat (first | (with_reducible first | exact HB.out | apply below_alloc | apply pw_below_drewN | apply below_drew1) | exact HB.out))⟩)
                                  · skip
                                    rintro v210 w89 ⟨h0_, h1_, h2_, h3_, h4_, h5_⟩
                                    have n0_ : Aside0 (Kd.V k23 23 w89 w.heap.size (fun k_ => some k_ ≠ (.slice (some ad198) y195.length co79 : Value).ownBlock ∧ some k_ ≠ (.slice (some ad204) y201.length co83 : Value).ownBlock ∧ some k_ ≠ (v207 : Value).ownBlock ∧ some k_ ≠ (v210 : Value).ownBlock) (.slice A198_0 (rd_L3 y195 (ji8)).length c198_0) (rd_L3 y195 (ji8))) := ⟨h0_⟩
                                    have n1_ : Aside0 (Kd.N (Kd.slice 23 k23) 37 w89 w.heap.size (fun k_ => some k_ ≠ (.slice (some ad204) y201.length co83 : Value).ownBlock ∧ some k_ ≠ (v207 : Value).ownBlock ∧ some k_ ≠ (v210 : Value).ownBlock) (.slice (some ad198) y195.length co79) y195) := ⟨h1_⟩
                                    have n2_ : Aside0 (Kd.R Kd.string 9 w89 w.heap.size (fun _ => True) (.slice (some ad204) y201.length co83) y201) := ⟨h2_⟩
                                    have n3_ : Aside0 (Kd.R k23 23 w89 w.heap.size (fun _ => True) v207 t205) := ⟨h3_⟩
                                    have n4_ : Aside0 (Kd.R (Kd.int .u8) 5 w89 w.heap.size (fun _ => True) v210 y209) := ⟨h4_⟩
                                    have n5_ : Aside0 (Below w.heap.size w w89) := ⟨h5_⟩
                                    clear HO197
                                    clear HL198_0
                                    clear HO203
                                    clear HO208
                                    clear HR198_0
                                    clear HB
                                    clear h0_ h1_ h2_ h3_ h4_ h5_
                                    have HL198_0 := n0_
                                    have HO197 := n1_
                                    have HO203 := n2_
                                    have HO208 := n3_
                                    have HO211 := n4_
                                    have HB := n5_
                                    clear n0_ n1_ n2_ n3_ n4_ n5_
                                    have hHeld := trivial
                                    refine norm_ (a' := ?_) ?_ ?_
                                    rotate_left
                                    · simp only [putAll, Act.put, List.setIfInBounds_toArray, List.set_cons_zero, List.set_cons_succ]
                                      rfl
                                    refine one_ (i := 2) (N := some 61) #[true, true, true, false, false, false, false, false, false, false, false] rfl rfl (one_of HT_.out (by kernel_rfl)) (by decide) (fun K hK => ?_)
                                    refine Kd.R_make_step (Kd.int .u8) _ 5 (by rfl) (N := 61) rfl 69 _ _ rfl 68 rfl rfl Try.underlying69 (.int .u8 0) 1 info5 rfl (by decide) (by omega) 0 (ok := fun _ => True) (okp := fun _ => True) rfl (fun _ hk => hk) trivial (by omega) (by omega) (Below.refl _ _) (Nat.le_refl _) ?_
                                    intro v213 w90 ho91 hb hg_ hnew_
                                    clear hg_ hnew_
                                    (first | rw [← Ny212.out] at ho91 | (simp only [Int.reduceToNat] at ho91; rw [← Ny212.out] at ho91))
                                    have n0_ := Aside0.mk (Kd.N_elder' (by (with_reducible repeat (first | apply Kd.N_alloc | apply Kd.N_drewN | apply Kd.N_drew)); exact HO197.out) (Kd.R_base ho91) hb)
                                    have n1_ := Aside0.mk (Kd.V_elder' (by (with_reducible repeat (first | apply Kd.V_alloc | apply Kd.V_drewN | apply Kd.V_drew)); exact HL198_0.out) (Kd.R_base ho91) hb)
                                    have n2_ := Aside0.mk (Kd.R_below (by (with_reducible repeat (first | apply Kd.R_alloc | apply Kd.R_drewN | apply Kd.R_drew)); exact HO203.out) hb)
                                    have n3_ := Aside0.mk (Kd.R_below (by (with_reducible repeat (first | apply Kd.R_alloc | apply Kd.R_drewN | apply Kd.R_drew)); exact HO208.out) hb)
                                    have n4_ := Aside0.mk (Kd.R_elder' (by (with_reducible repeat (first | apply Kd.R_alloc | apply Kd.R_drewN | apply Kd.R_drew)); exact HO211.out) (Kd.R_base ho91) hb)
                                    have n5_ := Aside0.mk (Kd.R_lower (Kd.R_new' ho91 (Kd.R_lt (by (with_reducible repeat (first | apply Kd.R_alloc | apply Kd.R_drewN | apply Kd.R_drew)); exact HO211.out))) (below_size (by repeat (first | (with_reducible first | exact HB.out | apply below_alloc | apply pw_below_drewN | apply below_drew1) | exact HB.out))))
                                    have n6_ := Aside0.mk (below_step (by repeat (first | (with_reducible first | exact HB.out | apply below_alloc | apply pw_below_drewN | apply below_drew1) | exact HB.out)) hb)
                                    clear HO197
                                    clear HL198_0
                                    clear HO203
                                    clear HO208
                                    clear HO211
                                    clear HB
                                    have HO197 := n0_
                                    have HL198_0 := n1_
                                    have HO203 := n2_
                                    have HO208 := n3_
                                    have HO211 := n4_
                                    have HO214 := n5_
                                    have HB := n6_
                                    clear n0_ n1_ n2_ n3_ n4_ n5_ n6_
                                    clear hb ho91
                                    refine hK.out _ _ trivial (fun hHeld => ?_)
                                    clear hK K
                                    refine norm_ (a' := ?_) ?_ ?_
                                    rotate_left
                                    · show Act.put _ (some 61) _ = _
                                      simp only [Act.put, List.setIfInBounds_toArray, List.set_cons_zero, List.set_cons_succ, i64_w, i32_w]
                                      rfl
                                    exact norm_ (by first | (simp only [putAll, Act.put, List.setIfInBounds_toArray, List.set_cons_zero, List.set_cons_succ]; done) | (simp only [putAll, Act.put, List.setIfInBounds_toArray, List.set_cons_zero, List.set_cons_succ]; rfl)) (hJ0_1_2 (v210, v213) _ ⟨(by (with_reducible repeat (first | apply Kd.V_alloc | apply Kd.V_drewN | apply Kd.V_drew)); exact Kd.V_mono HL198_0.out (fun _ hk => ⟨hk.1.1, ⟨hk.1.2.1, ⟨hk.1.2.2.1, ⟨hk.1.2.2.2, hk.2⟩⟩⟩⟩)), (by (with_reducible repeat (first | apply Kd.N_alloc | apply Kd.N_drewN | apply Kd.N_drew)); exact Kd.N_mono HO197.out (fun _ hk => ⟨hk.1.1, ⟨hk.1.2.1, ⟨hk.1.2.2, hk.2⟩⟩⟩)), (by (with_reducible repeat (first | apply Kd.R_alloc | apply Kd.R_drewN | apply Kd.R_drew)); exact HO203.out), (by (with_reducible repeat (first | apply Kd.R_alloc | apply Kd.R_drewN | apply Kd.R_drew)); exact HO208.out), (by (with_reducible repeat (first | apply Kd.R_alloc | apply Kd.R_drewN | apply Kd.R_drew)); exact Kd.R_mono HO211.out (fun _ hk => hk.2)), (by (with_reducible repeat (first | apply Kd.R_alloc | apply Kd.R_drewN | apply Kd.R_drew)); exact Kd.R_mono HO214.out (fun _ hk => hk.2)), (by repeat (first | (with_reducible first | exact HB.out | apply below_alloc | apply pw_below_drewN | apply below_drew1) | exact HB.out))⟩)
                                · skip
                                  rintro ⟨v210, v213⟩ w91 ⟨h0_, h1_, h2_, h3_, h4_, h5_, h6_⟩
                                  have n0_ : Aside0 (Kd.V k23 23 w91 w.heap.size (fun k_ => some k_ ≠ (.slice (some ad198) y195.length co79 : Value).ownBlock ∧ some k_ ≠ (.slice (some ad204) y201.length co83 : Value).ownBlock ∧ some k_ ≠ (v207 : Value).ownBlock ∧ some k_ ≠ (v210 : Value).ownBlock ∧ some k_ ≠ (v213 : Value).ownBlock) (.slice A198_0 (rd_L3 y195 (ji8)).length c198_0) (rd_L3 y195 (ji8))) := ⟨h0_⟩
                                  have n1_ : Aside0 (Kd.N (Kd.slice 23 k23) 37 w91 w.heap.size (fun k_ => some k_ ≠ (.slice (some ad204) y201.length co83 : Value).ownBlock ∧ some k_ ≠ (v207 : Value).ownBlock ∧ some k_ ≠ (v210 : Value).ownBlock ∧ some k_ ≠ (v213 : Value).ownBlock) (.slice (some ad198) y195.length co79) y195) := ⟨h1_⟩
                                  have n2_ : Aside0 (Kd.R Kd.string 9 w91 w.heap.size (fun _ => True) (.slice (some ad204) y201.length co83) y201) := ⟨h2_⟩
                                  have n3_ : Aside0 (Kd.R k23 23 w91 w.heap.size (fun _ => True) v207 t205) := ⟨h3_⟩
                                  have n4_ : Aside0 (Kd.R (Kd.int .u8) 5 w91 w.heap.size (fun k_ => some k_ ≠ (v213 : Value).ownBlock) v210 y209) := ⟨h4_⟩
                                  have n5_ : Aside0 (Kd.R (Kd.int .u8) 5 w91 w.heap.size (fun k_ => some k_ ≠ (v210 : Value).ownBlock) v213 y212) := ⟨h5_⟩
                                  have n6_ : Aside0 (Below w.heap.size w w91) := ⟨h6_⟩
                                  clear HO197
                                  clear HL198_0
                                  clear HO203
                                  clear HO208
                                  clear HR198_0
                                  clear HB
                                  clear h0_ h1_ h2_ h3_ h4_ h5_ h6_
                                  have HL198_0 := n0_
                                  have HO197 := n1_
                                  have HO203 := n2_
                                  have HO208 := n3_
                                  have HO211 := n4_
                                  have HO214 := n5_
                                  have HB := n6_
                                  clear n0_ n1_ n2_ n3_ n4_ n5_ n6_
                                  have hHeld := trivial
                                  refine norm_ (a' := ?_) ?_ ?_
                                  rotate_left
                                  · simp only [putAll, Act.put, List.setIfInBounds_toArray, List.set_cons_zero, List.set_cons_succ]
                                    rfl
                                  refine one_ (i := 1) (N := some 60) #[true, true, true, true, false, false, false, false, false, false, false] rfl rfl (one_of HT_.out (by kernel_rfl)) (by decide) (fun K hK => ?_)
                                  have hcv92 := own_string (P := Try.prog) Try.underlying69 Try.underlying5 Try.underlying9 (Kd.own_of_R HO211.out)
                                  refine value_ (w1 := ?_) (v := ?_) (by rfl) rfl ?_ ?_
                                  rotate_left 2
                                  · go_simp
                                    constructor
                                    · rfl
                                    · rfl
                                  clear hcv92
                                  refine hK.out _ _ trivial (fun hHeld => ?_)
                                  clear hK K
                                  refine norm_ (a' := ?_) ?_ ?_
                                  rotate_left
                                  · show Act.put _ (some 60) _ = _
                                    simp only [Act.put, List.setIfInBounds_toArray, List.set_cons_zero, List.set_cons_succ, i64_w, i32_w]
                                    rfl
                                  exact norm_ (by first | (simp only [putAll, Act.put, List.setIfInBounds_toArray, List.set_cons_zero, List.set_cons_succ]; done) | (simp only [putAll, Act.put, List.setIfInBounds_toArray, List.set_cons_zero, List.set_cons_succ]; rfl)) (hJ0_1_2_3 (v210, v213) _ ⟨(by (with_reducible repeat (first | apply Kd.V_alloc | apply Kd.V_drewN | apply Kd.V_drew)); exact HL198_0.out), (by (with_reducible repeat (first | apply Kd.N_alloc | apply Kd.N_drewN | apply Kd.N_drew)); exact HO197.out), (by (with_reducible repeat (first | apply Kd.R_alloc | apply Kd.R_drewN | apply Kd.R_drew)); exact HO203.out), (by (with_reducible repeat (first | apply Kd.R_alloc | apply Kd.R_drewN | apply Kd.R_drew)); exact HO208.out), (by (with_reducible repeat (first | apply Kd.R_alloc | apply Kd.R_drewN | apply Kd.R_drew)); exact HO211.out), (by (with_reducible repeat (first | apply Kd.R_alloc | apply Kd.R_drewN | apply Kd.R_drew)); exact HO214.out), (by repeat (first | (with_reducible first | exact HB.out | apply below_alloc | apply pw_below_drewN | apply below_drew1) | exact HB.out))⟩)
                              · skip
                                rintro ⟨v210, v213⟩ w91 ⟨h0_, h1_, h2_, h3_, h4_, h5_, h6_⟩
                                have n0_ : Aside0 (Kd.V k23 23 w91 w.heap.size (fun k_ => some k_ ≠ (.slice (some ad198) y195.length co79 : Value).ownBlock ∧ some k_ ≠ (.slice (some ad204) y201.length co83 : Value).ownBlock ∧ some k_ ≠ (v207 : Value).ownBlock ∧ some k_ ≠ (v210 : Value).ownBlock ∧ some k_ ≠ (v213 : Value).ownBlock) (.slice A198_0 (rd_L3 y195 (ji8)).length c198_0) (rd_L3 y195 (ji8))) := ⟨h0_⟩
                                have n1_ : Aside0 (Kd.N (Kd.slice 23 k23) 37 w91 w.heap.size (fun k_ => some k_ ≠ (.slice (some ad204) y201.length co83 : Value).ownBlock ∧ some k_ ≠ (v207 : Value).ownBlock ∧ some k_ ≠ (v210 : Value).ownBlock ∧ some k_ ≠ (v213 : Value).ownBlock) (.slice (some ad198) y195.length co79) y195) := ⟨h1_⟩
                                have n2_ : Aside0 (Kd.R Kd.string 9 w91 w.heap.size (fun _ => True) (.slice (some ad204) y201.length co83) y201) := ⟨h2_⟩
                                have n3_ : Aside0 (Kd.R k23 23 w91 w.heap.size (fun _ => True) v207 t205) := ⟨h3_⟩
                                have n4_ : Aside0 (Kd.R (Kd.int .u8) 5 w91 w.heap.size (fun k_ => some k_ ≠ (v213 : Value).ownBlock) v210 y209) := ⟨h4_⟩
                                have n5_ : Aside0 (Kd.R (Kd.int .u8) 5 w91 w.heap.size (fun k_ => some k_ ≠ (v210 : Value).ownBlock) v213 y212) := ⟨h5_⟩
                                have n6_ : Aside0 (Below w.heap.size w w91) := ⟨h6_⟩
                                clear HO197
                                clear HL198_0
                                clear HO203
                                clear HO208
                                clear HR198_0
                                clear HB
                                clear h0_ h1_ h2_ h3_ h4_ h5_ h6_
                                have HL198_0 := n0_
                                have HO197 := n1_
                                have HO203 := n2_
                                have HO208 := n3_
                                have HO211 := n4_
                                have HO214 := n5_
                                have HB := n6_
                                clear n0_ n1_ n2_ n3_ n4_ n5_ n6_
                                have hHeld := trivial
                                refine norm_ (a' := ?_) ?_ ?_
                                rotate_left
                                · simp only [putAll, Act.put, List.setIfInBounds_toArray, List.set_cons_zero, List.set_cons_succ]
                                  rfl
                                refine one_ (i := 3) (N := some 62) #[true, true, true, true, false, false, false, false, false, false, false] rfl rfl (one_of HT_.out (by kernel_rfl)) (by decide) (fun K hK => ?_)
                                have hcv92 := own_string (P := Try.prog) Try.underlying69 Try.underlying5 Try.underlying9 (Kd.own_of_R HO214.out)
                                refine value_ (w1 := ?_) (v := ?_) (by rfl) rfl ?_ ?_
                                rotate_left 2
                                · go_simp
                                  constructor
                                  · rfl
                                  · rfl
                                clear hcv92
                                refine hK.out _ _ trivial (fun hHeld => ?_)
                                clear hK K
                                refine norm_ (a' := ?_) ?_ ?_
                                rotate_left
                                · show Act.put _ (some 62) _ = _
                                  simp only [Act.put, List.setIfInBounds_toArray, List.set_cons_zero, List.set_cons_succ, i64_w, i32_w]
                                  rfl
                                exact norm_ (by first | (simp only [putAll, Act.put, List.setIfInBounds_toArray, List.set_cons_zero, List.set_cons_succ]; done) | (simp only [putAll, Act.put, List.setIfInBounds_toArray, List.set_cons_zero, List.set_cons_succ]; rfl)) (hJ0_1_2_3 (v210, v213) _ ⟨(by (with_reducible repeat (first | apply Kd.V_alloc | apply Kd.V_drewN | apply Kd.V_drew)); exact HL198_0.out), (by (with_reducible repeat (first | apply Kd.N_alloc | apply Kd.N_drewN | apply Kd.N_drew)); exact HO197.out), (by (with_reducible repeat (first | apply Kd.R_alloc | apply Kd.R_drewN | apply Kd.R_drew)); exact HO203.out), (by (with_reducible repeat (first | apply Kd.R_alloc | apply Kd.R_drewN | apply Kd.R_drew)); exact HO208.out), (by (with_reducible repeat (first | apply Kd.R_alloc | apply Kd.R_drewN | apply Kd.R_drew)); exact HO211.out), (by (with_reducible repeat (first | apply Kd.R_alloc | apply Kd.R_drewN | apply Kd.R_drew)); exact HO214.out), (by repeat (first | (with_reducible first | exact HB.out | apply below_alloc | apply pw_below_drewN | apply below_drew1) | exact HB.out))⟩)
                            rintro ⟨v210, v213⟩ w92 ⟨h0_, h1_, h2_, h3_, h4_, h5_, h6_⟩
                            have n0_ : Aside0 (Kd.V k23 23 w92 w.heap.size (fun k_ => some k_ ≠ (.slice (some ad198) y195.length co79 : Value).ownBlock ∧ some k_ ≠ (.slice (some ad204) y201.length co83 : Value).ownBlock ∧ some k_ ≠ (v207 : Value).ownBlock ∧ some k_ ≠ (v210 : Value).ownBlock ∧ some k_ ≠ (v213 : Value).ownBlock) (.slice A198_0 (rd_L3 y195 (ji8)).length c198_0) (rd_L3 y195 (ji8))) := ⟨h0_⟩
                            have n1_ : Aside0 (Kd.N (Kd.slice 23 k23) 37 w92 w.heap.size (fun k_ => some k_ ≠ (.slice (some ad204) y201.length co83 : Value).ownBlock ∧ some k_ ≠ (v207 : Value).ownBlock ∧ some k_ ≠ (v210 : Value).ownBlock ∧ some k_ ≠ (v213 : Value).ownBlock) (.slice (some ad198) y195.length co79) y195) := ⟨h1_⟩
                            have n2_ : Aside0 (Kd.R Kd.string 9 w92 w.heap.size (fun _ => True) (.slice (some ad204) y201.length co83) y201) := ⟨h2_⟩
                            have n3_ : Aside0 (Kd.R k23 23 w92 w.heap.size (fun _ => True) v207 t205) := ⟨h3_⟩
                            have n4_ : Aside0 (Kd.R (Kd.int .u8) 5 w92 w.heap.size (fun k_ => some k_ ≠ (v213 : Value).ownBlock) v210 y209) := ⟨h4_⟩
                            have n5_ : Aside0 (Kd.R (Kd.int .u8) 5 w92 w.heap.size (fun k_ => some k_ ≠ (v210 : Value).ownBlock) v213 y212) := ⟨h5_⟩
                            have n6_ : Aside0 (Below w.heap.size w w92) := ⟨h6_⟩
                            clear HO197
                            clear HL198_0
                            clear HO203
                            clear HO208
                            clear HR198_0
                            clear HB
                            clear h0_ h1_ h2_ h3_ h4_ h5_ h6_
                            have HL198_0 := n0_
                            have HO197 := n1_
                            have HO203 := n2_
                            have HO208 := n3_
                            have HO211 := n4_
                            have HO214 := n5_
                            have HB := n6_
                            clear n0_ n1_ n2_ n3_ n4_ n5_ n6_
                            have hHeld := trivial
                            refine norm_ (a' := ?_) ?_ ?_
                            rotate_left
                            · simp only [putAll, Act.put, List.setIfInBounds_toArray, List.set_cons_zero, List.set_cons_succ]
                              rfl
                            refine pure_ (i := 4) (N := some 63) (v := ?_) (a' := ?_) #[true, true, true, true, true, false, false, false, false, false, false] rfl rfl (any_of HT_.out (by kernel_rfl)) (fun _ _ _ h => h) (Or.inl ⟨by rfl, ?_⟩) ?_ ?_
                            rotate_left
                            · intro w'
                              go_simp
                              with_reducible rfl
                            rotate_left
                            · simp only [Act.put, List.setIfInBounds_toArray, List.set_cons_zero, List.set_cons_succ, i64_w, i32_w]
                              rfl
                            refine one_ (i := 5) (N := some 64) #[true, true, true, true, true, true, false, false, false, false, false] rfl rfl (one_of HT_.out (by kernel_rfl)) (by decide) (fun K hK => ?_)
                            refine goes_ Try.func35 (by kernel_rfl) rfl #[.string ((strOfNums y209) ++ (strOfNums y212))] (by rfl) rfl rfl (by (try simp only [List.map_toArray, List.map_cons, List.map_nil]); first | done | rfl | (simp only [List.length_drop, List.length_take]; rfl)) ?_
                            with_reducible refine (prog_Get.calls k ((strOfNums y209) ++ (strOfNums y212)) t215 t216 _ A18.out).mono ?_
                            rintro e w93 ⟨v217, rfl, ho0, hb⟩
                            refine ⟨_, rfl, ?_⟩
                            have n0_ := Aside0.mk (Kd.N_elder' (by (with_reducible repeat (first | apply Kd.N_alloc | apply Kd.N_drewN | apply Kd.N_drew)); exact HO197.out) (Kd.R_base ho0) hb)
                            have n1_ := Aside0.mk (Kd.V_elder' (by (with_reducible repeat (first | apply Kd.V_alloc | apply Kd.V_drewN | apply Kd.V_drew)); exact HL198_0.out) (Kd.R_base ho0) hb)
                            have n2_ := Aside0.mk (Kd.R_below (by (with_reducible repeat (first | apply Kd.R_alloc | apply Kd.R_drewN | apply Kd.R_drew)); exact HO203.out) hb)
                            have n3_ := Aside0.mk (Kd.R_elder' (by (with_reducible repeat (first | apply Kd.R_alloc | apply Kd.R_drewN | apply Kd.R_drew)); exact HO208.out) (Kd.R_base ho0) hb)
                            have n4_ := Aside0.mk (Kd.R_below (by (with_reducible repeat (first | apply Kd.R_alloc | apply Kd.R_drewN | apply Kd.R_drew)); exact HO211.out) hb)
                            have n5_ := Aside0.mk (Kd.R_below (by (with_reducible repeat (first | apply Kd.R_alloc | apply Kd.R_drewN | apply Kd.R_drew)); exact HO214.out) hb)
                            have n6_ := Aside0.mk (Kd.R_lower (Kd.R_new' ho0 (Kd.R_lt (by (with_reducible repeat (first | apply Kd.R_alloc | apply Kd.R_drewN | apply Kd.R_drew)); exact HO208.out))) (below_size (by repeat (first | (with_reducible first | exact HB.out | apply below_alloc | apply pw_below_drewN | apply below_drew1) | exact HB.out))))
                            have n7_ := Aside0.mk (below_step (by repeat (first | (with_reducible first | exact HB.out | apply below_alloc | apply pw_below_drewN | apply below_drew1) | exact HB.out)) hb)
                            clear HO197
                            clear HL198_0
                            clear HO203
                            clear HO208
                            clear HO211
                            clear HO214
                            clear HB
                            have HO197 := n0_
                            have HL198_0 := n1_
                            have HO203 := n2_
                            have HO208 := n3_
                            have HO211 := n4_
                            have HO214 := n5_
                            have HO218 := n6_
                            have HB := n7_
                            clear n0_ n1_ n2_ n3_ n4_ n5_ n6_ n7_
                            (try clear hb)
                            (try clear hb2)
                            (try clear hk)
                            (try clear hi)
                            (try clear ho0)
                            refine hK.out _ _ trivial (fun hHeld => ?_)
                            clear hK K
                            refine norm_ (a' := ?_) ?_ ?_
                            rotate_left
                            · show Act.put _ (some 64) _ = _
                              simp only [Act.put, List.setIfInBounds_toArray, List.set_cons_zero, List.set_cons_succ, i64_w, i32_w]
                              rfl
                            refine pure_ (i := 6) (N := some 58) (v := ?_) (a' := ?_) #[true, true, true, true, true, true, true, false, false, false, false] rfl rfl (any_of HT_.out (by kernel_rfl)) (fun _ _ _ h => h) (Or.inl ⟨by rfl, ?_⟩) ?_ ?_
                            rotate_left
                            · intro w'
                              go_simp
                              with_reducible rfl
                            rotate_left
                            · simp only [Act.put, List.setIfInBounds_toArray, List.set_cons_zero, List.set_cons_succ, i64_w, i32_w]
                              rfl
                            refine pure_ (i := 7) (N := some 65) (v := ?_) (a' := ?_) #[true, true, true, true, true, true, true, true, false, false, false] rfl rfl (any_of HT_.out (by kernel_rfl)) (fun _ _ _ h => h) (Or.inl ⟨by rfl, ?_⟩) ?_ ?_
                            rotate_left
                            · intro w'
                              go_simp
                              with_reducible rfl
                            rotate_left
                            · simp only [Act.put, List.setIfInBounds_toArray, List.set_cons_zero, List.set_cons_succ, i64_w, i32_w]
                              rfl
                            refine pure_ (i := 8) (N := some 66) (v := ?_) (a' := ?_) #[true, true, true, true, true, true, true, true, true, false, false] rfl rfl (any_of HT_.out (by kernel_rfl)) (fun _ _ _ h => h) (Or.inl ⟨by rfl, ?_⟩) ?_ ?_
                            rotate_left
                            · intro w'
                              go_simp
                              with_reducible rfl
                            rotate_left
                            · simp only [Act.put, List.setIfInBounds_toArray, List.set_cons_zero, List.set_cons_succ, i64_w, i32_w]
                              rfl
                            refine pure_ (i := 9) (N := some 13) (v := ?_) (a' := ?_) #[true, true, true, true, true, true, true, true, true, true, false] rfl rfl (any_of HT_.out (by kernel_rfl)) (fun _ _ _ h => h) (Or.inl ⟨by rfl, ?_⟩) ?_ ?_
                            rotate_left
                            · intro w'
                              go_simp
                              with_reducible rfl
                            rotate_left
                            · simp only [Act.put, List.setIfInBounds_toArray, List.set_cons_zero, List.set_cons_succ, i64_w, i32_w]
                              rfl
                            refine pure_ (i := 10) (N := some 14) (v := ?_) (a' := ?_) #[true, true, true, true, true, true, true, true, true, true, true] rfl rfl (any_of HT_.out (by kernel_rfl)) (fun _ _ _ h => h) (Or.inl ⟨by rfl, ?_⟩) ?_ ?_
                            rotate_left
                            · intro w'
                              go_simp
                              with_reducible rfl
                            rotate_left
                            · simp only [Act.put, List.setIfInBounds_toArray, List.set_cons_zero, List.set_cons_succ, i64_w, i32_w]
                              rfl
                            refine done_ (done_of HT_.out (by kernel_rfl)) ?_
                            try go_wp2_with (first | ((with_reducible refine gate_callee (f := 38) rfl ?_); refine goesL_ (some 68) rfl rfl Try.func38 (by kernel_rfl) rfl #[.slice A198_0 (rd_L3 y195 (ji8)).length c198_0] rfl (by (try simp only [List.map_toArray, List.map_cons, List.map_nil]); first | done | (simp only [hji8]; rfl) | rfl | (simp only [List.length_drop, List.length_take]; rfl)) ?_; (with_reducible refine (prog_May.calls k _ _ (rd_L3 y195 (ji8)) false _ ?side1 ?side2 A19.out).mono ?_); (case side1 => repeat (first | exact ((Kd.V_reads' (by (with_reducible repeat (first | apply Kd.V_alloc | apply Kd.V_drewN | apply Kd.V_drew)); exact HL198_0.out)).2.2) | (with_reducible refine Kd.C_alloc ?_ _) | (with_reducible refine Kd.C_drewN ?_ _) | (with_reducible refine Kd.C_drew ?_))); (case side2 => exact HC198_0.out); rintro e w94 ⟨rfl, hb⟩; refine ⟨_, rfl, ?_⟩; have n0_ := Aside0.mk (Kd.N_below (by (with_reducible repeat (first | apply Kd.N_alloc | apply Kd.N_drewN | apply Kd.N_drew)); exact HO197.out) hb); have n1_ := Aside0.mk (Kd.V_below (by (with_reducible repeat (first | apply Kd.V_alloc | apply Kd.V_drewN | apply Kd.V_drew)); exact HL198_0.out) hb); have n2_ := Aside0.mk (Kd.R_below (by (with_reducible repeat (first | apply Kd.R_alloc | apply Kd.R_drewN | apply Kd.R_drew)); exact HO203.out) hb); have n3_ := Aside0.mk (Kd.R_below (by (with_reducible repeat (first | apply Kd.R_alloc | apply Kd.R_drewN | apply Kd.R_drew)); exact HO208.out) hb); have n4_ := Aside0.mk (Kd.R_below (by (with_reducible repeat (first | apply Kd.R_alloc | apply Kd.R_drewN | apply Kd.R_drew)); exact HO211.out) hb); have n5_ := Aside0.mk (Kd.R_below (by (with_reducible repeat (first | apply Kd.R_alloc | apply Kd.R_drewN | apply Kd.R_drew)); exact HO214.out) hb); have n6_ := Aside0.mk (Kd.R_below (by (with_reducible repeat (first | apply Kd.R_alloc | apply Kd.R_drewN | apply Kd.R_drew)); exact HO218.out) hb); have n7_ := Aside0.mk (below_step (by repeat (first | (with_reducible first | exact HB.out | apply below_alloc | apply pw_below_drewN | apply below_drew1) | exact HB.out)) hb); clear HO197; clear HL198_0; clear HO203; clear HO208; clear HO211; clear HO214; clear HO218; clear HB; have HO197 := n0_; have HL198_0 := n1_; have HO203 := n2_; have HO208 := n3_; have HO211 := n4_; have HO214 := n5_; have HO218 := n6_; have HB := n7_; clear n0_ n1_ n2_ n3_ n4_ n5_ n6_ n7_; (try clear hb); (try clear hb2); (try clear hk); (try clear hi)) | (go_at_call 20; (with_reducible refine (veillaw0_Num.calls t200 t220 _ A56.out).mono ?_); rintro e w' ⟨rfl, ⟨nd, rfl⟩⟩) | (go_at_call 20; (with_reducible refine (veillaw0_Num.calls t206 t221 _ A58.out).mono ?_); rintro e w' ⟨rfl, ⟨nd, rfl⟩⟩) | (go_at_call 20; (with_reducible refine (veillaw0_Num.calls t216 t222 _ A60.out).mono ?_); rintro e w' ⟨rfl, ⟨nd, rfl⟩⟩))
                            go_ret
                            exact ⟨by first | rfl | (simp [errW_none, errW_some] <;> rfl) | (simp only [← hji5, ← hji8, ← hji12]; first | rfl | (simp [errW_none, errW_some] <;> rfl)) | (simp [*, errW_none, errW_some] <;> rfl), by repeat (first | (with_reducible first | exact HB.out | apply below_alloc | apply pw_below_drewN | apply below_drew1) | exact HB.out)⟩
                          · rw [if_neg c59] at H
                            have c59b0 : (t221 == 800) = false := beq_eq_false_iff_ne.mpr c59
                            have c59b1 : (t221 != 800) = true := bne_iff_ne.mpr c59
                            exact absurd ((Option.some.inj H).trans hr) (by decide)
                        · rw [if_neg c57] at H
                          have c57b0 : (t220 == 800) = false := beq_eq_false_iff_ne.mpr c57
                          have c57b1 : (t220 != 800) = true := bne_iff_ne.mpr c57
                          exact absurd ((Option.some.inj H).trans hr) (by decide)
                      · rw [if_neg c55] at H
                        have c55b0 : (t199.toList == ([] : List UInt8)) = false := beq_eq_false_iff_ne.mpr c55
                        have c55b1 : (t199.toList != ([] : List UInt8)) = true := bne_iff_ne.mpr c55
                        exact absurd ((Option.some.inj H).trans hr) (by decide)
                  · rw [if_neg c17] at H
                    exact absurd H (by simp)
                · rw [if_neg c16] at H
                  exact absurd H (by simp)
              · rw [if_neg c14] at H
                exact absurd H (by simp)
            · rw [if_neg c13] at H
              exact absurd H (by simp)
          · rw [if_neg c10] at H
            exact absurd H (by simp)
        · rw [if_neg c9] at H
          exact absurd H (by simp)
      · rw [if_neg c7] at H
        exact absurd H (by simp)
    · rw [if_neg c6] at H
      exact absurd H (by simp)
  · replace c4 := Bool.eq_false_iff.mpr c4
    subst c4
    have H1 : (some false) = some r := by rw [if_neg (show ¬ (false = true) by decide)] at H; exact H
    clear H
    have H := H1
    clear H1
    exact absurd ((Option.some.inj H).trans hr) (by decide)

/-- THE ONE PURE STATEMENT of veillaw8_ProgForms: yours. -/
def veillaw8_ProgForms.Pure : Prop := ∀ (a0 : Int) (a1 : Int), (Lit.int .i64 a0).wf = true → (Lit.int .i64 a1).wf = true → ∃ k, veillaw8_ProgForms.f k a0 a1 = some true
theorem veillaw8_ProgForms.walk (P : veillaw8_ProgForms.Pure) (a0 : Int) (a1 : Int) (w : World) (w0 : (Lit.int .i64 a0).wf = true) (w1 : (Lit.int .i64 a1).wf = true) :
    Calls Try.prog 13 #[.int .i64 a0, .int .i64 a1] w fun e w' => e = .returned (.bool true) ∧ Below w.heap.size w w' := by
  obtain ⟨k, h⟩ := P a0 a1 w0 w1
  refine (veillaw8_ProgForms.calls k a0 a1 true w h).mono ?_
  rintro e w' ⟨rfl, hd⟩
  exact ⟨rfl, hd⟩

end Go.Proofs.Ytidedfhlocodgaa.PProgForms
