/- What the functions of this text do, told by an interpreter that is proved right (YtdfehiebnempaaaGA to GD). My own work. -/
import Derived.Test.YtdfehiebnempaaaGWsI
namespace Vm
open Go Go.Proofs
set_option linter.unusedSimpArgs false
set_option linter.unusedVariables false
set_option maxRecDepth 100000
/-! ### WritesetLast -/
def gK (an : Int → Int → Int) (pk : List (Nat × Int)) (l : List (FuncId × Spec)) : Hooks := { hkA an bor l [] with pick := fun k => lookN pk k }
theorem gK_ok (pk : List (Nat × Int)) {l : List (FuncId × Spec)} (h : SpecsOK Try.prog l) : CallsOK Try.prog (gK band pk l) := ⟨fun _ _ => rfl, fun _ _ => rfl, ⟨fun _ => rfl, fun _ => rfl, fun _ => rfl⟩, fun f ds Q hq => lookS_ok h f ds Q hq⟩

def stL (R : List (List D)) (sp : List (List D)) (n : Nat) (m : Nat) (i : Int) (W : List (List D)) (g0 : Int) (g1 : Int) (g2 : Int) (g3 : Int) (g4 : Int) (g5 : Int) (g6 : Int) (g7 : Int) (g8 : Int) (g9 : Int) (g10 : Int) (g11 : Int) (g12 : Int) (g13 : Int) (g14 : Int) (g15 : Int) (b0 : Bool) (b1 : Bool) (b2 : Bool) (b3 : Bool) (b4 : Bool) (b5 : Bool) (b6 : Bool) (b7 : Bool) (b8 : Bool) (b9 : Bool) (b10 : Bool) (b11 : Bool) (b12 : Bool) (b13 : Bool) (b14 : Bool) (b15 : Bool) : X := ⟨mkT 97 [(0, aS 1 R sp), (3, .c (.rs 4 0 3 0 n m)), (4, .c (.rp 5 0 16 0 0)), (5, .c (.rp 6 0 16 0 0)), (6, ai i)], [(4, .sl 0 3 W), (5, .bx 0 16 [ci g0, ci g1, ci g2, ci g3, ci g4, ci g5, ci g6, ci g7, ci g8, ci g9, ci g10, ci g11, ci g12, ci g13, ci g14, ci g15]), (6, .bx 0 16 [.d (.v (.bool b0)), .d (.v (.bool b1)), .d (.v (.bool b2)), .d (.v (.bool b3)), .d (.v (.bool b4)), .d (.v (.bool b5)), .d (.v (.bool b6)), .d (.v (.bool b7)), .d (.v (.bool b8)), .d (.v (.bool b9)), .d (.v (.bool b10)), .d (.v (.bool b11)), .d (.v (.bool b12)), .d (.v (.bool b13)), .d (.v (.bool b14)), .d (.v (.bool b15))])], []⟩
def v_stL (R : List (List D)) (sp : List (List D)) : Vw := fun y K => aS' y 3 fun n m => wI y 6 fun i => wL y 4 fun W => wR y 5 fun r => wC r fun c'1 r => cI c'1 fun g0 => wC r fun c'2 r => cI c'2 fun g1 => wC r fun c'3 r => cI c'3 fun g2 => wC r fun c'4 r => cI c'4 fun g3 => wC r fun c'5 r => cI c'5 fun g4 => wC r fun c'6 r => cI c'6 fun g5 => wC r fun c'7 r => cI c'7 fun g6 => wC r fun c'8 r => cI c'8 fun g7 => wC r fun c'9 r => cI c'9 fun g8 => wC r fun c'10 r => cI c'10 fun g9 => wC r fun c'11 r => cI c'11 fun g10 => wC r fun c'12 r => cI c'12 fun g11 => wC r fun c'13 r => cI c'13 fun g12 => wC r fun c'14 r => cI c'14 fun g13 => wC r fun c'15 r => cI c'15 fun g14 => wC r fun c'16 r => cI c'16 fun g15 => wR y 6 fun r => wC r fun c'17 r => cB c'17 fun b0 => wC r fun c'18 r => cB c'18 fun b1 => wC r fun c'19 r => cB c'19 fun b2 => wC r fun c'20 r => cB c'20 fun b3 => wC r fun c'21 r => cB c'21 fun b4 => wC r fun c'22 r => cB c'22 fun b5 => wC r fun c'23 r => cB c'23 fun b6 => wC r fun c'24 r => cB c'24 fun b7 => wC r fun c'25 r => cB c'25 fun b8 => wC r fun c'26 r => cB c'26 fun b9 => wC r fun c'27 r => cB c'27 fun b10 => wC r fun c'28 r => cB c'28 fun b11 => wC r fun c'29 r => cB c'29 fun b12 => wC r fun c'30 r => cB c'30 fun b13 => wC r fun c'31 r => cB c'31 fun b14 => wC r fun c'32 r => cB c'32 fun b15 => K (stL R sp n m i W g0 g1 g2 g3 g4 g5 g6 g7 g8 g9 g10 g11 g12 g13 g14 g15 b0 b1 b2 b3 b4 b5 b6 b7 b8 b9 b10 b11 b12 b13 b14 b15)
theorem v_stL_ok (R : List (List D)) (sp : List (List D)) : VwOK (v_stL R sp) := fun y K h => by
  unfold v_stL at h
  obtain ⟨n, m, h⟩ := aS'_ex h
  obtain ⟨i, h⟩ := wI_ex h
  obtain ⟨W, h⟩ := wL_ex h
  obtain ⟨r, h⟩ := wR_ex h
  obtain ⟨c'1, r, h⟩ := wC_ex h
  obtain ⟨g0, h⟩ := cI_ex h
  obtain ⟨c'2, r, h⟩ := wC_ex h
  obtain ⟨g1, h⟩ := cI_ex h
  obtain ⟨c'3, r, h⟩ := wC_ex h
  obtain ⟨g2, h⟩ := cI_ex h
  obtain ⟨c'4, r, h⟩ := wC_ex h
  obtain ⟨g3, h⟩ := cI_ex h
  obtain ⟨c'5, r, h⟩ := wC_ex h
  obtain ⟨g4, h⟩ := cI_ex h
  obtain ⟨c'6, r, h⟩ := wC_ex h
  obtain ⟨g5, h⟩ := cI_ex h
  obtain ⟨c'7, r, h⟩ := wC_ex h
  obtain ⟨g6, h⟩ := cI_ex h
  obtain ⟨c'8, r, h⟩ := wC_ex h
  obtain ⟨g7, h⟩ := cI_ex h
  obtain ⟨c'9, r, h⟩ := wC_ex h
  obtain ⟨g8, h⟩ := cI_ex h
  obtain ⟨c'10, r, h⟩ := wC_ex h
  obtain ⟨g9, h⟩ := cI_ex h
  obtain ⟨c'11, r, h⟩ := wC_ex h
  obtain ⟨g10, h⟩ := cI_ex h
  obtain ⟨c'12, r, h⟩ := wC_ex h
  obtain ⟨g11, h⟩ := cI_ex h
  obtain ⟨c'13, r, h⟩ := wC_ex h
  obtain ⟨g12, h⟩ := cI_ex h
  obtain ⟨c'14, r, h⟩ := wC_ex h
  obtain ⟨g13, h⟩ := cI_ex h
  obtain ⟨c'15, r, h⟩ := wC_ex h
  obtain ⟨g14, h⟩ := cI_ex h
  obtain ⟨c'16, r, h⟩ := wC_ex h
  obtain ⟨g15, h⟩ := cI_ex h
  obtain ⟨r, h⟩ := wR_ex h
  obtain ⟨c'17, r, h⟩ := wC_ex h
  obtain ⟨b0, h⟩ := cB_ex h
  obtain ⟨c'18, r, h⟩ := wC_ex h
  obtain ⟨b1, h⟩ := cB_ex h
  obtain ⟨c'19, r, h⟩ := wC_ex h
  obtain ⟨b2, h⟩ := cB_ex h
  obtain ⟨c'20, r, h⟩ := wC_ex h
  obtain ⟨b3, h⟩ := cB_ex h
  obtain ⟨c'21, r, h⟩ := wC_ex h
  obtain ⟨b4, h⟩ := cB_ex h
  obtain ⟨c'22, r, h⟩ := wC_ex h
  obtain ⟨b5, h⟩ := cB_ex h
  obtain ⟨c'23, r, h⟩ := wC_ex h
  obtain ⟨b6, h⟩ := cB_ex h
  obtain ⟨c'24, r, h⟩ := wC_ex h
  obtain ⟨b7, h⟩ := cB_ex h
  obtain ⟨c'25, r, h⟩ := wC_ex h
  obtain ⟨b8, h⟩ := cB_ex h
  obtain ⟨c'26, r, h⟩ := wC_ex h
  obtain ⟨b9, h⟩ := cB_ex h
  obtain ⟨c'27, r, h⟩ := wC_ex h
  obtain ⟨b10, h⟩ := cB_ex h
  obtain ⟨c'28, r, h⟩ := wC_ex h
  obtain ⟨b11, h⟩ := cB_ex h
  obtain ⟨c'29, r, h⟩ := wC_ex h
  obtain ⟨b12, h⟩ := cB_ex h
  obtain ⟨c'30, r, h⟩ := wC_ex h
  obtain ⟨b13, h⟩ := cB_ex h
  obtain ⟨c'31, r, h⟩ := wC_ex h
  obtain ⟨b14, h⟩ := cB_ex h
  obtain ⟨c'32, r, h⟩ := wC_ex h
  obtain ⟨b15, h⟩ := cB_ex h
  exact ⟨_, h⟩
def stM  (n : Nat) (m : Nat) (c : Int) (i : Int) (W : List (List D)) (g0 : Int) (g1 : Int) (g2 : Int) (g3 : Int) (g4 : Int) (g5 : Int) (g6 : Int) (g7 : Int) (g8 : Int) (g9 : Int) (g10 : Int) (g11 : Int) (g12 : Int) (g13 : Int) (g14 : Int) (g15 : Int) (b0 : Bool) (b1 : Bool) (b2 : Bool) (b3 : Bool) (b4 : Bool) (b5 : Bool) (b6 : Bool) (b7 : Bool) (b8 : Bool) (b9 : Bool) (b10 : Bool) (b11 : Bool) (b12 : Bool) (b13 : Bool) (b14 : Bool) (b15 : Bool) : X := ⟨mkT 97 [(3, .c (.rs 4 0 3 0 n m)), (4, .c (.rp 5 0 16 0 0)), (5, .c (.rp 6 0 16 0 0)), (11, ai c), (12, ai i)], [(4, .sl 0 3 W), (5, .bx 0 16 [ci g0, ci g1, ci g2, ci g3, ci g4, ci g5, ci g6, ci g7, ci g8, ci g9, ci g10, ci g11, ci g12, ci g13, ci g14, ci g15]), (6, .bx 0 16 [.d (.v (.bool b0)), .d (.v (.bool b1)), .d (.v (.bool b2)), .d (.v (.bool b3)), .d (.v (.bool b4)), .d (.v (.bool b5)), .d (.v (.bool b6)), .d (.v (.bool b7)), .d (.v (.bool b8)), .d (.v (.bool b9)), .d (.v (.bool b10)), .d (.v (.bool b11)), .d (.v (.bool b12)), .d (.v (.bool b13)), .d (.v (.bool b14)), .d (.v (.bool b15))])], []⟩
def v_stM  : Vw := fun y K => aS' y 3 fun n m => wI y 11 fun c => wI y 12 fun i => wL y 4 fun W => wR y 5 fun r => wC r fun c'1 r => cI c'1 fun g0 => wC r fun c'2 r => cI c'2 fun g1 => wC r fun c'3 r => cI c'3 fun g2 => wC r fun c'4 r => cI c'4 fun g3 => wC r fun c'5 r => cI c'5 fun g4 => wC r fun c'6 r => cI c'6 fun g5 => wC r fun c'7 r => cI c'7 fun g6 => wC r fun c'8 r => cI c'8 fun g7 => wC r fun c'9 r => cI c'9 fun g8 => wC r fun c'10 r => cI c'10 fun g9 => wC r fun c'11 r => cI c'11 fun g10 => wC r fun c'12 r => cI c'12 fun g11 => wC r fun c'13 r => cI c'13 fun g12 => wC r fun c'14 r => cI c'14 fun g13 => wC r fun c'15 r => cI c'15 fun g14 => wC r fun c'16 r => cI c'16 fun g15 => wR y 6 fun r => wC r fun c'17 r => cB c'17 fun b0 => wC r fun c'18 r => cB c'18 fun b1 => wC r fun c'19 r => cB c'19 fun b2 => wC r fun c'20 r => cB c'20 fun b3 => wC r fun c'21 r => cB c'21 fun b4 => wC r fun c'22 r => cB c'22 fun b5 => wC r fun c'23 r => cB c'23 fun b6 => wC r fun c'24 r => cB c'24 fun b7 => wC r fun c'25 r => cB c'25 fun b8 => wC r fun c'26 r => cB c'26 fun b9 => wC r fun c'27 r => cB c'27 fun b10 => wC r fun c'28 r => cB c'28 fun b11 => wC r fun c'29 r => cB c'29 fun b12 => wC r fun c'30 r => cB c'30 fun b13 => wC r fun c'31 r => cB c'31 fun b14 => wC r fun c'32 r => cB c'32 fun b15 => K (stM  n m c i W g0 g1 g2 g3 g4 g5 g6 g7 g8 g9 g10 g11 g12 g13 g14 g15 b0 b1 b2 b3 b4 b5 b6 b7 b8 b9 b10 b11 b12 b13 b14 b15)
theorem v_stM_ok  : VwOK (v_stM ) := fun y K h => by
  unfold v_stM at h
  obtain ⟨n, m, h⟩ := aS'_ex h
  obtain ⟨c, h⟩ := wI_ex h
  obtain ⟨i, h⟩ := wI_ex h
  obtain ⟨W, h⟩ := wL_ex h
  obtain ⟨r, h⟩ := wR_ex h
  obtain ⟨c'1, r, h⟩ := wC_ex h
  obtain ⟨g0, h⟩ := cI_ex h
  obtain ⟨c'2, r, h⟩ := wC_ex h
  obtain ⟨g1, h⟩ := cI_ex h
  obtain ⟨c'3, r, h⟩ := wC_ex h
  obtain ⟨g2, h⟩ := cI_ex h
  obtain ⟨c'4, r, h⟩ := wC_ex h
  obtain ⟨g3, h⟩ := cI_ex h
  obtain ⟨c'5, r, h⟩ := wC_ex h
  obtain ⟨g4, h⟩ := cI_ex h
  obtain ⟨c'6, r, h⟩ := wC_ex h
  obtain ⟨g5, h⟩ := cI_ex h
  obtain ⟨c'7, r, h⟩ := wC_ex h
  obtain ⟨g6, h⟩ := cI_ex h
  obtain ⟨c'8, r, h⟩ := wC_ex h
  obtain ⟨g7, h⟩ := cI_ex h
  obtain ⟨c'9, r, h⟩ := wC_ex h
  obtain ⟨g8, h⟩ := cI_ex h
  obtain ⟨c'10, r, h⟩ := wC_ex h
  obtain ⟨g9, h⟩ := cI_ex h
  obtain ⟨c'11, r, h⟩ := wC_ex h
  obtain ⟨g10, h⟩ := cI_ex h
  obtain ⟨c'12, r, h⟩ := wC_ex h
  obtain ⟨g11, h⟩ := cI_ex h
  obtain ⟨c'13, r, h⟩ := wC_ex h
  obtain ⟨g12, h⟩ := cI_ex h
  obtain ⟨c'14, r, h⟩ := wC_ex h
  obtain ⟨g13, h⟩ := cI_ex h
  obtain ⟨c'15, r, h⟩ := wC_ex h
  obtain ⟨g14, h⟩ := cI_ex h
  obtain ⟨c'16, r, h⟩ := wC_ex h
  obtain ⟨g15, h⟩ := cI_ex h
  obtain ⟨r, h⟩ := wR_ex h
  obtain ⟨c'17, r, h⟩ := wC_ex h
  obtain ⟨b0, h⟩ := cB_ex h
  obtain ⟨c'18, r, h⟩ := wC_ex h
  obtain ⟨b1, h⟩ := cB_ex h
  obtain ⟨c'19, r, h⟩ := wC_ex h
  obtain ⟨b2, h⟩ := cB_ex h
  obtain ⟨c'20, r, h⟩ := wC_ex h
  obtain ⟨b3, h⟩ := cB_ex h
  obtain ⟨c'21, r, h⟩ := wC_ex h
  obtain ⟨b4, h⟩ := cB_ex h
  obtain ⟨c'22, r, h⟩ := wC_ex h
  obtain ⟨b5, h⟩ := cB_ex h
  obtain ⟨c'23, r, h⟩ := wC_ex h
  obtain ⟨b6, h⟩ := cB_ex h
  obtain ⟨c'24, r, h⟩ := wC_ex h
  obtain ⟨b7, h⟩ := cB_ex h
  obtain ⟨c'25, r, h⟩ := wC_ex h
  obtain ⟨b8, h⟩ := cB_ex h
  obtain ⟨c'26, r, h⟩ := wC_ex h
  obtain ⟨b9, h⟩ := cB_ex h
  obtain ⟨c'27, r, h⟩ := wC_ex h
  obtain ⟨b10, h⟩ := cB_ex h
  obtain ⟨c'28, r, h⟩ := wC_ex h
  obtain ⟨b11, h⟩ := cB_ex h
  obtain ⟨c'29, r, h⟩ := wC_ex h
  obtain ⟨b12, h⟩ := cB_ex h
  obtain ⟨c'30, r, h⟩ := wC_ex h
  obtain ⟨b13, h⟩ := cB_ex h
  obtain ⟨c'31, r, h⟩ := wC_ex h
  obtain ⟨b14, h⟩ := cB_ex h
  obtain ⟨c'32, r, h⟩ := wC_ex h
  obtain ⟨b15, h⟩ := cB_ex h
  exact ⟨_, h⟩
def cntF (f : Nat → Bool) : Nat → Nat
  | 0 => 0
  | k + 1 => bif f k then cntF f k + 1 else cntF f k
def updB (f : Nat → Bool) (j : Nat) (v : Bool) : Nat → Bool := fun n => match Nat.beq n j with | true => v | false => f n
def updI (f : Nat → Int) (j : Nat) (v : Int) : Nat → Int := fun n => match Nat.beq n j with | true => v | false => f n
theorem updB_same {f : Nat → Bool} {k : Nat} (h : f k = true) : updB f k true = f := by
  funext n
  unfold updB
  cases e : Nat.beq n k with
  | true => have := beq_true e; subst this; exact h.symm
  | false => rfl
theorem cntF_upd {f : Nat → Bool} {k : Nat} (h : f k = false) : ∀ n, cntF (updB f k true) n = bif decide (k < n) then cntF f n + 1 else cntF f n
  | 0 => rfl
  | n + 1 => by
    simp only [cntF]
    rw [cntF_upd h n]
    by_cases e : n = k
    · subst e
      have h1 : updB f n true n = true := by unfold updB; rw [beq_self]
      rw [h1, h]
      simp
    · have h1 : updB f k true n = f n := by unfold updB; rw [beq_ne e]
      rw [h1]
      by_cases h2 : k < n
      · have h3 : k < n + 1 := by omega
        rw [decide_eq_true h2, decide_eq_true h3]
        cases f n <;> rfl
      · have h3 : ¬ k < n + 1 := by omega
        rw [decide_eq_false h2, decide_eq_false h3]
        cases f n <;> rfl
theorem cntF_le (f : Nat → Bool) : ∀ n, cntF f n ≤ n
  | 0 => Nat.le_refl _
  | n + 1 => by have := cntF_le f n; simp only [cntF]; cases f n <;> simp only [cond_true, cond_false] <;> omega
structure InvL (l : List (List Int)) (g : Nat → Int) (f : Nat → Bool) : Prop where
  may : wmay l = true
  wid : wid 3 l
  has : ∀ x ∈ l, f (key x).toNat = true ∧ g (key x).toNat = x.getD 2 0
  all : ∀ k, k < 16 → f k = true → ∃ x, x ∈ l ∧ key x = (k : Int)
  len : l.length = cntF f 16
def rowK (k : Nat) (v : Int) : List Int := [((k / 4 : Nat) : Int), ((k % 4 : Nat) : Int), v]
theorem okw_rowK {k : Nat} (hk : k < 16) {v : Int} (hv : 0 ≤ v ∧ v ≤ 255) : okw (rowK k v) = true := by
  unfold okw lab ix4 val8 rowK
  simp only [List.getD_cons_zero, List.getD_cons_succ]
  rw [upto_spec.2 (by omega), upto_spec.2 (by omega), upto_spec.2 hv]; rfl
theorem key_rowK {k : Nat} (v : Int) : key (rowK k v) = (k : Int) := by
  unfold key rowK
  simp only [List.getD_cons_zero, List.getD_cons_succ]; omega
theorem InvL.step {l : List (List Int)} {g : Nat → Int} {f : Nat → Bool} (h : InvL l g f) {k : Nat} (hk : k < 16) {v : Int} (hv : 0 ≤ v ∧ v ≤ 255) :
    withE l (rowK k v) = 0 ∧ withW l (rowK k v) = putW l (rowK k v) ∧ InvL (putW l (rowK k v)) (updI g k v) (updB f k true) := by
  have ho := okw_rowK hk hv
  have hkey := key_rowK (k := k) v
  have hws := ((wmay_iff l).1 h.may).2
  refine ⟨by unfold withE; rw [h.may, ho]; rfl, by unfold withW; rw [h.may, ho]; rfl, wmay_put h.may ho, putW_wid h.wid rfl, fun x hx => ?_, fun j hj hf => ?_, ?_⟩
  · rcases (mem_put hws).1 hx with rfl | ⟨hx, hne⟩
    · rw [hkey, Int.toNat_natCast]
      unfold updB updI
      rw [beq_self]
      exact ⟨rfl, rfl⟩
    · obtain ⟨h1, h2⟩ := h.has x hx
      have hin := key_in (okWs_mem hws hx)
      rw [hkey] at hne
      have : (key x).toNat ≠ k := by omega
      unfold updB updI
      rw [beq_ne this]
      exact ⟨h1, h2⟩
  · by_cases e : j = k
    · subst e; exact ⟨_, (mem_put hws).2 (.inl rfl), hkey⟩
    · have : f j = true := by unfold updB at hf; rw [beq_ne e] at hf; exact hf
      obtain ⟨x, hx, hxk⟩ := h.all j hj this
      exact ⟨x, (mem_put hws).2 (.inr ⟨hx, by rw [hxk, hkey]; omega⟩), hxk⟩
  · rw [putW_len, hkey]
    cases hf : f k with
    | true =>
      have : hasW l (k : Int) = true := (hasW_iff hws).2 (h.all k hk hf)
      rw [this, updB_same hf, cond_true]; exact h.len
    | false =>
      have : hasW l (k : Int) = false := by
        cases hh : hasW l (k : Int) with
        | false => rfl
        | true =>
          obtain ⟨x, hx, hxk⟩ := (hasW_iff hws).1 hh
          have := (h.has x hx).1
          rw [hxk, Int.toNat_natCast, hf] at this; cases this
      rw [this, cntF_upd hf, decide_eq_true hk, cond_true, cond_false, h.len]
theorem InvL.fd {l : List (List Int)} {g : Nat → Int} {f : Nat → Bool} (h : InvL l g f) {k : Nat} (hk : k < 16) : fdB l ((k / 4 : Nat) : Int) ((k % 4 : Nat) : Int) = f k ∧ (f k = true → fdV l ((k / 4 : Nat) : Int) ((k % 4 : Nat) : Int) = g k) := by
  have hws := ((wmay_iff l).1 h.may).2
  cases hf : f k with
  | true =>
    obtain ⟨x, hx, hxk⟩ := h.all k hk hf
    have hin := (okw_in (okWs_mem hws hx)).1
    unfold inW at hin
    have h2 := hxk
    unfold key at h2
    have e0 : x.getD 0 0 = ((k / 4 : Nat) : Int) := by omega
    have e1 : x.getD 1 0 = ((k % 4 : Nat) : Int) := by omega
    have hfd := fd_of h.may hx
    rw [e0, e1] at hfd
    refine ⟨hfd.1, fun _ => ?_⟩
    rw [hfd.2, ← (h.has x hx).2, hxk, Int.toNat_natCast]
  | false =>
    refine ⟨?_, fun e => by cases e⟩
    unfold fdB
    rw [h.may, cond_true, List.any_eq_false]
    intro x hx ht
    have hkx := isT_key (a := ((k / 4 : Nat) : Int)) (b := ((k % 4 : Nat) : Int)) (by omega) (by omega) (okWs_mem hws hx)
    rw [ht] at hkx
    have hkx : key x = 4 * ((k / 4 : Nat) : Int) + ((k % 4 : Nat) : Int) := of_decide_eq_true hkx.symm
    have e : key x = (k : Int) := by omega
    have := (h.has x hx).1
    rw [e, Int.toNat_natCast, hf] at this; cases this
def sfL (R sp : List (List D)) (l : List (List Int)) (g : Nat → Int) (f : Nat → Bool) (i : Int) : X := stL R sp l.length l.length i (mZ l) (g 0) (g 1) (g 2) (g 3) (g 4) (g 5) (g 6) (g 7) (g 8) (g 9) (g 10) (g 11) (g 12) (g 13) (g 14) (g 15) (f 0) (f 1) (f 2) (f 3) (f 4) (f 5) (f 6) (f 7) (f 8) (f 9) (f 10) (f 11) (f 12) (f 13) (f 14) (f 15)
theorem rL_0 (an : Int → Int → Int) (R sp : List (List D)) (n : Nat) (m : Nat) (i : Int) (W : List (List D)) (g0 : Int) (g1 : Int) (g2 : Int) (g3 : Int) (g4 : Int) (g5 : Int) (g6 : Int) (g7 : Int) (g8 : Int) (g9 : Int) (g10 : Int) (g11 : Int) (g12 : Int) (g13 : Int) (g14 : Int) (g15 : Int) (b0 : Bool) (b1 : Bool) (b2 : Bool) (b3 : Bool) (b4 : Bool) (b5 : Bool) (b6 : Bool) (b7 : Bool) (b8 : Bool) (b9 : Bool) (b10 : Bool) (b11 : Bool) (b12 : Bool) (b13 : Bool) (b14 : Bool) (b15 : Bool) (N : X → Prop) (E : Exit → X → Prop) : (roundV Try.prog (gK an [(32, 0), (44, 0)] [(46, sWth), (27, sI)]) Try.f15 0 [(4, 47000)] [0, 3, 4, 5, 6] [4, 5, 6] (v_stL R sp) (fun _ => v_stL R sp) N E (stL R sp n m i W g0 g1 g2 g3 g4 g5 g6 g7 g8 g9 g10 g11 g12 g13 g14 g15 b0 b1 b2 b3 b4 b5 b6 b7 b8 b9 b10 b11 b12 b13 b14 b15)) = (bif decide (i < @Nat.cast Int _ (List.length R)) then bif decide (i < 40) then bif decide (0 ≤ i) && decide (i < @Nat.cast Int _ (List.length R)) then bif isJ [IntKind.i64] (List.drop (0) (List.getD R (Int.toNat i) [])) then an (hdJ (List.drop (0) (List.getD R (Int.toNat i) []))) (15) = 0 ∧ bif decide (0 ≤ i) && decide (i < @Nat.cast Int _ (List.length R)) then bif isJ [IntKind.i64] (List.drop (0) (List.getD R (Int.toNat i) [])) then an (0) (3) = 0 ∧ bif decide (0 + n ≤ List.length W) then bif okZ (3) (cut W (0) n) then bif withE (toZ (cut W (0) n)) [0, 0, an (Int.fdiv (hdJ (List.drop (0) (List.getD R (Int.toNat i) []))) (16)) (255)] != 0 then stL R sp n m i W g0 g1 g2 g3 g4 g5 g6 g7 g8 g9 g10 g11 g12 g13 g14 g15 b0 b1 b2 b3 b4 b5 b6 b7 b8 b9 b10 b11 b12 b13 b14 b15 = stL R sp n m i W g0 g1 g2 g3 g4 g5 g6 g7 g8 g9 g10 g11 g12 g13 g14 g15 b0 b1 b2 b3 b4 b5 b6 b7 b8 b9 b10 b11 b12 b13 b14 b15 ∧ E Exit.ret (stL R sp n m i W g0 g1 g2 g3 g4 g5 g6 g7 g8 g9 g10 g11 g12 g13 g14 g15 b0 b1 b2 b3 b4 b5 b6 b7 b8 b9 b10 b11 b12 b13 b14 b15) else stL R sp (List.length (mZ (withW (toZ (cut W (0) n)) [0, 0, an (Int.fdiv (hdJ (List.drop (0) (List.getD R (Int.toNat i) []))) (16)) (255)]))) (List.length (mZ (withW (toZ (cut W (0) n)) [0, 0, an (Int.fdiv (hdJ (List.drop (0) (List.getD R (Int.toNat i) []))) (16)) (255)])) + 0) (IntKind.wrap IntKind.i64 (i + 1)) (mZ (withW (toZ (cut W (0) n)) [0, 0, an (Int.fdiv (hdJ (List.drop (0) (List.getD R (Int.toNat i) []))) (16)) (255)]) ++ []) (an (Int.fdiv (hdJ (List.drop (0) (List.getD R (Int.toNat i) []))) (16)) (255)) g1 g2 g3 g4 g5 g6 g7 g8 g9 g10 g11 g12 g13 g14 g15 true b1 b2 b3 b4 b5 b6 b7 b8 b9 b10 b11 b12 b13 b14 b15 = stL R sp (List.length (mZ (withW (toZ (cut W (0) n)) [0, 0, an (Int.fdiv (hdJ (List.drop (0) (List.getD R (Int.toNat i) []))) (16)) (255)]))) (List.length (mZ (withW (toZ (cut W (0) n)) [0, 0, an (Int.fdiv (hdJ (List.drop (0) (List.getD R (Int.toNat i) []))) (16)) (255)])) + 0) (IntKind.wrap IntKind.i64 (i + 1)) (mZ (withW (toZ (cut W (0) n)) [0, 0, an (Int.fdiv (hdJ (List.drop (0) (List.getD R (Int.toNat i) []))) (16)) (255)]) ++ []) (an (Int.fdiv (hdJ (List.drop (0) (List.getD R (Int.toNat i) []))) (16)) (255)) g1 g2 g3 g4 g5 g6 g7 g8 g9 g10 g11 g12 g13 g14 g15 true b1 b2 b3 b4 b5 b6 b7 b8 b9 b10 b11 b12 b13 b14 b15 ∧ N (stL R sp (List.length (mZ (withW (toZ (cut W (0) n)) [0, 0, an (Int.fdiv (hdJ (List.drop (0) (List.getD R (Int.toNat i) []))) (16)) (255)]))) (List.length (mZ (withW (toZ (cut W (0) n)) [0, 0, an (Int.fdiv (hdJ (List.drop (0) (List.getD R (Int.toNat i) []))) (16)) (255)])) + 0) (IntKind.wrap IntKind.i64 (i + 1)) (mZ (withW (toZ (cut W (0) n)) [0, 0, an (Int.fdiv (hdJ (List.drop (0) (List.getD R (Int.toNat i) []))) (16)) (255)]) ++ []) (an (Int.fdiv (hdJ (List.drop (0) (List.getD R (Int.toNat i) []))) (16)) (255)) g1 g2 g3 g4 g5 g6 g7 g8 g9 g10 g11 g12 g13 g14 g15 true b1 b2 b3 b4 b5 b6 b7 b8 b9 b10 b11 b12 b13 b14 b15) else False else False else False else False else False else False else stL R sp n m i W g0 g1 g2 g3 g4 g5 g6 g7 g8 g9 g10 g11 g12 g13 g14 g15 b0 b1 b2 b3 b4 b5 b6 b7 b8 b9 b10 b11 b12 b13 b14 b15 = stL R sp n m i W g0 g1 g2 g3 g4 g5 g6 g7 g8 g9 g10 g11 g12 g13 g14 g15 b0 b1 b2 b3 b4 b5 b6 b7 b8 b9 b10 b11 b12 b13 b14 b15 ∧ E (Exit.exit (0)) (stL R sp n m i W g0 g1 g2 g3 g4 g5 g6 g7 g8 g9 g10 g11 g12 g13 g14 g15 b0 b1 b2 b3 b4 b5 b6 b7 b8 b9 b10 b11 b12 b13 b14 b15) else stL R sp n m i W g0 g1 g2 g3 g4 g5 g6 g7 g8 g9 g10 g11 g12 g13 g14 g15 b0 b1 b2 b3 b4 b5 b6 b7 b8 b9 b10 b11 b12 b13 b14 b15 = stL R sp n m i W g0 g1 g2 g3 g4 g5 g6 g7 g8 g9 g10 g11 g12 g13 g14 g15 b0 b1 b2 b3 b4 b5 b6 b7 b8 b9 b10 b11 b12 b13 b14 b15 ∧ E (Exit.exit (0)) (stL R sp n m i W g0 g1 g2 g3 g4 g5 g6 g7 g8 g9 g10 g11 g12 g13 g14 g15 b0 b1 b2 b3 b4 b5 b6 b7 b8 b9 b10 b11 b12 b13 b14 b15)) := by kernel_rfl
theorem qL_0 {R sp : List (List D)} {l : List (List Int)} {g : Nat → Int} {f : Nat → Bool} {i : Nat} (hR : okZ 1 R = true) (hv : InvL l g f) (hi : i < R.length) (hi2 : i < 40) (hk : band (hdJ (R.getD i [])) 15 = 0) {N : X → Prop} {E : Exit → X → Prop}
    (h : ∀ v, (0 ≤ v ∧ v ≤ 255) → N (sfL R sp (putW l (rowK 0 v)) (updI g 0 v) (updB f 0 true) ((i + 1 : Nat) : Int))) : roundV Try.prog (gK band [(32, 0), (44, 0)] [(46, sWth), (27, sI)]) Try.f15 0 [(4, 47000)] [0, 3, 4, 5, 6] [4, 5, 6] (v_stL R sp) (fun _ => v_stL R sp) N E (sfL R sp l g f i) := by
  unfold sfL
  rw [rL_0]
  simp only [List.drop_zero, Int.toNat_natCast]
  obtain ⟨el, hw, hn⟩ := okZ_spec hR
  have hll : i < (toZ R).length := by rw [toZ_len]; exact hi
  have hj1 : isJ [IntKind.i64] (R.getD i []) = true := by
    rw [el]; exact isJ_mZ (j := 0) (n := 1) hw hll (by omega)
  have wi : IntKind.wrap .i64 ((i : Int) + 1) = ((i + 1 : Nat) : Int) := wrap_nat (n := 1) (by omega)
  have hi3 : (i : Int) < 40 := by omega
  have hk3 : band 0 3 = 0 := by rw [mask2]; rfl
  have hc : 0 ≤ band (Int.fdiv (hdJ (R.getD i [])) 16) 255 ∧ band (Int.fdiv (hdJ (R.getD i [])) 16) 255 ≤ 255 := by rw [mask8]; omega
  have hh := h _ hc
  obtain ⟨s1, s2, s3⟩ := hv.step (k := 0) (by omega) hc
  generalize band (Int.fdiv (hdJ (R.getD i [])) 16) 255 = v at *
  have s1 : withE l [0, 0, v] = 0 := s1
  have s2 : withW l [0, 0, v] = putW l (rowK 0 v) := s2
  have h16 := ((wmay_iff l).1 hv.may).1
  have o1 : okZ 3 (mZ l) = true := okZ_mZ hv.wid (by omega)
  simp only [Int.ofNat_lt, hi, hi3, decide_true, cond_true, Int.natCast_nonneg, Bool.and_self, Int.toNat_natCast, List.drop_zero, hj1, hk, hk3, wi, Nat.zero_add, mZ_len, Nat.le_refl, cut_all (mZ_len l), o1, toZ_mZ, s1, s2, bne_self_eq_false, cond_false, List.append_nil, Nat.add_zero, true_and]
  exact hh
theorem rL_1 (an : Int → Int → Int) (R sp : List (List D)) (n : Nat) (m : Nat) (i : Int) (W : List (List D)) (g0 : Int) (g1 : Int) (g2 : Int) (g3 : Int) (g4 : Int) (g5 : Int) (g6 : Int) (g7 : Int) (g8 : Int) (g9 : Int) (g10 : Int) (g11 : Int) (g12 : Int) (g13 : Int) (g14 : Int) (g15 : Int) (b0 : Bool) (b1 : Bool) (b2 : Bool) (b3 : Bool) (b4 : Bool) (b5 : Bool) (b6 : Bool) (b7 : Bool) (b8 : Bool) (b9 : Bool) (b10 : Bool) (b11 : Bool) (b12 : Bool) (b13 : Bool) (b14 : Bool) (b15 : Bool) (N : X → Prop) (E : Exit → X → Prop) : (roundV Try.prog (gK an [(32, 1), (44, 1)] [(46, sWth), (27, sI)]) Try.f15 0 [(4, 47000)] [0, 3, 4, 5, 6] [4, 5, 6] (v_stL R sp) (fun _ => v_stL R sp) N E (stL R sp n m i W g0 g1 g2 g3 g4 g5 g6 g7 g8 g9 g10 g11 g12 g13 g14 g15 b0 b1 b2 b3 b4 b5 b6 b7 b8 b9 b10 b11 b12 b13 b14 b15)) = (bif decide (i < @Nat.cast Int _ (List.length R)) then bif decide (i < 40) then bif decide (0 ≤ i) && decide (i < @Nat.cast Int _ (List.length R)) then bif isJ [IntKind.i64] (List.drop (0) (List.getD R (Int.toNat i) [])) then an (hdJ (List.drop (0) (List.getD R (Int.toNat i) []))) (15) = 1 ∧ bif decide (0 ≤ i) && decide (i < @Nat.cast Int _ (List.length R)) then bif isJ [IntKind.i64] (List.drop (0) (List.getD R (Int.toNat i) [])) then an (1) (3) = 1 ∧ bif decide (0 + n ≤ List.length W) then bif okZ (3) (cut W (0) n) then bif withE (toZ (cut W (0) n)) [0, 1, an (Int.fdiv (hdJ (List.drop (0) (List.getD R (Int.toNat i) []))) (16)) (255)] != 0 then stL R sp n m i W g0 g1 g2 g3 g4 g5 g6 g7 g8 g9 g10 g11 g12 g13 g14 g15 b0 b1 b2 b3 b4 b5 b6 b7 b8 b9 b10 b11 b12 b13 b14 b15 = stL R sp n m i W g0 g1 g2 g3 g4 g5 g6 g7 g8 g9 g10 g11 g12 g13 g14 g15 b0 b1 b2 b3 b4 b5 b6 b7 b8 b9 b10 b11 b12 b13 b14 b15 ∧ E Exit.ret (stL R sp n m i W g0 g1 g2 g3 g4 g5 g6 g7 g8 g9 g10 g11 g12 g13 g14 g15 b0 b1 b2 b3 b4 b5 b6 b7 b8 b9 b10 b11 b12 b13 b14 b15) else stL R sp (List.length (mZ (withW (toZ (cut W (0) n)) [0, 1, an (Int.fdiv (hdJ (List.drop (0) (List.getD R (Int.toNat i) []))) (16)) (255)]))) (List.length (mZ (withW (toZ (cut W (0) n)) [0, 1, an (Int.fdiv (hdJ (List.drop (0) (List.getD R (Int.toNat i) []))) (16)) (255)])) + 0) (IntKind.wrap IntKind.i64 (i + 1)) (mZ (withW (toZ (cut W (0) n)) [0, 1, an (Int.fdiv (hdJ (List.drop (0) (List.getD R (Int.toNat i) []))) (16)) (255)]) ++ []) g0 (an (Int.fdiv (hdJ (List.drop (0) (List.getD R (Int.toNat i) []))) (16)) (255)) g2 g3 g4 g5 g6 g7 g8 g9 g10 g11 g12 g13 g14 g15 b0 true b2 b3 b4 b5 b6 b7 b8 b9 b10 b11 b12 b13 b14 b15 = stL R sp (List.length (mZ (withW (toZ (cut W (0) n)) [0, 1, an (Int.fdiv (hdJ (List.drop (0) (List.getD R (Int.toNat i) []))) (16)) (255)]))) (List.length (mZ (withW (toZ (cut W (0) n)) [0, 1, an (Int.fdiv (hdJ (List.drop (0) (List.getD R (Int.toNat i) []))) (16)) (255)])) + 0) (IntKind.wrap IntKind.i64 (i + 1)) (mZ (withW (toZ (cut W (0) n)) [0, 1, an (Int.fdiv (hdJ (List.drop (0) (List.getD R (Int.toNat i) []))) (16)) (255)]) ++ []) g0 (an (Int.fdiv (hdJ (List.drop (0) (List.getD R (Int.toNat i) []))) (16)) (255)) g2 g3 g4 g5 g6 g7 g8 g9 g10 g11 g12 g13 g14 g15 b0 true b2 b3 b4 b5 b6 b7 b8 b9 b10 b11 b12 b13 b14 b15 ∧ N (stL R sp (List.length (mZ (withW (toZ (cut W (0) n)) [0, 1, an (Int.fdiv (hdJ (List.drop (0) (List.getD R (Int.toNat i) []))) (16)) (255)]))) (List.length (mZ (withW (toZ (cut W (0) n)) [0, 1, an (Int.fdiv (hdJ (List.drop (0) (List.getD R (Int.toNat i) []))) (16)) (255)])) + 0) (IntKind.wrap IntKind.i64 (i + 1)) (mZ (withW (toZ (cut W (0) n)) [0, 1, an (Int.fdiv (hdJ (List.drop (0) (List.getD R (Int.toNat i) []))) (16)) (255)]) ++ []) g0 (an (Int.fdiv (hdJ (List.drop (0) (List.getD R (Int.toNat i) []))) (16)) (255)) g2 g3 g4 g5 g6 g7 g8 g9 g10 g11 g12 g13 g14 g15 b0 true b2 b3 b4 b5 b6 b7 b8 b9 b10 b11 b12 b13 b14 b15) else False else False else False else False else False else False else stL R sp n m i W g0 g1 g2 g3 g4 g5 g6 g7 g8 g9 g10 g11 g12 g13 g14 g15 b0 b1 b2 b3 b4 b5 b6 b7 b8 b9 b10 b11 b12 b13 b14 b15 = stL R sp n m i W g0 g1 g2 g3 g4 g5 g6 g7 g8 g9 g10 g11 g12 g13 g14 g15 b0 b1 b2 b3 b4 b5 b6 b7 b8 b9 b10 b11 b12 b13 b14 b15 ∧ E (Exit.exit (0)) (stL R sp n m i W g0 g1 g2 g3 g4 g5 g6 g7 g8 g9 g10 g11 g12 g13 g14 g15 b0 b1 b2 b3 b4 b5 b6 b7 b8 b9 b10 b11 b12 b13 b14 b15) else stL R sp n m i W g0 g1 g2 g3 g4 g5 g6 g7 g8 g9 g10 g11 g12 g13 g14 g15 b0 b1 b2 b3 b4 b5 b6 b7 b8 b9 b10 b11 b12 b13 b14 b15 = stL R sp n m i W g0 g1 g2 g3 g4 g5 g6 g7 g8 g9 g10 g11 g12 g13 g14 g15 b0 b1 b2 b3 b4 b5 b6 b7 b8 b9 b10 b11 b12 b13 b14 b15 ∧ E (Exit.exit (0)) (stL R sp n m i W g0 g1 g2 g3 g4 g5 g6 g7 g8 g9 g10 g11 g12 g13 g14 g15 b0 b1 b2 b3 b4 b5 b6 b7 b8 b9 b10 b11 b12 b13 b14 b15)) := by kernel_rfl
theorem qL_1 {R sp : List (List D)} {l : List (List Int)} {g : Nat → Int} {f : Nat → Bool} {i : Nat} (hR : okZ 1 R = true) (hv : InvL l g f) (hi : i < R.length) (hi2 : i < 40) (hk : band (hdJ (R.getD i [])) 15 = 1) {N : X → Prop} {E : Exit → X → Prop}
    (h : ∀ v, (0 ≤ v ∧ v ≤ 255) → N (sfL R sp (putW l (rowK 1 v)) (updI g 1 v) (updB f 1 true) ((i + 1 : Nat) : Int))) : roundV Try.prog (gK band [(32, 1), (44, 1)] [(46, sWth), (27, sI)]) Try.f15 0 [(4, 47000)] [0, 3, 4, 5, 6] [4, 5, 6] (v_stL R sp) (fun _ => v_stL R sp) N E (sfL R sp l g f i) := by
  unfold sfL
  rw [rL_1]
  simp only [List.drop_zero, Int.toNat_natCast]
  obtain ⟨el, hw, hn⟩ := okZ_spec hR
  have hll : i < (toZ R).length := by rw [toZ_len]; exact hi
  have hj1 : isJ [IntKind.i64] (R.getD i []) = true := by
    rw [el]; exact isJ_mZ (j := 0) (n := 1) hw hll (by omega)
  have wi : IntKind.wrap .i64 ((i : Int) + 1) = ((i + 1 : Nat) : Int) := wrap_nat (n := 1) (by omega)
  have hi3 : (i : Int) < 40 := by omega
  have hk3 : band 1 3 = 1 := by rw [mask2]; rfl
  have hc : 0 ≤ band (Int.fdiv (hdJ (R.getD i [])) 16) 255 ∧ band (Int.fdiv (hdJ (R.getD i [])) 16) 255 ≤ 255 := by rw [mask8]; omega
  have hh := h _ hc
  obtain ⟨s1, s2, s3⟩ := hv.step (k := 1) (by omega) hc
  generalize band (Int.fdiv (hdJ (R.getD i [])) 16) 255 = v at *
  have s1 : withE l [0, 1, v] = 0 := s1
  have s2 : withW l [0, 1, v] = putW l (rowK 1 v) := s2
  have h16 := ((wmay_iff l).1 hv.may).1
  have o1 : okZ 3 (mZ l) = true := okZ_mZ hv.wid (by omega)
  simp only [Int.ofNat_lt, hi, hi3, decide_true, cond_true, Int.natCast_nonneg, Bool.and_self, Int.toNat_natCast, List.drop_zero, hj1, hk, hk3, wi, Nat.zero_add, mZ_len, Nat.le_refl, cut_all (mZ_len l), o1, toZ_mZ, s1, s2, bne_self_eq_false, cond_false, List.append_nil, Nat.add_zero, true_and]
  exact hh
theorem rL_2 (an : Int → Int → Int) (R sp : List (List D)) (n : Nat) (m : Nat) (i : Int) (W : List (List D)) (g0 : Int) (g1 : Int) (g2 : Int) (g3 : Int) (g4 : Int) (g5 : Int) (g6 : Int) (g7 : Int) (g8 : Int) (g9 : Int) (g10 : Int) (g11 : Int) (g12 : Int) (g13 : Int) (g14 : Int) (g15 : Int) (b0 : Bool) (b1 : Bool) (b2 : Bool) (b3 : Bool) (b4 : Bool) (b5 : Bool) (b6 : Bool) (b7 : Bool) (b8 : Bool) (b9 : Bool) (b10 : Bool) (b11 : Bool) (b12 : Bool) (b13 : Bool) (b14 : Bool) (b15 : Bool) (N : X → Prop) (E : Exit → X → Prop) : (roundV Try.prog (gK an [(32, 2), (44, 2)] [(46, sWth), (27, sI)]) Try.f15 0 [(4, 47000)] [0, 3, 4, 5, 6] [4, 5, 6] (v_stL R sp) (fun _ => v_stL R sp) N E (stL R sp n m i W g0 g1 g2 g3 g4 g5 g6 g7 g8 g9 g10 g11 g12 g13 g14 g15 b0 b1 b2 b3 b4 b5 b6 b7 b8 b9 b10 b11 b12 b13 b14 b15)) = (bif decide (i < @Nat.cast Int _ (List.length R)) then bif decide (i < 40) then bif decide (0 ≤ i) && decide (i < @Nat.cast Int _ (List.length R)) then bif isJ [IntKind.i64] (List.drop (0) (List.getD R (Int.toNat i) [])) then an (hdJ (List.drop (0) (List.getD R (Int.toNat i) []))) (15) = 2 ∧ bif decide (0 ≤ i) && decide (i < @Nat.cast Int _ (List.length R)) then bif isJ [IntKind.i64] (List.drop (0) (List.getD R (Int.toNat i) [])) then an (2) (3) = 2 ∧ bif decide (0 + n ≤ List.length W) then bif okZ (3) (cut W (0) n) then bif withE (toZ (cut W (0) n)) [0, 2, an (Int.fdiv (hdJ (List.drop (0) (List.getD R (Int.toNat i) []))) (16)) (255)] != 0 then stL R sp n m i W g0 g1 g2 g3 g4 g5 g6 g7 g8 g9 g10 g11 g12 g13 g14 g15 b0 b1 b2 b3 b4 b5 b6 b7 b8 b9 b10 b11 b12 b13 b14 b15 = stL R sp n m i W g0 g1 g2 g3 g4 g5 g6 g7 g8 g9 g10 g11 g12 g13 g14 g15 b0 b1 b2 b3 b4 b5 b6 b7 b8 b9 b10 b11 b12 b13 b14 b15 ∧ E Exit.ret (stL R sp n m i W g0 g1 g2 g3 g4 g5 g6 g7 g8 g9 g10 g11 g12 g13 g14 g15 b0 b1 b2 b3 b4 b5 b6 b7 b8 b9 b10 b11 b12 b13 b14 b15) else stL R sp (List.length (mZ (withW (toZ (cut W (0) n)) [0, 2, an (Int.fdiv (hdJ (List.drop (0) (List.getD R (Int.toNat i) []))) (16)) (255)]))) (List.length (mZ (withW (toZ (cut W (0) n)) [0, 2, an (Int.fdiv (hdJ (List.drop (0) (List.getD R (Int.toNat i) []))) (16)) (255)])) + 0) (IntKind.wrap IntKind.i64 (i + 1)) (mZ (withW (toZ (cut W (0) n)) [0, 2, an (Int.fdiv (hdJ (List.drop (0) (List.getD R (Int.toNat i) []))) (16)) (255)]) ++ []) g0 g1 (an (Int.fdiv (hdJ (List.drop (0) (List.getD R (Int.toNat i) []))) (16)) (255)) g3 g4 g5 g6 g7 g8 g9 g10 g11 g12 g13 g14 g15 b0 b1 true b3 b4 b5 b6 b7 b8 b9 b10 b11 b12 b13 b14 b15 = stL R sp (List.length (mZ (withW (toZ (cut W (0) n)) [0, 2, an (Int.fdiv (hdJ (List.drop (0) (List.getD R (Int.toNat i) []))) (16)) (255)]))) (List.length (mZ (withW (toZ (cut W (0) n)) [0, 2, an (Int.fdiv (hdJ (List.drop (0) (List.getD R (Int.toNat i) []))) (16)) (255)])) + 0) (IntKind.wrap IntKind.i64 (i + 1)) (mZ (withW (toZ (cut W (0) n)) [0, 2, an (Int.fdiv (hdJ (List.drop (0) (List.getD R (Int.toNat i) []))) (16)) (255)]) ++ []) g0 g1 (an (Int.fdiv (hdJ (List.drop (0) (List.getD R (Int.toNat i) []))) (16)) (255)) g3 g4 g5 g6 g7 g8 g9 g10 g11 g12 g13 g14 g15 b0 b1 true b3 b4 b5 b6 b7 b8 b9 b10 b11 b12 b13 b14 b15 ∧ N (stL R sp (List.length (mZ (withW (toZ (cut W (0) n)) [0, 2, an (Int.fdiv (hdJ (List.drop (0) (List.getD R (Int.toNat i) []))) (16)) (255)]))) (List.length (mZ (withW (toZ (cut W (0) n)) [0, 2, an (Int.fdiv (hdJ (List.drop (0) (List.getD R (Int.toNat i) []))) (16)) (255)])) + 0) (IntKind.wrap IntKind.i64 (i + 1)) (mZ (withW (toZ (cut W (0) n)) [0, 2, an (Int.fdiv (hdJ (List.drop (0) (List.getD R (Int.toNat i) []))) (16)) (255)]) ++ []) g0 g1 (an (Int.fdiv (hdJ (List.drop (0) (List.getD R (Int.toNat i) []))) (16)) (255)) g3 g4 g5 g6 g7 g8 g9 g10 g11 g12 g13 g14 g15 b0 b1 true b3 b4 b5 b6 b7 b8 b9 b10 b11 b12 b13 b14 b15) else False else False else False else False else False else False else stL R sp n m i W g0 g1 g2 g3 g4 g5 g6 g7 g8 g9 g10 g11 g12 g13 g14 g15 b0 b1 b2 b3 b4 b5 b6 b7 b8 b9 b10 b11 b12 b13 b14 b15 = stL R sp n m i W g0 g1 g2 g3 g4 g5 g6 g7 g8 g9 g10 g11 g12 g13 g14 g15 b0 b1 b2 b3 b4 b5 b6 b7 b8 b9 b10 b11 b12 b13 b14 b15 ∧ E (Exit.exit (0)) (stL R sp n m i W g0 g1 g2 g3 g4 g5 g6 g7 g8 g9 g10 g11 g12 g13 g14 g15 b0 b1 b2 b3 b4 b5 b6 b7 b8 b9 b10 b11 b12 b13 b14 b15) else stL R sp n m i W g0 g1 g2 g3 g4 g5 g6 g7 g8 g9 g10 g11 g12 g13 g14 g15 b0 b1 b2 b3 b4 b5 b6 b7 b8 b9 b10 b11 b12 b13 b14 b15 = stL R sp n m i W g0 g1 g2 g3 g4 g5 g6 g7 g8 g9 g10 g11 g12 g13 g14 g15 b0 b1 b2 b3 b4 b5 b6 b7 b8 b9 b10 b11 b12 b13 b14 b15 ∧ E (Exit.exit (0)) (stL R sp n m i W g0 g1 g2 g3 g4 g5 g6 g7 g8 g9 g10 g11 g12 g13 g14 g15 b0 b1 b2 b3 b4 b5 b6 b7 b8 b9 b10 b11 b12 b13 b14 b15)) := by kernel_rfl
theorem qL_2 {R sp : List (List D)} {l : List (List Int)} {g : Nat → Int} {f : Nat → Bool} {i : Nat} (hR : okZ 1 R = true) (hv : InvL l g f) (hi : i < R.length) (hi2 : i < 40) (hk : band (hdJ (R.getD i [])) 15 = 2) {N : X → Prop} {E : Exit → X → Prop}
    (h : ∀ v, (0 ≤ v ∧ v ≤ 255) → N (sfL R sp (putW l (rowK 2 v)) (updI g 2 v) (updB f 2 true) ((i + 1 : Nat) : Int))) : roundV Try.prog (gK band [(32, 2), (44, 2)] [(46, sWth), (27, sI)]) Try.f15 0 [(4, 47000)] [0, 3, 4, 5, 6] [4, 5, 6] (v_stL R sp) (fun _ => v_stL R sp) N E (sfL R sp l g f i) := by
  unfold sfL
  rw [rL_2]
  simp only [List.drop_zero, Int.toNat_natCast]
  obtain ⟨el, hw, hn⟩ := okZ_spec hR
  have hll : i < (toZ R).length := by rw [toZ_len]; exact hi
  have hj1 : isJ [IntKind.i64] (R.getD i []) = true := by
    rw [el]; exact isJ_mZ (j := 0) (n := 1) hw hll (by omega)
  have wi : IntKind.wrap .i64 ((i : Int) + 1) = ((i + 1 : Nat) : Int) := wrap_nat (n := 1) (by omega)
  have hi3 : (i : Int) < 40 := by omega
  have hk3 : band 2 3 = 2 := by rw [mask2]; rfl
  have hc : 0 ≤ band (Int.fdiv (hdJ (R.getD i [])) 16) 255 ∧ band (Int.fdiv (hdJ (R.getD i [])) 16) 255 ≤ 255 := by rw [mask8]; omega
  have hh := h _ hc
  obtain ⟨s1, s2, s3⟩ := hv.step (k := 2) (by omega) hc
  generalize band (Int.fdiv (hdJ (R.getD i [])) 16) 255 = v at *
  have s1 : withE l [0, 2, v] = 0 := s1
  have s2 : withW l [0, 2, v] = putW l (rowK 2 v) := s2
  have h16 := ((wmay_iff l).1 hv.may).1
  have o1 : okZ 3 (mZ l) = true := okZ_mZ hv.wid (by omega)
  simp only [Int.ofNat_lt, hi, hi3, decide_true, cond_true, Int.natCast_nonneg, Bool.and_self, Int.toNat_natCast, List.drop_zero, hj1, hk, hk3, wi, Nat.zero_add, mZ_len, Nat.le_refl, cut_all (mZ_len l), o1, toZ_mZ, s1, s2, bne_self_eq_false, cond_false, List.append_nil, Nat.add_zero, true_and]
  exact hh
theorem rL_3 (an : Int → Int → Int) (R sp : List (List D)) (n : Nat) (m : Nat) (i : Int) (W : List (List D)) (g0 : Int) (g1 : Int) (g2 : Int) (g3 : Int) (g4 : Int) (g5 : Int) (g6 : Int) (g7 : Int) (g8 : Int) (g9 : Int) (g10 : Int) (g11 : Int) (g12 : Int) (g13 : Int) (g14 : Int) (g15 : Int) (b0 : Bool) (b1 : Bool) (b2 : Bool) (b3 : Bool) (b4 : Bool) (b5 : Bool) (b6 : Bool) (b7 : Bool) (b8 : Bool) (b9 : Bool) (b10 : Bool) (b11 : Bool) (b12 : Bool) (b13 : Bool) (b14 : Bool) (b15 : Bool) (N : X → Prop) (E : Exit → X → Prop) : (roundV Try.prog (gK an [(32, 3), (44, 3)] [(46, sWth), (27, sI)]) Try.f15 0 [(4, 47000)] [0, 3, 4, 5, 6] [4, 5, 6] (v_stL R sp) (fun _ => v_stL R sp) N E (stL R sp n m i W g0 g1 g2 g3 g4 g5 g6 g7 g8 g9 g10 g11 g12 g13 g14 g15 b0 b1 b2 b3 b4 b5 b6 b7 b8 b9 b10 b11 b12 b13 b14 b15)) = (bif decide (i < @Nat.cast Int _ (List.length R)) then bif decide (i < 40) then bif decide (0 ≤ i) && decide (i < @Nat.cast Int _ (List.length R)) then bif isJ [IntKind.i64] (List.drop (0) (List.getD R (Int.toNat i) [])) then an (hdJ (List.drop (0) (List.getD R (Int.toNat i) []))) (15) = 3 ∧ bif decide (0 ≤ i) && decide (i < @Nat.cast Int _ (List.length R)) then bif isJ [IntKind.i64] (List.drop (0) (List.getD R (Int.toNat i) [])) then an (3) (3) = 3 ∧ bif decide (0 + n ≤ List.length W) then bif okZ (3) (cut W (0) n) then bif withE (toZ (cut W (0) n)) [0, 3, an (Int.fdiv (hdJ (List.drop (0) (List.getD R (Int.toNat i) []))) (16)) (255)] != 0 then stL R sp n m i W g0 g1 g2 g3 g4 g5 g6 g7 g8 g9 g10 g11 g12 g13 g14 g15 b0 b1 b2 b3 b4 b5 b6 b7 b8 b9 b10 b11 b12 b13 b14 b15 = stL R sp n m i W g0 g1 g2 g3 g4 g5 g6 g7 g8 g9 g10 g11 g12 g13 g14 g15 b0 b1 b2 b3 b4 b5 b6 b7 b8 b9 b10 b11 b12 b13 b14 b15 ∧ E Exit.ret (stL R sp n m i W g0 g1 g2 g3 g4 g5 g6 g7 g8 g9 g10 g11 g12 g13 g14 g15 b0 b1 b2 b3 b4 b5 b6 b7 b8 b9 b10 b11 b12 b13 b14 b15) else stL R sp (List.length (mZ (withW (toZ (cut W (0) n)) [0, 3, an (Int.fdiv (hdJ (List.drop (0) (List.getD R (Int.toNat i) []))) (16)) (255)]))) (List.length (mZ (withW (toZ (cut W (0) n)) [0, 3, an (Int.fdiv (hdJ (List.drop (0) (List.getD R (Int.toNat i) []))) (16)) (255)])) + 0) (IntKind.wrap IntKind.i64 (i + 1)) (mZ (withW (toZ (cut W (0) n)) [0, 3, an (Int.fdiv (hdJ (List.drop (0) (List.getD R (Int.toNat i) []))) (16)) (255)]) ++ []) g0 g1 g2 (an (Int.fdiv (hdJ (List.drop (0) (List.getD R (Int.toNat i) []))) (16)) (255)) g4 g5 g6 g7 g8 g9 g10 g11 g12 g13 g14 g15 b0 b1 b2 true b4 b5 b6 b7 b8 b9 b10 b11 b12 b13 b14 b15 = stL R sp (List.length (mZ (withW (toZ (cut W (0) n)) [0, 3, an (Int.fdiv (hdJ (List.drop (0) (List.getD R (Int.toNat i) []))) (16)) (255)]))) (List.length (mZ (withW (toZ (cut W (0) n)) [0, 3, an (Int.fdiv (hdJ (List.drop (0) (List.getD R (Int.toNat i) []))) (16)) (255)])) + 0) (IntKind.wrap IntKind.i64 (i + 1)) (mZ (withW (toZ (cut W (0) n)) [0, 3, an (Int.fdiv (hdJ (List.drop (0) (List.getD R (Int.toNat i) []))) (16)) (255)]) ++ []) g0 g1 g2 (an (Int.fdiv (hdJ (List.drop (0) (List.getD R (Int.toNat i) []))) (16)) (255)) g4 g5 g6 g7 g8 g9 g10 g11 g12 g13 g14 g15 b0 b1 b2 true b4 b5 b6 b7 b8 b9 b10 b11 b12 b13 b14 b15 ∧ N (stL R sp (List.length (mZ (withW (toZ (cut W (0) n)) [0, 3, an (Int.fdiv (hdJ (List.drop (0) (List.getD R (Int.toNat i) []))) (16)) (255)]))) (List.length (mZ (withW (toZ (cut W (0) n)) [0, 3, an (Int.fdiv (hdJ (List.drop (0) (List.getD R (Int.toNat i) []))) (16)) (255)])) + 0) (IntKind.wrap IntKind.i64 (i + 1)) (mZ (withW (toZ (cut W (0) n)) [0, 3, an (Int.fdiv (hdJ (List.drop (0) (List.getD R (Int.toNat i) []))) (16)) (255)]) ++ []) g0 g1 g2 (an (Int.fdiv (hdJ (List.drop (0) (List.getD R (Int.toNat i) []))) (16)) (255)) g4 g5 g6 g7 g8 g9 g10 g11 g12 g13 g14 g15 b0 b1 b2 true b4 b5 b6 b7 b8 b9 b10 b11 b12 b13 b14 b15) else False else False else False else False else False else False else stL R sp n m i W g0 g1 g2 g3 g4 g5 g6 g7 g8 g9 g10 g11 g12 g13 g14 g15 b0 b1 b2 b3 b4 b5 b6 b7 b8 b9 b10 b11 b12 b13 b14 b15 = stL R sp n m i W g0 g1 g2 g3 g4 g5 g6 g7 g8 g9 g10 g11 g12 g13 g14 g15 b0 b1 b2 b3 b4 b5 b6 b7 b8 b9 b10 b11 b12 b13 b14 b15 ∧ E (Exit.exit (0)) (stL R sp n m i W g0 g1 g2 g3 g4 g5 g6 g7 g8 g9 g10 g11 g12 g13 g14 g15 b0 b1 b2 b3 b4 b5 b6 b7 b8 b9 b10 b11 b12 b13 b14 b15) else stL R sp n m i W g0 g1 g2 g3 g4 g5 g6 g7 g8 g9 g10 g11 g12 g13 g14 g15 b0 b1 b2 b3 b4 b5 b6 b7 b8 b9 b10 b11 b12 b13 b14 b15 = stL R sp n m i W g0 g1 g2 g3 g4 g5 g6 g7 g8 g9 g10 g11 g12 g13 g14 g15 b0 b1 b2 b3 b4 b5 b6 b7 b8 b9 b10 b11 b12 b13 b14 b15 ∧ E (Exit.exit (0)) (stL R sp n m i W g0 g1 g2 g3 g4 g5 g6 g7 g8 g9 g10 g11 g12 g13 g14 g15 b0 b1 b2 b3 b4 b5 b6 b7 b8 b9 b10 b11 b12 b13 b14 b15)) := by kernel_rfl
theorem qL_3 {R sp : List (List D)} {l : List (List Int)} {g : Nat → Int} {f : Nat → Bool} {i : Nat} (hR : okZ 1 R = true) (hv : InvL l g f) (hi : i < R.length) (hi2 : i < 40) (hk : band (hdJ (R.getD i [])) 15 = 3) {N : X → Prop} {E : Exit → X → Prop}
    (h : ∀ v, (0 ≤ v ∧ v ≤ 255) → N (sfL R sp (putW l (rowK 3 v)) (updI g 3 v) (updB f 3 true) ((i + 1 : Nat) : Int))) : roundV Try.prog (gK band [(32, 3), (44, 3)] [(46, sWth), (27, sI)]) Try.f15 0 [(4, 47000)] [0, 3, 4, 5, 6] [4, 5, 6] (v_stL R sp) (fun _ => v_stL R sp) N E (sfL R sp l g f i) := by
  unfold sfL
  rw [rL_3]
  simp only [List.drop_zero, Int.toNat_natCast]
  obtain ⟨el, hw, hn⟩ := okZ_spec hR
  have hll : i < (toZ R).length := by rw [toZ_len]; exact hi
  have hj1 : isJ [IntKind.i64] (R.getD i []) = true := by
    rw [el]; exact isJ_mZ (j := 0) (n := 1) hw hll (by omega)
  have wi : IntKind.wrap .i64 ((i : Int) + 1) = ((i + 1 : Nat) : Int) := wrap_nat (n := 1) (by omega)
  have hi3 : (i : Int) < 40 := by omega
  have hk3 : band 3 3 = 3 := by rw [mask2]; rfl
  have hc : 0 ≤ band (Int.fdiv (hdJ (R.getD i [])) 16) 255 ∧ band (Int.fdiv (hdJ (R.getD i [])) 16) 255 ≤ 255 := by rw [mask8]; omega
  have hh := h _ hc
  obtain ⟨s1, s2, s3⟩ := hv.step (k := 3) (by omega) hc
  generalize band (Int.fdiv (hdJ (R.getD i [])) 16) 255 = v at *
  have s1 : withE l [0, 3, v] = 0 := s1
  have s2 : withW l [0, 3, v] = putW l (rowK 3 v) := s2
  have h16 := ((wmay_iff l).1 hv.may).1
  have o1 : okZ 3 (mZ l) = true := okZ_mZ hv.wid (by omega)
  simp only [Int.ofNat_lt, hi, hi3, decide_true, cond_true, Int.natCast_nonneg, Bool.and_self, Int.toNat_natCast, List.drop_zero, hj1, hk, hk3, wi, Nat.zero_add, mZ_len, Nat.le_refl, cut_all (mZ_len l), o1, toZ_mZ, s1, s2, bne_self_eq_false, cond_false, List.append_nil, Nat.add_zero, true_and]
  exact hh
theorem rL_4 (an : Int → Int → Int) (R sp : List (List D)) (n : Nat) (m : Nat) (i : Int) (W : List (List D)) (g0 : Int) (g1 : Int) (g2 : Int) (g3 : Int) (g4 : Int) (g5 : Int) (g6 : Int) (g7 : Int) (g8 : Int) (g9 : Int) (g10 : Int) (g11 : Int) (g12 : Int) (g13 : Int) (g14 : Int) (g15 : Int) (b0 : Bool) (b1 : Bool) (b2 : Bool) (b3 : Bool) (b4 : Bool) (b5 : Bool) (b6 : Bool) (b7 : Bool) (b8 : Bool) (b9 : Bool) (b10 : Bool) (b11 : Bool) (b12 : Bool) (b13 : Bool) (b14 : Bool) (b15 : Bool) (N : X → Prop) (E : Exit → X → Prop) : (roundV Try.prog (gK an [(32, 4), (44, 0)] [(46, sWth), (27, sI)]) Try.f15 0 [(4, 47000)] [0, 3, 4, 5, 6] [4, 5, 6] (v_stL R sp) (fun _ => v_stL R sp) N E (stL R sp n m i W g0 g1 g2 g3 g4 g5 g6 g7 g8 g9 g10 g11 g12 g13 g14 g15 b0 b1 b2 b3 b4 b5 b6 b7 b8 b9 b10 b11 b12 b13 b14 b15)) = (bif decide (i < @Nat.cast Int _ (List.length R)) then bif decide (i < 40) then bif decide (0 ≤ i) && decide (i < @Nat.cast Int _ (List.length R)) then bif isJ [IntKind.i64] (List.drop (0) (List.getD R (Int.toNat i) [])) then an (hdJ (List.drop (0) (List.getD R (Int.toNat i) []))) (15) = 4 ∧ bif decide (0 ≤ i) && decide (i < @Nat.cast Int _ (List.length R)) then bif isJ [IntKind.i64] (List.drop (0) (List.getD R (Int.toNat i) [])) then an (4) (3) = 0 ∧ bif decide (0 + n ≤ List.length W) then bif okZ (3) (cut W (0) n) then bif withE (toZ (cut W (0) n)) [1, 0, an (Int.fdiv (hdJ (List.drop (0) (List.getD R (Int.toNat i) []))) (16)) (255)] != 0 then stL R sp n m i W g0 g1 g2 g3 g4 g5 g6 g7 g8 g9 g10 g11 g12 g13 g14 g15 b0 b1 b2 b3 b4 b5 b6 b7 b8 b9 b10 b11 b12 b13 b14 b15 = stL R sp n m i W g0 g1 g2 g3 g4 g5 g6 g7 g8 g9 g10 g11 g12 g13 g14 g15 b0 b1 b2 b3 b4 b5 b6 b7 b8 b9 b10 b11 b12 b13 b14 b15 ∧ E Exit.ret (stL R sp n m i W g0 g1 g2 g3 g4 g5 g6 g7 g8 g9 g10 g11 g12 g13 g14 g15 b0 b1 b2 b3 b4 b5 b6 b7 b8 b9 b10 b11 b12 b13 b14 b15) else stL R sp (List.length (mZ (withW (toZ (cut W (0) n)) [1, 0, an (Int.fdiv (hdJ (List.drop (0) (List.getD R (Int.toNat i) []))) (16)) (255)]))) (List.length (mZ (withW (toZ (cut W (0) n)) [1, 0, an (Int.fdiv (hdJ (List.drop (0) (List.getD R (Int.toNat i) []))) (16)) (255)])) + 0) (IntKind.wrap IntKind.i64 (i + 1)) (mZ (withW (toZ (cut W (0) n)) [1, 0, an (Int.fdiv (hdJ (List.drop (0) (List.getD R (Int.toNat i) []))) (16)) (255)]) ++ []) g0 g1 g2 g3 (an (Int.fdiv (hdJ (List.drop (0) (List.getD R (Int.toNat i) []))) (16)) (255)) g5 g6 g7 g8 g9 g10 g11 g12 g13 g14 g15 b0 b1 b2 b3 true b5 b6 b7 b8 b9 b10 b11 b12 b13 b14 b15 = stL R sp (List.length (mZ (withW (toZ (cut W (0) n)) [1, 0, an (Int.fdiv (hdJ (List.drop (0) (List.getD R (Int.toNat i) []))) (16)) (255)]))) (List.length (mZ (withW (toZ (cut W (0) n)) [1, 0, an (Int.fdiv (hdJ (List.drop (0) (List.getD R (Int.toNat i) []))) (16)) (255)])) + 0) (IntKind.wrap IntKind.i64 (i + 1)) (mZ (withW (toZ (cut W (0) n)) [1, 0, an (Int.fdiv (hdJ (List.drop (0) (List.getD R (Int.toNat i) []))) (16)) (255)]) ++ []) g0 g1 g2 g3 (an (Int.fdiv (hdJ (List.drop (0) (List.getD R (Int.toNat i) []))) (16)) (255)) g5 g6 g7 g8 g9 g10 g11 g12 g13 g14 g15 b0 b1 b2 b3 true b5 b6 b7 b8 b9 b10 b11 b12 b13 b14 b15 ∧ N (stL R sp (List.length (mZ (withW (toZ (cut W (0) n)) [1, 0, an (Int.fdiv (hdJ (List.drop (0) (List.getD R (Int.toNat i) []))) (16)) (255)]))) (List.length (mZ (withW (toZ (cut W (0) n)) [1, 0, an (Int.fdiv (hdJ (List.drop (0) (List.getD R (Int.toNat i) []))) (16)) (255)])) + 0) (IntKind.wrap IntKind.i64 (i + 1)) (mZ (withW (toZ (cut W (0) n)) [1, 0, an (Int.fdiv (hdJ (List.drop (0) (List.getD R (Int.toNat i) []))) (16)) (255)]) ++ []) g0 g1 g2 g3 (an (Int.fdiv (hdJ (List.drop (0) (List.getD R (Int.toNat i) []))) (16)) (255)) g5 g6 g7 g8 g9 g10 g11 g12 g13 g14 g15 b0 b1 b2 b3 true b5 b6 b7 b8 b9 b10 b11 b12 b13 b14 b15) else False else False else False else False else False else False else stL R sp n m i W g0 g1 g2 g3 g4 g5 g6 g7 g8 g9 g10 g11 g12 g13 g14 g15 b0 b1 b2 b3 b4 b5 b6 b7 b8 b9 b10 b11 b12 b13 b14 b15 = stL R sp n m i W g0 g1 g2 g3 g4 g5 g6 g7 g8 g9 g10 g11 g12 g13 g14 g15 b0 b1 b2 b3 b4 b5 b6 b7 b8 b9 b10 b11 b12 b13 b14 b15 ∧ E (Exit.exit (0)) (stL R sp n m i W g0 g1 g2 g3 g4 g5 g6 g7 g8 g9 g10 g11 g12 g13 g14 g15 b0 b1 b2 b3 b4 b5 b6 b7 b8 b9 b10 b11 b12 b13 b14 b15) else stL R sp n m i W g0 g1 g2 g3 g4 g5 g6 g7 g8 g9 g10 g11 g12 g13 g14 g15 b0 b1 b2 b3 b4 b5 b6 b7 b8 b9 b10 b11 b12 b13 b14 b15 = stL R sp n m i W g0 g1 g2 g3 g4 g5 g6 g7 g8 g9 g10 g11 g12 g13 g14 g15 b0 b1 b2 b3 b4 b5 b6 b7 b8 b9 b10 b11 b12 b13 b14 b15 ∧ E (Exit.exit (0)) (stL R sp n m i W g0 g1 g2 g3 g4 g5 g6 g7 g8 g9 g10 g11 g12 g13 g14 g15 b0 b1 b2 b3 b4 b5 b6 b7 b8 b9 b10 b11 b12 b13 b14 b15)) := by kernel_rfl
theorem qL_4 {R sp : List (List D)} {l : List (List Int)} {g : Nat → Int} {f : Nat → Bool} {i : Nat} (hR : okZ 1 R = true) (hv : InvL l g f) (hi : i < R.length) (hi2 : i < 40) (hk : band (hdJ (R.getD i [])) 15 = 4) {N : X → Prop} {E : Exit → X → Prop}
    (h : ∀ v, (0 ≤ v ∧ v ≤ 255) → N (sfL R sp (putW l (rowK 4 v)) (updI g 4 v) (updB f 4 true) ((i + 1 : Nat) : Int))) : roundV Try.prog (gK band [(32, 4), (44, 0)] [(46, sWth), (27, sI)]) Try.f15 0 [(4, 47000)] [0, 3, 4, 5, 6] [4, 5, 6] (v_stL R sp) (fun _ => v_stL R sp) N E (sfL R sp l g f i) := by
  unfold sfL
  rw [rL_4]
  simp only [List.drop_zero, Int.toNat_natCast]
  obtain ⟨el, hw, hn⟩ := okZ_spec hR
  have hll : i < (toZ R).length := by rw [toZ_len]; exact hi
  have hj1 : isJ [IntKind.i64] (R.getD i []) = true := by
    rw [el]; exact isJ_mZ (j := 0) (n := 1) hw hll (by omega)
  have wi : IntKind.wrap .i64 ((i : Int) + 1) = ((i + 1 : Nat) : Int) := wrap_nat (n := 1) (by omega)
  have hi3 : (i : Int) < 40 := by omega
  have hk3 : band 4 3 = 0 := by rw [mask2]; rfl
  have hc : 0 ≤ band (Int.fdiv (hdJ (R.getD i [])) 16) 255 ∧ band (Int.fdiv (hdJ (R.getD i [])) 16) 255 ≤ 255 := by rw [mask8]; omega
  have hh := h _ hc
  obtain ⟨s1, s2, s3⟩ := hv.step (k := 4) (by omega) hc
  generalize band (Int.fdiv (hdJ (R.getD i [])) 16) 255 = v at *
  have s1 : withE l [1, 0, v] = 0 := s1
  have s2 : withW l [1, 0, v] = putW l (rowK 4 v) := s2
  have h16 := ((wmay_iff l).1 hv.may).1
  have o1 : okZ 3 (mZ l) = true := okZ_mZ hv.wid (by omega)
  simp only [Int.ofNat_lt, hi, hi3, decide_true, cond_true, Int.natCast_nonneg, Bool.and_self, Int.toNat_natCast, List.drop_zero, hj1, hk, hk3, wi, Nat.zero_add, mZ_len, Nat.le_refl, cut_all (mZ_len l), o1, toZ_mZ, s1, s2, bne_self_eq_false, cond_false, List.append_nil, Nat.add_zero, true_and]
  exact hh
theorem rL_5 (an : Int → Int → Int) (R sp : List (List D)) (n : Nat) (m : Nat) (i : Int) (W : List (List D)) (g0 : Int) (g1 : Int) (g2 : Int) (g3 : Int) (g4 : Int) (g5 : Int) (g6 : Int) (g7 : Int) (g8 : Int) (g9 : Int) (g10 : Int) (g11 : Int) (g12 : Int) (g13 : Int) (g14 : Int) (g15 : Int) (b0 : Bool) (b1 : Bool) (b2 : Bool) (b3 : Bool) (b4 : Bool) (b5 : Bool) (b6 : Bool) (b7 : Bool) (b8 : Bool) (b9 : Bool) (b10 : Bool) (b11 : Bool) (b12 : Bool) (b13 : Bool) (b14 : Bool) (b15 : Bool) (N : X → Prop) (E : Exit → X → Prop) : (roundV Try.prog (gK an [(32, 5), (44, 1)] [(46, sWth), (27, sI)]) Try.f15 0 [(4, 47000)] [0, 3, 4, 5, 6] [4, 5, 6] (v_stL R sp) (fun _ => v_stL R sp) N E (stL R sp n m i W g0 g1 g2 g3 g4 g5 g6 g7 g8 g9 g10 g11 g12 g13 g14 g15 b0 b1 b2 b3 b4 b5 b6 b7 b8 b9 b10 b11 b12 b13 b14 b15)) = (bif decide (i < @Nat.cast Int _ (List.length R)) then bif decide (i < 40) then bif decide (0 ≤ i) && decide (i < @Nat.cast Int _ (List.length R)) then bif isJ [IntKind.i64] (List.drop (0) (List.getD R (Int.toNat i) [])) then an (hdJ (List.drop (0) (List.getD R (Int.toNat i) []))) (15) = 5 ∧ bif decide (0 ≤ i) && decide (i < @Nat.cast Int _ (List.length R)) then bif isJ [IntKind.i64] (List.drop (0) (List.getD R (Int.toNat i) [])) then an (5) (3) = 1 ∧ bif decide (0 + n ≤ List.length W) then bif okZ (3) (cut W (0) n) then bif withE (toZ (cut W (0) n)) [1, 1, an (Int.fdiv (hdJ (List.drop (0) (List.getD R (Int.toNat i) []))) (16)) (255)] != 0 then stL R sp n m i W g0 g1 g2 g3 g4 g5 g6 g7 g8 g9 g10 g11 g12 g13 g14 g15 b0 b1 b2 b3 b4 b5 b6 b7 b8 b9 b10 b11 b12 b13 b14 b15 = stL R sp n m i W g0 g1 g2 g3 g4 g5 g6 g7 g8 g9 g10 g11 g12 g13 g14 g15 b0 b1 b2 b3 b4 b5 b6 b7 b8 b9 b10 b11 b12 b13 b14 b15 ∧ E Exit.ret (stL R sp n m i W g0 g1 g2 g3 g4 g5 g6 g7 g8 g9 g10 g11 g12 g13 g14 g15 b0 b1 b2 b3 b4 b5 b6 b7 b8 b9 b10 b11 b12 b13 b14 b15) else stL R sp (List.length (mZ (withW (toZ (cut W (0) n)) [1, 1, an (Int.fdiv (hdJ (List.drop (0) (List.getD R (Int.toNat i) []))) (16)) (255)]))) (List.length (mZ (withW (toZ (cut W (0) n)) [1, 1, an (Int.fdiv (hdJ (List.drop (0) (List.getD R (Int.toNat i) []))) (16)) (255)])) + 0) (IntKind.wrap IntKind.i64 (i + 1)) (mZ (withW (toZ (cut W (0) n)) [1, 1, an (Int.fdiv (hdJ (List.drop (0) (List.getD R (Int.toNat i) []))) (16)) (255)]) ++ []) g0 g1 g2 g3 g4 (an (Int.fdiv (hdJ (List.drop (0) (List.getD R (Int.toNat i) []))) (16)) (255)) g6 g7 g8 g9 g10 g11 g12 g13 g14 g15 b0 b1 b2 b3 b4 true b6 b7 b8 b9 b10 b11 b12 b13 b14 b15 = stL R sp (List.length (mZ (withW (toZ (cut W (0) n)) [1, 1, an (Int.fdiv (hdJ (List.drop (0) (List.getD R (Int.toNat i) []))) (16)) (255)]))) (List.length (mZ (withW (toZ (cut W (0) n)) [1, 1, an (Int.fdiv (hdJ (List.drop (0) (List.getD R (Int.toNat i) []))) (16)) (255)])) + 0) (IntKind.wrap IntKind.i64 (i + 1)) (mZ (withW (toZ (cut W (0) n)) [1, 1, an (Int.fdiv (hdJ (List.drop (0) (List.getD R (Int.toNat i) []))) (16)) (255)]) ++ []) g0 g1 g2 g3 g4 (an (Int.fdiv (hdJ (List.drop (0) (List.getD R (Int.toNat i) []))) (16)) (255)) g6 g7 g8 g9 g10 g11 g12 g13 g14 g15 b0 b1 b2 b3 b4 true b6 b7 b8 b9 b10 b11 b12 b13 b14 b15 ∧ N (stL R sp (List.length (mZ (withW (toZ (cut W (0) n)) [1, 1, an (Int.fdiv (hdJ (List.drop (0) (List.getD R (Int.toNat i) []))) (16)) (255)]))) (List.length (mZ (withW (toZ (cut W (0) n)) [1, 1, an (Int.fdiv (hdJ (List.drop (0) (List.getD R (Int.toNat i) []))) (16)) (255)])) + 0) (IntKind.wrap IntKind.i64 (i + 1)) (mZ (withW (toZ (cut W (0) n)) [1, 1, an (Int.fdiv (hdJ (List.drop (0) (List.getD R (Int.toNat i) []))) (16)) (255)]) ++ []) g0 g1 g2 g3 g4 (an (Int.fdiv (hdJ (List.drop (0) (List.getD R (Int.toNat i) []))) (16)) (255)) g6 g7 g8 g9 g10 g11 g12 g13 g14 g15 b0 b1 b2 b3 b4 true b6 b7 b8 b9 b10 b11 b12 b13 b14 b15) else False else False else False else False else False else False else stL R sp n m i W g0 g1 g2 g3 g4 g5 g6 g7 g8 g9 g10 g11 g12 g13 g14 g15 b0 b1 b2 b3 b4 b5 b6 b7 b8 b9 b10 b11 b12 b13 b14 b15 = stL R sp n m i W g0 g1 g2 g3 g4 g5 g6 g7 g8 g9 g10 g11 g12 g13 g14 g15 b0 b1 b2 b3 b4 b5 b6 b7 b8 b9 b10 b11 b12 b13 b14 b15 ∧ E (Exit.exit (0)) (stL R sp n m i W g0 g1 g2 g3 g4 g5 g6 g7 g8 g9 g10 g11 g12 g13 g14 g15 b0 b1 b2 b3 b4 b5 b6 b7 b8 b9 b10 b11 b12 b13 b14 b15) else stL R sp n m i W g0 g1 g2 g3 g4 g5 g6 g7 g8 g9 g10 g11 g12 g13 g14 g15 b0 b1 b2 b3 b4 b5 b6 b7 b8 b9 b10 b11 b12 b13 b14 b15 = stL R sp n m i W g0 g1 g2 g3 g4 g5 g6 g7 g8 g9 g10 g11 g12 g13 g14 g15 b0 b1 b2 b3 b4 b5 b6 b7 b8 b9 b10 b11 b12 b13 b14 b15 ∧ E (Exit.exit (0)) (stL R sp n m i W g0 g1 g2 g3 g4 g5 g6 g7 g8 g9 g10 g11 g12 g13 g14 g15 b0 b1 b2 b3 b4 b5 b6 b7 b8 b9 b10 b11 b12 b13 b14 b15)) := by kernel_rfl
theorem qL_5 {R sp : List (List D)} {l : List (List Int)} {g : Nat → Int} {f : Nat → Bool} {i : Nat} (hR : okZ 1 R = true) (hv : InvL l g f) (hi : i < R.length) (hi2 : i < 40) (hk : band (hdJ (R.getD i [])) 15 = 5) {N : X → Prop} {E : Exit → X → Prop}
    (h : ∀ v, (0 ≤ v ∧ v ≤ 255) → N (sfL R sp (putW l (rowK 5 v)) (updI g 5 v) (updB f 5 true) ((i + 1 : Nat) : Int))) : roundV Try.prog (gK band [(32, 5), (44, 1)] [(46, sWth), (27, sI)]) Try.f15 0 [(4, 47000)] [0, 3, 4, 5, 6] [4, 5, 6] (v_stL R sp) (fun _ => v_stL R sp) N E (sfL R sp l g f i) := by
  unfold sfL
  rw [rL_5]
  simp only [List.drop_zero, Int.toNat_natCast]
  obtain ⟨el, hw, hn⟩ := okZ_spec hR
  have hll : i < (toZ R).length := by rw [toZ_len]; exact hi
  have hj1 : isJ [IntKind.i64] (R.getD i []) = true := by
    rw [el]; exact isJ_mZ (j := 0) (n := 1) hw hll (by omega)
  have wi : IntKind.wrap .i64 ((i : Int) + 1) = ((i + 1 : Nat) : Int) := wrap_nat (n := 1) (by omega)
  have hi3 : (i : Int) < 40 := by omega
  have hk3 : band 5 3 = 1 := by rw [mask2]; rfl
  have hc : 0 ≤ band (Int.fdiv (hdJ (R.getD i [])) 16) 255 ∧ band (Int.fdiv (hdJ (R.getD i [])) 16) 255 ≤ 255 := by rw [mask8]; omega
  have hh := h _ hc
  obtain ⟨s1, s2, s3⟩ := hv.step (k := 5) (by omega) hc
  generalize band (Int.fdiv (hdJ (R.getD i [])) 16) 255 = v at *
  have s1 : withE l [1, 1, v] = 0 := s1
  have s2 : withW l [1, 1, v] = putW l (rowK 5 v) := s2
  have h16 := ((wmay_iff l).1 hv.may).1
  have o1 : okZ 3 (mZ l) = true := okZ_mZ hv.wid (by omega)
  simp only [Int.ofNat_lt, hi, hi3, decide_true, cond_true, Int.natCast_nonneg, Bool.and_self, Int.toNat_natCast, List.drop_zero, hj1, hk, hk3, wi, Nat.zero_add, mZ_len, Nat.le_refl, cut_all (mZ_len l), o1, toZ_mZ, s1, s2, bne_self_eq_false, cond_false, List.append_nil, Nat.add_zero, true_and]
  exact hh
theorem rL_6 (an : Int → Int → Int) (R sp : List (List D)) (n : Nat) (m : Nat) (i : Int) (W : List (List D)) (g0 : Int) (g1 : Int) (g2 : Int) (g3 : Int) (g4 : Int) (g5 : Int) (g6 : Int) (g7 : Int) (g8 : Int) (g9 : Int) (g10 : Int) (g11 : Int) (g12 : Int) (g13 : Int) (g14 : Int) (g15 : Int) (b0 : Bool) (b1 : Bool) (b2 : Bool) (b3 : Bool) (b4 : Bool) (b5 : Bool) (b6 : Bool) (b7 : Bool) (b8 : Bool) (b9 : Bool) (b10 : Bool) (b11 : Bool) (b12 : Bool) (b13 : Bool) (b14 : Bool) (b15 : Bool) (N : X → Prop) (E : Exit → X → Prop) : (roundV Try.prog (gK an [(32, 6), (44, 2)] [(46, sWth), (27, sI)]) Try.f15 0 [(4, 47000)] [0, 3, 4, 5, 6] [4, 5, 6] (v_stL R sp) (fun _ => v_stL R sp) N E (stL R sp n m i W g0 g1 g2 g3 g4 g5 g6 g7 g8 g9 g10 g11 g12 g13 g14 g15 b0 b1 b2 b3 b4 b5 b6 b7 b8 b9 b10 b11 b12 b13 b14 b15)) = (bif decide (i < @Nat.cast Int _ (List.length R)) then bif decide (i < 40) then bif decide (0 ≤ i) && decide (i < @Nat.cast Int _ (List.length R)) then bif isJ [IntKind.i64] (List.drop (0) (List.getD R (Int.toNat i) [])) then an (hdJ (List.drop (0) (List.getD R (Int.toNat i) []))) (15) = 6 ∧ bif decide (0 ≤ i) && decide (i < @Nat.cast Int _ (List.length R)) then bif isJ [IntKind.i64] (List.drop (0) (List.getD R (Int.toNat i) [])) then an (6) (3) = 2 ∧ bif decide (0 + n ≤ List.length W) then bif okZ (3) (cut W (0) n) then bif withE (toZ (cut W (0) n)) [1, 2, an (Int.fdiv (hdJ (List.drop (0) (List.getD R (Int.toNat i) []))) (16)) (255)] != 0 then stL R sp n m i W g0 g1 g2 g3 g4 g5 g6 g7 g8 g9 g10 g11 g12 g13 g14 g15 b0 b1 b2 b3 b4 b5 b6 b7 b8 b9 b10 b11 b12 b13 b14 b15 = stL R sp n m i W g0 g1 g2 g3 g4 g5 g6 g7 g8 g9 g10 g11 g12 g13 g14 g15 b0 b1 b2 b3 b4 b5 b6 b7 b8 b9 b10 b11 b12 b13 b14 b15 ∧ E Exit.ret (stL R sp n m i W g0 g1 g2 g3 g4 g5 g6 g7 g8 g9 g10 g11 g12 g13 g14 g15 b0 b1 b2 b3 b4 b5 b6 b7 b8 b9 b10 b11 b12 b13 b14 b15) else stL R sp (List.length (mZ (withW (toZ (cut W (0) n)) [1, 2, an (Int.fdiv (hdJ (List.drop (0) (List.getD R (Int.toNat i) []))) (16)) (255)]))) (List.length (mZ (withW (toZ (cut W (0) n)) [1, 2, an (Int.fdiv (hdJ (List.drop (0) (List.getD R (Int.toNat i) []))) (16)) (255)])) + 0) (IntKind.wrap IntKind.i64 (i + 1)) (mZ (withW (toZ (cut W (0) n)) [1, 2, an (Int.fdiv (hdJ (List.drop (0) (List.getD R (Int.toNat i) []))) (16)) (255)]) ++ []) g0 g1 g2 g3 g4 g5 (an (Int.fdiv (hdJ (List.drop (0) (List.getD R (Int.toNat i) []))) (16)) (255)) g7 g8 g9 g10 g11 g12 g13 g14 g15 b0 b1 b2 b3 b4 b5 true b7 b8 b9 b10 b11 b12 b13 b14 b15 = stL R sp (List.length (mZ (withW (toZ (cut W (0) n)) [1, 2, an (Int.fdiv (hdJ (List.drop (0) (List.getD R (Int.toNat i) []))) (16)) (255)]))) (List.length (mZ (withW (toZ (cut W (0) n)) [1, 2, an (Int.fdiv (hdJ (List.drop (0) (List.getD R (Int.toNat i) []))) (16)) (255)])) + 0) (IntKind.wrap IntKind.i64 (i + 1)) (mZ (withW (toZ (cut W (0) n)) [1, 2, an (Int.fdiv (hdJ (List.drop (0) (List.getD R (Int.toNat i) []))) (16)) (255)]) ++ []) g0 g1 g2 g3 g4 g5 (an (Int.fdiv (hdJ (List.drop (0) (List.getD R (Int.toNat i) []))) (16)) (255)) g7 g8 g9 g10 g11 g12 g13 g14 g15 b0 b1 b2 b3 b4 b5 true b7 b8 b9 b10 b11 b12 b13 b14 b15 ∧ N (stL R sp (List.length (mZ (withW (toZ (cut W (0) n)) [1, 2, an (Int.fdiv (hdJ (List.drop (0) (List.getD R (Int.toNat i) []))) (16)) (255)]))) (List.length (mZ (withW (toZ (cut W (0) n)) [1, 2, an (Int.fdiv (hdJ (List.drop (0) (List.getD R (Int.toNat i) []))) (16)) (255)])) + 0) (IntKind.wrap IntKind.i64 (i + 1)) (mZ (withW (toZ (cut W (0) n)) [1, 2, an (Int.fdiv (hdJ (List.drop (0) (List.getD R (Int.toNat i) []))) (16)) (255)]) ++ []) g0 g1 g2 g3 g4 g5 (an (Int.fdiv (hdJ (List.drop (0) (List.getD R (Int.toNat i) []))) (16)) (255)) g7 g8 g9 g10 g11 g12 g13 g14 g15 b0 b1 b2 b3 b4 b5 true b7 b8 b9 b10 b11 b12 b13 b14 b15) else False else False else False else False else False else False else stL R sp n m i W g0 g1 g2 g3 g4 g5 g6 g7 g8 g9 g10 g11 g12 g13 g14 g15 b0 b1 b2 b3 b4 b5 b6 b7 b8 b9 b10 b11 b12 b13 b14 b15 = stL R sp n m i W g0 g1 g2 g3 g4 g5 g6 g7 g8 g9 g10 g11 g12 g13 g14 g15 b0 b1 b2 b3 b4 b5 b6 b7 b8 b9 b10 b11 b12 b13 b14 b15 ∧ E (Exit.exit (0)) (stL R sp n m i W g0 g1 g2 g3 g4 g5 g6 g7 g8 g9 g10 g11 g12 g13 g14 g15 b0 b1 b2 b3 b4 b5 b6 b7 b8 b9 b10 b11 b12 b13 b14 b15) else stL R sp n m i W g0 g1 g2 g3 g4 g5 g6 g7 g8 g9 g10 g11 g12 g13 g14 g15 b0 b1 b2 b3 b4 b5 b6 b7 b8 b9 b10 b11 b12 b13 b14 b15 = stL R sp n m i W g0 g1 g2 g3 g4 g5 g6 g7 g8 g9 g10 g11 g12 g13 g14 g15 b0 b1 b2 b3 b4 b5 b6 b7 b8 b9 b10 b11 b12 b13 b14 b15 ∧ E (Exit.exit (0)) (stL R sp n m i W g0 g1 g2 g3 g4 g5 g6 g7 g8 g9 g10 g11 g12 g13 g14 g15 b0 b1 b2 b3 b4 b5 b6 b7 b8 b9 b10 b11 b12 b13 b14 b15)) := by kernel_rfl
theorem qL_6 {R sp : List (List D)} {l : List (List Int)} {g : Nat → Int} {f : Nat → Bool} {i : Nat} (hR : okZ 1 R = true) (hv : InvL l g f) (hi : i < R.length) (hi2 : i < 40) (hk : band (hdJ (R.getD i [])) 15 = 6) {N : X → Prop} {E : Exit → X → Prop}
    (h : ∀ v, (0 ≤ v ∧ v ≤ 255) → N (sfL R sp (putW l (rowK 6 v)) (updI g 6 v) (updB f 6 true) ((i + 1 : Nat) : Int))) : roundV Try.prog (gK band [(32, 6), (44, 2)] [(46, sWth), (27, sI)]) Try.f15 0 [(4, 47000)] [0, 3, 4, 5, 6] [4, 5, 6] (v_stL R sp) (fun _ => v_stL R sp) N E (sfL R sp l g f i) := by
  unfold sfL
  rw [rL_6]
  simp only [List.drop_zero, Int.toNat_natCast]
  obtain ⟨el, hw, hn⟩ := okZ_spec hR
  have hll : i < (toZ R).length := by rw [toZ_len]; exact hi
  have hj1 : isJ [IntKind.i64] (R.getD i []) = true := by
    rw [el]; exact isJ_mZ (j := 0) (n := 1) hw hll (by omega)
  have wi : IntKind.wrap .i64 ((i : Int) + 1) = ((i + 1 : Nat) : Int) := wrap_nat (n := 1) (by omega)
  have hi3 : (i : Int) < 40 := by omega
  have hk3 : band 6 3 = 2 := by rw [mask2]; rfl
  have hc : 0 ≤ band (Int.fdiv (hdJ (R.getD i [])) 16) 255 ∧ band (Int.fdiv (hdJ (R.getD i [])) 16) 255 ≤ 255 := by rw [mask8]; omega
  have hh := h _ hc
  obtain ⟨s1, s2, s3⟩ := hv.step (k := 6) (by omega) hc
  generalize band (Int.fdiv (hdJ (R.getD i [])) 16) 255 = v at *
  have s1 : withE l [1, 2, v] = 0 := s1
  have s2 : withW l [1, 2, v] = putW l (rowK 6 v) := s2
  have h16 := ((wmay_iff l).1 hv.may).1
  have o1 : okZ 3 (mZ l) = true := okZ_mZ hv.wid (by omega)
  simp only [Int.ofNat_lt, hi, hi3, decide_true, cond_true, Int.natCast_nonneg, Bool.and_self, Int.toNat_natCast, List.drop_zero, hj1, hk, hk3, wi, Nat.zero_add, mZ_len, Nat.le_refl, cut_all (mZ_len l), o1, toZ_mZ, s1, s2, bne_self_eq_false, cond_false, List.append_nil, Nat.add_zero, true_and]
  exact hh
theorem rL_7 (an : Int → Int → Int) (R sp : List (List D)) (n : Nat) (m : Nat) (i : Int) (W : List (List D)) (g0 : Int) (g1 : Int) (g2 : Int) (g3 : Int) (g4 : Int) (g5 : Int) (g6 : Int) (g7 : Int) (g8 : Int) (g9 : Int) (g10 : Int) (g11 : Int) (g12 : Int) (g13 : Int) (g14 : Int) (g15 : Int) (b0 : Bool) (b1 : Bool) (b2 : Bool) (b3 : Bool) (b4 : Bool) (b5 : Bool) (b6 : Bool) (b7 : Bool) (b8 : Bool) (b9 : Bool) (b10 : Bool) (b11 : Bool) (b12 : Bool) (b13 : Bool) (b14 : Bool) (b15 : Bool) (N : X → Prop) (E : Exit → X → Prop) : (roundV Try.prog (gK an [(32, 7), (44, 3)] [(46, sWth), (27, sI)]) Try.f15 0 [(4, 47000)] [0, 3, 4, 5, 6] [4, 5, 6] (v_stL R sp) (fun _ => v_stL R sp) N E (stL R sp n m i W g0 g1 g2 g3 g4 g5 g6 g7 g8 g9 g10 g11 g12 g13 g14 g15 b0 b1 b2 b3 b4 b5 b6 b7 b8 b9 b10 b11 b12 b13 b14 b15)) = (bif decide (i < @Nat.cast Int _ (List.length R)) then bif decide (i < 40) then bif decide (0 ≤ i) && decide (i < @Nat.cast Int _ (List.length R)) then bif isJ [IntKind.i64] (List.drop (0) (List.getD R (Int.toNat i) [])) then an (hdJ (List.drop (0) (List.getD R (Int.toNat i) []))) (15) = 7 ∧ bif decide (0 ≤ i) && decide (i < @Nat.cast Int _ (List.length R)) then bif isJ [IntKind.i64] (List.drop (0) (List.getD R (Int.toNat i) [])) then an (7) (3) = 3 ∧ bif decide (0 + n ≤ List.length W) then bif okZ (3) (cut W (0) n) then bif withE (toZ (cut W (0) n)) [1, 3, an (Int.fdiv (hdJ (List.drop (0) (List.getD R (Int.toNat i) []))) (16)) (255)] != 0 then stL R sp n m i W g0 g1 g2 g3 g4 g5 g6 g7 g8 g9 g10 g11 g12 g13 g14 g15 b0 b1 b2 b3 b4 b5 b6 b7 b8 b9 b10 b11 b12 b13 b14 b15 = stL R sp n m i W g0 g1 g2 g3 g4 g5 g6 g7 g8 g9 g10 g11 g12 g13 g14 g15 b0 b1 b2 b3 b4 b5 b6 b7 b8 b9 b10 b11 b12 b13 b14 b15 ∧ E Exit.ret (stL R sp n m i W g0 g1 g2 g3 g4 g5 g6 g7 g8 g9 g10 g11 g12 g13 g14 g15 b0 b1 b2 b3 b4 b5 b6 b7 b8 b9 b10 b11 b12 b13 b14 b15) else stL R sp (List.length (mZ (withW (toZ (cut W (0) n)) [1, 3, an (Int.fdiv (hdJ (List.drop (0) (List.getD R (Int.toNat i) []))) (16)) (255)]))) (List.length (mZ (withW (toZ (cut W (0) n)) [1, 3, an (Int.fdiv (hdJ (List.drop (0) (List.getD R (Int.toNat i) []))) (16)) (255)])) + 0) (IntKind.wrap IntKind.i64 (i + 1)) (mZ (withW (toZ (cut W (0) n)) [1, 3, an (Int.fdiv (hdJ (List.drop (0) (List.getD R (Int.toNat i) []))) (16)) (255)]) ++ []) g0 g1 g2 g3 g4 g5 g6 (an (Int.fdiv (hdJ (List.drop (0) (List.getD R (Int.toNat i) []))) (16)) (255)) g8 g9 g10 g11 g12 g13 g14 g15 b0 b1 b2 b3 b4 b5 b6 true b8 b9 b10 b11 b12 b13 b14 b15 = stL R sp (List.length (mZ (withW (toZ (cut W (0) n)) [1, 3, an (Int.fdiv (hdJ (List.drop (0) (List.getD R (Int.toNat i) []))) (16)) (255)]))) (List.length (mZ (withW (toZ (cut W (0) n)) [1, 3, an (Int.fdiv (hdJ (List.drop (0) (List.getD R (Int.toNat i) []))) (16)) (255)])) + 0) (IntKind.wrap IntKind.i64 (i + 1)) (mZ (withW (toZ (cut W (0) n)) [1, 3, an (Int.fdiv (hdJ (List.drop (0) (List.getD R (Int.toNat i) []))) (16)) (255)]) ++ []) g0 g1 g2 g3 g4 g5 g6 (an (Int.fdiv (hdJ (List.drop (0) (List.getD R (Int.toNat i) []))) (16)) (255)) g8 g9 g10 g11 g12 g13 g14 g15 b0 b1 b2 b3 b4 b5 b6 true b8 b9 b10 b11 b12 b13 b14 b15 ∧ N (stL R sp (List.length (mZ (withW (toZ (cut W (0) n)) [1, 3, an (Int.fdiv (hdJ (List.drop (0) (List.getD R (Int.toNat i) []))) (16)) (255)]))) (List.length (mZ (withW (toZ (cut W (0) n)) [1, 3, an (Int.fdiv (hdJ (List.drop (0) (List.getD R (Int.toNat i) []))) (16)) (255)])) + 0) (IntKind.wrap IntKind.i64 (i + 1)) (mZ (withW (toZ (cut W (0) n)) [1, 3, an (Int.fdiv (hdJ (List.drop (0) (List.getD R (Int.toNat i) []))) (16)) (255)]) ++ []) g0 g1 g2 g3 g4 g5 g6 (an (Int.fdiv (hdJ (List.drop (0) (List.getD R (Int.toNat i) []))) (16)) (255)) g8 g9 g10 g11 g12 g13 g14 g15 b0 b1 b2 b3 b4 b5 b6 true b8 b9 b10 b11 b12 b13 b14 b15) else False else False else False else False else False else False else stL R sp n m i W g0 g1 g2 g3 g4 g5 g6 g7 g8 g9 g10 g11 g12 g13 g14 g15 b0 b1 b2 b3 b4 b5 b6 b7 b8 b9 b10 b11 b12 b13 b14 b15 = stL R sp n m i W g0 g1 g2 g3 g4 g5 g6 g7 g8 g9 g10 g11 g12 g13 g14 g15 b0 b1 b2 b3 b4 b5 b6 b7 b8 b9 b10 b11 b12 b13 b14 b15 ∧ E (Exit.exit (0)) (stL R sp n m i W g0 g1 g2 g3 g4 g5 g6 g7 g8 g9 g10 g11 g12 g13 g14 g15 b0 b1 b2 b3 b4 b5 b6 b7 b8 b9 b10 b11 b12 b13 b14 b15) else stL R sp n m i W g0 g1 g2 g3 g4 g5 g6 g7 g8 g9 g10 g11 g12 g13 g14 g15 b0 b1 b2 b3 b4 b5 b6 b7 b8 b9 b10 b11 b12 b13 b14 b15 = stL R sp n m i W g0 g1 g2 g3 g4 g5 g6 g7 g8 g9 g10 g11 g12 g13 g14 g15 b0 b1 b2 b3 b4 b5 b6 b7 b8 b9 b10 b11 b12 b13 b14 b15 ∧ E (Exit.exit (0)) (stL R sp n m i W g0 g1 g2 g3 g4 g5 g6 g7 g8 g9 g10 g11 g12 g13 g14 g15 b0 b1 b2 b3 b4 b5 b6 b7 b8 b9 b10 b11 b12 b13 b14 b15)) := by kernel_rfl
theorem qL_7 {R sp : List (List D)} {l : List (List Int)} {g : Nat → Int} {f : Nat → Bool} {i : Nat} (hR : okZ 1 R = true) (hv : InvL l g f) (hi : i < R.length) (hi2 : i < 40) (hk : band (hdJ (R.getD i [])) 15 = 7) {N : X → Prop} {E : Exit → X → Prop}
    (h : ∀ v, (0 ≤ v ∧ v ≤ 255) → N (sfL R sp (putW l (rowK 7 v)) (updI g 7 v) (updB f 7 true) ((i + 1 : Nat) : Int))) : roundV Try.prog (gK band [(32, 7), (44, 3)] [(46, sWth), (27, sI)]) Try.f15 0 [(4, 47000)] [0, 3, 4, 5, 6] [4, 5, 6] (v_stL R sp) (fun _ => v_stL R sp) N E (sfL R sp l g f i) := by
  unfold sfL
  rw [rL_7]
  simp only [List.drop_zero, Int.toNat_natCast]
  obtain ⟨el, hw, hn⟩ := okZ_spec hR
  have hll : i < (toZ R).length := by rw [toZ_len]; exact hi
  have hj1 : isJ [IntKind.i64] (R.getD i []) = true := by
    rw [el]; exact isJ_mZ (j := 0) (n := 1) hw hll (by omega)
  have wi : IntKind.wrap .i64 ((i : Int) + 1) = ((i + 1 : Nat) : Int) := wrap_nat (n := 1) (by omega)
  have hi3 : (i : Int) < 40 := by omega
  have hk3 : band 7 3 = 3 := by rw [mask2]; rfl
  have hc : 0 ≤ band (Int.fdiv (hdJ (R.getD i [])) 16) 255 ∧ band (Int.fdiv (hdJ (R.getD i [])) 16) 255 ≤ 255 := by rw [mask8]; omega
  have hh := h _ hc
  obtain ⟨s1, s2, s3⟩ := hv.step (k := 7) (by omega) hc
  generalize band (Int.fdiv (hdJ (R.getD i [])) 16) 255 = v at *
  have s1 : withE l [1, 3, v] = 0 := s1
  have s2 : withW l [1, 3, v] = putW l (rowK 7 v) := s2
  have h16 := ((wmay_iff l).1 hv.may).1
  have o1 : okZ 3 (mZ l) = true := okZ_mZ hv.wid (by omega)
  simp only [Int.ofNat_lt, hi, hi3, decide_true, cond_true, Int.natCast_nonneg, Bool.and_self, Int.toNat_natCast, List.drop_zero, hj1, hk, hk3, wi, Nat.zero_add, mZ_len, Nat.le_refl, cut_all (mZ_len l), o1, toZ_mZ, s1, s2, bne_self_eq_false, cond_false, List.append_nil, Nat.add_zero, true_and]
  exact hh
theorem rL_8 (an : Int → Int → Int) (R sp : List (List D)) (n : Nat) (m : Nat) (i : Int) (W : List (List D)) (g0 : Int) (g1 : Int) (g2 : Int) (g3 : Int) (g4 : Int) (g5 : Int) (g6 : Int) (g7 : Int) (g8 : Int) (g9 : Int) (g10 : Int) (g11 : Int) (g12 : Int) (g13 : Int) (g14 : Int) (g15 : Int) (b0 : Bool) (b1 : Bool) (b2 : Bool) (b3 : Bool) (b4 : Bool) (b5 : Bool) (b6 : Bool) (b7 : Bool) (b8 : Bool) (b9 : Bool) (b10 : Bool) (b11 : Bool) (b12 : Bool) (b13 : Bool) (b14 : Bool) (b15 : Bool) (N : X → Prop) (E : Exit → X → Prop) : (roundV Try.prog (gK an [(32, 8), (44, 0)] [(46, sWth), (27, sI)]) Try.f15 0 [(4, 47000)] [0, 3, 4, 5, 6] [4, 5, 6] (v_stL R sp) (fun _ => v_stL R sp) N E (stL R sp n m i W g0 g1 g2 g3 g4 g5 g6 g7 g8 g9 g10 g11 g12 g13 g14 g15 b0 b1 b2 b3 b4 b5 b6 b7 b8 b9 b10 b11 b12 b13 b14 b15)) = (bif decide (i < @Nat.cast Int _ (List.length R)) then bif decide (i < 40) then bif decide (0 ≤ i) && decide (i < @Nat.cast Int _ (List.length R)) then bif isJ [IntKind.i64] (List.drop (0) (List.getD R (Int.toNat i) [])) then an (hdJ (List.drop (0) (List.getD R (Int.toNat i) []))) (15) = 8 ∧ bif decide (0 ≤ i) && decide (i < @Nat.cast Int _ (List.length R)) then bif isJ [IntKind.i64] (List.drop (0) (List.getD R (Int.toNat i) [])) then an (8) (3) = 0 ∧ bif decide (0 + n ≤ List.length W) then bif okZ (3) (cut W (0) n) then bif withE (toZ (cut W (0) n)) [2, 0, an (Int.fdiv (hdJ (List.drop (0) (List.getD R (Int.toNat i) []))) (16)) (255)] != 0 then stL R sp n m i W g0 g1 g2 g3 g4 g5 g6 g7 g8 g9 g10 g11 g12 g13 g14 g15 b0 b1 b2 b3 b4 b5 b6 b7 b8 b9 b10 b11 b12 b13 b14 b15 = stL R sp n m i W g0 g1 g2 g3 g4 g5 g6 g7 g8 g9 g10 g11 g12 g13 g14 g15 b0 b1 b2 b3 b4 b5 b6 b7 b8 b9 b10 b11 b12 b13 b14 b15 ∧ E Exit.ret (stL R sp n m i W g0 g1 g2 g3 g4 g5 g6 g7 g8 g9 g10 g11 g12 g13 g14 g15 b0 b1 b2 b3 b4 b5 b6 b7 b8 b9 b10 b11 b12 b13 b14 b15) else stL R sp (List.length (mZ (withW (toZ (cut W (0) n)) [2, 0, an (Int.fdiv (hdJ (List.drop (0) (List.getD R (Int.toNat i) []))) (16)) (255)]))) (List.length (mZ (withW (toZ (cut W (0) n)) [2, 0, an (Int.fdiv (hdJ (List.drop (0) (List.getD R (Int.toNat i) []))) (16)) (255)])) + 0) (IntKind.wrap IntKind.i64 (i + 1)) (mZ (withW (toZ (cut W (0) n)) [2, 0, an (Int.fdiv (hdJ (List.drop (0) (List.getD R (Int.toNat i) []))) (16)) (255)]) ++ []) g0 g1 g2 g3 g4 g5 g6 g7 (an (Int.fdiv (hdJ (List.drop (0) (List.getD R (Int.toNat i) []))) (16)) (255)) g9 g10 g11 g12 g13 g14 g15 b0 b1 b2 b3 b4 b5 b6 b7 true b9 b10 b11 b12 b13 b14 b15 = stL R sp (List.length (mZ (withW (toZ (cut W (0) n)) [2, 0, an (Int.fdiv (hdJ (List.drop (0) (List.getD R (Int.toNat i) []))) (16)) (255)]))) (List.length (mZ (withW (toZ (cut W (0) n)) [2, 0, an (Int.fdiv (hdJ (List.drop (0) (List.getD R (Int.toNat i) []))) (16)) (255)])) + 0) (IntKind.wrap IntKind.i64 (i + 1)) (mZ (withW (toZ (cut W (0) n)) [2, 0, an (Int.fdiv (hdJ (List.drop (0) (List.getD R (Int.toNat i) []))) (16)) (255)]) ++ []) g0 g1 g2 g3 g4 g5 g6 g7 (an (Int.fdiv (hdJ (List.drop (0) (List.getD R (Int.toNat i) []))) (16)) (255)) g9 g10 g11 g12 g13 g14 g15 b0 b1 b2 b3 b4 b5 b6 b7 true b9 b10 b11 b12 b13 b14 b15 ∧ N (stL R sp (List.length (mZ (withW (toZ (cut W (0) n)) [2, 0, an (Int.fdiv (hdJ (List.drop (0) (List.getD R (Int.toNat i) []))) (16)) (255)]))) (List.length (mZ (withW (toZ (cut W (0) n)) [2, 0, an (Int.fdiv (hdJ (List.drop (0) (List.getD R (Int.toNat i) []))) (16)) (255)])) + 0) (IntKind.wrap IntKind.i64 (i + 1)) (mZ (withW (toZ (cut W (0) n)) [2, 0, an (Int.fdiv (hdJ (List.drop (0) (List.getD R (Int.toNat i) []))) (16)) (255)]) ++ []) g0 g1 g2 g3 g4 g5 g6 g7 (an (Int.fdiv (hdJ (List.drop (0) (List.getD R (Int.toNat i) []))) (16)) (255)) g9 g10 g11 g12 g13 g14 g15 b0 b1 b2 b3 b4 b5 b6 b7 true b9 b10 b11 b12 b13 b14 b15) else False else False else False else False else False else False else stL R sp n m i W g0 g1 g2 g3 g4 g5 g6 g7 g8 g9 g10 g11 g12 g13 g14 g15 b0 b1 b2 b3 b4 b5 b6 b7 b8 b9 b10 b11 b12 b13 b14 b15 = stL R sp n m i W g0 g1 g2 g3 g4 g5 g6 g7 g8 g9 g10 g11 g12 g13 g14 g15 b0 b1 b2 b3 b4 b5 b6 b7 b8 b9 b10 b11 b12 b13 b14 b15 ∧ E (Exit.exit (0)) (stL R sp n m i W g0 g1 g2 g3 g4 g5 g6 g7 g8 g9 g10 g11 g12 g13 g14 g15 b0 b1 b2 b3 b4 b5 b6 b7 b8 b9 b10 b11 b12 b13 b14 b15) else stL R sp n m i W g0 g1 g2 g3 g4 g5 g6 g7 g8 g9 g10 g11 g12 g13 g14 g15 b0 b1 b2 b3 b4 b5 b6 b7 b8 b9 b10 b11 b12 b13 b14 b15 = stL R sp n m i W g0 g1 g2 g3 g4 g5 g6 g7 g8 g9 g10 g11 g12 g13 g14 g15 b0 b1 b2 b3 b4 b5 b6 b7 b8 b9 b10 b11 b12 b13 b14 b15 ∧ E (Exit.exit (0)) (stL R sp n m i W g0 g1 g2 g3 g4 g5 g6 g7 g8 g9 g10 g11 g12 g13 g14 g15 b0 b1 b2 b3 b4 b5 b6 b7 b8 b9 b10 b11 b12 b13 b14 b15)) := by kernel_rfl
theorem qL_8 {R sp : List (List D)} {l : List (List Int)} {g : Nat → Int} {f : Nat → Bool} {i : Nat} (hR : okZ 1 R = true) (hv : InvL l g f) (hi : i < R.length) (hi2 : i < 40) (hk : band (hdJ (R.getD i [])) 15 = 8) {N : X → Prop} {E : Exit → X → Prop}
    (h : ∀ v, (0 ≤ v ∧ v ≤ 255) → N (sfL R sp (putW l (rowK 8 v)) (updI g 8 v) (updB f 8 true) ((i + 1 : Nat) : Int))) : roundV Try.prog (gK band [(32, 8), (44, 0)] [(46, sWth), (27, sI)]) Try.f15 0 [(4, 47000)] [0, 3, 4, 5, 6] [4, 5, 6] (v_stL R sp) (fun _ => v_stL R sp) N E (sfL R sp l g f i) := by
  unfold sfL
  rw [rL_8]
  simp only [List.drop_zero, Int.toNat_natCast]
  obtain ⟨el, hw, hn⟩ := okZ_spec hR
  have hll : i < (toZ R).length := by rw [toZ_len]; exact hi
  have hj1 : isJ [IntKind.i64] (R.getD i []) = true := by
    rw [el]; exact isJ_mZ (j := 0) (n := 1) hw hll (by omega)
  have wi : IntKind.wrap .i64 ((i : Int) + 1) = ((i + 1 : Nat) : Int) := wrap_nat (n := 1) (by omega)
  have hi3 : (i : Int) < 40 := by omega
  have hk3 : band 8 3 = 0 := by rw [mask2]; rfl
  have hc : 0 ≤ band (Int.fdiv (hdJ (R.getD i [])) 16) 255 ∧ band (Int.fdiv (hdJ (R.getD i [])) 16) 255 ≤ 255 := by rw [mask8]; omega
  have hh := h _ hc
  obtain ⟨s1, s2, s3⟩ := hv.step (k := 8) (by omega) hc
  generalize band (Int.fdiv (hdJ (R.getD i [])) 16) 255 = v at *
  have s1 : withE l [2, 0, v] = 0 := s1
  have s2 : withW l [2, 0, v] = putW l (rowK 8 v) := s2
  have h16 := ((wmay_iff l).1 hv.may).1
  have o1 : okZ 3 (mZ l) = true := okZ_mZ hv.wid (by omega)
  simp only [Int.ofNat_lt, hi, hi3, decide_true, cond_true, Int.natCast_nonneg, Bool.and_self, Int.toNat_natCast, List.drop_zero, hj1, hk, hk3, wi, Nat.zero_add, mZ_len, Nat.le_refl, cut_all (mZ_len l), o1, toZ_mZ, s1, s2, bne_self_eq_false, cond_false, List.append_nil, Nat.add_zero, true_and]
  exact hh
theorem rL_9 (an : Int → Int → Int) (R sp : List (List D)) (n : Nat) (m : Nat) (i : Int) (W : List (List D)) (g0 : Int) (g1 : Int) (g2 : Int) (g3 : Int) (g4 : Int) (g5 : Int) (g6 : Int) (g7 : Int) (g8 : Int) (g9 : Int) (g10 : Int) (g11 : Int) (g12 : Int) (g13 : Int) (g14 : Int) (g15 : Int) (b0 : Bool) (b1 : Bool) (b2 : Bool) (b3 : Bool) (b4 : Bool) (b5 : Bool) (b6 : Bool) (b7 : Bool) (b8 : Bool) (b9 : Bool) (b10 : Bool) (b11 : Bool) (b12 : Bool) (b13 : Bool) (b14 : Bool) (b15 : Bool) (N : X → Prop) (E : Exit → X → Prop) : (roundV Try.prog (gK an [(32, 9), (44, 1)] [(46, sWth), (27, sI)]) Try.f15 0 [(4, 47000)] [0, 3, 4, 5, 6] [4, 5, 6] (v_stL R sp) (fun _ => v_stL R sp) N E (stL R sp n m i W g0 g1 g2 g3 g4 g5 g6 g7 g8 g9 g10 g11 g12 g13 g14 g15 b0 b1 b2 b3 b4 b5 b6 b7 b8 b9 b10 b11 b12 b13 b14 b15)) = (bif decide (i < @Nat.cast Int _ (List.length R)) then bif decide (i < 40) then bif decide (0 ≤ i) && decide (i < @Nat.cast Int _ (List.length R)) then bif isJ [IntKind.i64] (List.drop (0) (List.getD R (Int.toNat i) [])) then an (hdJ (List.drop (0) (List.getD R (Int.toNat i) []))) (15) = 9 ∧ bif decide (0 ≤ i) && decide (i < @Nat.cast Int _ (List.length R)) then bif isJ [IntKind.i64] (List.drop (0) (List.getD R (Int.toNat i) [])) then an (9) (3) = 1 ∧ bif decide (0 + n ≤ List.length W) then bif okZ (3) (cut W (0) n) then bif withE (toZ (cut W (0) n)) [2, 1, an (Int.fdiv (hdJ (List.drop (0) (List.getD R (Int.toNat i) []))) (16)) (255)] != 0 then stL R sp n m i W g0 g1 g2 g3 g4 g5 g6 g7 g8 g9 g10 g11 g12 g13 g14 g15 b0 b1 b2 b3 b4 b5 b6 b7 b8 b9 b10 b11 b12 b13 b14 b15 = stL R sp n m i W g0 g1 g2 g3 g4 g5 g6 g7 g8 g9 g10 g11 g12 g13 g14 g15 b0 b1 b2 b3 b4 b5 b6 b7 b8 b9 b10 b11 b12 b13 b14 b15 ∧ E Exit.ret (stL R sp n m i W g0 g1 g2 g3 g4 g5 g6 g7 g8 g9 g10 g11 g12 g13 g14 g15 b0 b1 b2 b3 b4 b5 b6 b7 b8 b9 b10 b11 b12 b13 b14 b15) else stL R sp (List.length (mZ (withW (toZ (cut W (0) n)) [2, 1, an (Int.fdiv (hdJ (List.drop (0) (List.getD R (Int.toNat i) []))) (16)) (255)]))) (List.length (mZ (withW (toZ (cut W (0) n)) [2, 1, an (Int.fdiv (hdJ (List.drop (0) (List.getD R (Int.toNat i) []))) (16)) (255)])) + 0) (IntKind.wrap IntKind.i64 (i + 1)) (mZ (withW (toZ (cut W (0) n)) [2, 1, an (Int.fdiv (hdJ (List.drop (0) (List.getD R (Int.toNat i) []))) (16)) (255)]) ++ []) g0 g1 g2 g3 g4 g5 g6 g7 g8 (an (Int.fdiv (hdJ (List.drop (0) (List.getD R (Int.toNat i) []))) (16)) (255)) g10 g11 g12 g13 g14 g15 b0 b1 b2 b3 b4 b5 b6 b7 b8 true b10 b11 b12 b13 b14 b15 = stL R sp (List.length (mZ (withW (toZ (cut W (0) n)) [2, 1, an (Int.fdiv (hdJ (List.drop (0) (List.getD R (Int.toNat i) []))) (16)) (255)]))) (List.length (mZ (withW (toZ (cut W (0) n)) [2, 1, an (Int.fdiv (hdJ (List.drop (0) (List.getD R (Int.toNat i) []))) (16)) (255)])) + 0) (IntKind.wrap IntKind.i64 (i + 1)) (mZ (withW (toZ (cut W (0) n)) [2, 1, an (Int.fdiv (hdJ (List.drop (0) (List.getD R (Int.toNat i) []))) (16)) (255)]) ++ []) g0 g1 g2 g3 g4 g5 g6 g7 g8 (an (Int.fdiv (hdJ (List.drop (0) (List.getD R (Int.toNat i) []))) (16)) (255)) g10 g11 g12 g13 g14 g15 b0 b1 b2 b3 b4 b5 b6 b7 b8 true b10 b11 b12 b13 b14 b15 ∧ N (stL R sp (List.length (mZ (withW (toZ (cut W (0) n)) [2, 1, an (Int.fdiv (hdJ (List.drop (0) (List.getD R (Int.toNat i) []))) (16)) (255)]))) (List.length (mZ (withW (toZ (cut W (0) n)) [2, 1, an (Int.fdiv (hdJ (List.drop (0) (List.getD R (Int.toNat i) []))) (16)) (255)])) + 0) (IntKind.wrap IntKind.i64 (i + 1)) (mZ (withW (toZ (cut W (0) n)) [2, 1, an (Int.fdiv (hdJ (List.drop (0) (List.getD R (Int.toNat i) []))) (16)) (255)]) ++ []) g0 g1 g2 g3 g4 g5 g6 g7 g8 (an (Int.fdiv (hdJ (List.drop (0) (List.getD R (Int.toNat i) []))) (16)) (255)) g10 g11 g12 g13 g14 g15 b0 b1 b2 b3 b4 b5 b6 b7 b8 true b10 b11 b12 b13 b14 b15) else False else False else False else False else False else False else stL R sp n m i W g0 g1 g2 g3 g4 g5 g6 g7 g8 g9 g10 g11 g12 g13 g14 g15 b0 b1 b2 b3 b4 b5 b6 b7 b8 b9 b10 b11 b12 b13 b14 b15 = stL R sp n m i W g0 g1 g2 g3 g4 g5 g6 g7 g8 g9 g10 g11 g12 g13 g14 g15 b0 b1 b2 b3 b4 b5 b6 b7 b8 b9 b10 b11 b12 b13 b14 b15 ∧ E (Exit.exit (0)) (stL R sp n m i W g0 g1 g2 g3 g4 g5 g6 g7 g8 g9 g10 g11 g12 g13 g14 g15 b0 b1 b2 b3 b4 b5 b6 b7 b8 b9 b10 b11 b12 b13 b14 b15) else stL R sp n m i W g0 g1 g2 g3 g4 g5 g6 g7 g8 g9 g10 g11 g12 g13 g14 g15 b0 b1 b2 b3 b4 b5 b6 b7 b8 b9 b10 b11 b12 b13 b14 b15 = stL R sp n m i W g0 g1 g2 g3 g4 g5 g6 g7 g8 g9 g10 g11 g12 g13 g14 g15 b0 b1 b2 b3 b4 b5 b6 b7 b8 b9 b10 b11 b12 b13 b14 b15 ∧ E (Exit.exit (0)) (stL R sp n m i W g0 g1 g2 g3 g4 g5 g6 g7 g8 g9 g10 g11 g12 g13 g14 g15 b0 b1 b2 b3 b4 b5 b6 b7 b8 b9 b10 b11 b12 b13 b14 b15)) := by kernel_rfl
theorem qL_9 {R sp : List (List D)} {l : List (List Int)} {g : Nat → Int} {f : Nat → Bool} {i : Nat} (hR : okZ 1 R = true) (hv : InvL l g f) (hi : i < R.length) (hi2 : i < 40) (hk : band (hdJ (R.getD i [])) 15 = 9) {N : X → Prop} {E : Exit → X → Prop}
    (h : ∀ v, (0 ≤ v ∧ v ≤ 255) → N (sfL R sp (putW l (rowK 9 v)) (updI g 9 v) (updB f 9 true) ((i + 1 : Nat) : Int))) : roundV Try.prog (gK band [(32, 9), (44, 1)] [(46, sWth), (27, sI)]) Try.f15 0 [(4, 47000)] [0, 3, 4, 5, 6] [4, 5, 6] (v_stL R sp) (fun _ => v_stL R sp) N E (sfL R sp l g f i) := by
  unfold sfL
  rw [rL_9]
  simp only [List.drop_zero, Int.toNat_natCast]
  obtain ⟨el, hw, hn⟩ := okZ_spec hR
  have hll : i < (toZ R).length := by rw [toZ_len]; exact hi
  have hj1 : isJ [IntKind.i64] (R.getD i []) = true := by
    rw [el]; exact isJ_mZ (j := 0) (n := 1) hw hll (by omega)
  have wi : IntKind.wrap .i64 ((i : Int) + 1) = ((i + 1 : Nat) : Int) := wrap_nat (n := 1) (by omega)
  have hi3 : (i : Int) < 40 := by omega
  have hk3 : band 9 3 = 1 := by rw [mask2]; rfl
  have hc : 0 ≤ band (Int.fdiv (hdJ (R.getD i [])) 16) 255 ∧ band (Int.fdiv (hdJ (R.getD i [])) 16) 255 ≤ 255 := by rw [mask8]; omega
  have hh := h _ hc
  obtain ⟨s1, s2, s3⟩ := hv.step (k := 9) (by omega) hc
  generalize band (Int.fdiv (hdJ (R.getD i [])) 16) 255 = v at *
  have s1 : withE l [2, 1, v] = 0 := s1
  have s2 : withW l [2, 1, v] = putW l (rowK 9 v) := s2
  have h16 := ((wmay_iff l).1 hv.may).1
  have o1 : okZ 3 (mZ l) = true := okZ_mZ hv.wid (by omega)
  simp only [Int.ofNat_lt, hi, hi3, decide_true, cond_true, Int.natCast_nonneg, Bool.and_self, Int.toNat_natCast, List.drop_zero, hj1, hk, hk3, wi, Nat.zero_add, mZ_len, Nat.le_refl, cut_all (mZ_len l), o1, toZ_mZ, s1, s2, bne_self_eq_false, cond_false, List.append_nil, Nat.add_zero, true_and]
  exact hh
theorem rL_10 (an : Int → Int → Int) (R sp : List (List D)) (n : Nat) (m : Nat) (i : Int) (W : List (List D)) (g0 : Int) (g1 : Int) (g2 : Int) (g3 : Int) (g4 : Int) (g5 : Int) (g6 : Int) (g7 : Int) (g8 : Int) (g9 : Int) (g10 : Int) (g11 : Int) (g12 : Int) (g13 : Int) (g14 : Int) (g15 : Int) (b0 : Bool) (b1 : Bool) (b2 : Bool) (b3 : Bool) (b4 : Bool) (b5 : Bool) (b6 : Bool) (b7 : Bool) (b8 : Bool) (b9 : Bool) (b10 : Bool) (b11 : Bool) (b12 : Bool) (b13 : Bool) (b14 : Bool) (b15 : Bool) (N : X → Prop) (E : Exit → X → Prop) : (roundV Try.prog (gK an [(32, 10), (44, 2)] [(46, sWth), (27, sI)]) Try.f15 0 [(4, 47000)] [0, 3, 4, 5, 6] [4, 5, 6] (v_stL R sp) (fun _ => v_stL R sp) N E (stL R sp n m i W g0 g1 g2 g3 g4 g5 g6 g7 g8 g9 g10 g11 g12 g13 g14 g15 b0 b1 b2 b3 b4 b5 b6 b7 b8 b9 b10 b11 b12 b13 b14 b15)) = (bif decide (i < @Nat.cast Int _ (List.length R)) then bif decide (i < 40) then bif decide (0 ≤ i) && decide (i < @Nat.cast Int _ (List.length R)) then bif isJ [IntKind.i64] (List.drop (0) (List.getD R (Int.toNat i) [])) then an (hdJ (List.drop (0) (List.getD R (Int.toNat i) []))) (15) = 10 ∧ bif decide (0 ≤ i) && decide (i < @Nat.cast Int _ (List.length R)) then bif isJ [IntKind.i64] (List.drop (0) (List.getD R (Int.toNat i) [])) then an (10) (3) = 2 ∧ bif decide (0 + n ≤ List.length W) then bif okZ (3) (cut W (0) n) then bif withE (toZ (cut W (0) n)) [2, 2, an (Int.fdiv (hdJ (List.drop (0) (List.getD R (Int.toNat i) []))) (16)) (255)] != 0 then stL R sp n m i W g0 g1 g2 g3 g4 g5 g6 g7 g8 g9 g10 g11 g12 g13 g14 g15 b0 b1 b2 b3 b4 b5 b6 b7 b8 b9 b10 b11 b12 b13 b14 b15 = stL R sp n m i W g0 g1 g2 g3 g4 g5 g6 g7 g8 g9 g10 g11 g12 g13 g14 g15 b0 b1 b2 b3 b4 b5 b6 b7 b8 b9 b10 b11 b12 b13 b14 b15 ∧ E Exit.ret (stL R sp n m i W g0 g1 g2 g3 g4 g5 g6 g7 g8 g9 g10 g11 g12 g13 g14 g15 b0 b1 b2 b3 b4 b5 b6 b7 b8 b9 b10 b11 b12 b13 b14 b15) else stL R sp (List.length (mZ (withW (toZ (cut W (0) n)) [2, 2, an (Int.fdiv (hdJ (List.drop (0) (List.getD R (Int.toNat i) []))) (16)) (255)]))) (List.length (mZ (withW (toZ (cut W (0) n)) [2, 2, an (Int.fdiv (hdJ (List.drop (0) (List.getD R (Int.toNat i) []))) (16)) (255)])) + 0) (IntKind.wrap IntKind.i64 (i + 1)) (mZ (withW (toZ (cut W (0) n)) [2, 2, an (Int.fdiv (hdJ (List.drop (0) (List.getD R (Int.toNat i) []))) (16)) (255)]) ++ []) g0 g1 g2 g3 g4 g5 g6 g7 g8 g9 (an (Int.fdiv (hdJ (List.drop (0) (List.getD R (Int.toNat i) []))) (16)) (255)) g11 g12 g13 g14 g15 b0 b1 b2 b3 b4 b5 b6 b7 b8 b9 true b11 b12 b13 b14 b15 = stL R sp (List.length (mZ (withW (toZ (cut W (0) n)) [2, 2, an (Int.fdiv (hdJ (List.drop (0) (List.getD R (Int.toNat i) []))) (16)) (255)]))) (List.length (mZ (withW (toZ (cut W (0) n)) [2, 2, an (Int.fdiv (hdJ (List.drop (0) (List.getD R (Int.toNat i) []))) (16)) (255)])) + 0) (IntKind.wrap IntKind.i64 (i + 1)) (mZ (withW (toZ (cut W (0) n)) [2, 2, an (Int.fdiv (hdJ (List.drop (0) (List.getD R (Int.toNat i) []))) (16)) (255)]) ++ []) g0 g1 g2 g3 g4 g5 g6 g7 g8 g9 (an (Int.fdiv (hdJ (List.drop (0) (List.getD R (Int.toNat i) []))) (16)) (255)) g11 g12 g13 g14 g15 b0 b1 b2 b3 b4 b5 b6 b7 b8 b9 true b11 b12 b13 b14 b15 ∧ N (stL R sp (List.length (mZ (withW (toZ (cut W (0) n)) [2, 2, an (Int.fdiv (hdJ (List.drop (0) (List.getD R (Int.toNat i) []))) (16)) (255)]))) (List.length (mZ (withW (toZ (cut W (0) n)) [2, 2, an (Int.fdiv (hdJ (List.drop (0) (List.getD R (Int.toNat i) []))) (16)) (255)])) + 0) (IntKind.wrap IntKind.i64 (i + 1)) (mZ (withW (toZ (cut W (0) n)) [2, 2, an (Int.fdiv (hdJ (List.drop (0) (List.getD R (Int.toNat i) []))) (16)) (255)]) ++ []) g0 g1 g2 g3 g4 g5 g6 g7 g8 g9 (an (Int.fdiv (hdJ (List.drop (0) (List.getD R (Int.toNat i) []))) (16)) (255)) g11 g12 g13 g14 g15 b0 b1 b2 b3 b4 b5 b6 b7 b8 b9 true b11 b12 b13 b14 b15) else False else False else False else False else False else False else stL R sp n m i W g0 g1 g2 g3 g4 g5 g6 g7 g8 g9 g10 g11 g12 g13 g14 g15 b0 b1 b2 b3 b4 b5 b6 b7 b8 b9 b10 b11 b12 b13 b14 b15 = stL R sp n m i W g0 g1 g2 g3 g4 g5 g6 g7 g8 g9 g10 g11 g12 g13 g14 g15 b0 b1 b2 b3 b4 b5 b6 b7 b8 b9 b10 b11 b12 b13 b14 b15 ∧ E (Exit.exit (0)) (stL R sp n m i W g0 g1 g2 g3 g4 g5 g6 g7 g8 g9 g10 g11 g12 g13 g14 g15 b0 b1 b2 b3 b4 b5 b6 b7 b8 b9 b10 b11 b12 b13 b14 b15) else stL R sp n m i W g0 g1 g2 g3 g4 g5 g6 g7 g8 g9 g10 g11 g12 g13 g14 g15 b0 b1 b2 b3 b4 b5 b6 b7 b8 b9 b10 b11 b12 b13 b14 b15 = stL R sp n m i W g0 g1 g2 g3 g4 g5 g6 g7 g8 g9 g10 g11 g12 g13 g14 g15 b0 b1 b2 b3 b4 b5 b6 b7 b8 b9 b10 b11 b12 b13 b14 b15 ∧ E (Exit.exit (0)) (stL R sp n m i W g0 g1 g2 g3 g4 g5 g6 g7 g8 g9 g10 g11 g12 g13 g14 g15 b0 b1 b2 b3 b4 b5 b6 b7 b8 b9 b10 b11 b12 b13 b14 b15)) := by kernel_rfl
theorem qL_10 {R sp : List (List D)} {l : List (List Int)} {g : Nat → Int} {f : Nat → Bool} {i : Nat} (hR : okZ 1 R = true) (hv : InvL l g f) (hi : i < R.length) (hi2 : i < 40) (hk : band (hdJ (R.getD i [])) 15 = 10) {N : X → Prop} {E : Exit → X → Prop}
    (h : ∀ v, (0 ≤ v ∧ v ≤ 255) → N (sfL R sp (putW l (rowK 10 v)) (updI g 10 v) (updB f 10 true) ((i + 1 : Nat) : Int))) : roundV Try.prog (gK band [(32, 10), (44, 2)] [(46, sWth), (27, sI)]) Try.f15 0 [(4, 47000)] [0, 3, 4, 5, 6] [4, 5, 6] (v_stL R sp) (fun _ => v_stL R sp) N E (sfL R sp l g f i) := by
  unfold sfL
  rw [rL_10]
  simp only [List.drop_zero, Int.toNat_natCast]
  obtain ⟨el, hw, hn⟩ := okZ_spec hR
  have hll : i < (toZ R).length := by rw [toZ_len]; exact hi
  have hj1 : isJ [IntKind.i64] (R.getD i []) = true := by
    rw [el]; exact isJ_mZ (j := 0) (n := 1) hw hll (by omega)
  have wi : IntKind.wrap .i64 ((i : Int) + 1) = ((i + 1 : Nat) : Int) := wrap_nat (n := 1) (by omega)
  have hi3 : (i : Int) < 40 := by omega
  have hk3 : band 10 3 = 2 := by rw [mask2]; rfl
  have hc : 0 ≤ band (Int.fdiv (hdJ (R.getD i [])) 16) 255 ∧ band (Int.fdiv (hdJ (R.getD i [])) 16) 255 ≤ 255 := by rw [mask8]; omega
  have hh := h _ hc
  obtain ⟨s1, s2, s3⟩ := hv.step (k := 10) (by omega) hc
  generalize band (Int.fdiv (hdJ (R.getD i [])) 16) 255 = v at *
  have s1 : withE l [2, 2, v] = 0 := s1
  have s2 : withW l [2, 2, v] = putW l (rowK 10 v) := s2
  have h16 := ((wmay_iff l).1 hv.may).1
  have o1 : okZ 3 (mZ l) = true := okZ_mZ hv.wid (by omega)
  simp only [Int.ofNat_lt, hi, hi3, decide_true, cond_true, Int.natCast_nonneg, Bool.and_self, Int.toNat_natCast, List.drop_zero, hj1, hk, hk3, wi, Nat.zero_add, mZ_len, Nat.le_refl, cut_all (mZ_len l), o1, toZ_mZ, s1, s2, bne_self_eq_false, cond_false, List.append_nil, Nat.add_zero, true_and]
  exact hh
theorem rL_11 (an : Int → Int → Int) (R sp : List (List D)) (n : Nat) (m : Nat) (i : Int) (W : List (List D)) (g0 : Int) (g1 : Int) (g2 : Int) (g3 : Int) (g4 : Int) (g5 : Int) (g6 : Int) (g7 : Int) (g8 : Int) (g9 : Int) (g10 : Int) (g11 : Int) (g12 : Int) (g13 : Int) (g14 : Int) (g15 : Int) (b0 : Bool) (b1 : Bool) (b2 : Bool) (b3 : Bool) (b4 : Bool) (b5 : Bool) (b6 : Bool) (b7 : Bool) (b8 : Bool) (b9 : Bool) (b10 : Bool) (b11 : Bool) (b12 : Bool) (b13 : Bool) (b14 : Bool) (b15 : Bool) (N : X → Prop) (E : Exit → X → Prop) : (roundV Try.prog (gK an [(32, 11), (44, 3)] [(46, sWth), (27, sI)]) Try.f15 0 [(4, 47000)] [0, 3, 4, 5, 6] [4, 5, 6] (v_stL R sp) (fun _ => v_stL R sp) N E (stL R sp n m i W g0 g1 g2 g3 g4 g5 g6 g7 g8 g9 g10 g11 g12 g13 g14 g15 b0 b1 b2 b3 b4 b5 b6 b7 b8 b9 b10 b11 b12 b13 b14 b15)) = (bif decide (i < @Nat.cast Int _ (List.length R)) then bif decide (i < 40) then bif decide (0 ≤ i) && decide (i < @Nat.cast Int _ (List.length R)) then bif isJ [IntKind.i64] (List.drop (0) (List.getD R (Int.toNat i) [])) then an (hdJ (List.drop (0) (List.getD R (Int.toNat i) []))) (15) = 11 ∧ bif decide (0 ≤ i) && decide (i < @Nat.cast Int _ (List.length R)) then bif isJ [IntKind.i64] (List.drop (0) (List.getD R (Int.toNat i) [])) then an (11) (3) = 3 ∧ bif decide (0 + n ≤ List.length W) then bif okZ (3) (cut W (0) n) then bif withE (toZ (cut W (0) n)) [2, 3, an (Int.fdiv (hdJ (List.drop (0) (List.getD R (Int.toNat i) []))) (16)) (255)] != 0 then stL R sp n m i W g0 g1 g2 g3 g4 g5 g6 g7 g8 g9 g10 g11 g12 g13 g14 g15 b0 b1 b2 b3 b4 b5 b6 b7 b8 b9 b10 b11 b12 b13 b14 b15 = stL R sp n m i W g0 g1 g2 g3 g4 g5 g6 g7 g8 g9 g10 g11 g12 g13 g14 g15 b0 b1 b2 b3 b4 b5 b6 b7 b8 b9 b10 b11 b12 b13 b14 b15 ∧ E Exit.ret (stL R sp n m i W g0 g1 g2 g3 g4 g5 g6 g7 g8 g9 g10 g11 g12 g13 g14 g15 b0 b1 b2 b3 b4 b5 b6 b7 b8 b9 b10 b11 b12 b13 b14 b15) else stL R sp (List.length (mZ (withW (toZ (cut W (0) n)) [2, 3, an (Int.fdiv (hdJ (List.drop (0) (List.getD R (Int.toNat i) []))) (16)) (255)]))) (List.length (mZ (withW (toZ (cut W (0) n)) [2, 3, an (Int.fdiv (hdJ (List.drop (0) (List.getD R (Int.toNat i) []))) (16)) (255)])) + 0) (IntKind.wrap IntKind.i64 (i + 1)) (mZ (withW (toZ (cut W (0) n)) [2, 3, an (Int.fdiv (hdJ (List.drop (0) (List.getD R (Int.toNat i) []))) (16)) (255)]) ++ []) g0 g1 g2 g3 g4 g5 g6 g7 g8 g9 g10 (an (Int.fdiv (hdJ (List.drop (0) (List.getD R (Int.toNat i) []))) (16)) (255)) g12 g13 g14 g15 b0 b1 b2 b3 b4 b5 b6 b7 b8 b9 b10 true b12 b13 b14 b15 = stL R sp (List.length (mZ (withW (toZ (cut W (0) n)) [2, 3, an (Int.fdiv (hdJ (List.drop (0) (List.getD R (Int.toNat i) []))) (16)) (255)]))) (List.length (mZ (withW (toZ (cut W (0) n)) [2, 3, an (Int.fdiv (hdJ (List.drop (0) (List.getD R (Int.toNat i) []))) (16)) (255)])) + 0) (IntKind.wrap IntKind.i64 (i + 1)) (mZ (withW (toZ (cut W (0) n)) [2, 3, an (Int.fdiv (hdJ (List.drop (0) (List.getD R (Int.toNat i) []))) (16)) (255)]) ++ []) g0 g1 g2 g3 g4 g5 g6 g7 g8 g9 g10 (an (Int.fdiv (hdJ (List.drop (0) (List.getD R (Int.toNat i) []))) (16)) (255)) g12 g13 g14 g15 b0 b1 b2 b3 b4 b5 b6 b7 b8 b9 b10 true b12 b13 b14 b15 ∧ N (stL R sp (List.length (mZ (withW (toZ (cut W (0) n)) [2, 3, an (Int.fdiv (hdJ (List.drop (0) (List.getD R (Int.toNat i) []))) (16)) (255)]))) (List.length (mZ (withW (toZ (cut W (0) n)) [2, 3, an (Int.fdiv (hdJ (List.drop (0) (List.getD R (Int.toNat i) []))) (16)) (255)])) + 0) (IntKind.wrap IntKind.i64 (i + 1)) (mZ (withW (toZ (cut W (0) n)) [2, 3, an (Int.fdiv (hdJ (List.drop (0) (List.getD R (Int.toNat i) []))) (16)) (255)]) ++ []) g0 g1 g2 g3 g4 g5 g6 g7 g8 g9 g10 (an (Int.fdiv (hdJ (List.drop (0) (List.getD R (Int.toNat i) []))) (16)) (255)) g12 g13 g14 g15 b0 b1 b2 b3 b4 b5 b6 b7 b8 b9 b10 true b12 b13 b14 b15) else False else False else False else False else False else False else stL R sp n m i W g0 g1 g2 g3 g4 g5 g6 g7 g8 g9 g10 g11 g12 g13 g14 g15 b0 b1 b2 b3 b4 b5 b6 b7 b8 b9 b10 b11 b12 b13 b14 b15 = stL R sp n m i W g0 g1 g2 g3 g4 g5 g6 g7 g8 g9 g10 g11 g12 g13 g14 g15 b0 b1 b2 b3 b4 b5 b6 b7 b8 b9 b10 b11 b12 b13 b14 b15 ∧ E (Exit.exit (0)) (stL R sp n m i W g0 g1 g2 g3 g4 g5 g6 g7 g8 g9 g10 g11 g12 g13 g14 g15 b0 b1 b2 b3 b4 b5 b6 b7 b8 b9 b10 b11 b12 b13 b14 b15) else stL R sp n m i W g0 g1 g2 g3 g4 g5 g6 g7 g8 g9 g10 g11 g12 g13 g14 g15 b0 b1 b2 b3 b4 b5 b6 b7 b8 b9 b10 b11 b12 b13 b14 b15 = stL R sp n m i W g0 g1 g2 g3 g4 g5 g6 g7 g8 g9 g10 g11 g12 g13 g14 g15 b0 b1 b2 b3 b4 b5 b6 b7 b8 b9 b10 b11 b12 b13 b14 b15 ∧ E (Exit.exit (0)) (stL R sp n m i W g0 g1 g2 g3 g4 g5 g6 g7 g8 g9 g10 g11 g12 g13 g14 g15 b0 b1 b2 b3 b4 b5 b6 b7 b8 b9 b10 b11 b12 b13 b14 b15)) := by kernel_rfl
theorem qL_11 {R sp : List (List D)} {l : List (List Int)} {g : Nat → Int} {f : Nat → Bool} {i : Nat} (hR : okZ 1 R = true) (hv : InvL l g f) (hi : i < R.length) (hi2 : i < 40) (hk : band (hdJ (R.getD i [])) 15 = 11) {N : X → Prop} {E : Exit → X → Prop}
    (h : ∀ v, (0 ≤ v ∧ v ≤ 255) → N (sfL R sp (putW l (rowK 11 v)) (updI g 11 v) (updB f 11 true) ((i + 1 : Nat) : Int))) : roundV Try.prog (gK band [(32, 11), (44, 3)] [(46, sWth), (27, sI)]) Try.f15 0 [(4, 47000)] [0, 3, 4, 5, 6] [4, 5, 6] (v_stL R sp) (fun _ => v_stL R sp) N E (sfL R sp l g f i) := by
  unfold sfL
  rw [rL_11]
  simp only [List.drop_zero, Int.toNat_natCast]
  obtain ⟨el, hw, hn⟩ := okZ_spec hR
  have hll : i < (toZ R).length := by rw [toZ_len]; exact hi
  have hj1 : isJ [IntKind.i64] (R.getD i []) = true := by
    rw [el]; exact isJ_mZ (j := 0) (n := 1) hw hll (by omega)
  have wi : IntKind.wrap .i64 ((i : Int) + 1) = ((i + 1 : Nat) : Int) := wrap_nat (n := 1) (by omega)
  have hi3 : (i : Int) < 40 := by omega
  have hk3 : band 11 3 = 3 := by rw [mask2]; rfl
  have hc : 0 ≤ band (Int.fdiv (hdJ (R.getD i [])) 16) 255 ∧ band (Int.fdiv (hdJ (R.getD i [])) 16) 255 ≤ 255 := by rw [mask8]; omega
  have hh := h _ hc
  obtain ⟨s1, s2, s3⟩ := hv.step (k := 11) (by omega) hc
  generalize band (Int.fdiv (hdJ (R.getD i [])) 16) 255 = v at *
  have s1 : withE l [2, 3, v] = 0 := s1
  have s2 : withW l [2, 3, v] = putW l (rowK 11 v) := s2
  have h16 := ((wmay_iff l).1 hv.may).1
  have o1 : okZ 3 (mZ l) = true := okZ_mZ hv.wid (by omega)
  simp only [Int.ofNat_lt, hi, hi3, decide_true, cond_true, Int.natCast_nonneg, Bool.and_self, Int.toNat_natCast, List.drop_zero, hj1, hk, hk3, wi, Nat.zero_add, mZ_len, Nat.le_refl, cut_all (mZ_len l), o1, toZ_mZ, s1, s2, bne_self_eq_false, cond_false, List.append_nil, Nat.add_zero, true_and]
  exact hh
theorem rL_12 (an : Int → Int → Int) (R sp : List (List D)) (n : Nat) (m : Nat) (i : Int) (W : List (List D)) (g0 : Int) (g1 : Int) (g2 : Int) (g3 : Int) (g4 : Int) (g5 : Int) (g6 : Int) (g7 : Int) (g8 : Int) (g9 : Int) (g10 : Int) (g11 : Int) (g12 : Int) (g13 : Int) (g14 : Int) (g15 : Int) (b0 : Bool) (b1 : Bool) (b2 : Bool) (b3 : Bool) (b4 : Bool) (b5 : Bool) (b6 : Bool) (b7 : Bool) (b8 : Bool) (b9 : Bool) (b10 : Bool) (b11 : Bool) (b12 : Bool) (b13 : Bool) (b14 : Bool) (b15 : Bool) (N : X → Prop) (E : Exit → X → Prop) : (roundV Try.prog (gK an [(32, 12), (44, 0)] [(46, sWth), (27, sI)]) Try.f15 0 [(4, 47000)] [0, 3, 4, 5, 6] [4, 5, 6] (v_stL R sp) (fun _ => v_stL R sp) N E (stL R sp n m i W g0 g1 g2 g3 g4 g5 g6 g7 g8 g9 g10 g11 g12 g13 g14 g15 b0 b1 b2 b3 b4 b5 b6 b7 b8 b9 b10 b11 b12 b13 b14 b15)) = (bif decide (i < @Nat.cast Int _ (List.length R)) then bif decide (i < 40) then bif decide (0 ≤ i) && decide (i < @Nat.cast Int _ (List.length R)) then bif isJ [IntKind.i64] (List.drop (0) (List.getD R (Int.toNat i) [])) then an (hdJ (List.drop (0) (List.getD R (Int.toNat i) []))) (15) = 12 ∧ bif decide (0 ≤ i) && decide (i < @Nat.cast Int _ (List.length R)) then bif isJ [IntKind.i64] (List.drop (0) (List.getD R (Int.toNat i) [])) then an (12) (3) = 0 ∧ bif decide (0 + n ≤ List.length W) then bif okZ (3) (cut W (0) n) then bif withE (toZ (cut W (0) n)) [3, 0, an (Int.fdiv (hdJ (List.drop (0) (List.getD R (Int.toNat i) []))) (16)) (255)] != 0 then stL R sp n m i W g0 g1 g2 g3 g4 g5 g6 g7 g8 g9 g10 g11 g12 g13 g14 g15 b0 b1 b2 b3 b4 b5 b6 b7 b8 b9 b10 b11 b12 b13 b14 b15 = stL R sp n m i W g0 g1 g2 g3 g4 g5 g6 g7 g8 g9 g10 g11 g12 g13 g14 g15 b0 b1 b2 b3 b4 b5 b6 b7 b8 b9 b10 b11 b12 b13 b14 b15 ∧ E Exit.ret (stL R sp n m i W g0 g1 g2 g3 g4 g5 g6 g7 g8 g9 g10 g11 g12 g13 g14 g15 b0 b1 b2 b3 b4 b5 b6 b7 b8 b9 b10 b11 b12 b13 b14 b15) else stL R sp (List.length (mZ (withW (toZ (cut W (0) n)) [3, 0, an (Int.fdiv (hdJ (List.drop (0) (List.getD R (Int.toNat i) []))) (16)) (255)]))) (List.length (mZ (withW (toZ (cut W (0) n)) [3, 0, an (Int.fdiv (hdJ (List.drop (0) (List.getD R (Int.toNat i) []))) (16)) (255)])) + 0) (IntKind.wrap IntKind.i64 (i + 1)) (mZ (withW (toZ (cut W (0) n)) [3, 0, an (Int.fdiv (hdJ (List.drop (0) (List.getD R (Int.toNat i) []))) (16)) (255)]) ++ []) g0 g1 g2 g3 g4 g5 g6 g7 g8 g9 g10 g11 (an (Int.fdiv (hdJ (List.drop (0) (List.getD R (Int.toNat i) []))) (16)) (255)) g13 g14 g15 b0 b1 b2 b3 b4 b5 b6 b7 b8 b9 b10 b11 true b13 b14 b15 = stL R sp (List.length (mZ (withW (toZ (cut W (0) n)) [3, 0, an (Int.fdiv (hdJ (List.drop (0) (List.getD R (Int.toNat i) []))) (16)) (255)]))) (List.length (mZ (withW (toZ (cut W (0) n)) [3, 0, an (Int.fdiv (hdJ (List.drop (0) (List.getD R (Int.toNat i) []))) (16)) (255)])) + 0) (IntKind.wrap IntKind.i64 (i + 1)) (mZ (withW (toZ (cut W (0) n)) [3, 0, an (Int.fdiv (hdJ (List.drop (0) (List.getD R (Int.toNat i) []))) (16)) (255)]) ++ []) g0 g1 g2 g3 g4 g5 g6 g7 g8 g9 g10 g11 (an (Int.fdiv (hdJ (List.drop (0) (List.getD R (Int.toNat i) []))) (16)) (255)) g13 g14 g15 b0 b1 b2 b3 b4 b5 b6 b7 b8 b9 b10 b11 true b13 b14 b15 ∧ N (stL R sp (List.length (mZ (withW (toZ (cut W (0) n)) [3, 0, an (Int.fdiv (hdJ (List.drop (0) (List.getD R (Int.toNat i) []))) (16)) (255)]))) (List.length (mZ (withW (toZ (cut W (0) n)) [3, 0, an (Int.fdiv (hdJ (List.drop (0) (List.getD R (Int.toNat i) []))) (16)) (255)])) + 0) (IntKind.wrap IntKind.i64 (i + 1)) (mZ (withW (toZ (cut W (0) n)) [3, 0, an (Int.fdiv (hdJ (List.drop (0) (List.getD R (Int.toNat i) []))) (16)) (255)]) ++ []) g0 g1 g2 g3 g4 g5 g6 g7 g8 g9 g10 g11 (an (Int.fdiv (hdJ (List.drop (0) (List.getD R (Int.toNat i) []))) (16)) (255)) g13 g14 g15 b0 b1 b2 b3 b4 b5 b6 b7 b8 b9 b10 b11 true b13 b14 b15) else False else False else False else False else False else False else stL R sp n m i W g0 g1 g2 g3 g4 g5 g6 g7 g8 g9 g10 g11 g12 g13 g14 g15 b0 b1 b2 b3 b4 b5 b6 b7 b8 b9 b10 b11 b12 b13 b14 b15 = stL R sp n m i W g0 g1 g2 g3 g4 g5 g6 g7 g8 g9 g10 g11 g12 g13 g14 g15 b0 b1 b2 b3 b4 b5 b6 b7 b8 b9 b10 b11 b12 b13 b14 b15 ∧ E (Exit.exit (0)) (stL R sp n m i W g0 g1 g2 g3 g4 g5 g6 g7 g8 g9 g10 g11 g12 g13 g14 g15 b0 b1 b2 b3 b4 b5 b6 b7 b8 b9 b10 b11 b12 b13 b14 b15) else stL R sp n m i W g0 g1 g2 g3 g4 g5 g6 g7 g8 g9 g10 g11 g12 g13 g14 g15 b0 b1 b2 b3 b4 b5 b6 b7 b8 b9 b10 b11 b12 b13 b14 b15 = stL R sp n m i W g0 g1 g2 g3 g4 g5 g6 g7 g8 g9 g10 g11 g12 g13 g14 g15 b0 b1 b2 b3 b4 b5 b6 b7 b8 b9 b10 b11 b12 b13 b14 b15 ∧ E (Exit.exit (0)) (stL R sp n m i W g0 g1 g2 g3 g4 g5 g6 g7 g8 g9 g10 g11 g12 g13 g14 g15 b0 b1 b2 b3 b4 b5 b6 b7 b8 b9 b10 b11 b12 b13 b14 b15)) := by kernel_rfl
theorem qL_12 {R sp : List (List D)} {l : List (List Int)} {g : Nat → Int} {f : Nat → Bool} {i : Nat} (hR : okZ 1 R = true) (hv : InvL l g f) (hi : i < R.length) (hi2 : i < 40) (hk : band (hdJ (R.getD i [])) 15 = 12) {N : X → Prop} {E : Exit → X → Prop}
    (h : ∀ v, (0 ≤ v ∧ v ≤ 255) → N (sfL R sp (putW l (rowK 12 v)) (updI g 12 v) (updB f 12 true) ((i + 1 : Nat) : Int))) : roundV Try.prog (gK band [(32, 12), (44, 0)] [(46, sWth), (27, sI)]) Try.f15 0 [(4, 47000)] [0, 3, 4, 5, 6] [4, 5, 6] (v_stL R sp) (fun _ => v_stL R sp) N E (sfL R sp l g f i) := by
  unfold sfL
  rw [rL_12]
  simp only [List.drop_zero, Int.toNat_natCast]
  obtain ⟨el, hw, hn⟩ := okZ_spec hR
  have hll : i < (toZ R).length := by rw [toZ_len]; exact hi
  have hj1 : isJ [IntKind.i64] (R.getD i []) = true := by
    rw [el]; exact isJ_mZ (j := 0) (n := 1) hw hll (by omega)
  have wi : IntKind.wrap .i64 ((i : Int) + 1) = ((i + 1 : Nat) : Int) := wrap_nat (n := 1) (by omega)
  have hi3 : (i : Int) < 40 := by omega
  have hk3 : band 12 3 = 0 := by rw [mask2]; rfl
  have hc : 0 ≤ band (Int.fdiv (hdJ (R.getD i [])) 16) 255 ∧ band (Int.fdiv (hdJ (R.getD i [])) 16) 255 ≤ 255 := by rw [mask8]; omega
  have hh := h _ hc
  obtain ⟨s1, s2, s3⟩ := hv.step (k := 12) (by omega) hc
  generalize band (Int.fdiv (hdJ (R.getD i [])) 16) 255 = v at *
  have s1 : withE l [3, 0, v] = 0 := s1
  have s2 : withW l [3, 0, v] = putW l (rowK 12 v) := s2
  have h16 := ((wmay_iff l).1 hv.may).1
  have o1 : okZ 3 (mZ l) = true := okZ_mZ hv.wid (by omega)
  simp only [Int.ofNat_lt, hi, hi3, decide_true, cond_true, Int.natCast_nonneg, Bool.and_self, Int.toNat_natCast, List.drop_zero, hj1, hk, hk3, wi, Nat.zero_add, mZ_len, Nat.le_refl, cut_all (mZ_len l), o1, toZ_mZ, s1, s2, bne_self_eq_false, cond_false, List.append_nil, Nat.add_zero, true_and]
  exact hh
theorem rL_13 (an : Int → Int → Int) (R sp : List (List D)) (n : Nat) (m : Nat) (i : Int) (W : List (List D)) (g0 : Int) (g1 : Int) (g2 : Int) (g3 : Int) (g4 : Int) (g5 : Int) (g6 : Int) (g7 : Int) (g8 : Int) (g9 : Int) (g10 : Int) (g11 : Int) (g12 : Int) (g13 : Int) (g14 : Int) (g15 : Int) (b0 : Bool) (b1 : Bool) (b2 : Bool) (b3 : Bool) (b4 : Bool) (b5 : Bool) (b6 : Bool) (b7 : Bool) (b8 : Bool) (b9 : Bool) (b10 : Bool) (b11 : Bool) (b12 : Bool) (b13 : Bool) (b14 : Bool) (b15 : Bool) (N : X → Prop) (E : Exit → X → Prop) : (roundV Try.prog (gK an [(32, 13), (44, 1)] [(46, sWth), (27, sI)]) Try.f15 0 [(4, 47000)] [0, 3, 4, 5, 6] [4, 5, 6] (v_stL R sp) (fun _ => v_stL R sp) N E (stL R sp n m i W g0 g1 g2 g3 g4 g5 g6 g7 g8 g9 g10 g11 g12 g13 g14 g15 b0 b1 b2 b3 b4 b5 b6 b7 b8 b9 b10 b11 b12 b13 b14 b15)) = (bif decide (i < @Nat.cast Int _ (List.length R)) then bif decide (i < 40) then bif decide (0 ≤ i) && decide (i < @Nat.cast Int _ (List.length R)) then bif isJ [IntKind.i64] (List.drop (0) (List.getD R (Int.toNat i) [])) then an (hdJ (List.drop (0) (List.getD R (Int.toNat i) []))) (15) = 13 ∧ bif decide (0 ≤ i) && decide (i < @Nat.cast Int _ (List.length R)) then bif isJ [IntKind.i64] (List.drop (0) (List.getD R (Int.toNat i) [])) then an (13) (3) = 1 ∧ bif decide (0 + n ≤ List.length W) then bif okZ (3) (cut W (0) n) then bif withE (toZ (cut W (0) n)) [3, 1, an (Int.fdiv (hdJ (List.drop (0) (List.getD R (Int.toNat i) []))) (16)) (255)] != 0 then stL R sp n m i W g0 g1 g2 g3 g4 g5 g6 g7 g8 g9 g10 g11 g12 g13 g14 g15 b0 b1 b2 b3 b4 b5 b6 b7 b8 b9 b10 b11 b12 b13 b14 b15 = stL R sp n m i W g0 g1 g2 g3 g4 g5 g6 g7 g8 g9 g10 g11 g12 g13 g14 g15 b0 b1 b2 b3 b4 b5 b6 b7 b8 b9 b10 b11 b12 b13 b14 b15 ∧ E Exit.ret (stL R sp n m i W g0 g1 g2 g3 g4 g5 g6 g7 g8 g9 g10 g11 g12 g13 g14 g15 b0 b1 b2 b3 b4 b5 b6 b7 b8 b9 b10 b11 b12 b13 b14 b15) else stL R sp (List.length (mZ (withW (toZ (cut W (0) n)) [3, 1, an (Int.fdiv (hdJ (List.drop (0) (List.getD R (Int.toNat i) []))) (16)) (255)]))) (List.length (mZ (withW (toZ (cut W (0) n)) [3, 1, an (Int.fdiv (hdJ (List.drop (0) (List.getD R (Int.toNat i) []))) (16)) (255)])) + 0) (IntKind.wrap IntKind.i64 (i + 1)) (mZ (withW (toZ (cut W (0) n)) [3, 1, an (Int.fdiv (hdJ (List.drop (0) (List.getD R (Int.toNat i) []))) (16)) (255)]) ++ []) g0 g1 g2 g3 g4 g5 g6 g7 g8 g9 g10 g11 g12 (an (Int.fdiv (hdJ (List.drop (0) (List.getD R (Int.toNat i) []))) (16)) (255)) g14 g15 b0 b1 b2 b3 b4 b5 b6 b7 b8 b9 b10 b11 b12 true b14 b15 = stL R sp (List.length (mZ (withW (toZ (cut W (0) n)) [3, 1, an (Int.fdiv (hdJ (List.drop (0) (List.getD R (Int.toNat i) []))) (16)) (255)]))) (List.length (mZ (withW (toZ (cut W (0) n)) [3, 1, an (Int.fdiv (hdJ (List.drop (0) (List.getD R (Int.toNat i) []))) (16)) (255)])) + 0) (IntKind.wrap IntKind.i64 (i + 1)) (mZ (withW (toZ (cut W (0) n)) [3, 1, an (Int.fdiv (hdJ (List.drop (0) (List.getD R (Int.toNat i) []))) (16)) (255)]) ++ []) g0 g1 g2 g3 g4 g5 g6 g7 g8 g9 g10 g11 g12 (an (Int.fdiv (hdJ (List.drop (0) (List.getD R (Int.toNat i) []))) (16)) (255)) g14 g15 b0 b1 b2 b3 b4 b5 b6 b7 b8 b9 b10 b11 b12 true b14 b15 ∧ N (stL R sp (List.length (mZ (withW (toZ (cut W (0) n)) [3, 1, an (Int.fdiv (hdJ (List.drop (0) (List.getD R (Int.toNat i) []))) (16)) (255)]))) (List.length (mZ (withW (toZ (cut W (0) n)) [3, 1, an (Int.fdiv (hdJ (List.drop (0) (List.getD R (Int.toNat i) []))) (16)) (255)])) + 0) (IntKind.wrap IntKind.i64 (i + 1)) (mZ (withW (toZ (cut W (0) n)) [3, 1, an (Int.fdiv (hdJ (List.drop (0) (List.getD R (Int.toNat i) []))) (16)) (255)]) ++ []) g0 g1 g2 g3 g4 g5 g6 g7 g8 g9 g10 g11 g12 (an (Int.fdiv (hdJ (List.drop (0) (List.getD R (Int.toNat i) []))) (16)) (255)) g14 g15 b0 b1 b2 b3 b4 b5 b6 b7 b8 b9 b10 b11 b12 true b14 b15) else False else False else False else False else False else False else stL R sp n m i W g0 g1 g2 g3 g4 g5 g6 g7 g8 g9 g10 g11 g12 g13 g14 g15 b0 b1 b2 b3 b4 b5 b6 b7 b8 b9 b10 b11 b12 b13 b14 b15 = stL R sp n m i W g0 g1 g2 g3 g4 g5 g6 g7 g8 g9 g10 g11 g12 g13 g14 g15 b0 b1 b2 b3 b4 b5 b6 b7 b8 b9 b10 b11 b12 b13 b14 b15 ∧ E (Exit.exit (0)) (stL R sp n m i W g0 g1 g2 g3 g4 g5 g6 g7 g8 g9 g10 g11 g12 g13 g14 g15 b0 b1 b2 b3 b4 b5 b6 b7 b8 b9 b10 b11 b12 b13 b14 b15) else stL R sp n m i W g0 g1 g2 g3 g4 g5 g6 g7 g8 g9 g10 g11 g12 g13 g14 g15 b0 b1 b2 b3 b4 b5 b6 b7 b8 b9 b10 b11 b12 b13 b14 b15 = stL R sp n m i W g0 g1 g2 g3 g4 g5 g6 g7 g8 g9 g10 g11 g12 g13 g14 g15 b0 b1 b2 b3 b4 b5 b6 b7 b8 b9 b10 b11 b12 b13 b14 b15 ∧ E (Exit.exit (0)) (stL R sp n m i W g0 g1 g2 g3 g4 g5 g6 g7 g8 g9 g10 g11 g12 g13 g14 g15 b0 b1 b2 b3 b4 b5 b6 b7 b8 b9 b10 b11 b12 b13 b14 b15)) := by kernel_rfl
theorem qL_13 {R sp : List (List D)} {l : List (List Int)} {g : Nat → Int} {f : Nat → Bool} {i : Nat} (hR : okZ 1 R = true) (hv : InvL l g f) (hi : i < R.length) (hi2 : i < 40) (hk : band (hdJ (R.getD i [])) 15 = 13) {N : X → Prop} {E : Exit → X → Prop}
    (h : ∀ v, (0 ≤ v ∧ v ≤ 255) → N (sfL R sp (putW l (rowK 13 v)) (updI g 13 v) (updB f 13 true) ((i + 1 : Nat) : Int))) : roundV Try.prog (gK band [(32, 13), (44, 1)] [(46, sWth), (27, sI)]) Try.f15 0 [(4, 47000)] [0, 3, 4, 5, 6] [4, 5, 6] (v_stL R sp) (fun _ => v_stL R sp) N E (sfL R sp l g f i) := by
  unfold sfL
  rw [rL_13]
  simp only [List.drop_zero, Int.toNat_natCast]
  obtain ⟨el, hw, hn⟩ := okZ_spec hR
  have hll : i < (toZ R).length := by rw [toZ_len]; exact hi
  have hj1 : isJ [IntKind.i64] (R.getD i []) = true := by
    rw [el]; exact isJ_mZ (j := 0) (n := 1) hw hll (by omega)
  have wi : IntKind.wrap .i64 ((i : Int) + 1) = ((i + 1 : Nat) : Int) := wrap_nat (n := 1) (by omega)
  have hi3 : (i : Int) < 40 := by omega
  have hk3 : band 13 3 = 1 := by rw [mask2]; rfl
  have hc : 0 ≤ band (Int.fdiv (hdJ (R.getD i [])) 16) 255 ∧ band (Int.fdiv (hdJ (R.getD i [])) 16) 255 ≤ 255 := by rw [mask8]; omega
  have hh := h _ hc
  obtain ⟨s1, s2, s3⟩ := hv.step (k := 13) (by omega) hc
  generalize band (Int.fdiv (hdJ (R.getD i [])) 16) 255 = v at *
  have s1 : withE l [3, 1, v] = 0 := s1
  have s2 : withW l [3, 1, v] = putW l (rowK 13 v) := s2
  have h16 := ((wmay_iff l).1 hv.may).1
  have o1 : okZ 3 (mZ l) = true := okZ_mZ hv.wid (by omega)
  simp only [Int.ofNat_lt, hi, hi3, decide_true, cond_true, Int.natCast_nonneg, Bool.and_self, Int.toNat_natCast, List.drop_zero, hj1, hk, hk3, wi, Nat.zero_add, mZ_len, Nat.le_refl, cut_all (mZ_len l), o1, toZ_mZ, s1, s2, bne_self_eq_false, cond_false, List.append_nil, Nat.add_zero, true_and]
  exact hh
theorem rL_14 (an : Int → Int → Int) (R sp : List (List D)) (n : Nat) (m : Nat) (i : Int) (W : List (List D)) (g0 : Int) (g1 : Int) (g2 : Int) (g3 : Int) (g4 : Int) (g5 : Int) (g6 : Int) (g7 : Int) (g8 : Int) (g9 : Int) (g10 : Int) (g11 : Int) (g12 : Int) (g13 : Int) (g14 : Int) (g15 : Int) (b0 : Bool) (b1 : Bool) (b2 : Bool) (b3 : Bool) (b4 : Bool) (b5 : Bool) (b6 : Bool) (b7 : Bool) (b8 : Bool) (b9 : Bool) (b10 : Bool) (b11 : Bool) (b12 : Bool) (b13 : Bool) (b14 : Bool) (b15 : Bool) (N : X → Prop) (E : Exit → X → Prop) : (roundV Try.prog (gK an [(32, 14), (44, 2)] [(46, sWth), (27, sI)]) Try.f15 0 [(4, 47000)] [0, 3, 4, 5, 6] [4, 5, 6] (v_stL R sp) (fun _ => v_stL R sp) N E (stL R sp n m i W g0 g1 g2 g3 g4 g5 g6 g7 g8 g9 g10 g11 g12 g13 g14 g15 b0 b1 b2 b3 b4 b5 b6 b7 b8 b9 b10 b11 b12 b13 b14 b15)) = (bif decide (i < @Nat.cast Int _ (List.length R)) then bif decide (i < 40) then bif decide (0 ≤ i) && decide (i < @Nat.cast Int _ (List.length R)) then bif isJ [IntKind.i64] (List.drop (0) (List.getD R (Int.toNat i) [])) then an (hdJ (List.drop (0) (List.getD R (Int.toNat i) []))) (15) = 14 ∧ bif decide (0 ≤ i) && decide (i < @Nat.cast Int _ (List.length R)) then bif isJ [IntKind.i64] (List.drop (0) (List.getD R (Int.toNat i) [])) then an (14) (3) = 2 ∧ bif decide (0 + n ≤ List.length W) then bif okZ (3) (cut W (0) n) then bif withE (toZ (cut W (0) n)) [3, 2, an (Int.fdiv (hdJ (List.drop (0) (List.getD R (Int.toNat i) []))) (16)) (255)] != 0 then stL R sp n m i W g0 g1 g2 g3 g4 g5 g6 g7 g8 g9 g10 g11 g12 g13 g14 g15 b0 b1 b2 b3 b4 b5 b6 b7 b8 b9 b10 b11 b12 b13 b14 b15 = stL R sp n m i W g0 g1 g2 g3 g4 g5 g6 g7 g8 g9 g10 g11 g12 g13 g14 g15 b0 b1 b2 b3 b4 b5 b6 b7 b8 b9 b10 b11 b12 b13 b14 b15 ∧ E Exit.ret (stL R sp n m i W g0 g1 g2 g3 g4 g5 g6 g7 g8 g9 g10 g11 g12 g13 g14 g15 b0 b1 b2 b3 b4 b5 b6 b7 b8 b9 b10 b11 b12 b13 b14 b15) else stL R sp (List.length (mZ (withW (toZ (cut W (0) n)) [3, 2, an (Int.fdiv (hdJ (List.drop (0) (List.getD R (Int.toNat i) []))) (16)) (255)]))) (List.length (mZ (withW (toZ (cut W (0) n)) [3, 2, an (Int.fdiv (hdJ (List.drop (0) (List.getD R (Int.toNat i) []))) (16)) (255)])) + 0) (IntKind.wrap IntKind.i64 (i + 1)) (mZ (withW (toZ (cut W (0) n)) [3, 2, an (Int.fdiv (hdJ (List.drop (0) (List.getD R (Int.toNat i) []))) (16)) (255)]) ++ []) g0 g1 g2 g3 g4 g5 g6 g7 g8 g9 g10 g11 g12 g13 (an (Int.fdiv (hdJ (List.drop (0) (List.getD R (Int.toNat i) []))) (16)) (255)) g15 b0 b1 b2 b3 b4 b5 b6 b7 b8 b9 b10 b11 b12 b13 true b15 = stL R sp (List.length (mZ (withW (toZ (cut W (0) n)) [3, 2, an (Int.fdiv (hdJ (List.drop (0) (List.getD R (Int.toNat i) []))) (16)) (255)]))) (List.length (mZ (withW (toZ (cut W (0) n)) [3, 2, an (Int.fdiv (hdJ (List.drop (0) (List.getD R (Int.toNat i) []))) (16)) (255)])) + 0) (IntKind.wrap IntKind.i64 (i + 1)) (mZ (withW (toZ (cut W (0) n)) [3, 2, an (Int.fdiv (hdJ (List.drop (0) (List.getD R (Int.toNat i) []))) (16)) (255)]) ++ []) g0 g1 g2 g3 g4 g5 g6 g7 g8 g9 g10 g11 g12 g13 (an (Int.fdiv (hdJ (List.drop (0) (List.getD R (Int.toNat i) []))) (16)) (255)) g15 b0 b1 b2 b3 b4 b5 b6 b7 b8 b9 b10 b11 b12 b13 true b15 ∧ N (stL R sp (List.length (mZ (withW (toZ (cut W (0) n)) [3, 2, an (Int.fdiv (hdJ (List.drop (0) (List.getD R (Int.toNat i) []))) (16)) (255)]))) (List.length (mZ (withW (toZ (cut W (0) n)) [3, 2, an (Int.fdiv (hdJ (List.drop (0) (List.getD R (Int.toNat i) []))) (16)) (255)])) + 0) (IntKind.wrap IntKind.i64 (i + 1)) (mZ (withW (toZ (cut W (0) n)) [3, 2, an (Int.fdiv (hdJ (List.drop (0) (List.getD R (Int.toNat i) []))) (16)) (255)]) ++ []) g0 g1 g2 g3 g4 g5 g6 g7 g8 g9 g10 g11 g12 g13 (an (Int.fdiv (hdJ (List.drop (0) (List.getD R (Int.toNat i) []))) (16)) (255)) g15 b0 b1 b2 b3 b4 b5 b6 b7 b8 b9 b10 b11 b12 b13 true b15) else False else False else False else False else False else False else stL R sp n m i W g0 g1 g2 g3 g4 g5 g6 g7 g8 g9 g10 g11 g12 g13 g14 g15 b0 b1 b2 b3 b4 b5 b6 b7 b8 b9 b10 b11 b12 b13 b14 b15 = stL R sp n m i W g0 g1 g2 g3 g4 g5 g6 g7 g8 g9 g10 g11 g12 g13 g14 g15 b0 b1 b2 b3 b4 b5 b6 b7 b8 b9 b10 b11 b12 b13 b14 b15 ∧ E (Exit.exit (0)) (stL R sp n m i W g0 g1 g2 g3 g4 g5 g6 g7 g8 g9 g10 g11 g12 g13 g14 g15 b0 b1 b2 b3 b4 b5 b6 b7 b8 b9 b10 b11 b12 b13 b14 b15) else stL R sp n m i W g0 g1 g2 g3 g4 g5 g6 g7 g8 g9 g10 g11 g12 g13 g14 g15 b0 b1 b2 b3 b4 b5 b6 b7 b8 b9 b10 b11 b12 b13 b14 b15 = stL R sp n m i W g0 g1 g2 g3 g4 g5 g6 g7 g8 g9 g10 g11 g12 g13 g14 g15 b0 b1 b2 b3 b4 b5 b6 b7 b8 b9 b10 b11 b12 b13 b14 b15 ∧ E (Exit.exit (0)) (stL R sp n m i W g0 g1 g2 g3 g4 g5 g6 g7 g8 g9 g10 g11 g12 g13 g14 g15 b0 b1 b2 b3 b4 b5 b6 b7 b8 b9 b10 b11 b12 b13 b14 b15)) := by kernel_rfl
theorem qL_14 {R sp : List (List D)} {l : List (List Int)} {g : Nat → Int} {f : Nat → Bool} {i : Nat} (hR : okZ 1 R = true) (hv : InvL l g f) (hi : i < R.length) (hi2 : i < 40) (hk : band (hdJ (R.getD i [])) 15 = 14) {N : X → Prop} {E : Exit → X → Prop}
    (h : ∀ v, (0 ≤ v ∧ v ≤ 255) → N (sfL R sp (putW l (rowK 14 v)) (updI g 14 v) (updB f 14 true) ((i + 1 : Nat) : Int))) : roundV Try.prog (gK band [(32, 14), (44, 2)] [(46, sWth), (27, sI)]) Try.f15 0 [(4, 47000)] [0, 3, 4, 5, 6] [4, 5, 6] (v_stL R sp) (fun _ => v_stL R sp) N E (sfL R sp l g f i) := by
  unfold sfL
  rw [rL_14]
  simp only [List.drop_zero, Int.toNat_natCast]
  obtain ⟨el, hw, hn⟩ := okZ_spec hR
  have hll : i < (toZ R).length := by rw [toZ_len]; exact hi
  have hj1 : isJ [IntKind.i64] (R.getD i []) = true := by
    rw [el]; exact isJ_mZ (j := 0) (n := 1) hw hll (by omega)
  have wi : IntKind.wrap .i64 ((i : Int) + 1) = ((i + 1 : Nat) : Int) := wrap_nat (n := 1) (by omega)
  have hi3 : (i : Int) < 40 := by omega
  have hk3 : band 14 3 = 2 := by rw [mask2]; rfl
  have hc : 0 ≤ band (Int.fdiv (hdJ (R.getD i [])) 16) 255 ∧ band (Int.fdiv (hdJ (R.getD i [])) 16) 255 ≤ 255 := by rw [mask8]; omega
  have hh := h _ hc
  obtain ⟨s1, s2, s3⟩ := hv.step (k := 14) (by omega) hc
  generalize band (Int.fdiv (hdJ (R.getD i [])) 16) 255 = v at *
  have s1 : withE l [3, 2, v] = 0 := s1
  have s2 : withW l [3, 2, v] = putW l (rowK 14 v) := s2
  have h16 := ((wmay_iff l).1 hv.may).1
  have o1 : okZ 3 (mZ l) = true := okZ_mZ hv.wid (by omega)
  simp only [Int.ofNat_lt, hi, hi3, decide_true, cond_true, Int.natCast_nonneg, Bool.and_self, Int.toNat_natCast, List.drop_zero, hj1, hk, hk3, wi, Nat.zero_add, mZ_len, Nat.le_refl, cut_all (mZ_len l), o1, toZ_mZ, s1, s2, bne_self_eq_false, cond_false, List.append_nil, Nat.add_zero, true_and]
  exact hh
theorem rL_15 (an : Int → Int → Int) (R sp : List (List D)) (n : Nat) (m : Nat) (i : Int) (W : List (List D)) (g0 : Int) (g1 : Int) (g2 : Int) (g3 : Int) (g4 : Int) (g5 : Int) (g6 : Int) (g7 : Int) (g8 : Int) (g9 : Int) (g10 : Int) (g11 : Int) (g12 : Int) (g13 : Int) (g14 : Int) (g15 : Int) (b0 : Bool) (b1 : Bool) (b2 : Bool) (b3 : Bool) (b4 : Bool) (b5 : Bool) (b6 : Bool) (b7 : Bool) (b8 : Bool) (b9 : Bool) (b10 : Bool) (b11 : Bool) (b12 : Bool) (b13 : Bool) (b14 : Bool) (b15 : Bool) (N : X → Prop) (E : Exit → X → Prop) : (roundV Try.prog (gK an [(32, 15), (44, 3)] [(46, sWth), (27, sI)]) Try.f15 0 [(4, 47000)] [0, 3, 4, 5, 6] [4, 5, 6] (v_stL R sp) (fun _ => v_stL R sp) N E (stL R sp n m i W g0 g1 g2 g3 g4 g5 g6 g7 g8 g9 g10 g11 g12 g13 g14 g15 b0 b1 b2 b3 b4 b5 b6 b7 b8 b9 b10 b11 b12 b13 b14 b15)) = (bif decide (i < @Nat.cast Int _ (List.length R)) then bif decide (i < 40) then bif decide (0 ≤ i) && decide (i < @Nat.cast Int _ (List.length R)) then bif isJ [IntKind.i64] (List.drop (0) (List.getD R (Int.toNat i) [])) then an (hdJ (List.drop (0) (List.getD R (Int.toNat i) []))) (15) = 15 ∧ bif decide (0 ≤ i) && decide (i < @Nat.cast Int _ (List.length R)) then bif isJ [IntKind.i64] (List.drop (0) (List.getD R (Int.toNat i) [])) then an (15) (3) = 3 ∧ bif decide (0 + n ≤ List.length W) then bif okZ (3) (cut W (0) n) then bif withE (toZ (cut W (0) n)) [3, 3, an (Int.fdiv (hdJ (List.drop (0) (List.getD R (Int.toNat i) []))) (16)) (255)] != 0 then stL R sp n m i W g0 g1 g2 g3 g4 g5 g6 g7 g8 g9 g10 g11 g12 g13 g14 g15 b0 b1 b2 b3 b4 b5 b6 b7 b8 b9 b10 b11 b12 b13 b14 b15 = stL R sp n m i W g0 g1 g2 g3 g4 g5 g6 g7 g8 g9 g10 g11 g12 g13 g14 g15 b0 b1 b2 b3 b4 b5 b6 b7 b8 b9 b10 b11 b12 b13 b14 b15 ∧ E Exit.ret (stL R sp n m i W g0 g1 g2 g3 g4 g5 g6 g7 g8 g9 g10 g11 g12 g13 g14 g15 b0 b1 b2 b3 b4 b5 b6 b7 b8 b9 b10 b11 b12 b13 b14 b15) else stL R sp (List.length (mZ (withW (toZ (cut W (0) n)) [3, 3, an (Int.fdiv (hdJ (List.drop (0) (List.getD R (Int.toNat i) []))) (16)) (255)]))) (List.length (mZ (withW (toZ (cut W (0) n)) [3, 3, an (Int.fdiv (hdJ (List.drop (0) (List.getD R (Int.toNat i) []))) (16)) (255)])) + 0) (IntKind.wrap IntKind.i64 (i + 1)) (mZ (withW (toZ (cut W (0) n)) [3, 3, an (Int.fdiv (hdJ (List.drop (0) (List.getD R (Int.toNat i) []))) (16)) (255)]) ++ []) g0 g1 g2 g3 g4 g5 g6 g7 g8 g9 g10 g11 g12 g13 g14 (an (Int.fdiv (hdJ (List.drop (0) (List.getD R (Int.toNat i) []))) (16)) (255)) b0 b1 b2 b3 b4 b5 b6 b7 b8 b9 b10 b11 b12 b13 b14 true = stL R sp (List.length (mZ (withW (toZ (cut W (0) n)) [3, 3, an (Int.fdiv (hdJ (List.drop (0) (List.getD R (Int.toNat i) []))) (16)) (255)]))) (List.length (mZ (withW (toZ (cut W (0) n)) [3, 3, an (Int.fdiv (hdJ (List.drop (0) (List.getD R (Int.toNat i) []))) (16)) (255)])) + 0) (IntKind.wrap IntKind.i64 (i + 1)) (mZ (withW (toZ (cut W (0) n)) [3, 3, an (Int.fdiv (hdJ (List.drop (0) (List.getD R (Int.toNat i) []))) (16)) (255)]) ++ []) g0 g1 g2 g3 g4 g5 g6 g7 g8 g9 g10 g11 g12 g13 g14 (an (Int.fdiv (hdJ (List.drop (0) (List.getD R (Int.toNat i) []))) (16)) (255)) b0 b1 b2 b3 b4 b5 b6 b7 b8 b9 b10 b11 b12 b13 b14 true ∧ N (stL R sp (List.length (mZ (withW (toZ (cut W (0) n)) [3, 3, an (Int.fdiv (hdJ (List.drop (0) (List.getD R (Int.toNat i) []))) (16)) (255)]))) (List.length (mZ (withW (toZ (cut W (0) n)) [3, 3, an (Int.fdiv (hdJ (List.drop (0) (List.getD R (Int.toNat i) []))) (16)) (255)])) + 0) (IntKind.wrap IntKind.i64 (i + 1)) (mZ (withW (toZ (cut W (0) n)) [3, 3, an (Int.fdiv (hdJ (List.drop (0) (List.getD R (Int.toNat i) []))) (16)) (255)]) ++ []) g0 g1 g2 g3 g4 g5 g6 g7 g8 g9 g10 g11 g12 g13 g14 (an (Int.fdiv (hdJ (List.drop (0) (List.getD R (Int.toNat i) []))) (16)) (255)) b0 b1 b2 b3 b4 b5 b6 b7 b8 b9 b10 b11 b12 b13 b14 true) else False else False else False else False else False else False else stL R sp n m i W g0 g1 g2 g3 g4 g5 g6 g7 g8 g9 g10 g11 g12 g13 g14 g15 b0 b1 b2 b3 b4 b5 b6 b7 b8 b9 b10 b11 b12 b13 b14 b15 = stL R sp n m i W g0 g1 g2 g3 g4 g5 g6 g7 g8 g9 g10 g11 g12 g13 g14 g15 b0 b1 b2 b3 b4 b5 b6 b7 b8 b9 b10 b11 b12 b13 b14 b15 ∧ E (Exit.exit (0)) (stL R sp n m i W g0 g1 g2 g3 g4 g5 g6 g7 g8 g9 g10 g11 g12 g13 g14 g15 b0 b1 b2 b3 b4 b5 b6 b7 b8 b9 b10 b11 b12 b13 b14 b15) else stL R sp n m i W g0 g1 g2 g3 g4 g5 g6 g7 g8 g9 g10 g11 g12 g13 g14 g15 b0 b1 b2 b3 b4 b5 b6 b7 b8 b9 b10 b11 b12 b13 b14 b15 = stL R sp n m i W g0 g1 g2 g3 g4 g5 g6 g7 g8 g9 g10 g11 g12 g13 g14 g15 b0 b1 b2 b3 b4 b5 b6 b7 b8 b9 b10 b11 b12 b13 b14 b15 ∧ E (Exit.exit (0)) (stL R sp n m i W g0 g1 g2 g3 g4 g5 g6 g7 g8 g9 g10 g11 g12 g13 g14 g15 b0 b1 b2 b3 b4 b5 b6 b7 b8 b9 b10 b11 b12 b13 b14 b15)) := by kernel_rfl
theorem qL_15 {R sp : List (List D)} {l : List (List Int)} {g : Nat → Int} {f : Nat → Bool} {i : Nat} (hR : okZ 1 R = true) (hv : InvL l g f) (hi : i < R.length) (hi2 : i < 40) (hk : band (hdJ (R.getD i [])) 15 = 15) {N : X → Prop} {E : Exit → X → Prop}
    (h : ∀ v, (0 ≤ v ∧ v ≤ 255) → N (sfL R sp (putW l (rowK 15 v)) (updI g 15 v) (updB f 15 true) ((i + 1 : Nat) : Int))) : roundV Try.prog (gK band [(32, 15), (44, 3)] [(46, sWth), (27, sI)]) Try.f15 0 [(4, 47000)] [0, 3, 4, 5, 6] [4, 5, 6] (v_stL R sp) (fun _ => v_stL R sp) N E (sfL R sp l g f i) := by
  unfold sfL
  rw [rL_15]
  simp only [List.drop_zero, Int.toNat_natCast]
  obtain ⟨el, hw, hn⟩ := okZ_spec hR
  have hll : i < (toZ R).length := by rw [toZ_len]; exact hi
  have hj1 : isJ [IntKind.i64] (R.getD i []) = true := by
    rw [el]; exact isJ_mZ (j := 0) (n := 1) hw hll (by omega)
  have wi : IntKind.wrap .i64 ((i : Int) + 1) = ((i + 1 : Nat) : Int) := wrap_nat (n := 1) (by omega)
  have hi3 : (i : Int) < 40 := by omega
  have hk3 : band 15 3 = 3 := by rw [mask2]; rfl
  have hc : 0 ≤ band (Int.fdiv (hdJ (R.getD i [])) 16) 255 ∧ band (Int.fdiv (hdJ (R.getD i [])) 16) 255 ≤ 255 := by rw [mask8]; omega
  have hh := h _ hc
  obtain ⟨s1, s2, s3⟩ := hv.step (k := 15) (by omega) hc
  generalize band (Int.fdiv (hdJ (R.getD i [])) 16) 255 = v at *
  have s1 : withE l [3, 3, v] = 0 := s1
  have s2 : withW l [3, 3, v] = putW l (rowK 15 v) := s2
  have h16 := ((wmay_iff l).1 hv.may).1
  have o1 : okZ 3 (mZ l) = true := okZ_mZ hv.wid (by omega)
  simp only [Int.ofNat_lt, hi, hi3, decide_true, cond_true, Int.natCast_nonneg, Bool.and_self, Int.toNat_natCast, List.drop_zero, hj1, hk, hk3, wi, Nat.zero_add, mZ_len, Nat.le_refl, cut_all (mZ_len l), o1, toZ_mZ, s1, s2, bne_self_eq_false, cond_false, List.append_nil, Nat.add_zero, true_and]
  exact hh
def PreM (n : Nat) (W : List (List D)) (g0 : Int) (g1 : Int) (g2 : Int) (g3 : Int) (g4 : Int) (g5 : Int) (g6 : Int) (g7 : Int) (g8 : Int) (g9 : Int) (g10 : Int) (g11 : Int) (g12 : Int) (g13 : Int) (g14 : Int) (g15 : Int) (b0 : Bool) (b1 : Bool) (b2 : Bool) (b3 : Bool) (b4 : Bool) (b5 : Bool) (b6 : Bool) (b7 : Bool) (b8 : Bool) (b9 : Bool) (b10 : Bool) (b11 : Bool) (b12 : Bool) (b13 : Bool) (b14 : Bool) (b15 : Bool) : Prop := ∃ l, W = mZ l ∧ n = l.length ∧ InvL l (fun k => [g0, g1, g2, g3, g4, g5, g6, g7, g8, g9, g10, g11, g12, g13, g14, g15].getD k 0) (fun k => [b0, b1, b2, b3, b4, b5, b6, b7, b8, b9, b10, b11, b12, b13, b14, b15].getD k false)
def cntL (b0 : Bool) (b1 : Bool) (b2 : Bool) (b3 : Bool) (b4 : Bool) (b5 : Bool) (b6 : Bool) (b7 : Bool) (b8 : Bool) (b9 : Bool) (b10 : Bool) (b11 : Bool) (b12 : Bool) (b13 : Bool) (b14 : Bool) (b15 : Bool) : Nat := cntF (fun k => [b0, b1, b2, b3, b4, b5, b6, b7, b8, b9, b10, b11, b12, b13, b14, b15].getD k false) 16
def sM : LSum := fun Q y => aS' y 3 fun n m => wL y 4 fun W => wR y 5 fun r => wC r fun c'1 r => cI c'1 fun g0 => wC r fun c'2 r => cI c'2 fun g1 => wC r fun c'3 r => cI c'3 fun g2 => wC r fun c'4 r => cI c'4 fun g3 => wC r fun c'5 r => cI c'5 fun g4 => wC r fun c'6 r => cI c'6 fun g5 => wC r fun c'7 r => cI c'7 fun g6 => wC r fun c'8 r => cI c'8 fun g7 => wC r fun c'9 r => cI c'9 fun g8 => wC r fun c'10 r => cI c'10 fun g9 => wC r fun c'11 r => cI c'11 fun g10 => wC r fun c'12 r => cI c'12 fun g11 => wC r fun c'13 r => cI c'13 fun g12 => wC r fun c'14 r => cI c'14 fun g13 => wC r fun c'15 r => cI c'15 fun g14 => wC r fun c'16 r => cI c'16 fun g15 => wR y 6 fun r => wC r fun c'17 r => cB c'17 fun b0 => wC r fun c'18 r => cB c'18 fun b1 => wC r fun c'19 r => cB c'19 fun b2 => wC r fun c'20 r => cB c'20 fun b3 => wC r fun c'21 r => cB c'21 fun b4 => wC r fun c'22 r => cB c'22 fun b5 => wC r fun c'23 r => cB c'23 fun b6 => wC r fun c'24 r => cB c'24 fun b7 => wC r fun c'25 r => cB c'25 fun b8 => wC r fun c'26 r => cB c'26 fun b9 => wC r fun c'27 r => cB c'27 fun b10 => wC r fun c'28 r => cB c'28 fun b11 => wC r fun c'29 r => cB c'29 fun b12 => wC r fun c'30 r => cB c'30 fun b13 => wC r fun c'31 r => cB c'31 fun b14 => wC r fun c'32 r => cB c'32 fun b15 => y.arr [3, 4, 5, 11, 12] [4, 5, 6] = stM n m 0 0 W g0 g1 g2 g3 g4 g5 g6 g7 g8 g9 g10 g11 g12 g13 g14 g15 b0 b1 b2 b3 b4 b5 b6 b7 b8 b9 b10 b11 b12 b13 b14 b15 ∧ (PreM n W g0 g1 g2 g3 g4 g5 g6 g7 g8 g9 g10 g11 g12 g13 g14 g15 b0 b1 b2 b3 b4 b5 b6 b7 b8 b9 b10 b11 b12 b13 b14 b15 ∧ Q (.exit 2) (stM n m (cntL b0 b1 b2 b3 b4 b5 b6 b7 b8 b9 b10 b11 b12 b13 b14 b15 : Nat) 16 W g0 g1 g2 g3 g4 g5 g6 g7 g8 g9 g10 g11 g12 g13 g14 g15 b0 b1 b2 b3 b4 b5 b6 b7 b8 b9 b10 b11 b12 b13 b14 b15))
def sfM (l : List (List Int)) (m : Nat) (g : Nat → Int) (f : Nat → Bool) (c i : Int) : X := stM l.length m c i (mZ l) (g 0) (g 1) (g 2) (g 3) (g 4) (g 5) (g 6) (g 7) (g 8) (g 9) (g 10) (g 11) (g 12) (g 13) (g 14) (g 15) (f 0) (f 1) (f 2) (f 3) (f 4) (f 5) (f 6) (f 7) (f 8) (f 9) (f 10) (f 11) (f 12) (f 13) (f 14) (f 15)
theorem rM_0 (an : Int → Int → Int) (n : Nat) (m : Nat) (c : Int) (W : List (List D)) (g0 : Int) (g1 : Int) (g2 : Int) (g3 : Int) (g4 : Int) (g5 : Int) (g6 : Int) (g7 : Int) (g8 : Int) (g9 : Int) (g10 : Int) (g11 : Int) (g12 : Int) (g13 : Int) (g14 : Int) (g15 : Int) (b0 : Bool) (b1 : Bool) (b2 : Bool) (b3 : Bool) (b4 : Bool) (b5 : Bool) (b6 : Bool) (b7 : Bool) (b8 : Bool) (b9 : Bool) (b10 : Bool) (b11 : Bool) (b12 : Bool) (b13 : Bool) (b14 : Bool) (b15 : Bool) (N : X → Prop) (E : Exit → X → Prop) : (roundV Try.prog (gK an [(68, 0)] [(48, sFnd)]) Try.f15 1 [] [3, 4, 5, 11, 12] [4, 5, 6] v_stM (fun _ => v_stM) N E (stM n m c 0 W g0 g1 g2 g3 g4 g5 g6 g7 g8 g9 g10 g11 g12 g13 g14 g15 b0 b1 b2 b3 b4 b5 b6 b7 b8 b9 b10 b11 b12 b13 b14 b15)) = (an (0) (3) = 0 ∧ bif decide (0 + n ≤ List.length W) then bif okZ (3) (cut W (0) n) && (decide (List.length (cut W (0) n) ≤ 4611686018427387903) && true) then bif !fdB (toZ (cut W (0) n)) (0) (0) == b0 then stM n m c (0) W g0 g1 g2 g3 g4 g5 g6 g7 g8 g9 g10 g11 g12 g13 g14 g15 b0 b1 b2 b3 b4 b5 b6 b7 b8 b9 b10 b11 b12 b13 b14 b15 = stM n m c (0) W g0 g1 g2 g3 g4 g5 g6 g7 g8 g9 g10 g11 g12 g13 g14 g15 b0 b1 b2 b3 b4 b5 b6 b7 b8 b9 b10 b11 b12 b13 b14 b15 ∧ E Exit.ret (stM n m c (0) W g0 g1 g2 g3 g4 g5 g6 g7 g8 g9 g10 g11 g12 g13 g14 g15 b0 b1 b2 b3 b4 b5 b6 b7 b8 b9 b10 b11 b12 b13 b14 b15) else bif fdB (toZ (cut W (0) n)) (0) (0) then bif fdV (toZ (cut W (0) n)) (0) (0) != g0 then stM n m c (0) W g0 g1 g2 g3 g4 g5 g6 g7 g8 g9 g10 g11 g12 g13 g14 g15 b0 b1 b2 b3 b4 b5 b6 b7 b8 b9 b10 b11 b12 b13 b14 b15 = stM n m c (0) W g0 g1 g2 g3 g4 g5 g6 g7 g8 g9 g10 g11 g12 g13 g14 g15 b0 b1 b2 b3 b4 b5 b6 b7 b8 b9 b10 b11 b12 b13 b14 b15 ∧ E Exit.ret (stM n m c (0) W g0 g1 g2 g3 g4 g5 g6 g7 g8 g9 g10 g11 g12 g13 g14 g15 b0 b1 b2 b3 b4 b5 b6 b7 b8 b9 b10 b11 b12 b13 b14 b15) else bif fdB (toZ (cut W (0) n)) (0) (0) then stM n m (IntKind.wrap IntKind.i64 (c + 1)) (1) W g0 g1 g2 g3 g4 g5 g6 g7 g8 g9 g10 g11 g12 g13 g14 g15 b0 b1 b2 b3 b4 b5 b6 b7 b8 b9 b10 b11 b12 b13 b14 b15 = stM n m (IntKind.wrap IntKind.i64 (c + 1)) (1) W g0 g1 g2 g3 g4 g5 g6 g7 g8 g9 g10 g11 g12 g13 g14 g15 b0 b1 b2 b3 b4 b5 b6 b7 b8 b9 b10 b11 b12 b13 b14 b15 ∧ N (stM n m (IntKind.wrap IntKind.i64 (c + 1)) (1) W g0 g1 g2 g3 g4 g5 g6 g7 g8 g9 g10 g11 g12 g13 g14 g15 b0 b1 b2 b3 b4 b5 b6 b7 b8 b9 b10 b11 b12 b13 b14 b15) else stM n m c (1) W g0 g1 g2 g3 g4 g5 g6 g7 g8 g9 g10 g11 g12 g13 g14 g15 b0 b1 b2 b3 b4 b5 b6 b7 b8 b9 b10 b11 b12 b13 b14 b15 = stM n m c (1) W g0 g1 g2 g3 g4 g5 g6 g7 g8 g9 g10 g11 g12 g13 g14 g15 b0 b1 b2 b3 b4 b5 b6 b7 b8 b9 b10 b11 b12 b13 b14 b15 ∧ N (stM n m c (1) W g0 g1 g2 g3 g4 g5 g6 g7 g8 g9 g10 g11 g12 g13 g14 g15 b0 b1 b2 b3 b4 b5 b6 b7 b8 b9 b10 b11 b12 b13 b14 b15) else bif fdB (toZ (cut W (0) n)) (0) (0) then stM n m (IntKind.wrap IntKind.i64 (c + 1)) (1) W g0 g1 g2 g3 g4 g5 g6 g7 g8 g9 g10 g11 g12 g13 g14 g15 b0 b1 b2 b3 b4 b5 b6 b7 b8 b9 b10 b11 b12 b13 b14 b15 = stM n m (IntKind.wrap IntKind.i64 (c + 1)) (1) W g0 g1 g2 g3 g4 g5 g6 g7 g8 g9 g10 g11 g12 g13 g14 g15 b0 b1 b2 b3 b4 b5 b6 b7 b8 b9 b10 b11 b12 b13 b14 b15 ∧ N (stM n m (IntKind.wrap IntKind.i64 (c + 1)) (1) W g0 g1 g2 g3 g4 g5 g6 g7 g8 g9 g10 g11 g12 g13 g14 g15 b0 b1 b2 b3 b4 b5 b6 b7 b8 b9 b10 b11 b12 b13 b14 b15) else stM n m c (1) W g0 g1 g2 g3 g4 g5 g6 g7 g8 g9 g10 g11 g12 g13 g14 g15 b0 b1 b2 b3 b4 b5 b6 b7 b8 b9 b10 b11 b12 b13 b14 b15 = stM n m c (1) W g0 g1 g2 g3 g4 g5 g6 g7 g8 g9 g10 g11 g12 g13 g14 g15 b0 b1 b2 b3 b4 b5 b6 b7 b8 b9 b10 b11 b12 b13 b14 b15 ∧ N (stM n m c (1) W g0 g1 g2 g3 g4 g5 g6 g7 g8 g9 g10 g11 g12 g13 g14 g15 b0 b1 b2 b3 b4 b5 b6 b7 b8 b9 b10 b11 b12 b13 b14 b15) else False else False) := by kernel_rfl
theorem qM_0 {l : List (List Int)} {m : Nat} {g : Nat → Int} {f : Nat → Bool} (hv : InvL l g f) {N : X → Prop} {E : Exit → X → Prop} (h : N (sfM l m g f (cntF f 1 : Nat) ((1 : Nat) : Int))) : roundV Try.prog (gK band [(68, 0)] [(48, sFnd)]) Try.f15 1 [] [3, 4, 5, 11, 12] [4, 5, 6] v_stM (fun _ => v_stM) N E (sfM l m g f (cntF f 0 : Nat) ((0 : Nat) : Int)) := by
  have z1 : ((1 : Nat) : Int) = 1 := rfl
  have z0 : ((0 : Nat) : Int) = 0 := rfl
  rw [z1] at h
  rw [z0]
  unfold sfM
  rw [rM_0]
  have hk3 : band 0 3 = 0 := by rw [mask2]; rfl
  obtain ⟨f1, f2⟩ := hv.fd (k := 0) (by omega)
  have f1 : fdB l 0 0 = f 0 := f1
  have f2 : f 0 = true → fdV l 0 0 = g 0 := f2
  have h16 := ((wmay_iff l).1 hv.may).1
  have o1 : okZ 3 (mZ l) = true := okZ_mZ hv.wid (by omega)
  have hL : decide ((mZ l).length ≤ 4611686018427387903) = true := decide_eq_true (by rw [mZ_len]; omega)
  have hc := cntF_le f 0
  have wi : IntKind.wrap .i64 (((cntF f 0 : Nat) : Int) + 1) = ((cntF f 0 + 1 : Nat) : Int) := wrap_nat (n := 1) (by omega)
  have e : cntF f 1 = bif f 0 then cntF f 0 + 1 else cntF f 0 := rfl
  unfold sfM at h
  rw [e] at h
  simp only [hk3, true_and, Nat.zero_add, cut_all (mZ_len l), o1, hL, toZ_mZ, f1, Bool.and_self, Bool.and_true, cond_true, decide_eq_true (show l.length ≤ (mZ l).length by rw [mZ_len]; exact Nat.le_refl _)]
  cases hb : f 0 with
  | true =>
    rw [hb] at h
    simp only [f2 hb, bne_self_eq_false, Bool.not_true, beq_self_eq_true, cond_true, cond_false, wi, Bool.not_beq_self]
    exact h
  | false =>
    rw [hb] at h
    simp only [Bool.not_false, cond_true, cond_false, Bool.not_beq_self]
    exact h
theorem rM_1 (an : Int → Int → Int) (n : Nat) (m : Nat) (c : Int) (W : List (List D)) (g0 : Int) (g1 : Int) (g2 : Int) (g3 : Int) (g4 : Int) (g5 : Int) (g6 : Int) (g7 : Int) (g8 : Int) (g9 : Int) (g10 : Int) (g11 : Int) (g12 : Int) (g13 : Int) (g14 : Int) (g15 : Int) (b0 : Bool) (b1 : Bool) (b2 : Bool) (b3 : Bool) (b4 : Bool) (b5 : Bool) (b6 : Bool) (b7 : Bool) (b8 : Bool) (b9 : Bool) (b10 : Bool) (b11 : Bool) (b12 : Bool) (b13 : Bool) (b14 : Bool) (b15 : Bool) (N : X → Prop) (E : Exit → X → Prop) : (roundV Try.prog (gK an [(68, 1)] [(48, sFnd)]) Try.f15 1 [] [3, 4, 5, 11, 12] [4, 5, 6] v_stM (fun _ => v_stM) N E (stM n m c 1 W g0 g1 g2 g3 g4 g5 g6 g7 g8 g9 g10 g11 g12 g13 g14 g15 b0 b1 b2 b3 b4 b5 b6 b7 b8 b9 b10 b11 b12 b13 b14 b15)) = (an (1) (3) = 1 ∧ bif decide (0 + n ≤ List.length W) then bif okZ (3) (cut W (0) n) && (decide (List.length (cut W (0) n) ≤ 4611686018427387903) && true) then bif !fdB (toZ (cut W (0) n)) (0) (1) == b1 then stM n m c (1) W g0 g1 g2 g3 g4 g5 g6 g7 g8 g9 g10 g11 g12 g13 g14 g15 b0 b1 b2 b3 b4 b5 b6 b7 b8 b9 b10 b11 b12 b13 b14 b15 = stM n m c (1) W g0 g1 g2 g3 g4 g5 g6 g7 g8 g9 g10 g11 g12 g13 g14 g15 b0 b1 b2 b3 b4 b5 b6 b7 b8 b9 b10 b11 b12 b13 b14 b15 ∧ E Exit.ret (stM n m c (1) W g0 g1 g2 g3 g4 g5 g6 g7 g8 g9 g10 g11 g12 g13 g14 g15 b0 b1 b2 b3 b4 b5 b6 b7 b8 b9 b10 b11 b12 b13 b14 b15) else bif fdB (toZ (cut W (0) n)) (0) (1) then bif fdV (toZ (cut W (0) n)) (0) (1) != g1 then stM n m c (1) W g0 g1 g2 g3 g4 g5 g6 g7 g8 g9 g10 g11 g12 g13 g14 g15 b0 b1 b2 b3 b4 b5 b6 b7 b8 b9 b10 b11 b12 b13 b14 b15 = stM n m c (1) W g0 g1 g2 g3 g4 g5 g6 g7 g8 g9 g10 g11 g12 g13 g14 g15 b0 b1 b2 b3 b4 b5 b6 b7 b8 b9 b10 b11 b12 b13 b14 b15 ∧ E Exit.ret (stM n m c (1) W g0 g1 g2 g3 g4 g5 g6 g7 g8 g9 g10 g11 g12 g13 g14 g15 b0 b1 b2 b3 b4 b5 b6 b7 b8 b9 b10 b11 b12 b13 b14 b15) else bif fdB (toZ (cut W (0) n)) (0) (1) then stM n m (IntKind.wrap IntKind.i64 (c + 1)) (2) W g0 g1 g2 g3 g4 g5 g6 g7 g8 g9 g10 g11 g12 g13 g14 g15 b0 b1 b2 b3 b4 b5 b6 b7 b8 b9 b10 b11 b12 b13 b14 b15 = stM n m (IntKind.wrap IntKind.i64 (c + 1)) (2) W g0 g1 g2 g3 g4 g5 g6 g7 g8 g9 g10 g11 g12 g13 g14 g15 b0 b1 b2 b3 b4 b5 b6 b7 b8 b9 b10 b11 b12 b13 b14 b15 ∧ N (stM n m (IntKind.wrap IntKind.i64 (c + 1)) (2) W g0 g1 g2 g3 g4 g5 g6 g7 g8 g9 g10 g11 g12 g13 g14 g15 b0 b1 b2 b3 b4 b5 b6 b7 b8 b9 b10 b11 b12 b13 b14 b15) else stM n m c (2) W g0 g1 g2 g3 g4 g5 g6 g7 g8 g9 g10 g11 g12 g13 g14 g15 b0 b1 b2 b3 b4 b5 b6 b7 b8 b9 b10 b11 b12 b13 b14 b15 = stM n m c (2) W g0 g1 g2 g3 g4 g5 g6 g7 g8 g9 g10 g11 g12 g13 g14 g15 b0 b1 b2 b3 b4 b5 b6 b7 b8 b9 b10 b11 b12 b13 b14 b15 ∧ N (stM n m c (2) W g0 g1 g2 g3 g4 g5 g6 g7 g8 g9 g10 g11 g12 g13 g14 g15 b0 b1 b2 b3 b4 b5 b6 b7 b8 b9 b10 b11 b12 b13 b14 b15) else bif fdB (toZ (cut W (0) n)) (0) (1) then stM n m (IntKind.wrap IntKind.i64 (c + 1)) (2) W g0 g1 g2 g3 g4 g5 g6 g7 g8 g9 g10 g11 g12 g13 g14 g15 b0 b1 b2 b3 b4 b5 b6 b7 b8 b9 b10 b11 b12 b13 b14 b15 = stM n m (IntKind.wrap IntKind.i64 (c + 1)) (2) W g0 g1 g2 g3 g4 g5 g6 g7 g8 g9 g10 g11 g12 g13 g14 g15 b0 b1 b2 b3 b4 b5 b6 b7 b8 b9 b10 b11 b12 b13 b14 b15 ∧ N (stM n m (IntKind.wrap IntKind.i64 (c + 1)) (2) W g0 g1 g2 g3 g4 g5 g6 g7 g8 g9 g10 g11 g12 g13 g14 g15 b0 b1 b2 b3 b4 b5 b6 b7 b8 b9 b10 b11 b12 b13 b14 b15) else stM n m c (2) W g0 g1 g2 g3 g4 g5 g6 g7 g8 g9 g10 g11 g12 g13 g14 g15 b0 b1 b2 b3 b4 b5 b6 b7 b8 b9 b10 b11 b12 b13 b14 b15 = stM n m c (2) W g0 g1 g2 g3 g4 g5 g6 g7 g8 g9 g10 g11 g12 g13 g14 g15 b0 b1 b2 b3 b4 b5 b6 b7 b8 b9 b10 b11 b12 b13 b14 b15 ∧ N (stM n m c (2) W g0 g1 g2 g3 g4 g5 g6 g7 g8 g9 g10 g11 g12 g13 g14 g15 b0 b1 b2 b3 b4 b5 b6 b7 b8 b9 b10 b11 b12 b13 b14 b15) else False else False) := by kernel_rfl
theorem qM_1 {l : List (List Int)} {m : Nat} {g : Nat → Int} {f : Nat → Bool} (hv : InvL l g f) {N : X → Prop} {E : Exit → X → Prop} (h : N (sfM l m g f (cntF f 2 : Nat) ((2 : Nat) : Int))) : roundV Try.prog (gK band [(68, 1)] [(48, sFnd)]) Try.f15 1 [] [3, 4, 5, 11, 12] [4, 5, 6] v_stM (fun _ => v_stM) N E (sfM l m g f (cntF f 1 : Nat) ((1 : Nat) : Int)) := by
  have z1 : ((2 : Nat) : Int) = 2 := rfl
  have z0 : ((1 : Nat) : Int) = 1 := rfl
  rw [z1] at h
  rw [z0]
  unfold sfM
  rw [rM_1]
  have hk3 : band 1 3 = 1 := by rw [mask2]; rfl
  obtain ⟨f1, f2⟩ := hv.fd (k := 1) (by omega)
  have f1 : fdB l 0 1 = f 1 := f1
  have f2 : f 1 = true → fdV l 0 1 = g 1 := f2
  have h16 := ((wmay_iff l).1 hv.may).1
  have o1 : okZ 3 (mZ l) = true := okZ_mZ hv.wid (by omega)
  have hL : decide ((mZ l).length ≤ 4611686018427387903) = true := decide_eq_true (by rw [mZ_len]; omega)
  have hc := cntF_le f 1
  have wi : IntKind.wrap .i64 (((cntF f 1 : Nat) : Int) + 1) = ((cntF f 1 + 1 : Nat) : Int) := wrap_nat (n := 1) (by omega)
  have e : cntF f 2 = bif f 1 then cntF f 1 + 1 else cntF f 1 := rfl
  unfold sfM at h
  rw [e] at h
  simp only [hk3, true_and, Nat.zero_add, cut_all (mZ_len l), o1, hL, toZ_mZ, f1, Bool.and_self, Bool.and_true, cond_true, decide_eq_true (show l.length ≤ (mZ l).length by rw [mZ_len]; exact Nat.le_refl _)]
  cases hb : f 1 with
  | true =>
    rw [hb] at h
    simp only [f2 hb, bne_self_eq_false, Bool.not_true, beq_self_eq_true, cond_true, cond_false, wi, Bool.not_beq_self]
    exact h
  | false =>
    rw [hb] at h
    simp only [Bool.not_false, cond_true, cond_false, Bool.not_beq_self]
    exact h
theorem rM_2 (an : Int → Int → Int) (n : Nat) (m : Nat) (c : Int) (W : List (List D)) (g0 : Int) (g1 : Int) (g2 : Int) (g3 : Int) (g4 : Int) (g5 : Int) (g6 : Int) (g7 : Int) (g8 : Int) (g9 : Int) (g10 : Int) (g11 : Int) (g12 : Int) (g13 : Int) (g14 : Int) (g15 : Int) (b0 : Bool) (b1 : Bool) (b2 : Bool) (b3 : Bool) (b4 : Bool) (b5 : Bool) (b6 : Bool) (b7 : Bool) (b8 : Bool) (b9 : Bool) (b10 : Bool) (b11 : Bool) (b12 : Bool) (b13 : Bool) (b14 : Bool) (b15 : Bool) (N : X → Prop) (E : Exit → X → Prop) : (roundV Try.prog (gK an [(68, 2)] [(48, sFnd)]) Try.f15 1 [] [3, 4, 5, 11, 12] [4, 5, 6] v_stM (fun _ => v_stM) N E (stM n m c 2 W g0 g1 g2 g3 g4 g5 g6 g7 g8 g9 g10 g11 g12 g13 g14 g15 b0 b1 b2 b3 b4 b5 b6 b7 b8 b9 b10 b11 b12 b13 b14 b15)) = (an (2) (3) = 2 ∧ bif decide (0 + n ≤ List.length W) then bif okZ (3) (cut W (0) n) && (decide (List.length (cut W (0) n) ≤ 4611686018427387903) && true) then bif !fdB (toZ (cut W (0) n)) (0) (2) == b2 then stM n m c (2) W g0 g1 g2 g3 g4 g5 g6 g7 g8 g9 g10 g11 g12 g13 g14 g15 b0 b1 b2 b3 b4 b5 b6 b7 b8 b9 b10 b11 b12 b13 b14 b15 = stM n m c (2) W g0 g1 g2 g3 g4 g5 g6 g7 g8 g9 g10 g11 g12 g13 g14 g15 b0 b1 b2 b3 b4 b5 b6 b7 b8 b9 b10 b11 b12 b13 b14 b15 ∧ E Exit.ret (stM n m c (2) W g0 g1 g2 g3 g4 g5 g6 g7 g8 g9 g10 g11 g12 g13 g14 g15 b0 b1 b2 b3 b4 b5 b6 b7 b8 b9 b10 b11 b12 b13 b14 b15) else bif fdB (toZ (cut W (0) n)) (0) (2) then bif fdV (toZ (cut W (0) n)) (0) (2) != g2 then stM n m c (2) W g0 g1 g2 g3 g4 g5 g6 g7 g8 g9 g10 g11 g12 g13 g14 g15 b0 b1 b2 b3 b4 b5 b6 b7 b8 b9 b10 b11 b12 b13 b14 b15 = stM n m c (2) W g0 g1 g2 g3 g4 g5 g6 g7 g8 g9 g10 g11 g12 g13 g14 g15 b0 b1 b2 b3 b4 b5 b6 b7 b8 b9 b10 b11 b12 b13 b14 b15 ∧ E Exit.ret (stM n m c (2) W g0 g1 g2 g3 g4 g5 g6 g7 g8 g9 g10 g11 g12 g13 g14 g15 b0 b1 b2 b3 b4 b5 b6 b7 b8 b9 b10 b11 b12 b13 b14 b15) else bif fdB (toZ (cut W (0) n)) (0) (2) then stM n m (IntKind.wrap IntKind.i64 (c + 1)) (3) W g0 g1 g2 g3 g4 g5 g6 g7 g8 g9 g10 g11 g12 g13 g14 g15 b0 b1 b2 b3 b4 b5 b6 b7 b8 b9 b10 b11 b12 b13 b14 b15 = stM n m (IntKind.wrap IntKind.i64 (c + 1)) (3) W g0 g1 g2 g3 g4 g5 g6 g7 g8 g9 g10 g11 g12 g13 g14 g15 b0 b1 b2 b3 b4 b5 b6 b7 b8 b9 b10 b11 b12 b13 b14 b15 ∧ N (stM n m (IntKind.wrap IntKind.i64 (c + 1)) (3) W g0 g1 g2 g3 g4 g5 g6 g7 g8 g9 g10 g11 g12 g13 g14 g15 b0 b1 b2 b3 b4 b5 b6 b7 b8 b9 b10 b11 b12 b13 b14 b15) else stM n m c (3) W g0 g1 g2 g3 g4 g5 g6 g7 g8 g9 g10 g11 g12 g13 g14 g15 b0 b1 b2 b3 b4 b5 b6 b7 b8 b9 b10 b11 b12 b13 b14 b15 = stM n m c (3) W g0 g1 g2 g3 g4 g5 g6 g7 g8 g9 g10 g11 g12 g13 g14 g15 b0 b1 b2 b3 b4 b5 b6 b7 b8 b9 b10 b11 b12 b13 b14 b15 ∧ N (stM n m c (3) W g0 g1 g2 g3 g4 g5 g6 g7 g8 g9 g10 g11 g12 g13 g14 g15 b0 b1 b2 b3 b4 b5 b6 b7 b8 b9 b10 b11 b12 b13 b14 b15) else bif fdB (toZ (cut W (0) n)) (0) (2) then stM n m (IntKind.wrap IntKind.i64 (c + 1)) (3) W g0 g1 g2 g3 g4 g5 g6 g7 g8 g9 g10 g11 g12 g13 g14 g15 b0 b1 b2 b3 b4 b5 b6 b7 b8 b9 b10 b11 b12 b13 b14 b15 = stM n m (IntKind.wrap IntKind.i64 (c + 1)) (3) W g0 g1 g2 g3 g4 g5 g6 g7 g8 g9 g10 g11 g12 g13 g14 g15 b0 b1 b2 b3 b4 b5 b6 b7 b8 b9 b10 b11 b12 b13 b14 b15 ∧ N (stM n m (IntKind.wrap IntKind.i64 (c + 1)) (3) W g0 g1 g2 g3 g4 g5 g6 g7 g8 g9 g10 g11 g12 g13 g14 g15 b0 b1 b2 b3 b4 b5 b6 b7 b8 b9 b10 b11 b12 b13 b14 b15) else stM n m c (3) W g0 g1 g2 g3 g4 g5 g6 g7 g8 g9 g10 g11 g12 g13 g14 g15 b0 b1 b2 b3 b4 b5 b6 b7 b8 b9 b10 b11 b12 b13 b14 b15 = stM n m c (3) W g0 g1 g2 g3 g4 g5 g6 g7 g8 g9 g10 g11 g12 g13 g14 g15 b0 b1 b2 b3 b4 b5 b6 b7 b8 b9 b10 b11 b12 b13 b14 b15 ∧ N (stM n m c (3) W g0 g1 g2 g3 g4 g5 g6 g7 g8 g9 g10 g11 g12 g13 g14 g15 b0 b1 b2 b3 b4 b5 b6 b7 b8 b9 b10 b11 b12 b13 b14 b15) else False else False) := by kernel_rfl
theorem qM_2 {l : List (List Int)} {m : Nat} {g : Nat → Int} {f : Nat → Bool} (hv : InvL l g f) {N : X → Prop} {E : Exit → X → Prop} (h : N (sfM l m g f (cntF f 3 : Nat) ((3 : Nat) : Int))) : roundV Try.prog (gK band [(68, 2)] [(48, sFnd)]) Try.f15 1 [] [3, 4, 5, 11, 12] [4, 5, 6] v_stM (fun _ => v_stM) N E (sfM l m g f (cntF f 2 : Nat) ((2 : Nat) : Int)) := by
  have z1 : ((3 : Nat) : Int) = 3 := rfl
  have z0 : ((2 : Nat) : Int) = 2 := rfl
  rw [z1] at h
  rw [z0]
  unfold sfM
  rw [rM_2]
  have hk3 : band 2 3 = 2 := by rw [mask2]; rfl
  obtain ⟨f1, f2⟩ := hv.fd (k := 2) (by omega)
  have f1 : fdB l 0 2 = f 2 := f1
  have f2 : f 2 = true → fdV l 0 2 = g 2 := f2
  have h16 := ((wmay_iff l).1 hv.may).1
  have o1 : okZ 3 (mZ l) = true := okZ_mZ hv.wid (by omega)
  have hL : decide ((mZ l).length ≤ 4611686018427387903) = true := decide_eq_true (by rw [mZ_len]; omega)
  have hc := cntF_le f 2
  have wi : IntKind.wrap .i64 (((cntF f 2 : Nat) : Int) + 1) = ((cntF f 2 + 1 : Nat) : Int) := wrap_nat (n := 1) (by omega)
  have e : cntF f 3 = bif f 2 then cntF f 2 + 1 else cntF f 2 := rfl
  unfold sfM at h
  rw [e] at h
  simp only [hk3, true_and, Nat.zero_add, cut_all (mZ_len l), o1, hL, toZ_mZ, f1, Bool.and_self, Bool.and_true, cond_true, decide_eq_true (show l.length ≤ (mZ l).length by rw [mZ_len]; exact Nat.le_refl _)]
  cases hb : f 2 with
  | true =>
    rw [hb] at h
    simp only [f2 hb, bne_self_eq_false, Bool.not_true, beq_self_eq_true, cond_true, cond_false, wi, Bool.not_beq_self]
    exact h
  | false =>
    rw [hb] at h
    simp only [Bool.not_false, cond_true, cond_false, Bool.not_beq_self]
    exact h
theorem rM_3 (an : Int → Int → Int) (n : Nat) (m : Nat) (c : Int) (W : List (List D)) (g0 : Int) (g1 : Int) (g2 : Int) (g3 : Int) (g4 : Int) (g5 : Int) (g6 : Int) (g7 : Int) (g8 : Int) (g9 : Int) (g10 : Int) (g11 : Int) (g12 : Int) (g13 : Int) (g14 : Int) (g15 : Int) (b0 : Bool) (b1 : Bool) (b2 : Bool) (b3 : Bool) (b4 : Bool) (b5 : Bool) (b6 : Bool) (b7 : Bool) (b8 : Bool) (b9 : Bool) (b10 : Bool) (b11 : Bool) (b12 : Bool) (b13 : Bool) (b14 : Bool) (b15 : Bool) (N : X → Prop) (E : Exit → X → Prop) : (roundV Try.prog (gK an [(68, 3)] [(48, sFnd)]) Try.f15 1 [] [3, 4, 5, 11, 12] [4, 5, 6] v_stM (fun _ => v_stM) N E (stM n m c 3 W g0 g1 g2 g3 g4 g5 g6 g7 g8 g9 g10 g11 g12 g13 g14 g15 b0 b1 b2 b3 b4 b5 b6 b7 b8 b9 b10 b11 b12 b13 b14 b15)) = (an (3) (3) = 3 ∧ bif decide (0 + n ≤ List.length W) then bif okZ (3) (cut W (0) n) && (decide (List.length (cut W (0) n) ≤ 4611686018427387903) && true) then bif !fdB (toZ (cut W (0) n)) (0) (3) == b3 then stM n m c (3) W g0 g1 g2 g3 g4 g5 g6 g7 g8 g9 g10 g11 g12 g13 g14 g15 b0 b1 b2 b3 b4 b5 b6 b7 b8 b9 b10 b11 b12 b13 b14 b15 = stM n m c (3) W g0 g1 g2 g3 g4 g5 g6 g7 g8 g9 g10 g11 g12 g13 g14 g15 b0 b1 b2 b3 b4 b5 b6 b7 b8 b9 b10 b11 b12 b13 b14 b15 ∧ E Exit.ret (stM n m c (3) W g0 g1 g2 g3 g4 g5 g6 g7 g8 g9 g10 g11 g12 g13 g14 g15 b0 b1 b2 b3 b4 b5 b6 b7 b8 b9 b10 b11 b12 b13 b14 b15) else bif fdB (toZ (cut W (0) n)) (0) (3) then bif fdV (toZ (cut W (0) n)) (0) (3) != g3 then stM n m c (3) W g0 g1 g2 g3 g4 g5 g6 g7 g8 g9 g10 g11 g12 g13 g14 g15 b0 b1 b2 b3 b4 b5 b6 b7 b8 b9 b10 b11 b12 b13 b14 b15 = stM n m c (3) W g0 g1 g2 g3 g4 g5 g6 g7 g8 g9 g10 g11 g12 g13 g14 g15 b0 b1 b2 b3 b4 b5 b6 b7 b8 b9 b10 b11 b12 b13 b14 b15 ∧ E Exit.ret (stM n m c (3) W g0 g1 g2 g3 g4 g5 g6 g7 g8 g9 g10 g11 g12 g13 g14 g15 b0 b1 b2 b3 b4 b5 b6 b7 b8 b9 b10 b11 b12 b13 b14 b15) else bif fdB (toZ (cut W (0) n)) (0) (3) then stM n m (IntKind.wrap IntKind.i64 (c + 1)) (4) W g0 g1 g2 g3 g4 g5 g6 g7 g8 g9 g10 g11 g12 g13 g14 g15 b0 b1 b2 b3 b4 b5 b6 b7 b8 b9 b10 b11 b12 b13 b14 b15 = stM n m (IntKind.wrap IntKind.i64 (c + 1)) (4) W g0 g1 g2 g3 g4 g5 g6 g7 g8 g9 g10 g11 g12 g13 g14 g15 b0 b1 b2 b3 b4 b5 b6 b7 b8 b9 b10 b11 b12 b13 b14 b15 ∧ N (stM n m (IntKind.wrap IntKind.i64 (c + 1)) (4) W g0 g1 g2 g3 g4 g5 g6 g7 g8 g9 g10 g11 g12 g13 g14 g15 b0 b1 b2 b3 b4 b5 b6 b7 b8 b9 b10 b11 b12 b13 b14 b15) else stM n m c (4) W g0 g1 g2 g3 g4 g5 g6 g7 g8 g9 g10 g11 g12 g13 g14 g15 b0 b1 b2 b3 b4 b5 b6 b7 b8 b9 b10 b11 b12 b13 b14 b15 = stM n m c (4) W g0 g1 g2 g3 g4 g5 g6 g7 g8 g9 g10 g11 g12 g13 g14 g15 b0 b1 b2 b3 b4 b5 b6 b7 b8 b9 b10 b11 b12 b13 b14 b15 ∧ N (stM n m c (4) W g0 g1 g2 g3 g4 g5 g6 g7 g8 g9 g10 g11 g12 g13 g14 g15 b0 b1 b2 b3 b4 b5 b6 b7 b8 b9 b10 b11 b12 b13 b14 b15) else bif fdB (toZ (cut W (0) n)) (0) (3) then stM n m (IntKind.wrap IntKind.i64 (c + 1)) (4) W g0 g1 g2 g3 g4 g5 g6 g7 g8 g9 g10 g11 g12 g13 g14 g15 b0 b1 b2 b3 b4 b5 b6 b7 b8 b9 b10 b11 b12 b13 b14 b15 = stM n m (IntKind.wrap IntKind.i64 (c + 1)) (4) W g0 g1 g2 g3 g4 g5 g6 g7 g8 g9 g10 g11 g12 g13 g14 g15 b0 b1 b2 b3 b4 b5 b6 b7 b8 b9 b10 b11 b12 b13 b14 b15 ∧ N (stM n m (IntKind.wrap IntKind.i64 (c + 1)) (4) W g0 g1 g2 g3 g4 g5 g6 g7 g8 g9 g10 g11 g12 g13 g14 g15 b0 b1 b2 b3 b4 b5 b6 b7 b8 b9 b10 b11 b12 b13 b14 b15) else stM n m c (4) W g0 g1 g2 g3 g4 g5 g6 g7 g8 g9 g10 g11 g12 g13 g14 g15 b0 b1 b2 b3 b4 b5 b6 b7 b8 b9 b10 b11 b12 b13 b14 b15 = stM n m c (4) W g0 g1 g2 g3 g4 g5 g6 g7 g8 g9 g10 g11 g12 g13 g14 g15 b0 b1 b2 b3 b4 b5 b6 b7 b8 b9 b10 b11 b12 b13 b14 b15 ∧ N (stM n m c (4) W g0 g1 g2 g3 g4 g5 g6 g7 g8 g9 g10 g11 g12 g13 g14 g15 b0 b1 b2 b3 b4 b5 b6 b7 b8 b9 b10 b11 b12 b13 b14 b15) else False else False) := by kernel_rfl
theorem qM_3 {l : List (List Int)} {m : Nat} {g : Nat → Int} {f : Nat → Bool} (hv : InvL l g f) {N : X → Prop} {E : Exit → X → Prop} (h : N (sfM l m g f (cntF f 4 : Nat) ((4 : Nat) : Int))) : roundV Try.prog (gK band [(68, 3)] [(48, sFnd)]) Try.f15 1 [] [3, 4, 5, 11, 12] [4, 5, 6] v_stM (fun _ => v_stM) N E (sfM l m g f (cntF f 3 : Nat) ((3 : Nat) : Int)) := by
  have z1 : ((4 : Nat) : Int) = 4 := rfl
  have z0 : ((3 : Nat) : Int) = 3 := rfl
  rw [z1] at h
  rw [z0]
  unfold sfM
  rw [rM_3]
  have hk3 : band 3 3 = 3 := by rw [mask2]; rfl
  obtain ⟨f1, f2⟩ := hv.fd (k := 3) (by omega)
  have f1 : fdB l 0 3 = f 3 := f1
  have f2 : f 3 = true → fdV l 0 3 = g 3 := f2
  have h16 := ((wmay_iff l).1 hv.may).1
  have o1 : okZ 3 (mZ l) = true := okZ_mZ hv.wid (by omega)
  have hL : decide ((mZ l).length ≤ 4611686018427387903) = true := decide_eq_true (by rw [mZ_len]; omega)
  have hc := cntF_le f 3
  have wi : IntKind.wrap .i64 (((cntF f 3 : Nat) : Int) + 1) = ((cntF f 3 + 1 : Nat) : Int) := wrap_nat (n := 1) (by omega)
  have e : cntF f 4 = bif f 3 then cntF f 3 + 1 else cntF f 3 := rfl
  unfold sfM at h
  rw [e] at h
  simp only [hk3, true_and, Nat.zero_add, cut_all (mZ_len l), o1, hL, toZ_mZ, f1, Bool.and_self, Bool.and_true, cond_true, decide_eq_true (show l.length ≤ (mZ l).length by rw [mZ_len]; exact Nat.le_refl _)]
  cases hb : f 3 with
  | true =>
    rw [hb] at h
    simp only [f2 hb, bne_self_eq_false, Bool.not_true, beq_self_eq_true, cond_true, cond_false, wi, Bool.not_beq_self]
    exact h
  | false =>
    rw [hb] at h
    simp only [Bool.not_false, cond_true, cond_false, Bool.not_beq_self]
    exact h
theorem rM_4 (an : Int → Int → Int) (n : Nat) (m : Nat) (c : Int) (W : List (List D)) (g0 : Int) (g1 : Int) (g2 : Int) (g3 : Int) (g4 : Int) (g5 : Int) (g6 : Int) (g7 : Int) (g8 : Int) (g9 : Int) (g10 : Int) (g11 : Int) (g12 : Int) (g13 : Int) (g14 : Int) (g15 : Int) (b0 : Bool) (b1 : Bool) (b2 : Bool) (b3 : Bool) (b4 : Bool) (b5 : Bool) (b6 : Bool) (b7 : Bool) (b8 : Bool) (b9 : Bool) (b10 : Bool) (b11 : Bool) (b12 : Bool) (b13 : Bool) (b14 : Bool) (b15 : Bool) (N : X → Prop) (E : Exit → X → Prop) : (roundV Try.prog (gK an [(68, 0)] [(48, sFnd)]) Try.f15 1 [] [3, 4, 5, 11, 12] [4, 5, 6] v_stM (fun _ => v_stM) N E (stM n m c 4 W g0 g1 g2 g3 g4 g5 g6 g7 g8 g9 g10 g11 g12 g13 g14 g15 b0 b1 b2 b3 b4 b5 b6 b7 b8 b9 b10 b11 b12 b13 b14 b15)) = (an (4) (3) = 0 ∧ bif decide (0 + n ≤ List.length W) then bif okZ (3) (cut W (0) n) && (decide (List.length (cut W (0) n) ≤ 4611686018427387903) && true) then bif !fdB (toZ (cut W (0) n)) (1) (0) == b4 then stM n m c (4) W g0 g1 g2 g3 g4 g5 g6 g7 g8 g9 g10 g11 g12 g13 g14 g15 b0 b1 b2 b3 b4 b5 b6 b7 b8 b9 b10 b11 b12 b13 b14 b15 = stM n m c (4) W g0 g1 g2 g3 g4 g5 g6 g7 g8 g9 g10 g11 g12 g13 g14 g15 b0 b1 b2 b3 b4 b5 b6 b7 b8 b9 b10 b11 b12 b13 b14 b15 ∧ E Exit.ret (stM n m c (4) W g0 g1 g2 g3 g4 g5 g6 g7 g8 g9 g10 g11 g12 g13 g14 g15 b0 b1 b2 b3 b4 b5 b6 b7 b8 b9 b10 b11 b12 b13 b14 b15) else bif fdB (toZ (cut W (0) n)) (1) (0) then bif fdV (toZ (cut W (0) n)) (1) (0) != g4 then stM n m c (4) W g0 g1 g2 g3 g4 g5 g6 g7 g8 g9 g10 g11 g12 g13 g14 g15 b0 b1 b2 b3 b4 b5 b6 b7 b8 b9 b10 b11 b12 b13 b14 b15 = stM n m c (4) W g0 g1 g2 g3 g4 g5 g6 g7 g8 g9 g10 g11 g12 g13 g14 g15 b0 b1 b2 b3 b4 b5 b6 b7 b8 b9 b10 b11 b12 b13 b14 b15 ∧ E Exit.ret (stM n m c (4) W g0 g1 g2 g3 g4 g5 g6 g7 g8 g9 g10 g11 g12 g13 g14 g15 b0 b1 b2 b3 b4 b5 b6 b7 b8 b9 b10 b11 b12 b13 b14 b15) else bif fdB (toZ (cut W (0) n)) (1) (0) then stM n m (IntKind.wrap IntKind.i64 (c + 1)) (5) W g0 g1 g2 g3 g4 g5 g6 g7 g8 g9 g10 g11 g12 g13 g14 g15 b0 b1 b2 b3 b4 b5 b6 b7 b8 b9 b10 b11 b12 b13 b14 b15 = stM n m (IntKind.wrap IntKind.i64 (c + 1)) (5) W g0 g1 g2 g3 g4 g5 g6 g7 g8 g9 g10 g11 g12 g13 g14 g15 b0 b1 b2 b3 b4 b5 b6 b7 b8 b9 b10 b11 b12 b13 b14 b15 ∧ N (stM n m (IntKind.wrap IntKind.i64 (c + 1)) (5) W g0 g1 g2 g3 g4 g5 g6 g7 g8 g9 g10 g11 g12 g13 g14 g15 b0 b1 b2 b3 b4 b5 b6 b7 b8 b9 b10 b11 b12 b13 b14 b15) else stM n m c (5) W g0 g1 g2 g3 g4 g5 g6 g7 g8 g9 g10 g11 g12 g13 g14 g15 b0 b1 b2 b3 b4 b5 b6 b7 b8 b9 b10 b11 b12 b13 b14 b15 = stM n m c (5) W g0 g1 g2 g3 g4 g5 g6 g7 g8 g9 g10 g11 g12 g13 g14 g15 b0 b1 b2 b3 b4 b5 b6 b7 b8 b9 b10 b11 b12 b13 b14 b15 ∧ N (stM n m c (5) W g0 g1 g2 g3 g4 g5 g6 g7 g8 g9 g10 g11 g12 g13 g14 g15 b0 b1 b2 b3 b4 b5 b6 b7 b8 b9 b10 b11 b12 b13 b14 b15) else bif fdB (toZ (cut W (0) n)) (1) (0) then stM n m (IntKind.wrap IntKind.i64 (c + 1)) (5) W g0 g1 g2 g3 g4 g5 g6 g7 g8 g9 g10 g11 g12 g13 g14 g15 b0 b1 b2 b3 b4 b5 b6 b7 b8 b9 b10 b11 b12 b13 b14 b15 = stM n m (IntKind.wrap IntKind.i64 (c + 1)) (5) W g0 g1 g2 g3 g4 g5 g6 g7 g8 g9 g10 g11 g12 g13 g14 g15 b0 b1 b2 b3 b4 b5 b6 b7 b8 b9 b10 b11 b12 b13 b14 b15 ∧ N (stM n m (IntKind.wrap IntKind.i64 (c + 1)) (5) W g0 g1 g2 g3 g4 g5 g6 g7 g8 g9 g10 g11 g12 g13 g14 g15 b0 b1 b2 b3 b4 b5 b6 b7 b8 b9 b10 b11 b12 b13 b14 b15) else stM n m c (5) W g0 g1 g2 g3 g4 g5 g6 g7 g8 g9 g10 g11 g12 g13 g14 g15 b0 b1 b2 b3 b4 b5 b6 b7 b8 b9 b10 b11 b12 b13 b14 b15 = stM n m c (5) W g0 g1 g2 g3 g4 g5 g6 g7 g8 g9 g10 g11 g12 g13 g14 g15 b0 b1 b2 b3 b4 b5 b6 b7 b8 b9 b10 b11 b12 b13 b14 b15 ∧ N (stM n m c (5) W g0 g1 g2 g3 g4 g5 g6 g7 g8 g9 g10 g11 g12 g13 g14 g15 b0 b1 b2 b3 b4 b5 b6 b7 b8 b9 b10 b11 b12 b13 b14 b15) else False else False) := by kernel_rfl
theorem qM_4 {l : List (List Int)} {m : Nat} {g : Nat → Int} {f : Nat → Bool} (hv : InvL l g f) {N : X → Prop} {E : Exit → X → Prop} (h : N (sfM l m g f (cntF f 5 : Nat) ((5 : Nat) : Int))) : roundV Try.prog (gK band [(68, 0)] [(48, sFnd)]) Try.f15 1 [] [3, 4, 5, 11, 12] [4, 5, 6] v_stM (fun _ => v_stM) N E (sfM l m g f (cntF f 4 : Nat) ((4 : Nat) : Int)) := by
  have z1 : ((5 : Nat) : Int) = 5 := rfl
  have z0 : ((4 : Nat) : Int) = 4 := rfl
  rw [z1] at h
  rw [z0]
  unfold sfM
  rw [rM_4]
  have hk3 : band 4 3 = 0 := by rw [mask2]; rfl
  obtain ⟨f1, f2⟩ := hv.fd (k := 4) (by omega)
  have f1 : fdB l 1 0 = f 4 := f1
  have f2 : f 4 = true → fdV l 1 0 = g 4 := f2
  have h16 := ((wmay_iff l).1 hv.may).1
  have o1 : okZ 3 (mZ l) = true := okZ_mZ hv.wid (by omega)
  have hL : decide ((mZ l).length ≤ 4611686018427387903) = true := decide_eq_true (by rw [mZ_len]; omega)
  have hc := cntF_le f 4
  have wi : IntKind.wrap .i64 (((cntF f 4 : Nat) : Int) + 1) = ((cntF f 4 + 1 : Nat) : Int) := wrap_nat (n := 1) (by omega)
  have e : cntF f 5 = bif f 4 then cntF f 4 + 1 else cntF f 4 := rfl
  unfold sfM at h
  rw [e] at h
  simp only [hk3, true_and, Nat.zero_add, cut_all (mZ_len l), o1, hL, toZ_mZ, f1, Bool.and_self, Bool.and_true, cond_true, decide_eq_true (show l.length ≤ (mZ l).length by rw [mZ_len]; exact Nat.le_refl _)]
  cases hb : f 4 with
  | true =>
    rw [hb] at h
    simp only [f2 hb, bne_self_eq_false, Bool.not_true, beq_self_eq_true, cond_true, cond_false, wi, Bool.not_beq_self]
    exact h
  | false =>
    rw [hb] at h
    simp only [Bool.not_false, cond_true, cond_false, Bool.not_beq_self]
    exact h
theorem rM_5 (an : Int → Int → Int) (n : Nat) (m : Nat) (c : Int) (W : List (List D)) (g0 : Int) (g1 : Int) (g2 : Int) (g3 : Int) (g4 : Int) (g5 : Int) (g6 : Int) (g7 : Int) (g8 : Int) (g9 : Int) (g10 : Int) (g11 : Int) (g12 : Int) (g13 : Int) (g14 : Int) (g15 : Int) (b0 : Bool) (b1 : Bool) (b2 : Bool) (b3 : Bool) (b4 : Bool) (b5 : Bool) (b6 : Bool) (b7 : Bool) (b8 : Bool) (b9 : Bool) (b10 : Bool) (b11 : Bool) (b12 : Bool) (b13 : Bool) (b14 : Bool) (b15 : Bool) (N : X → Prop) (E : Exit → X → Prop) : (roundV Try.prog (gK an [(68, 1)] [(48, sFnd)]) Try.f15 1 [] [3, 4, 5, 11, 12] [4, 5, 6] v_stM (fun _ => v_stM) N E (stM n m c 5 W g0 g1 g2 g3 g4 g5 g6 g7 g8 g9 g10 g11 g12 g13 g14 g15 b0 b1 b2 b3 b4 b5 b6 b7 b8 b9 b10 b11 b12 b13 b14 b15)) = (an (5) (3) = 1 ∧ bif decide (0 + n ≤ List.length W) then bif okZ (3) (cut W (0) n) && (decide (List.length (cut W (0) n) ≤ 4611686018427387903) && true) then bif !fdB (toZ (cut W (0) n)) (1) (1) == b5 then stM n m c (5) W g0 g1 g2 g3 g4 g5 g6 g7 g8 g9 g10 g11 g12 g13 g14 g15 b0 b1 b2 b3 b4 b5 b6 b7 b8 b9 b10 b11 b12 b13 b14 b15 = stM n m c (5) W g0 g1 g2 g3 g4 g5 g6 g7 g8 g9 g10 g11 g12 g13 g14 g15 b0 b1 b2 b3 b4 b5 b6 b7 b8 b9 b10 b11 b12 b13 b14 b15 ∧ E Exit.ret (stM n m c (5) W g0 g1 g2 g3 g4 g5 g6 g7 g8 g9 g10 g11 g12 g13 g14 g15 b0 b1 b2 b3 b4 b5 b6 b7 b8 b9 b10 b11 b12 b13 b14 b15) else bif fdB (toZ (cut W (0) n)) (1) (1) then bif fdV (toZ (cut W (0) n)) (1) (1) != g5 then stM n m c (5) W g0 g1 g2 g3 g4 g5 g6 g7 g8 g9 g10 g11 g12 g13 g14 g15 b0 b1 b2 b3 b4 b5 b6 b7 b8 b9 b10 b11 b12 b13 b14 b15 = stM n m c (5) W g0 g1 g2 g3 g4 g5 g6 g7 g8 g9 g10 g11 g12 g13 g14 g15 b0 b1 b2 b3 b4 b5 b6 b7 b8 b9 b10 b11 b12 b13 b14 b15 ∧ E Exit.ret (stM n m c (5) W g0 g1 g2 g3 g4 g5 g6 g7 g8 g9 g10 g11 g12 g13 g14 g15 b0 b1 b2 b3 b4 b5 b6 b7 b8 b9 b10 b11 b12 b13 b14 b15) else bif fdB (toZ (cut W (0) n)) (1) (1) then stM n m (IntKind.wrap IntKind.i64 (c + 1)) (6) W g0 g1 g2 g3 g4 g5 g6 g7 g8 g9 g10 g11 g12 g13 g14 g15 b0 b1 b2 b3 b4 b5 b6 b7 b8 b9 b10 b11 b12 b13 b14 b15 = stM n m (IntKind.wrap IntKind.i64 (c + 1)) (6) W g0 g1 g2 g3 g4 g5 g6 g7 g8 g9 g10 g11 g12 g13 g14 g15 b0 b1 b2 b3 b4 b5 b6 b7 b8 b9 b10 b11 b12 b13 b14 b15 ∧ N (stM n m (IntKind.wrap IntKind.i64 (c + 1)) (6) W g0 g1 g2 g3 g4 g5 g6 g7 g8 g9 g10 g11 g12 g13 g14 g15 b0 b1 b2 b3 b4 b5 b6 b7 b8 b9 b10 b11 b12 b13 b14 b15) else stM n m c (6) W g0 g1 g2 g3 g4 g5 g6 g7 g8 g9 g10 g11 g12 g13 g14 g15 b0 b1 b2 b3 b4 b5 b6 b7 b8 b9 b10 b11 b12 b13 b14 b15 = stM n m c (6) W g0 g1 g2 g3 g4 g5 g6 g7 g8 g9 g10 g11 g12 g13 g14 g15 b0 b1 b2 b3 b4 b5 b6 b7 b8 b9 b10 b11 b12 b13 b14 b15 ∧ N (stM n m c (6) W g0 g1 g2 g3 g4 g5 g6 g7 g8 g9 g10 g11 g12 g13 g14 g15 b0 b1 b2 b3 b4 b5 b6 b7 b8 b9 b10 b11 b12 b13 b14 b15) else bif fdB (toZ (cut W (0) n)) (1) (1) then stM n m (IntKind.wrap IntKind.i64 (c + 1)) (6) W g0 g1 g2 g3 g4 g5 g6 g7 g8 g9 g10 g11 g12 g13 g14 g15 b0 b1 b2 b3 b4 b5 b6 b7 b8 b9 b10 b11 b12 b13 b14 b15 = stM n m (IntKind.wrap IntKind.i64 (c + 1)) (6) W g0 g1 g2 g3 g4 g5 g6 g7 g8 g9 g10 g11 g12 g13 g14 g15 b0 b1 b2 b3 b4 b5 b6 b7 b8 b9 b10 b11 b12 b13 b14 b15 ∧ N (stM n m (IntKind.wrap IntKind.i64 (c + 1)) (6) W g0 g1 g2 g3 g4 g5 g6 g7 g8 g9 g10 g11 g12 g13 g14 g15 b0 b1 b2 b3 b4 b5 b6 b7 b8 b9 b10 b11 b12 b13 b14 b15) else stM n m c (6) W g0 g1 g2 g3 g4 g5 g6 g7 g8 g9 g10 g11 g12 g13 g14 g15 b0 b1 b2 b3 b4 b5 b6 b7 b8 b9 b10 b11 b12 b13 b14 b15 = stM n m c (6) W g0 g1 g2 g3 g4 g5 g6 g7 g8 g9 g10 g11 g12 g13 g14 g15 b0 b1 b2 b3 b4 b5 b6 b7 b8 b9 b10 b11 b12 b13 b14 b15 ∧ N (stM n m c (6) W g0 g1 g2 g3 g4 g5 g6 g7 g8 g9 g10 g11 g12 g13 g14 g15 b0 b1 b2 b3 b4 b5 b6 b7 b8 b9 b10 b11 b12 b13 b14 b15) else False else False) := by kernel_rfl
theorem qM_5 {l : List (List Int)} {m : Nat} {g : Nat → Int} {f : Nat → Bool} (hv : InvL l g f) {N : X → Prop} {E : Exit → X → Prop} (h : N (sfM l m g f (cntF f 6 : Nat) ((6 : Nat) : Int))) : roundV Try.prog (gK band [(68, 1)] [(48, sFnd)]) Try.f15 1 [] [3, 4, 5, 11, 12] [4, 5, 6] v_stM (fun _ => v_stM) N E (sfM l m g f (cntF f 5 : Nat) ((5 : Nat) : Int)) := by
  have z1 : ((6 : Nat) : Int) = 6 := rfl
  have z0 : ((5 : Nat) : Int) = 5 := rfl
  rw [z1] at h
  rw [z0]
  unfold sfM
  rw [rM_5]
  have hk3 : band 5 3 = 1 := by rw [mask2]; rfl
  obtain ⟨f1, f2⟩ := hv.fd (k := 5) (by omega)
  have f1 : fdB l 1 1 = f 5 := f1
  have f2 : f 5 = true → fdV l 1 1 = g 5 := f2
  have h16 := ((wmay_iff l).1 hv.may).1
  have o1 : okZ 3 (mZ l) = true := okZ_mZ hv.wid (by omega)
  have hL : decide ((mZ l).length ≤ 4611686018427387903) = true := decide_eq_true (by rw [mZ_len]; omega)
  have hc := cntF_le f 5
  have wi : IntKind.wrap .i64 (((cntF f 5 : Nat) : Int) + 1) = ((cntF f 5 + 1 : Nat) : Int) := wrap_nat (n := 1) (by omega)
  have e : cntF f 6 = bif f 5 then cntF f 5 + 1 else cntF f 5 := rfl
  unfold sfM at h
  rw [e] at h
  simp only [hk3, true_and, Nat.zero_add, cut_all (mZ_len l), o1, hL, toZ_mZ, f1, Bool.and_self, Bool.and_true, cond_true, decide_eq_true (show l.length ≤ (mZ l).length by rw [mZ_len]; exact Nat.le_refl _)]
  cases hb : f 5 with
  | true =>
    rw [hb] at h
    simp only [f2 hb, bne_self_eq_false, Bool.not_true, beq_self_eq_true, cond_true, cond_false, wi, Bool.not_beq_self]
    exact h
  | false =>
    rw [hb] at h
    simp only [Bool.not_false, cond_true, cond_false, Bool.not_beq_self]
    exact h
theorem rM_6 (an : Int → Int → Int) (n : Nat) (m : Nat) (c : Int) (W : List (List D)) (g0 : Int) (g1 : Int) (g2 : Int) (g3 : Int) (g4 : Int) (g5 : Int) (g6 : Int) (g7 : Int) (g8 : Int) (g9 : Int) (g10 : Int) (g11 : Int) (g12 : Int) (g13 : Int) (g14 : Int) (g15 : Int) (b0 : Bool) (b1 : Bool) (b2 : Bool) (b3 : Bool) (b4 : Bool) (b5 : Bool) (b6 : Bool) (b7 : Bool) (b8 : Bool) (b9 : Bool) (b10 : Bool) (b11 : Bool) (b12 : Bool) (b13 : Bool) (b14 : Bool) (b15 : Bool) (N : X → Prop) (E : Exit → X → Prop) : (roundV Try.prog (gK an [(68, 2)] [(48, sFnd)]) Try.f15 1 [] [3, 4, 5, 11, 12] [4, 5, 6] v_stM (fun _ => v_stM) N E (stM n m c 6 W g0 g1 g2 g3 g4 g5 g6 g7 g8 g9 g10 g11 g12 g13 g14 g15 b0 b1 b2 b3 b4 b5 b6 b7 b8 b9 b10 b11 b12 b13 b14 b15)) = (an (6) (3) = 2 ∧ bif decide (0 + n ≤ List.length W) then bif okZ (3) (cut W (0) n) && (decide (List.length (cut W (0) n) ≤ 4611686018427387903) && true) then bif !fdB (toZ (cut W (0) n)) (1) (2) == b6 then stM n m c (6) W g0 g1 g2 g3 g4 g5 g6 g7 g8 g9 g10 g11 g12 g13 g14 g15 b0 b1 b2 b3 b4 b5 b6 b7 b8 b9 b10 b11 b12 b13 b14 b15 = stM n m c (6) W g0 g1 g2 g3 g4 g5 g6 g7 g8 g9 g10 g11 g12 g13 g14 g15 b0 b1 b2 b3 b4 b5 b6 b7 b8 b9 b10 b11 b12 b13 b14 b15 ∧ E Exit.ret (stM n m c (6) W g0 g1 g2 g3 g4 g5 g6 g7 g8 g9 g10 g11 g12 g13 g14 g15 b0 b1 b2 b3 b4 b5 b6 b7 b8 b9 b10 b11 b12 b13 b14 b15) else bif fdB (toZ (cut W (0) n)) (1) (2) then bif fdV (toZ (cut W (0) n)) (1) (2) != g6 then stM n m c (6) W g0 g1 g2 g3 g4 g5 g6 g7 g8 g9 g10 g11 g12 g13 g14 g15 b0 b1 b2 b3 b4 b5 b6 b7 b8 b9 b10 b11 b12 b13 b14 b15 = stM n m c (6) W g0 g1 g2 g3 g4 g5 g6 g7 g8 g9 g10 g11 g12 g13 g14 g15 b0 b1 b2 b3 b4 b5 b6 b7 b8 b9 b10 b11 b12 b13 b14 b15 ∧ E Exit.ret (stM n m c (6) W g0 g1 g2 g3 g4 g5 g6 g7 g8 g9 g10 g11 g12 g13 g14 g15 b0 b1 b2 b3 b4 b5 b6 b7 b8 b9 b10 b11 b12 b13 b14 b15) else bif fdB (toZ (cut W (0) n)) (1) (2) then stM n m (IntKind.wrap IntKind.i64 (c + 1)) (7) W g0 g1 g2 g3 g4 g5 g6 g7 g8 g9 g10 g11 g12 g13 g14 g15 b0 b1 b2 b3 b4 b5 b6 b7 b8 b9 b10 b11 b12 b13 b14 b15 = stM n m (IntKind.wrap IntKind.i64 (c + 1)) (7) W g0 g1 g2 g3 g4 g5 g6 g7 g8 g9 g10 g11 g12 g13 g14 g15 b0 b1 b2 b3 b4 b5 b6 b7 b8 b9 b10 b11 b12 b13 b14 b15 ∧ N (stM n m (IntKind.wrap IntKind.i64 (c + 1)) (7) W g0 g1 g2 g3 g4 g5 g6 g7 g8 g9 g10 g11 g12 g13 g14 g15 b0 b1 b2 b3 b4 b5 b6 b7 b8 b9 b10 b11 b12 b13 b14 b15) else stM n m c (7) W g0 g1 g2 g3 g4 g5 g6 g7 g8 g9 g10 g11 g12 g13 g14 g15 b0 b1 b2 b3 b4 b5 b6 b7 b8 b9 b10 b11 b12 b13 b14 b15 = stM n m c (7) W g0 g1 g2 g3 g4 g5 g6 g7 g8 g9 g10 g11 g12 g13 g14 g15 b0 b1 b2 b3 b4 b5 b6 b7 b8 b9 b10 b11 b12 b13 b14 b15 ∧ N (stM n m c (7) W g0 g1 g2 g3 g4 g5 g6 g7 g8 g9 g10 g11 g12 g13 g14 g15 b0 b1 b2 b3 b4 b5 b6 b7 b8 b9 b10 b11 b12 b13 b14 b15) else bif fdB (toZ (cut W (0) n)) (1) (2) then stM n m (IntKind.wrap IntKind.i64 (c + 1)) (7) W g0 g1 g2 g3 g4 g5 g6 g7 g8 g9 g10 g11 g12 g13 g14 g15 b0 b1 b2 b3 b4 b5 b6 b7 b8 b9 b10 b11 b12 b13 b14 b15 = stM n m (IntKind.wrap IntKind.i64 (c + 1)) (7) W g0 g1 g2 g3 g4 g5 g6 g7 g8 g9 g10 g11 g12 g13 g14 g15 b0 b1 b2 b3 b4 b5 b6 b7 b8 b9 b10 b11 b12 b13 b14 b15 ∧ N (stM n m (IntKind.wrap IntKind.i64 (c + 1)) (7) W g0 g1 g2 g3 g4 g5 g6 g7 g8 g9 g10 g11 g12 g13 g14 g15 b0 b1 b2 b3 b4 b5 b6 b7 b8 b9 b10 b11 b12 b13 b14 b15) else stM n m c (7) W g0 g1 g2 g3 g4 g5 g6 g7 g8 g9 g10 g11 g12 g13 g14 g15 b0 b1 b2 b3 b4 b5 b6 b7 b8 b9 b10 b11 b12 b13 b14 b15 = stM n m c (7) W g0 g1 g2 g3 g4 g5 g6 g7 g8 g9 g10 g11 g12 g13 g14 g15 b0 b1 b2 b3 b4 b5 b6 b7 b8 b9 b10 b11 b12 b13 b14 b15 ∧ N (stM n m c (7) W g0 g1 g2 g3 g4 g5 g6 g7 g8 g9 g10 g11 g12 g13 g14 g15 b0 b1 b2 b3 b4 b5 b6 b7 b8 b9 b10 b11 b12 b13 b14 b15) else False else False) := by kernel_rfl
theorem qM_6 {l : List (List Int)} {m : Nat} {g : Nat → Int} {f : Nat → Bool} (hv : InvL l g f) {N : X → Prop} {E : Exit → X → Prop} (h : N (sfM l m g f (cntF f 7 : Nat) ((7 : Nat) : Int))) : roundV Try.prog (gK band [(68, 2)] [(48, sFnd)]) Try.f15 1 [] [3, 4, 5, 11, 12] [4, 5, 6] v_stM (fun _ => v_stM) N E (sfM l m g f (cntF f 6 : Nat) ((6 : Nat) : Int)) := by
  have z1 : ((7 : Nat) : Int) = 7 := rfl
  have z0 : ((6 : Nat) : Int) = 6 := rfl
  rw [z1] at h
  rw [z0]
  unfold sfM
  rw [rM_6]
  have hk3 : band 6 3 = 2 := by rw [mask2]; rfl
  obtain ⟨f1, f2⟩ := hv.fd (k := 6) (by omega)
  have f1 : fdB l 1 2 = f 6 := f1
  have f2 : f 6 = true → fdV l 1 2 = g 6 := f2
  have h16 := ((wmay_iff l).1 hv.may).1
  have o1 : okZ 3 (mZ l) = true := okZ_mZ hv.wid (by omega)
  have hL : decide ((mZ l).length ≤ 4611686018427387903) = true := decide_eq_true (by rw [mZ_len]; omega)
  have hc := cntF_le f 6
  have wi : IntKind.wrap .i64 (((cntF f 6 : Nat) : Int) + 1) = ((cntF f 6 + 1 : Nat) : Int) := wrap_nat (n := 1) (by omega)
  have e : cntF f 7 = bif f 6 then cntF f 6 + 1 else cntF f 6 := rfl
  unfold sfM at h
  rw [e] at h
  simp only [hk3, true_and, Nat.zero_add, cut_all (mZ_len l), o1, hL, toZ_mZ, f1, Bool.and_self, Bool.and_true, cond_true, decide_eq_true (show l.length ≤ (mZ l).length by rw [mZ_len]; exact Nat.le_refl _)]
  cases hb : f 6 with
  | true =>
    rw [hb] at h
    simp only [f2 hb, bne_self_eq_false, Bool.not_true, beq_self_eq_true, cond_true, cond_false, wi, Bool.not_beq_self]
    exact h
  | false =>
    rw [hb] at h
    simp only [Bool.not_false, cond_true, cond_false, Bool.not_beq_self]
    exact h
theorem rM_7 (an : Int → Int → Int) (n : Nat) (m : Nat) (c : Int) (W : List (List D)) (g0 : Int) (g1 : Int) (g2 : Int) (g3 : Int) (g4 : Int) (g5 : Int) (g6 : Int) (g7 : Int) (g8 : Int) (g9 : Int) (g10 : Int) (g11 : Int) (g12 : Int) (g13 : Int) (g14 : Int) (g15 : Int) (b0 : Bool) (b1 : Bool) (b2 : Bool) (b3 : Bool) (b4 : Bool) (b5 : Bool) (b6 : Bool) (b7 : Bool) (b8 : Bool) (b9 : Bool) (b10 : Bool) (b11 : Bool) (b12 : Bool) (b13 : Bool) (b14 : Bool) (b15 : Bool) (N : X → Prop) (E : Exit → X → Prop) : (roundV Try.prog (gK an [(68, 3)] [(48, sFnd)]) Try.f15 1 [] [3, 4, 5, 11, 12] [4, 5, 6] v_stM (fun _ => v_stM) N E (stM n m c 7 W g0 g1 g2 g3 g4 g5 g6 g7 g8 g9 g10 g11 g12 g13 g14 g15 b0 b1 b2 b3 b4 b5 b6 b7 b8 b9 b10 b11 b12 b13 b14 b15)) = (an (7) (3) = 3 ∧ bif decide (0 + n ≤ List.length W) then bif okZ (3) (cut W (0) n) && (decide (List.length (cut W (0) n) ≤ 4611686018427387903) && true) then bif !fdB (toZ (cut W (0) n)) (1) (3) == b7 then stM n m c (7) W g0 g1 g2 g3 g4 g5 g6 g7 g8 g9 g10 g11 g12 g13 g14 g15 b0 b1 b2 b3 b4 b5 b6 b7 b8 b9 b10 b11 b12 b13 b14 b15 = stM n m c (7) W g0 g1 g2 g3 g4 g5 g6 g7 g8 g9 g10 g11 g12 g13 g14 g15 b0 b1 b2 b3 b4 b5 b6 b7 b8 b9 b10 b11 b12 b13 b14 b15 ∧ E Exit.ret (stM n m c (7) W g0 g1 g2 g3 g4 g5 g6 g7 g8 g9 g10 g11 g12 g13 g14 g15 b0 b1 b2 b3 b4 b5 b6 b7 b8 b9 b10 b11 b12 b13 b14 b15) else bif fdB (toZ (cut W (0) n)) (1) (3) then bif fdV (toZ (cut W (0) n)) (1) (3) != g7 then stM n m c (7) W g0 g1 g2 g3 g4 g5 g6 g7 g8 g9 g10 g11 g12 g13 g14 g15 b0 b1 b2 b3 b4 b5 b6 b7 b8 b9 b10 b11 b12 b13 b14 b15 = stM n m c (7) W g0 g1 g2 g3 g4 g5 g6 g7 g8 g9 g10 g11 g12 g13 g14 g15 b0 b1 b2 b3 b4 b5 b6 b7 b8 b9 b10 b11 b12 b13 b14 b15 ∧ E Exit.ret (stM n m c (7) W g0 g1 g2 g3 g4 g5 g6 g7 g8 g9 g10 g11 g12 g13 g14 g15 b0 b1 b2 b3 b4 b5 b6 b7 b8 b9 b10 b11 b12 b13 b14 b15) else bif fdB (toZ (cut W (0) n)) (1) (3) then stM n m (IntKind.wrap IntKind.i64 (c + 1)) (8) W g0 g1 g2 g3 g4 g5 g6 g7 g8 g9 g10 g11 g12 g13 g14 g15 b0 b1 b2 b3 b4 b5 b6 b7 b8 b9 b10 b11 b12 b13 b14 b15 = stM n m (IntKind.wrap IntKind.i64 (c + 1)) (8) W g0 g1 g2 g3 g4 g5 g6 g7 g8 g9 g10 g11 g12 g13 g14 g15 b0 b1 b2 b3 b4 b5 b6 b7 b8 b9 b10 b11 b12 b13 b14 b15 ∧ N (stM n m (IntKind.wrap IntKind.i64 (c + 1)) (8) W g0 g1 g2 g3 g4 g5 g6 g7 g8 g9 g10 g11 g12 g13 g14 g15 b0 b1 b2 b3 b4 b5 b6 b7 b8 b9 b10 b11 b12 b13 b14 b15) else stM n m c (8) W g0 g1 g2 g3 g4 g5 g6 g7 g8 g9 g10 g11 g12 g13 g14 g15 b0 b1 b2 b3 b4 b5 b6 b7 b8 b9 b10 b11 b12 b13 b14 b15 = stM n m c (8) W g0 g1 g2 g3 g4 g5 g6 g7 g8 g9 g10 g11 g12 g13 g14 g15 b0 b1 b2 b3 b4 b5 b6 b7 b8 b9 b10 b11 b12 b13 b14 b15 ∧ N (stM n m c (8) W g0 g1 g2 g3 g4 g5 g6 g7 g8 g9 g10 g11 g12 g13 g14 g15 b0 b1 b2 b3 b4 b5 b6 b7 b8 b9 b10 b11 b12 b13 b14 b15) else bif fdB (toZ (cut W (0) n)) (1) (3) then stM n m (IntKind.wrap IntKind.i64 (c + 1)) (8) W g0 g1 g2 g3 g4 g5 g6 g7 g8 g9 g10 g11 g12 g13 g14 g15 b0 b1 b2 b3 b4 b5 b6 b7 b8 b9 b10 b11 b12 b13 b14 b15 = stM n m (IntKind.wrap IntKind.i64 (c + 1)) (8) W g0 g1 g2 g3 g4 g5 g6 g7 g8 g9 g10 g11 g12 g13 g14 g15 b0 b1 b2 b3 b4 b5 b6 b7 b8 b9 b10 b11 b12 b13 b14 b15 ∧ N (stM n m (IntKind.wrap IntKind.i64 (c + 1)) (8) W g0 g1 g2 g3 g4 g5 g6 g7 g8 g9 g10 g11 g12 g13 g14 g15 b0 b1 b2 b3 b4 b5 b6 b7 b8 b9 b10 b11 b12 b13 b14 b15) else stM n m c (8) W g0 g1 g2 g3 g4 g5 g6 g7 g8 g9 g10 g11 g12 g13 g14 g15 b0 b1 b2 b3 b4 b5 b6 b7 b8 b9 b10 b11 b12 b13 b14 b15 = stM n m c (8) W g0 g1 g2 g3 g4 g5 g6 g7 g8 g9 g10 g11 g12 g13 g14 g15 b0 b1 b2 b3 b4 b5 b6 b7 b8 b9 b10 b11 b12 b13 b14 b15 ∧ N (stM n m c (8) W g0 g1 g2 g3 g4 g5 g6 g7 g8 g9 g10 g11 g12 g13 g14 g15 b0 b1 b2 b3 b4 b5 b6 b7 b8 b9 b10 b11 b12 b13 b14 b15) else False else False) := by kernel_rfl
theorem qM_7 {l : List (List Int)} {m : Nat} {g : Nat → Int} {f : Nat → Bool} (hv : InvL l g f) {N : X → Prop} {E : Exit → X → Prop} (h : N (sfM l m g f (cntF f 8 : Nat) ((8 : Nat) : Int))) : roundV Try.prog (gK band [(68, 3)] [(48, sFnd)]) Try.f15 1 [] [3, 4, 5, 11, 12] [4, 5, 6] v_stM (fun _ => v_stM) N E (sfM l m g f (cntF f 7 : Nat) ((7 : Nat) : Int)) := by
  have z1 : ((8 : Nat) : Int) = 8 := rfl
  have z0 : ((7 : Nat) : Int) = 7 := rfl
  rw [z1] at h
  rw [z0]
  unfold sfM
  rw [rM_7]
  have hk3 : band 7 3 = 3 := by rw [mask2]; rfl
  obtain ⟨f1, f2⟩ := hv.fd (k := 7) (by omega)
  have f1 : fdB l 1 3 = f 7 := f1
  have f2 : f 7 = true → fdV l 1 3 = g 7 := f2
  have h16 := ((wmay_iff l).1 hv.may).1
  have o1 : okZ 3 (mZ l) = true := okZ_mZ hv.wid (by omega)
  have hL : decide ((mZ l).length ≤ 4611686018427387903) = true := decide_eq_true (by rw [mZ_len]; omega)
  have hc := cntF_le f 7
  have wi : IntKind.wrap .i64 (((cntF f 7 : Nat) : Int) + 1) = ((cntF f 7 + 1 : Nat) : Int) := wrap_nat (n := 1) (by omega)
  have e : cntF f 8 = bif f 7 then cntF f 7 + 1 else cntF f 7 := rfl
  unfold sfM at h
  rw [e] at h
  simp only [hk3, true_and, Nat.zero_add, cut_all (mZ_len l), o1, hL, toZ_mZ, f1, Bool.and_self, Bool.and_true, cond_true, decide_eq_true (show l.length ≤ (mZ l).length by rw [mZ_len]; exact Nat.le_refl _)]
  cases hb : f 7 with
  | true =>
    rw [hb] at h
    simp only [f2 hb, bne_self_eq_false, Bool.not_true, beq_self_eq_true, cond_true, cond_false, wi, Bool.not_beq_self]
    exact h
  | false =>
    rw [hb] at h
    simp only [Bool.not_false, cond_true, cond_false, Bool.not_beq_self]
    exact h
theorem rM_8 (an : Int → Int → Int) (n : Nat) (m : Nat) (c : Int) (W : List (List D)) (g0 : Int) (g1 : Int) (g2 : Int) (g3 : Int) (g4 : Int) (g5 : Int) (g6 : Int) (g7 : Int) (g8 : Int) (g9 : Int) (g10 : Int) (g11 : Int) (g12 : Int) (g13 : Int) (g14 : Int) (g15 : Int) (b0 : Bool) (b1 : Bool) (b2 : Bool) (b3 : Bool) (b4 : Bool) (b5 : Bool) (b6 : Bool) (b7 : Bool) (b8 : Bool) (b9 : Bool) (b10 : Bool) (b11 : Bool) (b12 : Bool) (b13 : Bool) (b14 : Bool) (b15 : Bool) (N : X → Prop) (E : Exit → X → Prop) : (roundV Try.prog (gK an [(68, 0)] [(48, sFnd)]) Try.f15 1 [] [3, 4, 5, 11, 12] [4, 5, 6] v_stM (fun _ => v_stM) N E (stM n m c 8 W g0 g1 g2 g3 g4 g5 g6 g7 g8 g9 g10 g11 g12 g13 g14 g15 b0 b1 b2 b3 b4 b5 b6 b7 b8 b9 b10 b11 b12 b13 b14 b15)) = (an (8) (3) = 0 ∧ bif decide (0 + n ≤ List.length W) then bif okZ (3) (cut W (0) n) && (decide (List.length (cut W (0) n) ≤ 4611686018427387903) && true) then bif !fdB (toZ (cut W (0) n)) (2) (0) == b8 then stM n m c (8) W g0 g1 g2 g3 g4 g5 g6 g7 g8 g9 g10 g11 g12 g13 g14 g15 b0 b1 b2 b3 b4 b5 b6 b7 b8 b9 b10 b11 b12 b13 b14 b15 = stM n m c (8) W g0 g1 g2 g3 g4 g5 g6 g7 g8 g9 g10 g11 g12 g13 g14 g15 b0 b1 b2 b3 b4 b5 b6 b7 b8 b9 b10 b11 b12 b13 b14 b15 ∧ E Exit.ret (stM n m c (8) W g0 g1 g2 g3 g4 g5 g6 g7 g8 g9 g10 g11 g12 g13 g14 g15 b0 b1 b2 b3 b4 b5 b6 b7 b8 b9 b10 b11 b12 b13 b14 b15) else bif fdB (toZ (cut W (0) n)) (2) (0) then bif fdV (toZ (cut W (0) n)) (2) (0) != g8 then stM n m c (8) W g0 g1 g2 g3 g4 g5 g6 g7 g8 g9 g10 g11 g12 g13 g14 g15 b0 b1 b2 b3 b4 b5 b6 b7 b8 b9 b10 b11 b12 b13 b14 b15 = stM n m c (8) W g0 g1 g2 g3 g4 g5 g6 g7 g8 g9 g10 g11 g12 g13 g14 g15 b0 b1 b2 b3 b4 b5 b6 b7 b8 b9 b10 b11 b12 b13 b14 b15 ∧ E Exit.ret (stM n m c (8) W g0 g1 g2 g3 g4 g5 g6 g7 g8 g9 g10 g11 g12 g13 g14 g15 b0 b1 b2 b3 b4 b5 b6 b7 b8 b9 b10 b11 b12 b13 b14 b15) else bif fdB (toZ (cut W (0) n)) (2) (0) then stM n m (IntKind.wrap IntKind.i64 (c + 1)) (9) W g0 g1 g2 g3 g4 g5 g6 g7 g8 g9 g10 g11 g12 g13 g14 g15 b0 b1 b2 b3 b4 b5 b6 b7 b8 b9 b10 b11 b12 b13 b14 b15 = stM n m (IntKind.wrap IntKind.i64 (c + 1)) (9) W g0 g1 g2 g3 g4 g5 g6 g7 g8 g9 g10 g11 g12 g13 g14 g15 b0 b1 b2 b3 b4 b5 b6 b7 b8 b9 b10 b11 b12 b13 b14 b15 ∧ N (stM n m (IntKind.wrap IntKind.i64 (c + 1)) (9) W g0 g1 g2 g3 g4 g5 g6 g7 g8 g9 g10 g11 g12 g13 g14 g15 b0 b1 b2 b3 b4 b5 b6 b7 b8 b9 b10 b11 b12 b13 b14 b15) else stM n m c (9) W g0 g1 g2 g3 g4 g5 g6 g7 g8 g9 g10 g11 g12 g13 g14 g15 b0 b1 b2 b3 b4 b5 b6 b7 b8 b9 b10 b11 b12 b13 b14 b15 = stM n m c (9) W g0 g1 g2 g3 g4 g5 g6 g7 g8 g9 g10 g11 g12 g13 g14 g15 b0 b1 b2 b3 b4 b5 b6 b7 b8 b9 b10 b11 b12 b13 b14 b15 ∧ N (stM n m c (9) W g0 g1 g2 g3 g4 g5 g6 g7 g8 g9 g10 g11 g12 g13 g14 g15 b0 b1 b2 b3 b4 b5 b6 b7 b8 b9 b10 b11 b12 b13 b14 b15) else bif fdB (toZ (cut W (0) n)) (2) (0) then stM n m (IntKind.wrap IntKind.i64 (c + 1)) (9) W g0 g1 g2 g3 g4 g5 g6 g7 g8 g9 g10 g11 g12 g13 g14 g15 b0 b1 b2 b3 b4 b5 b6 b7 b8 b9 b10 b11 b12 b13 b14 b15 = stM n m (IntKind.wrap IntKind.i64 (c + 1)) (9) W g0 g1 g2 g3 g4 g5 g6 g7 g8 g9 g10 g11 g12 g13 g14 g15 b0 b1 b2 b3 b4 b5 b6 b7 b8 b9 b10 b11 b12 b13 b14 b15 ∧ N (stM n m (IntKind.wrap IntKind.i64 (c + 1)) (9) W g0 g1 g2 g3 g4 g5 g6 g7 g8 g9 g10 g11 g12 g13 g14 g15 b0 b1 b2 b3 b4 b5 b6 b7 b8 b9 b10 b11 b12 b13 b14 b15) else stM n m c (9) W g0 g1 g2 g3 g4 g5 g6 g7 g8 g9 g10 g11 g12 g13 g14 g15 b0 b1 b2 b3 b4 b5 b6 b7 b8 b9 b10 b11 b12 b13 b14 b15 = stM n m c (9) W g0 g1 g2 g3 g4 g5 g6 g7 g8 g9 g10 g11 g12 g13 g14 g15 b0 b1 b2 b3 b4 b5 b6 b7 b8 b9 b10 b11 b12 b13 b14 b15 ∧ N (stM n m c (9) W g0 g1 g2 g3 g4 g5 g6 g7 g8 g9 g10 g11 g12 g13 g14 g15 b0 b1 b2 b3 b4 b5 b6 b7 b8 b9 b10 b11 b12 b13 b14 b15) else False else False) := by kernel_rfl
theorem qM_8 {l : List (List Int)} {m : Nat} {g : Nat → Int} {f : Nat → Bool} (hv : InvL l g f) {N : X → Prop} {E : Exit → X → Prop} (h : N (sfM l m g f (cntF f 9 : Nat) ((9 : Nat) : Int))) : roundV Try.prog (gK band [(68, 0)] [(48, sFnd)]) Try.f15 1 [] [3, 4, 5, 11, 12] [4, 5, 6] v_stM (fun _ => v_stM) N E (sfM l m g f (cntF f 8 : Nat) ((8 : Nat) : Int)) := by
  have z1 : ((9 : Nat) : Int) = 9 := rfl
  have z0 : ((8 : Nat) : Int) = 8 := rfl
  rw [z1] at h
  rw [z0]
  unfold sfM
  rw [rM_8]
  have hk3 : band 8 3 = 0 := by rw [mask2]; rfl
  obtain ⟨f1, f2⟩ := hv.fd (k := 8) (by omega)
  have f1 : fdB l 2 0 = f 8 := f1
  have f2 : f 8 = true → fdV l 2 0 = g 8 := f2
  have h16 := ((wmay_iff l).1 hv.may).1
  have o1 : okZ 3 (mZ l) = true := okZ_mZ hv.wid (by omega)
  have hL : decide ((mZ l).length ≤ 4611686018427387903) = true := decide_eq_true (by rw [mZ_len]; omega)
  have hc := cntF_le f 8
  have wi : IntKind.wrap .i64 (((cntF f 8 : Nat) : Int) + 1) = ((cntF f 8 + 1 : Nat) : Int) := wrap_nat (n := 1) (by omega)
  have e : cntF f 9 = bif f 8 then cntF f 8 + 1 else cntF f 8 := rfl
  unfold sfM at h
  rw [e] at h
  simp only [hk3, true_and, Nat.zero_add, cut_all (mZ_len l), o1, hL, toZ_mZ, f1, Bool.and_self, Bool.and_true, cond_true, decide_eq_true (show l.length ≤ (mZ l).length by rw [mZ_len]; exact Nat.le_refl _)]
  cases hb : f 8 with
  | true =>
    rw [hb] at h
    simp only [f2 hb, bne_self_eq_false, Bool.not_true, beq_self_eq_true, cond_true, cond_false, wi, Bool.not_beq_self]
    exact h
  | false =>
    rw [hb] at h
    simp only [Bool.not_false, cond_true, cond_false, Bool.not_beq_self]
    exact h
theorem rM_9 (an : Int → Int → Int) (n : Nat) (m : Nat) (c : Int) (W : List (List D)) (g0 : Int) (g1 : Int) (g2 : Int) (g3 : Int) (g4 : Int) (g5 : Int) (g6 : Int) (g7 : Int) (g8 : Int) (g9 : Int) (g10 : Int) (g11 : Int) (g12 : Int) (g13 : Int) (g14 : Int) (g15 : Int) (b0 : Bool) (b1 : Bool) (b2 : Bool) (b3 : Bool) (b4 : Bool) (b5 : Bool) (b6 : Bool) (b7 : Bool) (b8 : Bool) (b9 : Bool) (b10 : Bool) (b11 : Bool) (b12 : Bool) (b13 : Bool) (b14 : Bool) (b15 : Bool) (N : X → Prop) (E : Exit → X → Prop) : (roundV Try.prog (gK an [(68, 1)] [(48, sFnd)]) Try.f15 1 [] [3, 4, 5, 11, 12] [4, 5, 6] v_stM (fun _ => v_stM) N E (stM n m c 9 W g0 g1 g2 g3 g4 g5 g6 g7 g8 g9 g10 g11 g12 g13 g14 g15 b0 b1 b2 b3 b4 b5 b6 b7 b8 b9 b10 b11 b12 b13 b14 b15)) = (an (9) (3) = 1 ∧ bif decide (0 + n ≤ List.length W) then bif okZ (3) (cut W (0) n) && (decide (List.length (cut W (0) n) ≤ 4611686018427387903) && true) then bif !fdB (toZ (cut W (0) n)) (2) (1) == b9 then stM n m c (9) W g0 g1 g2 g3 g4 g5 g6 g7 g8 g9 g10 g11 g12 g13 g14 g15 b0 b1 b2 b3 b4 b5 b6 b7 b8 b9 b10 b11 b12 b13 b14 b15 = stM n m c (9) W g0 g1 g2 g3 g4 g5 g6 g7 g8 g9 g10 g11 g12 g13 g14 g15 b0 b1 b2 b3 b4 b5 b6 b7 b8 b9 b10 b11 b12 b13 b14 b15 ∧ E Exit.ret (stM n m c (9) W g0 g1 g2 g3 g4 g5 g6 g7 g8 g9 g10 g11 g12 g13 g14 g15 b0 b1 b2 b3 b4 b5 b6 b7 b8 b9 b10 b11 b12 b13 b14 b15) else bif fdB (toZ (cut W (0) n)) (2) (1) then bif fdV (toZ (cut W (0) n)) (2) (1) != g9 then stM n m c (9) W g0 g1 g2 g3 g4 g5 g6 g7 g8 g9 g10 g11 g12 g13 g14 g15 b0 b1 b2 b3 b4 b5 b6 b7 b8 b9 b10 b11 b12 b13 b14 b15 = stM n m c (9) W g0 g1 g2 g3 g4 g5 g6 g7 g8 g9 g10 g11 g12 g13 g14 g15 b0 b1 b2 b3 b4 b5 b6 b7 b8 b9 b10 b11 b12 b13 b14 b15 ∧ E Exit.ret (stM n m c (9) W g0 g1 g2 g3 g4 g5 g6 g7 g8 g9 g10 g11 g12 g13 g14 g15 b0 b1 b2 b3 b4 b5 b6 b7 b8 b9 b10 b11 b12 b13 b14 b15) else bif fdB (toZ (cut W (0) n)) (2) (1) then stM n m (IntKind.wrap IntKind.i64 (c + 1)) (10) W g0 g1 g2 g3 g4 g5 g6 g7 g8 g9 g10 g11 g12 g13 g14 g15 b0 b1 b2 b3 b4 b5 b6 b7 b8 b9 b10 b11 b12 b13 b14 b15 = stM n m (IntKind.wrap IntKind.i64 (c + 1)) (10) W g0 g1 g2 g3 g4 g5 g6 g7 g8 g9 g10 g11 g12 g13 g14 g15 b0 b1 b2 b3 b4 b5 b6 b7 b8 b9 b10 b11 b12 b13 b14 b15 ∧ N (stM n m (IntKind.wrap IntKind.i64 (c + 1)) (10) W g0 g1 g2 g3 g4 g5 g6 g7 g8 g9 g10 g11 g12 g13 g14 g15 b0 b1 b2 b3 b4 b5 b6 b7 b8 b9 b10 b11 b12 b13 b14 b15) else stM n m c (10) W g0 g1 g2 g3 g4 g5 g6 g7 g8 g9 g10 g11 g12 g13 g14 g15 b0 b1 b2 b3 b4 b5 b6 b7 b8 b9 b10 b11 b12 b13 b14 b15 = stM n m c (10) W g0 g1 g2 g3 g4 g5 g6 g7 g8 g9 g10 g11 g12 g13 g14 g15 b0 b1 b2 b3 b4 b5 b6 b7 b8 b9 b10 b11 b12 b13 b14 b15 ∧ N (stM n m c (10) W g0 g1 g2 g3 g4 g5 g6 g7 g8 g9 g10 g11 g12 g13 g14 g15 b0 b1 b2 b3 b4 b5 b6 b7 b8 b9 b10 b11 b12 b13 b14 b15) else bif fdB (toZ (cut W (0) n)) (2) (1) then stM n m (IntKind.wrap IntKind.i64 (c + 1)) (10) W g0 g1 g2 g3 g4 g5 g6 g7 g8 g9 g10 g11 g12 g13 g14 g15 b0 b1 b2 b3 b4 b5 b6 b7 b8 b9 b10 b11 b12 b13 b14 b15 = stM n m (IntKind.wrap IntKind.i64 (c + 1)) (10) W g0 g1 g2 g3 g4 g5 g6 g7 g8 g9 g10 g11 g12 g13 g14 g15 b0 b1 b2 b3 b4 b5 b6 b7 b8 b9 b10 b11 b12 b13 b14 b15 ∧ N (stM n m (IntKind.wrap IntKind.i64 (c + 1)) (10) W g0 g1 g2 g3 g4 g5 g6 g7 g8 g9 g10 g11 g12 g13 g14 g15 b0 b1 b2 b3 b4 b5 b6 b7 b8 b9 b10 b11 b12 b13 b14 b15) else stM n m c (10) W g0 g1 g2 g3 g4 g5 g6 g7 g8 g9 g10 g11 g12 g13 g14 g15 b0 b1 b2 b3 b4 b5 b6 b7 b8 b9 b10 b11 b12 b13 b14 b15 = stM n m c (10) W g0 g1 g2 g3 g4 g5 g6 g7 g8 g9 g10 g11 g12 g13 g14 g15 b0 b1 b2 b3 b4 b5 b6 b7 b8 b9 b10 b11 b12 b13 b14 b15 ∧ N (stM n m c (10) W g0 g1 g2 g3 g4 g5 g6 g7 g8 g9 g10 g11 g12 g13 g14 g15 b0 b1 b2 b3 b4 b5 b6 b7 b8 b9 b10 b11 b12 b13 b14 b15) else False else False) := by kernel_rfl
theorem qM_9 {l : List (List Int)} {m : Nat} {g : Nat → Int} {f : Nat → Bool} (hv : InvL l g f) {N : X → Prop} {E : Exit → X → Prop} (h : N (sfM l m g f (cntF f 10 : Nat) ((10 : Nat) : Int))) : roundV Try.prog (gK band [(68, 1)] [(48, sFnd)]) Try.f15 1 [] [3, 4, 5, 11, 12] [4, 5, 6] v_stM (fun _ => v_stM) N E (sfM l m g f (cntF f 9 : Nat) ((9 : Nat) : Int)) := by
  have z1 : ((10 : Nat) : Int) = 10 := rfl
  have z0 : ((9 : Nat) : Int) = 9 := rfl
  rw [z1] at h
  rw [z0]
  unfold sfM
  rw [rM_9]
  have hk3 : band 9 3 = 1 := by rw [mask2]; rfl
  obtain ⟨f1, f2⟩ := hv.fd (k := 9) (by omega)
  have f1 : fdB l 2 1 = f 9 := f1
  have f2 : f 9 = true → fdV l 2 1 = g 9 := f2
  have h16 := ((wmay_iff l).1 hv.may).1
  have o1 : okZ 3 (mZ l) = true := okZ_mZ hv.wid (by omega)
  have hL : decide ((mZ l).length ≤ 4611686018427387903) = true := decide_eq_true (by rw [mZ_len]; omega)
  have hc := cntF_le f 9
  have wi : IntKind.wrap .i64 (((cntF f 9 : Nat) : Int) + 1) = ((cntF f 9 + 1 : Nat) : Int) := wrap_nat (n := 1) (by omega)
  have e : cntF f 10 = bif f 9 then cntF f 9 + 1 else cntF f 9 := rfl
  unfold sfM at h
  rw [e] at h
  simp only [hk3, true_and, Nat.zero_add, cut_all (mZ_len l), o1, hL, toZ_mZ, f1, Bool.and_self, Bool.and_true, cond_true, decide_eq_true (show l.length ≤ (mZ l).length by rw [mZ_len]; exact Nat.le_refl _)]
  cases hb : f 9 with
  | true =>
    rw [hb] at h
    simp only [f2 hb, bne_self_eq_false, Bool.not_true, beq_self_eq_true, cond_true, cond_false, wi, Bool.not_beq_self]
    exact h
  | false =>
    rw [hb] at h
    simp only [Bool.not_false, cond_true, cond_false, Bool.not_beq_self]
    exact h
theorem rM_10 (an : Int → Int → Int) (n : Nat) (m : Nat) (c : Int) (W : List (List D)) (g0 : Int) (g1 : Int) (g2 : Int) (g3 : Int) (g4 : Int) (g5 : Int) (g6 : Int) (g7 : Int) (g8 : Int) (g9 : Int) (g10 : Int) (g11 : Int) (g12 : Int) (g13 : Int) (g14 : Int) (g15 : Int) (b0 : Bool) (b1 : Bool) (b2 : Bool) (b3 : Bool) (b4 : Bool) (b5 : Bool) (b6 : Bool) (b7 : Bool) (b8 : Bool) (b9 : Bool) (b10 : Bool) (b11 : Bool) (b12 : Bool) (b13 : Bool) (b14 : Bool) (b15 : Bool) (N : X → Prop) (E : Exit → X → Prop) : (roundV Try.prog (gK an [(68, 2)] [(48, sFnd)]) Try.f15 1 [] [3, 4, 5, 11, 12] [4, 5, 6] v_stM (fun _ => v_stM) N E (stM n m c 10 W g0 g1 g2 g3 g4 g5 g6 g7 g8 g9 g10 g11 g12 g13 g14 g15 b0 b1 b2 b3 b4 b5 b6 b7 b8 b9 b10 b11 b12 b13 b14 b15)) = (an (10) (3) = 2 ∧ bif decide (0 + n ≤ List.length W) then bif okZ (3) (cut W (0) n) && (decide (List.length (cut W (0) n) ≤ 4611686018427387903) && true) then bif !fdB (toZ (cut W (0) n)) (2) (2) == b10 then stM n m c (10) W g0 g1 g2 g3 g4 g5 g6 g7 g8 g9 g10 g11 g12 g13 g14 g15 b0 b1 b2 b3 b4 b5 b6 b7 b8 b9 b10 b11 b12 b13 b14 b15 = stM n m c (10) W g0 g1 g2 g3 g4 g5 g6 g7 g8 g9 g10 g11 g12 g13 g14 g15 b0 b1 b2 b3 b4 b5 b6 b7 b8 b9 b10 b11 b12 b13 b14 b15 ∧ E Exit.ret (stM n m c (10) W g0 g1 g2 g3 g4 g5 g6 g7 g8 g9 g10 g11 g12 g13 g14 g15 b0 b1 b2 b3 b4 b5 b6 b7 b8 b9 b10 b11 b12 b13 b14 b15) else bif fdB (toZ (cut W (0) n)) (2) (2) then bif fdV (toZ (cut W (0) n)) (2) (2) != g10 then stM n m c (10) W g0 g1 g2 g3 g4 g5 g6 g7 g8 g9 g10 g11 g12 g13 g14 g15 b0 b1 b2 b3 b4 b5 b6 b7 b8 b9 b10 b11 b12 b13 b14 b15 = stM n m c (10) W g0 g1 g2 g3 g4 g5 g6 g7 g8 g9 g10 g11 g12 g13 g14 g15 b0 b1 b2 b3 b4 b5 b6 b7 b8 b9 b10 b11 b12 b13 b14 b15 ∧ E Exit.ret (stM n m c (10) W g0 g1 g2 g3 g4 g5 g6 g7 g8 g9 g10 g11 g12 g13 g14 g15 b0 b1 b2 b3 b4 b5 b6 b7 b8 b9 b10 b11 b12 b13 b14 b15) else bif fdB (toZ (cut W (0) n)) (2) (2) then stM n m (IntKind.wrap IntKind.i64 (c + 1)) (11) W g0 g1 g2 g3 g4 g5 g6 g7 g8 g9 g10 g11 g12 g13 g14 g15 b0 b1 b2 b3 b4 b5 b6 b7 b8 b9 b10 b11 b12 b13 b14 b15 = stM n m (IntKind.wrap IntKind.i64 (c + 1)) (11) W g0 g1 g2 g3 g4 g5 g6 g7 g8 g9 g10 g11 g12 g13 g14 g15 b0 b1 b2 b3 b4 b5 b6 b7 b8 b9 b10 b11 b12 b13 b14 b15 ∧ N (stM n m (IntKind.wrap IntKind.i64 (c + 1)) (11) W g0 g1 g2 g3 g4 g5 g6 g7 g8 g9 g10 g11 g12 g13 g14 g15 b0 b1 b2 b3 b4 b5 b6 b7 b8 b9 b10 b11 b12 b13 b14 b15) else stM n m c (11) W g0 g1 g2 g3 g4 g5 g6 g7 g8 g9 g10 g11 g12 g13 g14 g15 b0 b1 b2 b3 b4 b5 b6 b7 b8 b9 b10 b11 b12 b13 b14 b15 = stM n m c (11) W g0 g1 g2 g3 g4 g5 g6 g7 g8 g9 g10 g11 g12 g13 g14 g15 b0 b1 b2 b3 b4 b5 b6 b7 b8 b9 b10 b11 b12 b13 b14 b15 ∧ N (stM n m c (11) W g0 g1 g2 g3 g4 g5 g6 g7 g8 g9 g10 g11 g12 g13 g14 g15 b0 b1 b2 b3 b4 b5 b6 b7 b8 b9 b10 b11 b12 b13 b14 b15) else bif fdB (toZ (cut W (0) n)) (2) (2) then stM n m (IntKind.wrap IntKind.i64 (c + 1)) (11) W g0 g1 g2 g3 g4 g5 g6 g7 g8 g9 g10 g11 g12 g13 g14 g15 b0 b1 b2 b3 b4 b5 b6 b7 b8 b9 b10 b11 b12 b13 b14 b15 = stM n m (IntKind.wrap IntKind.i64 (c + 1)) (11) W g0 g1 g2 g3 g4 g5 g6 g7 g8 g9 g10 g11 g12 g13 g14 g15 b0 b1 b2 b3 b4 b5 b6 b7 b8 b9 b10 b11 b12 b13 b14 b15 ∧ N (stM n m (IntKind.wrap IntKind.i64 (c + 1)) (11) W g0 g1 g2 g3 g4 g5 g6 g7 g8 g9 g10 g11 g12 g13 g14 g15 b0 b1 b2 b3 b4 b5 b6 b7 b8 b9 b10 b11 b12 b13 b14 b15) else stM n m c (11) W g0 g1 g2 g3 g4 g5 g6 g7 g8 g9 g10 g11 g12 g13 g14 g15 b0 b1 b2 b3 b4 b5 b6 b7 b8 b9 b10 b11 b12 b13 b14 b15 = stM n m c (11) W g0 g1 g2 g3 g4 g5 g6 g7 g8 g9 g10 g11 g12 g13 g14 g15 b0 b1 b2 b3 b4 b5 b6 b7 b8 b9 b10 b11 b12 b13 b14 b15 ∧ N (stM n m c (11) W g0 g1 g2 g3 g4 g5 g6 g7 g8 g9 g10 g11 g12 g13 g14 g15 b0 b1 b2 b3 b4 b5 b6 b7 b8 b9 b10 b11 b12 b13 b14 b15) else False else False) := by kernel_rfl
theorem qM_10 {l : List (List Int)} {m : Nat} {g : Nat → Int} {f : Nat → Bool} (hv : InvL l g f) {N : X → Prop} {E : Exit → X → Prop} (h : N (sfM l m g f (cntF f 11 : Nat) ((11 : Nat) : Int))) : roundV Try.prog (gK band [(68, 2)] [(48, sFnd)]) Try.f15 1 [] [3, 4, 5, 11, 12] [4, 5, 6] v_stM (fun _ => v_stM) N E (sfM l m g f (cntF f 10 : Nat) ((10 : Nat) : Int)) := by
  have z1 : ((11 : Nat) : Int) = 11 := rfl
  have z0 : ((10 : Nat) : Int) = 10 := rfl
  rw [z1] at h
  rw [z0]
  unfold sfM
  rw [rM_10]
  have hk3 : band 10 3 = 2 := by rw [mask2]; rfl
  obtain ⟨f1, f2⟩ := hv.fd (k := 10) (by omega)
  have f1 : fdB l 2 2 = f 10 := f1
  have f2 : f 10 = true → fdV l 2 2 = g 10 := f2
  have h16 := ((wmay_iff l).1 hv.may).1
  have o1 : okZ 3 (mZ l) = true := okZ_mZ hv.wid (by omega)
  have hL : decide ((mZ l).length ≤ 4611686018427387903) = true := decide_eq_true (by rw [mZ_len]; omega)
  have hc := cntF_le f 10
  have wi : IntKind.wrap .i64 (((cntF f 10 : Nat) : Int) + 1) = ((cntF f 10 + 1 : Nat) : Int) := wrap_nat (n := 1) (by omega)
  have e : cntF f 11 = bif f 10 then cntF f 10 + 1 else cntF f 10 := rfl
  unfold sfM at h
  rw [e] at h
  simp only [hk3, true_and, Nat.zero_add, cut_all (mZ_len l), o1, hL, toZ_mZ, f1, Bool.and_self, Bool.and_true, cond_true, decide_eq_true (show l.length ≤ (mZ l).length by rw [mZ_len]; exact Nat.le_refl _)]
  cases hb : f 10 with
  | true =>
    rw [hb] at h
    simp only [f2 hb, bne_self_eq_false, Bool.not_true, beq_self_eq_true, cond_true, cond_false, wi, Bool.not_beq_self]
    exact h
  | false =>
    rw [hb] at h
    simp only [Bool.not_false, cond_true, cond_false, Bool.not_beq_self]
    exact h
theorem rM_11 (an : Int → Int → Int) (n : Nat) (m : Nat) (c : Int) (W : List (List D)) (g0 : Int) (g1 : Int) (g2 : Int) (g3 : Int) (g4 : Int) (g5 : Int) (g6 : Int) (g7 : Int) (g8 : Int) (g9 : Int) (g10 : Int) (g11 : Int) (g12 : Int) (g13 : Int) (g14 : Int) (g15 : Int) (b0 : Bool) (b1 : Bool) (b2 : Bool) (b3 : Bool) (b4 : Bool) (b5 : Bool) (b6 : Bool) (b7 : Bool) (b8 : Bool) (b9 : Bool) (b10 : Bool) (b11 : Bool) (b12 : Bool) (b13 : Bool) (b14 : Bool) (b15 : Bool) (N : X → Prop) (E : Exit → X → Prop) : (roundV Try.prog (gK an [(68, 3)] [(48, sFnd)]) Try.f15 1 [] [3, 4, 5, 11, 12] [4, 5, 6] v_stM (fun _ => v_stM) N E (stM n m c 11 W g0 g1 g2 g3 g4 g5 g6 g7 g8 g9 g10 g11 g12 g13 g14 g15 b0 b1 b2 b3 b4 b5 b6 b7 b8 b9 b10 b11 b12 b13 b14 b15)) = (an (11) (3) = 3 ∧ bif decide (0 + n ≤ List.length W) then bif okZ (3) (cut W (0) n) && (decide (List.length (cut W (0) n) ≤ 4611686018427387903) && true) then bif !fdB (toZ (cut W (0) n)) (2) (3) == b11 then stM n m c (11) W g0 g1 g2 g3 g4 g5 g6 g7 g8 g9 g10 g11 g12 g13 g14 g15 b0 b1 b2 b3 b4 b5 b6 b7 b8 b9 b10 b11 b12 b13 b14 b15 = stM n m c (11) W g0 g1 g2 g3 g4 g5 g6 g7 g8 g9 g10 g11 g12 g13 g14 g15 b0 b1 b2 b3 b4 b5 b6 b7 b8 b9 b10 b11 b12 b13 b14 b15 ∧ E Exit.ret (stM n m c (11) W g0 g1 g2 g3 g4 g5 g6 g7 g8 g9 g10 g11 g12 g13 g14 g15 b0 b1 b2 b3 b4 b5 b6 b7 b8 b9 b10 b11 b12 b13 b14 b15) else bif fdB (toZ (cut W (0) n)) (2) (3) then bif fdV (toZ (cut W (0) n)) (2) (3) != g11 then stM n m c (11) W g0 g1 g2 g3 g4 g5 g6 g7 g8 g9 g10 g11 g12 g13 g14 g15 b0 b1 b2 b3 b4 b5 b6 b7 b8 b9 b10 b11 b12 b13 b14 b15 = stM n m c (11) W g0 g1 g2 g3 g4 g5 g6 g7 g8 g9 g10 g11 g12 g13 g14 g15 b0 b1 b2 b3 b4 b5 b6 b7 b8 b9 b10 b11 b12 b13 b14 b15 ∧ E Exit.ret (stM n m c (11) W g0 g1 g2 g3 g4 g5 g6 g7 g8 g9 g10 g11 g12 g13 g14 g15 b0 b1 b2 b3 b4 b5 b6 b7 b8 b9 b10 b11 b12 b13 b14 b15) else bif fdB (toZ (cut W (0) n)) (2) (3) then stM n m (IntKind.wrap IntKind.i64 (c + 1)) (12) W g0 g1 g2 g3 g4 g5 g6 g7 g8 g9 g10 g11 g12 g13 g14 g15 b0 b1 b2 b3 b4 b5 b6 b7 b8 b9 b10 b11 b12 b13 b14 b15 = stM n m (IntKind.wrap IntKind.i64 (c + 1)) (12) W g0 g1 g2 g3 g4 g5 g6 g7 g8 g9 g10 g11 g12 g13 g14 g15 b0 b1 b2 b3 b4 b5 b6 b7 b8 b9 b10 b11 b12 b13 b14 b15 ∧ N (stM n m (IntKind.wrap IntKind.i64 (c + 1)) (12) W g0 g1 g2 g3 g4 g5 g6 g7 g8 g9 g10 g11 g12 g13 g14 g15 b0 b1 b2 b3 b4 b5 b6 b7 b8 b9 b10 b11 b12 b13 b14 b15) else stM n m c (12) W g0 g1 g2 g3 g4 g5 g6 g7 g8 g9 g10 g11 g12 g13 g14 g15 b0 b1 b2 b3 b4 b5 b6 b7 b8 b9 b10 b11 b12 b13 b14 b15 = stM n m c (12) W g0 g1 g2 g3 g4 g5 g6 g7 g8 g9 g10 g11 g12 g13 g14 g15 b0 b1 b2 b3 b4 b5 b6 b7 b8 b9 b10 b11 b12 b13 b14 b15 ∧ N (stM n m c (12) W g0 g1 g2 g3 g4 g5 g6 g7 g8 g9 g10 g11 g12 g13 g14 g15 b0 b1 b2 b3 b4 b5 b6 b7 b8 b9 b10 b11 b12 b13 b14 b15) else bif fdB (toZ (cut W (0) n)) (2) (3) then stM n m (IntKind.wrap IntKind.i64 (c + 1)) (12) W g0 g1 g2 g3 g4 g5 g6 g7 g8 g9 g10 g11 g12 g13 g14 g15 b0 b1 b2 b3 b4 b5 b6 b7 b8 b9 b10 b11 b12 b13 b14 b15 = stM n m (IntKind.wrap IntKind.i64 (c + 1)) (12) W g0 g1 g2 g3 g4 g5 g6 g7 g8 g9 g10 g11 g12 g13 g14 g15 b0 b1 b2 b3 b4 b5 b6 b7 b8 b9 b10 b11 b12 b13 b14 b15 ∧ N (stM n m (IntKind.wrap IntKind.i64 (c + 1)) (12) W g0 g1 g2 g3 g4 g5 g6 g7 g8 g9 g10 g11 g12 g13 g14 g15 b0 b1 b2 b3 b4 b5 b6 b7 b8 b9 b10 b11 b12 b13 b14 b15) else stM n m c (12) W g0 g1 g2 g3 g4 g5 g6 g7 g8 g9 g10 g11 g12 g13 g14 g15 b0 b1 b2 b3 b4 b5 b6 b7 b8 b9 b10 b11 b12 b13 b14 b15 = stM n m c (12) W g0 g1 g2 g3 g4 g5 g6 g7 g8 g9 g10 g11 g12 g13 g14 g15 b0 b1 b2 b3 b4 b5 b6 b7 b8 b9 b10 b11 b12 b13 b14 b15 ∧ N (stM n m c (12) W g0 g1 g2 g3 g4 g5 g6 g7 g8 g9 g10 g11 g12 g13 g14 g15 b0 b1 b2 b3 b4 b5 b6 b7 b8 b9 b10 b11 b12 b13 b14 b15) else False else False) := by kernel_rfl
theorem qM_11 {l : List (List Int)} {m : Nat} {g : Nat → Int} {f : Nat → Bool} (hv : InvL l g f) {N : X → Prop} {E : Exit → X → Prop} (h : N (sfM l m g f (cntF f 12 : Nat) ((12 : Nat) : Int))) : roundV Try.prog (gK band [(68, 3)] [(48, sFnd)]) Try.f15 1 [] [3, 4, 5, 11, 12] [4, 5, 6] v_stM (fun _ => v_stM) N E (sfM l m g f (cntF f 11 : Nat) ((11 : Nat) : Int)) := by
  have z1 : ((12 : Nat) : Int) = 12 := rfl
  have z0 : ((11 : Nat) : Int) = 11 := rfl
  rw [z1] at h
  rw [z0]
  unfold sfM
  rw [rM_11]
  have hk3 : band 11 3 = 3 := by rw [mask2]; rfl
  obtain ⟨f1, f2⟩ := hv.fd (k := 11) (by omega)
  have f1 : fdB l 2 3 = f 11 := f1
  have f2 : f 11 = true → fdV l 2 3 = g 11 := f2
  have h16 := ((wmay_iff l).1 hv.may).1
  have o1 : okZ 3 (mZ l) = true := okZ_mZ hv.wid (by omega)
  have hL : decide ((mZ l).length ≤ 4611686018427387903) = true := decide_eq_true (by rw [mZ_len]; omega)
  have hc := cntF_le f 11
  have wi : IntKind.wrap .i64 (((cntF f 11 : Nat) : Int) + 1) = ((cntF f 11 + 1 : Nat) : Int) := wrap_nat (n := 1) (by omega)
  have e : cntF f 12 = bif f 11 then cntF f 11 + 1 else cntF f 11 := rfl
  unfold sfM at h
  rw [e] at h
  simp only [hk3, true_and, Nat.zero_add, cut_all (mZ_len l), o1, hL, toZ_mZ, f1, Bool.and_self, Bool.and_true, cond_true, decide_eq_true (show l.length ≤ (mZ l).length by rw [mZ_len]; exact Nat.le_refl _)]
  cases hb : f 11 with
  | true =>
    rw [hb] at h
    simp only [f2 hb, bne_self_eq_false, Bool.not_true, beq_self_eq_true, cond_true, cond_false, wi, Bool.not_beq_self]
    exact h
  | false =>
    rw [hb] at h
    simp only [Bool.not_false, cond_true, cond_false, Bool.not_beq_self]
    exact h
theorem rM_12 (an : Int → Int → Int) (n : Nat) (m : Nat) (c : Int) (W : List (List D)) (g0 : Int) (g1 : Int) (g2 : Int) (g3 : Int) (g4 : Int) (g5 : Int) (g6 : Int) (g7 : Int) (g8 : Int) (g9 : Int) (g10 : Int) (g11 : Int) (g12 : Int) (g13 : Int) (g14 : Int) (g15 : Int) (b0 : Bool) (b1 : Bool) (b2 : Bool) (b3 : Bool) (b4 : Bool) (b5 : Bool) (b6 : Bool) (b7 : Bool) (b8 : Bool) (b9 : Bool) (b10 : Bool) (b11 : Bool) (b12 : Bool) (b13 : Bool) (b14 : Bool) (b15 : Bool) (N : X → Prop) (E : Exit → X → Prop) : (roundV Try.prog (gK an [(68, 0)] [(48, sFnd)]) Try.f15 1 [] [3, 4, 5, 11, 12] [4, 5, 6] v_stM (fun _ => v_stM) N E (stM n m c 12 W g0 g1 g2 g3 g4 g5 g6 g7 g8 g9 g10 g11 g12 g13 g14 g15 b0 b1 b2 b3 b4 b5 b6 b7 b8 b9 b10 b11 b12 b13 b14 b15)) = (an (12) (3) = 0 ∧ bif decide (0 + n ≤ List.length W) then bif okZ (3) (cut W (0) n) && (decide (List.length (cut W (0) n) ≤ 4611686018427387903) && true) then bif !fdB (toZ (cut W (0) n)) (3) (0) == b12 then stM n m c (12) W g0 g1 g2 g3 g4 g5 g6 g7 g8 g9 g10 g11 g12 g13 g14 g15 b0 b1 b2 b3 b4 b5 b6 b7 b8 b9 b10 b11 b12 b13 b14 b15 = stM n m c (12) W g0 g1 g2 g3 g4 g5 g6 g7 g8 g9 g10 g11 g12 g13 g14 g15 b0 b1 b2 b3 b4 b5 b6 b7 b8 b9 b10 b11 b12 b13 b14 b15 ∧ E Exit.ret (stM n m c (12) W g0 g1 g2 g3 g4 g5 g6 g7 g8 g9 g10 g11 g12 g13 g14 g15 b0 b1 b2 b3 b4 b5 b6 b7 b8 b9 b10 b11 b12 b13 b14 b15) else bif fdB (toZ (cut W (0) n)) (3) (0) then bif fdV (toZ (cut W (0) n)) (3) (0) != g12 then stM n m c (12) W g0 g1 g2 g3 g4 g5 g6 g7 g8 g9 g10 g11 g12 g13 g14 g15 b0 b1 b2 b3 b4 b5 b6 b7 b8 b9 b10 b11 b12 b13 b14 b15 = stM n m c (12) W g0 g1 g2 g3 g4 g5 g6 g7 g8 g9 g10 g11 g12 g13 g14 g15 b0 b1 b2 b3 b4 b5 b6 b7 b8 b9 b10 b11 b12 b13 b14 b15 ∧ E Exit.ret (stM n m c (12) W g0 g1 g2 g3 g4 g5 g6 g7 g8 g9 g10 g11 g12 g13 g14 g15 b0 b1 b2 b3 b4 b5 b6 b7 b8 b9 b10 b11 b12 b13 b14 b15) else bif fdB (toZ (cut W (0) n)) (3) (0) then stM n m (IntKind.wrap IntKind.i64 (c + 1)) (13) W g0 g1 g2 g3 g4 g5 g6 g7 g8 g9 g10 g11 g12 g13 g14 g15 b0 b1 b2 b3 b4 b5 b6 b7 b8 b9 b10 b11 b12 b13 b14 b15 = stM n m (IntKind.wrap IntKind.i64 (c + 1)) (13) W g0 g1 g2 g3 g4 g5 g6 g7 g8 g9 g10 g11 g12 g13 g14 g15 b0 b1 b2 b3 b4 b5 b6 b7 b8 b9 b10 b11 b12 b13 b14 b15 ∧ N (stM n m (IntKind.wrap IntKind.i64 (c + 1)) (13) W g0 g1 g2 g3 g4 g5 g6 g7 g8 g9 g10 g11 g12 g13 g14 g15 b0 b1 b2 b3 b4 b5 b6 b7 b8 b9 b10 b11 b12 b13 b14 b15) else stM n m c (13) W g0 g1 g2 g3 g4 g5 g6 g7 g8 g9 g10 g11 g12 g13 g14 g15 b0 b1 b2 b3 b4 b5 b6 b7 b8 b9 b10 b11 b12 b13 b14 b15 = stM n m c (13) W g0 g1 g2 g3 g4 g5 g6 g7 g8 g9 g10 g11 g12 g13 g14 g15 b0 b1 b2 b3 b4 b5 b6 b7 b8 b9 b10 b11 b12 b13 b14 b15 ∧ N (stM n m c (13) W g0 g1 g2 g3 g4 g5 g6 g7 g8 g9 g10 g11 g12 g13 g14 g15 b0 b1 b2 b3 b4 b5 b6 b7 b8 b9 b10 b11 b12 b13 b14 b15) else bif fdB (toZ (cut W (0) n)) (3) (0) then stM n m (IntKind.wrap IntKind.i64 (c + 1)) (13) W g0 g1 g2 g3 g4 g5 g6 g7 g8 g9 g10 g11 g12 g13 g14 g15 b0 b1 b2 b3 b4 b5 b6 b7 b8 b9 b10 b11 b12 b13 b14 b15 = stM n m (IntKind.wrap IntKind.i64 (c + 1)) (13) W g0 g1 g2 g3 g4 g5 g6 g7 g8 g9 g10 g11 g12 g13 g14 g15 b0 b1 b2 b3 b4 b5 b6 b7 b8 b9 b10 b11 b12 b13 b14 b15 ∧ N (stM n m (IntKind.wrap IntKind.i64 (c + 1)) (13) W g0 g1 g2 g3 g4 g5 g6 g7 g8 g9 g10 g11 g12 g13 g14 g15 b0 b1 b2 b3 b4 b5 b6 b7 b8 b9 b10 b11 b12 b13 b14 b15) else stM n m c (13) W g0 g1 g2 g3 g4 g5 g6 g7 g8 g9 g10 g11 g12 g13 g14 g15 b0 b1 b2 b3 b4 b5 b6 b7 b8 b9 b10 b11 b12 b13 b14 b15 = stM n m c (13) W g0 g1 g2 g3 g4 g5 g6 g7 g8 g9 g10 g11 g12 g13 g14 g15 b0 b1 b2 b3 b4 b5 b6 b7 b8 b9 b10 b11 b12 b13 b14 b15 ∧ N (stM n m c (13) W g0 g1 g2 g3 g4 g5 g6 g7 g8 g9 g10 g11 g12 g13 g14 g15 b0 b1 b2 b3 b4 b5 b6 b7 b8 b9 b10 b11 b12 b13 b14 b15) else False else False) := by kernel_rfl
theorem qM_12 {l : List (List Int)} {m : Nat} {g : Nat → Int} {f : Nat → Bool} (hv : InvL l g f) {N : X → Prop} {E : Exit → X → Prop} (h : N (sfM l m g f (cntF f 13 : Nat) ((13 : Nat) : Int))) : roundV Try.prog (gK band [(68, 0)] [(48, sFnd)]) Try.f15 1 [] [3, 4, 5, 11, 12] [4, 5, 6] v_stM (fun _ => v_stM) N E (sfM l m g f (cntF f 12 : Nat) ((12 : Nat) : Int)) := by
  have z1 : ((13 : Nat) : Int) = 13 := rfl
  have z0 : ((12 : Nat) : Int) = 12 := rfl
  rw [z1] at h
  rw [z0]
  unfold sfM
  rw [rM_12]
  have hk3 : band 12 3 = 0 := by rw [mask2]; rfl
  obtain ⟨f1, f2⟩ := hv.fd (k := 12) (by omega)
  have f1 : fdB l 3 0 = f 12 := f1
  have f2 : f 12 = true → fdV l 3 0 = g 12 := f2
  have h16 := ((wmay_iff l).1 hv.may).1
  have o1 : okZ 3 (mZ l) = true := okZ_mZ hv.wid (by omega)
  have hL : decide ((mZ l).length ≤ 4611686018427387903) = true := decide_eq_true (by rw [mZ_len]; omega)
  have hc := cntF_le f 12
  have wi : IntKind.wrap .i64 (((cntF f 12 : Nat) : Int) + 1) = ((cntF f 12 + 1 : Nat) : Int) := wrap_nat (n := 1) (by omega)
  have e : cntF f 13 = bif f 12 then cntF f 12 + 1 else cntF f 12 := rfl
  unfold sfM at h
  rw [e] at h
  simp only [hk3, true_and, Nat.zero_add, cut_all (mZ_len l), o1, hL, toZ_mZ, f1, Bool.and_self, Bool.and_true, cond_true, decide_eq_true (show l.length ≤ (mZ l).length by rw [mZ_len]; exact Nat.le_refl _)]
  cases hb : f 12 with
  | true =>
    rw [hb] at h
    simp only [f2 hb, bne_self_eq_false, Bool.not_true, beq_self_eq_true, cond_true, cond_false, wi, Bool.not_beq_self]
    exact h
  | false =>
    rw [hb] at h
    simp only [Bool.not_false, cond_true, cond_false, Bool.not_beq_self]
    exact h
theorem rM_13 (an : Int → Int → Int) (n : Nat) (m : Nat) (c : Int) (W : List (List D)) (g0 : Int) (g1 : Int) (g2 : Int) (g3 : Int) (g4 : Int) (g5 : Int) (g6 : Int) (g7 : Int) (g8 : Int) (g9 : Int) (g10 : Int) (g11 : Int) (g12 : Int) (g13 : Int) (g14 : Int) (g15 : Int) (b0 : Bool) (b1 : Bool) (b2 : Bool) (b3 : Bool) (b4 : Bool) (b5 : Bool) (b6 : Bool) (b7 : Bool) (b8 : Bool) (b9 : Bool) (b10 : Bool) (b11 : Bool) (b12 : Bool) (b13 : Bool) (b14 : Bool) (b15 : Bool) (N : X → Prop) (E : Exit → X → Prop) : (roundV Try.prog (gK an [(68, 1)] [(48, sFnd)]) Try.f15 1 [] [3, 4, 5, 11, 12] [4, 5, 6] v_stM (fun _ => v_stM) N E (stM n m c 13 W g0 g1 g2 g3 g4 g5 g6 g7 g8 g9 g10 g11 g12 g13 g14 g15 b0 b1 b2 b3 b4 b5 b6 b7 b8 b9 b10 b11 b12 b13 b14 b15)) = (an (13) (3) = 1 ∧ bif decide (0 + n ≤ List.length W) then bif okZ (3) (cut W (0) n) && (decide (List.length (cut W (0) n) ≤ 4611686018427387903) && true) then bif !fdB (toZ (cut W (0) n)) (3) (1) == b13 then stM n m c (13) W g0 g1 g2 g3 g4 g5 g6 g7 g8 g9 g10 g11 g12 g13 g14 g15 b0 b1 b2 b3 b4 b5 b6 b7 b8 b9 b10 b11 b12 b13 b14 b15 = stM n m c (13) W g0 g1 g2 g3 g4 g5 g6 g7 g8 g9 g10 g11 g12 g13 g14 g15 b0 b1 b2 b3 b4 b5 b6 b7 b8 b9 b10 b11 b12 b13 b14 b15 ∧ E Exit.ret (stM n m c (13) W g0 g1 g2 g3 g4 g5 g6 g7 g8 g9 g10 g11 g12 g13 g14 g15 b0 b1 b2 b3 b4 b5 b6 b7 b8 b9 b10 b11 b12 b13 b14 b15) else bif fdB (toZ (cut W (0) n)) (3) (1) then bif fdV (toZ (cut W (0) n)) (3) (1) != g13 then stM n m c (13) W g0 g1 g2 g3 g4 g5 g6 g7 g8 g9 g10 g11 g12 g13 g14 g15 b0 b1 b2 b3 b4 b5 b6 b7 b8 b9 b10 b11 b12 b13 b14 b15 = stM n m c (13) W g0 g1 g2 g3 g4 g5 g6 g7 g8 g9 g10 g11 g12 g13 g14 g15 b0 b1 b2 b3 b4 b5 b6 b7 b8 b9 b10 b11 b12 b13 b14 b15 ∧ E Exit.ret (stM n m c (13) W g0 g1 g2 g3 g4 g5 g6 g7 g8 g9 g10 g11 g12 g13 g14 g15 b0 b1 b2 b3 b4 b5 b6 b7 b8 b9 b10 b11 b12 b13 b14 b15) else bif fdB (toZ (cut W (0) n)) (3) (1) then stM n m (IntKind.wrap IntKind.i64 (c + 1)) (14) W g0 g1 g2 g3 g4 g5 g6 g7 g8 g9 g10 g11 g12 g13 g14 g15 b0 b1 b2 b3 b4 b5 b6 b7 b8 b9 b10 b11 b12 b13 b14 b15 = stM n m (IntKind.wrap IntKind.i64 (c + 1)) (14) W g0 g1 g2 g3 g4 g5 g6 g7 g8 g9 g10 g11 g12 g13 g14 g15 b0 b1 b2 b3 b4 b5 b6 b7 b8 b9 b10 b11 b12 b13 b14 b15 ∧ N (stM n m (IntKind.wrap IntKind.i64 (c + 1)) (14) W g0 g1 g2 g3 g4 g5 g6 g7 g8 g9 g10 g11 g12 g13 g14 g15 b0 b1 b2 b3 b4 b5 b6 b7 b8 b9 b10 b11 b12 b13 b14 b15) else stM n m c (14) W g0 g1 g2 g3 g4 g5 g6 g7 g8 g9 g10 g11 g12 g13 g14 g15 b0 b1 b2 b3 b4 b5 b6 b7 b8 b9 b10 b11 b12 b13 b14 b15 = stM n m c (14) W g0 g1 g2 g3 g4 g5 g6 g7 g8 g9 g10 g11 g12 g13 g14 g15 b0 b1 b2 b3 b4 b5 b6 b7 b8 b9 b10 b11 b12 b13 b14 b15 ∧ N (stM n m c (14) W g0 g1 g2 g3 g4 g5 g6 g7 g8 g9 g10 g11 g12 g13 g14 g15 b0 b1 b2 b3 b4 b5 b6 b7 b8 b9 b10 b11 b12 b13 b14 b15) else bif fdB (toZ (cut W (0) n)) (3) (1) then stM n m (IntKind.wrap IntKind.i64 (c + 1)) (14) W g0 g1 g2 g3 g4 g5 g6 g7 g8 g9 g10 g11 g12 g13 g14 g15 b0 b1 b2 b3 b4 b5 b6 b7 b8 b9 b10 b11 b12 b13 b14 b15 = stM n m (IntKind.wrap IntKind.i64 (c + 1)) (14) W g0 g1 g2 g3 g4 g5 g6 g7 g8 g9 g10 g11 g12 g13 g14 g15 b0 b1 b2 b3 b4 b5 b6 b7 b8 b9 b10 b11 b12 b13 b14 b15 ∧ N (stM n m (IntKind.wrap IntKind.i64 (c + 1)) (14) W g0 g1 g2 g3 g4 g5 g6 g7 g8 g9 g10 g11 g12 g13 g14 g15 b0 b1 b2 b3 b4 b5 b6 b7 b8 b9 b10 b11 b12 b13 b14 b15) else stM n m c (14) W g0 g1 g2 g3 g4 g5 g6 g7 g8 g9 g10 g11 g12 g13 g14 g15 b0 b1 b2 b3 b4 b5 b6 b7 b8 b9 b10 b11 b12 b13 b14 b15 = stM n m c (14) W g0 g1 g2 g3 g4 g5 g6 g7 g8 g9 g10 g11 g12 g13 g14 g15 b0 b1 b2 b3 b4 b5 b6 b7 b8 b9 b10 b11 b12 b13 b14 b15 ∧ N (stM n m c (14) W g0 g1 g2 g3 g4 g5 g6 g7 g8 g9 g10 g11 g12 g13 g14 g15 b0 b1 b2 b3 b4 b5 b6 b7 b8 b9 b10 b11 b12 b13 b14 b15) else False else False) := by kernel_rfl
theorem qM_13 {l : List (List Int)} {m : Nat} {g : Nat → Int} {f : Nat → Bool} (hv : InvL l g f) {N : X → Prop} {E : Exit → X → Prop} (h : N (sfM l m g f (cntF f 14 : Nat) ((14 : Nat) : Int))) : roundV Try.prog (gK band [(68, 1)] [(48, sFnd)]) Try.f15 1 [] [3, 4, 5, 11, 12] [4, 5, 6] v_stM (fun _ => v_stM) N E (sfM l m g f (cntF f 13 : Nat) ((13 : Nat) : Int)) := by
  have z1 : ((14 : Nat) : Int) = 14 := rfl
  have z0 : ((13 : Nat) : Int) = 13 := rfl
  rw [z1] at h
  rw [z0]
  unfold sfM
  rw [rM_13]
  have hk3 : band 13 3 = 1 := by rw [mask2]; rfl
  obtain ⟨f1, f2⟩ := hv.fd (k := 13) (by omega)
  have f1 : fdB l 3 1 = f 13 := f1
  have f2 : f 13 = true → fdV l 3 1 = g 13 := f2
  have h16 := ((wmay_iff l).1 hv.may).1
  have o1 : okZ 3 (mZ l) = true := okZ_mZ hv.wid (by omega)
  have hL : decide ((mZ l).length ≤ 4611686018427387903) = true := decide_eq_true (by rw [mZ_len]; omega)
  have hc := cntF_le f 13
  have wi : IntKind.wrap .i64 (((cntF f 13 : Nat) : Int) + 1) = ((cntF f 13 + 1 : Nat) : Int) := wrap_nat (n := 1) (by omega)
  have e : cntF f 14 = bif f 13 then cntF f 13 + 1 else cntF f 13 := rfl
  unfold sfM at h
  rw [e] at h
  simp only [hk3, true_and, Nat.zero_add, cut_all (mZ_len l), o1, hL, toZ_mZ, f1, Bool.and_self, Bool.and_true, cond_true, decide_eq_true (show l.length ≤ (mZ l).length by rw [mZ_len]; exact Nat.le_refl _)]
  cases hb : f 13 with
  | true =>
    rw [hb] at h
    simp only [f2 hb, bne_self_eq_false, Bool.not_true, beq_self_eq_true, cond_true, cond_false, wi, Bool.not_beq_self]
    exact h
  | false =>
    rw [hb] at h
    simp only [Bool.not_false, cond_true, cond_false, Bool.not_beq_self]
    exact h
theorem rM_14 (an : Int → Int → Int) (n : Nat) (m : Nat) (c : Int) (W : List (List D)) (g0 : Int) (g1 : Int) (g2 : Int) (g3 : Int) (g4 : Int) (g5 : Int) (g6 : Int) (g7 : Int) (g8 : Int) (g9 : Int) (g10 : Int) (g11 : Int) (g12 : Int) (g13 : Int) (g14 : Int) (g15 : Int) (b0 : Bool) (b1 : Bool) (b2 : Bool) (b3 : Bool) (b4 : Bool) (b5 : Bool) (b6 : Bool) (b7 : Bool) (b8 : Bool) (b9 : Bool) (b10 : Bool) (b11 : Bool) (b12 : Bool) (b13 : Bool) (b14 : Bool) (b15 : Bool) (N : X → Prop) (E : Exit → X → Prop) : (roundV Try.prog (gK an [(68, 2)] [(48, sFnd)]) Try.f15 1 [] [3, 4, 5, 11, 12] [4, 5, 6] v_stM (fun _ => v_stM) N E (stM n m c 14 W g0 g1 g2 g3 g4 g5 g6 g7 g8 g9 g10 g11 g12 g13 g14 g15 b0 b1 b2 b3 b4 b5 b6 b7 b8 b9 b10 b11 b12 b13 b14 b15)) = (an (14) (3) = 2 ∧ bif decide (0 + n ≤ List.length W) then bif okZ (3) (cut W (0) n) && (decide (List.length (cut W (0) n) ≤ 4611686018427387903) && true) then bif !fdB (toZ (cut W (0) n)) (3) (2) == b14 then stM n m c (14) W g0 g1 g2 g3 g4 g5 g6 g7 g8 g9 g10 g11 g12 g13 g14 g15 b0 b1 b2 b3 b4 b5 b6 b7 b8 b9 b10 b11 b12 b13 b14 b15 = stM n m c (14) W g0 g1 g2 g3 g4 g5 g6 g7 g8 g9 g10 g11 g12 g13 g14 g15 b0 b1 b2 b3 b4 b5 b6 b7 b8 b9 b10 b11 b12 b13 b14 b15 ∧ E Exit.ret (stM n m c (14) W g0 g1 g2 g3 g4 g5 g6 g7 g8 g9 g10 g11 g12 g13 g14 g15 b0 b1 b2 b3 b4 b5 b6 b7 b8 b9 b10 b11 b12 b13 b14 b15) else bif fdB (toZ (cut W (0) n)) (3) (2) then bif fdV (toZ (cut W (0) n)) (3) (2) != g14 then stM n m c (14) W g0 g1 g2 g3 g4 g5 g6 g7 g8 g9 g10 g11 g12 g13 g14 g15 b0 b1 b2 b3 b4 b5 b6 b7 b8 b9 b10 b11 b12 b13 b14 b15 = stM n m c (14) W g0 g1 g2 g3 g4 g5 g6 g7 g8 g9 g10 g11 g12 g13 g14 g15 b0 b1 b2 b3 b4 b5 b6 b7 b8 b9 b10 b11 b12 b13 b14 b15 ∧ E Exit.ret (stM n m c (14) W g0 g1 g2 g3 g4 g5 g6 g7 g8 g9 g10 g11 g12 g13 g14 g15 b0 b1 b2 b3 b4 b5 b6 b7 b8 b9 b10 b11 b12 b13 b14 b15) else bif fdB (toZ (cut W (0) n)) (3) (2) then stM n m (IntKind.wrap IntKind.i64 (c + 1)) (15) W g0 g1 g2 g3 g4 g5 g6 g7 g8 g9 g10 g11 g12 g13 g14 g15 b0 b1 b2 b3 b4 b5 b6 b7 b8 b9 b10 b11 b12 b13 b14 b15 = stM n m (IntKind.wrap IntKind.i64 (c + 1)) (15) W g0 g1 g2 g3 g4 g5 g6 g7 g8 g9 g10 g11 g12 g13 g14 g15 b0 b1 b2 b3 b4 b5 b6 b7 b8 b9 b10 b11 b12 b13 b14 b15 ∧ N (stM n m (IntKind.wrap IntKind.i64 (c + 1)) (15) W g0 g1 g2 g3 g4 g5 g6 g7 g8 g9 g10 g11 g12 g13 g14 g15 b0 b1 b2 b3 b4 b5 b6 b7 b8 b9 b10 b11 b12 b13 b14 b15) else stM n m c (15) W g0 g1 g2 g3 g4 g5 g6 g7 g8 g9 g10 g11 g12 g13 g14 g15 b0 b1 b2 b3 b4 b5 b6 b7 b8 b9 b10 b11 b12 b13 b14 b15 = stM n m c (15) W g0 g1 g2 g3 g4 g5 g6 g7 g8 g9 g10 g11 g12 g13 g14 g15 b0 b1 b2 b3 b4 b5 b6 b7 b8 b9 b10 b11 b12 b13 b14 b15 ∧ N (stM n m c (15) W g0 g1 g2 g3 g4 g5 g6 g7 g8 g9 g10 g11 g12 g13 g14 g15 b0 b1 b2 b3 b4 b5 b6 b7 b8 b9 b10 b11 b12 b13 b14 b15) else bif fdB (toZ (cut W (0) n)) (3) (2) then stM n m (IntKind.wrap IntKind.i64 (c + 1)) (15) W g0 g1 g2 g3 g4 g5 g6 g7 g8 g9 g10 g11 g12 g13 g14 g15 b0 b1 b2 b3 b4 b5 b6 b7 b8 b9 b10 b11 b12 b13 b14 b15 = stM n m (IntKind.wrap IntKind.i64 (c + 1)) (15) W g0 g1 g2 g3 g4 g5 g6 g7 g8 g9 g10 g11 g12 g13 g14 g15 b0 b1 b2 b3 b4 b5 b6 b7 b8 b9 b10 b11 b12 b13 b14 b15 ∧ N (stM n m (IntKind.wrap IntKind.i64 (c + 1)) (15) W g0 g1 g2 g3 g4 g5 g6 g7 g8 g9 g10 g11 g12 g13 g14 g15 b0 b1 b2 b3 b4 b5 b6 b7 b8 b9 b10 b11 b12 b13 b14 b15) else stM n m c (15) W g0 g1 g2 g3 g4 g5 g6 g7 g8 g9 g10 g11 g12 g13 g14 g15 b0 b1 b2 b3 b4 b5 b6 b7 b8 b9 b10 b11 b12 b13 b14 b15 = stM n m c (15) W g0 g1 g2 g3 g4 g5 g6 g7 g8 g9 g10 g11 g12 g13 g14 g15 b0 b1 b2 b3 b4 b5 b6 b7 b8 b9 b10 b11 b12 b13 b14 b15 ∧ N (stM n m c (15) W g0 g1 g2 g3 g4 g5 g6 g7 g8 g9 g10 g11 g12 g13 g14 g15 b0 b1 b2 b3 b4 b5 b6 b7 b8 b9 b10 b11 b12 b13 b14 b15) else False else False) := by kernel_rfl
theorem qM_14 {l : List (List Int)} {m : Nat} {g : Nat → Int} {f : Nat → Bool} (hv : InvL l g f) {N : X → Prop} {E : Exit → X → Prop} (h : N (sfM l m g f (cntF f 15 : Nat) ((15 : Nat) : Int))) : roundV Try.prog (gK band [(68, 2)] [(48, sFnd)]) Try.f15 1 [] [3, 4, 5, 11, 12] [4, 5, 6] v_stM (fun _ => v_stM) N E (sfM l m g f (cntF f 14 : Nat) ((14 : Nat) : Int)) := by
  have z1 : ((15 : Nat) : Int) = 15 := rfl
  have z0 : ((14 : Nat) : Int) = 14 := rfl
  rw [z1] at h
  rw [z0]
  unfold sfM
  rw [rM_14]
  have hk3 : band 14 3 = 2 := by rw [mask2]; rfl
  obtain ⟨f1, f2⟩ := hv.fd (k := 14) (by omega)
  have f1 : fdB l 3 2 = f 14 := f1
  have f2 : f 14 = true → fdV l 3 2 = g 14 := f2
  have h16 := ((wmay_iff l).1 hv.may).1
  have o1 : okZ 3 (mZ l) = true := okZ_mZ hv.wid (by omega)
  have hL : decide ((mZ l).length ≤ 4611686018427387903) = true := decide_eq_true (by rw [mZ_len]; omega)
  have hc := cntF_le f 14
  have wi : IntKind.wrap .i64 (((cntF f 14 : Nat) : Int) + 1) = ((cntF f 14 + 1 : Nat) : Int) := wrap_nat (n := 1) (by omega)
  have e : cntF f 15 = bif f 14 then cntF f 14 + 1 else cntF f 14 := rfl
  unfold sfM at h
  rw [e] at h
  simp only [hk3, true_and, Nat.zero_add, cut_all (mZ_len l), o1, hL, toZ_mZ, f1, Bool.and_self, Bool.and_true, cond_true, decide_eq_true (show l.length ≤ (mZ l).length by rw [mZ_len]; exact Nat.le_refl _)]
  cases hb : f 14 with
  | true =>
    rw [hb] at h
    simp only [f2 hb, bne_self_eq_false, Bool.not_true, beq_self_eq_true, cond_true, cond_false, wi, Bool.not_beq_self]
    exact h
  | false =>
    rw [hb] at h
    simp only [Bool.not_false, cond_true, cond_false, Bool.not_beq_self]
    exact h
theorem rM_15 (an : Int → Int → Int) (n : Nat) (m : Nat) (c : Int) (W : List (List D)) (g0 : Int) (g1 : Int) (g2 : Int) (g3 : Int) (g4 : Int) (g5 : Int) (g6 : Int) (g7 : Int) (g8 : Int) (g9 : Int) (g10 : Int) (g11 : Int) (g12 : Int) (g13 : Int) (g14 : Int) (g15 : Int) (b0 : Bool) (b1 : Bool) (b2 : Bool) (b3 : Bool) (b4 : Bool) (b5 : Bool) (b6 : Bool) (b7 : Bool) (b8 : Bool) (b9 : Bool) (b10 : Bool) (b11 : Bool) (b12 : Bool) (b13 : Bool) (b14 : Bool) (b15 : Bool) (N : X → Prop) (E : Exit → X → Prop) : (roundV Try.prog (gK an [(68, 3)] [(48, sFnd)]) Try.f15 1 [] [3, 4, 5, 11, 12] [4, 5, 6] v_stM (fun _ => v_stM) N E (stM n m c 15 W g0 g1 g2 g3 g4 g5 g6 g7 g8 g9 g10 g11 g12 g13 g14 g15 b0 b1 b2 b3 b4 b5 b6 b7 b8 b9 b10 b11 b12 b13 b14 b15)) = (an (15) (3) = 3 ∧ bif decide (0 + n ≤ List.length W) then bif okZ (3) (cut W (0) n) && (decide (List.length (cut W (0) n) ≤ 4611686018427387903) && true) then bif !fdB (toZ (cut W (0) n)) (3) (3) == b15 then stM n m c (15) W g0 g1 g2 g3 g4 g5 g6 g7 g8 g9 g10 g11 g12 g13 g14 g15 b0 b1 b2 b3 b4 b5 b6 b7 b8 b9 b10 b11 b12 b13 b14 b15 = stM n m c (15) W g0 g1 g2 g3 g4 g5 g6 g7 g8 g9 g10 g11 g12 g13 g14 g15 b0 b1 b2 b3 b4 b5 b6 b7 b8 b9 b10 b11 b12 b13 b14 b15 ∧ E Exit.ret (stM n m c (15) W g0 g1 g2 g3 g4 g5 g6 g7 g8 g9 g10 g11 g12 g13 g14 g15 b0 b1 b2 b3 b4 b5 b6 b7 b8 b9 b10 b11 b12 b13 b14 b15) else bif fdB (toZ (cut W (0) n)) (3) (3) then bif fdV (toZ (cut W (0) n)) (3) (3) != g15 then stM n m c (15) W g0 g1 g2 g3 g4 g5 g6 g7 g8 g9 g10 g11 g12 g13 g14 g15 b0 b1 b2 b3 b4 b5 b6 b7 b8 b9 b10 b11 b12 b13 b14 b15 = stM n m c (15) W g0 g1 g2 g3 g4 g5 g6 g7 g8 g9 g10 g11 g12 g13 g14 g15 b0 b1 b2 b3 b4 b5 b6 b7 b8 b9 b10 b11 b12 b13 b14 b15 ∧ E Exit.ret (stM n m c (15) W g0 g1 g2 g3 g4 g5 g6 g7 g8 g9 g10 g11 g12 g13 g14 g15 b0 b1 b2 b3 b4 b5 b6 b7 b8 b9 b10 b11 b12 b13 b14 b15) else bif fdB (toZ (cut W (0) n)) (3) (3) then stM n m (IntKind.wrap IntKind.i64 (c + 1)) (16) W g0 g1 g2 g3 g4 g5 g6 g7 g8 g9 g10 g11 g12 g13 g14 g15 b0 b1 b2 b3 b4 b5 b6 b7 b8 b9 b10 b11 b12 b13 b14 b15 = stM n m (IntKind.wrap IntKind.i64 (c + 1)) (16) W g0 g1 g2 g3 g4 g5 g6 g7 g8 g9 g10 g11 g12 g13 g14 g15 b0 b1 b2 b3 b4 b5 b6 b7 b8 b9 b10 b11 b12 b13 b14 b15 ∧ N (stM n m (IntKind.wrap IntKind.i64 (c + 1)) (16) W g0 g1 g2 g3 g4 g5 g6 g7 g8 g9 g10 g11 g12 g13 g14 g15 b0 b1 b2 b3 b4 b5 b6 b7 b8 b9 b10 b11 b12 b13 b14 b15) else stM n m c (16) W g0 g1 g2 g3 g4 g5 g6 g7 g8 g9 g10 g11 g12 g13 g14 g15 b0 b1 b2 b3 b4 b5 b6 b7 b8 b9 b10 b11 b12 b13 b14 b15 = stM n m c (16) W g0 g1 g2 g3 g4 g5 g6 g7 g8 g9 g10 g11 g12 g13 g14 g15 b0 b1 b2 b3 b4 b5 b6 b7 b8 b9 b10 b11 b12 b13 b14 b15 ∧ N (stM n m c (16) W g0 g1 g2 g3 g4 g5 g6 g7 g8 g9 g10 g11 g12 g13 g14 g15 b0 b1 b2 b3 b4 b5 b6 b7 b8 b9 b10 b11 b12 b13 b14 b15) else bif fdB (toZ (cut W (0) n)) (3) (3) then stM n m (IntKind.wrap IntKind.i64 (c + 1)) (16) W g0 g1 g2 g3 g4 g5 g6 g7 g8 g9 g10 g11 g12 g13 g14 g15 b0 b1 b2 b3 b4 b5 b6 b7 b8 b9 b10 b11 b12 b13 b14 b15 = stM n m (IntKind.wrap IntKind.i64 (c + 1)) (16) W g0 g1 g2 g3 g4 g5 g6 g7 g8 g9 g10 g11 g12 g13 g14 g15 b0 b1 b2 b3 b4 b5 b6 b7 b8 b9 b10 b11 b12 b13 b14 b15 ∧ N (stM n m (IntKind.wrap IntKind.i64 (c + 1)) (16) W g0 g1 g2 g3 g4 g5 g6 g7 g8 g9 g10 g11 g12 g13 g14 g15 b0 b1 b2 b3 b4 b5 b6 b7 b8 b9 b10 b11 b12 b13 b14 b15) else stM n m c (16) W g0 g1 g2 g3 g4 g5 g6 g7 g8 g9 g10 g11 g12 g13 g14 g15 b0 b1 b2 b3 b4 b5 b6 b7 b8 b9 b10 b11 b12 b13 b14 b15 = stM n m c (16) W g0 g1 g2 g3 g4 g5 g6 g7 g8 g9 g10 g11 g12 g13 g14 g15 b0 b1 b2 b3 b4 b5 b6 b7 b8 b9 b10 b11 b12 b13 b14 b15 ∧ N (stM n m c (16) W g0 g1 g2 g3 g4 g5 g6 g7 g8 g9 g10 g11 g12 g13 g14 g15 b0 b1 b2 b3 b4 b5 b6 b7 b8 b9 b10 b11 b12 b13 b14 b15) else False else False) := by kernel_rfl
theorem qM_15 {l : List (List Int)} {m : Nat} {g : Nat → Int} {f : Nat → Bool} (hv : InvL l g f) {N : X → Prop} {E : Exit → X → Prop} (h : N (sfM l m g f (cntF f 16 : Nat) ((16 : Nat) : Int))) : roundV Try.prog (gK band [(68, 3)] [(48, sFnd)]) Try.f15 1 [] [3, 4, 5, 11, 12] [4, 5, 6] v_stM (fun _ => v_stM) N E (sfM l m g f (cntF f 15 : Nat) ((15 : Nat) : Int)) := by
  have z1 : ((16 : Nat) : Int) = 16 := rfl
  have z0 : ((15 : Nat) : Int) = 15 := rfl
  rw [z1] at h
  rw [z0]
  unfold sfM
  rw [rM_15]
  have hk3 : band 15 3 = 3 := by rw [mask2]; rfl
  obtain ⟨f1, f2⟩ := hv.fd (k := 15) (by omega)
  have f1 : fdB l 3 3 = f 15 := f1
  have f2 : f 15 = true → fdV l 3 3 = g 15 := f2
  have h16 := ((wmay_iff l).1 hv.may).1
  have o1 : okZ 3 (mZ l) = true := okZ_mZ hv.wid (by omega)
  have hL : decide ((mZ l).length ≤ 4611686018427387903) = true := decide_eq_true (by rw [mZ_len]; omega)
  have hc := cntF_le f 15
  have wi : IntKind.wrap .i64 (((cntF f 15 : Nat) : Int) + 1) = ((cntF f 15 + 1 : Nat) : Int) := wrap_nat (n := 1) (by omega)
  have e : cntF f 16 = bif f 15 then cntF f 15 + 1 else cntF f 15 := rfl
  unfold sfM at h
  rw [e] at h
  simp only [hk3, true_and, Nat.zero_add, cut_all (mZ_len l), o1, hL, toZ_mZ, f1, Bool.and_self, Bool.and_true, cond_true, decide_eq_true (show l.length ≤ (mZ l).length by rw [mZ_len]; exact Nat.le_refl _)]
  cases hb : f 15 with
  | true =>
    rw [hb] at h
    simp only [f2 hb, bne_self_eq_false, Bool.not_true, beq_self_eq_true, cond_true, cond_false, wi, Bool.not_beq_self]
    exact h
  | false =>
    rw [hb] at h
    simp only [Bool.not_false, cond_true, cond_false, Bool.not_beq_self]
    exact h
theorem zM_0 {l : List (List Int)} {m : Nat} {g : Nat → Int} {f : Nat → Bool} (hv : InvL l g f) (hS : SpecsOK Try.prog [(48, sFnd)]) {Q : Exit → X → Prop} :
    ∃ H, CallsOK Try.prog H ∧ LoopsOK Try.prog H (bodyL Try.f15 1) ∧ roundV Try.prog H Try.f15 1 [] [3, 4, 5, 11, 12] [4, 5, 6] v_stM (fun _ => v_stM) (fun y => ∃ p', 16 - p' < 16 - 0 ∧ p' ≤ 16 ∧ y = sfM l m g f (cntF f p' : Nat) ((p' : Nat) : Int)) Q (sfM l m g f (cntF f 0 : Nat) ((0 : Nat) : Int)) :=
  ⟨_, gK_ok [(68, 0)] hS, loops_nil rfl, qM_0 hv ⟨1, by decide, by decide, rfl⟩⟩
theorem zM_1 {l : List (List Int)} {m : Nat} {g : Nat → Int} {f : Nat → Bool} (hv : InvL l g f) (hS : SpecsOK Try.prog [(48, sFnd)]) {Q : Exit → X → Prop} :
    ∃ H, CallsOK Try.prog H ∧ LoopsOK Try.prog H (bodyL Try.f15 1) ∧ roundV Try.prog H Try.f15 1 [] [3, 4, 5, 11, 12] [4, 5, 6] v_stM (fun _ => v_stM) (fun y => ∃ p', 16 - p' < 16 - 1 ∧ p' ≤ 16 ∧ y = sfM l m g f (cntF f p' : Nat) ((p' : Nat) : Int)) Q (sfM l m g f (cntF f 1 : Nat) ((1 : Nat) : Int)) :=
  ⟨_, gK_ok [(68, 1)] hS, loops_nil rfl, qM_1 hv ⟨2, by decide, by decide, rfl⟩⟩
theorem zM_2 {l : List (List Int)} {m : Nat} {g : Nat → Int} {f : Nat → Bool} (hv : InvL l g f) (hS : SpecsOK Try.prog [(48, sFnd)]) {Q : Exit → X → Prop} :
    ∃ H, CallsOK Try.prog H ∧ LoopsOK Try.prog H (bodyL Try.f15 1) ∧ roundV Try.prog H Try.f15 1 [] [3, 4, 5, 11, 12] [4, 5, 6] v_stM (fun _ => v_stM) (fun y => ∃ p', 16 - p' < 16 - 2 ∧ p' ≤ 16 ∧ y = sfM l m g f (cntF f p' : Nat) ((p' : Nat) : Int)) Q (sfM l m g f (cntF f 2 : Nat) ((2 : Nat) : Int)) :=
  ⟨_, gK_ok [(68, 2)] hS, loops_nil rfl, qM_2 hv ⟨3, by decide, by decide, rfl⟩⟩
theorem zM_3 {l : List (List Int)} {m : Nat} {g : Nat → Int} {f : Nat → Bool} (hv : InvL l g f) (hS : SpecsOK Try.prog [(48, sFnd)]) {Q : Exit → X → Prop} :
    ∃ H, CallsOK Try.prog H ∧ LoopsOK Try.prog H (bodyL Try.f15 1) ∧ roundV Try.prog H Try.f15 1 [] [3, 4, 5, 11, 12] [4, 5, 6] v_stM (fun _ => v_stM) (fun y => ∃ p', 16 - p' < 16 - 3 ∧ p' ≤ 16 ∧ y = sfM l m g f (cntF f p' : Nat) ((p' : Nat) : Int)) Q (sfM l m g f (cntF f 3 : Nat) ((3 : Nat) : Int)) :=
  ⟨_, gK_ok [(68, 3)] hS, loops_nil rfl, qM_3 hv ⟨4, by decide, by decide, rfl⟩⟩
theorem zM_4 {l : List (List Int)} {m : Nat} {g : Nat → Int} {f : Nat → Bool} (hv : InvL l g f) (hS : SpecsOK Try.prog [(48, sFnd)]) {Q : Exit → X → Prop} :
    ∃ H, CallsOK Try.prog H ∧ LoopsOK Try.prog H (bodyL Try.f15 1) ∧ roundV Try.prog H Try.f15 1 [] [3, 4, 5, 11, 12] [4, 5, 6] v_stM (fun _ => v_stM) (fun y => ∃ p', 16 - p' < 16 - 4 ∧ p' ≤ 16 ∧ y = sfM l m g f (cntF f p' : Nat) ((p' : Nat) : Int)) Q (sfM l m g f (cntF f 4 : Nat) ((4 : Nat) : Int)) :=
  ⟨_, gK_ok [(68, 0)] hS, loops_nil rfl, qM_4 hv ⟨5, by decide, by decide, rfl⟩⟩
theorem zM_5 {l : List (List Int)} {m : Nat} {g : Nat → Int} {f : Nat → Bool} (hv : InvL l g f) (hS : SpecsOK Try.prog [(48, sFnd)]) {Q : Exit → X → Prop} :
    ∃ H, CallsOK Try.prog H ∧ LoopsOK Try.prog H (bodyL Try.f15 1) ∧ roundV Try.prog H Try.f15 1 [] [3, 4, 5, 11, 12] [4, 5, 6] v_stM (fun _ => v_stM) (fun y => ∃ p', 16 - p' < 16 - 5 ∧ p' ≤ 16 ∧ y = sfM l m g f (cntF f p' : Nat) ((p' : Nat) : Int)) Q (sfM l m g f (cntF f 5 : Nat) ((5 : Nat) : Int)) :=
  ⟨_, gK_ok [(68, 1)] hS, loops_nil rfl, qM_5 hv ⟨6, by decide, by decide, rfl⟩⟩
theorem zM_6 {l : List (List Int)} {m : Nat} {g : Nat → Int} {f : Nat → Bool} (hv : InvL l g f) (hS : SpecsOK Try.prog [(48, sFnd)]) {Q : Exit → X → Prop} :
    ∃ H, CallsOK Try.prog H ∧ LoopsOK Try.prog H (bodyL Try.f15 1) ∧ roundV Try.prog H Try.f15 1 [] [3, 4, 5, 11, 12] [4, 5, 6] v_stM (fun _ => v_stM) (fun y => ∃ p', 16 - p' < 16 - 6 ∧ p' ≤ 16 ∧ y = sfM l m g f (cntF f p' : Nat) ((p' : Nat) : Int)) Q (sfM l m g f (cntF f 6 : Nat) ((6 : Nat) : Int)) :=
  ⟨_, gK_ok [(68, 2)] hS, loops_nil rfl, qM_6 hv ⟨7, by decide, by decide, rfl⟩⟩
theorem zM_7 {l : List (List Int)} {m : Nat} {g : Nat → Int} {f : Nat → Bool} (hv : InvL l g f) (hS : SpecsOK Try.prog [(48, sFnd)]) {Q : Exit → X → Prop} :
    ∃ H, CallsOK Try.prog H ∧ LoopsOK Try.prog H (bodyL Try.f15 1) ∧ roundV Try.prog H Try.f15 1 [] [3, 4, 5, 11, 12] [4, 5, 6] v_stM (fun _ => v_stM) (fun y => ∃ p', 16 - p' < 16 - 7 ∧ p' ≤ 16 ∧ y = sfM l m g f (cntF f p' : Nat) ((p' : Nat) : Int)) Q (sfM l m g f (cntF f 7 : Nat) ((7 : Nat) : Int)) :=
  ⟨_, gK_ok [(68, 3)] hS, loops_nil rfl, qM_7 hv ⟨8, by decide, by decide, rfl⟩⟩
theorem zM_8 {l : List (List Int)} {m : Nat} {g : Nat → Int} {f : Nat → Bool} (hv : InvL l g f) (hS : SpecsOK Try.prog [(48, sFnd)]) {Q : Exit → X → Prop} :
    ∃ H, CallsOK Try.prog H ∧ LoopsOK Try.prog H (bodyL Try.f15 1) ∧ roundV Try.prog H Try.f15 1 [] [3, 4, 5, 11, 12] [4, 5, 6] v_stM (fun _ => v_stM) (fun y => ∃ p', 16 - p' < 16 - 8 ∧ p' ≤ 16 ∧ y = sfM l m g f (cntF f p' : Nat) ((p' : Nat) : Int)) Q (sfM l m g f (cntF f 8 : Nat) ((8 : Nat) : Int)) :=
  ⟨_, gK_ok [(68, 0)] hS, loops_nil rfl, qM_8 hv ⟨9, by decide, by decide, rfl⟩⟩
theorem zM_9 {l : List (List Int)} {m : Nat} {g : Nat → Int} {f : Nat → Bool} (hv : InvL l g f) (hS : SpecsOK Try.prog [(48, sFnd)]) {Q : Exit → X → Prop} :
    ∃ H, CallsOK Try.prog H ∧ LoopsOK Try.prog H (bodyL Try.f15 1) ∧ roundV Try.prog H Try.f15 1 [] [3, 4, 5, 11, 12] [4, 5, 6] v_stM (fun _ => v_stM) (fun y => ∃ p', 16 - p' < 16 - 9 ∧ p' ≤ 16 ∧ y = sfM l m g f (cntF f p' : Nat) ((p' : Nat) : Int)) Q (sfM l m g f (cntF f 9 : Nat) ((9 : Nat) : Int)) :=
  ⟨_, gK_ok [(68, 1)] hS, loops_nil rfl, qM_9 hv ⟨10, by decide, by decide, rfl⟩⟩
theorem zM_10 {l : List (List Int)} {m : Nat} {g : Nat → Int} {f : Nat → Bool} (hv : InvL l g f) (hS : SpecsOK Try.prog [(48, sFnd)]) {Q : Exit → X → Prop} :
    ∃ H, CallsOK Try.prog H ∧ LoopsOK Try.prog H (bodyL Try.f15 1) ∧ roundV Try.prog H Try.f15 1 [] [3, 4, 5, 11, 12] [4, 5, 6] v_stM (fun _ => v_stM) (fun y => ∃ p', 16 - p' < 16 - 10 ∧ p' ≤ 16 ∧ y = sfM l m g f (cntF f p' : Nat) ((p' : Nat) : Int)) Q (sfM l m g f (cntF f 10 : Nat) ((10 : Nat) : Int)) :=
  ⟨_, gK_ok [(68, 2)] hS, loops_nil rfl, qM_10 hv ⟨11, by decide, by decide, rfl⟩⟩
theorem zM_11 {l : List (List Int)} {m : Nat} {g : Nat → Int} {f : Nat → Bool} (hv : InvL l g f) (hS : SpecsOK Try.prog [(48, sFnd)]) {Q : Exit → X → Prop} :
    ∃ H, CallsOK Try.prog H ∧ LoopsOK Try.prog H (bodyL Try.f15 1) ∧ roundV Try.prog H Try.f15 1 [] [3, 4, 5, 11, 12] [4, 5, 6] v_stM (fun _ => v_stM) (fun y => ∃ p', 16 - p' < 16 - 11 ∧ p' ≤ 16 ∧ y = sfM l m g f (cntF f p' : Nat) ((p' : Nat) : Int)) Q (sfM l m g f (cntF f 11 : Nat) ((11 : Nat) : Int)) :=
  ⟨_, gK_ok [(68, 3)] hS, loops_nil rfl, qM_11 hv ⟨12, by decide, by decide, rfl⟩⟩
theorem zM_12 {l : List (List Int)} {m : Nat} {g : Nat → Int} {f : Nat → Bool} (hv : InvL l g f) (hS : SpecsOK Try.prog [(48, sFnd)]) {Q : Exit → X → Prop} :
    ∃ H, CallsOK Try.prog H ∧ LoopsOK Try.prog H (bodyL Try.f15 1) ∧ roundV Try.prog H Try.f15 1 [] [3, 4, 5, 11, 12] [4, 5, 6] v_stM (fun _ => v_stM) (fun y => ∃ p', 16 - p' < 16 - 12 ∧ p' ≤ 16 ∧ y = sfM l m g f (cntF f p' : Nat) ((p' : Nat) : Int)) Q (sfM l m g f (cntF f 12 : Nat) ((12 : Nat) : Int)) :=
  ⟨_, gK_ok [(68, 0)] hS, loops_nil rfl, qM_12 hv ⟨13, by decide, by decide, rfl⟩⟩
theorem zM_13 {l : List (List Int)} {m : Nat} {g : Nat → Int} {f : Nat → Bool} (hv : InvL l g f) (hS : SpecsOK Try.prog [(48, sFnd)]) {Q : Exit → X → Prop} :
    ∃ H, CallsOK Try.prog H ∧ LoopsOK Try.prog H (bodyL Try.f15 1) ∧ roundV Try.prog H Try.f15 1 [] [3, 4, 5, 11, 12] [4, 5, 6] v_stM (fun _ => v_stM) (fun y => ∃ p', 16 - p' < 16 - 13 ∧ p' ≤ 16 ∧ y = sfM l m g f (cntF f p' : Nat) ((p' : Nat) : Int)) Q (sfM l m g f (cntF f 13 : Nat) ((13 : Nat) : Int)) :=
  ⟨_, gK_ok [(68, 1)] hS, loops_nil rfl, qM_13 hv ⟨14, by decide, by decide, rfl⟩⟩
theorem zM_14 {l : List (List Int)} {m : Nat} {g : Nat → Int} {f : Nat → Bool} (hv : InvL l g f) (hS : SpecsOK Try.prog [(48, sFnd)]) {Q : Exit → X → Prop} :
    ∃ H, CallsOK Try.prog H ∧ LoopsOK Try.prog H (bodyL Try.f15 1) ∧ roundV Try.prog H Try.f15 1 [] [3, 4, 5, 11, 12] [4, 5, 6] v_stM (fun _ => v_stM) (fun y => ∃ p', 16 - p' < 16 - 14 ∧ p' ≤ 16 ∧ y = sfM l m g f (cntF f p' : Nat) ((p' : Nat) : Int)) Q (sfM l m g f (cntF f 14 : Nat) ((14 : Nat) : Int)) :=
  ⟨_, gK_ok [(68, 2)] hS, loops_nil rfl, qM_14 hv ⟨15, by decide, by decide, rfl⟩⟩
theorem zM_15 {l : List (List Int)} {m : Nat} {g : Nat → Int} {f : Nat → Bool} (hv : InvL l g f) (hS : SpecsOK Try.prog [(48, sFnd)]) {Q : Exit → X → Prop} :
    ∃ H, CallsOK Try.prog H ∧ LoopsOK Try.prog H (bodyL Try.f15 1) ∧ roundV Try.prog H Try.f15 1 [] [3, 4, 5, 11, 12] [4, 5, 6] v_stM (fun _ => v_stM) (fun y => ∃ p', 16 - p' < 16 - 15 ∧ p' ≤ 16 ∧ y = sfM l m g f (cntF f p' : Nat) ((p' : Nat) : Int)) Q (sfM l m g f (cntF f 15 : Nat) ((15 : Nat) : Int)) :=
  ⟨_, gK_ok [(68, 3)] hS, loops_nil rfl, qM_15 hv ⟨16, by decide, by decide, rfl⟩⟩
theorem rM_16 (an : Int → Int → Int) (n : Nat) (m : Nat) (c : Int) (W : List (List D)) (g0 : Int) (g1 : Int) (g2 : Int) (g3 : Int) (g4 : Int) (g5 : Int) (g6 : Int) (g7 : Int) (g8 : Int) (g9 : Int) (g10 : Int) (g11 : Int) (g12 : Int) (g13 : Int) (g14 : Int) (g15 : Int) (b0 : Bool) (b1 : Bool) (b2 : Bool) (b3 : Bool) (b4 : Bool) (b5 : Bool) (b6 : Bool) (b7 : Bool) (b8 : Bool) (b9 : Bool) (b10 : Bool) (b11 : Bool) (b12 : Bool) (b13 : Bool) (b14 : Bool) (b15 : Bool) (N : X → Prop) (E : Exit → X → Prop) : (roundV Try.prog (gK an [(68, 0)] [(48, sFnd)]) Try.f15 1 [] [3, 4, 5, 11, 12] [4, 5, 6] v_stM (fun _ => v_stM) N E (stM n m c 16 W g0 g1 g2 g3 g4 g5 g6 g7 g8 g9 g10 g11 g12 g13 g14 g15 b0 b1 b2 b3 b4 b5 b6 b7 b8 b9 b10 b11 b12 b13 b14 b15)) = (stM n m c (16) W g0 g1 g2 g3 g4 g5 g6 g7 g8 g9 g10 g11 g12 g13 g14 g15 b0 b1 b2 b3 b4 b5 b6 b7 b8 b9 b10 b11 b12 b13 b14 b15 = stM n m c (16) W g0 g1 g2 g3 g4 g5 g6 g7 g8 g9 g10 g11 g12 g13 g14 g15 b0 b1 b2 b3 b4 b5 b6 b7 b8 b9 b10 b11 b12 b13 b14 b15 ∧ E (Exit.exit (2)) (stM n m c (16) W g0 g1 g2 g3 g4 g5 g6 g7 g8 g9 g10 g11 g12 g13 g14 g15 b0 b1 b2 b3 b4 b5 b6 b7 b8 b9 b10 b11 b12 b13 b14 b15)) := by kernel_rfl
theorem zM_16 {l : List (List Int)} {m : Nat} {g : Nat → Int} {f : Nat → Bool} (hS : SpecsOK Try.prog [(48, sFnd)]) {N : X → Prop} {Q : Exit → X → Prop} (h2 : Q (.exit 2) (sfM l m g f (cntF f 16 : Nat) 16)) :
    ∃ H, CallsOK Try.prog H ∧ LoopsOK Try.prog H (bodyL Try.f15 1) ∧ roundV Try.prog H Try.f15 1 [] [3, 4, 5, 11, 12] [4, 5, 6] v_stM (fun _ => v_stM) N Q (sfM l m g f (cntF f 16 : Nat) ((16 : Nat) : Int)) := by
  refine ⟨_, gK_ok [(68, 0)] hS, loops_nil rfl, ?_⟩
  have z0 : ((16 : Nat) : Int) = 16 := rfl
  rw [z0]
  unfold sfM
  rw [rM_16]
  exact ⟨rfl, h2⟩
theorem kM0 {l : List (List Int)} {m : Nat} {g : Nat → Int} {f : Nat → Bool} (hv : InvL l g f) (Q : Exit → X → Prop) (x : X) (h1 : x.arr [3, 4, 5, 11, 12] [4, 5, 6] = sfM l m g f 0 0) (h2 : Q (.exit 2) (sfM l m g f (cntF f 16 : Nat) 16)) : XWP Try.prog (.loop (bodyL Try.f15 1)) Q x := by
  have hS : SpecsOK Try.prog [(48, sFnd)] := (.cons oFnd .nil)
  refine xwp_roundV (ι := Nat) (fn := Try.f15) (i := 1) [] (ts := [3, 4, 5, 11, 12]) (ks := [4, 5, 6]) mixed (fun p => sfM l m g f (cntF f p : Nat) p) (fun p => p ≤ 16) (fun p => 16 - p) 0 v_stM (fun _ => v_stM) v_stM_ok (fun _ => v_stM_ok) (fun p hp => ?_) (Nat.zero_le _) h1
  have e : p = 0 ∨ p = 1 ∨ p = 2 ∨ p = 3 ∨ p = 4 ∨ p = 5 ∨ p = 6 ∨ p = 7 ∨ p = 8 ∨ p = 9 ∨ p = 10 ∨ p = 11 ∨ p = 12 ∨ p = 13 ∨ p = 14 ∨ p = 15 ∨ p = 16 := by omega
  rcases e with rfl | rfl | rfl | rfl | rfl | rfl | rfl | rfl | rfl | rfl | rfl | rfl | rfl | rfl | rfl | rfl | rfl
  · exact zM_0 hv hS
  · exact zM_1 hv hS
  · exact zM_2 hv hS
  · exact zM_3 hv hS
  · exact zM_4 hv hS
  · exact zM_5 hv hS
  · exact zM_6 hv hS
  · exact zM_7 hv hS
  · exact zM_8 hv hS
  · exact zM_9 hv hS
  · exact zM_10 hv hS
  · exact zM_11 hv hS
  · exact zM_12 hv hS
  · exact zM_13 hv hS
  · exact zM_14 hv hS
  · exact zM_15 hv hS
  · exact zM_16 hS h2
theorem okM (Q : Exit → X → Prop) (x : X) (h : sM Q x) : XWP Try.prog (.loop (bodyL Try.f15 1)) Q x := by
  unfold sM at h
  obtain ⟨n, m, h⟩ := aS'_ex h
  obtain ⟨W, h⟩ := wL_ex h
  obtain ⟨r, h⟩ := wR_ex h
  obtain ⟨c'1, r, h⟩ := wC_ex h
  obtain ⟨g0, h⟩ := cI_ex h
  obtain ⟨c'2, r, h⟩ := wC_ex h
  obtain ⟨g1, h⟩ := cI_ex h
  obtain ⟨c'3, r, h⟩ := wC_ex h
  obtain ⟨g2, h⟩ := cI_ex h
  obtain ⟨c'4, r, h⟩ := wC_ex h
  obtain ⟨g3, h⟩ := cI_ex h
  obtain ⟨c'5, r, h⟩ := wC_ex h
  obtain ⟨g4, h⟩ := cI_ex h
  obtain ⟨c'6, r, h⟩ := wC_ex h
  obtain ⟨g5, h⟩ := cI_ex h
  obtain ⟨c'7, r, h⟩ := wC_ex h
  obtain ⟨g6, h⟩ := cI_ex h
  obtain ⟨c'8, r, h⟩ := wC_ex h
  obtain ⟨g7, h⟩ := cI_ex h
  obtain ⟨c'9, r, h⟩ := wC_ex h
  obtain ⟨g8, h⟩ := cI_ex h
  obtain ⟨c'10, r, h⟩ := wC_ex h
  obtain ⟨g9, h⟩ := cI_ex h
  obtain ⟨c'11, r, h⟩ := wC_ex h
  obtain ⟨g10, h⟩ := cI_ex h
  obtain ⟨c'12, r, h⟩ := wC_ex h
  obtain ⟨g11, h⟩ := cI_ex h
  obtain ⟨c'13, r, h⟩ := wC_ex h
  obtain ⟨g12, h⟩ := cI_ex h
  obtain ⟨c'14, r, h⟩ := wC_ex h
  obtain ⟨g13, h⟩ := cI_ex h
  obtain ⟨c'15, r, h⟩ := wC_ex h
  obtain ⟨g14, h⟩ := cI_ex h
  obtain ⟨c'16, r, h⟩ := wC_ex h
  obtain ⟨g15, h⟩ := cI_ex h
  obtain ⟨r, h⟩ := wR_ex h
  obtain ⟨c'17, r, h⟩ := wC_ex h
  obtain ⟨b0, h⟩ := cB_ex h
  obtain ⟨c'18, r, h⟩ := wC_ex h
  obtain ⟨b1, h⟩ := cB_ex h
  obtain ⟨c'19, r, h⟩ := wC_ex h
  obtain ⟨b2, h⟩ := cB_ex h
  obtain ⟨c'20, r, h⟩ := wC_ex h
  obtain ⟨b3, h⟩ := cB_ex h
  obtain ⟨c'21, r, h⟩ := wC_ex h
  obtain ⟨b4, h⟩ := cB_ex h
  obtain ⟨c'22, r, h⟩ := wC_ex h
  obtain ⟨b5, h⟩ := cB_ex h
  obtain ⟨c'23, r, h⟩ := wC_ex h
  obtain ⟨b6, h⟩ := cB_ex h
  obtain ⟨c'24, r, h⟩ := wC_ex h
  obtain ⟨b7, h⟩ := cB_ex h
  obtain ⟨c'25, r, h⟩ := wC_ex h
  obtain ⟨b8, h⟩ := cB_ex h
  obtain ⟨c'26, r, h⟩ := wC_ex h
  obtain ⟨b9, h⟩ := cB_ex h
  obtain ⟨c'27, r, h⟩ := wC_ex h
  obtain ⟨b10, h⟩ := cB_ex h
  obtain ⟨c'28, r, h⟩ := wC_ex h
  obtain ⟨b11, h⟩ := cB_ex h
  obtain ⟨c'29, r, h⟩ := wC_ex h
  obtain ⟨b12, h⟩ := cB_ex h
  obtain ⟨c'30, r, h⟩ := wC_ex h
  obtain ⟨b13, h⟩ := cB_ex h
  obtain ⟨c'31, r, h⟩ := wC_ex h
  obtain ⟨b14, h⟩ := cB_ex h
  obtain ⟨c'32, r, h⟩ := wC_ex h
  obtain ⟨b15, h⟩ := cB_ex h

  obtain ⟨h1, ⟨l, rfl, rfl, hv⟩, h2⟩ := h
  exact kM0 (m := m) hv Q x h1 h2
theorem zL_0 {R sp : List (List D)} {l : List (List Int)} {g : Nat → Int} {f : Nat → Bool} {i : Nat} {Q : Exit → X → Prop} (hS : SpecsOK Try.prog [(46, sWth), (27, sI)]) (hR : okZ 1 R = true) (hv : InvL l g f) (h1 : i < R.length) (h2 : i < 40) (hk : band (hdJ (R.getD i [])) 15 = 0) :
    ∃ H, CallsOK Try.prog H ∧ LoopsOK Try.prog H (bodyL Try.f15 0) ∧ roundV Try.prog H Try.f15 0 [(4, 47000)] [0, 3, 4, 5, 6] [4, 5, 6] (v_stL R sp) (fun _ => v_stL R sp) (fun y => ∃ p' : (List (List Int) × (Nat → Int) × (Nat → Bool)) × Nat, R.length - p'.2 < R.length - i ∧ (InvL p'.1.1 p'.1.2.1 p'.1.2.2 ∧ p'.2 ≤ R.length) ∧ y = sfL R sp p'.1.1 p'.1.2.1 p'.1.2.2 p'.2) Q (sfL R sp l g f i) := by
  refine ⟨_, gK_ok [(32, 0), (44, 0)] hS, loops_nil rfl, qL_0 hR hv h1 h2 hk (fun v hc => ⟨((putW l (rowK 0 v), updI g 0 v, updB f 0 true), i + 1), ?_, ⟨(hv.step (k := 0) (by omega) hc).2.2, h1⟩, rfl⟩)⟩
  show R.length - (i + 1) < R.length - i
  omega
theorem zL_1 {R sp : List (List D)} {l : List (List Int)} {g : Nat → Int} {f : Nat → Bool} {i : Nat} {Q : Exit → X → Prop} (hS : SpecsOK Try.prog [(46, sWth), (27, sI)]) (hR : okZ 1 R = true) (hv : InvL l g f) (h1 : i < R.length) (h2 : i < 40) (hk : band (hdJ (R.getD i [])) 15 = 1) :
    ∃ H, CallsOK Try.prog H ∧ LoopsOK Try.prog H (bodyL Try.f15 0) ∧ roundV Try.prog H Try.f15 0 [(4, 47000)] [0, 3, 4, 5, 6] [4, 5, 6] (v_stL R sp) (fun _ => v_stL R sp) (fun y => ∃ p' : (List (List Int) × (Nat → Int) × (Nat → Bool)) × Nat, R.length - p'.2 < R.length - i ∧ (InvL p'.1.1 p'.1.2.1 p'.1.2.2 ∧ p'.2 ≤ R.length) ∧ y = sfL R sp p'.1.1 p'.1.2.1 p'.1.2.2 p'.2) Q (sfL R sp l g f i) := by
  refine ⟨_, gK_ok [(32, 1), (44, 1)] hS, loops_nil rfl, qL_1 hR hv h1 h2 hk (fun v hc => ⟨((putW l (rowK 1 v), updI g 1 v, updB f 1 true), i + 1), ?_, ⟨(hv.step (k := 1) (by omega) hc).2.2, h1⟩, rfl⟩)⟩
  show R.length - (i + 1) < R.length - i
  omega
theorem zL_2 {R sp : List (List D)} {l : List (List Int)} {g : Nat → Int} {f : Nat → Bool} {i : Nat} {Q : Exit → X → Prop} (hS : SpecsOK Try.prog [(46, sWth), (27, sI)]) (hR : okZ 1 R = true) (hv : InvL l g f) (h1 : i < R.length) (h2 : i < 40) (hk : band (hdJ (R.getD i [])) 15 = 2) :
    ∃ H, CallsOK Try.prog H ∧ LoopsOK Try.prog H (bodyL Try.f15 0) ∧ roundV Try.prog H Try.f15 0 [(4, 47000)] [0, 3, 4, 5, 6] [4, 5, 6] (v_stL R sp) (fun _ => v_stL R sp) (fun y => ∃ p' : (List (List Int) × (Nat → Int) × (Nat → Bool)) × Nat, R.length - p'.2 < R.length - i ∧ (InvL p'.1.1 p'.1.2.1 p'.1.2.2 ∧ p'.2 ≤ R.length) ∧ y = sfL R sp p'.1.1 p'.1.2.1 p'.1.2.2 p'.2) Q (sfL R sp l g f i) := by
  refine ⟨_, gK_ok [(32, 2), (44, 2)] hS, loops_nil rfl, qL_2 hR hv h1 h2 hk (fun v hc => ⟨((putW l (rowK 2 v), updI g 2 v, updB f 2 true), i + 1), ?_, ⟨(hv.step (k := 2) (by omega) hc).2.2, h1⟩, rfl⟩)⟩
  show R.length - (i + 1) < R.length - i
  omega
theorem zL_3 {R sp : List (List D)} {l : List (List Int)} {g : Nat → Int} {f : Nat → Bool} {i : Nat} {Q : Exit → X → Prop} (hS : SpecsOK Try.prog [(46, sWth), (27, sI)]) (hR : okZ 1 R = true) (hv : InvL l g f) (h1 : i < R.length) (h2 : i < 40) (hk : band (hdJ (R.getD i [])) 15 = 3) :
    ∃ H, CallsOK Try.prog H ∧ LoopsOK Try.prog H (bodyL Try.f15 0) ∧ roundV Try.prog H Try.f15 0 [(4, 47000)] [0, 3, 4, 5, 6] [4, 5, 6] (v_stL R sp) (fun _ => v_stL R sp) (fun y => ∃ p' : (List (List Int) × (Nat → Int) × (Nat → Bool)) × Nat, R.length - p'.2 < R.length - i ∧ (InvL p'.1.1 p'.1.2.1 p'.1.2.2 ∧ p'.2 ≤ R.length) ∧ y = sfL R sp p'.1.1 p'.1.2.1 p'.1.2.2 p'.2) Q (sfL R sp l g f i) := by
  refine ⟨_, gK_ok [(32, 3), (44, 3)] hS, loops_nil rfl, qL_3 hR hv h1 h2 hk (fun v hc => ⟨((putW l (rowK 3 v), updI g 3 v, updB f 3 true), i + 1), ?_, ⟨(hv.step (k := 3) (by omega) hc).2.2, h1⟩, rfl⟩)⟩
  show R.length - (i + 1) < R.length - i
  omega
theorem zL_4 {R sp : List (List D)} {l : List (List Int)} {g : Nat → Int} {f : Nat → Bool} {i : Nat} {Q : Exit → X → Prop} (hS : SpecsOK Try.prog [(46, sWth), (27, sI)]) (hR : okZ 1 R = true) (hv : InvL l g f) (h1 : i < R.length) (h2 : i < 40) (hk : band (hdJ (R.getD i [])) 15 = 4) :
    ∃ H, CallsOK Try.prog H ∧ LoopsOK Try.prog H (bodyL Try.f15 0) ∧ roundV Try.prog H Try.f15 0 [(4, 47000)] [0, 3, 4, 5, 6] [4, 5, 6] (v_stL R sp) (fun _ => v_stL R sp) (fun y => ∃ p' : (List (List Int) × (Nat → Int) × (Nat → Bool)) × Nat, R.length - p'.2 < R.length - i ∧ (InvL p'.1.1 p'.1.2.1 p'.1.2.2 ∧ p'.2 ≤ R.length) ∧ y = sfL R sp p'.1.1 p'.1.2.1 p'.1.2.2 p'.2) Q (sfL R sp l g f i) := by
  refine ⟨_, gK_ok [(32, 4), (44, 0)] hS, loops_nil rfl, qL_4 hR hv h1 h2 hk (fun v hc => ⟨((putW l (rowK 4 v), updI g 4 v, updB f 4 true), i + 1), ?_, ⟨(hv.step (k := 4) (by omega) hc).2.2, h1⟩, rfl⟩)⟩
  show R.length - (i + 1) < R.length - i
  omega
theorem zL_5 {R sp : List (List D)} {l : List (List Int)} {g : Nat → Int} {f : Nat → Bool} {i : Nat} {Q : Exit → X → Prop} (hS : SpecsOK Try.prog [(46, sWth), (27, sI)]) (hR : okZ 1 R = true) (hv : InvL l g f) (h1 : i < R.length) (h2 : i < 40) (hk : band (hdJ (R.getD i [])) 15 = 5) :
    ∃ H, CallsOK Try.prog H ∧ LoopsOK Try.prog H (bodyL Try.f15 0) ∧ roundV Try.prog H Try.f15 0 [(4, 47000)] [0, 3, 4, 5, 6] [4, 5, 6] (v_stL R sp) (fun _ => v_stL R sp) (fun y => ∃ p' : (List (List Int) × (Nat → Int) × (Nat → Bool)) × Nat, R.length - p'.2 < R.length - i ∧ (InvL p'.1.1 p'.1.2.1 p'.1.2.2 ∧ p'.2 ≤ R.length) ∧ y = sfL R sp p'.1.1 p'.1.2.1 p'.1.2.2 p'.2) Q (sfL R sp l g f i) := by
  refine ⟨_, gK_ok [(32, 5), (44, 1)] hS, loops_nil rfl, qL_5 hR hv h1 h2 hk (fun v hc => ⟨((putW l (rowK 5 v), updI g 5 v, updB f 5 true), i + 1), ?_, ⟨(hv.step (k := 5) (by omega) hc).2.2, h1⟩, rfl⟩)⟩
  show R.length - (i + 1) < R.length - i
  omega
theorem zL_6 {R sp : List (List D)} {l : List (List Int)} {g : Nat → Int} {f : Nat → Bool} {i : Nat} {Q : Exit → X → Prop} (hS : SpecsOK Try.prog [(46, sWth), (27, sI)]) (hR : okZ 1 R = true) (hv : InvL l g f) (h1 : i < R.length) (h2 : i < 40) (hk : band (hdJ (R.getD i [])) 15 = 6) :
    ∃ H, CallsOK Try.prog H ∧ LoopsOK Try.prog H (bodyL Try.f15 0) ∧ roundV Try.prog H Try.f15 0 [(4, 47000)] [0, 3, 4, 5, 6] [4, 5, 6] (v_stL R sp) (fun _ => v_stL R sp) (fun y => ∃ p' : (List (List Int) × (Nat → Int) × (Nat → Bool)) × Nat, R.length - p'.2 < R.length - i ∧ (InvL p'.1.1 p'.1.2.1 p'.1.2.2 ∧ p'.2 ≤ R.length) ∧ y = sfL R sp p'.1.1 p'.1.2.1 p'.1.2.2 p'.2) Q (sfL R sp l g f i) := by
  refine ⟨_, gK_ok [(32, 6), (44, 2)] hS, loops_nil rfl, qL_6 hR hv h1 h2 hk (fun v hc => ⟨((putW l (rowK 6 v), updI g 6 v, updB f 6 true), i + 1), ?_, ⟨(hv.step (k := 6) (by omega) hc).2.2, h1⟩, rfl⟩)⟩
  show R.length - (i + 1) < R.length - i
  omega
theorem zL_7 {R sp : List (List D)} {l : List (List Int)} {g : Nat → Int} {f : Nat → Bool} {i : Nat} {Q : Exit → X → Prop} (hS : SpecsOK Try.prog [(46, sWth), (27, sI)]) (hR : okZ 1 R = true) (hv : InvL l g f) (h1 : i < R.length) (h2 : i < 40) (hk : band (hdJ (R.getD i [])) 15 = 7) :
    ∃ H, CallsOK Try.prog H ∧ LoopsOK Try.prog H (bodyL Try.f15 0) ∧ roundV Try.prog H Try.f15 0 [(4, 47000)] [0, 3, 4, 5, 6] [4, 5, 6] (v_stL R sp) (fun _ => v_stL R sp) (fun y => ∃ p' : (List (List Int) × (Nat → Int) × (Nat → Bool)) × Nat, R.length - p'.2 < R.length - i ∧ (InvL p'.1.1 p'.1.2.1 p'.1.2.2 ∧ p'.2 ≤ R.length) ∧ y = sfL R sp p'.1.1 p'.1.2.1 p'.1.2.2 p'.2) Q (sfL R sp l g f i) := by
  refine ⟨_, gK_ok [(32, 7), (44, 3)] hS, loops_nil rfl, qL_7 hR hv h1 h2 hk (fun v hc => ⟨((putW l (rowK 7 v), updI g 7 v, updB f 7 true), i + 1), ?_, ⟨(hv.step (k := 7) (by omega) hc).2.2, h1⟩, rfl⟩)⟩
  show R.length - (i + 1) < R.length - i
  omega
theorem zL_8 {R sp : List (List D)} {l : List (List Int)} {g : Nat → Int} {f : Nat → Bool} {i : Nat} {Q : Exit → X → Prop} (hS : SpecsOK Try.prog [(46, sWth), (27, sI)]) (hR : okZ 1 R = true) (hv : InvL l g f) (h1 : i < R.length) (h2 : i < 40) (hk : band (hdJ (R.getD i [])) 15 = 8) :
    ∃ H, CallsOK Try.prog H ∧ LoopsOK Try.prog H (bodyL Try.f15 0) ∧ roundV Try.prog H Try.f15 0 [(4, 47000)] [0, 3, 4, 5, 6] [4, 5, 6] (v_stL R sp) (fun _ => v_stL R sp) (fun y => ∃ p' : (List (List Int) × (Nat → Int) × (Nat → Bool)) × Nat, R.length - p'.2 < R.length - i ∧ (InvL p'.1.1 p'.1.2.1 p'.1.2.2 ∧ p'.2 ≤ R.length) ∧ y = sfL R sp p'.1.1 p'.1.2.1 p'.1.2.2 p'.2) Q (sfL R sp l g f i) := by
  refine ⟨_, gK_ok [(32, 8), (44, 0)] hS, loops_nil rfl, qL_8 hR hv h1 h2 hk (fun v hc => ⟨((putW l (rowK 8 v), updI g 8 v, updB f 8 true), i + 1), ?_, ⟨(hv.step (k := 8) (by omega) hc).2.2, h1⟩, rfl⟩)⟩
  show R.length - (i + 1) < R.length - i
  omega
theorem zL_9 {R sp : List (List D)} {l : List (List Int)} {g : Nat → Int} {f : Nat → Bool} {i : Nat} {Q : Exit → X → Prop} (hS : SpecsOK Try.prog [(46, sWth), (27, sI)]) (hR : okZ 1 R = true) (hv : InvL l g f) (h1 : i < R.length) (h2 : i < 40) (hk : band (hdJ (R.getD i [])) 15 = 9) :
    ∃ H, CallsOK Try.prog H ∧ LoopsOK Try.prog H (bodyL Try.f15 0) ∧ roundV Try.prog H Try.f15 0 [(4, 47000)] [0, 3, 4, 5, 6] [4, 5, 6] (v_stL R sp) (fun _ => v_stL R sp) (fun y => ∃ p' : (List (List Int) × (Nat → Int) × (Nat → Bool)) × Nat, R.length - p'.2 < R.length - i ∧ (InvL p'.1.1 p'.1.2.1 p'.1.2.2 ∧ p'.2 ≤ R.length) ∧ y = sfL R sp p'.1.1 p'.1.2.1 p'.1.2.2 p'.2) Q (sfL R sp l g f i) := by
  refine ⟨_, gK_ok [(32, 9), (44, 1)] hS, loops_nil rfl, qL_9 hR hv h1 h2 hk (fun v hc => ⟨((putW l (rowK 9 v), updI g 9 v, updB f 9 true), i + 1), ?_, ⟨(hv.step (k := 9) (by omega) hc).2.2, h1⟩, rfl⟩)⟩
  show R.length - (i + 1) < R.length - i
  omega
theorem zL_10 {R sp : List (List D)} {l : List (List Int)} {g : Nat → Int} {f : Nat → Bool} {i : Nat} {Q : Exit → X → Prop} (hS : SpecsOK Try.prog [(46, sWth), (27, sI)]) (hR : okZ 1 R = true) (hv : InvL l g f) (h1 : i < R.length) (h2 : i < 40) (hk : band (hdJ (R.getD i [])) 15 = 10) :
    ∃ H, CallsOK Try.prog H ∧ LoopsOK Try.prog H (bodyL Try.f15 0) ∧ roundV Try.prog H Try.f15 0 [(4, 47000)] [0, 3, 4, 5, 6] [4, 5, 6] (v_stL R sp) (fun _ => v_stL R sp) (fun y => ∃ p' : (List (List Int) × (Nat → Int) × (Nat → Bool)) × Nat, R.length - p'.2 < R.length - i ∧ (InvL p'.1.1 p'.1.2.1 p'.1.2.2 ∧ p'.2 ≤ R.length) ∧ y = sfL R sp p'.1.1 p'.1.2.1 p'.1.2.2 p'.2) Q (sfL R sp l g f i) := by
  refine ⟨_, gK_ok [(32, 10), (44, 2)] hS, loops_nil rfl, qL_10 hR hv h1 h2 hk (fun v hc => ⟨((putW l (rowK 10 v), updI g 10 v, updB f 10 true), i + 1), ?_, ⟨(hv.step (k := 10) (by omega) hc).2.2, h1⟩, rfl⟩)⟩
  show R.length - (i + 1) < R.length - i
  omega
theorem zL_11 {R sp : List (List D)} {l : List (List Int)} {g : Nat → Int} {f : Nat → Bool} {i : Nat} {Q : Exit → X → Prop} (hS : SpecsOK Try.prog [(46, sWth), (27, sI)]) (hR : okZ 1 R = true) (hv : InvL l g f) (h1 : i < R.length) (h2 : i < 40) (hk : band (hdJ (R.getD i [])) 15 = 11) :
    ∃ H, CallsOK Try.prog H ∧ LoopsOK Try.prog H (bodyL Try.f15 0) ∧ roundV Try.prog H Try.f15 0 [(4, 47000)] [0, 3, 4, 5, 6] [4, 5, 6] (v_stL R sp) (fun _ => v_stL R sp) (fun y => ∃ p' : (List (List Int) × (Nat → Int) × (Nat → Bool)) × Nat, R.length - p'.2 < R.length - i ∧ (InvL p'.1.1 p'.1.2.1 p'.1.2.2 ∧ p'.2 ≤ R.length) ∧ y = sfL R sp p'.1.1 p'.1.2.1 p'.1.2.2 p'.2) Q (sfL R sp l g f i) := by
  refine ⟨_, gK_ok [(32, 11), (44, 3)] hS, loops_nil rfl, qL_11 hR hv h1 h2 hk (fun v hc => ⟨((putW l (rowK 11 v), updI g 11 v, updB f 11 true), i + 1), ?_, ⟨(hv.step (k := 11) (by omega) hc).2.2, h1⟩, rfl⟩)⟩
  show R.length - (i + 1) < R.length - i
  omega
theorem zL_12 {R sp : List (List D)} {l : List (List Int)} {g : Nat → Int} {f : Nat → Bool} {i : Nat} {Q : Exit → X → Prop} (hS : SpecsOK Try.prog [(46, sWth), (27, sI)]) (hR : okZ 1 R = true) (hv : InvL l g f) (h1 : i < R.length) (h2 : i < 40) (hk : band (hdJ (R.getD i [])) 15 = 12) :
    ∃ H, CallsOK Try.prog H ∧ LoopsOK Try.prog H (bodyL Try.f15 0) ∧ roundV Try.prog H Try.f15 0 [(4, 47000)] [0, 3, 4, 5, 6] [4, 5, 6] (v_stL R sp) (fun _ => v_stL R sp) (fun y => ∃ p' : (List (List Int) × (Nat → Int) × (Nat → Bool)) × Nat, R.length - p'.2 < R.length - i ∧ (InvL p'.1.1 p'.1.2.1 p'.1.2.2 ∧ p'.2 ≤ R.length) ∧ y = sfL R sp p'.1.1 p'.1.2.1 p'.1.2.2 p'.2) Q (sfL R sp l g f i) := by
  refine ⟨_, gK_ok [(32, 12), (44, 0)] hS, loops_nil rfl, qL_12 hR hv h1 h2 hk (fun v hc => ⟨((putW l (rowK 12 v), updI g 12 v, updB f 12 true), i + 1), ?_, ⟨(hv.step (k := 12) (by omega) hc).2.2, h1⟩, rfl⟩)⟩
  show R.length - (i + 1) < R.length - i
  omega
theorem zL_13 {R sp : List (List D)} {l : List (List Int)} {g : Nat → Int} {f : Nat → Bool} {i : Nat} {Q : Exit → X → Prop} (hS : SpecsOK Try.prog [(46, sWth), (27, sI)]) (hR : okZ 1 R = true) (hv : InvL l g f) (h1 : i < R.length) (h2 : i < 40) (hk : band (hdJ (R.getD i [])) 15 = 13) :
    ∃ H, CallsOK Try.prog H ∧ LoopsOK Try.prog H (bodyL Try.f15 0) ∧ roundV Try.prog H Try.f15 0 [(4, 47000)] [0, 3, 4, 5, 6] [4, 5, 6] (v_stL R sp) (fun _ => v_stL R sp) (fun y => ∃ p' : (List (List Int) × (Nat → Int) × (Nat → Bool)) × Nat, R.length - p'.2 < R.length - i ∧ (InvL p'.1.1 p'.1.2.1 p'.1.2.2 ∧ p'.2 ≤ R.length) ∧ y = sfL R sp p'.1.1 p'.1.2.1 p'.1.2.2 p'.2) Q (sfL R sp l g f i) := by
  refine ⟨_, gK_ok [(32, 13), (44, 1)] hS, loops_nil rfl, qL_13 hR hv h1 h2 hk (fun v hc => ⟨((putW l (rowK 13 v), updI g 13 v, updB f 13 true), i + 1), ?_, ⟨(hv.step (k := 13) (by omega) hc).2.2, h1⟩, rfl⟩)⟩
  show R.length - (i + 1) < R.length - i
  omega
theorem zL_14 {R sp : List (List D)} {l : List (List Int)} {g : Nat → Int} {f : Nat → Bool} {i : Nat} {Q : Exit → X → Prop} (hS : SpecsOK Try.prog [(46, sWth), (27, sI)]) (hR : okZ 1 R = true) (hv : InvL l g f) (h1 : i < R.length) (h2 : i < 40) (hk : band (hdJ (R.getD i [])) 15 = 14) :
    ∃ H, CallsOK Try.prog H ∧ LoopsOK Try.prog H (bodyL Try.f15 0) ∧ roundV Try.prog H Try.f15 0 [(4, 47000)] [0, 3, 4, 5, 6] [4, 5, 6] (v_stL R sp) (fun _ => v_stL R sp) (fun y => ∃ p' : (List (List Int) × (Nat → Int) × (Nat → Bool)) × Nat, R.length - p'.2 < R.length - i ∧ (InvL p'.1.1 p'.1.2.1 p'.1.2.2 ∧ p'.2 ≤ R.length) ∧ y = sfL R sp p'.1.1 p'.1.2.1 p'.1.2.2 p'.2) Q (sfL R sp l g f i) := by
  refine ⟨_, gK_ok [(32, 14), (44, 2)] hS, loops_nil rfl, qL_14 hR hv h1 h2 hk (fun v hc => ⟨((putW l (rowK 14 v), updI g 14 v, updB f 14 true), i + 1), ?_, ⟨(hv.step (k := 14) (by omega) hc).2.2, h1⟩, rfl⟩)⟩
  show R.length - (i + 1) < R.length - i
  omega
theorem zL_15 {R sp : List (List D)} {l : List (List Int)} {g : Nat → Int} {f : Nat → Bool} {i : Nat} {Q : Exit → X → Prop} (hS : SpecsOK Try.prog [(46, sWth), (27, sI)]) (hR : okZ 1 R = true) (hv : InvL l g f) (h1 : i < R.length) (h2 : i < 40) (hk : band (hdJ (R.getD i [])) 15 = 15) :
    ∃ H, CallsOK Try.prog H ∧ LoopsOK Try.prog H (bodyL Try.f15 0) ∧ roundV Try.prog H Try.f15 0 [(4, 47000)] [0, 3, 4, 5, 6] [4, 5, 6] (v_stL R sp) (fun _ => v_stL R sp) (fun y => ∃ p' : (List (List Int) × (Nat → Int) × (Nat → Bool)) × Nat, R.length - p'.2 < R.length - i ∧ (InvL p'.1.1 p'.1.2.1 p'.1.2.2 ∧ p'.2 ≤ R.length) ∧ y = sfL R sp p'.1.1 p'.1.2.1 p'.1.2.2 p'.2) Q (sfL R sp l g f i) := by
  refine ⟨_, gK_ok [(32, 15), (44, 3)] hS, loops_nil rfl, qL_15 hR hv h1 h2 hk (fun v hc => ⟨((putW l (rowK 15 v), updI g 15 v, updB f 15 true), i + 1), ?_, ⟨(hv.step (k := 15) (by omega) hc).2.2, h1⟩, rfl⟩)⟩
  show R.length - (i + 1) < R.length - i
  omega
def sL (R sp : List (List D)) : LSum := fun Q x => x.arr [0, 3, 4, 5, 6] [4, 5, 6] = sfL R sp [] (fun _ => 0) (fun _ => false) 0 ∧ ∀ (l : List (List Int)) (g : Nat → Int) (f : Nat → Bool) (i : Int), InvL l g f → Q (.exit 0) (sfL R sp l g f i)
theorem okL {R sp : List (List D)} (hR : okZ 1 R = true) (Q : Exit → X → Prop) (x : X) (h : sL R sp Q x) : XWP Try.prog (.loop (bodyL Try.f15 0)) Q x := by
  obtain ⟨h1, h2'⟩ := h
  have hS : SpecsOK Try.prog [(46, sWth), (27, sI)] := (.cons oWth (.cons oNum .nil))
  have h0 : InvL [] (fun _ => 0) (fun _ => false) := ⟨rfl, fun r hr => (by cases hr), fun x hx => (by cases hx), fun k _ hf => (by cases hf), rfl⟩
  refine xwp_roundV (ι := (List (List Int) × (Nat → Int) × (Nat → Bool)) × Nat) (fn := Try.f15) (i := 0) [(4, 47000)] (ts := [0, 3, 4, 5, 6]) (ks := [4, 5, 6]) mixed
    (fun p => sfL R sp p.1.1 p.1.2.1 p.1.2.2 p.2) (fun p => InvL p.1.1 p.1.2.1 p.1.2.2 ∧ p.2 ≤ R.length) (fun p => R.length - p.2) (([], fun _ => 0, fun _ => false), 0) (v_stL R sp) (fun _ => v_stL R sp) (v_stL_ok R sp) (fun _ => v_stL_ok R sp) (fun p hp => ?_) ⟨h0, Nat.zero_le _⟩ h1
  obtain ⟨⟨l, g, f⟩, i⟩ := p
  obtain ⟨hf, hi⟩ := hp
  dsimp only at hf hi ⊢
  by_cases h1 : i < R.length
  · by_cases h2 : i < 40
    · have hb := mask4 (hdJ (R.getD i []))
      have hk : band (hdJ (R.getD i [])) 15 = 0 ∨ band (hdJ (R.getD i [])) 15 = 1 ∨ band (hdJ (R.getD i [])) 15 = 2 ∨ band (hdJ (R.getD i [])) 15 = 3 ∨ band (hdJ (R.getD i [])) 15 = 4 ∨ band (hdJ (R.getD i [])) 15 = 5 ∨ band (hdJ (R.getD i [])) 15 = 6 ∨ band (hdJ (R.getD i [])) 15 = 7 ∨ band (hdJ (R.getD i [])) 15 = 8 ∨ band (hdJ (R.getD i [])) 15 = 9 ∨ band (hdJ (R.getD i [])) 15 = 10 ∨ band (hdJ (R.getD i [])) 15 = 11 ∨ band (hdJ (R.getD i [])) 15 = 12 ∨ band (hdJ (R.getD i [])) 15 = 13 ∨ band (hdJ (R.getD i [])) 15 = 14 ∨ band (hdJ (R.getD i [])) 15 = 15 := by omega
      rcases hk with hk | hk | hk | hk | hk | hk | hk | hk | hk | hk | hk | hk | hk | hk | hk | hk
      · exact zL_0 hS hR hf h1 h2 hk
      · exact zL_1 hS hR hf h1 h2 hk
      · exact zL_2 hS hR hf h1 h2 hk
      · exact zL_3 hS hR hf h1 h2 hk
      · exact zL_4 hS hR hf h1 h2 hk
      · exact zL_5 hS hR hf h1 h2 hk
      · exact zL_6 hS hR hf h1 h2 hk
      · exact zL_7 hS hR hf h1 h2 hk
      · exact zL_8 hS hR hf h1 h2 hk
      · exact zL_9 hS hR hf h1 h2 hk
      · exact zL_10 hS hR hf h1 h2 hk
      · exact zL_11 hS hR hf h1 h2 hk
      · exact zL_12 hS hR hf h1 h2 hk
      · exact zL_13 hS hR hf h1 h2 hk
      · exact zL_14 hS hR hf h1 h2 hk
      · exact zL_15 hS hR hf h1 h2 hk
    · refine ⟨_, gK_ok [(32, 0), (44, 0)] hS, loops_nil rfl, ?_⟩
      unfold sfL
      rw [rL_0]
      have h3 : ¬ ((i : Int) < 40) := by omega
      simp only [Int.ofNat_lt, h1, h3, decide_true, decide_false, cond_true, cond_false, true_and]
      exact h2' l g f i hf
  · refine ⟨_, gK_ok [(32, 0), (44, 0)] hS, loops_nil rfl, ?_⟩
    unfold sfL
    rw [rL_0]
    simp only [Int.ofNat_lt, h1, decide_false, cond_false, true_and]
    exact h2' l g f i hf
theorem eL (R sp : List (List D)) (K : DV → Prop) : (askL Try.prog [(53, sWMy), (57, sT)] [(7, sL R sp), (18, sM)] Try.f15 [dS 1 R sp] K) = (sfL R sp [] (fun x => 0) (fun x => false) (0) = sfL R sp [] (fun x => 0) (fun x => false) (0) ∧ ∀ (l : List (List Int)) (g : Nat → Int) (f : Nat → Bool) (i : Int), InvL l g f → stM (List.length l) (List.length l) (0) (0) (mZ l) (g (0)) (g (1)) (g (2)) (g (3)) (g (4)) (g (5)) (g (6)) (g (7)) (g (8)) (g (9)) (g (10)) (g (11)) (g (12)) (g (13)) (g (14)) (g (15)) (f (0)) (f (1)) (f (2)) (f (3)) (f (4)) (f (5)) (f (6)) (f (7)) (f (8)) (f (9)) (f (10)) (f (11)) (f (12)) (f (13)) (f (14)) (f (15)) = stM (List.length l) (List.length l) (0) (0) (mZ l) (g (0)) (g (1)) (g (2)) (g (3)) (g (4)) (g (5)) (g (6)) (g (7)) (g (8)) (g (9)) (g (10)) (g (11)) (g (12)) (g (13)) (g (14)) (g (15)) (f (0)) (f (1)) (f (2)) (f (3)) (f (4)) (f (5)) (f (6)) (f (7)) (f (8)) (f (9)) (f (10)) (f (11)) (f (12)) (f (13)) (f (14)) (f (15)) ∧ PreM (List.length l) (mZ l) (g (0)) (g (1)) (g (2)) (g (3)) (g (4)) (g (5)) (g (6)) (g (7)) (g (8)) (g (9)) (g (10)) (g (11)) (g (12)) (g (13)) (g (14)) (g (15)) (f (0)) (f (1)) (f (2)) (f (3)) (f (4)) (f (5)) (f (6)) (f (7)) (f (8)) (f (9)) (f (10)) (f (11)) (f (12)) (f (13)) (f (14)) (f (15)) ∧ bif @Nat.cast Int _ (cntL (f (0)) (f (1)) (f (2)) (f (3)) (f (4)) (f (5)) (f (6)) (f (7)) (f (8)) (f (9)) (f (10)) (f (11)) (f (12)) (f (13)) (f (14)) (f (15))) == @Nat.cast Int _ (List.length l) then bif decide (0 + List.length l ≤ List.length (mZ l)) then bif okZ (3) (cut (mZ l) (0) (List.length l)) then K (DV.c (D.v (Value.bool (wmay (toZ (cut (mZ l) (0) (List.length l))))))) else False else False else K (DV.c (D.v (Value.bool false)))) := by kernel_rfl
theorem cntF_congr {f g : Nat → Bool} : ∀ n, (∀ k, k < n → f k = g k) → cntF f n = cntF g n
  | 0, _ => rfl
  | n + 1, h => by simp only [cntF]; rw [cntF_congr n fun k hk => h k (by omega), h n (by omega)]
theorem InvL.congr {l : List (List Int)} {g g' : Nat → Int} {f f' : Nat → Bool} (h : InvL l g f) (hg : ∀ k, k < 16 → g' k = g k) (hf : ∀ k, k < 16 → f' k = f k) : InvL l g' f' := by
  have hws := ((wmay_iff l).1 h.may).2
  refine ⟨h.may, h.wid, fun x hx => ?_, fun k hk hfk => h.all k hk (by rw [← hf k hk]; exact hfk), by rw [cntF_congr 16 hf]; exact h.len⟩
  have hin := key_in (okWs_mem hws hx)
  rw [hg _ (by omega), hf _ (by omega)]
  exact h.has x hx
theorem preM {l : List (List Int)} {g : Nat → Int} {f : Nat → Bool} (h : InvL l g f) : PreM l.length (mZ l) (g 0) (g 1) (g 2) (g 3) (g 4) (g 5) (g 6) (g 7) (g 8) (g 9) (g 10) (g 11) (g 12) (g 13) (g 14) (g 15) (f 0) (f 1) (f 2) (f 3) (f 4) (f 5) (f 6) (f 7) (f 8) (f 9) (f 10) (f 11) (f 12) (f 13) (f 14) (f 15) := by
  refine ⟨l, rfl, rfl, h.congr (fun k hk => ?_) (fun k hk => ?_)⟩
  · have e : k = 0 ∨ k = 1 ∨ k = 2 ∨ k = 3 ∨ k = 4 ∨ k = 5 ∨ k = 6 ∨ k = 7 ∨ k = 8 ∨ k = 9 ∨ k = 10 ∨ k = 11 ∨ k = 12 ∨ k = 13 ∨ k = 14 ∨ k = 15 := by omega
    rcases e with rfl | rfl | rfl | rfl | rfl | rfl | rfl | rfl | rfl | rfl | rfl | rfl | rfl | rfl | rfl | rfl <;> rfl
  · have e : k = 0 ∨ k = 1 ∨ k = 2 ∨ k = 3 ∨ k = 4 ∨ k = 5 ∨ k = 6 ∨ k = 7 ∨ k = 8 ∨ k = 9 ∨ k = 10 ∨ k = 11 ∨ k = 12 ∨ k = 13 ∨ k = 14 ∨ k = 15 := by omega
    rcases e with rfl | rfl | rfl | rfl | rfl | rfl | rfl | rfl | rfl | rfl | rfl | rfl | rfl | rfl | rfl | rfl <;> rfl
theorem c15 {R : List (List D)} (sp : List (List D)) (hR : okZ 1 R = true) : CT Try.prog 15 [dS 1 R sp] (B true) := by
  have hL : LoopsOK Try.prog (hkl [(53, sWMy), (57, sT)] [(7, sL R sp), (18, sM)]) (bodyOf Try.f15) := loops_ok 2 rfl fun i hi s hs Q x hq => by
    match i, hi with
    | 0, _ => have e : some (sL R sp) = some s := hs
              cases e; exact okL hR Q x hq
    | 1, _ => have e : some sM = some s := hs
              cases e; exact okM Q x hq
  refine ct_askL (l := [(53, sWMy), (57, sT)]) (m := [(7, sL R sp), (18, sM)]) (.cons oWMy (.cons oAwW .nil)) mixed hL Try.func15 rfl rfl rfl ?_
  rw [eL]
  refine ⟨by trivial, fun l g f i hv => ⟨by trivial, preM hv, ?_⟩⟩
  have h16 := ((wmay_iff l).1 hv.may).1
  have o1 : okZ 3 (mZ l) = true := okZ_mZ hv.wid (by omega)
  have hc : cntL (f 0) (f 1) (f 2) (f 3) (f 4) (f 5) (f 6) (f 7) (f 8) (f 9) (f 10) (f 11) (f 12) (f 13) (f 14) (f 15) = l.length := hv.len.symm
  have hd : decide (0 + l.length ≤ (mZ l).length) = true := by rw [mZ_len]; simp
  simp only [hc, hd, o1, cut_all (mZ_len l), toZ_mZ, hv.may, beq_self_eq_true, cond_true]
theorem c15' (x : D) (hx : Good (.sl [.int] 8) x) : CT Try.prog 15 [.c x] (B true) := by
  obtain ⟨R, rfl, hR, hl⟩ := Good.rows (z := 1) hx
  exact c15 [] hR
end Vm
