/- An interpreter for Go's texts over plain data, its proof, and what it says of the functions that the law reaches. My own work. -/
import Derived.Test.YtnhodnfnlnccaaaGreatCr3
set_option linter.unusedSimpArgs false
set_option linter.unusedVariables false
set_option maxRecDepth 100000
set_option maxHeartbeats 2000000
namespace Vm
section
open Go Go.Proofs
abbrev pA (R0 p0 R1 p1 R2 p2 R3 p3 : List (List D)) : DV := .c (.p 0 [.s 0 3 R0 p0, .s 0 3 R1 p1, .s 0 3 R2 p2, .s 0 3 R3 p3] 0)
def okA (R0 R1 R2 R3 : List (List D)) : Bool := okZ 3 R0 && (okZ 3 R1 && (okZ 3 R2 && okZ 3 R3))
theorem ZeC {R0 R1 R2 R3 : List (List D)} (h : okA R0 R1 R2 R3 = true) : okZ 3 R0 = true ∧ okZ 3 R1 = true ∧ okZ 3 R2 = true ∧ okZ 3 R3 = true := by simpa [okA, Bool.and_eq_true] using h
def Zcj : Spec := fun ds Q => match ds with | [.agg [.s 0 3 R0 p0, .s 0 3 R1 p1, .s 0 3 R2 p2, .s 0 3 R3 p3]] => cond (okA R0 R1 R2 R3) (Q (B (amay (toZ R0) (toZ R1) (toZ R2) (toZ R3)))) False | _ => False
theorem ZkU (R : List (List D)) : Zat (toZ R) = (!decide ((R.length : Int) > 4) && !badW (toZ R)) := by
  unfold Zat
  rw [Zav]
  have : decide ((R.length : Int) > 4) = decide (R.length > 4) := by congr 1; exact propext ⟨fun h => by omega, fun h => by omega⟩
  rw [this]; cases decide (R.length > 4) <;> rfl
theorem Zk6 : Zad Tryz.prog 60 Zcj := o_of Tryz.func60 (by kernel_rfl) rfl fun ds Q h => by
  unfold Zcj at h; split at h
  · rename_i R0 p0 R1 p1 R2 p2 R3 p3
    obtain ⟨h1, h2⟩ := Zae h
    obtain ⟨a0, a1, a2, a3⟩ := ZeC h1
    refine ⟨_, Zah (.cons oCon .nil) mixed Tryz.func60 rfl rfl rfl ?_, rfl, rfl, h2⟩
    rw [ZsX]
    simp only [a0, a1, a2, a3, cond_true, amay, ZkU]
    cases decide ((R0.length : Int) > 4) <;> cases badW (toZ R0) <;> cases decide ((R1.length : Int) > 4) <;> cases badW (toZ R1) <;> cases decide ((R2.length : Int) > 4) <;> cases badW (toZ R2) <;> cases decide ((R3.length : Int) > 4) <;> cases badW (toZ R3) <;> rfl
  · exact h.elim
def stAM (R0 p0 R1 p1 R2 p2 R3 p3 : List (List D)) (g i : Int) (p : Bool) : X := ⟨mkT 29 [(1, .c (.rp 2 0 4 0 0)), (2, ab p), (3, ai g), (4, ai i)], [(2, .bx 0 4 [.d (.s 0 3 R0 p0), .d (.s 0 3 R1 p1), .d (.s 0 3 R2 p2), .d (.s 0 3 R3 p3)])], [], []⟩
def vAM (R0 p0 R1 p1 R2 p2 R3 p3 : List (List D)) (g : Int) (y : X) : X := stAM R0 p0 R1 p1 R2 p2 R3 p3 g (Zd6 y 4) (Zp0 y 2)
theorem eThr (R0 p0 R1 p1 R2 p2 R3 p3 : List (List D)) (lv num : Int) (K : DV → Prop) : (ask Tryz.prog [(64, sB lab)] Tryz.f157 [pA R0 p0 R1 p1 R2 p2 R3 p3, I lv, I num] K) = (bif lab lv then bif decide (num ≥ 0) then bif decide (lv = 0) then K (DV.c (D.v (Value.bool (decide (num < @Nat.cast Int _ (List.length R0)))))) else bif decide (lv = 1) then K (DV.c (D.v (Value.bool (decide (num < @Nat.cast Int _ (List.length R1)))))) else bif decide (lv = 2) then K (DV.c (D.v (Value.bool (decide (num < @Nat.cast Int _ (List.length R2)))))) else bif decide (lv = 3) then K (DV.c (D.v (Value.bool (decide (num < @Nat.cast Int _ (List.length R3)))))) else False else K (DV.c (D.v (Value.bool false))) else K (DV.c (D.v (Value.bool false)))) := by kernel_rfl
theorem ZsQ (R0 p0 R1 p1 R2 p2 R3 p3 : List (List D)) (lv num : Int) (K : DV → Prop) : (ask Tryz.prog [(71, sB lab)] Tryz.f164 [dA R0 p0 R1 p1 R2 p2 R3 p3, I lv, I num] K) = (bif lab lv then bif decide (num ≥ 0) then bif decide (lv = 0) then K (DV.c (D.v (Value.bool (decide (num < @Nat.cast Int _ (List.length R0)))))) else bif decide (lv = 1) then K (DV.c (D.v (Value.bool (decide (num < @Nat.cast Int _ (List.length R1)))))) else bif decide (lv = 2) then K (DV.c (D.v (Value.bool (decide (num < @Nat.cast Int _ (List.length R2)))))) else bif decide (lv = 3) then K (DV.c (D.v (Value.bool (decide (num < @Nat.cast Int _ (List.length R3)))))) else False else K (DV.c (D.v (Value.bool false))) else K (DV.c (D.v (Value.bool false)))) := by kernel_rfl
theorem Zsg (R0 p0 R1 p1 R2 p2 R3 p3 : List (List D)) (i : Int) (p : Bool) (N : X → Prop) (E : Exit → X → Prop) : (Zbc band bor Tryz.prog [(118, ZdM)] [] Tryz.f68 1 [1, 2, 3, 4] [2] (vAM R0 p0 R1 p1 R2 p2 R3 p3 0) (vAM R0 p0 R1 p1 R2 p2 R3 p3 0) N E (stAM R0 p0 R1 p1 R2 p2 R3 p3 0 i p)) = (bif decide (i < @Nat.cast Int _ (List.length R0)) then bif decide (i ≥ 4) then stAM R0 p0 R1 p1 R2 p2 R3 p3 (0) i false = stAM R0 p0 R1 p1 R2 p2 R3 p3 (0) i false ∧ E Exit.ret (stAM R0 p0 R1 p1 R2 p2 R3 p3 (0) i false) else bif decide (0 ≤ i) && decide (i < @Nat.cast Int _ (List.length R0)) then bif isJ [IntKind.i64, IntKind.i64, IntKind.i64] (List.drop (0) (List.getD R0 (Int.toNat i) [])) then bif !wmay (hdJ (List.drop (0) (List.getD R0 (Int.toNat i) []))) (hdJ (List.tail (List.drop (0) (List.getD R0 (Int.toNat i) [])))) (hdJ (List.tail (List.tail (List.drop (0) (List.getD R0 (Int.toNat i) []))))) then stAM R0 p0 R1 p1 R2 p2 R3 p3 (0) i false = stAM R0 p0 R1 p1 R2 p2 R3 p3 (0) i false ∧ E Exit.ret (stAM R0 p0 R1 p1 R2 p2 R3 p3 (0) i false) else stAM R0 p0 R1 p1 R2 p2 R3 p3 (0) (IntKind.wrap IntKind.i64 (i + 1)) p = stAM R0 p0 R1 p1 R2 p2 R3 p3 (0) (IntKind.wrap IntKind.i64 (i + 1)) p ∧ N (stAM R0 p0 R1 p1 R2 p2 R3 p3 (0) (IntKind.wrap IntKind.i64 (i + 1)) p) else False else False else stAM R0 p0 R1 p1 R2 p2 R3 p3 (0) i p = stAM R0 p0 R1 p1 R2 p2 R3 p3 (0) i p ∧ E (Exit.exit (2)) (stAM R0 p0 R1 p1 R2 p2 R3 p3 (0) i p)) := by kernel_rfl
theorem Zsz (R0 p0 R1 p1 R2 p2 R3 p3 : List (List D)) (i : Int) (p : Bool) (N : X → Prop) (E : Exit → X → Prop) : (Zbc band bor Tryz.prog [(118, ZdM)] [] Tryz.f68 1 [1, 2, 3, 4] [2] (vAM R0 p0 R1 p1 R2 p2 R3 p3 1) (vAM R0 p0 R1 p1 R2 p2 R3 p3 1) N E (stAM R0 p0 R1 p1 R2 p2 R3 p3 1 i p)) = (bif decide (i < @Nat.cast Int _ (List.length R1)) then bif decide (i ≥ 4) then stAM R0 p0 R1 p1 R2 p2 R3 p3 (1) i false = stAM R0 p0 R1 p1 R2 p2 R3 p3 (1) i false ∧ E Exit.ret (stAM R0 p0 R1 p1 R2 p2 R3 p3 (1) i false) else bif decide (0 ≤ i) && decide (i < @Nat.cast Int _ (List.length R1)) then bif isJ [IntKind.i64, IntKind.i64, IntKind.i64] (List.drop (0) (List.getD R1 (Int.toNat i) [])) then bif !wmay (hdJ (List.drop (0) (List.getD R1 (Int.toNat i) []))) (hdJ (List.tail (List.drop (0) (List.getD R1 (Int.toNat i) [])))) (hdJ (List.tail (List.tail (List.drop (0) (List.getD R1 (Int.toNat i) []))))) then stAM R0 p0 R1 p1 R2 p2 R3 p3 (1) i false = stAM R0 p0 R1 p1 R2 p2 R3 p3 (1) i false ∧ E Exit.ret (stAM R0 p0 R1 p1 R2 p2 R3 p3 (1) i false) else stAM R0 p0 R1 p1 R2 p2 R3 p3 (1) (IntKind.wrap IntKind.i64 (i + 1)) p = stAM R0 p0 R1 p1 R2 p2 R3 p3 (1) (IntKind.wrap IntKind.i64 (i + 1)) p ∧ N (stAM R0 p0 R1 p1 R2 p2 R3 p3 (1) (IntKind.wrap IntKind.i64 (i + 1)) p) else False else False else stAM R0 p0 R1 p1 R2 p2 R3 p3 (1) i p = stAM R0 p0 R1 p1 R2 p2 R3 p3 (1) i p ∧ E (Exit.exit (2)) (stAM R0 p0 R1 p1 R2 p2 R3 p3 (1) i p)) := by kernel_rfl
theorem Ztk (R0 p0 R1 p1 R2 p2 R3 p3 : List (List D)) (i : Int) (p : Bool) (N : X → Prop) (E : Exit → X → Prop) : (Zbc band bor Tryz.prog [(118, ZdM)] [] Tryz.f68 1 [1, 2, 3, 4] [2] (vAM R0 p0 R1 p1 R2 p2 R3 p3 2) (vAM R0 p0 R1 p1 R2 p2 R3 p3 2) N E (stAM R0 p0 R1 p1 R2 p2 R3 p3 2 i p)) = (bif decide (i < @Nat.cast Int _ (List.length R2)) then bif decide (i ≥ 4) then stAM R0 p0 R1 p1 R2 p2 R3 p3 (2) i false = stAM R0 p0 R1 p1 R2 p2 R3 p3 (2) i false ∧ E Exit.ret (stAM R0 p0 R1 p1 R2 p2 R3 p3 (2) i false) else bif decide (0 ≤ i) && decide (i < @Nat.cast Int _ (List.length R2)) then bif isJ [IntKind.i64, IntKind.i64, IntKind.i64] (List.drop (0) (List.getD R2 (Int.toNat i) [])) then bif !wmay (hdJ (List.drop (0) (List.getD R2 (Int.toNat i) []))) (hdJ (List.tail (List.drop (0) (List.getD R2 (Int.toNat i) [])))) (hdJ (List.tail (List.tail (List.drop (0) (List.getD R2 (Int.toNat i) []))))) then stAM R0 p0 R1 p1 R2 p2 R3 p3 (2) i false = stAM R0 p0 R1 p1 R2 p2 R3 p3 (2) i false ∧ E Exit.ret (stAM R0 p0 R1 p1 R2 p2 R3 p3 (2) i false) else stAM R0 p0 R1 p1 R2 p2 R3 p3 (2) (IntKind.wrap IntKind.i64 (i + 1)) p = stAM R0 p0 R1 p1 R2 p2 R3 p3 (2) (IntKind.wrap IntKind.i64 (i + 1)) p ∧ N (stAM R0 p0 R1 p1 R2 p2 R3 p3 (2) (IntKind.wrap IntKind.i64 (i + 1)) p) else False else False else stAM R0 p0 R1 p1 R2 p2 R3 p3 (2) i p = stAM R0 p0 R1 p1 R2 p2 R3 p3 (2) i p ∧ E (Exit.exit (2)) (stAM R0 p0 R1 p1 R2 p2 R3 p3 (2) i p)) := by kernel_rfl
theorem Zsq (R0 p0 R1 p1 R2 p2 R3 p3 : List (List D)) (i : Int) (p : Bool) (N : X → Prop) (E : Exit → X → Prop) : (Zbc band bor Tryz.prog [(118, ZdM)] [] Tryz.f68 1 [1, 2, 3, 4] [2] (vAM R0 p0 R1 p1 R2 p2 R3 p3 3) (vAM R0 p0 R1 p1 R2 p2 R3 p3 3) N E (stAM R0 p0 R1 p1 R2 p2 R3 p3 3 i p)) = (bif decide (i < @Nat.cast Int _ (List.length R3)) then bif decide (i ≥ 4) then stAM R0 p0 R1 p1 R2 p2 R3 p3 (3) i false = stAM R0 p0 R1 p1 R2 p2 R3 p3 (3) i false ∧ E Exit.ret (stAM R0 p0 R1 p1 R2 p2 R3 p3 (3) i false) else bif decide (0 ≤ i) && decide (i < @Nat.cast Int _ (List.length R3)) then bif isJ [IntKind.i64, IntKind.i64, IntKind.i64] (List.drop (0) (List.getD R3 (Int.toNat i) [])) then bif !wmay (hdJ (List.drop (0) (List.getD R3 (Int.toNat i) []))) (hdJ (List.tail (List.drop (0) (List.getD R3 (Int.toNat i) [])))) (hdJ (List.tail (List.tail (List.drop (0) (List.getD R3 (Int.toNat i) []))))) then stAM R0 p0 R1 p1 R2 p2 R3 p3 (3) i false = stAM R0 p0 R1 p1 R2 p2 R3 p3 (3) i false ∧ E Exit.ret (stAM R0 p0 R1 p1 R2 p2 R3 p3 (3) i false) else stAM R0 p0 R1 p1 R2 p2 R3 p3 (3) (IntKind.wrap IntKind.i64 (i + 1)) p = stAM R0 p0 R1 p1 R2 p2 R3 p3 (3) (IntKind.wrap IntKind.i64 (i + 1)) p ∧ N (stAM R0 p0 R1 p1 R2 p2 R3 p3 (3) (IntKind.wrap IntKind.i64 (i + 1)) p) else False else False else stAM R0 p0 R1 p1 R2 p2 R3 p3 (3) i p = stAM R0 p0 R1 p1 R2 p2 R3 p3 (3) i p ∧ E (Exit.exit (2)) (stAM R0 p0 R1 p1 R2 p2 R3 p3 (3) i p)) := by kernel_rfl
def sAMg (st : Int → Bool → X) (l : List (List Int)) : LSum := fun Q x => x.only [1, 2, 3, 4] [2] = st 0 false ∧ (Zat l = false → ∀ i : Int, Q .ret (st i false)) ∧ (Zat l = true → Q (.exit 2) (st l.length false))
def Zpm (R0 p0 R1 p1 R2 p2 R3 p3 : List (List D)) : LSum := fun Q x => ZnE x 3 fun g =>
  cond (decide (g = 0)) (sAMg (stAM R0 p0 R1 p1 R2 p2 R3 p3 0) (toZ R0) Q x) (cond (decide (g = 1)) (sAMg (stAM R0 p0 R1 p1 R2 p2 R3 p3 1) (toZ R1) Q x) (cond (decide (g = 2)) (sAMg (stAM R0 p0 R1 p1 R2 p2 R3 p3 2) (toZ R2) Q x) (sAMg (stAM R0 p0 R1 p1 R2 p2 R3 p3 3) (toZ R3) Q x)))
theorem ZrN (R0 p0 R1 p1 R2 p2 R3 p3 : List (List D)) (K : DV → Prop) : (askL Tryz.prog [] [(5, Zpm R0 p0 R1 p1 R2 p2 R3 p3)] Tryz.f68 [dA R0 p0 R1 p1 R2 p2 R3 p3] K) = (stAM R0 p0 R1 p1 R2 p2 R3 p3 (0) (0) false = stAM R0 p0 R1 p1 R2 p2 R3 p3 (0) (0) false ∧ (Zat (toZ R0) = false → ∀ (i : Int), K (DV.c (D.v (Value.bool false)))) ∧ (Zat (toZ R0) = true → stAM R0 p0 R1 p1 R2 p2 R3 p3 (1) (0) false = stAM R0 p0 R1 p1 R2 p2 R3 p3 (1) (0) false ∧ (Zat (toZ R1) = false → ∀ (i : Int), K (DV.c (D.v (Value.bool false)))) ∧ (Zat (toZ R1) = true → stAM R0 p0 R1 p1 R2 p2 R3 p3 (2) (0) false = stAM R0 p0 R1 p1 R2 p2 R3 p3 (2) (0) false ∧ (Zat (toZ R2) = false → ∀ (i : Int), K (DV.c (D.v (Value.bool false)))) ∧ (Zat (toZ R2) = true → stAM R0 p0 R1 p1 R2 p2 R3 p3 (3) (0) false = stAM R0 p0 R1 p1 R2 p2 R3 p3 (3) (0) false ∧ (Zat (toZ R3) = false → ∀ (i : Int), K (DV.c (D.v (Value.bool false)))) ∧ (Zat (toZ R3) = true → K (DV.c (D.v (Value.bool true)))))))) := by kernel_rfl
theorem ZaS {l : List (List Int)} {i : Nat} (hi : i < l.length) (h : Zbh (l.getD i []) = false) : Zat l = false := by
  have e : l.getD i [] = l[i] := by simp [List.getD_eq_getElem?_getD, hi]
  rw [e] at h
  have : badW l = true := List.any_eq_true.2 ⟨_, List.getElem_mem hi, by simp [h]⟩
  simp [Zat, this]
theorem Za3 {l : List (List Int)} (h : 4 < l.length) : Zat l = false := by simp [Zat, h]
theorem Zbm {l : List (List Int)} (h : l.length ≤ 4) (ha : ∀ j, j < l.length → Zbh (l.getD j []) = true) : Zat l = true := by
  have : badW l = false := by
    unfold badW
    rw [List.any_eq_false]
    intro x hx
    obtain ⟨j, hj', rfl⟩ := List.mem_iff_getElem.1 hx
    have := ha j hj'
    have e2 : l.getD j [] = l[j] := by simp [List.getD_eq_getElem?_getD, hj']
    rw [e2] at this; simp [this]
  have h4 : ¬ l.length > 4 := by omega
  simp [Zat, this, h4]
theorem ZoH {P : Program} {l : List (FuncId × Spec)} {fn : Func} {k : Nat} {s : LSum} (hn : (ZaU (Zar fn)).length = 2) (hk0 : (hkl l [(k, s)]).loop (Zbp (Zap fn 0)) = none) (hk : Zbp (Zap fn 1) = k) (h : ∀ Q x, s Q x → XWP P (.loop (Zap fn 1)) Q x) : Zaq P (hkl l [(k, s)]) (Zar fn) :=
  ZcW 2 hn fun i hi s' hs Q x hq => by
    match i, hi with
    | 0, _ => rw [hk0] at hs; cases hs
    | 1, _ =>
      rw [hk] at hs
      have hs' : some s = some s' := by simpa [ZcT, hkl, hkA, Za0] using hs
      cases hs'
      exact h Q x hq
theorem ZqW {l : List (List Int)} {sp R1 p1 R2 p2 R3 p3 : List (List D)} (hw : wid 3 l) (hn : l.length ≤ 9223372036854775807) (Q : Exit → X → Prop) (x : X) (h : sAMg (stAM (mZ l) sp R1 p1 R2 p2 R3 p3 0) l Q x) : XWP Tryz.prog (.loop (Zap Tryz.f68 1)) Q x := by
  obtain ⟨h1, h2, h3⟩ := h
  refine ZaR (ι := Nat) (H := hkA band bor [(118, ZdM)] []) (fn := Tryz.f68) (i := 1) (ts := [1, 2, 3, 4]) (ks := [2]) (ZaF (.cons Zj6 .nil)) mixed (Zag rfl)
    (fun i => stAM (mZ l) sp R1 p1 R2 p2 R3 p3 0 i false) (fun i => i ≤ l.length ∧ i ≤ 4 ∧ ∀ j, j < i → Zbh (l.getD j []) = true) (fun i => l.length - i) 0 (vAM (mZ l) sp R1 p1 R2 p2 R3 p3 0) (vAM (mZ l) sp R1 p1 R2 p2 R3 p3 0) (fun i hp => ?_) ⟨Nat.zero_le _, Nat.zero_le _, fun j hj => by omega⟩ h1
  obtain ⟨hi, h4, hj⟩ := hp
  show Zbc band bor Tryz.prog _ _ Tryz.f68 1 _ _ _ _ _ _ _
  rw [Zsg]
  by_cases hl : i < l.length
  · by_cases h4' : i = 4
    · have e4 : decide ((i : Int) ≥ 4) = true := by simp; omega
      simp only [Zaf, Int.ofNat_lt, hl, decide_true, cond_true, e4, true_and]
      exact h2 (Za3 (by omega)) _
    · have e4 : decide ((i : Int) ≥ 4) = false := by simp; omega
      have wi : IntKind.wrap .i64 ((i : Int) + 1) = ((i + 1 : Nat) : Int) := Zas (n := 1) (by omega)
      have hj1 : isJ [IntKind.i64, IntKind.i64, IntKind.i64] ((mZ l).getD i []) = true := Zau (j := 0) (n := 3) hw hl (by omega)
      simp only [Zaf, Int.ofNat_lt, hl, decide_true, cond_true, cond_false, e4, Int.natCast_nonneg, Bool.and_self, Int.toNat_natCast, ZaJ, ZaK, hj1, List.drop_zero, ZaB, true_and, wi]
      have e : Zbh (l.getD i []) = wmay ((l.getD i []).getD 0 0) ((l.getD i []).getD 1 0) ((l.getD i []).getD 2 0) := rfl
      rw [← e]
      cases ho : Zbh (l.getD i []) with
      | false => exact h2 (ZaS hl ho) _
      | true =>
        refine ⟨i + 1, by omega, ⟨hl, by omega, fun j hji => ?_⟩, rfl⟩
        rcases Nat.lt_succ_iff_lt_or_eq.1 hji with hji | rfl
        · exact hj j hji
        · exact ho
  · have e : i = l.length := by omega
    subst e
    simp only [Zaf, Int.ofNat_lt, Nat.lt_irrefl, decide_false, cond_false, true_and]
    exact h3 (Zbm h4 hj)
theorem Zr2 {l : List (List Int)} {sp R0 p0 R2 p2 R3 p3 : List (List D)} (hw : wid 3 l) (hn : l.length ≤ 9223372036854775807) (Q : Exit → X → Prop) (x : X) (h : sAMg (stAM R0 p0 (mZ l) sp R2 p2 R3 p3 1) l Q x) : XWP Tryz.prog (.loop (Zap Tryz.f68 1)) Q x := by
  obtain ⟨h1, h2, h3⟩ := h
  refine ZaR (ι := Nat) (H := hkA band bor [(118, ZdM)] []) (fn := Tryz.f68) (i := 1) (ts := [1, 2, 3, 4]) (ks := [2]) (ZaF (.cons Zj6 .nil)) mixed (Zag rfl)
    (fun i => stAM R0 p0 (mZ l) sp R2 p2 R3 p3 1 i false) (fun i => i ≤ l.length ∧ i ≤ 4 ∧ ∀ j, j < i → Zbh (l.getD j []) = true) (fun i => l.length - i) 0 (vAM R0 p0 (mZ l) sp R2 p2 R3 p3 1) (vAM R0 p0 (mZ l) sp R2 p2 R3 p3 1) (fun i hp => ?_) ⟨Nat.zero_le _, Nat.zero_le _, fun j hj => by omega⟩ h1
  obtain ⟨hi, h4, hj⟩ := hp
  show Zbc band bor Tryz.prog _ _ Tryz.f68 1 _ _ _ _ _ _ _
  rw [Zsz]
  by_cases hl : i < l.length
  · by_cases h4' : i = 4
    · have e4 : decide ((i : Int) ≥ 4) = true := by simp; omega
      simp only [Zaf, Int.ofNat_lt, hl, decide_true, cond_true, e4, true_and]
      exact h2 (Za3 (by omega)) _
    · have e4 : decide ((i : Int) ≥ 4) = false := by simp; omega
      have wi : IntKind.wrap .i64 ((i : Int) + 1) = ((i + 1 : Nat) : Int) := Zas (n := 1) (by omega)
      have hj1 : isJ [IntKind.i64, IntKind.i64, IntKind.i64] ((mZ l).getD i []) = true := Zau (j := 0) (n := 3) hw hl (by omega)
      simp only [Zaf, Int.ofNat_lt, hl, decide_true, cond_true, cond_false, e4, Int.natCast_nonneg, Bool.and_self, Int.toNat_natCast, ZaJ, ZaK, hj1, List.drop_zero, ZaB, true_and, wi]
      have e : Zbh (l.getD i []) = wmay ((l.getD i []).getD 0 0) ((l.getD i []).getD 1 0) ((l.getD i []).getD 2 0) := rfl
      rw [← e]
      cases ho : Zbh (l.getD i []) with
      | false => exact h2 (ZaS hl ho) _
      | true =>
        refine ⟨i + 1, by omega, ⟨hl, by omega, fun j hji => ?_⟩, rfl⟩
        rcases Nat.lt_succ_iff_lt_or_eq.1 hji with hji | rfl
        · exact hj j hji
        · exact ho
  · have e : i = l.length := by omega
    subst e
    simp only [Zaf, Int.ofNat_lt, Nat.lt_irrefl, decide_false, cond_false, true_and]
    exact h3 (Zbm h4 hj)
theorem Zrq {l : List (List Int)} {sp R0 p0 R1 p1 R3 p3 : List (List D)} (hw : wid 3 l) (hn : l.length ≤ 9223372036854775807) (Q : Exit → X → Prop) (x : X) (h : sAMg (stAM R0 p0 R1 p1 (mZ l) sp R3 p3 2) l Q x) : XWP Tryz.prog (.loop (Zap Tryz.f68 1)) Q x := by
  obtain ⟨h1, h2, h3⟩ := h
  refine ZaR (ι := Nat) (H := hkA band bor [(118, ZdM)] []) (fn := Tryz.f68) (i := 1) (ts := [1, 2, 3, 4]) (ks := [2]) (ZaF (.cons Zj6 .nil)) mixed (Zag rfl)
    (fun i => stAM R0 p0 R1 p1 (mZ l) sp R3 p3 2 i false) (fun i => i ≤ l.length ∧ i ≤ 4 ∧ ∀ j, j < i → Zbh (l.getD j []) = true) (fun i => l.length - i) 0 (vAM R0 p0 R1 p1 (mZ l) sp R3 p3 2) (vAM R0 p0 R1 p1 (mZ l) sp R3 p3 2) (fun i hp => ?_) ⟨Nat.zero_le _, Nat.zero_le _, fun j hj => by omega⟩ h1
  obtain ⟨hi, h4, hj⟩ := hp
  show Zbc band bor Tryz.prog _ _ Tryz.f68 1 _ _ _ _ _ _ _
  rw [Ztk]
  by_cases hl : i < l.length
  · by_cases h4' : i = 4
    · have e4 : decide ((i : Int) ≥ 4) = true := by simp; omega
      simp only [Zaf, Int.ofNat_lt, hl, decide_true, cond_true, e4, true_and]
      exact h2 (Za3 (by omega)) _
    · have e4 : decide ((i : Int) ≥ 4) = false := by simp; omega
      have wi : IntKind.wrap .i64 ((i : Int) + 1) = ((i + 1 : Nat) : Int) := Zas (n := 1) (by omega)
      have hj1 : isJ [IntKind.i64, IntKind.i64, IntKind.i64] ((mZ l).getD i []) = true := Zau (j := 0) (n := 3) hw hl (by omega)
      simp only [Zaf, Int.ofNat_lt, hl, decide_true, cond_true, cond_false, e4, Int.natCast_nonneg, Bool.and_self, Int.toNat_natCast, ZaJ, ZaK, hj1, List.drop_zero, ZaB, true_and, wi]
      have e : Zbh (l.getD i []) = wmay ((l.getD i []).getD 0 0) ((l.getD i []).getD 1 0) ((l.getD i []).getD 2 0) := rfl
      rw [← e]
      cases ho : Zbh (l.getD i []) with
      | false => exact h2 (ZaS hl ho) _
      | true =>
        refine ⟨i + 1, by omega, ⟨hl, by omega, fun j hji => ?_⟩, rfl⟩
        rcases Nat.lt_succ_iff_lt_or_eq.1 hji with hji | rfl
        · exact hj j hji
        · exact ho
  · have e : i = l.length := by omega
    subst e
    simp only [Zaf, Int.ofNat_lt, Nat.lt_irrefl, decide_false, cond_false, true_and]
    exact h3 (Zbm h4 hj)
theorem Zrs {l : List (List Int)} {sp R0 p0 R1 p1 R2 p2 : List (List D)} (hw : wid 3 l) (hn : l.length ≤ 9223372036854775807) (Q : Exit → X → Prop) (x : X) (h : sAMg (stAM R0 p0 R1 p1 R2 p2 (mZ l) sp 3) l Q x) : XWP Tryz.prog (.loop (Zap Tryz.f68 1)) Q x := by
  obtain ⟨h1, h2, h3⟩ := h
  refine ZaR (ι := Nat) (H := hkA band bor [(118, ZdM)] []) (fn := Tryz.f68) (i := 1) (ts := [1, 2, 3, 4]) (ks := [2]) (ZaF (.cons Zj6 .nil)) mixed (Zag rfl)
    (fun i => stAM R0 p0 R1 p1 R2 p2 (mZ l) sp 3 i false) (fun i => i ≤ l.length ∧ i ≤ 4 ∧ ∀ j, j < i → Zbh (l.getD j []) = true) (fun i => l.length - i) 0 (vAM R0 p0 R1 p1 R2 p2 (mZ l) sp 3) (vAM R0 p0 R1 p1 R2 p2 (mZ l) sp 3) (fun i hp => ?_) ⟨Nat.zero_le _, Nat.zero_le _, fun j hj => by omega⟩ h1
  obtain ⟨hi, h4, hj⟩ := hp
  show Zbc band bor Tryz.prog _ _ Tryz.f68 1 _ _ _ _ _ _ _
  rw [Zsq]
  by_cases hl : i < l.length
  · by_cases h4' : i = 4
    · have e4 : decide ((i : Int) ≥ 4) = true := by simp; omega
      simp only [Zaf, Int.ofNat_lt, hl, decide_true, cond_true, e4, true_and]
      exact h2 (Za3 (by omega)) _
    · have e4 : decide ((i : Int) ≥ 4) = false := by simp; omega
      have wi : IntKind.wrap .i64 ((i : Int) + 1) = ((i + 1 : Nat) : Int) := Zas (n := 1) (by omega)
      have hj1 : isJ [IntKind.i64, IntKind.i64, IntKind.i64] ((mZ l).getD i []) = true := Zau (j := 0) (n := 3) hw hl (by omega)
      simp only [Zaf, Int.ofNat_lt, hl, decide_true, cond_true, cond_false, e4, Int.natCast_nonneg, Bool.and_self, Int.toNat_natCast, ZaJ, ZaK, hj1, List.drop_zero, ZaB, true_and, wi]
      have e : Zbh (l.getD i []) = wmay ((l.getD i []).getD 0 0) ((l.getD i []).getD 1 0) ((l.getD i []).getD 2 0) := rfl
      rw [← e]
      cases ho : Zbh (l.getD i []) with
      | false => exact h2 (ZaS hl ho) _
      | true =>
        refine ⟨i + 1, by omega, ⟨hl, by omega, fun j hji => ?_⟩, rfl⟩
        rcases Nat.lt_succ_iff_lt_or_eq.1 hji with hji | rfl
        · exact hj j hji
        · exact ho
  · have e : i = l.length := by omega
    subst e
    simp only [Zaf, Int.ofNat_lt, Nat.lt_irrefl, decide_false, cond_false, true_and]
    exact h3 (Zbm h4 hj)
theorem Zom {R0 p0 R1 p1 R2 p2 R3 p3 : List (List D)} (h0 : okZ 3 R0 = true) (h1 : okZ 3 R1 = true) (h2 : okZ 3 R2 = true) (h3 : okZ 3 R3 = true) (Q : Exit → X → Prop) (x : X) (h : Zpm R0 p0 R1 p1 R2 p2 R3 p3 Q x) : XWP Tryz.prog (.loop (Zap Tryz.f68 1)) Q x := by
  obtain ⟨g, h⟩ := Zf3 h
  obtain ⟨e0, w0, n0⟩ := Zai h0
  obtain ⟨e1, w1, n1⟩ := Zai h1
  obtain ⟨e2, w2, n2⟩ := Zai h2
  obtain ⟨e3, w3, n3⟩ := Zai h3
  rw [← Zav] at n0 n1 n2 n3
  cases hd : decide (g = 0) with
  | true =>
    rw [hd, cond_true] at h
    exact ZqW w0 n0 Q x (by rw [← e0]; exact h)
  | false =>
    rw [hd, cond_false] at h
    cases hd : decide (g = 1) with
    | true =>
      rw [hd, cond_true] at h
      exact Zr2 w1 n1 Q x (by rw [← e1]; exact h)
    | false =>
      rw [hd, cond_false] at h
      cases hd : decide (g = 2) with
      | true =>
        rw [hd, cond_true] at h
        exact Zrq w2 n2 Q x (by rw [← e2]; exact h)
      | false =>
        rw [hd, cond_false] at h
        exact Zrs w3 n3 Q x (by rw [← e3]; exact h)
theorem ZeQ : Zad Tryz.prog 68 Zcj := o_of Tryz.func68 (by kernel_rfl) rfl fun ds Q h => by
  unfold Zcj at h; split at h
  · rename_i R0 p0 R1 p1 R2 p2 R3 p3
    obtain ⟨h1, h2⟩ := Zae h
    obtain ⟨a0, a1, a2, a3⟩ := ZeC h1
    refine ⟨_, ZaT (l := []) (m := [(5, Zpm R0 p0 R1 p1 R2 p2 R3 p3)]) .nil mixed (ZoH rfl (by kernel_rfl) (by kernel_rfl) (Zom a0 a1 a2 a3)) Tryz.func68 rfl rfl rfl ?_, rfl, rfl, h2⟩
    rw [ZrN]
    have key : ∀ p q : Bool, (p && q) = true → p = true := fun p q h => by simp at h; exact h.1
    simp only [amay, true_and]
    refine ⟨fun h _ => by rw [h]; rfl, fun h => ?_⟩
    rw [h]
    refine ⟨fun h _ => by rw [h]; rfl, fun h => ?_⟩
    rw [h]
    refine ⟨fun h _ => by rw [h]; rfl, fun h => ?_⟩
    rw [h]
    refine ⟨fun h _ => by rw [h]; rfl, fun h => ?_⟩
    rw [h]
    rfl
  · exact h.elim
def thr (n0 n1 n2 n3 : Nat) (lv num : Int) : Bool := bif lab lv then bif decide (num ≥ 0) then bif decide (lv = 0) then decide (num < (n0 : Int)) else bif decide (lv = 1) then decide (num < (n1 : Int)) else bif decide (lv = 2) then decide (num < (n2 : Int)) else decide (num < (n3 : Int)) else false else false
def sThr : Spec := fun ds Q => match ds with | [.c (.p 0 [.s 0 3 R0 p0, .s 0 3 R1 p1, .s 0 3 R2 p2, .s 0 3 R3 p3] 0), .c (.v (.int .i64 lv)), .c (.v (.int .i64 num))] => Q (B (thr R0.length R1.length R2.length R3.length lv num)) | _ => False
def Zd7 : Spec := fun ds Q => match ds with | [.agg [.s 0 3 R0 p0, .s 0 3 R1 p1, .s 0 3 R2 p2, .s 0 3 R3 p3], .c (.v (.int .i64 lv)), .c (.v (.int .i64 num))] => Q (B (thr R0.length R1.length R2.length R3.length lv num)) | _ => False
theorem ZkH (n0 n1 n2 n3 : Nat) (lv num : Int) (K : DV → Prop) (h : K (B (thr n0 n1 n2 n3 lv num))) : bif lab lv then bif decide (num ≥ 0) then bif decide (lv = 0) then K (B (decide (num < (n0 : Int)))) else bif decide (lv = 1) then K (B (decide (num < (n1 : Int)))) else bif decide (lv = 2) then K (B (decide (num < (n2 : Int)))) else bif decide (lv = 3) then K (B (decide (num < (n3 : Int)))) else False else K (B false) else K (B false) := by
  unfold thr at h
  cases hl : lab lv with
  | false => rw [hl] at h; exact h
  | true =>
    rw [hl] at h
    have : decide (lv = 0) = false → decide (lv = 1) = false → decide (lv = 2) = false → decide (lv = 3) = true := fun h0 h1 h2 => by
      rcases ZcR hl with rfl | rfl | rfl | rfl <;> simp_all
    cases hn : decide (num ≥ 0) <;> rw [hn] at h <;> simp only [cond_true, cond_false] at h ⊢
    · exact h
    · cases h0 : decide (lv = 0) <;> rw [h0] at h <;> simp only [cond_true, cond_false] at h ⊢
      · cases h1 : decide (lv = 1) <;> rw [h1] at h <;> simp only [cond_true, cond_false] at h ⊢
        · cases h2 : decide (lv = 2) <;> rw [h2] at h <;> simp only [cond_true, cond_false] at h ⊢
          · rw [this h0 h1 h2]; exact h
          · exact h
        · exact h
      · exact h
theorem oThr : Zad Tryz.prog 157 sThr := o_of Tryz.func157 (by kernel_rfl) rfl fun ds Q h => by
  unfold sThr at h; split at h
  · refine ⟨_, Zah (.cons oLab .nil) mixed Tryz.func157 rfl rfl rfl ?_, rfl, rfl, h⟩
    rw [eThr]
    exact ZkH _ _ _ _ _ _ (fun r => r = _) rfl
  · exact h.elim
theorem Ziu : Zad Tryz.prog 164 Zd7 := o_of Tryz.func164 (by kernel_rfl) rfl fun ds Q h => by
  unfold Zd7 at h; split at h
  · refine ⟨_, Zah (.cons Zly .nil) mixed Tryz.func164 rfl rfl rfl ?_, rfl, rfl, h⟩
    rw [ZsQ]
    exact ZkH _ _ _ _ _ _ (fun r => r = _) rfl
  · exact h.elim
end

section
open Go Go.Proofs
def selA {α : Type} (lv : Int) (a b c d : α) : α := bif decide (lv = 0) then a else bif decide (lv = 1) then b else bif decide (lv = 2) then c else d
def wrd (l : List (List Int)) (num : Int) : List Int := l.getD num.toNat []
def dW (r : List Int) : DV := .agg [vi (r.getD 0 0), vi (r.getD 1 0), vi (r.getD 2 0)]
abbrev dNil : DV := .agg [nilD, nilD, nilD, nilD]
abbrev dO (R0 R1 R2 R3 : List (List D)) : DV := .agg [.s 1 3 R0 [], .s 1 3 R1 [], .s 1 3 R2 [], .s 1 3 R3 []]
def gotA (a b c d : List (List Int)) (lv num : Int) (Q : DV → Prop) : Prop := cond (amay a b c d) (cond (thr a.length b.length c.length d.length lv num) (Q (.tup [dW (wrd (selA lv a b c d) num), I 0])) (Q (.tup [.agg [vi 0, vi 0, vi 0], I 400]))) (Q (.tup [.agg [vi 0, vi 0, vi 0], I 400]))
def sGet : Spec := fun ds Q => match ds with | [.agg [.s 0 3 R0 p0, .s 0 3 R1 p1, .s 0 3 R2 p2, .s 0 3 R3 p3], .c (.v (.int .i64 lv)), .c (.v (.int .i64 num))] => cond (okA R0 R1 R2 R3) (gotA (toZ R0) (toZ R1) (toZ R2) (toZ R3) lv num Q) False | _ => False
def okC (R : List (List D)) : Bool := allV R && decide (R.length ≤ 5864062014635)
def okC4 (R0 R1 R2 R3 : List (List D)) : Bool := okC R0 && (okC R1 && (okC R2 && okC R3))
theorem Zhv {R0 R1 R2 R3 : List (List D)} (h : okC4 R0 R1 R2 R3 = true) : (allV R0 = true ∧ R0.length ≤ 5864062014635) ∧ (allV R1 = true ∧ R1.length ≤ 5864062014635) ∧ (allV R2 = true ∧ R2.length ≤ 5864062014635) ∧ (allV R3 = true ∧ R3.length ≤ 5864062014635) := by
  simpa [okC4, okC, Bool.and_eq_true] using h
def Zb3 : Spec := fun ds Q => match ds with | [.agg [.s 0 3 R0 p0, .s 0 3 R1 p1, .s 0 3 R2 p2, .s 0 3 R3 p3]] => cond (okC4 R0 R1 R2 R3) (Q (dO R0 R1 R2 R3)) False | _ => False
theorem Zq8 (R0 p0 R1 p1 R2 p2 R3 p3 : List (List D)) (K : DV → Prop) : (ask Tryz.prog [(148, Zdl)] Tryz.f93 [dA R0 p0 R1 p1 R2 p2 R3 p3] K) = (bif allV R0 && decide (List.length R0 ≤ 5864062014635) then bif allV R1 && decide (List.length R1 ≤ 5864062014635) then bif allV R2 && decide (List.length R2 ≤ 5864062014635) then bif allV R3 && decide (List.length R3 ≤ 5864062014635) then bif decide (List.length R0 ≤ List.length (R0 ++ [])) && List.all (R0 ++ []) fun r => List.all r D.keeps then bif decide (List.length R1 ≤ List.length (R1 ++ [])) && List.all (R1 ++ []) fun r => List.all r D.keeps then bif decide (List.length R2 ≤ List.length (R2 ++ [])) && List.all (R2 ++ []) fun r => List.all r D.keeps then bif decide (List.length R3 ≤ List.length (R3 ++ [])) && List.all (R3 ++ []) fun r => List.all r D.keeps then K (DV.agg [D.s (1) (3) (List.take (List.length R0) (R0 ++ [])) (List.take (List.length R0 + 0 - List.length R0) (List.drop (List.length R0) (R0 ++ []))), D.s (1) (3) (List.take (List.length R1) (R1 ++ [])) (List.take (List.length R1 + 0 - List.length R1) (List.drop (List.length R1) (R1 ++ []))), D.s (1) (3) (List.take (List.length R2) (R2 ++ [])) (List.take (List.length R2 + 0 - List.length R2) (List.drop (List.length R2) (R2 ++ []))), D.s (1) (3) (List.take (List.length R3) (R3 ++ [])) (List.take (List.length R3 + 0 - List.length R3) (List.drop (List.length R3) (R3 ++ [])))]) else False else False else False else False else False else False else False else False) := by kernel_rfl
theorem Zse (R0 p0 R1 p1 R2 p2 R3 p3 : List (List D)) (K : DV → Prop) : (ask Tryz.prog [] Tryz.f97 [dA R0 p0 R1 p1 R2 p2 R3 p3] K) = (bif allV R0 then bif true && (decide ((0 + List.length R0) * 24 ≤ 140737488355328) && decide (0 + List.length R0 ≤ 9223372036854775807)) then bif allV R1 then bif true && (decide ((0 + List.length R1) * 24 ≤ 140737488355328) && decide (0 + List.length R1 ≤ 9223372036854775807)) then bif allV R2 then bif true && (decide ((0 + List.length R2) * 24 ≤ 140737488355328) && decide (0 + List.length R2 ≤ 9223372036854775807)) then bif allV R3 then bif true && (decide ((0 + List.length R3) * 24 ≤ 140737488355328) && decide (0 + List.length R3 ≤ 9223372036854775807)) then bif decide (0 + List.length R0 ≤ List.length ([] ++ R0)) && List.all ([] ++ R0) fun r => List.all r D.keeps then bif decide (0 + List.length R1 ≤ List.length ([] ++ R1)) && List.all ([] ++ R1) fun r => List.all r D.keeps then bif decide (0 + List.length R2 ≤ List.length ([] ++ R2)) && List.all ([] ++ R2) fun r => List.all r D.keeps then bif decide (0 + List.length R3 ≤ List.length ([] ++ R3)) && List.all ([] ++ R3) fun r => List.all r D.keeps then K (DV.agg [D.s (1) (3) (List.take (0 + List.length R0) ([] ++ R0)) (List.take (0 + List.length R0 - (0 + List.length R0)) (List.drop (0 + List.length R0) ([] ++ R0))), D.s (1) (3) (List.take (0 + List.length R1) ([] ++ R1)) (List.take (0 + List.length R1 - (0 + List.length R1)) (List.drop (0 + List.length R1) ([] ++ R1))), D.s (1) (3) (List.take (0 + List.length R2) ([] ++ R2)) (List.take (0 + List.length R2 - (0 + List.length R2)) (List.drop (0 + List.length R2) ([] ++ R2))), D.s (1) (3) (List.take (0 + List.length R3) ([] ++ R3)) (List.take (0 + List.length R3 - (0 + List.length R3)) (List.drop (0 + List.length R3) ([] ++ R3)))]) else False else False else False else False else False else False else False else False else False else False else False else False) := by kernel_rfl
theorem Zqx {R0 R1 R2 R3 : List (List D)} (h0 : allV R0 = true) (h1 : allV R1 = true) (h2 : allV R2 = true) (h3 : allV R3 = true) : (dO R0 R1 R2 R3).pureOwn = true := by
  simp [DV.pureOwn, DV.pureOwn.go, DV.pure1, D.pureOwn, ownL, ZaA h0, ZaA h1, ZaA h2, ZaA h3, Zdn]
theorem ZiB : Zad Tryz.prog 93 Zb3 := o_of Tryz.func93 (by kernel_rfl) rfl fun ds Q h => by
  unfold Zb3 at h; split at h
  · rename_i R0 p0 R1 p1 R2 p2 R3 p3
    obtain ⟨h1, h2⟩ := Zae h
    obtain ⟨⟨a0, l0⟩, ⟨a1, l1⟩, ⟨a2, l2⟩, ⟨a3, l3⟩⟩ := Zhv h1
    refine ⟨_, Zah (.cons Zjd .nil) mixed Tryz.func93 rfl rfl rfl ?_, Zqx a0 a1 a2 a3, rfl, h2⟩
    rw [Zq8]
    have g0 : R0.length * 24 ≤ 140737488355328 := by omega
    have g1 : R1.length * 24 ≤ 140737488355328 := by omega
    have g2 : R2.length * 24 ≤ 140737488355328 := by omega
    have g3 : R3.length * 24 ≤ 140737488355328 := by omega
    have k0 : R0.length ≤ 9223372036854775807 := by omega
    have k1 : R1.length ≤ 9223372036854775807 := by omega
    have k2 : R2.length ≤ 9223372036854775807 := by omega
    have k3 : R3.length ≤ 9223372036854775807 := by omega
    simp only [a0, a1, a2, a3, l0, l1, l2, l3, g0, g1, g2, g3, k0, k1, k2, k3, ZaD a0, ZaD a1, ZaD a2, ZaD a3, Nat.zero_add, Nat.add_zero, List.nil_append, List.append_nil, decide_true, Bool.and_self, Bool.true_and, cond_true, Nat.le_refl, List.take_length, List.drop_length, Nat.sub_self, List.take_nil, List.take_zero]
  · exact h.elim
theorem ZhS : Zad Tryz.prog 97 Zb3 := o_of Tryz.func97 (by kernel_rfl) rfl fun ds Q h => by
  unfold Zb3 at h; split at h
  · rename_i R0 p0 R1 p1 R2 p2 R3 p3
    obtain ⟨h1, h2⟩ := Zae h
    obtain ⟨⟨a0, l0⟩, ⟨a1, l1⟩, ⟨a2, l2⟩, ⟨a3, l3⟩⟩ := Zhv h1
    refine ⟨_, Zah (.nil) mixed Tryz.func97 rfl rfl rfl ?_, Zqx a0 a1 a2 a3, rfl, h2⟩
    rw [Zse]
    have g0 : R0.length * 24 ≤ 140737488355328 := by omega
    have g1 : R1.length * 24 ≤ 140737488355328 := by omega
    have g2 : R2.length * 24 ≤ 140737488355328 := by omega
    have g3 : R3.length * 24 ≤ 140737488355328 := by omega
    have k0 : R0.length ≤ 9223372036854775807 := by omega
    have k1 : R1.length ≤ 9223372036854775807 := by omega
    have k2 : R2.length ≤ 9223372036854775807 := by omega
    have k3 : R3.length ≤ 9223372036854775807 := by omega
    simp only [a0, a1, a2, a3, l0, l1, l2, l3, g0, g1, g2, g3, k0, k1, k2, k3, ZaD a0, ZaD a1, ZaD a2, ZaD a3, Nat.zero_add, Nat.add_zero, List.nil_append, List.append_nil, decide_true, Bool.and_self, Bool.true_and, cond_true, Nat.le_refl, List.take_length, List.drop_length, Nat.sub_self, List.take_nil, List.take_zero]
  · exact h.elim
def w3 (a b c : Int) : List D := [vi a, vi b, vi c]
theorem Zoh {R0 R1 R2 R3 : List (List D)} (h0 : okZ 3 R0 = true) (h1 : okZ 3 R1 = true) (h2 : okZ 3 R2 = true) (h3 : okZ 3 R3 = true) (n : Int) : (DV.tup [dO R0 R1 R2 R3, I n]).pureOwn = true := by
  have := Zqx (Zbg h0) (Zbg h1) (Zbg h2) (Zbg h3)
  simp [DV.pureOwn, DV.pureOwn.go, DV.pure1, D.pureOwn, ownL, ZaA (Zbg h0), ZaA (Zbg h1), ZaA (Zbg h2), ZaA (Zbg h3), Zdn]
end

section
open Go Go.Proofs
def mL (l : List (List Int)) : List (List Int) := l.map fun r => [r.getD 0 0, 0, 0]
def mW (R : List (List D)) : List (List D) := mZ (mL (toZ R))
abbrev dV (R0 p0 R1 p1 R2 p2 R3 p3 : List (List D)) : DV := .agg [.s 0 1 R0 p0, .s 0 1 R1 p1, .s 0 1 R2 p2, .s 0 1 R3 p3]
def boxL (y : X) (k j : Nat) : Nat := match (rowOf y k).getD j .non with | .rs _ _ _ _ len _ => len | _ => 0
def stQ0 (R0 p0 R1 p1 R2 p2 R3 p3 : List (List D)) (e i : Int) : X := ⟨mkT 47 [(1, .c (.rp 2 0 4 0 0)), (2, .c (.rp 3 0 4 0 0)), (3, ai e), (4, .c (.rp 5 0 4 0 0)), (5, ai 0), (6, ai i)], [(2, .bx 0 4 [.d (.s 0 1 R0 p0), .d (.s 0 1 R1 p1), .d (.s 0 1 R2 p2), .d (.s 0 1 R3 p3)]), (3, .bx 0 4 [.d nilD, .d nilD, .d nilD, .d nilD]), (5, .bx 0 4 [.d nilD, .d nilD, .d nilD, .d nilD])], [], []⟩
def stM0 (R0 p0 R1 p1 R2 p2 R3 p3 : List (List D)) (W : List (List D)) (m : Nat) (e i : Int) : X := ⟨mkT 47 [(1, .c (.rp 2 0 4 0 0)), (2, .c (.rp 3 0 4 0 0)), (3, ai e), (4, .c (.rp 5 0 4 0 0)), (5, ai 0), (6, ai i)], [(2, .bx 0 4 [.d (.s 0 1 R0 p0), .d (.s 0 1 R1 p1), .d (.s 0 1 R2 p2), .d (.s 0 1 R3 p3)]), (3, .bx 0 4 [.d nilD, .d nilD, .d nilD, .d nilD]), (5, .bx 0 4 [.rs 2000000 0 3 0 m m, .d nilD, .d nilD, .d nilD]), (2000000, .sl 0 3 W)], [], []⟩
def vM0 (R0 p0 R1 p1 R2 p2 R3 p3 : List (List D)) (y : X) : X := stM0 R0 p0 R1 p1 R2 p2 R3 p3 (Zoq y 2000000) (boxL y 5 0) (Zd6 y 3) (Zd6 y 6)
theorem eM0r (R0 p0 R1 p1 R2 p2 R3 p3 : List (List D)) (W : List (List D)) (m : Nat) (e i : Int) (N : X → Prop) (E : Exit → X → Prop) : (Zbc band bor Tryz.prog [(91, sB val8)] [] Tryz.f50 1 [1, 2, 3, 4, 5, 6] [2, 3, 5, 2000000] (vM0 R0 p0 R1 p1 R2 p2 R3 p3) (vM0 R0 p0 R1 p1 R2 p2 R3 p3) N E (stM0 R0 p0 R1 p1 R2 p2 R3 p3 W m e i)) = (bif decide (i < @Nat.cast Int _ (List.length R0)) then bif decide (i ≥ 4) then stM0 R0 p0 R1 p1 R2 p2 R3 p3 W m (400) i = stM0 R0 p0 R1 p1 R2 p2 R3 p3 W m (400) i ∧ E Exit.ret (stM0 R0 p0 R1 p1 R2 p2 R3 p3 W m (400) i) else bif decide (0 ≤ i) && decide (i < @Nat.cast Int _ (List.length R0)) then bif isJ [IntKind.i64] (List.drop (0) (List.getD R0 (Int.toNat i) [])) then bif !(decide (hdJ (List.drop (0) (List.getD R0 (Int.toNat i) [])) ≥ 0) && decide (hdJ (List.drop (0) (List.getD R0 (Int.toNat i) [])) ≤ 255)) then stM0 R0 p0 R1 p1 R2 p2 R3 p3 W m (400) i = stM0 R0 p0 R1 p1 R2 p2 R3 p3 W m (400) i ∧ E Exit.ret (stM0 R0 p0 R1 p1 R2 p2 R3 p3 W m (400) i) else bif decide (0 ≤ i) && decide (i < @Nat.cast Int _ (List.length R0)) then bif isJ [IntKind.i64] (List.drop (0) (List.getD R0 (Int.toNat i) [])) then bif decide (m ≤ List.length W) && (decide ((m + 1) * 24 ≤ 140737488355328) && decide (m + 1 ≤ 9223372036854775807)) then stM0 R0 p0 R1 p1 R2 p2 R3 p3 (List.take m W ++ [[D.v (Value.int IntKind.i64 (hdJ (List.drop (0) (List.getD R0 (Int.toNat i) [])))), D.v (Value.int IntKind.i64 (0)), D.v (Value.int IntKind.i64 (0))]]) (Nat.succ m) e (IntKind.wrap IntKind.i64 (i + 1)) = stM0 R0 p0 R1 p1 R2 p2 R3 p3 (List.take m W ++ [[D.v (Value.int IntKind.i64 (hdJ (List.drop (0) (List.getD R0 (Int.toNat i) [])))), D.v (Value.int IntKind.i64 (0)), D.v (Value.int IntKind.i64 (0))]]) (Nat.succ m) e (IntKind.wrap IntKind.i64 (i + 1)) ∧ N (stM0 R0 p0 R1 p1 R2 p2 R3 p3 (List.take m W ++ [[D.v (Value.int IntKind.i64 (hdJ (List.drop (0) (List.getD R0 (Int.toNat i) [])))), D.v (Value.int IntKind.i64 (0)), D.v (Value.int IntKind.i64 (0))]]) (Nat.succ m) e (IntKind.wrap IntKind.i64 (i + 1))) else False else False else False else False else False else stM0 R0 p0 R1 p1 R2 p2 R3 p3 W m e i = stM0 R0 p0 R1 p1 R2 p2 R3 p3 W m e i ∧ E (Exit.exit (2)) (stM0 R0 p0 R1 p1 R2 p2 R3 p3 W m e i)) := by kernel_rfl
def sM0 (R0 p0 R1 p1 R2 p2 R3 p3 : List (List D)) : LSum := fun Q x => x.only [1, 2, 3, 4, 5, 6] [2, 3, 5, 2000000] = stQ0 R0 p0 R1 p1 R2 p2 R3 p3 0 0 ∧ (Zat (toZ (mW R0)) = false → ∀ (W : List (List D)) (m : Nat) (i : Int), Q .ret (stM0 R0 p0 R1 p1 R2 p2 R3 p3 W m 400 i)) ∧ (Zat (toZ (mW R0)) = true → Q (.exit 2) (stM0 R0 p0 R1 p1 R2 p2 R3 p3 (mW R0) R0.length 0 R0.length))
def stQ1 (R0 p0 R1 p1 R2 p2 R3 p3 : List (List D)) (e i : Int) : X := ⟨mkT 47 [(1, .c (.rp 2 0 4 0 0)), (2, .c (.rp 3 0 4 0 0)), (3, ai e), (4, .c (.rp 5 0 4 0 0)), (5, ai 1), (6, ai i)], [(2, .bx 0 4 [.d (.s 0 1 R0 p0), .d (.s 0 1 R1 p1), .d (.s 0 1 R2 p2), .d (.s 0 1 R3 p3)]), (3, .bx 0 4 [.d nilD, .d nilD, .d nilD, .d nilD]), (5, .bx 0 4 [.rs 2000000 0 3 0 R0.length R0.length, .d nilD, .d nilD, .d nilD]), (2000000, .sl 0 3 (mW R0))], [], []⟩
def stM1 (R0 p0 R1 p1 R2 p2 R3 p3 : List (List D)) (W : List (List D)) (m : Nat) (e i : Int) : X := ⟨mkT 47 [(1, .c (.rp 2 0 4 0 0)), (2, .c (.rp 3 0 4 0 0)), (3, ai e), (4, .c (.rp 5 0 4 0 0)), (5, ai 1), (6, ai i)], [(2, .bx 0 4 [.d (.s 0 1 R0 p0), .d (.s 0 1 R1 p1), .d (.s 0 1 R2 p2), .d (.s 0 1 R3 p3)]), (3, .bx 0 4 [.d nilD, .d nilD, .d nilD, .d nilD]), (5, .bx 0 4 [.rs 2000000 0 3 0 R0.length R0.length, .rs 2000001 0 3 0 m m, .d nilD, .d nilD]), (2000000, .sl 0 3 (mW R0)), (2000001, .sl 0 3 W)], [], []⟩
def vM1 (R0 p0 R1 p1 R2 p2 R3 p3 : List (List D)) (y : X) : X := stM1 R0 p0 R1 p1 R2 p2 R3 p3 (Zoq y 2000001) (boxL y 5 1) (Zd6 y 3) (Zd6 y 6)
theorem eM1r (R0 p0 R1 p1 R2 p2 R3 p3 : List (List D)) (W : List (List D)) (m : Nat) (e i : Int) (N : X → Prop) (E : Exit → X → Prop) : (Zbc band bor Tryz.prog [(91, sB val8)] [] Tryz.f50 1 [1, 2, 3, 4, 5, 6] [2, 3, 5, 2000000, 2000001] (vM1 R0 p0 R1 p1 R2 p2 R3 p3) (vM1 R0 p0 R1 p1 R2 p2 R3 p3) N E (stM1 R0 p0 R1 p1 R2 p2 R3 p3 W m e i)) = (bif decide (i < @Nat.cast Int _ (List.length R1)) then bif decide (i ≥ 4) then stM1 R0 p0 R1 p1 R2 p2 R3 p3 W m (400) i = stM1 R0 p0 R1 p1 R2 p2 R3 p3 W m (400) i ∧ E Exit.ret (stM1 R0 p0 R1 p1 R2 p2 R3 p3 W m (400) i) else bif decide (0 ≤ i) && decide (i < @Nat.cast Int _ (List.length R1)) then bif isJ [IntKind.i64] (List.drop (0) (List.getD R1 (Int.toNat i) [])) then bif !(decide (hdJ (List.drop (0) (List.getD R1 (Int.toNat i) [])) ≥ 0) && decide (hdJ (List.drop (0) (List.getD R1 (Int.toNat i) [])) ≤ 255)) then stM1 R0 p0 R1 p1 R2 p2 R3 p3 W m (400) i = stM1 R0 p0 R1 p1 R2 p2 R3 p3 W m (400) i ∧ E Exit.ret (stM1 R0 p0 R1 p1 R2 p2 R3 p3 W m (400) i) else bif decide (0 ≤ i) && decide (i < @Nat.cast Int _ (List.length R1)) then bif isJ [IntKind.i64] (List.drop (0) (List.getD R1 (Int.toNat i) [])) then bif decide (m ≤ List.length W) && (decide ((m + 1) * 24 ≤ 140737488355328) && decide (m + 1 ≤ 9223372036854775807)) then stM1 R0 p0 R1 p1 R2 p2 R3 p3 (List.take m W ++ [[D.v (Value.int IntKind.i64 (hdJ (List.drop (0) (List.getD R1 (Int.toNat i) [])))), D.v (Value.int IntKind.i64 (0)), D.v (Value.int IntKind.i64 (0))]]) (Nat.succ m) e (IntKind.wrap IntKind.i64 (i + 1)) = stM1 R0 p0 R1 p1 R2 p2 R3 p3 (List.take m W ++ [[D.v (Value.int IntKind.i64 (hdJ (List.drop (0) (List.getD R1 (Int.toNat i) [])))), D.v (Value.int IntKind.i64 (0)), D.v (Value.int IntKind.i64 (0))]]) (Nat.succ m) e (IntKind.wrap IntKind.i64 (i + 1)) ∧ N (stM1 R0 p0 R1 p1 R2 p2 R3 p3 (List.take m W ++ [[D.v (Value.int IntKind.i64 (hdJ (List.drop (0) (List.getD R1 (Int.toNat i) [])))), D.v (Value.int IntKind.i64 (0)), D.v (Value.int IntKind.i64 (0))]]) (Nat.succ m) e (IntKind.wrap IntKind.i64 (i + 1))) else False else False else False else False else False else stM1 R0 p0 R1 p1 R2 p2 R3 p3 W m e i = stM1 R0 p0 R1 p1 R2 p2 R3 p3 W m e i ∧ E (Exit.exit (2)) (stM1 R0 p0 R1 p1 R2 p2 R3 p3 W m e i)) := by kernel_rfl
def sM1 (R0 p0 R1 p1 R2 p2 R3 p3 : List (List D)) : LSum := fun Q x => x.only [1, 2, 3, 4, 5, 6] [2, 3, 5, 2000000, 2000001] = stQ1 R0 p0 R1 p1 R2 p2 R3 p3 0 0 ∧ (Zat (toZ (mW R1)) = false → ∀ (W : List (List D)) (m : Nat) (i : Int), Q .ret (stM1 R0 p0 R1 p1 R2 p2 R3 p3 W m 400 i)) ∧ (Zat (toZ (mW R1)) = true → Q (.exit 2) (stM1 R0 p0 R1 p1 R2 p2 R3 p3 (mW R1) R1.length 0 R1.length))
def stQ2 (R0 p0 R1 p1 R2 p2 R3 p3 : List (List D)) (e i : Int) : X := ⟨mkT 47 [(1, .c (.rp 2 0 4 0 0)), (2, .c (.rp 3 0 4 0 0)), (3, ai e), (4, .c (.rp 5 0 4 0 0)), (5, ai 2), (6, ai i)], [(2, .bx 0 4 [.d (.s 0 1 R0 p0), .d (.s 0 1 R1 p1), .d (.s 0 1 R2 p2), .d (.s 0 1 R3 p3)]), (3, .bx 0 4 [.d nilD, .d nilD, .d nilD, .d nilD]), (5, .bx 0 4 [.rs 2000000 0 3 0 R0.length R0.length, .rs 2000001 0 3 0 R1.length R1.length, .d nilD, .d nilD]), (2000000, .sl 0 3 (mW R0)), (2000001, .sl 0 3 (mW R1))], [], []⟩
def stM2 (R0 p0 R1 p1 R2 p2 R3 p3 : List (List D)) (W : List (List D)) (m : Nat) (e i : Int) : X := ⟨mkT 47 [(1, .c (.rp 2 0 4 0 0)), (2, .c (.rp 3 0 4 0 0)), (3, ai e), (4, .c (.rp 5 0 4 0 0)), (5, ai 2), (6, ai i)], [(2, .bx 0 4 [.d (.s 0 1 R0 p0), .d (.s 0 1 R1 p1), .d (.s 0 1 R2 p2), .d (.s 0 1 R3 p3)]), (3, .bx 0 4 [.d nilD, .d nilD, .d nilD, .d nilD]), (5, .bx 0 4 [.rs 2000000 0 3 0 R0.length R0.length, .rs 2000001 0 3 0 R1.length R1.length, .rs 2000002 0 3 0 m m, .d nilD]), (2000000, .sl 0 3 (mW R0)), (2000001, .sl 0 3 (mW R1)), (2000002, .sl 0 3 W)], [], []⟩
def vM2 (R0 p0 R1 p1 R2 p2 R3 p3 : List (List D)) (y : X) : X := stM2 R0 p0 R1 p1 R2 p2 R3 p3 (Zoq y 2000002) (boxL y 5 2) (Zd6 y 3) (Zd6 y 6)
theorem eM2r (R0 p0 R1 p1 R2 p2 R3 p3 : List (List D)) (W : List (List D)) (m : Nat) (e i : Int) (N : X → Prop) (E : Exit → X → Prop) : (Zbc band bor Tryz.prog [(91, sB val8)] [] Tryz.f50 1 [1, 2, 3, 4, 5, 6] [2, 3, 5, 2000000, 2000001, 2000002] (vM2 R0 p0 R1 p1 R2 p2 R3 p3) (vM2 R0 p0 R1 p1 R2 p2 R3 p3) N E (stM2 R0 p0 R1 p1 R2 p2 R3 p3 W m e i)) = (bif decide (i < @Nat.cast Int _ (List.length R2)) then bif decide (i ≥ 4) then stM2 R0 p0 R1 p1 R2 p2 R3 p3 W m (400) i = stM2 R0 p0 R1 p1 R2 p2 R3 p3 W m (400) i ∧ E Exit.ret (stM2 R0 p0 R1 p1 R2 p2 R3 p3 W m (400) i) else bif decide (0 ≤ i) && decide (i < @Nat.cast Int _ (List.length R2)) then bif isJ [IntKind.i64] (List.drop (0) (List.getD R2 (Int.toNat i) [])) then bif !(decide (hdJ (List.drop (0) (List.getD R2 (Int.toNat i) [])) ≥ 0) && decide (hdJ (List.drop (0) (List.getD R2 (Int.toNat i) [])) ≤ 255)) then stM2 R0 p0 R1 p1 R2 p2 R3 p3 W m (400) i = stM2 R0 p0 R1 p1 R2 p2 R3 p3 W m (400) i ∧ E Exit.ret (stM2 R0 p0 R1 p1 R2 p2 R3 p3 W m (400) i) else bif decide (0 ≤ i) && decide (i < @Nat.cast Int _ (List.length R2)) then bif isJ [IntKind.i64] (List.drop (0) (List.getD R2 (Int.toNat i) [])) then bif decide (m ≤ List.length W) && (decide ((m + 1) * 24 ≤ 140737488355328) && decide (m + 1 ≤ 9223372036854775807)) then stM2 R0 p0 R1 p1 R2 p2 R3 p3 (List.take m W ++ [[D.v (Value.int IntKind.i64 (hdJ (List.drop (0) (List.getD R2 (Int.toNat i) [])))), D.v (Value.int IntKind.i64 (0)), D.v (Value.int IntKind.i64 (0))]]) (Nat.succ m) e (IntKind.wrap IntKind.i64 (i + 1)) = stM2 R0 p0 R1 p1 R2 p2 R3 p3 (List.take m W ++ [[D.v (Value.int IntKind.i64 (hdJ (List.drop (0) (List.getD R2 (Int.toNat i) [])))), D.v (Value.int IntKind.i64 (0)), D.v (Value.int IntKind.i64 (0))]]) (Nat.succ m) e (IntKind.wrap IntKind.i64 (i + 1)) ∧ N (stM2 R0 p0 R1 p1 R2 p2 R3 p3 (List.take m W ++ [[D.v (Value.int IntKind.i64 (hdJ (List.drop (0) (List.getD R2 (Int.toNat i) [])))), D.v (Value.int IntKind.i64 (0)), D.v (Value.int IntKind.i64 (0))]]) (Nat.succ m) e (IntKind.wrap IntKind.i64 (i + 1))) else False else False else False else False else False else stM2 R0 p0 R1 p1 R2 p2 R3 p3 W m e i = stM2 R0 p0 R1 p1 R2 p2 R3 p3 W m e i ∧ E (Exit.exit (2)) (stM2 R0 p0 R1 p1 R2 p2 R3 p3 W m e i)) := by kernel_rfl
def sM2 (R0 p0 R1 p1 R2 p2 R3 p3 : List (List D)) : LSum := fun Q x => x.only [1, 2, 3, 4, 5, 6] [2, 3, 5, 2000000, 2000001, 2000002] = stQ2 R0 p0 R1 p1 R2 p2 R3 p3 0 0 ∧ (Zat (toZ (mW R2)) = false → ∀ (W : List (List D)) (m : Nat) (i : Int), Q .ret (stM2 R0 p0 R1 p1 R2 p2 R3 p3 W m 400 i)) ∧ (Zat (toZ (mW R2)) = true → Q (.exit 2) (stM2 R0 p0 R1 p1 R2 p2 R3 p3 (mW R2) R2.length 0 R2.length))
def stQ3 (R0 p0 R1 p1 R2 p2 R3 p3 : List (List D)) (e i : Int) : X := ⟨mkT 47 [(1, .c (.rp 2 0 4 0 0)), (2, .c (.rp 3 0 4 0 0)), (3, ai e), (4, .c (.rp 5 0 4 0 0)), (5, ai 3), (6, ai i)], [(2, .bx 0 4 [.d (.s 0 1 R0 p0), .d (.s 0 1 R1 p1), .d (.s 0 1 R2 p2), .d (.s 0 1 R3 p3)]), (3, .bx 0 4 [.d nilD, .d nilD, .d nilD, .d nilD]), (5, .bx 0 4 [.rs 2000000 0 3 0 R0.length R0.length, .rs 2000001 0 3 0 R1.length R1.length, .rs 2000002 0 3 0 R2.length R2.length, .d nilD]), (2000000, .sl 0 3 (mW R0)), (2000001, .sl 0 3 (mW R1)), (2000002, .sl 0 3 (mW R2))], [], []⟩
def stM3 (R0 p0 R1 p1 R2 p2 R3 p3 : List (List D)) (W : List (List D)) (m : Nat) (e i : Int) : X := ⟨mkT 47 [(1, .c (.rp 2 0 4 0 0)), (2, .c (.rp 3 0 4 0 0)), (3, ai e), (4, .c (.rp 5 0 4 0 0)), (5, ai 3), (6, ai i)], [(2, .bx 0 4 [.d (.s 0 1 R0 p0), .d (.s 0 1 R1 p1), .d (.s 0 1 R2 p2), .d (.s 0 1 R3 p3)]), (3, .bx 0 4 [.d nilD, .d nilD, .d nilD, .d nilD]), (5, .bx 0 4 [.rs 2000000 0 3 0 R0.length R0.length, .rs 2000001 0 3 0 R1.length R1.length, .rs 2000002 0 3 0 R2.length R2.length, .rs 2000003 0 3 0 m m]), (2000000, .sl 0 3 (mW R0)), (2000001, .sl 0 3 (mW R1)), (2000002, .sl 0 3 (mW R2)), (2000003, .sl 0 3 W)], [], []⟩
def vM3 (R0 p0 R1 p1 R2 p2 R3 p3 : List (List D)) (y : X) : X := stM3 R0 p0 R1 p1 R2 p2 R3 p3 (Zoq y 2000003) (boxL y 5 3) (Zd6 y 3) (Zd6 y 6)
theorem eM3r (R0 p0 R1 p1 R2 p2 R3 p3 : List (List D)) (W : List (List D)) (m : Nat) (e i : Int) (N : X → Prop) (E : Exit → X → Prop) : (Zbc band bor Tryz.prog [(91, sB val8)] [] Tryz.f50 1 [1, 2, 3, 4, 5, 6] [2, 3, 5, 2000000, 2000001, 2000002, 2000003] (vM3 R0 p0 R1 p1 R2 p2 R3 p3) (vM3 R0 p0 R1 p1 R2 p2 R3 p3) N E (stM3 R0 p0 R1 p1 R2 p2 R3 p3 W m e i)) = (bif decide (i < @Nat.cast Int _ (List.length R3)) then bif decide (i ≥ 4) then stM3 R0 p0 R1 p1 R2 p2 R3 p3 W m (400) i = stM3 R0 p0 R1 p1 R2 p2 R3 p3 W m (400) i ∧ E Exit.ret (stM3 R0 p0 R1 p1 R2 p2 R3 p3 W m (400) i) else bif decide (0 ≤ i) && decide (i < @Nat.cast Int _ (List.length R3)) then bif isJ [IntKind.i64] (List.drop (0) (List.getD R3 (Int.toNat i) [])) then bif !(decide (hdJ (List.drop (0) (List.getD R3 (Int.toNat i) [])) ≥ 0) && decide (hdJ (List.drop (0) (List.getD R3 (Int.toNat i) [])) ≤ 255)) then stM3 R0 p0 R1 p1 R2 p2 R3 p3 W m (400) i = stM3 R0 p0 R1 p1 R2 p2 R3 p3 W m (400) i ∧ E Exit.ret (stM3 R0 p0 R1 p1 R2 p2 R3 p3 W m (400) i) else bif decide (0 ≤ i) && decide (i < @Nat.cast Int _ (List.length R3)) then bif isJ [IntKind.i64] (List.drop (0) (List.getD R3 (Int.toNat i) [])) then bif decide (m ≤ List.length W) && (decide ((m + 1) * 24 ≤ 140737488355328) && decide (m + 1 ≤ 9223372036854775807)) then stM3 R0 p0 R1 p1 R2 p2 R3 p3 (List.take m W ++ [[D.v (Value.int IntKind.i64 (hdJ (List.drop (0) (List.getD R3 (Int.toNat i) [])))), D.v (Value.int IntKind.i64 (0)), D.v (Value.int IntKind.i64 (0))]]) (Nat.succ m) e (IntKind.wrap IntKind.i64 (i + 1)) = stM3 R0 p0 R1 p1 R2 p2 R3 p3 (List.take m W ++ [[D.v (Value.int IntKind.i64 (hdJ (List.drop (0) (List.getD R3 (Int.toNat i) [])))), D.v (Value.int IntKind.i64 (0)), D.v (Value.int IntKind.i64 (0))]]) (Nat.succ m) e (IntKind.wrap IntKind.i64 (i + 1)) ∧ N (stM3 R0 p0 R1 p1 R2 p2 R3 p3 (List.take m W ++ [[D.v (Value.int IntKind.i64 (hdJ (List.drop (0) (List.getD R3 (Int.toNat i) [])))), D.v (Value.int IntKind.i64 (0)), D.v (Value.int IntKind.i64 (0))]]) (Nat.succ m) e (IntKind.wrap IntKind.i64 (i + 1))) else False else False else False else False else False else stM3 R0 p0 R1 p1 R2 p2 R3 p3 W m e i = stM3 R0 p0 R1 p1 R2 p2 R3 p3 W m e i ∧ E (Exit.exit (2)) (stM3 R0 p0 R1 p1 R2 p2 R3 p3 W m e i)) := by kernel_rfl
def sM3 (R0 p0 R1 p1 R2 p2 R3 p3 : List (List D)) : LSum := fun Q x => x.only [1, 2, 3, 4, 5, 6] [2, 3, 5, 2000000, 2000001, 2000002, 2000003] = stQ3 R0 p0 R1 p1 R2 p2 R3 p3 0 0 ∧ (Zat (toZ (mW R3)) = false → ∀ (W : List (List D)) (m : Nat) (i : Int), Q .ret (stM3 R0 p0 R1 p1 R2 p2 R3 p3 W m 400 i)) ∧ (Zat (toZ (mW R3)) = true → Q (.exit 2) (stM3 R0 p0 R1 p1 R2 p2 R3 p3 (mW R3) R3.length 0 R3.length))
def Zft (R0 p0 R1 p1 R2 p2 R3 p3 : List (List D)) : LSum := fun Q x => ZnE x 5 fun g =>
  cond (decide (g = 0)) (sM0 R0 p0 R1 p1 R2 p2 R3 p3 Q x) (cond (decide (g = 1)) (sM1 R0 p0 R1 p1 R2 p2 R3 p3 Q x) (cond (decide (g = 2)) (sM2 R0 p0 R1 p1 R2 p2 R3 p3 Q x) (sM3 R0 p0 R1 p1 R2 p2 R3 p3 Q x)))
theorem ZrO (R0 p0 R1 p1 R2 p2 R3 p3 : List (List D)) (K : DV → Prop) : (askL Tryz.prog [(91, sB val8)] [(6, Zft R0 p0 R1 p1 R2 p2 R3 p3)] Tryz.f50 [dV R0 p0 R1 p1 R2 p2 R3 p3] K) = (stQ0 R0 p0 R1 p1 R2 p2 R3 p3 (0) (0) = stQ0 R0 p0 R1 p1 R2 p2 R3 p3 (0) (0) ∧ (Zat (toZ (mW R0)) = false → ∀ (W : List (List D)) (m : Nat) (i : Int), K (DV.tup [DV.agg [D.v (Value.slice none (0) (0)), D.v (Value.slice none (0) (0)), D.v (Value.slice none (0) (0)), D.v (Value.slice none (0) (0))], DV.c (D.v (Value.int IntKind.i64 (400)))])) ∧ (Zat (toZ (mW R0)) = true → stQ1 R0 p0 R1 p1 R2 p2 R3 p3 (0) (0) = stQ1 R0 p0 R1 p1 R2 p2 R3 p3 (0) (0) ∧ (Zat (toZ (mW R1)) = false → ∀ (W : List (List D)) (m : Nat) (i : Int), K (DV.tup [DV.agg [D.v (Value.slice none (0) (0)), D.v (Value.slice none (0) (0)), D.v (Value.slice none (0) (0)), D.v (Value.slice none (0) (0))], DV.c (D.v (Value.int IntKind.i64 (400)))])) ∧ (Zat (toZ (mW R1)) = true → stQ2 R0 p0 R1 p1 R2 p2 R3 p3 (0) (0) = stQ2 R0 p0 R1 p1 R2 p2 R3 p3 (0) (0) ∧ (Zat (toZ (mW R2)) = false → ∀ (W : List (List D)) (m : Nat) (i : Int), K (DV.tup [DV.agg [D.v (Value.slice none (0) (0)), D.v (Value.slice none (0) (0)), D.v (Value.slice none (0) (0)), D.v (Value.slice none (0) (0))], DV.c (D.v (Value.int IntKind.i64 (400)))])) ∧ (Zat (toZ (mW R2)) = true → stQ3 R0 p0 R1 p1 R2 p2 R3 p3 (0) (0) = stQ3 R0 p0 R1 p1 R2 p2 R3 p3 (0) (0) ∧ (Zat (toZ (mW R3)) = false → ∀ (W : List (List D)) (m : Nat) (i : Int), K (DV.tup [DV.agg [D.v (Value.slice none (0) (0)), D.v (Value.slice none (0) (0)), D.v (Value.slice none (0) (0)), D.v (Value.slice none (0) (0))], DV.c (D.v (Value.int IntKind.i64 (400)))])) ∧ (Zat (toZ (mW R3)) = true → bif decide (List.length R0 ≤ List.length (mW R0)) && List.all (mW R0) fun r => List.all r D.keeps then bif decide (List.length R1 ≤ List.length (mW R1)) && List.all (mW R1) fun r => List.all r D.keeps then bif decide (List.length R2 ≤ List.length (mW R2)) && List.all (mW R2) fun r => List.all r D.keeps then bif decide (List.length R3 ≤ List.length (mW R3)) && List.all (mW R3) fun r => List.all r D.keeps then K (DV.tup [DV.agg [D.s (1) (3) (List.take (List.length R0) (mW R0)) (List.take (List.length R0 - List.length R0) (List.drop (List.length R0) (mW R0))), D.s (1) (3) (List.take (List.length R1) (mW R1)) (List.take (List.length R1 - List.length R1) (List.drop (List.length R1) (mW R1))), D.s (1) (3) (List.take (List.length R2) (mW R2)) (List.take (List.length R2 - List.length R2) (List.drop (List.length R2) (mW R2))), D.s (1) (3) (List.take (List.length R3) (mW R3)) (List.take (List.length R3 - List.length R3) (List.drop (List.length R3) (mW R3)))], DV.c (D.v (Value.int IntKind.i64 (0)))]) else False else False else False else False))))) := by kernel_rfl
theorem Za2 (l : List (List Int)) : (mL l).length = l.length := by simp [mL]
theorem Zo4 (R : List (List D)) : (mW R).length = R.length := by simp [mW, Zaf, Za2, Zav]
theorem Zht (l : List (List Int)) {i : Nat} (hi : i < l.length) : List.take i (mZ (mL (l.take i))) ++ [[D.v (Value.int IntKind.i64 ((l.getD i []).getD 0 0)), D.v (Value.int IntKind.i64 0), D.v (Value.int IntKind.i64 0)]] = mZ (mL (l.take (i + 1))) := by
  rw [List.take_of_length_le (by rw [Zaf, Za2, List.length_take]; omega)]
  have : l.take (i + 1) = l.take i ++ [l.getD i []] := by
    rw [List.take_add_one, List.getD_eq_getElem?_getD]
    congr 1
    rw [List.getElem?_eq_getElem hi]; rfl
  rw [this]
  simp [mZ, mL]
theorem Zkk (l : List (List Int)) {i : Nat} (hi : i < l.length) : (mL l).getD i [] = [(l.getD i []).getD 0 0, 0, 0] := by
  simp [mL, List.getD_eq_getElem?_getD, hi]
theorem Zhg (v : Int) : Zbh [v, 0, 0] = val8 v := by
  have h1 : clk 0 = true := rfl
  have h2 : upto 0 0 255 = true := rfl
  simp [Zbh, wmay, h1, h2]
theorem ZrQ (l : List (List Int)) : wid 3 (mL l) := fun r hr => by
  obtain ⟨r0, _, rfl⟩ := List.mem_map.1 hr
  rfl
theorem ZcA (R : List (List D)) : toZ (mW R) = mL (toZ R) := Zc5 _
theorem Zj3 {R : List (List D)} (h : okZ 1 R = true) : okZ 3 (mW R) = true := Zkp (ZrQ _) (by rw [Za2, Zav]; exact (Zai h).2.2)
theorem ZsA {R0 p0 R1 p1 R2 p2 R3 p3 : List (List D)} (hR : okZ 1 R0 = true) (hn : R0.length ≤ 5864062014635) (Q : Exit → X → Prop) (x : X) (h : sM0 R0 p0 R1 p1 R2 p2 R3 p3 Q x) : XWP Tryz.prog (.loop (Zap Tryz.f50 1)) Q x := by
  obtain ⟨h1, h2, h3⟩ := h
  obtain ⟨el, hw, _⟩ := Zai hR
  have hl' : (toZ R0).length = R0.length := Zav _
  refine ZcY [1, 2, 3, 4, 5, 6] [2, 3, 5, 2000000] (Zdu [1, 2, 3, 4, 5, 6] [2, 3, 5, 2000000] ?_)
  rw [h1]
  refine ZeK (kb := 5) (j := 0) (kn := 2000000) (wd := 3) rfl ?_
  refine ZaR (ι := Nat) (H := hkA band bor [(91, sB val8)] []) (fn := Tryz.f50) (i := 1) (ts := [1, 2, 3, 4, 5, 6]) (ks := [2, 3, 5, 2000000]) (ZaF (.cons Zfc .nil)) mixed (Zag rfl)
    (fun i => stM0 R0 p0 R1 p1 R2 p2 R3 p3 (mZ (mL ((toZ R0).take i))) i 0 i) (fun i => i ≤ R0.length ∧ i ≤ 4 ∧ ∀ j, j < i → Zbh ((mL (toZ R0)).getD j []) = true) (fun i => R0.length - i) 0 (vM0 R0 p0 R1 p1 R2 p2 R3 p3) (vM0 R0 p0 R1 p1 R2 p2 R3 p3) (fun i hp => ?_) ⟨Nat.zero_le _, Nat.zero_le _, fun j hj => by omega⟩ (by kernel_rfl)
  obtain ⟨hi, h4, hj⟩ := hp
  show Zbc band bor Tryz.prog _ _ Tryz.f50 1 _ _ _ _ _ _ _
  rw [eM0r]
  by_cases hl : i < R0.length
  · by_cases h4' : i = 4
    · have e4 : decide ((i : Int) ≥ 4) = true := by simp; omega
      simp only [Int.ofNat_lt, hl, decide_true, cond_true, e4, true_and]
      exact h2 (by rw [ZcA]; exact Za3 (by rw [Za2]; omega)) _ _ _
    · have e4 : decide ((i : Int) ≥ 4) = false := by simp; omega
      have wi : IntKind.wrap .i64 ((i : Int) + 1) = ((i + 1 : Nat) : Int) := Zas (n := 1) (by omega)
      have hll : i < (toZ R0).length := by omega
      have hj1 : isJ [IntKind.i64] ((R0).getD i []) = true := by
        rw [el]; exact Zau (j := 0) (n := 1) hw hll (by omega)
      have hv : hdJ (R0.getD i []) = ((toZ R0).getD i []).getD 0 0 := by
        rw [show R0.getD i [] = (mZ (toZ R0)).getD i [] by rw [← el], ZaB]
      have hlen : (mZ (mL ((toZ R0).take i))).length = i := by rw [Zaf, Za2, List.length_take]; omega
      have b1 : (i + 1) * 24 ≤ 140737488355328 := by omega
      have b2 : i + 1 ≤ 9223372036854775807 := by omega
      simp only [Int.ofNat_lt, hl, decide_true, cond_true, cond_false, e4, Int.natCast_nonneg, Bool.and_self, Int.toNat_natCast, hj1, List.drop_zero, hv, true_and, wi, hlen, b1, b2, Nat.le_refl, Zht _ hll]
      have eo : Zbh ((mL (toZ R0)).getD i []) = (decide (((toZ R0).getD i []).getD 0 0 ≥ 0) && decide (((toZ R0).getD i []).getD 0 0 ≤ 255)) := by
        rw [Zkk _ hll, Zhg]; rfl
      rw [← eo]
      cases ho : Zbh ((mL (toZ R0)).getD i []) with
      | false =>
        exact h2 (by rw [ZcA]; exact ZaS (by rw [Za2]; exact hll) ho) _ _ _
      | true =>
        refine ⟨i + 1, by omega, ⟨hl, by omega, fun j hji => ?_⟩, rfl⟩
        rcases Nat.lt_succ_iff_lt_or_eq.1 hji with hji | rfl
        · exact hj j hji
        · exact ho
  · have e : i = R0.length := by omega
    subst e
    simp only [Int.ofNat_lt, Nat.lt_irrefl, decide_false, cond_false, true_and]
    rw [List.take_of_length_le (by omega)]
    exact h3 (by rw [ZcA]; exact Zbm (by rw [Za2]; omega) (fun j hj' => hj j (by rw [Za2] at hj'; omega)))
theorem ZtF {R0 p0 R1 p1 R2 p2 R3 p3 : List (List D)} (hR : okZ 1 R1 = true) (hn : R1.length ≤ 5864062014635) (Q : Exit → X → Prop) (x : X) (h : sM1 R0 p0 R1 p1 R2 p2 R3 p3 Q x) : XWP Tryz.prog (.loop (Zap Tryz.f50 1)) Q x := by
  obtain ⟨h1, h2, h3⟩ := h
  obtain ⟨el, hw, _⟩ := Zai hR
  have hl' : (toZ R1).length = R1.length := Zav _
  refine ZcY [1, 2, 3, 4, 5, 6] [2, 3, 5, 2000000, 2000001] (Zdu [1, 2, 3, 4, 5, 6] [2, 3, 5, 2000000, 2000001] ?_)
  rw [h1]
  refine ZeK (kb := 5) (j := 1) (kn := 2000001) (wd := 3) rfl ?_
  refine ZaR (ι := Nat) (H := hkA band bor [(91, sB val8)] []) (fn := Tryz.f50) (i := 1) (ts := [1, 2, 3, 4, 5, 6]) (ks := [2, 3, 5, 2000000, 2000001]) (ZaF (.cons Zfc .nil)) mixed (Zag rfl)
    (fun i => stM1 R0 p0 R1 p1 R2 p2 R3 p3 (mZ (mL ((toZ R1).take i))) i 0 i) (fun i => i ≤ R1.length ∧ i ≤ 4 ∧ ∀ j, j < i → Zbh ((mL (toZ R1)).getD j []) = true) (fun i => R1.length - i) 0 (vM1 R0 p0 R1 p1 R2 p2 R3 p3) (vM1 R0 p0 R1 p1 R2 p2 R3 p3) (fun i hp => ?_) ⟨Nat.zero_le _, Nat.zero_le _, fun j hj => by omega⟩ (by kernel_rfl)
  obtain ⟨hi, h4, hj⟩ := hp
  show Zbc band bor Tryz.prog _ _ Tryz.f50 1 _ _ _ _ _ _ _
  rw [eM1r]
  by_cases hl : i < R1.length
  · by_cases h4' : i = 4
    · have e4 : decide ((i : Int) ≥ 4) = true := by simp; omega
      simp only [Int.ofNat_lt, hl, decide_true, cond_true, e4, true_and]
      exact h2 (by rw [ZcA]; exact Za3 (by rw [Za2]; omega)) _ _ _
    · have e4 : decide ((i : Int) ≥ 4) = false := by simp; omega
      have wi : IntKind.wrap .i64 ((i : Int) + 1) = ((i + 1 : Nat) : Int) := Zas (n := 1) (by omega)
      have hll : i < (toZ R1).length := by omega
      have hj1 : isJ [IntKind.i64] ((R1).getD i []) = true := by
        rw [el]; exact Zau (j := 0) (n := 1) hw hll (by omega)
      have hv : hdJ (R1.getD i []) = ((toZ R1).getD i []).getD 0 0 := by
        rw [show R1.getD i [] = (mZ (toZ R1)).getD i [] by rw [← el], ZaB]
      have hlen : (mZ (mL ((toZ R1).take i))).length = i := by rw [Zaf, Za2, List.length_take]; omega
      have b1 : (i + 1) * 24 ≤ 140737488355328 := by omega
      have b2 : i + 1 ≤ 9223372036854775807 := by omega
      simp only [Int.ofNat_lt, hl, decide_true, cond_true, cond_false, e4, Int.natCast_nonneg, Bool.and_self, Int.toNat_natCast, hj1, List.drop_zero, hv, true_and, wi, hlen, b1, b2, Nat.le_refl, Zht _ hll]
      have eo : Zbh ((mL (toZ R1)).getD i []) = (decide (((toZ R1).getD i []).getD 0 0 ≥ 0) && decide (((toZ R1).getD i []).getD 0 0 ≤ 255)) := by
        rw [Zkk _ hll, Zhg]; rfl
      rw [← eo]
      cases ho : Zbh ((mL (toZ R1)).getD i []) with
      | false =>
        exact h2 (by rw [ZcA]; exact ZaS (by rw [Za2]; exact hll) ho) _ _ _
      | true =>
        refine ⟨i + 1, by omega, ⟨hl, by omega, fun j hji => ?_⟩, rfl⟩
        rcases Nat.lt_succ_iff_lt_or_eq.1 hji with hji | rfl
        · exact hj j hji
        · exact ho
  · have e : i = R1.length := by omega
    subst e
    simp only [Int.ofNat_lt, Nat.lt_irrefl, decide_false, cond_false, true_and]
    rw [List.take_of_length_le (by omega)]
    exact h3 (by rw [ZcA]; exact Zbm (by rw [Za2]; omega) (fun j hj' => hj j (by rw [Za2] at hj'; omega)))
theorem Zsv {R0 p0 R1 p1 R2 p2 R3 p3 : List (List D)} (hR : okZ 1 R2 = true) (hn : R2.length ≤ 5864062014635) (Q : Exit → X → Prop) (x : X) (h : sM2 R0 p0 R1 p1 R2 p2 R3 p3 Q x) : XWP Tryz.prog (.loop (Zap Tryz.f50 1)) Q x := by
  obtain ⟨h1, h2, h3⟩ := h
  obtain ⟨el, hw, _⟩ := Zai hR
  have hl' : (toZ R2).length = R2.length := Zav _
  refine ZcY [1, 2, 3, 4, 5, 6] [2, 3, 5, 2000000, 2000001, 2000002] (Zdu [1, 2, 3, 4, 5, 6] [2, 3, 5, 2000000, 2000001, 2000002] ?_)
  rw [h1]
  refine ZeK (kb := 5) (j := 2) (kn := 2000002) (wd := 3) rfl ?_
  refine ZaR (ι := Nat) (H := hkA band bor [(91, sB val8)] []) (fn := Tryz.f50) (i := 1) (ts := [1, 2, 3, 4, 5, 6]) (ks := [2, 3, 5, 2000000, 2000001, 2000002]) (ZaF (.cons Zfc .nil)) mixed (Zag rfl)
    (fun i => stM2 R0 p0 R1 p1 R2 p2 R3 p3 (mZ (mL ((toZ R2).take i))) i 0 i) (fun i => i ≤ R2.length ∧ i ≤ 4 ∧ ∀ j, j < i → Zbh ((mL (toZ R2)).getD j []) = true) (fun i => R2.length - i) 0 (vM2 R0 p0 R1 p1 R2 p2 R3 p3) (vM2 R0 p0 R1 p1 R2 p2 R3 p3) (fun i hp => ?_) ⟨Nat.zero_le _, Nat.zero_le _, fun j hj => by omega⟩ (by kernel_rfl)
  obtain ⟨hi, h4, hj⟩ := hp
  show Zbc band bor Tryz.prog _ _ Tryz.f50 1 _ _ _ _ _ _ _
  rw [eM2r]
  by_cases hl : i < R2.length
  · by_cases h4' : i = 4
    · have e4 : decide ((i : Int) ≥ 4) = true := by simp; omega
      simp only [Int.ofNat_lt, hl, decide_true, cond_true, e4, true_and]
      exact h2 (by rw [ZcA]; exact Za3 (by rw [Za2]; omega)) _ _ _
    · have e4 : decide ((i : Int) ≥ 4) = false := by simp; omega
      have wi : IntKind.wrap .i64 ((i : Int) + 1) = ((i + 1 : Nat) : Int) := Zas (n := 1) (by omega)
      have hll : i < (toZ R2).length := by omega
      have hj1 : isJ [IntKind.i64] ((R2).getD i []) = true := by
        rw [el]; exact Zau (j := 0) (n := 1) hw hll (by omega)
      have hv : hdJ (R2.getD i []) = ((toZ R2).getD i []).getD 0 0 := by
        rw [show R2.getD i [] = (mZ (toZ R2)).getD i [] by rw [← el], ZaB]
      have hlen : (mZ (mL ((toZ R2).take i))).length = i := by rw [Zaf, Za2, List.length_take]; omega
      have b1 : (i + 1) * 24 ≤ 140737488355328 := by omega
      have b2 : i + 1 ≤ 9223372036854775807 := by omega
      simp only [Int.ofNat_lt, hl, decide_true, cond_true, cond_false, e4, Int.natCast_nonneg, Bool.and_self, Int.toNat_natCast, hj1, List.drop_zero, hv, true_and, wi, hlen, b1, b2, Nat.le_refl, Zht _ hll]
      have eo : Zbh ((mL (toZ R2)).getD i []) = (decide (((toZ R2).getD i []).getD 0 0 ≥ 0) && decide (((toZ R2).getD i []).getD 0 0 ≤ 255)) := by
        rw [Zkk _ hll, Zhg]; rfl
      rw [← eo]
      cases ho : Zbh ((mL (toZ R2)).getD i []) with
      | false =>
        exact h2 (by rw [ZcA]; exact ZaS (by rw [Za2]; exact hll) ho) _ _ _
      | true =>
        refine ⟨i + 1, by omega, ⟨hl, by omega, fun j hji => ?_⟩, rfl⟩
        rcases Nat.lt_succ_iff_lt_or_eq.1 hji with hji | rfl
        · exact hj j hji
        · exact ho
  · have e : i = R2.length := by omega
    subst e
    simp only [Int.ofNat_lt, Nat.lt_irrefl, decide_false, cond_false, true_and]
    rw [List.take_of_length_le (by omega)]
    exact h3 (by rw [ZcA]; exact Zbm (by rw [Za2]; omega) (fun j hj' => hj j (by rw [Za2] at hj'; omega)))
theorem Zsy {R0 p0 R1 p1 R2 p2 R3 p3 : List (List D)} (hR : okZ 1 R3 = true) (hn : R3.length ≤ 5864062014635) (Q : Exit → X → Prop) (x : X) (h : sM3 R0 p0 R1 p1 R2 p2 R3 p3 Q x) : XWP Tryz.prog (.loop (Zap Tryz.f50 1)) Q x := by
  obtain ⟨h1, h2, h3⟩ := h
  obtain ⟨el, hw, _⟩ := Zai hR
  have hl' : (toZ R3).length = R3.length := Zav _
  refine ZcY [1, 2, 3, 4, 5, 6] [2, 3, 5, 2000000, 2000001, 2000002, 2000003] (Zdu [1, 2, 3, 4, 5, 6] [2, 3, 5, 2000000, 2000001, 2000002, 2000003] ?_)
  rw [h1]
  refine ZeK (kb := 5) (j := 3) (kn := 2000003) (wd := 3) rfl ?_
  refine ZaR (ι := Nat) (H := hkA band bor [(91, sB val8)] []) (fn := Tryz.f50) (i := 1) (ts := [1, 2, 3, 4, 5, 6]) (ks := [2, 3, 5, 2000000, 2000001, 2000002, 2000003]) (ZaF (.cons Zfc .nil)) mixed (Zag rfl)
    (fun i => stM3 R0 p0 R1 p1 R2 p2 R3 p3 (mZ (mL ((toZ R3).take i))) i 0 i) (fun i => i ≤ R3.length ∧ i ≤ 4 ∧ ∀ j, j < i → Zbh ((mL (toZ R3)).getD j []) = true) (fun i => R3.length - i) 0 (vM3 R0 p0 R1 p1 R2 p2 R3 p3) (vM3 R0 p0 R1 p1 R2 p2 R3 p3) (fun i hp => ?_) ⟨Nat.zero_le _, Nat.zero_le _, fun j hj => by omega⟩ (by kernel_rfl)
  obtain ⟨hi, h4, hj⟩ := hp
  show Zbc band bor Tryz.prog _ _ Tryz.f50 1 _ _ _ _ _ _ _
  rw [eM3r]
  by_cases hl : i < R3.length
  · by_cases h4' : i = 4
    · have e4 : decide ((i : Int) ≥ 4) = true := by simp; omega
      simp only [Int.ofNat_lt, hl, decide_true, cond_true, e4, true_and]
      exact h2 (by rw [ZcA]; exact Za3 (by rw [Za2]; omega)) _ _ _
    · have e4 : decide ((i : Int) ≥ 4) = false := by simp; omega
      have wi : IntKind.wrap .i64 ((i : Int) + 1) = ((i + 1 : Nat) : Int) := Zas (n := 1) (by omega)
      have hll : i < (toZ R3).length := by omega
      have hj1 : isJ [IntKind.i64] ((R3).getD i []) = true := by
        rw [el]; exact Zau (j := 0) (n := 1) hw hll (by omega)
      have hv : hdJ (R3.getD i []) = ((toZ R3).getD i []).getD 0 0 := by
        rw [show R3.getD i [] = (mZ (toZ R3)).getD i [] by rw [← el], ZaB]
      have hlen : (mZ (mL ((toZ R3).take i))).length = i := by rw [Zaf, Za2, List.length_take]; omega
      have b1 : (i + 1) * 24 ≤ 140737488355328 := by omega
      have b2 : i + 1 ≤ 9223372036854775807 := by omega
      simp only [Int.ofNat_lt, hl, decide_true, cond_true, cond_false, e4, Int.natCast_nonneg, Bool.and_self, Int.toNat_natCast, hj1, List.drop_zero, hv, true_and, wi, hlen, b1, b2, Nat.le_refl, Zht _ hll]
      have eo : Zbh ((mL (toZ R3)).getD i []) = (decide (((toZ R3).getD i []).getD 0 0 ≥ 0) && decide (((toZ R3).getD i []).getD 0 0 ≤ 255)) := by
        rw [Zkk _ hll, Zhg]; rfl
      rw [← eo]
      cases ho : Zbh ((mL (toZ R3)).getD i []) with
      | false =>
        exact h2 (by rw [ZcA]; exact ZaS (by rw [Za2]; exact hll) ho) _ _ _
      | true =>
        refine ⟨i + 1, by omega, ⟨hl, by omega, fun j hji => ?_⟩, rfl⟩
        rcases Nat.lt_succ_iff_lt_or_eq.1 hji with hji | rfl
        · exact hj j hji
        · exact ho
  · have e : i = R3.length := by omega
    subst e
    simp only [Int.ofNat_lt, Nat.lt_irrefl, decide_false, cond_false, true_and]
    rw [List.take_of_length_le (by omega)]
    exact h3 (by rw [ZcA]; exact Zbm (by rw [Za2]; omega) (fun j hj' => hj j (by rw [Za2] at hj'; omega)))
theorem Zk7 {R0 p0 R1 p1 R2 p2 R3 p3 : List (List D)} (h0 : okZ 1 R0 = true) (h1 : okZ 1 R1 = true) (h2 : okZ 1 R2 = true) (h3 : okZ 1 R3 = true) (l0 : R0.length ≤ 5864062014635) (l1 : R1.length ≤ 5864062014635) (l2 : R2.length ≤ 5864062014635) (l3 : R3.length ≤ 5864062014635) (Q : Exit → X → Prop) (x : X) (h : Zft R0 p0 R1 p1 R2 p2 R3 p3 Q x) : XWP Tryz.prog (.loop (Zap Tryz.f50 1)) Q x := by
  obtain ⟨g, h⟩ := Zf3 h
  cases hd : decide (g = 0) with
  | true =>
    rw [hd, cond_true] at h
    exact ZsA h0 l0 Q x h
  | false =>
    rw [hd, cond_false] at h
    cases hd : decide (g = 1) with
    | true =>
      rw [hd, cond_true] at h
      exact ZtF h1 l1 Q x h
    | false =>
      rw [hd, cond_false] at h
      cases hd : decide (g = 2) with
      | true =>
        rw [hd, cond_true] at h
        exact Zsv h2 l2 Q x h
      | false =>
        rw [hd, cond_false] at h
        exact Zsy h3 l3 Q x h
def okV (R : List (List D)) : Bool := okZ 1 R && decide (R.length ≤ 5864062014635)
def okV4 (R0 R1 R2 R3 : List (List D)) : Bool := okV R0 && (okV R1 && (okV R2 && okV R3))
theorem ZmR {R0 R1 R2 R3 : List (List D)} (h : okV4 R0 R1 R2 R3 = true) : (okZ 1 R0 = true ∧ R0.length ≤ 5864062014635) ∧ (okZ 1 R1 = true ∧ R1.length ≤ 5864062014635) ∧ (okZ 1 R2 = true ∧ R2.length ≤ 5864062014635) ∧ (okZ 1 R3 = true ∧ R3.length ≤ 5864062014635) := by
  simpa [okV4, okV, Bool.and_eq_true] using h
def sNew : Spec := fun ds Q => match ds with | [.agg [.s 0 1 R0 p0, .s 0 1 R1 p1, .s 0 1 R2 p2, .s 0 1 R3 p3]] => cond (okV4 R0 R1 R2 R3) (cond (amay (toZ (mW R0)) (toZ (mW R1)) (toZ (mW R2)) (toZ (mW R3))) (Q (.tup [dO (mW R0) (mW R1) (mW R2) (mW R3), I 0])) (Q (.tup [dNil, I 400]))) False | _ => False
theorem ZtR : Zad Tryz.prog 50 sNew := o_of Tryz.func50 (by kernel_rfl) rfl fun ds Q h => by
  unfold sNew at h; split at h
  · rename_i R0 p0 R1 p1 R2 p2 R3 p3
    obtain ⟨h1, h2⟩ := Zae h
    obtain ⟨⟨a0, l0⟩, ⟨a1, l1⟩, ⟨a2, l2⟩, ⟨a3, l3⟩⟩ := ZmR h1
    have z0 := Zj3 a0
    have z1 := Zj3 a1
    have z2 := Zj3 a2
    have z3 := Zj3 a3
    have hz : okA (mW R0) (mW R1) (mW R2) (mW R3) = true := by simp [okA, z0, z1, z2, z3]
    have hL : Zaq Tryz.prog (hkl [(91, sB val8)] [(6, Zft R0 p0 R1 p1 R2 p2 R3 p3)]) (Zar Tryz.f50) := ZoH rfl (by kernel_rfl) (by kernel_rfl) (Zk7 a0 a1 a2 a3 l0 l1 l2 l3)
    have tk : ∀ R : List (List D), List.take R.length (mW R) = mW R := fun R => List.take_of_length_le (by rw [Zo4]; omega)
    cases hm : amay (toZ (mW R0)) (toZ (mW R1)) (toZ (mW R2)) (toZ (mW R3)) with
    | false =>
      rw [hm] at h2
      refine ⟨_, ZaT (l := [(91, sB val8)]) (m := [(6, Zft R0 p0 R1 p1 R2 p2 R3 p3)]) (.cons Zfc .nil) mixed hL Tryz.func50 rfl rfl rfl ?_, rfl, rfl, h2⟩
      rw [ZrO]
      cases q0 : Zat (toZ (mW R0)) with
      | false => exact ⟨rfl, fun _ _ _ _ => rfl, fun e => (nomatch e)⟩
      | true =>
        refine ⟨rfl, fun e => (nomatch e), fun _ => ?_⟩
        cases q1 : Zat (toZ (mW R1)) with
        | false => exact ⟨rfl, fun _ _ _ _ => rfl, fun e => (nomatch e)⟩
        | true =>
          refine ⟨rfl, fun e => (nomatch e), fun _ => ?_⟩
          cases q2 : Zat (toZ (mW R2)) with
          | false => exact ⟨rfl, fun _ _ _ _ => rfl, fun e => (nomatch e)⟩
          | true =>
            refine ⟨rfl, fun e => (nomatch e), fun _ => ?_⟩
            cases q3 : Zat (toZ (mW R3)) with
            | false => exact ⟨rfl, fun _ _ _ _ => rfl, fun e => (nomatch e)⟩
            | true => rw [amay, q0, q1, q2, q3] at hm; cases hm
    | true =>
      rw [hm] at h2
      refine ⟨_, ZaT (l := [(91, sB val8)]) (m := [(6, Zft R0 p0 R1 p1 R2 p2 R3 p3)]) (.cons Zfc .nil) mixed hL Tryz.func50 rfl rfl rfl ?_, Zoh z0 z1 z2 z3 _, rfl, h2⟩
      rw [ZrO]
      simp only [amay, Bool.and_eq_true] at hm
      obtain ⟨q0, q1, q2, q3⟩ := hm
      simp only [q0, q1, q2, q3, Bool.true_eq_false, false_implies, true_implies, true_and, Zo4, Nat.le_refl, decide_true, cond_true, ZaD (Zbg z0), ZaD (Zbg z1), ZaD (Zbg z2), ZaD (Zbg z3), Bool.and_self, tk, Nat.sub_self, List.take_zero]
  · exact h.elim
end

section
open Go Go.Proofs
theorem Znz {α : Type} (l : List α) (p : α → Bool) : decide ((match l.findIdx? p with | some i => (i : Int) | none => -1) ≥ 0) = l.any p := by
  cases h : l.findIdx? p with
  | some i =>
    have : l.any p = true := by
      rw [List.findIdx?_eq_some_iff_getElem] at h
      obtain ⟨h1, h2, _⟩ := h
      exact List.any_eq_true.2 ⟨_, List.getElem_mem h1, h2⟩
    rw [this]; simp
  | none =>
    have : l.any p = false := by
      rw [List.findIdx?_eq_none_iff] at h
      rw [List.any_eq_false]; intro x hx; simpa using h x hx
    rw [this]; rfl
def ix4 (x : Int) : Bool := upto x 0 3
theorem eIdx (x : Int) (K : DV → Prop) : (ask Tryz.prog [] Tryz.f153 [I x] K) = (bif decide (x ≥ 0) then K (DV.c (D.v (Value.bool (decide (x < 4))))) else K (DV.c (D.v (Value.bool false)))) := by kernel_rfl
theorem oIdx : Zad Tryz.prog 153 (sB ix4) := oB Tryz.func153 (by kernel_rfl) rfl fun x => Zah .nil mixed Tryz.func153 rfl rfl rfl (by
  rw [eIdx]; unfold ix4 upto; rw [lt4]; cases decide (x ≥ 0) <;> rfl)
def askE (k : Nat) (fn : Func) (args : List DV) (K : DV → Prop) : Prop := evp Tryz.prog (hkl [] []) 200 (Zar fn) (finF Tryz.prog fn k K) (Zbz fn.ntmps args)
theorem eOf (a b c : Int) (K : DV → Prop) : (askE 2 Tryz.f155 [.agg [vi a, vi b, vi c]] K) = (K (DV.c (D.f (186) [] [D.p (0) [D.v (Value.int IntKind.i64 a), D.v (Value.int IntKind.i64 b), D.v (Value.int IntKind.i64 c)] (0)]))) := by kernel_rfl
def sOf : Spec := fun ds Q => match ds with | [.agg [.v (.int .i64 a), .v (.int .i64 b), .v (.int .i64 c)]] => Q (.c (.f 186 [] [.p 0 [vI a, vI b, vI c] 0])) | _ => False
theorem oOf : Zad Tryz.prog 155 sOf := Zte Tryz.func155 (by kernel_rfl) rfl fun ds Q h => by
  unfold sOf at h; split at h
  · rename_i a b c
    refine ⟨_, Zlq (H := hkl [] []) 2 (ZaF .nil) mixed 200 Tryz.func155 rfl (Zag rfl) (Nat.le_of_ble_eq_true rfl) rfl ?_, rfl, rfl, h⟩
    have e := eOf a b c (fun r => r = .c (.f 186 [] [.p 0 [vI a, vI b, vI c] 0]))
    exact e.mpr rfl
  · exact h.elim
theorem eOf1 (a b c x y z : Int) (K : DV → Prop) : (ask Tryz.prog [] Tryz.f186 [.agg [vi x, vi y, vi z], .c (.p 0 [vI a, vI b, vI c] 0)] K) = (bif x == a then K (DV.c (D.v (Value.bool (y == b)))) else K (DV.c (D.v (Value.bool false)))) := by kernel_rfl
def ZbQ (a b c : Int) (r : List Int) : Bool := bif r.getD 0 0 == a then r.getD 1 0 == b else false
def sOf1 : Spec := fun ds Q => match ds with | [.agg [.v (.int .i64 x), .v (.int .i64 y), .v (.int .i64 z)], .c (.p 0 [.v (.int .i64 a), .v (.int .i64 b), .v (.int .i64 c)] 0)] => Q (B (ZbQ a b c [x, y, z])) | _ => False
theorem oOf1 : Zad Tryz.prog 186 sOf1 := o_of Tryz.func186 (by kernel_rfl) rfl fun ds Q h => by
  unfold sOf1 at h; split at h
  · rename_i x y z a b c
    refine ⟨_, Zah .nil mixed Tryz.func186 rfl rfl rfl ?_, rfl, rfl, h⟩
    rw [eOf1]; unfold ZbQ; simp only [List.getD_cons_zero, List.getD_cons_succ]; cases x == a <;> rfl
  · exact h.elim
def sIXR (a : Int) (b : Int) (c : Int) (R : List (List D)) (sp : List (List D)) (v : Int) (i : Int) : X := ⟨mkT 19 [(0, aS 3 R sp), (1, .c (.d (.f 186 [] [.p 0 [vI a, vI b, vI c] 0]))), (4, ai v), (7, ai R.length), (8, ai i)], [], [], []⟩
def Zgx (a : Int) (b : Int) (c : Int) (R : List (List D)) (sp : List (List D)) : Vw := fun y K => wI y 4 fun v => wI y 8 fun i => K (sIXR a b c R sp v i)
theorem Zhz (a : Int) (b : Int) (c : Int) (R : List (List D)) (sp : List (List D)) : VwOK (Zgx a b c R sp) := fun y K h => by
  unfold Zgx at h
  obtain ⟨v, h⟩ := ZbI h
  obtain ⟨i, h⟩ := ZbI h
  exact ⟨_, h⟩
theorem rIXR (a : Int) (b : Int) (c : Int) (R sp : List (List D)) (i v : Int) (N : X → Prop) (E : Exit → X → Prop) : (ZbZ Tryz.prog (hkA band bor [(186, sOf1)] []) Tryz.f185 0 [] [0, 1, 4, 7, 8] [] (Zgx a b c R sp) (Zgx a b c R sp) N E (sIXR a b c R sp v i)) = (bif decide (i < @Nat.cast Int _ (List.length R)) then bif decide (0 ≤ i) && decide (i < @Nat.cast Int _ (List.length R)) then bif isJ [IntKind.i64, IntKind.i64, IntKind.i64] (List.drop (0) (List.getD R (Int.toNat i) [])) then bif ZbQ a b c [hdJ (List.drop (0) (List.getD R (Int.toNat i) [])), hdJ (List.tail (List.drop (0) (List.getD R (Int.toNat i) []))), hdJ (List.tail (List.tail (List.drop (0) (List.getD R (Int.toNat i) []))))] then sIXR a b c R sp i i = sIXR a b c R sp i i ∧ E Exit.ret (sIXR a b c R sp i i) else sIXR a b c R sp v (IntKind.wrap IntKind.i64 (i + 1)) = sIXR a b c R sp v (IntKind.wrap IntKind.i64 (i + 1)) ∧ N (sIXR a b c R sp v (IntKind.wrap IntKind.i64 (i + 1))) else False else False else sIXR a b c R sp v i = sIXR a b c R sp v i ∧ E (Exit.exit (0)) (sIXR a b c R sp v i)) := by kernel_rfl
def fIXR (a : Int) (b : Int) (c : Int) (l : List (List Int)) (sp : List (List D)) : LSum := ZcC [0, 1, 4, 7, 8] [] (fun i => sIXR a b c (mZ l) sp 0 i) (fun i => sIXR a b c (mZ l) sp i i) l.length (fun i => ZbQ a b c (l.getD i [])) .ret (.exit 0)
theorem eIXR (a : Int) (b : Int) (c : Int) (l : List (List Int)) (sp : List (List D)) (K : DV → Prop) : (askL Tryz.prog [] [(2, fIXR a b c l sp)] Tryz.f185 [dS 3 (mZ l) sp, .c (.f 186 [] [.p 0 [vI a, vI b, vI c] 0])] K) = (sIXR a b c (mZ l) sp (0) (0) = sIXR a b c (mZ l) sp (0) (0) ∧ (∀ (i : Nat), firstAt (fun i => ZbQ a b c (List.getD l i [])) (List.length l) i → K (DV.c (D.v (Value.int IntKind.i64 (@Nat.cast Int _ i))))) ∧ (noneTo (fun i => ZbQ a b c (List.getD l i [])) (List.length l) → K (DV.c (D.v (Value.int IntKind.i64 (-1)))))) := by kernel_rfl
theorem kIXR (a : Int) (b : Int) (c : Int) {l : List (List Int)} {sp : List (List D)} (hw : wid 3 l) (hn : l.length ≤ 9223372036854775807) (Q : Exit → X → Prop) (x : X) (h : fIXR a b c l sp Q x) : XWP Tryz.prog (.loop (Zap Tryz.f185 0)) Q x := by
  refine ZbF (H := hkA band bor [(186, sOf1)] []) (sw := []) (V := Zgx a b c (mZ l) sp) (VE := Zgx a b c (mZ l) sp) (ZaF (.cons oOf1 .nil)) mixed (Zag rfl) (Zhz a b c (mZ l) sp) (Zhz a b c (mZ l) sp) _ _ _ _ _ _ (fun i hl N E h1 h2 => ?_) (fun N E h1 => ?_) Q x h
  · rw [rIXR]
    have wi : IntKind.wrap .i64 ((i : Int) + 1) = ((i + 1 : Nat) : Int) := Zas (n := 1) (by omega)
    have hj1 : isJ [IntKind.i64, IntKind.i64, IntKind.i64] ((mZ l).getD i []) = true := Zau (j := 0) (n := 3) hw hl (by omega)
    simp only [Zaf, Int.ofNat_lt, hl, decide_true, cond_true, Int.natCast_nonneg, Bool.and_self, Int.toNat_natCast, ZaJ, ZaK, ZbJ, hj1, List.drop_zero, ZaB, true_and, wi]
    have e : ZbQ a b c (l.getD i []) = ZbQ a b c [(l.getD i []).getD 0 0, (l.getD i []).getD 1 0, (l.getD i []).getD 2 0] := rfl
    cases ho : ZbQ a b c (l.getD i []) with
    | false => rw [e] at ho; rw [ho]; exact h2 (by rw [e]; exact ho)
    | true => rw [e] at ho; rw [ho]; exact h1 (by rw [e]; exact ho)
  · rw [rIXR]
    simp only [Zaf, Int.ofNat_lt, Nat.lt_irrefl, decide_false, cond_false, true_and]
    exact h1
def sIxR : Spec := fun ds Q => match ds with | [.c (.s 0 3 R sp), .c (.f 186 [] [.p 0 [.v (.int .i64 a), .v (.int .i64 b), .v (.int .i64 c)] 0])] => cond (okZ 3 R) (Q (I (match (toZ R).findIdx? (ZbQ a b c) with | some i => (i : Int) | none => -1))) False | _ => False
theorem oIxR : Zad Tryz.prog 185 sIxR := o_of Tryz.func185 (by kernel_rfl) rfl fun ds Q h => by
  unfold sIxR at h; split at h
  · rename_i R sp a b c
    obtain ⟨h1, h2⟩ := Zae h
    obtain ⟨e1, w1, n1⟩ := Zai h1
    rw [e1]
    rw [← Zav R] at n1
    generalize toZ R = l at *
    refine ⟨_, ZaT (l := []) (m := [(2, fIXR a b c l sp)]) .nil mixed (Zcz rfl (by kernel_rfl) (kIXR a b c w1 n1)) Tryz.func185 rfl rfl rfl ?_, rfl, rfl, h2⟩
    rw [eIXR]
    refine ⟨rfl, fun i hi => ?_, fun hn => ?_⟩
    · rw [hi.find]
    · rw [hn.find]
  · exact h.elim
theorem eCOR (a : Int) (b : Int) (c : Int) (R sp : List (List D)) (K : DV → Prop) : (ask Tryz.prog [(185, sIxR)] Tryz.f154 [dS 3 R sp, .c (.f 186 [] [.p 0 [vI a, vI b, vI c] 0])] K) = (bif okZ (3) R then K (DV.c (D.v (Value.bool (decide ((match List.findIdx? (ZbQ a b c) (toZ R) with | some i => @Nat.cast Int _ i | none => -1) ≥ 0))))) else False) := by kernel_rfl
def sCoR : Spec := fun ds Q => match ds with | [.c (.s 0 3 R sp), .c (.f 186 [] [.p 0 [.v (.int .i64 a), .v (.int .i64 b), .v (.int .i64 c)] 0])] => cond (okZ 3 R) (Q (B ((toZ R).any (ZbQ a b c)))) False | _ => False
theorem oCoR : Zad Tryz.prog 154 sCoR := o_of Tryz.func154 (by kernel_rfl) rfl fun ds Q h => by
  unfold sCoR at h; split at h
  · obtain ⟨h1, h2⟩ := Zae h
    refine ⟨_, Zah (.cons oIxR .nil) mixed Tryz.func154 rfl rfl rfl ?_, rfl, rfl, h2⟩
    rw [eCOR, h1, Znz]; rfl
  · exact h.elim
def ok1 (a b c : Int) : Bool := bif lab a then bif ix4 b then clk c else false else false
theorem eWN (x y : Int) (K : DV → Prop) : (ask Tryz.prog [(71, sB lab), (119, sUp)] Tryz.f166 [I x, I y] K) = (bif lab x then K (DV.c (D.v (Value.bool (decide (y ≥ 0) && decide (y ≤ 3))))) else K (DV.c (D.v (Value.bool false)))) := by kernel_rfl
def wnm (x y : Int) : Bool := bif lab x then ix4 y else false
def sWN : Spec := fun ds Q => match ds with | [.c (.v (.int .i64 x)), .c (.v (.int .i64 y))] => Q (B (wnm x y)) | _ => False
theorem oWN : Zad Tryz.prog 166 sWN := o_of Tryz.func166 (by kernel_rfl) rfl fun ds Q h => by
  unfold sWN at h; split at h
  · rename_i x y
    refine ⟨_, Zah (.cons Zly (.cons oUp .nil)) mixed Tryz.func166 rfl rfl rfl ?_, rfl, rfl, h⟩
    rw [eWN]; unfold wnm ix4 upto; cases lab x <;> rfl
  · exact h.elim
end

section
open Go Go.Proofs
def badR (l : List (List Int)) (i : Nat) : Bool := !ok1 ((l.getD i []).getD 0 0) ((l.getD i []).getD 1 0) ((l.getD i []).getD 2 0) || (l.take i).any (ZbQ ((l.getD i []).getD 0 0) ((l.getD i []).getD 1 0) ((l.getD i []).getD 2 0))
def rmay (l : List (List Int)) : Bool := decide (l.length ≤ 16) && !(List.range l.length).any (badR l)
theorem ZnG (R sp : List (List D)) {i : Nat} (hi : i ≤ R.length) : cut (R ++ sp) 0 i = R.take i := by
  simp [cut, List.take_append_of_le_length hi]
theorem Zp9 {l : List (List Int)} {p : List Int → Bool} {i k : Nat} (hi : i ≤ l.length) (h : firstAt (fun j => p (l.getD j [])) i k) : (l.take i).any p = true := by
  refine firstAt.any (d := []) (i := k) ⟨by rw [List.length_take]; have := h.1; omega, ?_, fun j hj => ?_⟩
  · show p ((l.take i).getD k []) = true
    have := h.1
    rw [show (l.take i).getD k [] = l.getD k [] by simp [List.getD_eq_getElem?_getD, List.getElem?_take, this]]; exact h.2.1
  · show p ((l.take i).getD j []) = false
    have := h.1
    rw [show (l.take i).getD j [] = l.getD j [] by simp [List.getD_eq_getElem?_getD, List.getElem?_take, Nat.lt_trans hj this]]; exact h.2.2 j hj
theorem ZnX {l : List (List Int)} {p : List Int → Bool} {i : Nat} (hi : i ≤ l.length) (h : noneTo (fun j => p (l.getD j [])) i) : (l.take i).any p = false := by
  refine noneTo.any (d := []) fun j hj => ?_
  have hj : j < i := by rw [List.length_take] at hj; omega
  show p ((l.take i).getD j []) = false
  rw [show (l.take i).getD j [] = l.getD j [] by simp [List.getD_eq_getElem?_getD, List.getElem?_take, hj]]; exact h j hj
theorem Zqz {P : Program} {l : List (FuncId × Spec)} {fn : Func} {k : Nat} {s : LSum} (hn : (ZaU (Zar fn)).length = 2) (hk : Zbp (Zap fn 0) = k) (hk1 : (hkl l [(k, s)]).loop (Zbp (Zap fn 1)) = none) (h : ∀ Q x, s Q x → XWP P (.loop (Zap fn 0)) Q x) : Zaq P (hkl l [(k, s)]) (Zar fn) :=
  ZcW 2 hn fun i hi s' hs Q x hq => by
    match i, hi with
    | 1, _ => rw [hk1] at hs; cases hs
    | 0, _ =>
      rw [hk] at hs
      have hs' : some s = some s' := by simpa [ZcT, hkl, hkA, Za0] using hs
      cases hs'
      exact h Q x hq
def stRM (R : List (List D)) (sp : List (List D)) (v : Bool) (i : Int) : X := ⟨mkT 40 [(0, aS 3 R sp), (2, ab v), (8, aS 3 R sp), (9, ai R.length), (10, ai i)], [], [], []⟩
def Zf2 (R : List (List D)) (sp : List (List D)) : Vw := fun y K => wB y 2 fun v => wI y 10 fun i => K (stRM R sp v i)
theorem Zia (R : List (List D)) (sp : List (List D)) : VwOK (Zf2 R sp) := fun y K h => by
  unfold Zf2 at h
  obtain ⟨v, h⟩ := Zc1 h
  obtain ⟨i, h⟩ := ZbI h
  exact ⟨_, h⟩
theorem rRM (R sp : List (List D)) (v : Bool) (i : Int) (N : X → Prop) (E : Exit → X → Prop) : (ZbZ Tryz.prog (hkA band bor [(64, sB lab), (153, sB ix4), (102, sB clk), (155, sOf), (154, sCoR)] []) Tryz.f105 0 [] [0, 2, 8, 9, 10] [] (Zf2 R sp) (Zf2 R sp) N E (stRM R sp v i)) = (bif decide (i < @Nat.cast Int _ (List.length R)) then bif decide (0 ≤ i) && decide (i < @Nat.cast Int _ (List.length R)) then bif isJ [IntKind.i64, IntKind.i64, IntKind.i64] (List.drop (0) (List.getD R (Int.toNat i) [])) then bif !lab (hdJ (List.drop (0) (List.getD R (Int.toNat i) []))) then stRM R sp false i = stRM R sp false i ∧ E Exit.ret (stRM R sp false i) else bif !ix4 (hdJ (List.tail (List.drop (0) (List.getD R (Int.toNat i) [])))) then stRM R sp false i = stRM R sp false i ∧ E Exit.ret (stRM R sp false i) else bif !clk (hdJ (List.tail (List.tail (List.drop (0) (List.getD R (Int.toNat i) []))))) then stRM R sp false i = stRM R sp false i ∧ E Exit.ret (stRM R sp false i) else bif true && (decide (0 ≤ i) && decide (i ≤ @Nat.cast Int _ (List.length R + List.length sp))) then bif okZ (3) (cut (R ++ sp) (0) (Int.toNat i - 0)) then bif List.any (toZ (cut (R ++ sp) (0) (Int.toNat i - 0))) (ZbQ (hdJ (List.drop (0) (List.getD R (Int.toNat i) []))) (hdJ (List.tail (List.drop (0) (List.getD R (Int.toNat i) [])))) (hdJ (List.tail (List.tail (List.drop (0) (List.getD R (Int.toNat i) [])))))) then stRM R sp false i = stRM R sp false i ∧ E Exit.ret (stRM R sp false i) else stRM R sp v (IntKind.wrap IntKind.i64 (i + 1)) = stRM R sp v (IntKind.wrap IntKind.i64 (i + 1)) ∧ N (stRM R sp v (IntKind.wrap IntKind.i64 (i + 1))) else False else False else False else False else stRM R sp v i = stRM R sp v i ∧ E (Exit.exit (0)) (stRM R sp v i)) := by kernel_rfl
def fRM (l : List (List Int)) (sp : List (List D)) : LSum := ZcC [0, 2, 8, 9, 10] [] (fun i => stRM (mZ l) sp false i) (fun i => stRM (mZ l) sp false i) l.length (badR l) .ret (.exit 0)
theorem kRM {l : List (List Int)} {sp : List (List D)} (hw : wid 3 l) (hn : l.length ≤ 9223372036854775807) (Q : Exit → X → Prop) (x : X) (h : fRM l sp Q x) : XWP Tryz.prog (.loop (Zap Tryz.f105 0)) Q x := by
  refine ZbF (H := hkA band bor [(64, sB lab), (153, sB ix4), (102, sB clk), (155, sOf), (154, sCoR)] []) (sw := []) (V := Zf2 (mZ l) sp) (VE := Zf2 (mZ l) sp) (ZaF (.cons oLab (.cons oIdx (.cons oClk (.cons oOf (.cons oCoR .nil)))))) mixed (Zag rfl) (Zia (mZ l) sp) (Zia (mZ l) sp) _ _ _ _ _ _ (fun i hl N E h1 h2 => ?_) (fun N E h1 => ?_) Q x h
  · rw [rRM]
    have wi : IntKind.wrap .i64 ((i : Int) + 1) = ((i + 1 : Nat) : Int) := Zas (n := 1) (by omega)
    have hj1 : isJ [IntKind.i64, IntKind.i64, IntKind.i64] ((mZ l).getD i []) = true := Zau (j := 0) (n := 3) hw hl (by omega)
    have hc : cut (mZ l ++ sp) 0 i = mZ (l.take i) := by rw [ZnG _ _ (by rw [Zaf]; omega), Zp5]
    have ho : okZ 3 (mZ (l.take i)) = true := Zkp (Zod hw i) (by simp; omega)
    have hb : decide ((i : Int) ≤ ((l.length + sp.length : Nat) : Int)) = true := by simp; omega
    simp only [Zaf, Int.ofNat_lt, hl, decide_true, cond_true, Int.natCast_nonneg, Bool.and_self, Int.toNat_natCast, ZaJ, ZaK, hj1, List.drop_zero, ZaB, true_and, wi, Nat.sub_zero, hc, ho, hb, Zc5]
    unfold badR ok1 at h1 h2
    revert h1 h2
    generalize lab ((l.getD i []).getD 0 0) = p1
    generalize ix4 ((l.getD i []).getD 1 0) = p2
    generalize clk ((l.getD i []).getD 2 0) = p3
    generalize (l.take i).any (ZbQ ((l.getD i []).getD 0 0) ((l.getD i []).getD 1 0) ((l.getD i []).getD 2 0)) = p4
    cases p1 <;> cases p2 <;> cases p3 <;> cases p4 <;> intro h1 h2 <;> first | exact h1 rfl | exact h2 rfl
  · rw [rRM]
    simp only [Zaf, Int.ofNat_lt, Nat.lt_irrefl, decide_false, cond_false, true_and]
    exact h1
theorem eRM (l : List (List Int)) (sp : List (List D)) (K : DV → Prop) : (askL Tryz.prog [] [(4, fRM l sp)] Tryz.f105 [dS 3 (mZ l) sp] K) = (bif decide (@Nat.cast Int _ (List.length (mZ l)) > 16) then K (DV.c (D.v (Value.bool false))) else stRM (mZ l) sp false (0) = stRM (mZ l) sp false (0) ∧ (∀ (i : Nat), firstAt (badR l) (List.length l) i → K (DV.c (D.v (Value.bool false)))) ∧ (noneTo (badR l) (List.length l) → K (DV.c (D.v (Value.bool true))))) := by kernel_rfl
def sRM : Spec := fun ds Q => match ds with | [.c (.s 0 3 R sp)] => cond (okZ 3 R) (Q (B (rmay (toZ R)))) False | _ => False
theorem oRM : Zad Tryz.prog 105 sRM := o_of Tryz.func105 (by kernel_rfl) rfl fun ds Q h => by
  unfold sRM at h; split at h
  · rename_i R sp
    obtain ⟨h1, h2⟩ := Zae h
    obtain ⟨e1, w1, n1⟩ := Zai h1
    rw [e1]
    rw [← Zav R] at n1
    generalize toZ R = l at *
    refine ⟨_, ZaT (l := []) (m := [(4, fRM l sp)]) .nil mixed (Zcz rfl (by kernel_rfl) (kRM w1 n1)) Tryz.func105 rfl rfl rfl ?_, rfl, rfl, h2⟩
    rw [eRM]
    have hg : decide (((mZ l).length : Int) > 16) = !decide (l.length ≤ 16) := by rw [Zaf]; by_cases h : l.length ≤ 16 <;> simp [h] <;> omega
    rw [hg]
    cases hd : decide (l.length ≤ 16) with
    | false => simp [rmay, hd]
    | true =>
      simp only [Bool.not_true, cond_false]
      refine ⟨by trivial, fun i hi => ?_, fun hn => ?_⟩
      · rw [rmay, hi.b]; simp
      · rw [rmay, hn.b, hd]; rfl
  · exact h.elim
def stQM (R : List (List D)) (sp : List (List D)) (v : Bool) (i : Int) : X := ⟨mkT 64 [(0, aS 3 R sp), (2, ab v), (3, ai i)], [], [], []⟩
def ZgA (R : List (List D)) (sp : List (List D)) : Vw := fun y K => wB y 2 fun v => wI y 3 fun i => K (stQM R sp v i)
theorem Zh0 (R : List (List D)) (sp : List (List D)) : VwOK (ZgA R sp) := fun y K h => by
  unfold ZgA at h
  obtain ⟨v, h⟩ := Zc1 h
  obtain ⟨i, h⟩ := ZbI h
  exact ⟨_, h⟩
def stQN (R : List (List D)) (sp : List (List D)) (i : Int) (v : Bool) (j : Int) : X := ⟨mkT 64 [(0, aS 3 R sp), (2, ab v), (3, ai i), (4, ai j)], [], [], []⟩
def Zgy (R : List (List D)) (sp : List (List D)) (i : Int) : Vw := fun y K => wB y 2 fun v => wI y 4 fun j => K (stQN R sp i v j)
theorem ZhM (R : List (List D)) (sp : List (List D)) (i : Int) : VwOK (Zgy R sp i) := fun y K h => by
  unfold Zgy at h
  obtain ⟨v, h⟩ := Zc1 h
  obtain ⟨j, h⟩ := ZbI h
  exact ⟨_, h⟩
theorem rQN (R sp : List (List D)) (i : Int) (v : Bool) (j : Int) (N : X → Prop) (E : Exit → X → Prop) : (ZbZ Tryz.prog (hkA band bor [] []) Tryz.f122 1 [] [0, 2, 3, 4] [] (Zgy R sp i) (Zgy R sp i) N E (stQN R sp i v j)) = (bif decide (j < i) then bif decide (0 ≤ j) && decide (j < @Nat.cast Int _ (List.length R)) then bif isJ [IntKind.i64] (List.drop (0) (List.getD R (Int.toNat j) [])) then bif decide (0 ≤ i) && decide (i < @Nat.cast Int _ (List.length R)) then bif isJ [IntKind.i64] (List.drop (0) (List.getD R (Int.toNat i) [])) then bif hdJ (List.drop (0) (List.getD R (Int.toNat j) [])) == hdJ (List.drop (0) (List.getD R (Int.toNat i) [])) then bif decide (0 ≤ j) && decide (j < @Nat.cast Int _ (List.length R)) then bif isJ [IntKind.i64] (List.drop (1) (List.getD R (Int.toNat j) [])) then bif decide (0 ≤ i) && decide (i < @Nat.cast Int _ (List.length R)) then bif isJ [IntKind.i64] (List.drop (1) (List.getD R (Int.toNat i) [])) then bif hdJ (List.drop (1) (List.getD R (Int.toNat j) [])) == hdJ (List.drop (1) (List.getD R (Int.toNat i) [])) then stQN R sp i false j = stQN R sp i false j ∧ E Exit.ret (stQN R sp i false j) else stQN R sp i v (IntKind.wrap IntKind.i64 (j + 1)) = stQN R sp i v (IntKind.wrap IntKind.i64 (j + 1)) ∧ N (stQN R sp i v (IntKind.wrap IntKind.i64 (j + 1))) else False else False else False else False else stQN R sp i v (IntKind.wrap IntKind.i64 (j + 1)) = stQN R sp i v (IntKind.wrap IntKind.i64 (j + 1)) ∧ N (stQN R sp i v (IntKind.wrap IntKind.i64 (j + 1))) else False else False else False else False else stQN R sp i v j = stQN R sp i v j ∧ E (Exit.exit (2)) (stQN R sp i v j)) := by kernel_rfl
def fQN (l : List (List Int)) (sp : List (List D)) (i : Nat) : LSum := fun Q x => cond (decide (i < l.length)) (ZcC [0, 2, 3, 4] [] (fun j => stQN (mZ l) sp i false j) (fun j => stQN (mZ l) sp i false j) i (fun j => ZbQ ((l.getD i []).getD 0 0) ((l.getD i []).getD 1 0) ((l.getD i []).getD 2 0) (l.getD j [])) .ret (.exit 2) Q x) False
theorem kQN {l : List (List Int)} {sp : List (List D)} (hw : wid 3 l) (hn : l.length ≤ 9223372036854775807) {i : Nat} (Q : Exit → X → Prop) (x : X) (h : fQN l sp i Q x) : XWP Tryz.prog (.loop (Zap Tryz.f122 1)) Q x := by
  obtain ⟨hi, h⟩ := Zae h
  have hi := of_decide_eq_true hi
  refine ZbF (H := hkA band bor [] []) (sw := []) (V := Zgy (mZ l) sp i) (VE := Zgy (mZ l) sp i) (ZaF .nil) mixed (Zag rfl) (ZhM (mZ l) sp i) (ZhM (mZ l) sp i) _ _ _ _ _ _ (fun j hl N E h1 h2 => ?_) (fun N E h1 => ?_) Q x h
  · rw [rQN]
    have wi : IntKind.wrap .i64 ((j : Int) + 1) = ((j + 1 : Nat) : Int) := Zas (n := 1) (by omega)
    have hjl : j < l.length := by omega
    have a1 : isJ [IntKind.i64] ((mZ l).getD i []) = true := Zau (j := 0) (n := 1) hw hi (by omega)
    have a2 : isJ [IntKind.i64] (List.drop 1 ((mZ l).getD i [])) = true := Zau (j := 1) (n := 1) hw hi (by omega)
    have b1 : isJ [IntKind.i64] ((mZ l).getD j []) = true := Zau (j := 0) (n := 1) hw hjl (by omega)
    have b2 : isJ [IntKind.i64] (List.drop 1 ((mZ l).getD j [])) = true := Zau (j := 1) (n := 1) hw hjl (by omega)
    simp only [Zaf, Int.ofNat_lt, hl, hi, hjl, decide_true, cond_true, Int.natCast_nonneg, Bool.and_self, Int.toNat_natCast, a1, a2, b1, b2, List.drop_zero, ZaB, Zb6, true_and, wi]
    unfold ZbQ at h1 h2
    revert h1 h2
    generalize ((l.getD j []).getD 0 0 == (l.getD i []).getD 0 0) = p1
    generalize ((l.getD j []).getD 1 0 == (l.getD i []).getD 1 0) = p2
    cases p1 <;> cases p2 <;> intro h1 h2 <;> first | exact h1 rfl | exact h2 rfl
  · rw [rQN]
    simp only [Zaf, Int.ofNat_lt, Nat.lt_irrefl, decide_false, cond_false, true_and]
    exact h1
theorem rQM (l : List (List Int)) (sp : List (List D)) (n : Nat) (N : X → Prop) (E : Exit → X → Prop) : (ZbZ Tryz.prog (hkA band bor [(166, sWN), (69, sB clk)] [(7, fQN l sp n)]) Tryz.f122 0 [] [0, 2, 3] [] (ZgA (mZ l) sp) (ZgA (mZ l) sp) N E (stQM (mZ l) sp false (n : Int))) = (bif decide (@Nat.cast Int _ n < @Nat.cast Int _ (List.length (mZ l))) then bif decide (0 ≤ @Nat.cast Int _ n) && decide (@Nat.cast Int _ n < @Nat.cast Int _ (List.length (mZ l))) then bif isJ [IntKind.i64] (List.drop (0) (List.getD (mZ l) (Int.toNat (@Nat.cast Int _ n)) [])) then bif decide (0 ≤ @Nat.cast Int _ n) && decide (@Nat.cast Int _ n < @Nat.cast Int _ (List.length (mZ l))) then bif isJ [IntKind.i64] (List.drop (1) (List.getD (mZ l) (Int.toNat (@Nat.cast Int _ n)) [])) then bif !wnm (hdJ (List.drop (0) (List.getD (mZ l) (Int.toNat (@Nat.cast Int _ n)) []))) (hdJ (List.drop (1) (List.getD (mZ l) (Int.toNat (@Nat.cast Int _ n)) []))) then stQM (mZ l) sp false (@Nat.cast Int _ n) = stQM (mZ l) sp false (@Nat.cast Int _ n) ∧ E Exit.ret (stQM (mZ l) sp false (@Nat.cast Int _ n)) else bif decide (0 ≤ @Nat.cast Int _ n) && decide (@Nat.cast Int _ n < @Nat.cast Int _ (List.length (mZ l))) then bif isJ [IntKind.i64] (List.drop (2) (List.getD (mZ l) (Int.toNat (@Nat.cast Int _ n)) [])) then bif !clk (hdJ (List.drop (2) (List.getD (mZ l) (Int.toNat (@Nat.cast Int _ n)) []))) then stQM (mZ l) sp false (@Nat.cast Int _ n) = stQM (mZ l) sp false (@Nat.cast Int _ n) ∧ E Exit.ret (stQM (mZ l) sp false (@Nat.cast Int _ n)) else bif decide (n < List.length l) then stQN (mZ l) sp (@Nat.cast Int _ n) false (0) = stQN (mZ l) sp (@Nat.cast Int _ n) false (0) ∧ (∀ (i : Nat), firstAt (fun j => ZbQ (List.getD (List.getD l n []) (0) (0)) (List.getD (List.getD l n []) (1) (0)) (List.getD (List.getD l n []) (2) (0)) (List.getD l j [])) n i → stQM (mZ l) sp false (@Nat.cast Int _ n) = stQM (mZ l) sp false (@Nat.cast Int _ n) ∧ E Exit.ret (stQM (mZ l) sp false (@Nat.cast Int _ n))) ∧ (noneTo (fun j => ZbQ (List.getD (List.getD l n []) (0) (0)) (List.getD (List.getD l n []) (1) (0)) (List.getD (List.getD l n []) (2) (0)) (List.getD l j [])) n → stQM (mZ l) sp false (IntKind.wrap IntKind.i64 (@Nat.cast Int _ n + 1)) = stQM (mZ l) sp false (IntKind.wrap IntKind.i64 (@Nat.cast Int _ n + 1)) ∧ N (stQM (mZ l) sp false (IntKind.wrap IntKind.i64 (@Nat.cast Int _ n + 1)))) else False else False else False else False else False else False else False else stQM (mZ l) sp false (@Nat.cast Int _ n) = stQM (mZ l) sp false (@Nat.cast Int _ n) ∧ E (Exit.exit (0)) (stQM (mZ l) sp false (@Nat.cast Int _ n))) := by kernel_rfl
def fQM (l : List (List Int)) (sp : List (List D)) : LSum := ZcC [0, 2, 3] [] (fun i => stQM (mZ l) sp false i) (fun i => stQM (mZ l) sp false i) l.length (badR l) .ret (.exit 0)
theorem ZoQ {l : List (List Int)} {sp : List (List D)} {n : Nat} (h : ∀ Q x, fQN l sp n Q x → XWP Tryz.prog (.loop (Zap Tryz.f122 1)) Q x) (L : List (FuncId × Spec)) : Zaq Tryz.prog (hkA band bor L [(7, fQN l sp n)]) (Zap Tryz.f122 0) := fun b hb s hs Q x hq => by
  have e : ZaU (Zap Tryz.f122 0) = [Zap Tryz.f122 1] := by kernel_rfl
  rw [e] at hb
  have hb := List.mem_singleton.1 hb
  subst hb
  have e2 : Zbp (Zap Tryz.f122 1) = 7 := by kernel_rfl
  rw [e2] at hs
  have hs' : some (fQN l sp n) = some s := by simpa [ZcT, hkl, hkA, Za0] using hs
  cases hs'
  exact h Q x hq
theorem kQM {l : List (List Int)} {sp : List (List D)} (hw : wid 3 l) (hn : l.length ≤ 9223372036854775807) (Q : Exit → X → Prop) (x : X) (h : fQM l sp Q x) : XWP Tryz.prog (.loop (Zap Tryz.f122 0)) Q x := by
  refine ZhD (sw := []) (V := ZgA (mZ l) sp) (VE := ZgA (mZ l) sp) mixed (Zh0 (mZ l) sp) (Zh0 (mZ l) sp) _ _ _ _ _ _ (fun i hl => ⟨_, ZaF (.cons oWN (.cons Zf1 .nil)), ZoQ (sp := sp) (n := i) (kQN hw hn) _, fun N E h1 h2 => ?_⟩) ⟨_, ZaF (.cons oWN (.cons Zf1 .nil)), ZoQ (sp := sp) (n := l.length) (kQN hw hn) _, fun N E h1 => ?_⟩ Q x h
  · rw [rQM]
    have wi : IntKind.wrap .i64 ((i : Int) + 1) = ((i + 1 : Nat) : Int) := Zas (n := 1) (by omega)
    have a1 : isJ [IntKind.i64] ((mZ l).getD i []) = true := Zau (j := 0) (n := 1) hw hl (by omega)
    have a2 : isJ [IntKind.i64] (List.drop 1 ((mZ l).getD i [])) = true := Zau (j := 1) (n := 1) hw hl (by omega)
    have a3 : isJ [IntKind.i64] (List.drop 2 ((mZ l).getD i [])) = true := Zau (j := 2) (n := 1) hw hl (by omega)
    simp only [Zaf, Int.ofNat_lt, hl, decide_true, cond_true, Int.natCast_nonneg, Bool.and_self, Int.toNat_natCast, a1, a2, a3, List.drop_zero, ZaB, Zb6, true_and, wi]
    unfold badR ok1 at h1 h2
    unfold wnm
    have ha : ∀ i', firstAt (fun j => ZbQ ((l.getD i []).getD 0 0) ((l.getD i []).getD 1 0) ((l.getD i []).getD 2 0) (l.getD j [])) i i' → (l.take i).any (ZbQ ((l.getD i []).getD 0 0) ((l.getD i []).getD 1 0) ((l.getD i []).getD 2 0)) = true := fun i' hi' => Zp9 (by omega) hi'
    have hb : noneTo (fun j => ZbQ ((l.getD i []).getD 0 0) ((l.getD i []).getD 1 0) ((l.getD i []).getD 2 0) (l.getD j [])) i → (l.take i).any (ZbQ ((l.getD i []).getD 0 0) ((l.getD i []).getD 1 0) ((l.getD i []).getD 2 0)) = false := fun hi' => ZnX (by omega) hi'
    revert h1 h2
    cases lab ((l.getD i []).getD 0 0) <;> cases ix4 ((l.getD i []).getD 1 0) <;> cases clk ((l.getD i []).getD 2 0) <;> intro h1 h2
    all_goals first | exact h1 rfl | exact ⟨fun i' hi' => h1 (by rw [ha i' hi']; rfl), fun hi' => h2 (by rw [hb hi']; rfl)⟩
  · rw [rQM]
    simp only [Zaf, Int.ofNat_lt, Nat.lt_irrefl, decide_false, cond_false, true_and]
    exact h1
theorem eQM (l : List (List Int)) (sp : List (List D)) (K : DV → Prop) : (askL Tryz.prog [] [(2, fQM l sp)] Tryz.f122 [dS 3 (mZ l) sp] K) = (stQM (mZ l) sp false (0) = stQM (mZ l) sp false (0) ∧ (∀ (i : Nat), firstAt (badR l) (List.length l) i → K (DV.c (D.v (Value.bool false)))) ∧ (noneTo (badR l) (List.length l) → K (DV.c (D.v (Value.bool (decide (@Nat.cast Int _ (List.length (mZ l)) ≤ 16))))))) := by kernel_rfl
theorem oQM : Zad Tryz.prog 122 sRM := o_of Tryz.func122 (by kernel_rfl) rfl fun ds Q h => by
  unfold sRM at h; split at h
  · rename_i R sp
    obtain ⟨h1, h2⟩ := Zae h
    obtain ⟨e1, w1, n1⟩ := Zai h1
    rw [e1]
    rw [← Zav R] at n1
    generalize toZ R = l at *
    refine ⟨_, ZaT (l := []) (m := [(2, fQM l sp)]) .nil mixed (Zqz rfl (by kernel_rfl) (by kernel_rfl) (kQM w1 n1)) Tryz.func122 rfl rfl rfl ?_, rfl, rfl, h2⟩
    rw [eQM]
    refine ⟨by trivial, fun i hi => ?_, fun hn => ?_⟩
    · rw [rmay, hi.b]; simp
    · rw [rmay, hn.b, Zaf]; by_cases hl : l.length ≤ 16 <;> simp [hl] <;> omega
  · exact h.elim
end

section
open Go Go.Proofs
def wdv (a b c d : List (List Int)) (r : List Int) : List Int := wrd (selA (r.getD 0 0) a b c d) (r.getD 1 0)
def thv (a b c d : List (List Int)) (r : List Int) : Bool := thr a.length b.length c.length d.length (r.getD 0 0) (r.getD 1 0)
def gets (a b c d l : List (List Int)) : Bool := amay a b c d && (rmay l && l.all (thv a b c d))
def gotW (a b c d l : List (List Int)) : List (List Int) := bif gets a b c d l then l.map (wdv a b c d) else []
def badC (a b c d : List (List Int)) (r : List Int) : Bool := (wdv a b c d r).getD 1 0 != r.getD 2 0
def sWo : Spec := fun ds Q => match ds with | [.c (.p 0 [.s 0 3 R0 p0, .s 0 3 R1 p1, .s 0 3 R2 p2, .s 0 3 R3 p3] 0), .c (.s 0 3 R sp)] => cond (okA R0 R1 R2 R3 && okZ 3 R) (Q (.tup [oS 3 (mZ (gotW (toZ R0) (toZ R1) (toZ R2) (toZ R3) (toZ R))) [], B (gets (toZ R0) (toZ R1) (toZ R2) (toZ R3) (toZ R))])) False | _ => False
def sRT : Spec := fun ds Q => match ds with | [.agg [.s 0 3 R0 p0, .s 0 3 R1 p1, .s 0 3 R2 p2, .s 0 3 R3 p3], .c (.s 0 3 R sp)] => cond (okA R0 R1 R2 R3 && okZ 3 R) (Q (B ((toZ R).all (thv (toZ R0) (toZ R1) (toZ R2) (toZ R3))))) False | _ => False
def stRT (R0 : List (List D)) (p0 : List (List D)) (R1 : List (List D)) (p1 : List (List D)) (R2 : List (List D)) (p2 : List (List D)) (R3 : List (List D)) (p3 : List (List D)) (R : List (List D)) (sp : List (List D)) (v : Bool) (i : Int) : X := ⟨mkT 25 [(1, aS 3 R sp), (2, .c (.rp 3 0 4 0 0)), (4, ab v), (5, ai i)], [(3, .bx 0 4 [.d (.s 0 3 R0 p0), .d (.s 0 3 R1 p1), .d (.s 0 3 R2 p2), .d (.s 0 3 R3 p3)])], [], []⟩
def Zgc (R0 : List (List D)) (p0 : List (List D)) (R1 : List (List D)) (p1 : List (List D)) (R2 : List (List D)) (p2 : List (List D)) (R3 : List (List D)) (p3 : List (List D)) (R : List (List D)) (sp : List (List D)) : Vw := fun y K => wB y 4 fun v => wI y 5 fun i => K (stRT R0 p0 R1 p1 R2 p2 R3 p3 R sp v i)
theorem ZhX (R0 : List (List D)) (p0 : List (List D)) (R1 : List (List D)) (p1 : List (List D)) (R2 : List (List D)) (p2 : List (List D)) (R3 : List (List D)) (p3 : List (List D)) (R : List (List D)) (sp : List (List D)) : VwOK (Zgc R0 p0 R1 p1 R2 p2 R3 p3 R sp) := fun y K h => by
  unfold Zgc at h
  obtain ⟨v, h⟩ := Zc1 h
  obtain ⟨i, h⟩ := ZbI h
  exact ⟨_, h⟩
theorem rRT (R0 : List (List D)) (p0 : List (List D)) (R1 : List (List D)) (p1 : List (List D)) (R2 : List (List D)) (p2 : List (List D)) (R3 : List (List D)) (p3 : List (List D)) (R : List (List D)) (sp : List (List D)) (v : Bool) (i : Int) (N : X → Prop) (E : Exit → X → Prop) : (Zb1 Tryz.prog (hkA band bor [(164, Zd7)] []) Tryz.f165 0 [] [1, 2, 4, 5] [3] (Zgc R0 p0 R1 p1 R2 p2 R3 p3 R sp) (fun _ => Zgc R0 p0 R1 p1 R2 p2 R3 p3 R sp) N E (stRT R0 p0 R1 p1 R2 p2 R3 p3 R sp v i)) = (bif decide (i < @Nat.cast Int _ (List.length R)) then bif decide (0 ≤ i) && decide (i < @Nat.cast Int _ (List.length R)) then bif isJ [IntKind.i64] (List.drop (0) (List.getD R (Int.toNat i) [])) then bif decide (0 ≤ i) && decide (i < @Nat.cast Int _ (List.length R)) then bif isJ [IntKind.i64] (List.drop (1) (List.getD R (Int.toNat i) [])) then bif !thr (List.length R0) (List.length R1) (List.length R2) (List.length R3) (hdJ (List.drop (0) (List.getD R (Int.toNat i) []))) (hdJ (List.drop (1) (List.getD R (Int.toNat i) []))) then stRT R0 p0 R1 p1 R2 p2 R3 p3 R sp false i = stRT R0 p0 R1 p1 R2 p2 R3 p3 R sp false i ∧ E Exit.ret (stRT R0 p0 R1 p1 R2 p2 R3 p3 R sp false i) else stRT R0 p0 R1 p1 R2 p2 R3 p3 R sp v (IntKind.wrap IntKind.i64 (i + 1)) = stRT R0 p0 R1 p1 R2 p2 R3 p3 R sp v (IntKind.wrap IntKind.i64 (i + 1)) ∧ N (stRT R0 p0 R1 p1 R2 p2 R3 p3 R sp v (IntKind.wrap IntKind.i64 (i + 1))) else False else False else False else False else stRT R0 p0 R1 p1 R2 p2 R3 p3 R sp v i = stRT R0 p0 R1 p1 R2 p2 R3 p3 R sp v i ∧ E (Exit.exit (0)) (stRT R0 p0 R1 p1 R2 p2 R3 p3 R sp v i)) := by kernel_rfl
end

section
open Go Go.Proofs
def fRT (a b c d l : List (List Int)) (sp p0 p1 p2 p3 : List (List D)) : LSum := ZcC [1, 2, 4, 5] [3] (fun i => stRT (mZ a) p0 (mZ b) p1 (mZ c) p2 (mZ d) p3 (mZ l) sp false i) (fun i => stRT (mZ a) p0 (mZ b) p1 (mZ c) p2 (mZ d) p3 (mZ l) sp false i) (l.length) (fun i => !thv a b c d (l.getD i [])) .ret (.exit 0)
theorem kRT {a b c d l : List (List Int)} {sp p0 p1 p2 p3 : List (List D)} (ha : wid 3 a) (hb : wid 3 b) (hc : wid 3 c) (hd : wid 3 d) (hw : wid 3 l) (hn : l.length ≤ 9223372036854775807) (Q : Exit → X → Prop) (x : X) (h : fRT a b c d l sp p0 p1 p2 p3 Q x) : XWP Tryz.prog (.loop (Zap Tryz.f165 0)) Q x := by
  refine Zck (sw := []) (V := Zgc (mZ a) p0 (mZ b) p1 (mZ c) p2 (mZ d) p3 (mZ l) sp) (VE := fun _ => Zgc (mZ a) p0 (mZ b) p1 (mZ c) p2 (mZ d) p3 (mZ l) sp) mixed (ZhX (mZ a) p0 (mZ b) p1 (mZ c) p2 (mZ d) p3 (mZ l) sp) (fun _ => ZhX (mZ a) p0 (mZ b) p1 (mZ c) p2 (mZ d) p3 (mZ l) sp) _ _ _ _ _ _ (fun i hl => ⟨hkA band bor [(164, Zd7)] [], ZaF (.cons Ziu .nil), Zag rfl, fun N E h1 h2 => ?_⟩) ⟨hkA band bor [(164, Zd7)] [], ZaF (.cons Ziu .nil), Zag rfl, fun N E h1 => ?_⟩ Q x h
  · rw [rRT]
    have wi : IntKind.wrap .i64 ((i : Int) + 1) = ((i + 1 : Nat) : Int) := Zas (n := 1) (by omega)
    have a0 : isJ [IntKind.i64] ((mZ l).getD i []) = true := Zau (j := 0) (n := 1) hw hl (by omega)
    have a1 : isJ [IntKind.i64] (List.drop 1 ((mZ l).getD i [])) = true := Zau (j := 1) (n := 1) hw hl (by omega)
    have a2 : isJ [IntKind.i64] (List.drop 2 ((mZ l).getD i [])) = true := Zau (j := 2) (n := 1) hw hl (by omega)
    have a3 : isJ [IntKind.i64, IntKind.i64, IntKind.i64] ((mZ l).getD i []) = true := Zau (j := 0) (n := 3) hw hl (by omega)
    simp only [Zaf, Int.ofNat_lt, hl, decide_true, cond_true, Int.natCast_nonneg, Bool.and_self, Int.toNat_natCast, a0, a1, a2, a3, List.drop_zero, ZaB, Zb6, ZaJ, ZaK, true_and, wi]
    unfold thv at h1 h2
    cases ht : thr a.length b.length c.length d.length ((l.getD i []).getD 0 0) ((l.getD i []).getD 1 0) with
    | false => exact h1 (by rw [ht]; rfl)
    | true => exact h2 (by rw [ht]; rfl)
  · rw [rRT]
    simp only [Zaf, Int.ofNat_lt, Nat.lt_irrefl, decide_false, cond_false, true_and]
    exact h1
theorem s4 {R0 R1 R2 R3 R : List (List D)} (h : (okA R0 R1 R2 R3 && okZ 3 R) = true) : (R0 = mZ (toZ R0) ∧ wid 3 (toZ R0) ∧ R1 = mZ (toZ R1) ∧ wid 3 (toZ R1) ∧ R2 = mZ (toZ R2) ∧ wid 3 (toZ R2) ∧ R3 = mZ (toZ R3) ∧ wid 3 (toZ R3)) ∧ R = mZ (toZ R) ∧ wid 3 (toZ R) ∧ (toZ R).length ≤ 9223372036854775807 := by
  rw [Bool.and_eq_true] at h
  obtain ⟨h1, h2⟩ := h
  obtain ⟨q0, q1, q2, q3⟩ := ZeC h1
  obtain ⟨a1, a2, _⟩ := Zai q0
  obtain ⟨b1, b2, _⟩ := Zai q1
  obtain ⟨c1, c2, _⟩ := Zai q2
  obtain ⟨d1, d2, _⟩ := Zai q3
  obtain ⟨e1, e2, e3⟩ := Zai h2
  exact ⟨⟨a1, a2, b1, b2, c1, c2, d1, d2⟩, e1, e2, by rw [Zav]; exact e3⟩
theorem eRT (a b c d l : List (List Int)) (sp p0 p1 p2 p3 : List (List D))  (K : DV → Prop) : (askL Tryz.prog [] [(2, fRT a b c d l sp p0 p1 p2 p3)] Tryz.f165 [dA (mZ a) p0 (mZ b) p1 (mZ c) p2 (mZ d) p3, dS 3 (mZ l) sp] K) = (stRT (mZ a) p0 (mZ b) p1 (mZ c) p2 (mZ d) p3 (mZ l) sp false (0) = stRT (mZ a) p0 (mZ b) p1 (mZ c) p2 (mZ d) p3 (mZ l) sp false (0) ∧ (∀ (i : Nat), firstAt (fun i => !thv a b c d (List.getD l i [])) (List.length l) i → K (DV.c (D.v (Value.bool false)))) ∧ (noneTo (fun i => !thv a b c d (List.getD l i [])) (List.length l) → K (DV.c (D.v (Value.bool true))))) := by kernel_rfl
end

section
open Go Go.Proofs
def cv (a b c d l : List (List Int)) : Bool := gets a b c d l && l.any (badC a b c d)
theorem ZpE {l : List (List Int)} {p : List Int → Bool} (h : l.any (fun r => !p r) = true) : l.all p = false := by
  rw [List.all_eq_not_any_not, h]; rfl
theorem Zoj {l : List (List Int)} {p : List Int → Bool} (h : l.any (fun r => !p r) = false) : l.all p = true := by
  rw [List.all_eq_not_any_not, h]; rfl
theorem oRT : Zad Tryz.prog 165 sRT := o_of Tryz.func165 (by kernel_rfl) rfl fun ds Q h => by
  unfold sRT at h; split at h
  · rename_i R0 p0 R1 p1 R2 p2 R3 p3 R sp
    obtain ⟨h1, h2⟩ := Zae h
    have hA := h1
    rw [Bool.and_eq_true] at hA
    obtain ⟨⟨a1, a2, b1, b2, c1, c2, d1, d2⟩, e1, e2, e3⟩ := s4 h1
    have hA' := hA
    rw [a1, b1, c1, d1, e1] at hA'
    rw [a1, b1, c1, d1, e1]
    generalize toZ R0 = a at *
    generalize toZ R1 = b at *
    generalize toZ R2 = c at *
    generalize toZ R3 = d at *
    generalize toZ R = l at *
    refine ⟨_, ZaT (l := []) (m := [(2, fRT a b c d l sp p0 p1 p2 p3)]) .nil mixed (Zcz rfl (by kernel_rfl) (kRT a2 b2 c2 d2 e2 e3)) Tryz.func165 rfl rfl rfl ?_, rfl, rfl, h2⟩
    rw [eRT]
    refine ⟨by trivial, fun i hi => ?_, fun hn => ?_⟩
    · have := hi.any (l := l) (d := []) (p := fun r => !thv a b c d r)
      rw [ZpE this]
    · have := hn.any (l := l) (d := []) (p := fun r => !thv a b c d r)
      rw [Zoj this]
  · exact h.elim
end

section
open Go Go.Proofs
def plc (x y : Int) : Int := IntKind.wrap .i64 (IntKind.wrap .i64 (4 * x) + y)
theorem ePl (x y : Int) (K : DV → Prop) : (ask Tryz.prog [] Tryz.f141 [I x, I y] K) = (K (DV.c (D.v (Value.int IntKind.i64 (IntKind.wrap IntKind.i64 (IntKind.wrap IntKind.i64 (4 * x) + y)))))) := by kernel_rfl
def sPl : Spec := fun ds Q => match ds with | [.c (.v (.int .i64 x)), .c (.v (.int .i64 y))] => Q (I (plc x y)) | _ => False
theorem oPl : Zad Tryz.prog 141 sPl := o_of Tryz.func141 (by kernel_rfl) rfl fun ds Q h => by
  unfold sPl at h; split at h
  · rename_i x y
    refine ⟨_, Zah .nil mixed Tryz.func141 rfl rfl rfl ?_, rfl, rfl, h⟩
    rw [ePl]; rfl
  · exact h.elim
def ior (a b : Int) : Int := bif a != 0 then a else b
theorem eOr (a b : Int) (K : DV → Prop) : (ask Tryz.prog [] Tryz.f180 [dS 1 [[vI a], [vI b]] []] K) = (bif a != 0 then K (DV.c (D.v (Value.int IntKind.i64 a))) else bif b != 0 then K (DV.c (D.v (Value.int IntKind.i64 b))) else K (DV.c (D.v (Value.int IntKind.i64 (0))))) := by kernel_rfl
def sOr : Spec := fun ds Q => match ds with | [.c (.s 0 1 [[.v (.int .i64 a)], [.v (.int .i64 b)]] [])] => Q (I (ior a b)) | _ => False
theorem oOr : Zad Tryz.prog 180 sOr := o_of Tryz.func180 (by kernel_rfl) rfl fun ds Q h => by
  unfold sOr at h; split at h
  · rename_i a b
    refine ⟨_, Zah .nil mixed Tryz.func180 rfl rfl rfl ?_, rfl, rfl, h⟩
    rw [eOr]; unfold ior
    cases ha : (a != 0) with
    | true => rfl
    | false =>
      by_cases hb : b = 0
      · subst hb; rfl
      · have : (b != 0) = true := by simpa using hb
        rw [this]; rfl
  · exact h.elim
theorem eRow (a b c x y z : Int) (K : DV → Prop) : (ask Tryz.prog [(180, sOr)] Tryz.f139 [.agg [vI a, vI b, vI c], .agg [vI x, vI y, vI z]] K) = (K (DV.c (D.v (Value.int IntKind.i64 (ior (IntKind.wrap IntKind.i64 (a - x)) (IntKind.wrap IntKind.i64 (b - y))))))) := by kernel_rfl
def rw3 (r : List Int) (a b : Int) : Int := ior (IntKind.wrap .i64 (r.getD 0 0 - a)) (IntKind.wrap .i64 (r.getD 1 0 - b))
def sRow : Spec := fun ds Q => match ds with | [.agg [.v (.int .i64 a), .v (.int .i64 b), .v (.int .i64 c)], .agg [.v (.int .i64 x), .v (.int .i64 y), .v (.int .i64 z)]] => Q (I (rw3 [a, b, c] x y)) | _ => False
theorem oRow : Zad Tryz.prog 139 sRow := o_of Tryz.func139 (by kernel_rfl) rfl fun ds Q h => by
  unfold sRow at h; split at h
  · rename_i a b c x y z
    refine ⟨_, Zah (.cons oOr .nil) mixed Tryz.func139 rfl rfl rfl ?_, rfl, rfl, h⟩
    rw [eRow]; rfl
  · exact h.elim
end

section
open Go Go.Proofs
def okw (r : List Int) : Bool := bif lab (r.getD 0 0) then bif ix4 (r.getD 1 0) then val8 (r.getD 2 0) else false else false
def Zew (l : List (List Int)) (i : Nat) : Bool := !okw (l.getD i []) || (decide (0 < i) && decide (rw3 (l.getD (i - 1) []) ((l.getD i []).getD 0 0) ((l.getD i []).getD 1 0) ≥ 0))
def ZfM (l : List (List Int)) : Bool := decide (l.length ≤ 16) && !(List.range l.length).any (Zew l)
def stWM (R sp : List (List D)) (v : Bool) (i : Int) : X := ⟨mkT 46 [(0, aS 3 R sp), (2, ab v), (5, aS 3 R sp), (6, ai R.length), (7, ai i)], [], [], []⟩
def vWM (R sp : List (List D)) : Vw := fun y K => wB y 2 fun v => wI y 7 fun i => K (stWM R sp v i)
theorem ZoK (R sp : List (List D)) : VwOK (vWM R sp) := fun y K h => by
  unfold vWM at h
  obtain ⟨v, h⟩ := Zc1 h
  obtain ⟨i, h⟩ := ZbI h
  exact ⟨_, h⟩
theorem rWM (R sp : List (List D)) (v : Bool) (i : Int) (N : X → Prop) (E : Exit → X → Prop) : (ZbZ Tryz.prog (hkA band bor [(64, sB lab), (153, sB ix4), (115, sB val8), (139, sRow)] []) Tryz.f106 0 [] [0, 2, 5, 6, 7] [] (vWM R sp) (vWM R sp) N E (stWM R sp v i)) = (bif decide (i < @Nat.cast Int _ (List.length R)) then bif decide (0 ≤ i) && decide (i < @Nat.cast Int _ (List.length R)) then bif isJ [IntKind.i64, IntKind.i64, IntKind.i64] (List.drop (0) (List.getD R (Int.toNat i) [])) then bif !lab (hdJ (List.drop (0) (List.getD R (Int.toNat i) []))) then stWM R sp false i = stWM R sp false i ∧ E Exit.ret (stWM R sp false i) else bif !ix4 (hdJ (List.tail (List.drop (0) (List.getD R (Int.toNat i) [])))) then stWM R sp false i = stWM R sp false i ∧ E Exit.ret (stWM R sp false i) else bif !val8 (hdJ (List.tail (List.tail (List.drop (0) (List.getD R (Int.toNat i) []))))) then stWM R sp false i = stWM R sp false i ∧ E Exit.ret (stWM R sp false i) else bif decide (i > 0) then bif decide (0 ≤ IntKind.wrap IntKind.i64 (i - 1)) && decide (IntKind.wrap IntKind.i64 (i - 1) < @Nat.cast Int _ (List.length R)) then bif isJ [IntKind.i64, IntKind.i64, IntKind.i64] (List.drop (0) (List.getD R (Int.toNat (IntKind.wrap IntKind.i64 (i - 1))) [])) then bif decide (rw3 [hdJ (List.drop (0) (List.getD R (Int.toNat (IntKind.wrap IntKind.i64 (i - 1))) [])), hdJ (List.tail (List.drop (0) (List.getD R (Int.toNat (IntKind.wrap IntKind.i64 (i - 1))) []))), hdJ (List.tail (List.tail (List.drop (0) (List.getD R (Int.toNat (IntKind.wrap IntKind.i64 (i - 1))) []))))] (hdJ (List.drop (0) (List.getD R (Int.toNat i) []))) (hdJ (List.tail (List.drop (0) (List.getD R (Int.toNat i) [])))) ≥ 0) then stWM R sp false i = stWM R sp false i ∧ E Exit.ret (stWM R sp false i) else stWM R sp v (IntKind.wrap IntKind.i64 (i + 1)) = stWM R sp v (IntKind.wrap IntKind.i64 (i + 1)) ∧ N (stWM R sp v (IntKind.wrap IntKind.i64 (i + 1))) else False else False else stWM R sp v (IntKind.wrap IntKind.i64 (i + 1)) = stWM R sp v (IntKind.wrap IntKind.i64 (i + 1)) ∧ N (stWM R sp v (IntKind.wrap IntKind.i64 (i + 1))) else False else False else stWM R sp v i = stWM R sp v i ∧ E (Exit.exit (0)) (stWM R sp v i)) := by kernel_rfl
def stWP (R sp : List (List D)) (v : Bool) (i : Int) : X := ⟨mkT 65 [(0, aS 3 R sp), (2, ab v), (3, ai i)], [], [], []⟩
def vWP (R sp : List (List D)) : Vw := fun y K => wB y 2 fun v => wI y 3 fun i => K (stWP R sp v i)
theorem ZoO (R sp : List (List D)) : VwOK (vWP R sp) := fun y K h => by
  unfold vWP at h
  obtain ⟨v, h⟩ := Zc1 h
  obtain ⟨i, h⟩ := ZbI h
  exact ⟨_, h⟩
theorem rWP (R sp : List (List D)) (v : Bool) (i : Int) (N : X → Prop) (E : Exit → X → Prop) : (ZbZ Tryz.prog (hkA band bor [(166, sWN), (91, sB val8), (141, sPl)] []) Tryz.f123 0 [] [0, 2, 3] [] (vWP R sp) (vWP R sp) N E (stWP R sp v i)) = (bif decide (i < @Nat.cast Int _ (List.length R)) then bif decide (0 ≤ i) && decide (i < @Nat.cast Int _ (List.length R)) then bif isJ [IntKind.i64] (List.drop (0) (List.getD R (Int.toNat i) [])) then bif decide (0 ≤ i) && decide (i < @Nat.cast Int _ (List.length R)) then bif isJ [IntKind.i64] (List.drop (1) (List.getD R (Int.toNat i) [])) then bif !wnm (hdJ (List.drop (0) (List.getD R (Int.toNat i) []))) (hdJ (List.drop (1) (List.getD R (Int.toNat i) []))) then stWP R sp false i = stWP R sp false i ∧ E Exit.ret (stWP R sp false i) else bif decide (0 ≤ i) && decide (i < @Nat.cast Int _ (List.length R)) then bif isJ [IntKind.i64] (List.drop (2) (List.getD R (Int.toNat i) [])) then bif !val8 (hdJ (List.drop (2) (List.getD R (Int.toNat i) []))) then stWP R sp false i = stWP R sp false i ∧ E Exit.ret (stWP R sp false i) else bif decide (i > 0) then bif decide (0 ≤ i) && decide (i < @Nat.cast Int _ (List.length R)) then bif isJ [IntKind.i64] (List.drop (0) (List.getD R (Int.toNat i) [])) then bif decide (0 ≤ i) && decide (i < @Nat.cast Int _ (List.length R)) then bif isJ [IntKind.i64] (List.drop (1) (List.getD R (Int.toNat i) [])) then bif decide (0 ≤ IntKind.wrap IntKind.i64 (i - 1)) && decide (IntKind.wrap IntKind.i64 (i - 1) < @Nat.cast Int _ (List.length R)) then bif isJ [IntKind.i64] (List.drop (0) (List.getD R (Int.toNat (IntKind.wrap IntKind.i64 (i - 1))) [])) then bif decide (0 ≤ IntKind.wrap IntKind.i64 (i - 1)) && decide (IntKind.wrap IntKind.i64 (i - 1) < @Nat.cast Int _ (List.length R)) then bif isJ [IntKind.i64] (List.drop (1) (List.getD R (Int.toNat (IntKind.wrap IntKind.i64 (i - 1))) [])) then bif decide (plc (hdJ (List.drop (0) (List.getD R (Int.toNat i) []))) (hdJ (List.drop (1) (List.getD R (Int.toNat i) []))) ≤ plc (hdJ (List.drop (0) (List.getD R (Int.toNat (IntKind.wrap IntKind.i64 (i - 1))) []))) (hdJ (List.drop (1) (List.getD R (Int.toNat (IntKind.wrap IntKind.i64 (i - 1))) [])))) then stWP R sp false i = stWP R sp false i ∧ E Exit.ret (stWP R sp false i) else stWP R sp v (IntKind.wrap IntKind.i64 (i + 1)) = stWP R sp v (IntKind.wrap IntKind.i64 (i + 1)) ∧ N (stWP R sp v (IntKind.wrap IntKind.i64 (i + 1))) else False else False else False else False else False else False else False else False else stWP R sp v (IntKind.wrap IntKind.i64 (i + 1)) = stWP R sp v (IntKind.wrap IntKind.i64 (i + 1)) ∧ N (stWP R sp v (IntKind.wrap IntKind.i64 (i + 1))) else False else False else False else False else False else False else stWP R sp v i = stWP R sp v i ∧ E (Exit.exit (0)) (stWP R sp v i)) := by kernel_rfl
theorem Zh5 {m : Nat} (h : m + 1 ≤ 9223372036854775807) : IntKind.wrap .i64 (((m + 1 : Nat) : Int) - 1) = ((m : Nat) : Int) := by rw [IntKind.wrap_i64]; omega
def fWM (l : List (List Int)) (sp : List (List D)) : LSum := ZcC [0, 2, 5, 6, 7] [] (fun i => stWM (mZ l) sp false i) (fun i => stWM (mZ l) sp false i) l.length (Zew l) .ret (.exit 0)
theorem kWM {l : List (List Int)} {sp : List (List D)} (hw : wid 3 l) (hn : l.length ≤ 9223372036854775807) (Q : Exit → X → Prop) (x : X) (h : fWM l sp Q x) : XWP Tryz.prog (.loop (Zap Tryz.f106 0)) Q x := by
  refine ZbF (H := hkA band bor [(64, sB lab), (153, sB ix4), (115, sB val8), (139, sRow)] []) (sw := []) (V := vWM (mZ l) sp) (VE := vWM (mZ l) sp) (ZaF (.cons oLab (.cons oIdx (.cons oVal (.cons oRow .nil))))) mixed (Zag rfl) (ZoK (mZ l) sp) (ZoK (mZ l) sp) _ _ _ _ _ _ (fun i hl N E h1 h2 => ?_) (fun N E h1 => ?_) Q x h
  · rw [rWM]
    have wi : IntKind.wrap .i64 ((i : Int) + 1) = ((i + 1 : Nat) : Int) := Zas (n := 1) (by omega)
    have hj1 : isJ [IntKind.i64, IntKind.i64, IntKind.i64] ((mZ l).getD i []) = true := Zau (j := 0) (n := 3) hw hl (by omega)
    have hz : decide (((i : Nat) : Int) > 0) = decide (0 < i) := by by_cases h : 0 < i <;> simp [h]
    simp only [Zaf, Int.ofNat_lt, hl, decide_true, cond_true, Int.natCast_nonneg, Bool.and_self, Int.toNat_natCast, ZaJ, ZaK, hj1, List.drop_zero, ZaB, true_and, wi, hz]
    unfold Zew okw at h1 h2
    revert h1 h2
    generalize lab ((l.getD i []).getD 0 0) = p1
    generalize ix4 ((l.getD i []).getD 1 0) = p2
    generalize val8 ((l.getD i []).getD 2 0) = p3
    intro h1 h2
    cases p1
    · exact h1 rfl
    cases p2
    · exact h1 rfl
    cases p3
    · exact h1 rfl
    by_cases h0 : 0 < i
    · obtain ⟨m, rfl⟩ : ∃ m, i = m + 1 := ⟨i - 1, by omega⟩
      have hlm : m < l.length := by omega
      have hj2 : isJ [IntKind.i64, IntKind.i64, IntKind.i64] ((mZ l).getD m []) = true := Zau (j := 0) (n := 3) hw hlm (by omega)
      have wp := Zh5 (m := m) (by omega)
      have hr : rw3 [(l.getD m []).getD 0 0, (l.getD m []).getD 1 0, (l.getD m []).getD 2 0] ((l.getD (m + 1) []).getD 0 0) ((l.getD (m + 1) []).getD 1 0) = rw3 (l.getD m []) ((l.getD (m + 1) []).getD 0 0) ((l.getD (m + 1) []).getD 1 0) := rfl
      simp only [h0, decide_true, cond_true, wp, Int.ofNat_lt, hlm, Int.natCast_nonneg, Bool.and_self, Int.toNat_natCast, hj2, ZaB, ZaJ, ZaK, hr, Nat.add_sub_cancel, Bool.not_true, Bool.true_and, Bool.false_or, cond_false] at h1 h2 ⊢
      cases hd : decide (rw3 (l.getD m []) ((l.getD (m + 1) []).getD 0 0) ((l.getD (m + 1) []).getD 1 0) ≥ 0) with
      | true => rw [hd] at h1; exact h1 rfl
      | false => rw [hd] at h2; exact h2 rfl
    · simp only [h0, decide_false, Bool.false_and, Bool.or_false, cond_true, Bool.not_true, cond_false] at h1 h2 ⊢
      exact h2 trivial
  · rw [rWM]
    simp only [Zaf, Int.ofNat_lt, Nat.lt_irrefl, decide_false, cond_false, true_and]
    exact h1
theorem eWM (l : List (List Int)) (sp : List (List D)) (K : DV → Prop) : (askL Tryz.prog [] [(2, fWM l sp)] Tryz.f106 [dS 3 (mZ l) sp] K) = (stWM (mZ l) sp false (0) = stWM (mZ l) sp false (0) ∧ (∀ (i : Nat), firstAt (Zew l) (List.length l) i → K (DV.c (D.v (Value.bool false)))) ∧ (noneTo (Zew l) (List.length l) → K (DV.c (D.v (Value.bool (decide (@Nat.cast Int _ (List.length (mZ l)) ≤ 16))))))) := by kernel_rfl
def sWMy : Spec := fun ds Q => match ds with | [.c (.s 0 3 R sp)] => cond (okZ 3 R) (Q (B (ZfM (toZ R)))) False | _ => False
theorem oWMy : Zad Tryz.prog 106 sWMy := o_of Tryz.func106 (by kernel_rfl) rfl fun ds Q h => by
  unfold sWMy at h; split at h
  · rename_i R sp
    obtain ⟨h1, h2⟩ := Zae h
    obtain ⟨e1, w1, n1⟩ := Zai h1
    rw [e1]
    rw [← Zav R] at n1
    generalize toZ R = l at *
    refine ⟨_, ZaT (l := []) (m := [(2, fWM l sp)]) .nil mixed (Zcz rfl (by kernel_rfl) (kWM w1 n1)) Tryz.func106 rfl rfl rfl ?_, rfl, rfl, h2⟩
    rw [eWM]
    refine ⟨rfl, fun i hi => ?_, fun hn => ?_⟩
    · unfold ZfM; rw [hi.b]; simp
    · unfold ZfM; rw [hn.b]
      by_cases h : l.length ≤ 16 <;> simp [Zaf, h] <;> omega
  · exact h.elim
def key (r : List Int) : Int := 4 * r.getD 0 0 + r.getD 1 0
def badP (l : List (List Int)) (i : Nat) : Bool := !okw (l.getD i []) || (decide (0 < i) && decide (plc ((l.getD i []).getD 0 0) ((l.getD i []).getD 1 0) ≤ plc ((l.getD (i - 1) []).getD 0 0) ((l.getD (i - 1) []).getD 1 0)))
def inW (r : List Int) : Prop := (0 ≤ r.getD 0 0 ∧ r.getD 0 0 ≤ 3) ∧ (0 ≤ r.getD 1 0 ∧ r.getD 1 0 ≤ 3)
theorem ZfL {x a b : Int} : upto x a b = true ↔ a ≤ x ∧ x ≤ b := by unfold upto; simp
theorem Zel {r : List Int} (h : okw r = true) : inW r ∧ 0 ≤ r.getD 2 0 ∧ r.getD 2 0 ≤ 255 := by
  unfold okw at h
  cases h1 : lab (r.getD 0 0) with
  | false => rw [h1] at h; cases h
  | true =>
    cases h2 : ix4 (r.getD 1 0) with
    | false => rw [h1, h2] at h; cases h
    | true => rw [h1, h2] at h; exact ⟨⟨ZfL.1 h1, ZfL.1 h2⟩, ZfL.1 h⟩
theorem wrap_small {x : Int} (h : -9223372036854775808 ≤ x ∧ x ≤ 9223372036854775807) : IntKind.wrap .i64 x = x := by rw [IntKind.wrap_i64]; omega
theorem Zg7 {r : List Int} (h : inW r) : plc (r.getD 0 0) (r.getD 1 0) = key r := by
  obtain ⟨⟨h1, h2⟩, h3, h4⟩ := h
  unfold plc key
  rw [wrap_small (x := 4 * r.getD 0 0) (by omega), wrap_small (by omega)]
theorem Zl8 {r : List Int} {a b : Int} (h : inW r) (ha : 0 ≤ a ∧ a ≤ 3) (hb : 0 ≤ b ∧ b ≤ 3) : (rw3 r a b < 0 ↔ key r < 4 * a + b) ∧ (rw3 r a b = 0 ↔ key r = 4 * a + b) := by
  obtain ⟨⟨h1, h2⟩, h3, h4⟩ := h
  unfold rw3 ior key
  rw [wrap_small (x := r.getD 0 0 - a) (by omega), wrap_small (x := r.getD 1 0 - b) (by omega)]
  generalize r.getD 0 0 = x at *
  generalize r.getD 1 0 = y at *
  cases hx : (x - a != 0) with
  | true => have hx : x - a ≠ 0 := by simpa using hx
            simp only [cond_true]; constructor <;> constructor <;> intro h <;> omega
  | false => have hx : x - a = 0 := by simpa using hx
             simp only [cond_false]; constructor <;> constructor <;> intro h <;> omega
def okWs (l : List (List Int)) : Prop := ∀ i, i < l.length → okw (l.getD i []) = true ∧ (0 < i → key (l.getD (i - 1) []) < key (l.getD i []))
theorem Zn9 (l : List (List Int)) : (List.range l.length).any (Zew l) = false ↔ okWs l := by
  rw [List.any_eq_false]
  constructor
  · intro h i hi
    have hb := h i (by simpa using hi)
    have hok : okw (l.getD i []) = true := by
      unfold Zew at hb
      cases hx : okw (l.getD i []) with
      | true => rfl
      | false => rw [hx] at hb; simp at hb
    refine ⟨hok, fun h0 => ?_⟩
    have hb1 := h (i - 1) (by simp; omega)
    have hok1 : okw (l.getD (i - 1) []) = true := by
      unfold Zew at hb1
      cases hx : okw (l.getD (i - 1) []) with
      | true => rfl
      | false => rw [hx] at hb1; simp at hb1
    unfold Zew at hb
    rw [hok] at hb
    have hr := (Zel hok).1
    have := (Zl8 (Zel hok1).1 hr.1 hr.2).1
    simp only [h0, decide_true, Bool.not_true, Bool.false_or, Bool.true_and, decide_eq_true_eq] at hb
    have := this.1 (by omega)
    unfold key at this ⊢
    omega
  · intro h i hi
    obtain ⟨h1, h2⟩ := h i (by simpa using hi)
    unfold Zew
    rw [h1]
    by_cases h0 : 0 < i
    · have hi' : i < l.length := by simpa using hi
      have hok1 := (h (i - 1) (by omega)).1
      have hr := (Zel h1).1
      have := (Zl8 (Zel hok1).1 hr.1 hr.2).1
      have := this.2 (by have := h2 h0; unfold key at this ⊢; omega)
      simp only [h0, decide_true, Bool.not_true, Bool.false_or, Bool.true_and, decide_eq_true_eq]; omega
    · simp only [h0, decide_false, Bool.not_true, Bool.false_or, Bool.false_and]; simp
theorem Zoz (l : List (List Int)) : (List.range l.length).any (badP l) = false ↔ okWs l := by
  rw [List.any_eq_false]
  constructor
  · intro h i hi
    have hb := h i (by simpa using hi)
    have hok : okw (l.getD i []) = true := by
      unfold badP at hb
      cases hx : okw (l.getD i []) with
      | true => rfl
      | false => rw [hx] at hb; simp at hb
    refine ⟨hok, fun h0 => ?_⟩
    have hb1 := h (i - 1) (by simp; omega)
    have hok1 : okw (l.getD (i - 1) []) = true := by
      unfold badP at hb1
      cases hx : okw (l.getD (i - 1) []) with
      | true => rfl
      | false => rw [hx] at hb1; simp at hb1
    unfold badP at hb
    rw [hok, Zg7 (Zel hok).1, Zg7 (Zel hok1).1] at hb
    simp only [h0, decide_true, Bool.not_true, Bool.false_or, Bool.true_and, decide_eq_true_eq] at hb
    omega
  · intro h i hi
    obtain ⟨h1, h2⟩ := h i (by simpa using hi)
    unfold badP
    rw [h1]
    by_cases h0 : 0 < i
    · have hi' : i < l.length := by simpa using hi
      have hok1 := (h (i - 1) (by omega)).1
      rw [Zg7 (Zel h1).1, Zg7 (Zel hok1).1]
      have := h2 h0
      simp only [h0, decide_true, Bool.not_true, Bool.false_or, Bool.true_and, decide_eq_true_eq]; omega
    · simp only [h0, decide_false, Bool.not_true, Bool.false_or, Bool.false_and]; simp
theorem Zrc (l : List (List Int)) : (List.range l.length).any (badP l) = (List.range l.length).any (Zew l) := by
  have h1 := Zoz l
  have h2 := Zn9 l
  cases hp : (List.range l.length).any (badP l) with
  | false => rw [h2.2 (h1.1 hp)]
  | true =>
    cases hw : (List.range l.length).any (Zew l) with
    | true => rfl
    | false => rw [h1.2 (h2.1 hw)] at hp; cases hp
def fWP (l : List (List Int)) (sp : List (List D)) : LSum := ZcC [0, 2, 3] [] (fun i => stWP (mZ l) sp false i) (fun i => stWP (mZ l) sp false i) l.length (badP l) .ret (.exit 0)
theorem kWP {l : List (List Int)} {sp : List (List D)} (hw : wid 3 l) (hn : l.length ≤ 9223372036854775807) (Q : Exit → X → Prop) (x : X) (h : fWP l sp Q x) : XWP Tryz.prog (.loop (Zap Tryz.f123 0)) Q x := by
  refine ZbF (H := hkA band bor [(166, sWN), (91, sB val8), (141, sPl)] []) (sw := []) (V := vWP (mZ l) sp) (VE := vWP (mZ l) sp) (ZaF (.cons oWN (.cons Zfc (.cons oPl .nil)))) mixed (Zag rfl) (ZoO (mZ l) sp) (ZoO (mZ l) sp) _ _ _ _ _ _ (fun i hl N E h1 h2 => ?_) (fun N E h1 => ?_) Q x h
  · rw [rWP]
    have wi : IntKind.wrap .i64 ((i : Int) + 1) = ((i + 1 : Nat) : Int) := Zas (n := 1) (by omega)
    have hj0 : isJ [IntKind.i64] (((mZ l).getD i [])) = true := ZcS (j := 0) hw hl (by omega)
    have hj1 : isJ [IntKind.i64] (((mZ l).getD i []).drop 1) = true := ZcS (j := 1) hw hl (by omega)
    have hj2 : isJ [IntKind.i64] (((mZ l).getD i []).drop 2) = true := ZcS (j := 2) hw hl (by omega)
    have hz : decide (((i : Nat) : Int) > 0) = decide (0 < i) := by by_cases h : 0 < i <;> simp [h]
    simp only [Zaf, Int.ofNat_lt, hl, decide_true, cond_true, Int.natCast_nonneg, Bool.and_self, Int.toNat_natCast, hj0, hj1, hj2, List.drop_zero, ZaB, Zb6, true_and, wi, hz]
    unfold badP okw at h1 h2
    unfold wnm
    revert h1 h2
    generalize lab ((l.getD i []).getD 0 0) = p1
    generalize ix4 ((l.getD i []).getD 1 0) = p2
    generalize val8 ((l.getD i []).getD 2 0) = p3
    intro h1 h2
    cases p1
    · exact h1 rfl
    cases p2
    · exact h1 rfl
    cases p3
    · exact h1 rfl
    by_cases h0 : 0 < i
    · obtain ⟨m, rfl⟩ : ∃ m, i = m + 1 := ⟨i - 1, by omega⟩
      have hlm : m < l.length := by omega
      have hk0 : isJ [IntKind.i64] (((mZ l).getD m [])) = true := ZcS (j := 0) hw hlm (by omega)
      have hk1 : isJ [IntKind.i64] (((mZ l).getD m []).drop 1) = true := ZcS (j := 1) hw hlm (by omega)
      have wp := Zh5 (m := m) (by omega)
      simp only [h0, decide_true, cond_true, wp, Int.ofNat_lt, hlm, Int.natCast_nonneg, Bool.and_self, Int.toNat_natCast, hk0, hk1, ZaB, Zb6, Nat.add_sub_cancel, Bool.not_true, Bool.true_and, Bool.false_or, cond_false] at h1 h2 ⊢
      cases hd : decide (plc ((l.getD (m + 1) []).getD 0 0) ((l.getD (m + 1) []).getD 1 0) ≤ plc ((l.getD m []).getD 0 0) ((l.getD m []).getD 1 0)) with
      | true => rw [hd] at h1; exact h1 rfl
      | false => rw [hd] at h2; exact h2 rfl
    · simp only [h0, decide_false, Bool.false_and, Bool.or_false, cond_true, Bool.not_true, cond_false] at h1 h2 ⊢
      exact h2 trivial
  · rw [rWP]
    simp only [Zaf, Int.ofNat_lt, Nat.lt_irrefl, decide_false, cond_false, true_and]
    exact h1
theorem eWP (l : List (List Int)) (sp : List (List D)) (K : DV → Prop) : (askL Tryz.prog [] [(2, fWP l sp)] Tryz.f123 [dS 3 (mZ l) sp] K) = (stWP (mZ l) sp false (0) = stWP (mZ l) sp false (0) ∧ (∀ (i : Nat), firstAt (badP l) (List.length l) i → K (DV.c (D.v (Value.bool false)))) ∧ (noneTo (badP l) (List.length l) → K (DV.c (D.v (Value.bool (decide (@Nat.cast Int _ (List.length (mZ l)) ≤ 16))))))) := by kernel_rfl
theorem oWPy : Zad Tryz.prog 123 sWMy := o_of Tryz.func123 (by kernel_rfl) rfl fun ds Q h => by
  unfold sWMy at h; split at h
  · rename_i R sp
    obtain ⟨h1, h2⟩ := Zae h
    obtain ⟨e1, w1, n1⟩ := Zai h1
    rw [e1]
    rw [← Zav R] at n1
    generalize toZ R = l at *
    refine ⟨_, ZaT (l := []) (m := [(2, fWP l sp)]) .nil mixed (Zcz rfl (by kernel_rfl) (kWP w1 n1)) Tryz.func123 rfl rfl rfl ?_, rfl, rfl, h2⟩
    rw [eWP]
    refine ⟨rfl, fun i hi => ?_, fun hn => ?_⟩
    · unfold ZfM; rw [← Zrc, hi.b]; simp
    · unfold ZfM; rw [← Zrc, hn.b]
      by_cases h : l.length ≤ 16 <;> simp [Zaf, h] <;> omega
  · exact h.elim
end

section
open Go Go.Proofs
def in64 (x : Int) : Bool := decide (-9223372036854775808 ≤ x) && decide (x ≤ 9223372036854775807)
end

section
open Go Go.Proofs
theorem o_al {f : FuncId} {fn : Func} {s : Spec} (hf : Tryz.prog.funcs[f]? = some fn) (hn : (fn.name == "runtime.NumGoroutine") = false) (hb : fn.body.isNone = false) (hc : ∀ ds Q, s ds Q → ∃ es r, All2 AL ds es ∧ CT Tryz.prog f es r ∧ r.pureOwn = true ∧ r.fit32 = true ∧ Q r) : Zad Tryz.prog f s := fun ds Q h => ⟨Zan hf hn hb, by
  obtain ⟨es, r, h0, h1, h2, h3, h4⟩ := hc ds Q h
  exact ⟨r, h1.args h0, .inl h2, h3, h4⟩⟩
theorem RD.shift {t t' off n : Nat} {cs : List D} : RD (.p t cs off) (.p t' ((cs.drop off).take n) 0) := fun w G v hv => by
  cases hv with
  | p _ _ b o _ vs hb hc hd =>
    have := DR.p (w := w) (G := G) t' ((cs.drop off).take n) b (o + off) 0 (fun j => vs (off + j)) hb (fun j hj => by
      have : off + j < cs.length := by simp at hj; omega
      rw [Nat.add_assoc]; exact hc (off + j) this) (fun j d hj => by
      rw [List.getElem?_take] at hj
      split at hj
      · rw [List.getElem?_drop] at hj
        exact hd (off + j) d hj
      · cases hj)
    simpa using this
theorem RD.trans {a b c : D} (h : RD a b) (h' : RD b c) : RD a c := fun w G v hv => h' w G v (h w G v hv)
theorem RD.f {fn : FuncId} {fs fs' cs cs' : List D} (h : All2 RD fs fs') (h' : All2 RD cs cs') (hn : fn ≠ AG) : RD (.f fn fs cs) (.f fn fs' cs') := fun w G v hv => by
  cases hv with
  | a => exact (hn rfl).elim
  | f _ _ _ fv cv h0 h1 h2 h3 h4 =>
    refine .f fn fs' cs' fv cv h0 (by rw [← h.len]; exact h1) (by rw [← h'.len]; exact h2) (fun i d hi => ?_) (fun i d hi => ?_)
    · obtain ⟨d0, g1, g2⟩ := h.get hi
      exact g2 _ _ _ (h3 i d0 g1)
    · obtain ⟨d0, g1, g2⟩ := h'.get hi
      exact g2 _ _ _ (h4 i d0 g1)
theorem RD.ag {cs cs' : List D} (h' : All2 RD cs cs') : RD (.f AG [] cs) (.f AG [] cs') := fun w G v hv => by
  cases hv with
  | f _ _ _ fv cv h0 => exact (h0 rfl).elim
  | a _ vs h1 h2 =>
    refine .a cs' vs (by rw [← h'.len]; exact h1) fun i d hi => ?_
    obtain ⟨d0, g1, g2⟩ := h'.get hi
    exact g2 _ _ _ (h2 i d0 g1)
def Zqu (cs : List D) (K : Int → Int → Int → Int → Prop) : Prop := match cs with
  | a :: b :: c :: d :: _ => Zbo a fun a => Zbo b fun b => Zbo c fun c => Zbo d fun d => K a b c d
  | _ => False
theorem Zlh {cs : List D} {K : Int → Int → Int → Int → Prop} (h : Zqu cs K) : ∃ a b c d, K a b c d ∧ All2 RD (cs.take 4) [vN a, vN b, vN c, vN d] := by
  unfold Zqu at h
  split at h
  · obtain ⟨a, h, e0⟩ := Zak h
    obtain ⟨b, h, e1⟩ := Zak h
    obtain ⟨c, h, e2⟩ := Zak h
    obtain ⟨d, h, e3⟩ := Zak h
    exact ⟨a, b, c, d, h, .cons e0 (.cons e1 (.cons e2 (.cons e3 .nil)))⟩
  · exact h.elim
def ZkI (d : D) (K : Int → Int → Int → Int → Prop) : Prop := match d with
  | .p _ cs off => Zqu (cs.drop off) K
  | _ => False
theorem ZfK {d : D} {K : Int → Int → Int → Int → Prop} (h : ZkI d K) : ∃ a b c e, K a b c e ∧ RD d (.p 0 [vN a, vN b, vN c, vN e] 0) ∧ d.isOwn = false := by
  unfold ZkI at h
  split at h
  · obtain ⟨a, b, c, d, h, e⟩ := Zlh h
    exact ⟨a, b, c, d, h, (RD.shift (t' := 0)).trans (RD.cells e), rfl⟩
  · exact h.elim
def Zj9 (cs : List D) (K : List (List D) → List (List D) → List (List D) → List (List D) → Prop) : Prop := match cs with
  | a :: b :: c :: d :: _ => ZbH 3 a fun a => ZbH 3 b fun b => ZbH 3 c fun c => ZbH 3 d fun d => K a b c d
  | _ => False
abbrev wsL (a b c d : List (List D)) : List D := [.s 0 3 a [], .s 0 3 b [], .s 0 3 c [], .s 0 3 d []]
theorem Zfz {cs : List D} {K : List (List D) → List (List D) → List (List D) → List (List D) → Prop} (h : Zj9 cs K) : ∃ a b c d, K a b c d ∧ All2 RD (cs.take 4) (wsL a b c d) := by
  unfold Zj9 at h
  split at h
  · obtain ⟨a, h, e0⟩ := Zam h
    obtain ⟨b, h, e1⟩ := Zam h
    obtain ⟨c, h, e2⟩ := Zam h
    obtain ⟨d, h, e3⟩ := Zam h
    exact ⟨a, b, c, d, h, .cons e0 (.cons e1 (.cons e2 (.cons e3 .nil)))⟩
  · exact h.elim
def ZkD (d : D) (K : List (List D) → List (List D) → List (List D) → List (List D) → Prop) : Prop := match d with
  | .p _ cs off => Zj9 (cs.drop off) K
  | _ => False
theorem ZeX {d : D} {K : List (List D) → List (List D) → List (List D) → List (List D) → Prop} (h : ZkD d K) : ∃ a b c e, K a b c e ∧ RD d (.p 0 (wsL a b c e) 0) ∧ d.isOwn = false := by
  unfold ZkD at h
  split at h
  · obtain ⟨a, b, c, d, h, e⟩ := Zfz h
    exact ⟨a, b, c, d, h, (RD.shift (t' := 0)).trans (RD.cells e), rfl⟩
  · exact h.elim
def sNo : Spec := fun ds Q => match ds with | [.c (.v (.int .i64 x))] => lab x = false ∧ Q (B false) | _ => False
theorem oNo {f : FuncId} (h : Zad Tryz.prog f (sB lab)) : Zad Tryz.prog f sNo := fun ds Q hq => by
  unfold sNo at hq; split at hq
  · rename_i x
    exact h [I x] Q (by show Q (B (lab x)); rw [hq.1]; exact hq.2)
  · exact hq.elim
def v4 (a b c d : Int) : Bool := val8 a && (val8 b && (val8 c && val8 d))
theorem eRgM (a b c d : Int) (K : DV → Prop) : (ask Tryz.prog [(115, sB val8)] Tryz.f114 [.c (.p 0 [vi a, vi b, vi c, vi d] 0)] K) = (bif !val8 a then K (DV.c (D.v (Value.bool false))) else bif !val8 b then K (DV.c (D.v (Value.bool false))) else bif !val8 c then K (DV.c (D.v (Value.bool false))) else bif !val8 d then K (DV.c (D.v (Value.bool false))) else K (DV.c (D.v (Value.bool true)))) := by kernel_rfl
theorem cRgM (a b c d : Int) : CT Tryz.prog 114 [.c (.p 0 [vi a, vi b, vi c, vi d] 0)] (B (v4 a b c d)) := Zah (.cons oVal .nil) mixed Tryz.func114 rfl rfl rfl (by
  rw [eRgM]; unfold v4; cases val8 a <;> cases val8 b <;> cases val8 c <;> cases val8 d <;> rfl)
def ZhN : Spec := fun ds Q => match ds with | [.c (.p 0 [.v (.int .i64 a), .v (.int .i64 b), .v (.int .i64 c), .v (.int .i64 d)] 0)] => Q (B (v4 a b c d)) | _ => False
theorem Zpr : Zad Tryz.prog 114 ZhN := fun ds Q h => by
  unfold ZhN at h; split at h
  · exact ⟨Zan Tryz.func114 (by kernel_rfl) rfl, _, cRgM _ _ _ _, .inl rfl, rfl, h⟩
  · exact h.elim
theorem Zsh (a b c d : Int) (K : DV → Prop) : (ask Tryz.prog [(91, sB val8)] Tryz.f121 [.agg [vi a, vi b, vi c, vi d]] K) = (bif !val8 a then K (DV.c (D.v (Value.bool false))) else bif !val8 b then K (DV.c (D.v (Value.bool false))) else bif !val8 c then K (DV.c (D.v (Value.bool false))) else bif !val8 d then K (DV.c (D.v (Value.bool false))) else K (DV.c (D.v (Value.bool true)))) := by kernel_rfl
theorem ZsG (a b c d : Int) : CT Tryz.prog 121 [.agg [vi a, vi b, vi c, vi d]] (B (v4 a b c d)) := Zah (.cons Zfc .nil) mixed Tryz.func121 rfl rfl rfl (by
  rw [Zsh]; unfold v4; cases val8 a <;> cases val8 b <;> cases val8 c <;> cases val8 d <;> rfl)
def Zow : Spec := fun ds Q => match ds with | [.agg [.v (.int .i64 a), .v (.int .i64 b), .v (.int .i64 c), .v (.int .i64 d)]] => Q (B (v4 a b c d)) | _ => False
theorem ZrG : Zad Tryz.prog 121 Zow := fun ds Q h => by
  unfold Zow at h; split at h
  · exact ⟨Zan Tryz.func121 (by kernel_rfl) rfl, _, ZsG _ _ _ _, .inl rfl, rfl, h⟩
  · exact h.elim
structure N5 where (a b c d e : Int)
abbrev N5.dv (n : N5) : DV := .tup [.agg [vi n.a, vi n.b, vi n.c, vi n.d], I n.e]
def ZcH (a b c d i v : Int) : N5 := if i = 0 then ⟨v, b, c, d, 0⟩ else if i = 1 then ⟨a, v, c, d, 0⟩ else if i = 2 then ⟨a, b, v, d, 0⟩ else ⟨a, b, c, v, 0⟩
def ZhV (a b c d i : Int) : Int := if i = 0 then a else if i = 1 then b else if i = 2 then c else d
def setR (a b c d i v : Int) : N5 := if v4 a b c d && (lab i && val8 v) then ZcH a b c d i v else ⟨0, 0, 0, 0, 600⟩
def addR (a b c d i j : Int) : N5 := if v4 a b c d && (lab i && lab j) then ZcH a b c d i ((ZhV a b c d i + ZhV a b c d j) % 256) else ⟨0, 0, 0, 0, 600⟩
theorem ZrH (a b c d i v : Int) (K : DV → Prop) : (ask Tryz.prog [(114, ZhN), (135, sNo), (115, sB val8)] Tryz.f81 [.agg [vi a, vi b, vi c, vi d], I i, I v] K) = (bif !v4 a b c d then K (DV.tup [DV.agg [D.v (Value.int IntKind.i64 (0)), D.v (Value.int IntKind.i64 (0)), D.v (Value.int IntKind.i64 (0)), D.v (Value.int IntKind.i64 (0))], DV.c (D.v (Value.int IntKind.i64 (600)))]) else lab i = false ∧ K (DV.tup [DV.agg [D.v (Value.int IntKind.i64 (0)), D.v (Value.int IntKind.i64 (0)), D.v (Value.int IntKind.i64 (0)), D.v (Value.int IntKind.i64 (0))], DV.c (D.v (Value.int IntKind.i64 (600)))])) := by kernel_rfl
theorem ZrJ (a b c d v : Int) (K : DV → Prop) : (ask Tryz.prog [(114, ZhN), (135, sB lab), (115, sB val8)] Tryz.f81 [.agg [vi a, vi b, vi c, vi d], I 0, I v] K) = (bif !v4 a b c d then K (DV.tup [DV.agg [D.v (Value.int IntKind.i64 (0)), D.v (Value.int IntKind.i64 (0)), D.v (Value.int IntKind.i64 (0)), D.v (Value.int IntKind.i64 (0))], DV.c (D.v (Value.int IntKind.i64 (600)))]) else bif !val8 v then K (DV.tup [DV.agg [D.v (Value.int IntKind.i64 (0)), D.v (Value.int IntKind.i64 (0)), D.v (Value.int IntKind.i64 (0)), D.v (Value.int IntKind.i64 (0))], DV.c (D.v (Value.int IntKind.i64 (600)))]) else K (DV.tup [DV.agg [D.v (Value.int IntKind.i64 v), D.v (Value.int IntKind.i64 b), D.v (Value.int IntKind.i64 c), D.v (Value.int IntKind.i64 d)], DV.c (D.v (Value.int IntKind.i64 (0)))])) := by kernel_rfl
theorem Zrw (a b c d v : Int) (K : DV → Prop) : (ask Tryz.prog [(114, ZhN), (135, sB lab), (115, sB val8)] Tryz.f81 [.agg [vi a, vi b, vi c, vi d], I 1, I v] K) = (bif !v4 a b c d then K (DV.tup [DV.agg [D.v (Value.int IntKind.i64 (0)), D.v (Value.int IntKind.i64 (0)), D.v (Value.int IntKind.i64 (0)), D.v (Value.int IntKind.i64 (0))], DV.c (D.v (Value.int IntKind.i64 (600)))]) else bif !val8 v then K (DV.tup [DV.agg [D.v (Value.int IntKind.i64 (0)), D.v (Value.int IntKind.i64 (0)), D.v (Value.int IntKind.i64 (0)), D.v (Value.int IntKind.i64 (0))], DV.c (D.v (Value.int IntKind.i64 (600)))]) else K (DV.tup [DV.agg [D.v (Value.int IntKind.i64 a), D.v (Value.int IntKind.i64 v), D.v (Value.int IntKind.i64 c), D.v (Value.int IntKind.i64 d)], DV.c (D.v (Value.int IntKind.i64 (0)))])) := by kernel_rfl
theorem ZqK (a b c d v : Int) (K : DV → Prop) : (ask Tryz.prog [(114, ZhN), (135, sB lab), (115, sB val8)] Tryz.f81 [.agg [vi a, vi b, vi c, vi d], I 2, I v] K) = (bif !v4 a b c d then K (DV.tup [DV.agg [D.v (Value.int IntKind.i64 (0)), D.v (Value.int IntKind.i64 (0)), D.v (Value.int IntKind.i64 (0)), D.v (Value.int IntKind.i64 (0))], DV.c (D.v (Value.int IntKind.i64 (600)))]) else bif !val8 v then K (DV.tup [DV.agg [D.v (Value.int IntKind.i64 (0)), D.v (Value.int IntKind.i64 (0)), D.v (Value.int IntKind.i64 (0)), D.v (Value.int IntKind.i64 (0))], DV.c (D.v (Value.int IntKind.i64 (600)))]) else K (DV.tup [DV.agg [D.v (Value.int IntKind.i64 a), D.v (Value.int IntKind.i64 b), D.v (Value.int IntKind.i64 v), D.v (Value.int IntKind.i64 d)], DV.c (D.v (Value.int IntKind.i64 (0)))])) := by kernel_rfl
theorem ZrI (a b c d v : Int) (K : DV → Prop) : (ask Tryz.prog [(114, ZhN), (135, sB lab), (115, sB val8)] Tryz.f81 [.agg [vi a, vi b, vi c, vi d], I 3, I v] K) = (bif !v4 a b c d then K (DV.tup [DV.agg [D.v (Value.int IntKind.i64 (0)), D.v (Value.int IntKind.i64 (0)), D.v (Value.int IntKind.i64 (0)), D.v (Value.int IntKind.i64 (0))], DV.c (D.v (Value.int IntKind.i64 (600)))]) else bif !val8 v then K (DV.tup [DV.agg [D.v (Value.int IntKind.i64 (0)), D.v (Value.int IntKind.i64 (0)), D.v (Value.int IntKind.i64 (0)), D.v (Value.int IntKind.i64 (0))], DV.c (D.v (Value.int IntKind.i64 (600)))]) else K (DV.tup [DV.agg [D.v (Value.int IntKind.i64 a), D.v (Value.int IntKind.i64 b), D.v (Value.int IntKind.i64 c), D.v (Value.int IntKind.i64 v)], DV.c (D.v (Value.int IntKind.i64 (0)))])) := by kernel_rfl
theorem Zsw (a b c d i v : Int) : CT Tryz.prog 81 [.agg [vi a, vi b, vi c, vi d], I i, I v] (setR a b c d i v).dv := by
  cases hl : lab i with
  | true =>
    rcases ZcR hl with rfl | rfl | rfl | rfl <;> refine Zah (.cons Zpr (.cons oReg (.cons oVal .nil))) mixed Tryz.func81 rfl rfl rfl ?_
    · rw [ZrJ]; cases h1 : v4 a b c d <;> cases h2 : val8 v <;> simp [setR, ZcH, h1, h2, lab0]
    · rw [Zrw]; cases h1 : v4 a b c d <;> cases h2 : val8 v <;> simp [setR, ZcH, h1, h2, lab1]
    · rw [ZqK]; cases h1 : v4 a b c d <;> cases h2 : val8 v <;> simp [setR, ZcH, h1, h2, lab2]
    · rw [ZrI]; cases h1 : v4 a b c d <;> cases h2 : val8 v <;> simp [setR, ZcH, h1, h2, lab3]
  | false =>
    refine Zah (.cons Zpr (.cons (oNo oReg) (.cons oVal .nil))) mixed Tryz.func81 rfl rfl rfl ?_
    rw [ZrH]; cases h1 : v4 a b c d <;> simp [setR, h1, hl]
def sSet : Spec := fun ds Q => match ds with | [.agg [.v (.int .i64 a), .v (.int .i64 b), .v (.int .i64 c), .v (.int .i64 d)], .c (.v (.int .i64 l)), .c (.v (.int .i64 m))] => Q (setR a b c d l m).dv | _ => False
theorem oSet {f : FuncId} {fn : Func} (hf : Tryz.prog.funcs[f]? = some fn) (hn : (fn.name == "runtime.NumGoroutine") = false) (hb : fn.body.isNone = false) (hc : ∀ a b c d l m, CT Tryz.prog f [.agg [vi a, vi b, vi c, vi d], I l, I m] (setR a b c d l m).dv) : Zad Tryz.prog f sSet := fun ds Q h => by
  unfold sSet at h; split at h
  · exact ⟨Zan hf hn hb, _, hc _ _ _ _ _ _, .inl rfl, rfl, h⟩
  · exact h.elim
theorem Zri : Zad Tryz.prog 81 sSet := oSet Tryz.func81 (by kernel_rfl) rfl Zsw
theorem ZsM (i2f : Int → Nat) (f2i : Nat → Int) (fok : Nat → Bool) (a b c d i j : Int) (K : DV → Prop) : (askF i2f f2i fok Tryz.prog [(114, ZhN), (135, sB lab), (81, sSet)] Tryz.f82 [.agg [vi a, vi b, vi c, vi d], I i, I j] K) = (bif !v4 a b c d then K (DV.tup [DV.agg [D.v (Value.int IntKind.i64 (0)), D.v (Value.int IntKind.i64 (0)), D.v (Value.int IntKind.i64 (0)), D.v (Value.int IntKind.i64 (0))], DV.c (D.v (Value.int IntKind.i64 (600)))]) else bif !lab i then K (DV.tup [DV.agg [D.v (Value.int IntKind.i64 (0)), D.v (Value.int IntKind.i64 (0)), D.v (Value.int IntKind.i64 (0)), D.v (Value.int IntKind.i64 (0))], DV.c (D.v (Value.int IntKind.i64 (600)))]) else bif !lab j then K (DV.tup [DV.agg [D.v (Value.int IntKind.i64 (0)), D.v (Value.int IntKind.i64 (0)), D.v (Value.int IntKind.i64 (0)), D.v (Value.int IntKind.i64 (0))], DV.c (D.v (Value.int IntKind.i64 (600)))]) else bif decide (0 ≤ i) && decide (i < 4) then bif isK [IntKind.i64] (List.drop (addN (0) (mulN (Int.toNat i) (1))) [C.d (D.v (Value.int IntKind.i64 a)), C.d (D.v (Value.int IntKind.i64 b)), C.d (D.v (Value.int IntKind.i64 c)), C.d (D.v (Value.int IntKind.i64 d))]) then bif decide (0 ≤ j) && decide (j < 4) then bif isK [IntKind.i64] (List.drop (addN (0) (mulN (Int.toNat j) (1))) [C.d (D.v (Value.int IntKind.i64 a)), C.d (D.v (Value.int IntKind.i64 b)), C.d (D.v (Value.int IntKind.i64 c)), C.d (D.v (Value.int IntKind.i64 d))]) then bif fok (i2f (hdI (List.drop (addN (0) (mulN (Int.toNat i) (1))) [C.d (D.v (Value.int IntKind.i64 a)), C.d (D.v (Value.int IntKind.i64 b)), C.d (D.v (Value.int IntKind.i64 c)), C.d (D.v (Value.int IntKind.i64 d))]))) then bif fok (i2f (hdI (List.drop (addN (0) (mulN (Int.toNat j) (1))) [C.d (D.v (Value.int IntKind.i64 a)), C.d (D.v (Value.int IntKind.i64 b)), C.d (D.v (Value.int IntKind.i64 c)), C.d (D.v (Value.int IntKind.i64 d))]))) then K (DV.tup [DV.agg [D.v (Value.int IntKind.i64 (setR a b c d i (Int.tmod (IntKind.wrap IntKind.i64 (f2i (i2f (hdI (List.drop (addN (0) (mulN (Int.toNat i) (1))) [C.d (D.v (Value.int IntKind.i64 a)), C.d (D.v (Value.int IntKind.i64 b)), C.d (D.v (Value.int IntKind.i64 c)), C.d (D.v (Value.int IntKind.i64 d))]))) + f2i (i2f (hdI (List.drop (addN (0) (mulN (Int.toNat j) (1))) [C.d (D.v (Value.int IntKind.i64 a)), C.d (D.v (Value.int IntKind.i64 b)), C.d (D.v (Value.int IntKind.i64 c)), C.d (D.v (Value.int IntKind.i64 d))]))))) (256))).a), D.v (Value.int IntKind.i64 (setR a b c d i (Int.tmod (IntKind.wrap IntKind.i64 (f2i (i2f (hdI (List.drop (addN (0) (mulN (Int.toNat i) (1))) [C.d (D.v (Value.int IntKind.i64 a)), C.d (D.v (Value.int IntKind.i64 b)), C.d (D.v (Value.int IntKind.i64 c)), C.d (D.v (Value.int IntKind.i64 d))]))) + f2i (i2f (hdI (List.drop (addN (0) (mulN (Int.toNat j) (1))) [C.d (D.v (Value.int IntKind.i64 a)), C.d (D.v (Value.int IntKind.i64 b)), C.d (D.v (Value.int IntKind.i64 c)), C.d (D.v (Value.int IntKind.i64 d))]))))) (256))).b), D.v (Value.int IntKind.i64 (setR a b c d i (Int.tmod (IntKind.wrap IntKind.i64 (f2i (i2f (hdI (List.drop (addN (0) (mulN (Int.toNat i) (1))) [C.d (D.v (Value.int IntKind.i64 a)), C.d (D.v (Value.int IntKind.i64 b)), C.d (D.v (Value.int IntKind.i64 c)), C.d (D.v (Value.int IntKind.i64 d))]))) + f2i (i2f (hdI (List.drop (addN (0) (mulN (Int.toNat j) (1))) [C.d (D.v (Value.int IntKind.i64 a)), C.d (D.v (Value.int IntKind.i64 b)), C.d (D.v (Value.int IntKind.i64 c)), C.d (D.v (Value.int IntKind.i64 d))]))))) (256))).c), D.v (Value.int IntKind.i64 (setR a b c d i (Int.tmod (IntKind.wrap IntKind.i64 (f2i (i2f (hdI (List.drop (addN (0) (mulN (Int.toNat i) (1))) [C.d (D.v (Value.int IntKind.i64 a)), C.d (D.v (Value.int IntKind.i64 b)), C.d (D.v (Value.int IntKind.i64 c)), C.d (D.v (Value.int IntKind.i64 d))]))) + f2i (i2f (hdI (List.drop (addN (0) (mulN (Int.toNat j) (1))) [C.d (D.v (Value.int IntKind.i64 a)), C.d (D.v (Value.int IntKind.i64 b)), C.d (D.v (Value.int IntKind.i64 c)), C.d (D.v (Value.int IntKind.i64 d))]))))) (256))).d)], DV.c (D.v (Value.int IntKind.i64 (setR a b c d i (Int.tmod (IntKind.wrap IntKind.i64 (f2i (i2f (hdI (List.drop (addN (0) (mulN (Int.toNat i) (1))) [C.d (D.v (Value.int IntKind.i64 a)), C.d (D.v (Value.int IntKind.i64 b)), C.d (D.v (Value.int IntKind.i64 c)), C.d (D.v (Value.int IntKind.i64 d))]))) + f2i (i2f (hdI (List.drop (addN (0) (mulN (Int.toNat j) (1))) [C.d (D.v (Value.int IntKind.i64 a)), C.d (D.v (Value.int IntKind.i64 b)), C.d (D.v (Value.int IntKind.i64 c)), C.d (D.v (Value.int IntKind.i64 d))]))))) (256))).e))]) else False else False else False else False else False else False) := by kernel_rfl
theorem Ztr : ∀ n : Fin 256, (rOK (rI2F (n.val : Int)) && decide (rF2I (rI2F (n.val : Int)) = (n.val : Int))) = true := by decide +kernel
theorem Zfr {x : Int} (h : val8 x = true) : 0 ≤ x ∧ x ≤ 255 := by unfold val8 upto at h; simp at h; exact h
theorem ZlP {x : Int} (h : 0 ≤ x ∧ x ≤ 255) : val8 x = true := by unfold val8 upto; simp; exact h
theorem flt {x : Int} (h : val8 x = true) : rOK (rI2F x) = true ∧ rF2I (rI2F x) = x := by
  have hb := Zfr h
  have := Ztr ⟨x.toNat, by omega⟩
  have e : ((x.toNat : Nat) : Int) = x := by omega
  simp only [e, Bool.and_eq_true, decide_eq_true_eq] at this
  exact this
theorem Ztn {x y : Int} (hx : val8 x = true) (hy : val8 y = true) : Int.tmod (IntKind.wrap .i64 (x + y)) 256 = (x + y) % 256 := by
  have h1 := Zfr hx
  have h2 := Zfr hy
  rw [ZjL (by omega) (by omega), Int.tmod_eq_emod_of_nonneg (by omega)]
theorem Zqd {a b c d : Int} (h : v4 a b c d = true) : val8 a = true ∧ val8 b = true ∧ val8 c = true ∧ val8 d = true := by
  unfold v4 at h; simpa [Bool.and_eq_true] using h
theorem mod8 (x y : Int) : val8 ((x + y) % 256) = true := ZlP (by omega)
theorem ZsC (a b c d i j : Int) : CT Tryz.prog 82 [.agg [vi a, vi b, vi c, vi d], I i, I j] (addR a b c d i j).dv := by
  refine Zah (.cons Zpr (.cons oReg (.cons Zri .nil))) mixed Tryz.func82 rfl rfl rfl ?_
  show askF rI2F rF2I rOK Tryz.prog _ Tryz.f82 _ _
  rw [ZsM]
  cases hv : v4 a b c d with
  | false => simp [addR, hv]
  | true =>
    obtain ⟨ha, hb, hc, hd⟩ := Zqd hv
    cases hi : lab i with
    | false => simp [addR, hv, hi]
    | true =>
      cases hj : lab j with
      | false => simp [addR, hv, hi, hj]
      | true =>
        have fa := flt ha
        have fb := flt hb
        have fc := flt hc
        have fd := flt hd
        rcases ZcR hi with rfl | rfl | rfl | rfl <;> rcases ZcR hj with rfl | rfl | rfl | rfl <;>
          simp [addN, mulN, isK, hdI, fa, fb, fc, fd, Ztn, ha, hb, hc, hd, setR, addR, ZcH, ZhV, hv, lab0, lab1, lab2, lab3, mod8]
def sAdd : Spec := fun ds Q => match ds with | [.agg [.v (.int .i64 a), .v (.int .i64 b), .v (.int .i64 c), .v (.int .i64 d)], .c (.v (.int .i64 l)), .c (.v (.int .i64 m))] => Q (addR a b c d l m).dv | _ => False
theorem oAdd {f : FuncId} {fn : Func} (hf : Tryz.prog.funcs[f]? = some fn) (hn : (fn.name == "runtime.NumGoroutine") = false) (hb : fn.body.isNone = false) (hc : ∀ a b c d l m, CT Tryz.prog f [.agg [vi a, vi b, vi c, vi d], I l, I m] (addR a b c d l m).dv) : Zad Tryz.prog f sAdd := fun ds Q h => by
  unfold sAdd at h; split at h
  · exact ⟨Zan hf hn hb, _, hc _ _ _ _ _ _, .inl rfl, rfl, h⟩
  · exact h.elim
theorem Ztd : Zad Tryz.prog 82 sAdd := oAdd Tryz.func82 (by kernel_rfl) rfl ZsC
def sRgM : Spec := fun ds Q => match ds with | [.c d] => ZkI d fun a b c e => Q (B (v4 a b c e)) | _ => False
theorem oRgM : Zad Tryz.prog 114 sRgM := o_al Tryz.func114 (by kernel_rfl) rfl fun ds Q h => by
  unfold sRgM at h; split at h
  · obtain ⟨a, b, c, e, h, hr, ho⟩ := ZfK h
    exact ⟨_, _, .cons (.c hr ho rfl) .nil, cRgM a b c e, rfl, rfl, h⟩
  · exact h.elim
def ck4 (a b c d : Int) : Bool := clk a && (clk b && (clk c && clk d))
theorem eCkM (a b c d l : Int) (K : DV → Prop) : (ask Tryz.prog [(102, sB clk)] Tryz.f61 [.c (.p 0 [vi a, vi b, vi c, vi d] 0), I l] K) = (bif !clk a then K (DV.c (D.v (Value.bool false))) else bif !clk b then K (DV.c (D.v (Value.bool false))) else bif !clk c then K (DV.c (D.v (Value.bool false))) else bif !clk d then K (DV.c (D.v (Value.bool false))) else K (DV.c (D.v (Value.bool (clk l))))) := by kernel_rfl
def sCkM : Spec := fun ds Q => match ds with | [.c d, .c (.v (.int .i64 l))] => ZkI d fun a b c e => Q (B (ck4 a b c e && clk l)) | _ => False
theorem oCkM : Zad Tryz.prog 61 sCkM := o_al Tryz.func61 (by kernel_rfl) rfl fun ds Q h => by
  unfold sCkM at h; split at h
  · rename_i d l
    obtain ⟨a, b, c, e, h, hr, ho⟩ := ZfK h
    refine ⟨[.c (.p 0 [vi a, vi b, vi c, vi e] 0), I l], _, .cons (.c hr ho rfl) (.cons (.refl _) .nil), Zah (.cons oClk .nil) mixed Tryz.func61 rfl rfl rfl ?_, rfl, rfl, h⟩
    rw [eCkM]; unfold ck4; cases clk a <;> cases clk b <;> cases clk c <;> cases clk e <;> rfl
  · exact h.elim
end

section
open Go Go.Proofs
theorem Zdz {α : Type} (l : List α) (p : α → Bool) : decide ((match l.findIdx? p with | some i => (i : Int) | none => -1) ≥ 0) = l.any p := by
  cases h : l.findIdx? p with
  | some i =>
    have : l.any p = true := by
      rw [List.findIdx?_eq_some_iff_getElem] at h
      obtain ⟨h1, h2, _⟩ := h
      exact List.any_eq_true.2 ⟨_, List.getElem_mem h1, h2⟩
    rw [this]; simp
  | none =>
    have : l.any p = false := by
      rw [List.findIdx?_eq_none_iff] at h
      rw [List.any_eq_false]; intro x hx; simpa using h x hx
    rw [this]; rfl
def thW (R0 R1 R2 R3 : List (List D)) (x y : Int) : Bool := thr R0.length R1.length R2.length R3.length x y
def ZfE (fn : Nat) (e : D) (K : List (List D) → List (List D) → List (List D) → List (List D) → Prop) : Prop := match e with
  | .f g fs cs => match Nat.beq g fn with
    | true => match fs, cs with
      | [x], [] => match x with
        | .f h gs ps => match Nat.beq h AG with
          | true => match gs, ps with
            | [], [p] => ZkD p K
            | _, _ => False
          | false => False
        | _ => False
      | _, _ => False
    | false => False
  | _ => False
theorem ZbP {fn : Nat} {e : D} {K : List (List D) → List (List D) → List (List D) → List (List D) → Prop} (hn : fn ≠ AG) (h : ZfE fn e K) : ∃ a b c d, K a b c d ∧ RD e (.f fn [.f AG [] [.p 0 (wsL a b c d) 0]] []) ∧ e.isOwn = false := by
  unfold ZfE at h
  split at h
  · split at h
    · rename_i hb
      have := Zaa hb; subst this
      split at h
      · split at h
        · split at h
          · rename_i hb2
            have := Zaa hb2; subst this
            split at h
            · obtain ⟨a, b, c, d, h, r, _⟩ := ZeX h
              exact ⟨a, b, c, d, h, RD.f (.cons (RD.ag (.cons r .nil)) .nil) .nil hn, rfl⟩
            · exact h.elim
          · exact h.elim
        · exact h.elim
      · exact h.elim
    · exact h.elim
  · exact h.elim
def isRW (c : Int) : Bool := bif c == 2 then true else c == 3
theorem eIWd (a b c d : Int) (K : DV → Prop) : (ask Tryz.prog [] Tryz.f162 [.agg [vi a, vi b, vi c, vi d]] K) = (bif a == 2 then K (DV.c (D.v (Value.bool true))) else K (DV.c (D.v (Value.bool (a == 3))))) := by kernel_rfl
def sIWd : Spec := fun ds Q => match ds with | [.agg [.v (.int .i64 a), .v (.int .i64 b), .v (.int .i64 c), .v (.int .i64 d)]] => Q (B (isRW a)) | _ => False
theorem oIWd : Zad Tryz.prog 162 sIWd := o_of Tryz.func162 (by kernel_rfl) rfl fun ds Q h => by
  unfold sIWd at h; split at h
  · rename_i a b c d
    refine ⟨_, Zah .nil mixed Tryz.func162 rfl rfl rfl ?_, rfl, rfl, h⟩
    rw [eIWd]; unfold isRW; cases a == 2 <;> rfl
  · exact h.elim
def noRd (R0 R1 R2 R3 : List (List D)) (r : List Int) : Bool := !thW R0 R1 R2 R3 (r.getD 0 0) (r.getD 1 0)
theorem eLR (a b c : Int) (R0 R1 R2 R3 : List (List D)) (K : DV → Prop) : (ask Tryz.prog [(157, sThr)] Tryz.f108 [.agg [.p 0 [.s 0 3 R0 [], .s 0 3 R1 [], .s 0 3 R2 [], .s 0 3 R3 []] 0], .agg [vi a, vi b, vi c]] K) = (K (DV.c (D.v (Value.bool (thr (List.length R0) (List.length R1) (List.length R2) (List.length R3) a b))))) := by kernel_rfl
def sLR : Spec := fun ds Q => match ds with | [.agg [.p 0 [.s 0 3 R0 [], .s 0 3 R1 [], .s 0 3 R2 [], .s 0 3 R3 []] 0], .agg [.v (.int .i64 a), .v (.int .i64 b), .v (.int .i64 c)]] => Q (B (!noRd R0 R1 R2 R3 [a, b, c])) | _ => False
theorem oLR : Zad Tryz.prog 108 sLR := o_of Tryz.func108 (by kernel_rfl) rfl fun ds Q h => by
  unfold sLR at h; split at h
  · rename_i R0 R1 R2 R3 a b c
    refine ⟨_, Zah ((.cons oThr .nil)) mixed Tryz.func108 rfl rfl rfl ?_, rfl, rfl, h⟩
    rw [eLR]; unfold noRd thW; simp only [List.getD_cons_zero, List.getD_cons_succ, Bool.not_not]
    try (cases isRW a <;> simp)
  · exact h.elim
theorem eLR1 (a b c : Int) (R0 R1 R2 R3 : List (List D)) (K : DV → Prop) : (ask Tryz.prog [(108, sLR)] Tryz.f156 [.agg [vi a, vi b, vi c], .c (.p 0 [.f 108 [.f 4294967295 [] [.p 0 [.s 0 3 R0 [], .s 0 3 R1 [], .s 0 3 R2 [], .s 0 3 R3 []] 0]] []] 0)] K) = (K (DV.c (D.v (Value.bool !!noRd R0 R1 R2 R3 [a, b, c])))) := by kernel_rfl
def sLR1 : Spec := fun ds Q => match ds with | [.agg [.v (.int .i64 a), .v (.int .i64 b), .v (.int .i64 c)], .c (.p 0 [.f 108 [.f 4294967295 [] [.p 0 [.s 0 3 R0 [], .s 0 3 R1 [], .s 0 3 R2 [], .s 0 3 R3 []] 0]] []] 0)] => Q (B (noRd R0 R1 R2 R3 [a, b, c])) | _ => False
theorem oLR1 : Zad Tryz.prog 156 sLR1 := o_of Tryz.func156 (by kernel_rfl) rfl fun ds Q h => by
  unfold sLR1 at h; split at h
  · exact ⟨_, Zah (.cons oLR .nil) mixed Tryz.func156 rfl rfl rfl (by rw [eLR1, Bool.not_not]), rfl, rfl, h⟩
  · exact h.elim
def Zc7 (R0 : List (List D)) (R1 : List (List D)) (R2 : List (List D)) (R3 : List (List D)) (R : List (List D)) (sp : List (List D)) (v : Int) (i : Int) : X := ⟨mkT 19 [(0, aS 3 R sp), (1, .c (.d (.f 156 [] [.p 0 [.f 108 [.f 4294967295 [] [.p 0 [.s 0 3 R0 [], .s 0 3 R1 [], .s 0 3 R2 [], .s 0 3 R3 []] 0]] []] 0]))), (4, ai v), (7, ai R.length), (8, ai i)], [], [], []⟩
def ZdR (R0 : List (List D)) (R1 : List (List D)) (R2 : List (List D)) (R3 : List (List D)) (R : List (List D)) (sp : List (List D)) : Vw := fun y K => wI y 4 fun v => wI y 8 fun i => K (Zc7 R0 R1 R2 R3 R sp v i)
theorem ZgF (R0 : List (List D)) (R1 : List (List D)) (R2 : List (List D)) (R3 : List (List D)) (R : List (List D)) (sp : List (List D)) : VwOK (ZdR R0 R1 R2 R3 R sp) := fun y K h => by
  unfold ZdR at h
  obtain ⟨v, h⟩ := ZbI h
  obtain ⟨i, h⟩ := ZbI h
  exact ⟨_, h⟩
theorem Zrh (R0 : List (List D)) (R1 : List (List D)) (R2 : List (List D)) (R3 : List (List D)) (R sp : List (List D)) (i v : Int) (N : X → Prop) (E : Exit → X → Prop) : (ZbZ Tryz.prog (hkA band bor [(156, sLR1)] []) Tryz.f185 0 [] [0, 1, 4, 7, 8] [] (ZdR R0 R1 R2 R3 R sp) (ZdR R0 R1 R2 R3 R sp) N E (Zc7 R0 R1 R2 R3 R sp v i)) = (bif decide (i < @Nat.cast Int _ (List.length R)) then bif decide (0 ≤ i) && decide (i < @Nat.cast Int _ (List.length R)) then bif isJ [IntKind.i64, IntKind.i64, IntKind.i64] (List.drop (0) (List.getD R (Int.toNat i) [])) then bif noRd R0 R1 R2 R3 [hdJ (List.drop (0) (List.getD R (Int.toNat i) [])), hdJ (List.tail (List.drop (0) (List.getD R (Int.toNat i) []))), hdJ (List.tail (List.tail (List.drop (0) (List.getD R (Int.toNat i) []))))] then Zc7 R0 R1 R2 R3 R sp i i = Zc7 R0 R1 R2 R3 R sp i i ∧ E Exit.ret (Zc7 R0 R1 R2 R3 R sp i i) else Zc7 R0 R1 R2 R3 R sp v (IntKind.wrap IntKind.i64 (i + 1)) = Zc7 R0 R1 R2 R3 R sp v (IntKind.wrap IntKind.i64 (i + 1)) ∧ N (Zc7 R0 R1 R2 R3 R sp v (IntKind.wrap IntKind.i64 (i + 1))) else False else False else Zc7 R0 R1 R2 R3 R sp v i = Zc7 R0 R1 R2 R3 R sp v i ∧ E (Exit.exit (0)) (Zc7 R0 R1 R2 R3 R sp v i)) := by kernel_rfl
def Zpx (R0 : List (List D)) (R1 : List (List D)) (R2 : List (List D)) (R3 : List (List D)) (l : List (List Int)) (sp : List (List D)) : LSum := ZcC [0, 1, 4, 7, 8] [] (fun i => Zc7 R0 R1 R2 R3 (mZ l) sp 0 i) (fun i => Zc7 R0 R1 R2 R3 (mZ l) sp i i) l.length (fun i => noRd R0 R1 R2 R3 (l.getD i [])) .ret (.exit 0)
theorem Zso (R0 : List (List D)) (R1 : List (List D)) (R2 : List (List D)) (R3 : List (List D)) (l : List (List Int)) (sp : List (List D)) (K : DV → Prop) : (askL Tryz.prog [] [(2, Zpx R0 R1 R2 R3 l sp)] Tryz.f185 [dS 3 (mZ l) sp, .c (.f 156 [] [.p 0 [.f 108 [.f 4294967295 [] [.p 0 [.s 0 3 R0 [], .s 0 3 R1 [], .s 0 3 R2 [], .s 0 3 R3 []] 0]] []] 0])] K) = (Zc7 R0 R1 R2 R3 (mZ l) sp (0) (0) = Zc7 R0 R1 R2 R3 (mZ l) sp (0) (0) ∧ (∀ (i : Nat), firstAt (fun i => noRd R0 R1 R2 R3 (List.getD l i [])) (List.length l) i → K (DV.c (D.v (Value.int IntKind.i64 (@Nat.cast Int _ i))))) ∧ (noneTo (fun i => noRd R0 R1 R2 R3 (List.getD l i [])) (List.length l) → K (DV.c (D.v (Value.int IntKind.i64 (-1)))))) := by kernel_rfl
theorem ZtA (R0 : List (List D)) (R1 : List (List D)) (R2 : List (List D)) (R3 : List (List D)) {l : List (List Int)} {sp : List (List D)} (hw : wid 3 l) (hn : l.length ≤ 9223372036854775807) (Q : Exit → X → Prop) (x : X) (h : Zpx R0 R1 R2 R3 l sp Q x) : XWP Tryz.prog (.loop (Zap Tryz.f185 0)) Q x := by
  refine ZbF (H := hkA band bor [(156, sLR1)] []) (sw := []) (V := ZdR R0 R1 R2 R3 (mZ l) sp) (VE := ZdR R0 R1 R2 R3 (mZ l) sp) (ZaF (.cons oLR1 .nil)) mixed (Zag rfl) (ZgF R0 R1 R2 R3 (mZ l) sp) (ZgF R0 R1 R2 R3 (mZ l) sp) _ _ _ _ _ _ (fun i hl N E h1 h2 => ?_) (fun N E h1 => ?_) Q x h
  · rw [Zrh]
    have wi : IntKind.wrap .i64 ((i : Int) + 1) = ((i + 1 : Nat) : Int) := Zas (n := 1) (by omega)
    have hj1 : isJ [IntKind.i64, IntKind.i64, IntKind.i64] ((mZ l).getD i []) = true := Zau (j := 0) (n := 3) hw hl (by omega)
    simp only [Zaf, Int.ofNat_lt, hl, decide_true, cond_true, Int.natCast_nonneg, Bool.and_self, Int.toNat_natCast, ZaJ, ZaK, ZbJ, hj1, List.drop_zero, ZaB, true_and, wi]
    have e : noRd R0 R1 R2 R3 (l.getD i []) = noRd R0 R1 R2 R3 [(l.getD i []).getD 0 0, (l.getD i []).getD 1 0, (l.getD i []).getD 2 0] := rfl
    cases ho : noRd R0 R1 R2 R3 (l.getD i []) with
    | false => rw [e] at ho; rw [ho]; exact h2 (by rw [e]; exact ho)
    | true => rw [e] at ho; rw [ho]; exact h1 (by rw [e]; exact ho)
  · rw [Zrh]
    simp only [Zaf, Int.ofNat_lt, Nat.lt_irrefl, decide_false, cond_false, true_and]
    exact h1
def Zqv : Spec := fun ds Q => match ds with | [.c (.s 0 3 R sp), .c (.f 156 [] [.p 0 [.f 108 [.f 4294967295 [] [.p 0 [.s 0 3 R0 [], .s 0 3 R1 [], .s 0 3 R2 [], .s 0 3 R3 []] 0]] []] 0])] => cond (okZ 3 R) (Q (I (match (toZ R).findIdx? (noRd R0 R1 R2 R3) with | some i => (i : Int) | none => -1))) False | _ => False
theorem ZtB : Zad Tryz.prog 185 Zqv := o_of Tryz.func185 (by kernel_rfl) rfl fun ds Q h => by
  unfold Zqv at h; split at h
  · rename_i R sp R0 R1 R2 R3
    obtain ⟨h1, h2⟩ := Zae h
    obtain ⟨e1, w1, n1⟩ := Zai h1
    rw [e1]
    rw [← Zav R] at n1
    generalize toZ R = l at *
    refine ⟨_, ZaT (l := []) (m := [(2, Zpx R0 R1 R2 R3 l sp)]) .nil mixed (Zcz rfl (by kernel_rfl) (ZtA R0 R1 R2 R3 w1 n1)) Tryz.func185 rfl rfl rfl ?_, rfl, rfl, h2⟩
    rw [Zso]
    refine ⟨rfl, fun i hi => ?_, fun hn => ?_⟩
    · rw [hi.find]
    · rw [hn.find]
  · exact h.elim
theorem Zss (R0 : List (List D)) (R1 : List (List D)) (R2 : List (List D)) (R3 : List (List D)) (R sp : List (List D)) (K : DV → Prop) : (ask Tryz.prog [(185, Zqv)] Tryz.f154 [dS 3 R sp, .c (.f 156 [] [.p 0 [.f 108 [.f 4294967295 [] [.p 0 [.s 0 3 R0 [], .s 0 3 R1 [], .s 0 3 R2 [], .s 0 3 R3 []] 0]] []] 0])] K) = (bif okZ (3) R then K (DV.c (D.v (Value.bool (decide ((match List.findIdx? (noRd R0 R1 R2 R3) (toZ R) with | some i => @Nat.cast Int _ i | none => -1) ≥ 0))))) else False) := by kernel_rfl
def Zpc : Spec := fun ds Q => match ds with | [.c (.s 0 3 R sp), .c (.f 156 [] [.p 0 [.f 108 [.f 4294967295 [] [.p 0 [.s 0 3 R0 [], .s 0 3 R1 [], .s 0 3 R2 [], .s 0 3 R3 []] 0]] []] 0])] => cond (okZ 3 R) (Q (B ((toZ R).any (noRd R0 R1 R2 R3)))) False | _ => False
theorem ZsK : Zad Tryz.prog 154 Zpc := o_of Tryz.func154 (by kernel_rfl) rfl fun ds Q h => by
  unfold Zpc at h; split at h
  · obtain ⟨h1, h2⟩ := Zae h
    refine ⟨_, Zah (.cons ZtB .nil) mixed Tryz.func154 rfl rfl rfl ?_, rfl, rfl, h2⟩
    rw [Zss, h1, Zdz]; rfl
  · exact h.elim
theorem Zrv (R : List (List D)) (R0 R1 R2 R3 : List (List D)) (K : DV → Prop) : (ask Tryz.prog [(154, Zpc)] Tryz.f107 [.c (.s 0 3 R []), .c (.f 108 [.f 4294967295 [] [.p 0 (wsL R0 R1 R2 R3) 0]] [])] K) = (bif okZ (3) R then K (DV.c (D.v (Value.bool !List.any (toZ R) (noRd R0 R1 R2 R3)))) else False) := by kernel_rfl
def Zne : Spec := fun ds Q => match ds with | [.c d, .c e] => cond d.isOwn False (ZbH 3 d fun R => ZfE 108 e fun R0 R1 R2 R3 => cond (okZ 3 R) (Q (B (!(toZ R).any (noRd R0 R1 R2 R3)))) False) | _ => False
theorem Zsd : Zad Tryz.prog 107 Zne := o_al Tryz.func107 (by kernel_rfl) rfl fun ds Q h => by
  unfold Zne at h; split at h
  · rename_i d e
    cases hd : d.isOwn with
    | true => rw [hd] at h; exact h.elim
    | false =>
      rw [hd] at h
      obtain ⟨R, h, r1⟩ := Zam h
      obtain ⟨R0, R1, R2, R3, h, r2, e2⟩ := ZbP (by decide) h
      obtain ⟨h1, h2⟩ := Zae h
      refine ⟨_, _, .cons (.c r1 hd rfl) (.cons (.c r2 e2 rfl) .nil), Zah (.cons ZsK .nil) mixed Tryz.func107 rfl rfl rfl ?_, rfl, rfl, h2⟩
      rw [Zrv, h1]; rfl
  · exact h.elim
def noWr (R0 R1 R2 R3 : List (List D)) (r : List Int) : Bool := !thW R0 R1 R2 R3 (r.getD 0 0) (r.getD 1 0)
theorem eLW (a b c : Int) (R0 R1 R2 R3 : List (List D)) (K : DV → Prop) : (ask Tryz.prog [(157, sThr)] Tryz.f110 [.agg [.p 0 [.s 0 3 R0 [], .s 0 3 R1 [], .s 0 3 R2 [], .s 0 3 R3 []] 0], .agg [vi a, vi b, vi c]] K) = (K (DV.c (D.v (Value.bool (thr (List.length R0) (List.length R1) (List.length R2) (List.length R3) a b))))) := by kernel_rfl
def sLW : Spec := fun ds Q => match ds with | [.agg [.p 0 [.s 0 3 R0 [], .s 0 3 R1 [], .s 0 3 R2 [], .s 0 3 R3 []] 0], .agg [.v (.int .i64 a), .v (.int .i64 b), .v (.int .i64 c)]] => Q (B (!noWr R0 R1 R2 R3 [a, b, c])) | _ => False
theorem oLW : Zad Tryz.prog 110 sLW := o_of Tryz.func110 (by kernel_rfl) rfl fun ds Q h => by
  unfold sLW at h; split at h
  · rename_i R0 R1 R2 R3 a b c
    refine ⟨_, Zah ((.cons oThr .nil)) mixed Tryz.func110 rfl rfl rfl ?_, rfl, rfl, h⟩
    rw [eLW]; unfold noWr thW; simp only [List.getD_cons_zero, List.getD_cons_succ, Bool.not_not]
    try (cases isRW a <;> simp)
  · exact h.elim
theorem eLW1 (a b c : Int) (R0 R1 R2 R3 : List (List D)) (K : DV → Prop) : (ask Tryz.prog [(110, sLW)] Tryz.f159 [.agg [vi a, vi b, vi c], .c (.p 0 [.f 110 [.f 4294967295 [] [.p 0 [.s 0 3 R0 [], .s 0 3 R1 [], .s 0 3 R2 [], .s 0 3 R3 []] 0]] []] 0)] K) = (K (DV.c (D.v (Value.bool !!noWr R0 R1 R2 R3 [a, b, c])))) := by kernel_rfl
def sLW1 : Spec := fun ds Q => match ds with | [.agg [.v (.int .i64 a), .v (.int .i64 b), .v (.int .i64 c)], .c (.p 0 [.f 110 [.f 4294967295 [] [.p 0 [.s 0 3 R0 [], .s 0 3 R1 [], .s 0 3 R2 [], .s 0 3 R3 []] 0]] []] 0)] => Q (B (noWr R0 R1 R2 R3 [a, b, c])) | _ => False
theorem oLW1 : Zad Tryz.prog 159 sLW1 := o_of Tryz.func159 (by kernel_rfl) rfl fun ds Q h => by
  unfold sLW1 at h; split at h
  · exact ⟨_, Zah (.cons oLW .nil) mixed Tryz.func159 rfl rfl rfl (by rw [eLW1, Bool.not_not]), rfl, rfl, h⟩
  · exact h.elim
def Zdk (R0 : List (List D)) (R1 : List (List D)) (R2 : List (List D)) (R3 : List (List D)) (R : List (List D)) (sp : List (List D)) (v : Int) (i : Int) : X := ⟨mkT 19 [(0, aS 3 R sp), (1, .c (.d (.f 159 [] [.p 0 [.f 110 [.f 4294967295 [] [.p 0 [.s 0 3 R0 [], .s 0 3 R1 [], .s 0 3 R2 [], .s 0 3 R3 []] 0]] []] 0]))), (4, ai v), (7, ai R.length), (8, ai i)], [], [], []⟩
def Zd2 (R0 : List (List D)) (R1 : List (List D)) (R2 : List (List D)) (R3 : List (List D)) (R : List (List D)) (sp : List (List D)) : Vw := fun y K => wI y 4 fun v => wI y 8 fun i => K (Zdk R0 R1 R2 R3 R sp v i)
theorem ZgJ (R0 : List (List D)) (R1 : List (List D)) (R2 : List (List D)) (R3 : List (List D)) (R : List (List D)) (sp : List (List D)) : VwOK (Zd2 R0 R1 R2 R3 R sp) := fun y K h => by
  unfold Zd2 at h
  obtain ⟨v, h⟩ := ZbI h
  obtain ⟨i, h⟩ := ZbI h
  exact ⟨_, h⟩
theorem ZrA (R0 : List (List D)) (R1 : List (List D)) (R2 : List (List D)) (R3 : List (List D)) (R sp : List (List D)) (i v : Int) (N : X → Prop) (E : Exit → X → Prop) : (ZbZ Tryz.prog (hkA band bor [(159, sLW1)] []) Tryz.f187 0 [] [0, 1, 4, 7, 8] [] (Zd2 R0 R1 R2 R3 R sp) (Zd2 R0 R1 R2 R3 R sp) N E (Zdk R0 R1 R2 R3 R sp v i)) = (bif decide (i < @Nat.cast Int _ (List.length R)) then bif decide (0 ≤ i) && decide (i < @Nat.cast Int _ (List.length R)) then bif isJ [IntKind.i64, IntKind.i64, IntKind.i64] (List.drop (0) (List.getD R (Int.toNat i) [])) then bif noWr R0 R1 R2 R3 [hdJ (List.drop (0) (List.getD R (Int.toNat i) [])), hdJ (List.tail (List.drop (0) (List.getD R (Int.toNat i) []))), hdJ (List.tail (List.tail (List.drop (0) (List.getD R (Int.toNat i) []))))] then Zdk R0 R1 R2 R3 R sp i i = Zdk R0 R1 R2 R3 R sp i i ∧ E Exit.ret (Zdk R0 R1 R2 R3 R sp i i) else Zdk R0 R1 R2 R3 R sp v (IntKind.wrap IntKind.i64 (i + 1)) = Zdk R0 R1 R2 R3 R sp v (IntKind.wrap IntKind.i64 (i + 1)) ∧ N (Zdk R0 R1 R2 R3 R sp v (IntKind.wrap IntKind.i64 (i + 1))) else False else False else Zdk R0 R1 R2 R3 R sp v i = Zdk R0 R1 R2 R3 R sp v i ∧ E (Exit.exit (0)) (Zdk R0 R1 R2 R3 R sp v i)) := by kernel_rfl
def Zps (R0 : List (List D)) (R1 : List (List D)) (R2 : List (List D)) (R3 : List (List D)) (l : List (List Int)) (sp : List (List D)) : LSum := ZcC [0, 1, 4, 7, 8] [] (fun i => Zdk R0 R1 R2 R3 (mZ l) sp 0 i) (fun i => Zdk R0 R1 R2 R3 (mZ l) sp i i) l.length (fun i => noWr R0 R1 R2 R3 (l.getD i [])) .ret (.exit 0)
theorem ZsV (R0 : List (List D)) (R1 : List (List D)) (R2 : List (List D)) (R3 : List (List D)) (l : List (List Int)) (sp : List (List D)) (K : DV → Prop) : (askL Tryz.prog [] [(2, Zps R0 R1 R2 R3 l sp)] Tryz.f187 [dS 3 (mZ l) sp, .c (.f 159 [] [.p 0 [.f 110 [.f 4294967295 [] [.p 0 [.s 0 3 R0 [], .s 0 3 R1 [], .s 0 3 R2 [], .s 0 3 R3 []] 0]] []] 0])] K) = (Zdk R0 R1 R2 R3 (mZ l) sp (0) (0) = Zdk R0 R1 R2 R3 (mZ l) sp (0) (0) ∧ (∀ (i : Nat), firstAt (fun i => noWr R0 R1 R2 R3 (List.getD l i [])) (List.length l) i → K (DV.c (D.v (Value.int IntKind.i64 (@Nat.cast Int _ i))))) ∧ (noneTo (fun i => noWr R0 R1 R2 R3 (List.getD l i [])) (List.length l) → K (DV.c (D.v (Value.int IntKind.i64 (-1)))))) := by kernel_rfl
theorem Ztl (R0 : List (List D)) (R1 : List (List D)) (R2 : List (List D)) (R3 : List (List D)) {l : List (List Int)} {sp : List (List D)} (hw : wid 3 l) (hn : l.length ≤ 9223372036854775807) (Q : Exit → X → Prop) (x : X) (h : Zps R0 R1 R2 R3 l sp Q x) : XWP Tryz.prog (.loop (Zap Tryz.f187 0)) Q x := by
  refine ZbF (H := hkA band bor [(159, sLW1)] []) (sw := []) (V := Zd2 R0 R1 R2 R3 (mZ l) sp) (VE := Zd2 R0 R1 R2 R3 (mZ l) sp) (ZaF (.cons oLW1 .nil)) mixed (Zag rfl) (ZgJ R0 R1 R2 R3 (mZ l) sp) (ZgJ R0 R1 R2 R3 (mZ l) sp) _ _ _ _ _ _ (fun i hl N E h1 h2 => ?_) (fun N E h1 => ?_) Q x h
  · rw [ZrA]
    have wi : IntKind.wrap .i64 ((i : Int) + 1) = ((i + 1 : Nat) : Int) := Zas (n := 1) (by omega)
    have hj1 : isJ [IntKind.i64, IntKind.i64, IntKind.i64] ((mZ l).getD i []) = true := Zau (j := 0) (n := 3) hw hl (by omega)
    simp only [Zaf, Int.ofNat_lt, hl, decide_true, cond_true, Int.natCast_nonneg, Bool.and_self, Int.toNat_natCast, ZaJ, ZaK, ZbJ, hj1, List.drop_zero, ZaB, true_and, wi]
    have e : noWr R0 R1 R2 R3 (l.getD i []) = noWr R0 R1 R2 R3 [(l.getD i []).getD 0 0, (l.getD i []).getD 1 0, (l.getD i []).getD 2 0] := rfl
    cases ho : noWr R0 R1 R2 R3 (l.getD i []) with
    | false => rw [e] at ho; rw [ho]; exact h2 (by rw [e]; exact ho)
    | true => rw [e] at ho; rw [ho]; exact h1 (by rw [e]; exact ho)
  · rw [ZrA]
    simp only [Zaf, Int.ofNat_lt, Nat.lt_irrefl, decide_false, cond_false, true_and]
    exact h1
def ZpL : Spec := fun ds Q => match ds with | [.c (.s 0 3 R sp), .c (.f 159 [] [.p 0 [.f 110 [.f 4294967295 [] [.p 0 [.s 0 3 R0 [], .s 0 3 R1 [], .s 0 3 R2 [], .s 0 3 R3 []] 0]] []] 0])] => cond (okZ 3 R) (Q (I (match (toZ R).findIdx? (noWr R0 R1 R2 R3) with | some i => (i : Int) | none => -1))) False | _ => False
theorem ZtG : Zad Tryz.prog 187 ZpL := o_of Tryz.func187 (by kernel_rfl) rfl fun ds Q h => by
  unfold ZpL at h; split at h
  · rename_i R sp R0 R1 R2 R3
    obtain ⟨h1, h2⟩ := Zae h
    obtain ⟨e1, w1, n1⟩ := Zai h1
    rw [e1]
    rw [← Zav R] at n1
    generalize toZ R = l at *
    refine ⟨_, ZaT (l := []) (m := [(2, Zps R0 R1 R2 R3 l sp)]) .nil mixed (Zcz rfl (by kernel_rfl) (Ztl R0 R1 R2 R3 w1 n1)) Tryz.func187 rfl rfl rfl ?_, rfl, rfl, h2⟩
    rw [ZsV]
    refine ⟨rfl, fun i hi => ?_, fun hn => ?_⟩
    · rw [hi.find]
    · rw [hn.find]
  · exact h.elim
theorem Ztu (R0 : List (List D)) (R1 : List (List D)) (R2 : List (List D)) (R3 : List (List D)) (R sp : List (List D)) (K : DV → Prop) : (ask Tryz.prog [(187, ZpL)] Tryz.f158 [dS 3 R sp, .c (.f 159 [] [.p 0 [.f 110 [.f 4294967295 [] [.p 0 [.s 0 3 R0 [], .s 0 3 R1 [], .s 0 3 R2 [], .s 0 3 R3 []] 0]] []] 0])] K) = (bif okZ (3) R then K (DV.c (D.v (Value.bool (decide ((match List.findIdx? (noWr R0 R1 R2 R3) (toZ R) with | some i => @Nat.cast Int _ i | none => -1) ≥ 0))))) else False) := by kernel_rfl
def ZqC : Spec := fun ds Q => match ds with | [.c (.s 0 3 R sp), .c (.f 159 [] [.p 0 [.f 110 [.f 4294967295 [] [.p 0 [.s 0 3 R0 [], .s 0 3 R1 [], .s 0 3 R2 [], .s 0 3 R3 []] 0]] []] 0])] => cond (okZ 3 R) (Q (B ((toZ R).any (noWr R0 R1 R2 R3)))) False | _ => False
theorem Ztv : Zad Tryz.prog 158 ZqC := o_of Tryz.func158 (by kernel_rfl) rfl fun ds Q h => by
  unfold ZqC at h; split at h
  · obtain ⟨h1, h2⟩ := Zae h
    refine ⟨_, Zah (.cons ZtG .nil) mixed Tryz.func158 rfl rfl rfl ?_, rfl, rfl, h2⟩
    rw [Ztu, h1, Zdz]; rfl
  · exact h.elim
theorem ZrL (R : List (List D)) (R0 R1 R2 R3 : List (List D)) (K : DV → Prop) : (ask Tryz.prog [(158, ZqC)] Tryz.f109 [.c (.s 0 3 R []), .c (.f 110 [.f 4294967295 [] [.p 0 (wsL R0 R1 R2 R3) 0]] [])] K) = (bif okZ (3) R then K (DV.c (D.v (Value.bool !List.any (toZ R) (noWr R0 R1 R2 R3)))) else False) := by kernel_rfl
def Zng : Spec := fun ds Q => match ds with | [.c d, .c e] => cond d.isOwn False (ZbH 3 d fun R => ZfE 110 e fun R0 R1 R2 R3 => cond (okZ 3 R) (Q (B (!(toZ R).any (noWr R0 R1 R2 R3)))) False) | _ => False
theorem ZrT : Zad Tryz.prog 109 Zng := o_al Tryz.func109 (by kernel_rfl) rfl fun ds Q h => by
  unfold Zng at h; split at h
  · rename_i d e
    cases hd : d.isOwn with
    | true => rw [hd] at h; exact h.elim
    | false =>
      rw [hd] at h
      obtain ⟨R, h, r1⟩ := Zam h
      obtain ⟨R0, R1, R2, R3, h, r2, e2⟩ := ZbP (by decide) h
      obtain ⟨h1, h2⟩ := Zae h
      refine ⟨_, _, .cons (.c r1 hd rfl) (.cons (.c r2 e2 rfl) .nil), Zah (.cons Ztv .nil) mixed Tryz.func109 rfl rfl rfl ?_, rfl, rfl, h2⟩
      rw [ZrL, h1]; rfl
  · exact h.elim
def noIn (R0 R1 R2 R3 : List (List D)) (r : List Int) : Bool := isRW (r.getD 0 0) && !thW R0 R1 R2 R3 (r.getD 2 0) (r.getD 3 0)
theorem eLI (a b c d : Int) (R0 R1 R2 R3 : List (List D)) (K : DV → Prop) : (ask Tryz.prog [(162, sIWd), (157, sThr)] Tryz.f112 [.agg [.p 0 [.s 0 3 R0 [], .s 0 3 R1 [], .s 0 3 R2 [], .s 0 3 R3 []] 0], .agg [vi a, vi b, vi c, vi d]] K) = (bif !isRW a then K (DV.c (D.v (Value.bool true))) else K (DV.c (D.v (Value.bool (thr (List.length R0) (List.length R1) (List.length R2) (List.length R3) c d))))) := by kernel_rfl
def sLI : Spec := fun ds Q => match ds with | [.agg [.p 0 [.s 0 3 R0 [], .s 0 3 R1 [], .s 0 3 R2 [], .s 0 3 R3 []] 0], .agg [.v (.int .i64 a), .v (.int .i64 b), .v (.int .i64 c), .v (.int .i64 d)]] => Q (B (!noIn R0 R1 R2 R3 [a, b, c, d])) | _ => False
theorem oLI : Zad Tryz.prog 112 sLI := o_of Tryz.func112 (by kernel_rfl) rfl fun ds Q h => by
  unfold sLI at h; split at h
  · rename_i R0 R1 R2 R3 a b c d
    refine ⟨_, Zah (.cons oIWd (.cons oThr .nil)) mixed Tryz.func112 rfl rfl rfl ?_, rfl, rfl, h⟩
    rw [eLI]; unfold noIn thW; simp only [List.getD_cons_zero, List.getD_cons_succ, Bool.not_not]
    try (cases isRW a <;> simp)
  · exact h.elim
theorem eLI1 (a b c d : Int) (R0 R1 R2 R3 : List (List D)) (K : DV → Prop) : (ask Tryz.prog [(112, sLI)] Tryz.f161 [.agg [vi a, vi b, vi c, vi d], .c (.p 0 [.f 112 [.f 4294967295 [] [.p 0 [.s 0 3 R0 [], .s 0 3 R1 [], .s 0 3 R2 [], .s 0 3 R3 []] 0]] []] 0)] K) = (K (DV.c (D.v (Value.bool !!noIn R0 R1 R2 R3 [a, b, c, d])))) := by kernel_rfl
def sLI1 : Spec := fun ds Q => match ds with | [.agg [.v (.int .i64 a), .v (.int .i64 b), .v (.int .i64 c), .v (.int .i64 d)], .c (.p 0 [.f 112 [.f 4294967295 [] [.p 0 [.s 0 3 R0 [], .s 0 3 R1 [], .s 0 3 R2 [], .s 0 3 R3 []] 0]] []] 0)] => Q (B (noIn R0 R1 R2 R3 [a, b, c, d])) | _ => False
theorem oLI1 : Zad Tryz.prog 161 sLI1 := o_of Tryz.func161 (by kernel_rfl) rfl fun ds Q h => by
  unfold sLI1 at h; split at h
  · exact ⟨_, Zah (.cons oLI .nil) mixed Tryz.func161 rfl rfl rfl (by rw [eLI1, Bool.not_not]), rfl, rfl, h⟩
  · exact h.elim
def Zdh (R0 : List (List D)) (R1 : List (List D)) (R2 : List (List D)) (R3 : List (List D)) (R : List (List D)) (sp : List (List D)) (v : Int) (i : Int) : X := ⟨mkT 19 [(0, aS 4 R sp), (1, .c (.d (.f 161 [] [.p 0 [.f 112 [.f 4294967295 [] [.p 0 [.s 0 3 R0 [], .s 0 3 R1 [], .s 0 3 R2 [], .s 0 3 R3 []] 0]] []] 0]))), (4, ai v), (7, ai R.length), (8, ai i)], [], [], []⟩
def Zea (R0 : List (List D)) (R1 : List (List D)) (R2 : List (List D)) (R3 : List (List D)) (R : List (List D)) (sp : List (List D)) : Vw := fun y K => wI y 4 fun v => wI y 8 fun i => K (Zdh R0 R1 R2 R3 R sp v i)
theorem Zf6 (R0 : List (List D)) (R1 : List (List D)) (R2 : List (List D)) (R3 : List (List D)) (R : List (List D)) (sp : List (List D)) : VwOK (Zea R0 R1 R2 R3 R sp) := fun y K h => by
  unfold Zea at h
  obtain ⟨v, h⟩ := ZbI h
  obtain ⟨i, h⟩ := ZbI h
  exact ⟨_, h⟩
theorem ZqV (R0 : List (List D)) (R1 : List (List D)) (R2 : List (List D)) (R3 : List (List D)) (R sp : List (List D)) (i v : Int) (N : X → Prop) (E : Exit → X → Prop) : (ZbZ Tryz.prog (hkA band bor [(161, sLI1)] []) Tryz.f188 0 [] [0, 1, 4, 7, 8] [] (Zea R0 R1 R2 R3 R sp) (Zea R0 R1 R2 R3 R sp) N E (Zdh R0 R1 R2 R3 R sp v i)) = (bif decide (i < @Nat.cast Int _ (List.length R)) then bif decide (0 ≤ i) && decide (i < @Nat.cast Int _ (List.length R)) then bif isJ [IntKind.i64, IntKind.i64, IntKind.i64, IntKind.i64] (List.drop (0) (List.getD R (Int.toNat i) [])) then bif noIn R0 R1 R2 R3 [hdJ (List.drop (0) (List.getD R (Int.toNat i) [])), hdJ (List.tail (List.drop (0) (List.getD R (Int.toNat i) []))), hdJ (List.tail (List.tail (List.drop (0) (List.getD R (Int.toNat i) [])))), hdJ (List.tail (List.tail (List.tail (List.drop (0) (List.getD R (Int.toNat i) [])))))] then Zdh R0 R1 R2 R3 R sp i i = Zdh R0 R1 R2 R3 R sp i i ∧ E Exit.ret (Zdh R0 R1 R2 R3 R sp i i) else Zdh R0 R1 R2 R3 R sp v (IntKind.wrap IntKind.i64 (i + 1)) = Zdh R0 R1 R2 R3 R sp v (IntKind.wrap IntKind.i64 (i + 1)) ∧ N (Zdh R0 R1 R2 R3 R sp v (IntKind.wrap IntKind.i64 (i + 1))) else False else False else Zdh R0 R1 R2 R3 R sp v i = Zdh R0 R1 R2 R3 R sp v i ∧ E (Exit.exit (0)) (Zdh R0 R1 R2 R3 R sp v i)) := by kernel_rfl
def Zqq (R0 : List (List D)) (R1 : List (List D)) (R2 : List (List D)) (R3 : List (List D)) (l : List (List Int)) (sp : List (List D)) : LSum := ZcC [0, 1, 4, 7, 8] [] (fun i => Zdh R0 R1 R2 R3 (mZ l) sp 0 i) (fun i => Zdh R0 R1 R2 R3 (mZ l) sp i i) l.length (fun i => noIn R0 R1 R2 R3 (l.getD i [])) .ret (.exit 0)
theorem ZsN (R0 : List (List D)) (R1 : List (List D)) (R2 : List (List D)) (R3 : List (List D)) (l : List (List Int)) (sp : List (List D)) (K : DV → Prop) : (askL Tryz.prog [] [(2, Zqq R0 R1 R2 R3 l sp)] Tryz.f188 [dS 4 (mZ l) sp, .c (.f 161 [] [.p 0 [.f 112 [.f 4294967295 [] [.p 0 [.s 0 3 R0 [], .s 0 3 R1 [], .s 0 3 R2 [], .s 0 3 R3 []] 0]] []] 0])] K) = (Zdh R0 R1 R2 R3 (mZ l) sp (0) (0) = Zdh R0 R1 R2 R3 (mZ l) sp (0) (0) ∧ (∀ (i : Nat), firstAt (fun i => noIn R0 R1 R2 R3 (List.getD l i [])) (List.length l) i → K (DV.c (D.v (Value.int IntKind.i64 (@Nat.cast Int _ i))))) ∧ (noneTo (fun i => noIn R0 R1 R2 R3 (List.getD l i [])) (List.length l) → K (DV.c (D.v (Value.int IntKind.i64 (-1)))))) := by kernel_rfl
theorem Zti (R0 : List (List D)) (R1 : List (List D)) (R2 : List (List D)) (R3 : List (List D)) {l : List (List Int)} {sp : List (List D)} (hw : wid 4 l) (hn : l.length ≤ 9223372036854775807) (Q : Exit → X → Prop) (x : X) (h : Zqq R0 R1 R2 R3 l sp Q x) : XWP Tryz.prog (.loop (Zap Tryz.f188 0)) Q x := by
  refine ZbF (H := hkA band bor [(161, sLI1)] []) (sw := []) (V := Zea R0 R1 R2 R3 (mZ l) sp) (VE := Zea R0 R1 R2 R3 (mZ l) sp) (ZaF (.cons oLI1 .nil)) mixed (Zag rfl) (Zf6 R0 R1 R2 R3 (mZ l) sp) (Zf6 R0 R1 R2 R3 (mZ l) sp) _ _ _ _ _ _ (fun i hl N E h1 h2 => ?_) (fun N E h1 => ?_) Q x h
  · rw [ZqV]
    have wi : IntKind.wrap .i64 ((i : Int) + 1) = ((i + 1 : Nat) : Int) := Zas (n := 1) (by omega)
    have hj1 : isJ [IntKind.i64, IntKind.i64, IntKind.i64, IntKind.i64] ((mZ l).getD i []) = true := Zau (j := 0) (n := 4) hw hl (by omega)
    simp only [Zaf, Int.ofNat_lt, hl, decide_true, cond_true, Int.natCast_nonneg, Bool.and_self, Int.toNat_natCast, ZaJ, ZaK, ZbJ, hj1, List.drop_zero, ZaB, true_and, wi]
    have e : noIn R0 R1 R2 R3 (l.getD i []) = noIn R0 R1 R2 R3 [(l.getD i []).getD 0 0, (l.getD i []).getD 1 0, (l.getD i []).getD 2 0, (l.getD i []).getD 3 0] := rfl
    cases ho : noIn R0 R1 R2 R3 (l.getD i []) with
    | false => rw [e] at ho; rw [ho]; exact h2 (by rw [e]; exact ho)
    | true => rw [e] at ho; rw [ho]; exact h1 (by rw [e]; exact ho)
  · rw [ZqV]
    simp only [Zaf, Int.ofNat_lt, Nat.lt_irrefl, decide_false, cond_false, true_and]
    exact h1
def ZpC : Spec := fun ds Q => match ds with | [.c (.s 0 4 R sp), .c (.f 161 [] [.p 0 [.f 112 [.f 4294967295 [] [.p 0 [.s 0 3 R0 [], .s 0 3 R1 [], .s 0 3 R2 [], .s 0 3 R3 []] 0]] []] 0])] => cond (okZ 4 R) (Q (I (match (toZ R).findIdx? (noIn R0 R1 R2 R3) with | some i => (i : Int) | none => -1))) False | _ => False
theorem ZsU : Zad Tryz.prog 188 ZpC := o_of Tryz.func188 (by kernel_rfl) rfl fun ds Q h => by
  unfold ZpC at h; split at h
  · rename_i R sp R0 R1 R2 R3
    obtain ⟨h1, h2⟩ := Zae h
    obtain ⟨e1, w1, n1⟩ := Zai h1
    rw [e1]
    rw [← Zav R] at n1
    generalize toZ R = l at *
    refine ⟨_, ZaT (l := []) (m := [(2, Zqq R0 R1 R2 R3 l sp)]) .nil mixed (Zcz rfl (by kernel_rfl) (Zti R0 R1 R2 R3 w1 n1)) Tryz.func188 rfl rfl rfl ?_, rfl, rfl, h2⟩
    rw [ZsN]
    refine ⟨rfl, fun i hi => ?_, fun hn => ?_⟩
    · rw [hi.find]
    · rw [hn.find]
  · exact h.elim
theorem ZsB (R0 : List (List D)) (R1 : List (List D)) (R2 : List (List D)) (R3 : List (List D)) (R sp : List (List D)) (K : DV → Prop) : (ask Tryz.prog [(188, ZpC)] Tryz.f160 [dS 4 R sp, .c (.f 161 [] [.p 0 [.f 112 [.f 4294967295 [] [.p 0 [.s 0 3 R0 [], .s 0 3 R1 [], .s 0 3 R2 [], .s 0 3 R3 []] 0]] []] 0])] K) = (bif okZ (4) R then K (DV.c (D.v (Value.bool (decide ((match List.findIdx? (noIn R0 R1 R2 R3) (toZ R) with | some i => @Nat.cast Int _ i | none => -1) ≥ 0))))) else False) := by kernel_rfl
def Zpy : Spec := fun ds Q => match ds with | [.c (.s 0 4 R sp), .c (.f 161 [] [.p 0 [.f 112 [.f 4294967295 [] [.p 0 [.s 0 3 R0 [], .s 0 3 R1 [], .s 0 3 R2 [], .s 0 3 R3 []] 0]] []] 0])] => cond (okZ 4 R) (Q (B ((toZ R).any (noIn R0 R1 R2 R3)))) False | _ => False
theorem Zsi : Zad Tryz.prog 160 Zpy := o_of Tryz.func160 (by kernel_rfl) rfl fun ds Q h => by
  unfold Zpy at h; split at h
  · obtain ⟨h1, h2⟩ := Zae h
    refine ⟨_, Zah (.cons ZsU .nil) mixed Tryz.func160 rfl rfl rfl ?_, rfl, rfl, h2⟩
    rw [ZsB, h1, Zdz]; rfl
  · exact h.elim
theorem ZrU (R : List (List D)) (R0 R1 R2 R3 : List (List D)) (K : DV → Prop) : (ask Tryz.prog [(160, Zpy)] Tryz.f111 [.c (.s 0 4 R []), .c (.f 112 [.f 4294967295 [] [.p 0 (wsL R0 R1 R2 R3) 0]] [])] K) = (bif okZ (4) R then K (DV.c (D.v (Value.bool !List.any (toZ R) (noIn R0 R1 R2 R3)))) else False) := by kernel_rfl
def Zmz : Spec := fun ds Q => match ds with | [.c d, .c e] => cond d.isOwn False (ZbH 4 d fun R => ZfE 112 e fun R0 R1 R2 R3 => cond (okZ 4 R) (Q (B (!(toZ R).any (noIn R0 R1 R2 R3)))) False) | _ => False
theorem Zrb : Zad Tryz.prog 111 Zmz := o_al Tryz.func111 (by kernel_rfl) rfl fun ds Q h => by
  unfold Zmz at h; split at h
  · rename_i d e
    cases hd : d.isOwn with
    | true => rw [hd] at h; exact h.elim
    | false =>
      rw [hd] at h
      obtain ⟨R, h, r1⟩ := Zam h
      obtain ⟨R0, R1, R2, R3, h, r2, e2⟩ := ZbP (by decide) h
      obtain ⟨h1, h2⟩ := Zae h
      refine ⟨_, _, .cons (.c r1 hd rfl) (.cons (.c r2 e2 rfl) .nil), Zah (.cons Zsi .nil) mixed Tryz.func111 rfl rfl rfl ?_, rfl, rfl, h2⟩
      rw [ZrU, h1]; rfl
  · exact h.elim
theorem eLE (a b c d : Int) (K : DV → Prop) : (ask Tryz.prog [(64, sB lab)] Tryz.f63 [.agg [vi a, vi b, vi c, vi d]] K) = (K (DV.c (D.v (Value.bool (lab b))))) := by kernel_rfl
def sLE : Spec := fun ds Q => match ds with | [.agg [.v (.int .i64 a), .v (.int .i64 b), .v (.int .i64 c), .v (.int .i64 d)]] => Q (B (lab b)) | _ => False
theorem oLE : Zad Tryz.prog 63 sLE := o_of Tryz.func63 (by kernel_rfl) rfl fun ds Q h => by
  unfold sLE at h; split at h
  · exact ⟨_, Zah (.cons oLab .nil) mixed Tryz.func63 rfl rfl rfl (by rw [eLE]), rfl, rfl, h⟩
  · exact h.elim
def noEv (r : List Int) : Bool := !lab (r.getD 1 0)
theorem eLE1 (a b c d : Int) (K : DV → Prop) : (ask Tryz.prog [(63, sLE)] Tryz.f117 [.agg [vi a, vi b, vi c, vi d], .c (.p 0 [.f 63 [] []] 0)] K) = (K (DV.c (D.v (Value.bool !lab b)))) := by kernel_rfl
def sLE1 : Spec := fun ds Q => match ds with | [.agg [.v (.int .i64 a), .v (.int .i64 b), .v (.int .i64 c), .v (.int .i64 d)], .c (.p 0 [.f 63 [] []] 0)] => Q (B (noEv [a, b, c, d])) | _ => False
theorem oLE1 : Zad Tryz.prog 117 sLE1 := o_of Tryz.func117 (by kernel_rfl) rfl fun ds Q h => by
  unfold sLE1 at h; split at h
  · exact ⟨_, Zah (.cons oLE .nil) mixed Tryz.func117 rfl rfl rfl (by rw [eLE1]; rfl), rfl, rfl, h⟩
  · exact h.elim
def Zc9 (R : List (List D)) (sp : List (List D)) (v : Int) (i : Int) : X := ⟨mkT 19 [(0, aS 4 R sp), (1, .c (.d (.f 117 [] [.p 0 [.f 63 [] []] 0]))), (4, ai v), (7, ai R.length), (8, ai i)], [], [], []⟩
def Zd1 (R : List (List D)) (sp : List (List D)) : Vw := fun y K => wI y 4 fun v => wI y 8 fun i => K (Zc9 R sp v i)
theorem ZgB (R : List (List D)) (sp : List (List D)) : VwOK (Zd1 R sp) := fun y K h => by
  unfold Zd1 at h
  obtain ⟨v, h⟩ := ZbI h
  obtain ⟨i, h⟩ := ZbI h
  exact ⟨_, h⟩
theorem Zr1  (R sp : List (List D)) (i v : Int) (N : X → Prop) (E : Exit → X → Prop) : (ZbZ Tryz.prog (hkA band bor [(117, sLE1)] []) Tryz.f163 0 [] [0, 1, 4, 7, 8] [] (Zd1  R sp) (Zd1  R sp) N E (Zc9  R sp v i)) = (bif decide (i < @Nat.cast Int _ (List.length R)) then bif decide (0 ≤ i) && decide (i < @Nat.cast Int _ (List.length R)) then bif isJ [IntKind.i64, IntKind.i64, IntKind.i64, IntKind.i64] (List.drop (0) (List.getD R (Int.toNat i) [])) then bif noEv [hdJ (List.drop (0) (List.getD R (Int.toNat i) [])), hdJ (List.tail (List.drop (0) (List.getD R (Int.toNat i) []))), hdJ (List.tail (List.tail (List.drop (0) (List.getD R (Int.toNat i) [])))), hdJ (List.tail (List.tail (List.tail (List.drop (0) (List.getD R (Int.toNat i) [])))))] then Zc9 R sp i i = Zc9 R sp i i ∧ E Exit.ret (Zc9 R sp i i) else Zc9 R sp v (IntKind.wrap IntKind.i64 (i + 1)) = Zc9 R sp v (IntKind.wrap IntKind.i64 (i + 1)) ∧ N (Zc9 R sp v (IntKind.wrap IntKind.i64 (i + 1))) else False else False else Zc9 R sp v i = Zc9 R sp v i ∧ E (Exit.exit (0)) (Zc9 R sp v i)) := by kernel_rfl
def Zqg  (l : List (List Int)) (sp : List (List D)) : LSum := ZcC [0, 1, 4, 7, 8] [] (fun i => Zc9  (mZ l) sp 0 i) (fun i => Zc9  (mZ l) sp i i) l.length (fun i => noEv  (l.getD i [])) .ret (.exit 0)
theorem Zsr  (l : List (List Int)) (sp : List (List D)) (K : DV → Prop) : (askL Tryz.prog [] [(2, Zqg  l sp)] Tryz.f163 [dS 4 (mZ l) sp, .c (.f 117 [] [.p 0 [.f 63 [] []] 0])] K) = (Zc9 (mZ l) sp (0) (0) = Zc9 (mZ l) sp (0) (0) ∧ (∀ (i : Nat), firstAt (fun i => noEv (List.getD l i [])) (List.length l) i → K (DV.c (D.v (Value.int IntKind.i64 (@Nat.cast Int _ i))))) ∧ (noneTo (fun i => noEv (List.getD l i [])) (List.length l) → K (DV.c (D.v (Value.int IntKind.i64 (-1)))))) := by kernel_rfl
theorem ZsT  {l : List (List Int)} {sp : List (List D)} (hw : wid 4 l) (hn : l.length ≤ 9223372036854775807) (Q : Exit → X → Prop) (x : X) (h : Zqg  l sp Q x) : XWP Tryz.prog (.loop (Zap Tryz.f163 0)) Q x := by
  refine ZbF (H := hkA band bor [(117, sLE1)] []) (sw := []) (V := Zd1  (mZ l) sp) (VE := Zd1  (mZ l) sp) (ZaF (.cons oLE1 .nil)) mixed (Zag rfl) (ZgB  (mZ l) sp) (ZgB  (mZ l) sp) _ _ _ _ _ _ (fun i hl N E h1 h2 => ?_) (fun N E h1 => ?_) Q x h
  · rw [Zr1]
    have wi : IntKind.wrap .i64 ((i : Int) + 1) = ((i + 1 : Nat) : Int) := Zas (n := 1) (by omega)
    have hj1 : isJ [IntKind.i64, IntKind.i64, IntKind.i64, IntKind.i64] ((mZ l).getD i []) = true := Zau (j := 0) (n := 4) hw hl (by omega)
    simp only [Zaf, Int.ofNat_lt, hl, decide_true, cond_true, Int.natCast_nonneg, Bool.and_self, Int.toNat_natCast, ZaJ, ZaK, ZbJ, hj1, List.drop_zero, ZaB, true_and, wi]
    have e : noEv  (l.getD i []) = noEv  [(l.getD i []).getD 0 0, (l.getD i []).getD 1 0, (l.getD i []).getD 2 0, (l.getD i []).getD 3 0] := rfl
    cases ho : noEv  (l.getD i []) with
    | false => rw [e] at ho; rw [ho]; exact h2 (by rw [e]; exact ho)
    | true => rw [e] at ho; rw [ho]; exact h1 (by rw [e]; exact ho)
  · rw [Zr1]
    simp only [Zaf, Int.ofNat_lt, Nat.lt_irrefl, decide_false, cond_false, true_and]
    exact h1
def ZpY : Spec := fun ds Q => match ds with | [.c (.s 0 4 R sp), .c (.f 117 [] [.p 0 [.f 63 [] []] 0])] => cond (okZ 4 R) (Q (I (match (toZ R).findIdx? (noEv ) with | some i => (i : Int) | none => -1))) False | _ => False
theorem Ztt : Zad Tryz.prog 163 ZpY := o_of Tryz.func163 (by kernel_rfl) rfl fun ds Q h => by
  unfold ZpY at h; split at h
  · rename_i R sp 
    obtain ⟨h1, h2⟩ := Zae h
    obtain ⟨e1, w1, n1⟩ := Zai h1
    rw [e1]
    rw [← Zav R] at n1
    generalize toZ R = l at *
    refine ⟨_, ZaT (l := []) (m := [(2, Zqg  l sp)]) .nil mixed (Zcz rfl (by kernel_rfl) (ZsT  w1 n1)) Tryz.func163 rfl rfl rfl ?_, rfl, rfl, h2⟩
    rw [Zsr]
    refine ⟨rfl, fun i hi => ?_, fun hn => ?_⟩
    · rw [hi.find]
    · rw [hn.find]
  · exact h.elim
theorem Ztm  (R sp : List (List D)) (K : DV → Prop) : (ask Tryz.prog [(163, ZpY)] Tryz.f116 [dS 4 R sp, .c (.f 117 [] [.p 0 [.f 63 [] []] 0])] K) = (bif okZ (4) R then K (DV.c (D.v (Value.bool (decide ((match List.findIdx? noEv (toZ R) with | some i => @Nat.cast Int _ i | none => -1) ≥ 0))))) else False) := by kernel_rfl
def Zqk : Spec := fun ds Q => match ds with | [.c (.s 0 4 R sp), .c (.f 117 [] [.p 0 [.f 63 [] []] 0])] => cond (okZ 4 R) (Q (B ((toZ R).any (noEv )))) False | _ => False
theorem ZtM : Zad Tryz.prog 116 Zqk := o_of Tryz.func116 (by kernel_rfl) rfl fun ds Q h => by
  unfold Zqk at h; split at h
  · obtain ⟨h1, h2⟩ := Zae h
    refine ⟨_, Zah (.cons Ztt .nil) mixed Tryz.func116 rfl rfl rfl ?_, rfl, rfl, h2⟩
    rw [Ztm, h1, Zdz]; rfl
  · exact h.elim
theorem ZqG (R : List (List D)) (K : DV → Prop) : (ask Tryz.prog [(116, Zqk)] Tryz.f67 [.c (.s 0 4 R []), .c (.f 63 [] [])] K) = (bif okZ (4) R then K (DV.c (D.v (Value.bool !List.any (toZ R) noEv))) else False) := by kernel_rfl
def Ze1 : Spec := fun ds Q => match ds with | [.c d, .c (.f 63 [] [])] => cond d.isOwn False (ZbH 4 d fun R => cond (okZ 4 R) (Q (B (!(toZ R).any noEv))) False) | _ => False
theorem Zib : Zad Tryz.prog 67 Ze1 := o_al Tryz.func67 (by kernel_rfl) rfl fun ds Q h => by
  unfold Ze1 at h; split at h
  · rename_i d
    cases hd : d.isOwn with
    | true => rw [hd] at h; exact h.elim
    | false =>
      rw [hd] at h
      obtain ⟨R, h, r1⟩ := Zam h
      obtain ⟨h1, h2⟩ := Zae h
      refine ⟨_, _, .cons (.c r1 hd rfl) (.cons (.refl _) .nil), Zah (.cons ZtM .nil) mixed Tryz.func67 rfl rfl rfl ?_, rfl, rfl, h2⟩
      rw [ZqG, h1]; rfl
  · exact h.elim
theorem eMIn (x m : Int) (K : DV → Prop) : (ask Tryz.prog [] Tryz.f113 [I x, I m] K) = (bif decide (x ≥ 0) then K (DV.c (D.v (Value.bool (decide (x ≤ m))))) else K (DV.c (D.v (Value.bool false)))) := by kernel_rfl
theorem oMIn : Zad Tryz.prog 113 sIn := o_of Tryz.func113 (by kernel_rfl) rfl fun ds Q h => by
  unfold sIn at h; split at h
  · refine ⟨_, Zah .nil mixed Tryz.func113 rfl rfl rfl ?_, rfl, rfl, h⟩
    rw [eMIn]; rename_i x m; unfold upto; cases decide (x ≥ 0) <;> rfl
  · exact h.elim
def mx (a b : Int) : Int := if b > a then b else a
def mx4 (a b c d : Int) : Int := mx (mx (mx a b) c) d
theorem eMx4 (a b c d : Int) (K : DV → Prop) : (ask Tryz.prog [] Tryz.f62 [.c (.s 0 1 [[vi a], [vi b], [vi c], [vi d]] [])] K) = K (I (mx4 a b c d)) := by kernel_rfl
def sMx : Spec := fun ds Q => match ds with | [.c (.s 0 1 [[.v (.int .i64 a)], [.v (.int .i64 b)], [.v (.int .i64 c)], [.v (.int .i64 d)]] [])] => Q (I (mx4 a b c d)) | _ => False
theorem oMx : Zad Tryz.prog 62 sMx := o_of Tryz.func62 (by kernel_rfl) rfl fun ds Q h => by
  unfold sMx at h; split at h
  · rename_i a b c d
    exact ⟨_, Zah .nil mixed Tryz.func62 rfl rfl rfl (by rw [eMx4]), rfl, rfl, h⟩
  · exact h.elim
end

section
open Go Go.Proofs
def SesD.on (q : SesD) (p r w : List (List Int)) : SesD := { q with pg := mZ p, rd := mZ r, wt := mZ w }
def Zay (s : SesD) : Bool := okZ 4 s.pg && (okZ 3 s.rd && okZ 3 s.wt)
theorem Zlm {s : SesD} (h : Zay s = true) : s = s.on (toZ s.pg) (toZ s.rd) (toZ s.wt) ∧ (wid 4 (toZ s.pg) ∧ (toZ s.pg).length ≤ 9223372036854775807) ∧ (wid 3 (toZ s.rd) ∧ (toZ s.rd).length ≤ 9223372036854775807) ∧ (wid 3 (toZ s.wt) ∧ (toZ s.wt).length ≤ 9223372036854775807) := by
  unfold Zay at h
  simp only [Bool.and_eq_true] at h
  obtain ⟨h1, h2, h3⟩ := h
  obtain ⟨a1, a2, a3⟩ := Zai h1
  obtain ⟨b1, b2, b3⟩ := Zai h2
  obtain ⟨c1, c2, c3⟩ := Zai h3
  refine ⟨?_, ⟨a2, by rw [Zav]; exact a3⟩, ⟨b2, by rw [Zav]; exact b3⟩, ⟨c2, by rw [Zav]; exact c3⟩⟩
  obtain ⟨id, lb, cl, pg, st, pc, r0, r1, r2, r3, rd, wt, at', sp, tr, rs, to⟩ := s
  simp only [SesD.on] at a1 b1 c1 ⊢
  rw [← a1, ← b1, ← c1]
def ZbL (R0 : List (List D)) (R1 : List (List D)) (R2 : List (List D)) (R3 : List (List D)) (q : SesD) (v : Bool) (i : Int) : X := ⟨mkT 70 [(2, .c (.rp 3 0 4 0 0)), (3, .c (.rp 4 0 17 0 0)), (4, ab v), (5, ai i)], [(3, .bx 0 4 [.d (.s 0 3 R0 []), .d (.s 0 3 R1 []), .d (.s 0 3 R2 []), .d (.s 0 3 R3 [])]), (4, .bx 0 17 ((sesL 0 q).map C.d))], [], []⟩
def ZdL (R0 : List (List D)) (R1 : List (List D)) (R2 : List (List D)) (R3 : List (List D)) (q : SesD) : Vw := fun y K => wB y 4 fun v => wI y 5 fun i => K (ZbL R0 R1 R2 R3 q v i)
theorem Zgm (R0 : List (List D)) (R1 : List (List D)) (R2 : List (List D)) (R3 : List (List D)) (q : SesD) : VwOK (ZdL R0 R1 R2 R3 q) := fun y K h => by
  unfold ZdL at h
  obtain ⟨v, h⟩ := Zc1 h
  obtain ⟨i, h⟩ := ZbI h
  exact ⟨_, h⟩
theorem rWd1 (R0 : List (List D)) (R1 : List (List D)) (R2 : List (List D)) (R3 : List (List D)) (q : SesD) (v : Bool) (i : Int) (N : X → Prop) (E : Exit → X → Prop) : (Zb1 Tryz.prog (hkA band bor [(164, Zd7)] []) Tryz.f120 0 [] [2, 3, 4, 5] [3, 4] (ZdL R0 R1 R2 R3 q) (fun _ => ZdL R0 R1 R2 R3 q) N E (ZbL R0 R1 R2 R3 q v i)) = (bif decide (i < @Nat.cast Int _ (List.length q.pg)) then bif decide (0 ≤ i) && decide (i < @Nat.cast Int _ (List.length q.pg)) then bif isJ [IntKind.i64] (List.drop (0) (List.getD q.pg (Int.toNat i) [])) then bif hdJ (List.drop (0) (List.getD q.pg (Int.toNat i) [])) == 2 then bif decide (0 ≤ i) && decide (i < @Nat.cast Int _ (List.length q.pg)) then bif isJ [IntKind.i64] (List.drop (2) (List.getD q.pg (Int.toNat i) [])) then bif decide (0 ≤ i) && decide (i < @Nat.cast Int _ (List.length q.pg)) then bif isJ [IntKind.i64] (List.drop (3) (List.getD q.pg (Int.toNat i) [])) then bif !thr (List.length R0) (List.length R1) (List.length R2) (List.length R3) (hdJ (List.drop (2) (List.getD q.pg (Int.toNat i) []))) (hdJ (List.drop (3) (List.getD q.pg (Int.toNat i) []))) then ZbL R0 R1 R2 R3 q false i = ZbL R0 R1 R2 R3 q false i ∧ E Exit.ret (ZbL R0 R1 R2 R3 q false i) else ZbL R0 R1 R2 R3 q v (IntKind.wrap IntKind.i64 (i + 1)) = ZbL R0 R1 R2 R3 q v (IntKind.wrap IntKind.i64 (i + 1)) ∧ N (ZbL R0 R1 R2 R3 q v (IntKind.wrap IntKind.i64 (i + 1))) else False else False else False else False else bif hdJ (List.drop (0) (List.getD q.pg (Int.toNat i) [])) == 3 then bif decide (0 ≤ i) && decide (i < @Nat.cast Int _ (List.length q.pg)) then bif isJ [IntKind.i64] (List.drop (2) (List.getD q.pg (Int.toNat i) [])) then bif decide (0 ≤ i) && decide (i < @Nat.cast Int _ (List.length q.pg)) then bif isJ [IntKind.i64] (List.drop (3) (List.getD q.pg (Int.toNat i) [])) then bif !thr (List.length R0) (List.length R1) (List.length R2) (List.length R3) (hdJ (List.drop (2) (List.getD q.pg (Int.toNat i) []))) (hdJ (List.drop (3) (List.getD q.pg (Int.toNat i) []))) then ZbL R0 R1 R2 R3 q false i = ZbL R0 R1 R2 R3 q false i ∧ E Exit.ret (ZbL R0 R1 R2 R3 q false i) else ZbL R0 R1 R2 R3 q v (IntKind.wrap IntKind.i64 (i + 1)) = ZbL R0 R1 R2 R3 q v (IntKind.wrap IntKind.i64 (i + 1)) ∧ N (ZbL R0 R1 R2 R3 q v (IntKind.wrap IntKind.i64 (i + 1))) else False else False else False else False else ZbL R0 R1 R2 R3 q v (IntKind.wrap IntKind.i64 (i + 1)) = ZbL R0 R1 R2 R3 q v (IntKind.wrap IntKind.i64 (i + 1)) ∧ N (ZbL R0 R1 R2 R3 q v (IntKind.wrap IntKind.i64 (i + 1))) else False else False else ZbL R0 R1 R2 R3 q v i = ZbL R0 R1 R2 R3 q v i ∧ E (Exit.exit (0)) (ZbL R0 R1 R2 R3 q v i)) := by kernel_rfl
def fWd1 (a b c d : List (List Int)) (q : SesD) (p r w : List (List Int)) : LSum := ZcC [2, 3, 4, 5] [3, 4] (fun i => ZbL (mZ a) (mZ b) (mZ c) (mZ d) (q.on p r w) false i) (fun i => ZbL (mZ a) (mZ b) (mZ c) (mZ d) (q.on p r w) false i) p.length (fun i => noIn (mZ a) (mZ b) (mZ c) (mZ d) (p.getD i [])) .ret (.exit 0)
theorem kWd1 {a b c d : List (List Int)} {q : SesD} {p r w : List (List Int)} (hw : wid 4 p) (hn : p.length ≤ 9223372036854775807) (Q : Exit → X → Prop) (x : X) (h : fWd1 a b c d q p r w Q x) : XWP Tryz.prog (.loop (Zap Tryz.f120 0)) Q x := by
  refine Zck (sw := []) (V := ZdL (mZ a) (mZ b) (mZ c) (mZ d) (q.on p r w)) (VE := fun _ => ZdL (mZ a) (mZ b) (mZ c) (mZ d) (q.on p r w)) mixed (Zgm (mZ a) (mZ b) (mZ c) (mZ d) (q.on p r w)) (fun _ => Zgm (mZ a) (mZ b) (mZ c) (mZ d) (q.on p r w)) _ _ _ _ _ _ (fun i hl => ⟨hkA band bor [(164, Zd7)] [], ZaF (.cons Ziu .nil), Zag rfl, fun N E h1 h2 => ?_⟩) ⟨hkA band bor [(164, Zd7)] [], ZaF (.cons Ziu .nil), Zag rfl, fun N E h1 => ?_⟩ Q x h
  · rw [rWd1]
    have wi : IntKind.wrap .i64 ((i : Int) + 1) = ((i + 1 : Nat) : Int) := Zas (n := 1) (by omega)
    have a0 : isJ [IntKind.i64] ((mZ p).getD i []) = true := Zau (j := 0) (n := 1) hw hl (by omega)
    have a1 : isJ [IntKind.i64] (List.drop 1 ((mZ p).getD i [])) = true := Zau (j := 1) (n := 1) hw hl (by omega)
    have a2 : isJ [IntKind.i64] (List.drop 2 ((mZ p).getD i [])) = true := Zau (j := 2) (n := 1) hw hl (by omega)
    have a3 : isJ [IntKind.i64] (List.drop 3 ((mZ p).getD i [])) = true := Zau (j := 3) (n := 1) hw hl (by omega)
    have a9 : isJ [IntKind.i64, IntKind.i64, IntKind.i64, IntKind.i64] ((mZ p).getD i []) = true := Zau (j := 0) (n := 4) hw hl (by omega)
    simp only [SesD.on, Zaf, Int.ofNat_lt, hl, decide_true, cond_true, Int.natCast_nonneg, Bool.and_self, Int.toNat_natCast, a0, a1, a2, a3, a9, List.drop_zero, ZaB, Zb6, ZaJ, ZaK, ZbJ, true_and, wi] at h1 h2 ⊢
    unfold noIn thW at h1 h2
    simp only [Zaf] at h1 h2
    unfold isRW at h1 h2
    generalize thr a.length b.length c.length d.length ((p.getD i []).getD 2 0) ((p.getD i []).getD 3 0) = u at h1 h2 ⊢
    cases e2 : ((p.getD i []).getD 0 0 == 2) <;> cases e3 : ((p.getD i []).getD 0 0 == 3) <;> cases u <;> simp only [e2, e3, cond_true, cond_false, Bool.not_true, Bool.not_false, Bool.and_true, Bool.and_false, Bool.true_and, Bool.false_and, forall_const, reduceCtorEq, false_implies] at h1 h2 ⊢ <;> first | exact h1 | exact h2 | exact h1 trivial | exact h2 trivial
  · rw [rWd1]
    simp only [SesD.on, Zaf, Int.ofNat_lt, Nat.lt_irrefl, decide_false, cond_false, true_and]
    exact h1
def Zda (R0 : List (List D)) (R1 : List (List D)) (R2 : List (List D)) (R3 : List (List D)) (q : SesD) (v : Bool) (i : Int) : X := ⟨mkT 70 [(2, .c (.rp 3 0 4 0 0)), (3, .c (.rp 4 0 17 0 0)), (4, ab v), (7, ai i)], [(3, .bx 0 4 [.d (.s 0 3 R0 []), .d (.s 0 3 R1 []), .d (.s 0 3 R2 []), .d (.s 0 3 R3 [])]), (4, .bx 0 17 ((sesL 0 q).map C.d))], [], []⟩
def ZdO (R0 : List (List D)) (R1 : List (List D)) (R2 : List (List D)) (R3 : List (List D)) (q : SesD) : Vw := fun y K => wB y 4 fun v => wI y 7 fun i => K (Zda R0 R1 R2 R3 q v i)
theorem Zgk (R0 : List (List D)) (R1 : List (List D)) (R2 : List (List D)) (R3 : List (List D)) (q : SesD) : VwOK (ZdO R0 R1 R2 R3 q) := fun y K h => by
  unfold ZdO at h
  obtain ⟨v, h⟩ := Zc1 h
  obtain ⟨i, h⟩ := ZbI h
  exact ⟨_, h⟩
theorem rWd2 (R0 : List (List D)) (R1 : List (List D)) (R2 : List (List D)) (R3 : List (List D)) (q : SesD) (v : Bool) (i : Int) (N : X → Prop) (E : Exit → X → Prop) : (Zb1 Tryz.prog (hkA band bor [(164, Zd7)] []) Tryz.f120 1 [] [2, 3, 4, 7] [3, 4] (ZdO R0 R1 R2 R3 q) (fun _ => ZdO R0 R1 R2 R3 q) N E (Zda R0 R1 R2 R3 q v i)) = (bif decide (i < @Nat.cast Int _ (List.length q.wt)) then bif decide (0 ≤ i) && decide (i < @Nat.cast Int _ (List.length q.wt)) then bif isJ [IntKind.i64] (List.drop (0) (List.getD q.wt (Int.toNat i) [])) then bif decide (0 ≤ i) && decide (i < @Nat.cast Int _ (List.length q.wt)) then bif isJ [IntKind.i64] (List.drop (1) (List.getD q.wt (Int.toNat i) [])) then bif !thr (List.length R0) (List.length R1) (List.length R2) (List.length R3) (hdJ (List.drop (0) (List.getD q.wt (Int.toNat i) []))) (hdJ (List.drop (1) (List.getD q.wt (Int.toNat i) []))) then Zda R0 R1 R2 R3 q false i = Zda R0 R1 R2 R3 q false i ∧ E Exit.ret (Zda R0 R1 R2 R3 q false i) else Zda R0 R1 R2 R3 q v (IntKind.wrap IntKind.i64 (i + 1)) = Zda R0 R1 R2 R3 q v (IntKind.wrap IntKind.i64 (i + 1)) ∧ N (Zda R0 R1 R2 R3 q v (IntKind.wrap IntKind.i64 (i + 1))) else False else False else False else False else Zda R0 R1 R2 R3 q v i = Zda R0 R1 R2 R3 q v i ∧ E (Exit.exit (2)) (Zda R0 R1 R2 R3 q v i)) := by kernel_rfl
def fWd2 (a b c d : List (List Int)) (q : SesD) (p r w : List (List Int)) : LSum := ZcC [2, 3, 4, 7] [3, 4] (fun i => Zda (mZ a) (mZ b) (mZ c) (mZ d) (q.on p r w) false i) (fun i => Zda (mZ a) (mZ b) (mZ c) (mZ d) (q.on p r w) false i) w.length (fun i => noWr (mZ a) (mZ b) (mZ c) (mZ d) (w.getD i [])) .ret (.exit 2)
theorem kWd2 {a b c d : List (List Int)} {q : SesD} {p r w : List (List Int)} (hw : wid 3 w) (hn : w.length ≤ 9223372036854775807) (Q : Exit → X → Prop) (x : X) (h : fWd2 a b c d q p r w Q x) : XWP Tryz.prog (.loop (Zap Tryz.f120 1)) Q x := by
  refine Zck (sw := []) (V := ZdO (mZ a) (mZ b) (mZ c) (mZ d) (q.on p r w)) (VE := fun _ => ZdO (mZ a) (mZ b) (mZ c) (mZ d) (q.on p r w)) mixed (Zgk (mZ a) (mZ b) (mZ c) (mZ d) (q.on p r w)) (fun _ => Zgk (mZ a) (mZ b) (mZ c) (mZ d) (q.on p r w)) _ _ _ _ _ _ (fun i hl => ⟨hkA band bor [(164, Zd7)] [], ZaF (.cons Ziu .nil), Zag rfl, fun N E h1 h2 => ?_⟩) ⟨hkA band bor [(164, Zd7)] [], ZaF (.cons Ziu .nil), Zag rfl, fun N E h1 => ?_⟩ Q x h
  · rw [rWd2]
    have wi : IntKind.wrap .i64 ((i : Int) + 1) = ((i + 1 : Nat) : Int) := Zas (n := 1) (by omega)
    have a0 : isJ [IntKind.i64] ((mZ w).getD i []) = true := Zau (j := 0) (n := 1) hw hl (by omega)
    have a1 : isJ [IntKind.i64] (List.drop 1 ((mZ w).getD i [])) = true := Zau (j := 1) (n := 1) hw hl (by omega)
    have a2 : isJ [IntKind.i64] (List.drop 2 ((mZ w).getD i [])) = true := Zau (j := 2) (n := 1) hw hl (by omega)
    have a9 : isJ [IntKind.i64, IntKind.i64, IntKind.i64] ((mZ w).getD i []) = true := Zau (j := 0) (n := 3) hw hl (by omega)
    simp only [SesD.on, Zaf, Int.ofNat_lt, hl, decide_true, cond_true, Int.natCast_nonneg, Bool.and_self, Int.toNat_natCast, a0, a1, a2, a9, List.drop_zero, ZaB, Zb6, ZaJ, ZaK, ZbJ, true_and, wi] at h1 h2 ⊢
    unfold noWr thW at h1 h2
    simp only [Zaf] at h1 h2
    generalize thr a.length b.length c.length d.length ((w.getD i []).getD 0 0) ((w.getD i []).getD 1 0) = u at h1 h2 ⊢
    cases u <;> simp only [cond_true, cond_false, Bool.not_true, Bool.not_false, forall_const, reduceCtorEq, false_implies] at h1 h2 ⊢ <;> first | exact h1 | exact h2 | exact h1 trivial | exact h2 trivial
  · rw [rWd2]
    simp only [SesD.on, Zaf, Int.ofNat_lt, Nat.lt_irrefl, decide_false, cond_false, true_and]
    exact h1
theorem Zp6 {P : Program} {l : List (FuncId × Spec)} {fn : Func} {k1 k2 : Nat} {s1 s2 : LSum} (hn : (ZaU (Zar fn)).length = 2) (e1 : Zbp (Zap fn 0) = k1) (e2 : Zbp (Zap fn 1) = k2) (hne : Nat.beq k1 k2 = false) (h1 : ∀ Q x, s1 Q x → XWP P (.loop (Zap fn 0)) Q x) (h2 : ∀ Q x, s2 Q x → XWP P (.loop (Zap fn 1)) Q x) : Zaq P (hkl l [(k1, s1), (k2, s2)]) (Zar fn) :=
  ZcW 2 hn fun i hi s hs Q x hq => by
    match i, hi with
    | 0, _ =>
      rw [e1] at hs
      have hs' : some s1 = some s := by simpa [ZcT, hkl, hkA, Za0] using hs
      cases hs'
      exact h1 Q x hq
    | 1, _ =>
      rw [e2] at hs
      have hs' : some s2 = some s := by simpa [ZcT, hkl, hkA, Za0, hne] using hs
      cases hs'
      exact h2 Q x hq
theorem eWds (a b c d : List (List Int)) (q : SesD) (p r w : List (List Int)) (K : DV → Prop) : (askL Tryz.prog [(164, Zd7), (165, sRT)] [(2, fWd1 a b c d q p r w), (8, fWd2 a b c d q p r w)] Tryz.f120 [.agg (wsL (mZ a) (mZ b) (mZ c) (mZ d)), .agg (sesL 0 (q.on p r w))] K) = (ZbL (mZ a) (mZ b) (mZ c) (mZ d) { id := q.id, lb := q.lb, cl := q.cl, pg := mZ p, st := q.st, pc := q.pc, r0 := q.r0, r1 := q.r1, r2 := q.r2, r3 := q.r3, rd := mZ r, wt := mZ w, at' := q.at', sp := q.sp, tr := q.tr, rs := q.rs, to := q.to } false (0) = ZbL (mZ a) (mZ b) (mZ c) (mZ d) { id := q.id, lb := q.lb, cl := q.cl, pg := mZ p, st := q.st, pc := q.pc, r0 := q.r0, r1 := q.r1, r2 := q.r2, r3 := q.r3, rd := mZ r, wt := mZ w, at' := q.at', sp := q.sp, tr := q.tr, rs := q.rs, to := q.to } false (0) ∧ (∀ (i : Nat), firstAt (fun i => noIn (mZ a) (mZ b) (mZ c) (mZ d) (List.getD p i [])) (List.length p) i → K (DV.c (D.v (Value.bool false)))) ∧ (noneTo (fun i => noIn (mZ a) (mZ b) (mZ c) (mZ d) (List.getD p i [])) (List.length p) → Zda (mZ a) (mZ b) (mZ c) (mZ d) { id := q.id, lb := q.lb, cl := q.cl, pg := mZ p, st := q.st, pc := q.pc, r0 := q.r0, r1 := q.r1, r2 := q.r2, r3 := q.r3, rd := mZ r, wt := mZ w, at' := q.at', sp := q.sp, tr := q.tr, rs := q.rs, to := q.to } false (0) = Zda (mZ a) (mZ b) (mZ c) (mZ d) { id := q.id, lb := q.lb, cl := q.cl, pg := mZ p, st := q.st, pc := q.pc, r0 := q.r0, r1 := q.r1, r2 := q.r2, r3 := q.r3, rd := mZ r, wt := mZ w, at' := q.at', sp := q.sp, tr := q.tr, rs := q.rs, to := q.to } false (0) ∧ (∀ (i : Nat), firstAt (fun i => noWr (mZ a) (mZ b) (mZ c) (mZ d) (List.getD w i [])) (List.length w) i → K (DV.c (D.v (Value.bool false)))) ∧ (noneTo (fun i => noWr (mZ a) (mZ b) (mZ c) (mZ d) (List.getD w i [])) (List.length w) → bif okA (mZ a) (mZ b) (mZ c) (mZ d) && okZ (3) (mZ r) then K (DV.c (D.v (Value.bool (List.all (toZ (mZ r)) (thv (toZ (mZ a)) (toZ (mZ b)) (toZ (mZ c)) (toZ (mZ d))))))) else False))) := by kernel_rfl
end

section
open Go Go.Proofs
def Zij (R0 R1 R2 R3 : List (List D)) (s : SesD) : Bool := rmay (toZ s.rd) && (ZfM (toZ s.wt) && (!(toZ s.rd).any (noRd R0 R1 R2 R3) && (!(toZ s.wt).any (noWr R0 R1 R2 R3) && !(toZ s.pg).any (noIn R0 R1 R2 R3))))
def farB (s : SesD) : Bool := upto s.pc 0 s.pg.length && (upto s.at' 0 s.wt.length && (upto s.st 0 6 && upto s.rs 0 5))
def ZiU (s : SesD) : Bool := v4 s.r0 s.r1 s.r2 s.r3 && (clk s.sp && (clk s.tr && val8 s.to))
def Zaj (R0 R1 R2 R3 : List (List D)) (s : SesD) : Bool := smay s.id s.lb s.cl (toZ s.pg) && (Zij R0 R1 R2 R3 s && (farB s && ZiU s))
def stL0 (R0 : List (List D)) (R1 : List (List D)) (R2 : List (List D)) (R3 : List (List D)) (s : SesD)  : X := ⟨mkT 97 [(2, .c (.rp 3 0 1 0 0)), (3, .c (.rp 4 0 17 0 0))], [(3, .bx 0 1 [.d (.p 0 (wsL R0 R1 R2 R3) 0)]), (4, .bx 0 17 ((sesL 0 s).map C.d))], [], []⟩
def Znu (R0 : List (List D)) (R1 : List (List D)) (R2 : List (List D)) (R3 : List (List D)) (s : SesD) : Vw := fun y K => K (stL0 R0 R1 R2 R3 s )
theorem Znf (R0 : List (List D)) (R1 : List (List D)) (R2 : List (List D)) (R3 : List (List D)) (s : SesD) : VwOK (Znu R0 R1 R2 R3 s) := fun y K h => by
  unfold Znu at h
  exact ⟨_, h⟩
def stL1 (R0 : List (List D)) (R1 : List (List D)) (R2 : List (List D)) (R3 : List (List D)) (s : SesD) (b1 : Bool) : X := ⟨mkT 97 [(2, .c (.rp 3 0 1 0 0)), (3, .c (.rp 4 0 17 0 0)), (5, ab b1)], [(3, .bx 0 1 [.d (.p 0 (wsL R0 R1 R2 R3) 0)]), (4, .bx 0 17 ((sesL 0 s).map C.d))], [], []⟩
def Zm2 (R0 : List (List D)) (R1 : List (List D)) (R2 : List (List D)) (R3 : List (List D)) (s : SesD) : Vw := fun y K => wB y 5 fun b1 => K (stL1 R0 R1 R2 R3 s b1)
theorem ZmJ (R0 : List (List D)) (R1 : List (List D)) (R2 : List (List D)) (R3 : List (List D)) (s : SesD) : VwOK (Zm2 R0 R1 R2 R3 s) := fun y K h => by
  unfold Zm2 at h
  obtain ⟨b1, h⟩ := Zc1 h
  exact ⟨_, h⟩
def stL2 (R0 : List (List D)) (R1 : List (List D)) (R2 : List (List D)) (R3 : List (List D)) (s : SesD) (b1 : Bool) (b2 : Bool) : X := ⟨mkT 97 [(2, .c (.rp 3 0 1 0 0)), (3, .c (.rp 4 0 17 0 0)), (5, ab b1), (6, ab b2)], [(3, .bx 0 1 [.d (.p 0 (wsL R0 R1 R2 R3) 0)]), (4, .bx 0 17 ((sesL 0 s).map C.d))], [], []⟩
def ZmV (R0 : List (List D)) (R1 : List (List D)) (R2 : List (List D)) (R3 : List (List D)) (s : SesD) : Vw := fun y K => wB y 5 fun b1 => wB y 6 fun b2 => K (stL2 R0 R1 R2 R3 s b1 b2)
theorem ZlJ (R0 : List (List D)) (R1 : List (List D)) (R2 : List (List D)) (R3 : List (List D)) (s : SesD) : VwOK (ZmV R0 R1 R2 R3 s) := fun y K h => by
  unfold ZmV at h
  obtain ⟨b1, h⟩ := Zc1 h
  obtain ⟨b2, h⟩ := Zc1 h
  exact ⟨_, h⟩
def stL3 (R0 : List (List D)) (R1 : List (List D)) (R2 : List (List D)) (R3 : List (List D)) (s : SesD) (b1 : Bool) (b2 : Bool) (b3 : Bool) : X := ⟨mkT 97 [(2, .c (.rp 3 0 1 0 0)), (3, .c (.rp 4 0 17 0 0)), (5, ab b1), (6, ab b2), (7, ab b3)], [(3, .bx 0 1 [.d (.p 0 (wsL R0 R1 R2 R3) 0)]), (4, .bx 0 17 ((sesL 0 s).map C.d))], [], []⟩
def ZmP (R0 : List (List D)) (R1 : List (List D)) (R2 : List (List D)) (R3 : List (List D)) (s : SesD) : Vw := fun y K => wB y 5 fun b1 => wB y 6 fun b2 => wB y 7 fun b3 => K (stL3 R0 R1 R2 R3 s b1 b2 b3)
theorem Zmu (R0 : List (List D)) (R1 : List (List D)) (R2 : List (List D)) (R3 : List (List D)) (s : SesD) : VwOK (ZmP R0 R1 R2 R3 s) := fun y K h => by
  unfold ZmP at h
  obtain ⟨b1, h⟩ := Zc1 h
  obtain ⟨b2, h⟩ := Zc1 h
  obtain ⟨b3, h⟩ := Zc1 h
  exact ⟨_, h⟩
def stL4 (R0 : List (List D)) (R1 : List (List D)) (R2 : List (List D)) (R3 : List (List D)) (s : SesD) (b : Bool) : X := ⟨mkT 97 [(4, ab b)], [], [], []⟩
def Zl9 (R0 : List (List D)) (R1 : List (List D)) (R2 : List (List D)) (R3 : List (List D)) (s : SesD) : Vw := fun y K => wB y 4 fun b => K (stL4 R0 R1 R2 R3 s b)
theorem Znt (R0 : List (List D)) (R1 : List (List D)) (R2 : List (List D)) (R3 : List (List D)) (s : SesD) : VwOK (Zl9 R0 R1 R2 R3 s) := fun y K h => by
  unfold Zl9 at h
  obtain ⟨b, h⟩ := Zc1 h
  exact ⟨_, h⟩
theorem eL0 (R0 : List (List D)) (R1 : List (List D)) (R2 : List (List D)) (R3 : List (List D)) (s : SesD) (N : X → Prop) : (Zja Tryz.prog (hk []) (partOf Tryz.f66 0) [2, 3] [3, 4] (Znu R0 R1 R2 R3 s) N (Zbz 97 [.agg [.p 0 (wsL R0 R1 R2 R3) 0], .agg (sesL 0 s)])) = (stL0 R0 R1 R2 R3 s = stL0 R0 R1 R2 R3 s ∧ N (stL0 R0 R1 R2 R3 s)) := by kernel_rfl
theorem eL1 (R0 : List (List D)) (R1 : List (List D)) (R2 : List (List D)) (R3 : List (List D)) (s : SesD) (N : X → Prop) : (Zja Tryz.prog (hk [(89, Zjq)]) (partOf Tryz.f66 1) [2, 3, 5] [3, 4] (Zm2 R0 R1 R2 R3 s) N (stL0 R0 R1 R2 R3 s)) = (bif okZ (4) s.pg then stL1 R0 R1 R2 R3 s (smay s.id s.lb s.cl (toZ s.pg)) = stL1 R0 R1 R2 R3 s (smay s.id s.lb s.cl (toZ s.pg)) ∧ N (stL1 R0 R1 R2 R3 s (smay s.id s.lb s.cl (toZ s.pg))) else False) := by kernel_rfl
theorem eL2 (R0 : List (List D)) (R1 : List (List D)) (R2 : List (List D)) (R3 : List (List D)) (s : SesD) (b1 : Bool) (N : X → Prop) : (Zja Tryz.prog (hk [(105, sRM), (106, sWMy), (107, Zne), (109, Zng), (111, Zmz)]) (partOf Tryz.f66 2) [2, 3, 5, 6] [3, 4] (ZmV R0 R1 R2 R3 s) N (stL1 R0 R1 R2 R3 s b1)) = (bif okZ (3) s.rd then bif rmay (toZ s.rd) then bif okZ (3) s.wt then bif ZfM (toZ s.wt) then bif okZ (3) s.rd then bif !List.any (toZ s.rd) (noRd R0 R1 R2 R3) then bif okZ (3) s.wt then bif !List.any (toZ s.wt) (noWr R0 R1 R2 R3) then bif okZ (4) s.pg then (stL2 R0 R1 R2 R3 s b1 !List.any (toZ s.pg) (noIn R0 R1 R2 R3)) = stL2 R0 R1 R2 R3 s b1 !List.any (toZ s.pg) (noIn R0 R1 R2 R3) ∧ N (stL2 R0 R1 R2 R3 s b1 !List.any (toZ s.pg) (noIn R0 R1 R2 R3)) else False else stL2 R0 R1 R2 R3 s b1 false = stL2 R0 R1 R2 R3 s b1 false ∧ N (stL2 R0 R1 R2 R3 s b1 false) else False else stL2 R0 R1 R2 R3 s b1 false = stL2 R0 R1 R2 R3 s b1 false ∧ N (stL2 R0 R1 R2 R3 s b1 false) else False else stL2 R0 R1 R2 R3 s b1 false = stL2 R0 R1 R2 R3 s b1 false ∧ N (stL2 R0 R1 R2 R3 s b1 false) else False else stL2 R0 R1 R2 R3 s b1 false = stL2 R0 R1 R2 R3 s b1 false ∧ N (stL2 R0 R1 R2 R3 s b1 false) else False) := by kernel_rfl
theorem eL3 (R0 : List (List D)) (R1 : List (List D)) (R2 : List (List D)) (R3 : List (List D)) (s : SesD) (b1 : Bool) (b2 : Bool) (N : X → Prop) : (Zja Tryz.prog (hk [(113, sIn)]) (partOf Tryz.f66 3) [2, 3, 5, 6, 7] [3, 4] (ZmP R0 R1 R2 R3 s) N (stL2 R0 R1 R2 R3 s b1 b2)) = (bif upto s.pc (0) (@Nat.cast Int _ (List.length s.pg)) then bif upto s.at' (0) (@Nat.cast Int _ (List.length s.wt)) then bif upto s.st (0) (6) then stL3 R0 R1 R2 R3 s b1 b2 (upto s.rs (0) (5)) = stL3 R0 R1 R2 R3 s b1 b2 (upto s.rs (0) (5)) ∧ N (stL3 R0 R1 R2 R3 s b1 b2 (upto s.rs (0) (5))) else stL3 R0 R1 R2 R3 s b1 b2 false = stL3 R0 R1 R2 R3 s b1 b2 false ∧ N (stL3 R0 R1 R2 R3 s b1 b2 false) else stL3 R0 R1 R2 R3 s b1 b2 false = stL3 R0 R1 R2 R3 s b1 b2 false ∧ N (stL3 R0 R1 R2 R3 s b1 b2 false) else stL3 R0 R1 R2 R3 s b1 b2 false = stL3 R0 R1 R2 R3 s b1 b2 false ∧ N (stL3 R0 R1 R2 R3 s b1 b2 false)) := by kernel_rfl
theorem eL4 (R0 : List (List D)) (R1 : List (List D)) (R2 : List (List D)) (R3 : List (List D)) (s : SesD) (b1 : Bool) (b2 : Bool) (b3 : Bool) (N : X → Prop) : (Zja Tryz.prog (hk [(114, sRgM), (102, sB clk), (115, sB val8)]) (partOf Tryz.f66 4) [4] [] (Zl9 R0 R1 R2 R3 s) N (stL3 R0 R1 R2 R3 s b1 b2 b3)) = (bif b1 then bif b2 then bif b3 then bif v4 s.r0 s.r1 s.r2 s.r3 then bif clk s.sp then bif clk s.tr then stL4 R0 R1 R2 R3 s (val8 s.to) = stL4 R0 R1 R2 R3 s (val8 s.to) ∧ N (stL4 R0 R1 R2 R3 s (val8 s.to)) else stL4 R0 R1 R2 R3 s false = stL4 R0 R1 R2 R3 s false ∧ N (stL4 R0 R1 R2 R3 s false) else stL4 R0 R1 R2 R3 s false = stL4 R0 R1 R2 R3 s false ∧ N (stL4 R0 R1 R2 R3 s false) else stL4 R0 R1 R2 R3 s false = stL4 R0 R1 R2 R3 s false ∧ N (stL4 R0 R1 R2 R3 s false) else stL4 R0 R1 R2 R3 s false = stL4 R0 R1 R2 R3 s false ∧ N (stL4 R0 R1 R2 R3 s false) else stL4 R0 R1 R2 R3 s false = stL4 R0 R1 R2 R3 s false ∧ N (stL4 R0 R1 R2 R3 s false) else stL4 R0 R1 R2 R3 s false = stL4 R0 R1 R2 R3 s false ∧ N (stL4 R0 R1 R2 R3 s false)) := by kernel_rfl
theorem eL5 (R0 : List (List D)) (R1 : List (List D)) (R2 : List (List D)) (R3 : List (List D)) (s : SesD) (b : Bool) (K : DV → Prop) : (evp Tryz.prog (hk []) 200 (partOf Tryz.f66 5) (fun e y => match e with | .normal => finX Tryz.prog Tryz.f66 K .normal y | e => finX Tryz.prog Tryz.f66 K e y) (stL4 R0 R1 R2 R3 s b)) = (K (DV.c (D.v (Value.bool b)))) := by kernel_rfl
theorem ZqO : seqs (Zar Tryz.f66) = [partOf Tryz.f66 0, partOf Tryz.f66 1, partOf Tryz.f66 2, partOf Tryz.f66 3, partOf Tryz.f66 4, partOf Tryz.f66 5] := by kernel_rfl
theorem cLS (R0 R1 R2 R3 : List (List D)) (s : SesD) (hs : Zay s = true) : CT Tryz.prog 66 [.agg [.p 0 (wsL R0 R1 R2 R3) 0], .agg (sesL 0 s)] (B (Zaj R0 R1 R2 R3 s)) := by
  unfold Zay at hs
  simp only [Bool.and_eq_true] at hs
  obtain ⟨h1, h2, h3⟩ := hs
  refine Zm4 Tryz.func66 (c := Zar Tryz.f66) rfl (Nat.le_of_ble_eq_true rfl) rfl (ZnQ _ _ _ ?_)
  rw [ZqO]
  refine Zfq (ts := [2, 3]) (ks := [3, 4]) (Zjw .nil) mixed Zbv (by simp) (Znf R0 R1 R2 R3 s) ?_
  show Zja Tryz.prog _ _ _ _ _ _ (Zbz 97 _)
  rw [eL0]
  refine ⟨rfl, Zfq (ts := [2, 3, 5]) (ks := [3, 4]) (Zjw (.cons Zsp .nil)) mixed Zbv (by simp) (ZmJ R0 R1 R2 R3 s) ?_⟩
  rw [eL1]
  simp only [h1, cond_true]
  refine ⟨trivial, ?_⟩
  generalize hb1 : smay s.id s.lb s.cl (toZ s.pg) = b1
  refine Zfq (ts := [2, 3, 5, 6]) (ks := [3, 4]) (Zjw (.cons oRM (.cons oWMy (.cons Zsd (.cons ZrT (.cons Zrb .nil)))))) mixed Zbv (by simp) (ZlJ R0 R1 R2 R3 s) ?_
  suffices key2 : XS Tryz.prog [partOf Tryz.f66 3, partOf Tryz.f66 4, partOf Tryz.f66 5] (finX Tryz.prog Tryz.f66 fun r => r = B (Zaj R0 R1 R2 R3 s)) (stL2 R0 R1 R2 R3 s b1 (Zij R0 R1 R2 R3 s)) by
    rw [eL2]
    simp only [h1, h2, h3, cond_true]
    unfold Zij at key2
    cases q1 : rmay (toZ s.rd) <;> cases q2 : ZfM (toZ s.wt) <;> cases q3 : !(toZ s.rd).any (noRd R0 R1 R2 R3) <;> cases q4 : !(toZ s.wt).any (noWr R0 R1 R2 R3) <;> cases q5 : !(toZ s.pg).any (noIn R0 R1 R2 R3) <;>
      simp only [q1, q2, q3, q4, q5, cond_true, cond_false, Bool.and_true, Bool.and_false, Bool.true_and, Bool.false_and, true_and] at key2 ⊢ <;> exact key2
  generalize hb2 : Zij R0 R1 R2 R3 s = b2
  refine Zfq (ts := [2, 3, 5, 6, 7]) (ks := [3, 4]) (Zjw (.cons oMIn .nil)) mixed Zbv (by simp) (Zmu R0 R1 R2 R3 s) ?_
  suffices key3 : XS Tryz.prog [partOf Tryz.f66 4, partOf Tryz.f66 5] (finX Tryz.prog Tryz.f66 fun r => r = B (Zaj R0 R1 R2 R3 s)) (stL3 R0 R1 R2 R3 s b1 b2 (farB s)) by
    rw [eL3]
    unfold farB at key3
    cases q1 : upto s.pc 0 s.pg.length <;> cases q2 : upto s.at' 0 s.wt.length <;> cases q3 : upto s.st 0 6 <;> cases q4 : upto s.rs 0 5 <;>
      simp only [q1, q2, q3, q4, cond_true, cond_false, Bool.and_true, Bool.and_false, Bool.true_and, Bool.false_and, true_and] at key3 ⊢ <;> exact key3
  generalize hb3 : farB s = b3
  refine Zfq (ts := [4]) (ks := []) (Zjw (.cons oRgM (.cons oClk (.cons oVal .nil)))) mixed Zbv (by simp) (Znt R0 R1 R2 R3 s) ?_
  suffices key4 : XS Tryz.prog [partOf Tryz.f66 5] (finX Tryz.prog Tryz.f66 fun r => r = B (Zaj R0 R1 R2 R3 s)) (stL4 R0 R1 R2 R3 s (b1 && (b2 && (b3 && ZiU s)))) by
    rw [eL4]
    unfold ZiU at key4
    cases b1 <;> cases b2 <;> cases b3 <;> cases q1 : v4 s.r0 s.r1 s.r2 s.r3 <;> cases q2 : clk s.sp <;> cases q3 : clk s.tr <;> cases q4 : val8 s.to <;>
      simp only [q1, q2, q3, q4, cond_true, cond_false, Bool.and_true, Bool.and_false, Bool.true_and, Bool.false_and, true_and] at key4 ⊢ <;> exact key4
  refine Zp1 (Zjw .nil) mixed Zbv ?_
  have h5 := eL5 R0 R1 R2 R3 s (b1 && (b2 && (b3 && ZiU s))) (fun r => r = B (Zaj R0 R1 R2 R3 s))
  refine h5.mpr ?_
  rw [← hb1, ← hb2, ← hb3]; rfl
end

section
open Go Go.Proofs
def sLS : Spec := fun ds Q => match ds with
  | [.agg [p], e] => ZkD p fun R0 R1 R2 R3 => sesA e fun s => cond (Zay s) (Q (B (Zaj R0 R1 R2 R3 s))) False
  | _ => False
theorem oLS : Zad Tryz.prog 66 sLS := o_al Tryz.func66 (by kernel_rfl) rfl fun ds Q h => by
  unfold sLS at h; split at h
  · obtain ⟨R0, R1, R2, R3, h, r1, e1⟩ := ZeX h
    obtain ⟨s, h, r2⟩ := Zb9 h
    obtain ⟨h1, h2⟩ := Zae h
    exact ⟨_, _, .cons (.agg (.cons r1 .nil) (by simp [e1]) rfl) (.cons r2 .nil), cLS R0 R1 R2 R3 s h1, rfl, rfl, h2⟩
  · exact h.elim
theorem eA1S (R0 R1 R2 R3 : List (List D)) (s : SesD) (K : DV → Prop) : (ask Tryz.prog [(66, sLS)] Tryz.f104 [.agg (sesL 0 s), .c (.p 0 [.f 66 [.f AG [] [.p 0 (wsL R0 R1 R2 R3) 0]] []] 0)] K) = (bif Zay s then K (DV.c (D.v (Value.bool !Zaj R0 R1 R2 R3 s))) else False) := by kernel_rfl
def sA1S : Spec := fun ds Q => match ds with
  | [e, .c (.p _ [c] 0)] => sesA e fun s => ZfE 66 c fun R0 R1 R2 R3 => cond (Zay s) (Q (B (!Zaj R0 R1 R2 R3 s))) False
  | _ => False
theorem oA1S : Zad Tryz.prog 104 sA1S := o_al Tryz.func104 (by kernel_rfl) rfl fun ds Q h => by
  unfold sA1S at h; split at h
  · obtain ⟨s, h, r2⟩ := Zb9 h
    obtain ⟨R0, R1, R2, R3, h, r1, e1⟩ := ZbP (by decide) h
    obtain ⟨h1, h2⟩ := Zae h
    exact ⟨_, _, .cons r2 (.cons (.c (RD.cells (t' := 0) (.cons r1 .nil)) rfl rfl) .nil), Zah (.cons oLS .nil) mixed Tryz.func104 rfl rfl rfl (by rw [eA1S, h1]; rfl), rfl, rfl, h2⟩
  · exact h.elim
def iIxS : Inl := inlB Tryz.prog band bor [(104, sA1S)] [] [] Tryz.f152
def iCoS : Inl := inlB Tryz.prog band bor [] [] [(152, iIxS)] Tryz.f103
theorem Zo9 : Zbf Tryz.prog 152 iIxS := Zmi (.cons oA1S .nil) .nil .nil mixed Tryz.func152 rfl (Zan Tryz.func152 (by kernel_rfl) rfl)
theorem Zfe : Zbf Tryz.prog 103 iCoS := Zmi .nil .nil (.cons Zo9 .nil) mixed Tryz.func103 rfl (Zan Tryz.func103 (by kernel_rfl) rfl)
theorem bifN (p q : Bool) (x : DV) : (bif !p then (DV.c (.v (.bool false)) = x) else (DV.c (.v (.bool q)) = x)) = (DV.c (.v (.bool (p && q))) = x) := by cases p <;> rfl
theorem Zra (R0 R1 R2 R3 : List (List D)) (K : DV → Prop) : (askX Tryz.prog band bor [] [] [(103, iCoS)] Tryz.f65 [.c (.s 0 17 ([].map (sesL 0)) []), .c (.f 66 [.f AG [] [.p 0 (wsL R0 R1 R2 R3) 0]] [])] K) = (K (DV.c (D.v (Value.bool true)))) := by kernel_rfl
theorem ZrX (R0 R1 R2 R3 : List (List D)) (s0 : SesD) (K : DV → Prop) : (askX Tryz.prog band bor [] [] [(103, iCoS)] Tryz.f65 [.c (.s 0 17 ([s0].map (sesL 0)) []), .c (.f 66 [.f AG [] [.p 0 (wsL R0 R1 R2 R3) 0]] [])] K) = (bif Zay s0 then bif !Zaj R0 R1 R2 R3 s0 then K (DV.c (D.v (Value.bool false))) else K (DV.c (D.v (Value.bool true))) else False) := by kernel_rfl
theorem ZrZ (R0 R1 R2 R3 : List (List D)) (s0 s1 : SesD) (K : DV → Prop) : (askX Tryz.prog band bor [] [] [(103, iCoS)] Tryz.f65 [.c (.s 0 17 ([s0, s1].map (sesL 0)) []), .c (.f 66 [.f AG [] [.p 0 (wsL R0 R1 R2 R3) 0]] [])] K) = (bif Zay s0 then bif !Zaj R0 R1 R2 R3 s0 then K (DV.c (D.v (Value.bool false))) else bif Zay s1 then bif !Zaj R0 R1 R2 R3 s1 then K (DV.c (D.v (Value.bool false))) else K (DV.c (D.v (Value.bool true))) else False else False) := by kernel_rfl
theorem ZqS (R0 R1 R2 R3 : List (List D)) (s0 s1 s2 : SesD) (K : DV → Prop) : (askX Tryz.prog band bor [] [] [(103, iCoS)] Tryz.f65 [.c (.s 0 17 ([s0, s1, s2].map (sesL 0)) []), .c (.f 66 [.f AG [] [.p 0 (wsL R0 R1 R2 R3) 0]] [])] K) = (bif Zay s0 then bif !Zaj R0 R1 R2 R3 s0 then K (DV.c (D.v (Value.bool false))) else bif Zay s1 then bif !Zaj R0 R1 R2 R3 s1 then K (DV.c (D.v (Value.bool false))) else bif Zay s2 then bif !Zaj R0 R1 R2 R3 s2 then K (DV.c (D.v (Value.bool false))) else K (DV.c (D.v (Value.bool true))) else False else False else False) := by kernel_rfl
theorem ZrE (R0 R1 R2 R3 : List (List D)) (s0 s1 s2 s3 : SesD) (K : DV → Prop) : (askX Tryz.prog band bor [] [] [(103, iCoS)] Tryz.f65 [.c (.s 0 17 ([s0, s1, s2, s3].map (sesL 0)) []), .c (.f 66 [.f AG [] [.p 0 (wsL R0 R1 R2 R3) 0]] [])] K) = (bif Zay s0 then bif !Zaj R0 R1 R2 R3 s0 then K (DV.c (D.v (Value.bool false))) else bif Zay s1 then bif !Zaj R0 R1 R2 R3 s1 then K (DV.c (D.v (Value.bool false))) else bif Zay s2 then bif !Zaj R0 R1 R2 R3 s2 then K (DV.c (D.v (Value.bool false))) else bif Zay s3 then bif !Zaj R0 R1 R2 R3 s3 then K (DV.c (D.v (Value.bool false))) else K (DV.c (D.v (Value.bool true))) else False else False else False else False) := by kernel_rfl
def okSS (ss : List SesD) : Bool := ss.all Zay
theorem ZtN (R0 R1 R2 R3 : List (List D)) : ∀ (ss : List SesD), ss.length ≤ 4 → okSS ss = true → CT Tryz.prog 65 [.c (.s 0 17 (ss.map (sesL 0)) []), .c (.f 66 [.f AG [] [.p 0 (wsL R0 R1 R2 R3) 0]] [])] (B (ss.all (Zaj R0 R1 R2 R3))) := by
  intro ss hl hok
  unfold okSS at hok
  rcases ss with _ | ⟨s0, _ | ⟨s1, _ | ⟨s2, _ | ⟨s3, _ | ⟨s4, l⟩⟩⟩⟩⟩
  · refine ct_x .nil .nil (.cons Zfe .nil) mixed Tryz.func65 rfl rfl rfl ?_
    rw [Zra]
    refine ⟨?_⟩
    simp only [List.all_cons, List.all_nil, Bool.and_eq_true, Bool.and_true] at hok
    simp only [hok, cond_true, List.all_cons, List.all_nil, bifN, Bool.and_true, Bool.and_assoc]
  · refine ct_x .nil .nil (.cons Zfe .nil) mixed Tryz.func65 rfl rfl rfl ?_
    rw [ZrX]
    refine ⟨?_⟩
    simp only [List.all_cons, List.all_nil, Bool.and_eq_true, Bool.and_true] at hok
    simp only [hok, cond_true, List.all_cons, List.all_nil, bifN, Bool.and_true, Bool.and_assoc]
  · refine ct_x .nil .nil (.cons Zfe .nil) mixed Tryz.func65 rfl rfl rfl ?_
    rw [ZrZ]
    refine ⟨?_⟩
    simp only [List.all_cons, List.all_nil, Bool.and_eq_true, Bool.and_true] at hok
    simp only [hok, cond_true, List.all_cons, List.all_nil, bifN, Bool.and_true, Bool.and_assoc]
  · refine ct_x .nil .nil (.cons Zfe .nil) mixed Tryz.func65 rfl rfl rfl ?_
    rw [ZqS]
    refine ⟨?_⟩
    simp only [List.all_cons, List.all_nil, Bool.and_eq_true, Bool.and_true] at hok
    simp only [hok, cond_true, List.all_cons, List.all_nil, bifN, Bool.and_true, Bool.and_assoc]
  · refine ct_x .nil .nil (.cons Zfe .nil) mixed Tryz.func65 rfl rfl rfl ?_
    rw [ZrE]
    refine ⟨?_⟩
    simp only [List.all_cons, List.all_nil, Bool.and_eq_true, Bool.and_true] at hok
    simp only [hok, cond_true, List.all_cons, List.all_nil, bifN, Bool.and_true, Bool.and_assoc]
  · simp at hl
def Zi1 : Spec := fun ds Q => match ds with
  | [.c d, .c e] => cond d.isOwn False (ZkE d fun ss => ZfE 66 e fun R0 R1 R2 R3 => cond (Nat.ble ss.length 4 && okSS ss) (Q (B (ss.all (Zaj R0 R1 R2 R3)))) False)
  | _ => False
theorem Zni : Zad Tryz.prog 65 Zi1 := o_al Tryz.func65 (by kernel_rfl) rfl fun ds Q h => by
  unfold Zi1 at h; split at h
  · rename_i d e
    cases hd : d.isOwn with
    | true => rw [hd] at h; exact h.elim
    | false =>
      rw [hd] at h
      obtain ⟨ss, h, r1⟩ := Zdd h
      obtain ⟨R0, R1, R2, R3, h, r2, e2⟩ := ZbP (by decide) h
      obtain ⟨h1, h2⟩ := Zae h
      rw [Bool.and_eq_true] at h1
      exact ⟨_, _, .cons (.c r1 hd rfl) (.cons (.c r2 e2 rfl) .nil), ZtN R0 R1 R2 R3 ss (Nat.le_of_ble_eq_true h1.1) h1.2, rfl, rfl, h2⟩
  · exact h.elim
def Zcf : List SesD → Bool
  | a :: b :: l => !decide (a.id ≥ b.id) && Zcf (b :: l)
  | _ => true
def clkB (h : Mh) : Bool := ck4 h.c0 h.c1 h.c2 h.c3 && clk h.ce
def mmay (h : Mh) (ss : List SesD) : Bool := amay (toZ h.w0) (toZ h.w1) (toZ h.w2) (toZ h.w3) && (clkB h && (!decide (mx4 h.c0 h.c1 h.c2 h.c3 > h.ce) && (!decide ((ss.length : Int) > 4) && (!decide ((h.tr.length : Int) > 512) && (Zcf ss && (ss.all (Zaj h.w0 h.w1 h.w2 h.w3) && !(toZ h.tr).any noEv))))))
def okM (h : Mh) (ss : List SesD) : Bool := okA h.w0 h.w1 h.w2 h.w3 && (okZ 4 h.tr && okSS ss)
theorem eMM0 (h : Mh) (K : DV → Prop) : (ask Tryz.prog [(60, Zcj), (61, sCkM), (62, sMx), (65, Zi1), (67, Ze1)] Tryz.f26 [.agg (macL 0 h [])] K) = (bif okA h.w0 h.w1 h.w2 h.w3 then bif !amay (toZ h.w0) (toZ h.w1) (toZ h.w2) (toZ h.w3) then K (DV.c (D.v (Value.bool false))) else bif !(ck4 h.c0 h.c1 h.c2 h.c3 && clk h.ce) then K (DV.c (D.v (Value.bool false))) else bif decide (mx4 h.c0 h.c1 h.c2 h.c3 > h.ce) then K (DV.c (D.v (Value.bool false))) else bif decide (@Nat.cast Int _ (List.length h.tr) > 512) then K (DV.c (D.v (Value.bool false))) else bif okZ (4) h.tr then K (DV.c (D.v (Value.bool !List.any (toZ h.tr) noEv))) else False else False) := by kernel_rfl
theorem eMM1 (h : Mh) (s0 : SesD) (K : DV → Prop) : (ask Tryz.prog [(60, Zcj), (61, sCkM), (62, sMx), (65, Zi1), (67, Ze1)] Tryz.f26 [.agg (macL 0 h [s0])] K) = (bif okA h.w0 h.w1 h.w2 h.w3 then bif !amay (toZ h.w0) (toZ h.w1) (toZ h.w2) (toZ h.w3) then K (DV.c (D.v (Value.bool false))) else bif !(ck4 h.c0 h.c1 h.c2 h.c3 && clk h.ce) then K (DV.c (D.v (Value.bool false))) else bif decide (mx4 h.c0 h.c1 h.c2 h.c3 > h.ce) then K (DV.c (D.v (Value.bool false))) else bif decide (@Nat.cast Int _ (List.length h.tr) > 512) then K (DV.c (D.v (Value.bool false))) else bif Nat.ble (1) (OfNat.ofNat (4)) && okSS [s0] then bif List.all [s0] (Zaj h.w0 h.w1 h.w2 h.w3) then bif okZ (4) h.tr then K (DV.c (D.v (Value.bool !List.any (toZ h.tr) noEv))) else False else K (DV.c (D.v (Value.bool false))) else False else False) := by kernel_rfl
theorem eMM2 (h : Mh) (s0 s1 : SesD) (K : DV → Prop) : (ask Tryz.prog [(60, Zcj), (61, sCkM), (62, sMx), (65, Zi1), (67, Ze1)] Tryz.f26 [.agg (macL 0 h [s0, s1])] K) = (bif okA h.w0 h.w1 h.w2 h.w3 then bif !amay (toZ h.w0) (toZ h.w1) (toZ h.w2) (toZ h.w3) then K (DV.c (D.v (Value.bool false))) else bif !(ck4 h.c0 h.c1 h.c2 h.c3 && clk h.ce) then K (DV.c (D.v (Value.bool false))) else bif decide (mx4 h.c0 h.c1 h.c2 h.c3 > h.ce) then K (DV.c (D.v (Value.bool false))) else bif decide (@Nat.cast Int _ (List.length h.tr) > 512) then K (DV.c (D.v (Value.bool false))) else bif decide (s0.id ≥ s1.id) then K (DV.c (D.v (Value.bool false))) else bif Nat.ble (2) (OfNat.ofNat (4)) && okSS [s0, s1] then bif List.all [s0, s1] (Zaj h.w0 h.w1 h.w2 h.w3) then bif okZ (4) h.tr then K (DV.c (D.v (Value.bool !List.any (toZ h.tr) noEv))) else False else K (DV.c (D.v (Value.bool false))) else False else False) := by kernel_rfl
theorem eMM3 (h : Mh) (s0 s1 s2 : SesD) (K : DV → Prop) : (ask Tryz.prog [(60, Zcj), (61, sCkM), (62, sMx), (65, Zi1), (67, Ze1)] Tryz.f26 [.agg (macL 0 h [s0, s1, s2])] K) = (bif okA h.w0 h.w1 h.w2 h.w3 then bif !amay (toZ h.w0) (toZ h.w1) (toZ h.w2) (toZ h.w3) then K (DV.c (D.v (Value.bool false))) else bif !(ck4 h.c0 h.c1 h.c2 h.c3 && clk h.ce) then K (DV.c (D.v (Value.bool false))) else bif decide (mx4 h.c0 h.c1 h.c2 h.c3 > h.ce) then K (DV.c (D.v (Value.bool false))) else bif decide (@Nat.cast Int _ (List.length h.tr) > 512) then K (DV.c (D.v (Value.bool false))) else bif decide (s0.id ≥ s1.id) then K (DV.c (D.v (Value.bool false))) else bif decide (s1.id ≥ s2.id) then K (DV.c (D.v (Value.bool false))) else bif Nat.ble (3) (OfNat.ofNat (4)) && okSS [s0, s1, s2] then bif List.all [s0, s1, s2] (Zaj h.w0 h.w1 h.w2 h.w3) then bif okZ (4) h.tr then K (DV.c (D.v (Value.bool !List.any (toZ h.tr) noEv))) else False else K (DV.c (D.v (Value.bool false))) else False else False) := by kernel_rfl
theorem eMM4 (h : Mh) (s0 s1 s2 s3 : SesD) (K : DV → Prop) : (ask Tryz.prog [(60, Zcj), (61, sCkM), (62, sMx), (65, Zi1), (67, Ze1)] Tryz.f26 [.agg (macL 0 h [s0, s1, s2, s3])] K) = (bif okA h.w0 h.w1 h.w2 h.w3 then bif !amay (toZ h.w0) (toZ h.w1) (toZ h.w2) (toZ h.w3) then K (DV.c (D.v (Value.bool false))) else bif !(ck4 h.c0 h.c1 h.c2 h.c3 && clk h.ce) then K (DV.c (D.v (Value.bool false))) else bif decide (mx4 h.c0 h.c1 h.c2 h.c3 > h.ce) then K (DV.c (D.v (Value.bool false))) else bif decide (@Nat.cast Int _ (List.length h.tr) > 512) then K (DV.c (D.v (Value.bool false))) else bif decide (s0.id ≥ s1.id) then K (DV.c (D.v (Value.bool false))) else bif decide (s1.id ≥ s2.id) then K (DV.c (D.v (Value.bool false))) else bif decide (s2.id ≥ s3.id) then K (DV.c (D.v (Value.bool false))) else bif Nat.ble (4) (OfNat.ofNat (4)) && okSS [s0, s1, s2, s3] then bif List.all [s0, s1, s2, s3] (Zaj h.w0 h.w1 h.w2 h.w3) then bif okZ (4) h.tr then K (DV.c (D.v (Value.bool !List.any (toZ h.tr) noEv))) else False else K (DV.c (D.v (Value.bool false))) else False else False) := by kernel_rfl
theorem eMMB (h : Mh) (R sp : List (List D)) (K : DV → Prop) : (askL Tryz.prog [(60, Zcj), (61, sCkM), (62, sMx)] [(4, fun _ _ => False)] Tryz.f26 [.agg [.s 0 3 h.w0 [], .s 0 3 h.w1 [], .s 0 3 h.w2 [], .s 0 3 h.w3 [], vN h.c0, vN h.c1, vN h.c2, vN h.c3, vN h.ce, .s 0 17 R sp, .s 0 4 h.tr []]] K) = (bif okA h.w0 h.w1 h.w2 h.w3 then bif !amay (toZ h.w0) (toZ h.w1) (toZ h.w2) (toZ h.w3) then K (DV.c (D.v (Value.bool false))) else bif !(ck4 h.c0 h.c1 h.c2 h.c3 && clk h.ce) then K (DV.c (D.v (Value.bool false))) else bif decide (mx4 h.c0 h.c1 h.c2 h.c3 > h.ce) then K (DV.c (D.v (Value.bool false))) else bif decide (@Nat.cast Int _ (List.length R) > 4) then K (DV.c (D.v (Value.bool false))) else bif decide (@Nat.cast Int _ (List.length h.tr) > 512) then K (DV.c (D.v (Value.bool false))) else False else False) := by kernel_rfl
theorem bifP (p q : Bool) (x : DV) : (bif p then (DV.c (.v (.bool false)) = x) else (DV.c (.v (.bool q)) = x)) = (DV.c (.v (.bool (!p && q))) = x) := by cases p <;> rfl
theorem ZkM {P : Program} {l : List (FuncId × Spec)} {k : Nat} {c : Code} : Zaq P (hkl l [(k, fun _ _ => False)]) c := fun b hb s hs Q x hq => by
  have hs' : ZcT [(k, fun _ _ => False)] (Zbp b) = some s := hs
  unfold ZcT at hs'
  split at hs'
  · cases hs'; exact hq.elim
  · cases hs'
theorem ZeA {h : Mh} {ss : List SesD} (hm : okM h ss = true) : okA h.w0 h.w1 h.w2 h.w3 = true ∧ okZ 4 h.tr = true ∧ okSS ss = true := by
  unfold okM at hm; simpa [Bool.and_eq_true] using hm
theorem ZsH (h : Mh) (ss : List SesD) (hok : okM h ss = true) : CT Tryz.prog 26 [.agg (macL 0 h ss)] (B (mmay h ss)) := by
  obtain ⟨h1, h2, h3⟩ := ZeA hok
  rcases ss with _ | ⟨s0, _ | ⟨s1, _ | ⟨s2, _ | ⟨s3, _ | ⟨s4, l⟩⟩⟩⟩⟩
  · refine ct_s (.cons Zk6 (.cons oCkM (.cons oMx (.cons Zni (.cons Zib .nil))))) mixed Tryz.func26 rfl rfl rfl ?_
    rw [eMM0]
    refine ⟨?_⟩
    simp only [h1, h2, h3, cond_true, bifN, bifP, bifK, Bool.and_true, (by decide : Nat.ble 0 4 = true), Bool.true_and]
    unfold mmay clkB
    simp [Zcf, Bool.and_assoc]
  · refine ct_s (.cons Zk6 (.cons oCkM (.cons oMx (.cons Zni (.cons Zib .nil))))) mixed Tryz.func26 rfl rfl rfl ?_
    rw [eMM1]
    refine ⟨?_⟩
    simp only [h1, h2, h3, cond_true, bifN, bifP, bifK, Bool.and_true, (by decide : Nat.ble 1 4 = true), Bool.true_and]
    unfold mmay clkB
    simp [Zcf, Bool.and_assoc]
  · refine ct_s (.cons Zk6 (.cons oCkM (.cons oMx (.cons Zni (.cons Zib .nil))))) mixed Tryz.func26 rfl rfl rfl ?_
    rw [eMM2]
    refine ⟨?_⟩
    simp only [h1, h2, h3, cond_true, bifN, bifP, bifK, Bool.and_true, (by decide : Nat.ble 2 4 = true), Bool.true_and]
    unfold mmay clkB
    simp [Zcf, Bool.and_assoc]
  · refine ct_s (.cons Zk6 (.cons oCkM (.cons oMx (.cons Zni (.cons Zib .nil))))) mixed Tryz.func26 rfl rfl rfl ?_
    rw [eMM3]
    refine ⟨?_⟩
    simp only [h1, h2, h3, cond_true, bifN, bifP, bifK, Bool.and_true, (by decide : Nat.ble 3 4 = true), Bool.true_and]
    unfold mmay clkB
    simp [Zcf, Bool.and_assoc]
  · refine ct_s (.cons Zk6 (.cons oCkM (.cons oMx (.cons Zni (.cons Zib .nil))))) mixed Tryz.func26 rfl rfl rfl ?_
    rw [eMM4]
    refine ⟨?_⟩
    simp only [h1, h2, h3, cond_true, bifN, bifP, bifK, Bool.and_true, (by decide : Nat.ble 4 4 = true), Bool.true_and]
    unfold mmay clkB
    simp [Zcf, Bool.and_assoc]
  · refine ZhY (l := [(60, Zcj), (61, sCkM), (62, sMx)]) (m := [(4, fun _ _ => False)]) (.cons Zk6 (.cons oCkM (.cons oMx .nil))) mixed ZkM Tryz.func26 rfl rfl rfl ?_
    unfold macL
    rw [eMMB]
    refine ⟨?_⟩
    have h5 : decide (((List.map (sesL 0) (s0 :: s1 :: s2 :: s3 :: s4 :: l)).length : Int) > 4) = true := by simp; omega
    have h6 : decide (((s0 :: s1 :: s2 :: s3 :: s4 :: l).length : Int) > 4) = true := by simp; omega
    unfold mmay clkB
    simp only [h1, h5, h6, cond_true, bifN, bifP, Bool.not_true, Bool.false_and, Bool.not_not]
theorem eThe (h : Mh) (ss : List SesD) (at' : Int) (K : DV → Prop) : (ask Tryz.prog [(26, sAtD [.agg (macL 0 h ss)] (B (mmay h ss)))] Tryz.f52 [.c (.p 0 (macL 0 h ss) 0), I at'] K) = ([DV.agg (macL (0) h ss)] = [DV.agg (macL (0) h ss)] ∧ bif mmay h ss then bif decide (at' ≥ 0) then K (DV.c (D.v (Value.bool (decide (at' < @Nat.cast Int _ (List.length (List.map (sesL (0)) ss))))))) else K (DV.c (D.v (Value.bool false))) else K (DV.c (D.v (Value.bool false)))) := by kernel_rfl
def Zca (h : Mh) (ss : List SesD) (i : Int) : Bool := mmay h ss && (decide (i ≥ 0) && decide (i < ss.length))
theorem Zs3 : Goes Tryz.prog 26 := Zan Tryz.func26 (by kernel_rfl) rfl
theorem cThe (h : Mh) (ss : List SesD) (i : Int) (hok : okM h ss = true) : CT Tryz.prog 52 [.c (.p 0 (macL 0 h ss) 0), I i] (B (Zca h ss i)) := by
  refine ct_s (.cons (oAtD Zs3 (ZsH h ss hok) rfl rfl) .nil) mixed Tryz.func52 rfl rfl rfl ?_
  rw [eThe]
  refine ⟨rfl, ?_⟩
  unfold Zca
  rw [List.length_map]
  simp only [bifK]
end

section
open Go Go.Proofs
def iIxI : Inl := inlM Tryz.prog [] [] [] Tryz.f179
theorem ZmL : Zbf Tryz.prog 179 iIxI := Za8 .nil .nil .nil mixed Tryz.func179 rfl (Zan Tryz.func179 (by kernel_rfl) rfl)
theorem Ztx (a x : Int) (K : DV → Prop) : (askH Tryz.prog (hkM [] [] [(179, iIxI)]) Tryz.f134 [.c (.s 0 1 [[vi a]] []), I x] K) = (bif x == a then K (DV.c (D.v (Value.bool true))) else K (DV.c (D.v (Value.bool false)))) := by kernel_rfl
theorem ZtT (a b c x : Int) (K : DV → Prop) : (askH Tryz.prog (hkM [] [] [(179, iIxI)]) Tryz.f134 [.c (.s 0 1 [[vi a], [vi b], [vi c]] []), I x] K) = (bif x == a then K (DV.c (D.v (Value.bool true))) else bif x == b then K (DV.c (D.v (Value.bool true))) else bif x == c then K (DV.c (D.v (Value.bool true))) else K (DV.c (D.v (Value.bool false)))) := by kernel_rfl
def has1 (a x : Int) : Bool := bif x == a then true else false
def has3 (a b c x : Int) : Bool := bif x == a then true else bif x == b then true else bif x == c then true else false
def sHas : Spec := fun ds Q => match ds with
  | [.c (.s 0 1 [[.v (.int .i64 a)]] []), .c (.v (.int .i64 x))] => Q (B (has1 a x))
  | [.c (.s 0 1 [[.v (.int .i64 a)], [.v (.int .i64 b)], [.v (.int .i64 c)]] []), .c (.v (.int .i64 x))] => Q (B (has3 a b c x))
  | _ => False
theorem oHas : Zad Tryz.prog 134 sHas := o_of Tryz.func134 (by kernel_rfl) rfl fun ds Q h => by
  unfold sHas at h; split at h
  · rename_i a x
    refine ⟨_, ct_m .nil .nil (.cons ZmL .nil) mixed Tryz.func134 rfl rfl rfl ?_, rfl, rfl, h⟩
    rw [Ztx]
    refine ⟨?_⟩
    unfold has1; cases x == a <;> rfl
  · rename_i a b c x
    refine ⟨_, ct_m .nil .nil (.cons ZmL .nil) mixed Tryz.func134 rfl rfl rfl ?_, rfl, rfl, h⟩
    rw [ZtT]
    refine ⟨?_⟩
    unfold has3; cases x == a <;> cases x == b <;> cases x == c <;> rfl
  · exact h.elim
def Zka (s : SesD) : Int := hdJ (s.pg.getD s.pc.toNat [])
def atS (p : Int → Bool) (s : SesD) : Bool := (s.st == 0) && (decide (s.pc < s.pg.length) && p (Zka s))
def mAt (p : Int → Bool) (h : Mh) (ss : List SesD) (i : Int) : Bool := Zca h ss i && (match ss[i.toNat]? with | some s => atS p s | none => false)
theorem Zqm {z : Nat} {R : List (List D)} (h : okZ (z + 1) R = true) {k : Nat} (hk : k < R.length) : isJ [IntKind.i64] (R.getD k []) = true := by
  obtain ⟨e, w, _⟩ := Zai h
  rw [e] at hk ⊢
  rw [Zaf] at hk
  exact Zau (j := 0) (n := 1) w hk (by omega)
theorem Zp8 {s : SesD} (hs : Zay s = true) (h0 : 0 ≤ s.pc) (p : Int → Bool) (K : DV → Prop) :
    (bif s.st == 0 then bif decide (s.pc < @Nat.cast Int _ (List.length s.pg)) then bif decide (0 ≤ s.pc) && decide (s.pc < @Nat.cast Int _ (List.length s.pg)) then bif isJ [IntKind.i64] (List.drop 0 (List.getD s.pg (Int.toNat s.pc) [])) then K (DV.c (D.v (Value.bool (p (hdJ (List.drop 0 (List.getD s.pg (Int.toNat s.pc) []))))))) else False else False else K (DV.c (D.v (Value.bool false))) else K (DV.c (D.v (Value.bool false)))) = K (.c (.v (.bool (atS p s)))) := by
  unfold atS Zka
  rw [List.drop_zero]
  cases hst : s.st == 0
  · simp only [cond_false, Bool.false_and]
  · cases hl : decide (s.pc < @Nat.cast Int _ (List.length s.pg))
    · simp only [cond_true, cond_false, Bool.true_and, Bool.false_and]
    · have hl' := of_decide_eq_true hl
      have hj := Zqm (z := 3) (by unfold Zay at hs; simp only [Bool.and_eq_true] at hs; exact hs.1) (show s.pc.toNat < s.pg.length by omega)
      simp only [cond_true, Bool.true_and, decide_eq_true h0, hj]
theorem Zcv {h : Mh} {ss : List SesD} {i : Int} (hm : Zca h ss i = true) : mmay h ss = true ∧ 0 ≤ i ∧ i < ss.length := by
  unfold Zca at hm; simpa [Bool.and_eq_true] using hm
theorem ZeG {h : Mh} {ss : List SesD} (hm : mmay h ss = true) : ss.length ≤ 4 ∧ ∀ s ∈ ss, Zaj h.w0 h.w1 h.w2 h.w3 s = true := by
  unfold mmay at hm
  simp only [Bool.and_eq_true, Bool.not_eq_true', decide_eq_false_iff_not, List.all_eq_true] at hm
  exact ⟨by omega, hm.2.2.2.2.2.2.1⟩
theorem Ze4 {R0 R1 R2 R3 : List (List D)} {s : SesD} (h : Zaj R0 R1 R2 R3 s = true) : 0 ≤ s.pc ∧ s.pc ≤ s.pg.length := by
  unfold Zaj farB upto at h
  simp only [Bool.and_eq_true, decide_eq_true_eq] at h
  omega
theorem Zh7 {h : Mh} {ss : List SesD} {i : Int} (hok : okM h ss = true) (hm : Zca h ss i = true) : ∃ s, ss[i.toNat]? = some s ∧ Zay s = true ∧ Zaj h.w0 h.w1 h.w2 h.w3 s = true := by
  obtain ⟨g0, g1, g2⟩ := Zcv hm
  have hl : i.toNat < ss.length := by omega
  have hmem : ss[i.toNat] ∈ ss := List.getElem_mem hl
  exact ⟨ss[i.toNat], List.getElem?_eq_getElem hl, List.all_eq_true.1 (ZeA hok).2.2 _ hmem, (ZeG g0).2 _ hmem⟩
theorem eAt3 (h : Mh) (ss : List SesD) (i : Int) (a b c : Int) (t : Bool) (K : DV → Prop) : (askH Tryz.prog (hkF [(52, sAtD [.c (.p 0 (macL 0 h ss) 0), I i] (B t)), (134, sHas)] [] []) Tryz.f80 [.c (.p 0 (macL 0 h ss) 0), I i, .c (.s 0 1 [[vi a], [vi b], [vi c]] [])] K) = ([DV.c (D.p (0) (macL (0) h ss) (0)), I i] = [DV.c (D.p (0) (macL (0) h ss) (0)), I i] ∧ bif !t then K (DV.c (D.v (Value.bool false))) else bif decide (0 ≤ i) && decide (i < @Nat.cast Int _ (List.length (List.map (sesL (0)) ss))) then ∃ s, ZjJ (List.map (sesL (0)) ss) (Int.toNat i) (0) s ∧ bif s.st == 0 then bif decide (s.pc < @Nat.cast Int _ (List.length s.pg)) then bif decide (0 ≤ s.pc) && decide (s.pc < @Nat.cast Int _ (List.length s.pg)) then bif isJ [IntKind.i64] (List.drop (0) (List.getD s.pg (Int.toNat s.pc) [])) then K (DV.c (D.v (Value.bool (has3 a b c (hdJ (List.drop (0) (List.getD s.pg (Int.toNat s.pc) []))))))) else False else False else K (DV.c (D.v (Value.bool false))) else K (DV.c (D.v (Value.bool false))) else False) := by kernel_rfl
theorem cAt3 (h : Mh) (ss : List SesD) (i : Int) (a b c : Int) (hok : okM h ss = true) : CT Tryz.prog 80 [.c (.p 0 (macL 0 h ss) 0), I i, .c (.s 0 1 [[vi a], [vi b], [vi c]] [])] (B (mAt (has3 a b c) h ss i)) := by
  refine ZrV (Zif (.cons (oAtD (Zan Tryz.func52 (by kernel_rfl) rfl) (cThe h ss i hok) rfl rfl) (.cons oHas .nil)) .nil .nil) mixed ZhE Tryz.func80 rfl rfl rfl ?_
  rw [eAt3]
  refine ⟨⟨rfl, ?_⟩⟩
  unfold mAt
  cases hm : Zca h ss i with
  | false => exact AL.refl _
  | true =>
    obtain ⟨g0, g1, g2⟩ := Zcv hm
    obtain ⟨s, hs, ho, hy⟩ := Zh7 hok hm
    simp only [Bool.not_true, cond_false, cond_true, decide_eq_true g1, List.length_map, decide_eq_true g2, Bool.and_self, hs, Bool.true_and]
    refine ⟨s, Zh4 hs, ?_⟩
    have e := Zp8 ho (Ze4 hy).1 (has3 a b c) (fun r => AL r (B (atS (has3 a b c) s)))
    simp only [e]
    exact AL.refl _
end

section
open Go Go.Proofs
def kX (R : List (List D)) : Bool := decide (List.length R ≤ List.length (R ++ [])) && List.all (R ++ []) fun r => List.all r D.keeps
def tC (R : List (List D)) : List (List D) := List.take (List.length R) (R ++ [])
def tD (R : List (List D)) : List (List D) := List.take (List.length R + 0 - List.length R) (List.drop (List.length R) (R ++ []))
def sTt (s : SesD) : List D := [vN s.id, vN s.lb, vN s.cl, .s 1 4 (tC s.pg) (tD s.pg), vN s.st, vN s.pc, vN s.r0, vN s.r1, vN s.r2, vN s.r3, .s 1 3 (tC s.rd) (tD s.rd), .s 1 3 (tC s.wt) (tD s.wt), vN s.at', vN s.sp, vN s.tr, vN s.rs, vN s.to]
theorem ZsJ (s : SesD) (K : DV → Prop) : (ask Tryz.prog [(90, Zdi), (149, Zde), (137, ZcN)] Tryz.f96 [.agg (sesL 0 s)] K) = (bif allV s.pg && decide (List.length s.pg ≤ 4398046510977) then bif allV s.rd && decide (List.length s.rd ≤ 5864062014635) then bif allV s.wt && decide (List.length s.wt ≤ 5864062014635) then bif kX s.pg then bif kX s.rd then bif kX s.wt then K (DV.agg (sTt s)) else False else False else False else False else False else False) := by kernel_rfl
def smR (n : Nat) (R : List (List D)) : Bool := allV R && decide (R.length ≤ n)
def smS (s : SesD) : Bool := smR 4398046510977 s.pg && (smR 5864062014635 s.rd && smR 5864062014635 s.wt)
def smM (h : Mh) (ss : List SesD) : Bool := okC4 h.w0 h.w1 h.w2 h.w3 && (smR 4398046510977 h.tr && ss.all smS)
theorem Zab {n : Nat} {R : List (List D)} (h : smR n R = true) : allV R = true ∧ R.length ≤ n ∧ (R.all fun r => r.all D.keeps) = true := by
  unfold smR at h
  simp only [Bool.and_eq_true, decide_eq_true_eq] at h
  exact ⟨h.1, h.2, ZaD h.1⟩
theorem Zer {n z m : Nat} {R : List (List D)} (h : okZ z R = true) (hl : R.length ≤ m) (hm : m ≤ n) : smR n R = true := by
  unfold smR
  rw [Zbg h, decide_eq_true (by omega : R.length ≤ n)]; rfl
theorem Zaw {s : SesD} (h : smS s = true) : smR 4398046510977 s.pg = true ∧ smR 5864062014635 s.rd = true ∧ smR 5864062014635 s.wt = true := by
  unfold smS at h; simpa [Bool.and_eq_true] using h
theorem ZbD (R : List (List D)) : List.take R.length R = R := List.take_length
theorem Zg2 {s : SesD} (h : smS s = true) : ownL (sesL 1 s) = true := by
  obtain ⟨h1, h2, h3⟩ := Zaw h
  simp only [sesL, ownL, D.pureOwn, ZaA (Zab h1).1, ZaA (Zab h2).1, ZaA (Zab h3).1, Zdn]; rfl
theorem Zto (s : SesD) (hs : smS s = true) : CT Tryz.prog 96 [.agg (sesL 0 s)] (.agg (sesL 1 s)) := by
  obtain ⟨h1, h2, h3⟩ := Zaw hs
  obtain ⟨a1, a2, a3⟩ := Zab h1
  obtain ⟨b1, b2, b3⟩ := Zab h2
  obtain ⟨c1, c2, c3⟩ := Zab h3
  refine ct_s (.cons Zji (.cons Zjn (.cons Zii .nil))) mixed Tryz.func96 rfl rfl rfl ?_
  rw [ZsJ]
  refine ⟨?_⟩
  simp only [kX, tC, tD, sTt]
  simp only [a1, a2, a3, b1, b2, b3, c1, c2, c3, List.append_nil, Nat.le_refl, decide_true, Bool.and_self, cond_true, ZbD, Nat.add_zero, Nat.sub_self, List.take_zero]
  rfl
def ZdC : Spec := fun ds Q => match ds with
  | [d] => sesA d fun s => cond (smS s) (Q (.agg (sesL 1 s))) False
  | _ => False
theorem Zm9 : Zad Tryz.prog 96 ZdC := o_al Tryz.func96 (by kernel_rfl) rfl fun ds Q h => by
  unfold ZdC at h; split at h
  · obtain ⟨s, h, r⟩ := Zb9 h
    obtain ⟨h1, h2⟩ := Zae h
    exact ⟨_, _, .cons r .nil, Zto s h1, Zg2 h1, rfl, h2⟩
  · exact h.elim
theorem ZtL (K : DV → Prop) : (ask Tryz.prog [] Tryz.f94 [.c (.s 0 17 ([].map (sesL 0)) [])] K) = (K (DV.c (D.s (1) (17) [] [])) ∧ K (DV.c (D.s (1) (17) [] []))) := by kernel_rfl
theorem ZsD (s0 : SesD) (K : DV → Prop) : (ask Tryz.prog [] Tryz.f94 [.c (.s 0 17 ([s0].map (sesL 0)) [])] K) = (True ∧ K (DV.c (D.s (1) (17) [(sesL (0) s0)] []))) := by kernel_rfl
theorem ZsZ (s0 s1 : SesD) (K : DV → Prop) : (ask Tryz.prog [] Tryz.f94 [.c (.s 0 17 ([s0, s1].map (sesL 0)) [])] K) = (True ∧ K (DV.c (D.s (1) (17) [(sesL (0) s0), (sesL (0) s1)] []))) := by kernel_rfl
theorem ZsP (s0 s1 s2 : SesD) (K : DV → Prop) : (ask Tryz.prog [] Tryz.f94 [.c (.s 0 17 ([s0, s1, s2].map (sesL 0)) [])] K) = (True ∧ K (DV.c (D.s (1) (17) [(sesL (0) s0), (sesL (0) s1), (sesL (0) s2)] []))) := by kernel_rfl
theorem Ztj (s0 s1 s2 s3 : SesD) (K : DV → Prop) : (ask Tryz.prog [] Tryz.f94 [.c (.s 0 17 ([s0, s1, s2, s3].map (sesL 0)) [])] K) = (True ∧ K (DV.c (D.s (1) (17) [(sesL (0) s0), (sesL (0) s1), (sesL (0) s2), (sesL (0) s3)] []))) := by kernel_rfl
theorem cClS (ss : List SesD) (hl : ss.length ≤ 4) : CT Tryz.prog 94 [.c (.s 0 17 (ss.map (sesL 0)) [])] (.c (.s 1 17 (ss.map (sesL 0)) [])) := by
  rcases ss with _ | ⟨s0, _ | ⟨s1, _ | ⟨s2, _ | ⟨s3, _ | ⟨s4, l⟩⟩⟩⟩⟩
  · refine ct_s .nil mixed Tryz.func94 rfl rfl rfl ?_
    rw [ZtL]
    exact ⟨⟨rfl, rfl⟩⟩
  · refine ct_s .nil mixed Tryz.func94 rfl rfl rfl ?_
    rw [ZsD]
    exact ⟨⟨trivial, rfl⟩⟩
  · refine ct_s .nil mixed Tryz.func94 rfl rfl rfl ?_
    rw [ZsZ]
    exact ⟨⟨trivial, rfl⟩⟩
  · refine ct_s .nil mixed Tryz.func94 rfl rfl rfl ?_
    rw [ZsP]
    exact ⟨⟨trivial, rfl⟩⟩
  · refine ct_s .nil mixed Tryz.func94 rfl rfl rfl ?_
    rw [Ztj]
    exact ⟨⟨trivial, rfl⟩⟩
  · simp at hl
def sClS : Spec := fun ds Q => match ds with
  | [.c d] => cond d.isOwn False (ZkE d fun ss => cond (Nat.ble ss.length 4) (Q (.c (.s 1 17 (ss.map (sesL 0)) []))) False)
  | _ => False
theorem oClS : Zjp Tryz.prog 94 sClS := fun ds Q h => by
  refine ⟨Zan Tryz.func94 (by kernel_rfl) rfl, ?_⟩
  unfold sClS at h; split at h
  · rename_i d
    cases hd : d.isOwn with
    | true => rw [hd] at h; exact h.elim
    | false =>
      rw [hd] at h
      obtain ⟨ss, h, r⟩ := Zdd h
      obtain ⟨h1, h2⟩ := Zae h
      exact ⟨_, (cClS ss (Nat.le_of_ble_eq_true h1)).args (.cons (.c r hd rfl) .nil), rfl, h2⟩
  · exact h.elim
-- RSUB bif decide \(List\.length ([a-z0-9.]+) ≤ List\.length \(\1 \+\+ \[\]\)\) && List\.all \(\1 \+\+ \[\]\) fun r => List\.all r D\.keeps then =>> bif kX \1 then
-- RSUB List\.take \(List\.length ([a-z0-9.]+) \+ 0 - List\.length \1\) \(List\.drop \(List\.length \1\) \(\1 \+\+ \[\]\)\) =>> tD \1
-- RSUB List\.take \(List\.length ([a-z0-9.]+)\) \(\1 \+\+ \[\]\) =>> tC \1
-- RSUB \[vN ([a-z0-9]+)\.id, vN \1\.lb, vN \1\.cl, D\.s \(1\) \(4\) \(tC \1\.pg\) \(tD \1\.pg\), vN \1\.st, vN \1\.pc, vN \1\.r0, vN \1\.r1, vN \1\.r2, vN \1\.r3, D\.s \(1\) \(3\) \(tC \1\.rd\) \(tD \1\.rd\), D\.s \(1\) \(3\) \(tC \1\.wt\) \(tD \1\.wt\), vN \1\.at', vN \1\.sp, vN \1\.tr, vN \1\.rs, vN \1\.to\] =>> (sTt \1)
theorem Zsn (h : Mh) (K : DV → Prop) : (askH Tryz.prog (hkM [(93, Zb3), (95, Za7), (96, ZdC)] [(94, sClS)] []) Tryz.f53 [.agg (macL 0 h [])] K) = (bif okC4 h.w0 h.w1 h.w2 h.w3 then bif allV h.tr && decide (List.length h.tr ≤ 4398046510977) then bif kX h.w0 then bif kX h.w1 then bif kX h.w2 then bif kX h.w3 then bif kX h.tr then K (DV.agg [D.s (1) (3) (tC h.w0) (tD h.w0), D.s (1) (3) (tC h.w1) (tD h.w1), D.s (1) (3) (tC h.w2) (tD h.w2), D.s (1) (3) (tC h.w3) (tD h.w3), vN h.c0, vN h.c1, vN h.c2, vN h.c3, vN h.ce, D.s (1) (17) [] [], D.s (1) (4) (tC h.tr) (tD h.tr)]) else False else False else False else False else False else False else False) := by kernel_rfl
theorem Ztc (h : Mh) (s0 : SesD) (K : DV → Prop) : (askH Tryz.prog (hkM [(93, Zb3), (95, Za7), (96, ZdC)] [(94, sClS)] []) Tryz.f53 [.agg (macL 0 h [s0])] K) = (bif okC4 h.w0 h.w1 h.w2 h.w3 then bif allV h.tr && decide (List.length h.tr ≤ 4398046510977) then bif smS s0 then bif kX h.w0 then bif kX h.w1 then bif kX h.w2 then bif kX h.w3 then bif kX s0.pg then bif kX s0.rd then bif kX s0.wt then bif kX h.tr then K (DV.agg [D.s (1) (3) (tC h.w0) (tD h.w0), D.s (1) (3) (tC h.w1) (tD h.w1), D.s (1) (3) (tC h.w2) (tD h.w2), D.s (1) (3) (tC h.w3) (tD h.w3), vN h.c0, vN h.c1, vN h.c2, vN h.c3, vN h.ce, D.s (1) (17) [(sTt s0)] [], D.s (1) (4) (tC h.tr) (tD h.tr)]) else False else False else False else False else False else False else False else False else False else False else False) := by kernel_rfl
theorem ZsW (h : Mh) (s0 s1 : SesD) (K : DV → Prop) : (askH Tryz.prog (hkM [(93, Zb3), (95, Za7), (96, ZdC)] [(94, sClS)] []) Tryz.f53 [.agg (macL 0 h [s0, s1])] K) = (bif okC4 h.w0 h.w1 h.w2 h.w3 then bif allV h.tr && decide (List.length h.tr ≤ 4398046510977) then bif smS s0 then bif smS s1 then bif kX h.w0 then bif kX h.w1 then bif kX h.w2 then bif kX h.w3 then bif kX s0.pg then bif kX s0.rd then bif kX s0.wt then bif kX s1.pg then bif kX s1.rd then bif kX s1.wt then bif kX h.tr then K (DV.agg [D.s (1) (3) (tC h.w0) (tD h.w0), D.s (1) (3) (tC h.w1) (tD h.w1), D.s (1) (3) (tC h.w2) (tD h.w2), D.s (1) (3) (tC h.w3) (tD h.w3), vN h.c0, vN h.c1, vN h.c2, vN h.c3, vN h.ce, D.s (1) (17) [(sTt s0), (sTt s1)] [], D.s (1) (4) (tC h.tr) (tD h.tr)]) else False else False else False else False else False else False else False else False else False else False else False else False else False else False else False) := by kernel_rfl
theorem ZtU (h : Mh) (s0 s1 s2 : SesD) (K : DV → Prop) : (askH Tryz.prog (hkM [(93, Zb3), (95, Za7), (96, ZdC)] [(94, sClS)] []) Tryz.f53 [.agg (macL 0 h [s0, s1, s2])] K) = (bif okC4 h.w0 h.w1 h.w2 h.w3 then bif allV h.tr && decide (List.length h.tr ≤ 4398046510977) then bif smS s0 then bif smS s1 then bif smS s2 then bif kX h.w0 then bif kX h.w1 then bif kX h.w2 then bif kX h.w3 then bif kX s0.pg then bif kX s0.rd then bif kX s0.wt then bif kX s1.pg then bif kX s1.rd then bif kX s1.wt then bif kX s2.pg then bif kX s2.rd then bif kX s2.wt then bif kX h.tr then K (DV.agg [D.s (1) (3) (tC h.w0) (tD h.w0), D.s (1) (3) (tC h.w1) (tD h.w1), D.s (1) (3) (tC h.w2) (tD h.w2), D.s (1) (3) (tC h.w3) (tD h.w3), vN h.c0, vN h.c1, vN h.c2, vN h.c3, vN h.ce, D.s (1) (17) [(sTt s0), (sTt s1), (sTt s2)] [], D.s (1) (4) (tC h.tr) (tD h.tr)]) else False else False else False else False else False else False else False else False else False else False else False else False else False else False else False else False else False else False else False) := by kernel_rfl
theorem ZsO (h : Mh) (s0 s1 s2 s3 : SesD) (K : DV → Prop) : (askH Tryz.prog (hkM [(93, Zb3), (95, Za7), (96, ZdC)] [(94, sClS)] []) Tryz.f53 [.agg (macL 0 h [s0, s1, s2, s3])] K) = (bif okC4 h.w0 h.w1 h.w2 h.w3 then bif allV h.tr && decide (List.length h.tr ≤ 4398046510977) then bif smS s0 then bif smS s1 then bif smS s2 then bif smS s3 then bif kX h.w0 then bif kX h.w1 then bif kX h.w2 then bif kX h.w3 then bif kX s0.pg then bif kX s0.rd then bif kX s0.wt then bif kX s1.pg then bif kX s1.rd then bif kX s1.wt then bif kX s2.pg then bif kX s2.rd then bif kX s2.wt then bif kX s3.pg then bif kX s3.rd then bif kX s3.wt then bif kX h.tr then K (DV.agg [D.s (1) (3) (tC h.w0) (tD h.w0), D.s (1) (3) (tC h.w1) (tD h.w1), D.s (1) (3) (tC h.w2) (tD h.w2), D.s (1) (3) (tC h.w3) (tD h.w3), vN h.c0, vN h.c1, vN h.c2, vN h.c3, vN h.ce, D.s (1) (17) [(sTt s0), (sTt s1), (sTt s2), (sTt s3)] [], D.s (1) (4) (tC h.tr) (tD h.tr)]) else False else False else False else False else False else False else False else False else False else False else False else False else False else False else False else False else False else False else False else False else False else False else False) := by kernel_rfl
theorem ZeD {h : Mh} {ss : List SesD} (hm : smM h ss = true) : (smR 5864062014635 h.w0 = true ∧ smR 5864062014635 h.w1 = true ∧ smR 5864062014635 h.w2 = true ∧ smR 5864062014635 h.w3 = true) ∧ smR 4398046510977 h.tr = true ∧ ∀ s ∈ ss, smS s = true := by
  unfold smM okC4 okC at hm
  simp only [Bool.and_eq_true, List.all_eq_true] at hm
  unfold smR
  simp only [Bool.and_eq_true]
  refine ⟨⟨hm.1.1, hm.1.2.1, hm.1.2.2.1, hm.1.2.2.2⟩, ?_, hm.2.2⟩
  have := hm.2.1
  unfold smR at this
  rw [Bool.and_eq_true] at this
  exact this
theorem ZoW {h : Mh} {ss : List SesD} (hm : smM h ss = true) : okC4 h.w0 h.w1 h.w2 h.w3 = true := by unfold smM at hm; rw [Bool.and_eq_true] at hm; exact hm.1
theorem Zhl {h : Mh} {ss : List SesD} (hm : smM h ss = true) : ownL (macL 1 h ss) = true := by
  obtain ⟨⟨a0, a1, a2, a3⟩, a4, a5⟩ := ZeD hm
  have h6 : Zdn (ss.map (sesL 1)) = true := by
    clear hm
    induction ss with
    | nil => rfl
    | cons s l ih => simp only [List.map_cons, Zdn, Zg2 (a5 s (by simp)), ih fun q hq => a5 q (by simp [hq])]; rfl
  simp only [macL, ownL, D.pureOwn, ZaA (Zab a0).1, ZaA (Zab a1).1, ZaA (Zab a2).1, ZaA (Zab a3).1, ZaA (Zab a4).1, h6, Zdn]; rfl
theorem cCop (h : Mh) (ss : List SesD) (hl : ss.length ≤ 4) (hm : smM h ss = true) : CT Tryz.prog 53 [.agg (macL 0 h ss)] (.agg (macL 1 h ss)) := by
  have h4 := ZoW hm
  obtain ⟨⟨a0, a1, a2, a3⟩, a4, a5⟩ := ZeD hm
  obtain ⟨_, _, b0⟩ := Zab a0
  obtain ⟨_, _, b1⟩ := Zab a1
  obtain ⟨_, _, b2⟩ := Zab a2
  obtain ⟨_, _, b3⟩ := Zab a3
  obtain ⟨t1, t2, t3⟩ := Zab a4
  rcases ss with _ | ⟨s0, _ | ⟨s1, _ | ⟨s2, _ | ⟨s3, _ | ⟨s4, l⟩⟩⟩⟩⟩
  · refine ct_m (.cons ZiB (.cons ZbB (.cons Zm9 .nil))) (.cons oClS .nil) .nil mixed Tryz.func53 rfl rfl rfl ?_
    rw [Zsn]
    refine ⟨?_⟩
    simp only [kX, tC, tD, sTt]
    simp only [h4, b0, b1, b2, b3, t1, t2, t3, List.append_nil, Nat.le_refl, decide_true, Bool.and_self, cond_true, ZbD, Nat.add_zero, Nat.sub_self, List.take_zero]
    rfl
  · have q0 := a5 s0 (by simp)
    obtain ⟨p0, r0, w0⟩ := Zaw q0
    obtain ⟨_, _, x0⟩ := Zab p0
    obtain ⟨_, _, y0⟩ := Zab r0
    obtain ⟨_, _, z0⟩ := Zab w0
    refine ct_m (.cons ZiB (.cons ZbB (.cons Zm9 .nil))) (.cons oClS .nil) .nil mixed Tryz.func53 rfl rfl rfl ?_
    rw [Ztc]
    refine ⟨?_⟩
    simp only [kX, tC, tD, sTt]
    simp only [h4, b0, b1, b2, b3, t1, t2, t3, q0, x0, y0, z0, List.append_nil, Nat.le_refl, decide_true, Bool.and_self, cond_true, ZbD, Nat.add_zero, Nat.sub_self, List.take_zero]
    rfl
  · have q0 := a5 s0 (by simp)
    obtain ⟨p0, r0, w0⟩ := Zaw q0
    obtain ⟨_, _, x0⟩ := Zab p0
    obtain ⟨_, _, y0⟩ := Zab r0
    obtain ⟨_, _, z0⟩ := Zab w0
    have q1 := a5 s1 (by simp)
    obtain ⟨p1, r1, w1⟩ := Zaw q1
    obtain ⟨_, _, x1⟩ := Zab p1
    obtain ⟨_, _, y1⟩ := Zab r1
    obtain ⟨_, _, z1⟩ := Zab w1
    refine ct_m (.cons ZiB (.cons ZbB (.cons Zm9 .nil))) (.cons oClS .nil) .nil mixed Tryz.func53 rfl rfl rfl ?_
    rw [ZsW]
    refine ⟨?_⟩
    simp only [kX, tC, tD, sTt]
    simp only [h4, b0, b1, b2, b3, t1, t2, t3, q0, x0, y0, z0, q1, x1, y1, z1, List.append_nil, Nat.le_refl, decide_true, Bool.and_self, cond_true, ZbD, Nat.add_zero, Nat.sub_self, List.take_zero]
    rfl
  · have q0 := a5 s0 (by simp)
    obtain ⟨p0, r0, w0⟩ := Zaw q0
    obtain ⟨_, _, x0⟩ := Zab p0
    obtain ⟨_, _, y0⟩ := Zab r0
    obtain ⟨_, _, z0⟩ := Zab w0
    have q1 := a5 s1 (by simp)
    obtain ⟨p1, r1, w1⟩ := Zaw q1
    obtain ⟨_, _, x1⟩ := Zab p1
    obtain ⟨_, _, y1⟩ := Zab r1
    obtain ⟨_, _, z1⟩ := Zab w1
    have q2 := a5 s2 (by simp)
    obtain ⟨p2, r2, w2⟩ := Zaw q2
    obtain ⟨_, _, x2⟩ := Zab p2
    obtain ⟨_, _, y2⟩ := Zab r2
    obtain ⟨_, _, z2⟩ := Zab w2
    refine ct_m (.cons ZiB (.cons ZbB (.cons Zm9 .nil))) (.cons oClS .nil) .nil mixed Tryz.func53 rfl rfl rfl ?_
    rw [ZtU]
    refine ⟨?_⟩
    simp only [kX, tC, tD, sTt]
    simp only [h4, b0, b1, b2, b3, t1, t2, t3, q0, x0, y0, z0, q1, x1, y1, z1, q2, x2, y2, z2, List.append_nil, Nat.le_refl, decide_true, Bool.and_self, cond_true, ZbD, Nat.add_zero, Nat.sub_self, List.take_zero]
    rfl
  · have q0 := a5 s0 (by simp)
    obtain ⟨p0, r0, w0⟩ := Zaw q0
    obtain ⟨_, _, x0⟩ := Zab p0
    obtain ⟨_, _, y0⟩ := Zab r0
    obtain ⟨_, _, z0⟩ := Zab w0
    have q1 := a5 s1 (by simp)
    obtain ⟨p1, r1, w1⟩ := Zaw q1
    obtain ⟨_, _, x1⟩ := Zab p1
    obtain ⟨_, _, y1⟩ := Zab r1
    obtain ⟨_, _, z1⟩ := Zab w1
    have q2 := a5 s2 (by simp)
    obtain ⟨p2, r2, w2⟩ := Zaw q2
    obtain ⟨_, _, x2⟩ := Zab p2
    obtain ⟨_, _, y2⟩ := Zab r2
    obtain ⟨_, _, z2⟩ := Zab w2
    have q3 := a5 s3 (by simp)
    obtain ⟨p3, r3, w3⟩ := Zaw q3
    obtain ⟨_, _, x3⟩ := Zab p3
    obtain ⟨_, _, y3⟩ := Zab r3
    obtain ⟨_, _, z3⟩ := Zab w3
    refine ct_m (.cons ZiB (.cons ZbB (.cons Zm9 .nil))) (.cons oClS .nil) .nil mixed Tryz.func53 rfl rfl rfl ?_
    rw [ZsO]
    refine ⟨?_⟩
    simp only [kX, tC, tD, sTt]
    simp only [h4, b0, b1, b2, b3, t1, t2, t3, q0, x0, y0, z0, q1, x1, y1, z1, q2, x2, y2, z2, q3, x3, y3, z3, List.append_nil, Nat.le_refl, decide_true, Bool.and_self, cond_true, ZbD, Nat.add_zero, Nat.sub_self, List.take_zero]
    rfl
  · simp at hl
def sCop : Spec := fun ds Q => match ds with
  | [d] => macA d fun h ss => cond (Nat.ble ss.length 4 && smM h ss) (Q (.agg (macL 1 h ss))) False
  | _ => False
end

section
open Go Go.Proofs
instance : Inhabited SesD := ⟨⟨0, 0, 0, [], 0, 0, 0, 0, 0, 0, [], [], 0, 0, 0, 0, 0⟩⟩
theorem Zj5 {l : List (List Int)} (h : pmay l = true) : l.length ≤ 16 := by unfold pmay at h; simp only [Bool.and_eq_true, decide_eq_true_eq] at h; exact h.2
theorem Zob {l : List (List Int)} (h : rmay l = true) : l.length ≤ 16 := by unfold rmay at h; simp only [Bool.and_eq_true, decide_eq_true_eq] at h; exact h.1
theorem Zmh {l : List (List Int)} (h : ZfM l = true) : l.length ≤ 16 := by unfold ZfM at h; simp only [Bool.and_eq_true, decide_eq_true_eq] at h; exact h.1
theorem ZcZ {l : List (List Int)} (h : Zat l = true) : l.length ≤ 4 := by
  unfold Zat at h
  simp only [Bool.not_eq_true', Bool.or_eq_false_iff, decide_eq_false_iff_not] at h
  omega
theorem Znm {R0 R1 R2 R3 : List (List D)} {s : SesD} (hs : Zay s = true) (h : Zaj R0 R1 R2 R3 s = true) : smS s = true := by
  unfold Zaj Zij smay at h
  simp only [Bool.and_eq_true] at h
  unfold Zay at hs
  simp only [Bool.and_eq_true] at hs
  have a1 := Zj5 h.1.2.2.2.2
  have a2 := Zob h.2.1.1
  have a3 := Zmh h.2.1.2.1
  rw [Zav] at a1 a2 a3
  unfold smS
  rw [Zer hs.1 a1 (by omega), Zer hs.2.1 a2 (by omega), Zer hs.2.2 a3 (by omega)]; rfl
theorem Zi4 {h : Mh} {ss : List SesD} (ho : okM h ss = true) (hm : mmay h ss = true) : smM h ss = true := by
  obtain ⟨h1, h2, h3⟩ := ZeA ho
  obtain ⟨_, g5⟩ := ZeG hm
  unfold mmay amay at hm
  simp only [Bool.and_eq_true, Bool.not_eq_true', decide_eq_false_iff_not] at hm
  obtain ⟨⟨a0, a1, a2, a3⟩, _, _, _, htr, _⟩ := hm
  unfold okA at h1
  simp only [Bool.and_eq_true] at h1
  have l0 := ZcZ a0
  have l1 := ZcZ a1
  have l2 := ZcZ a2
  have l3 := ZcZ a3
  rw [Zav] at l0 l1 l2 l3
  have e0 : okC h.w0 = true := Zer (n := 5864062014635) h1.1 l0 (by omega)
  have e1 : okC h.w1 = true := Zer (n := 5864062014635) h1.2.1 l1 (by omega)
  have e2 : okC h.w2 = true := Zer (n := 5864062014635) h1.2.2.1 l2 (by omega)
  have e3 : okC h.w3 = true := Zer (n := 5864062014635) h1.2.2.2 l3 (by omega)
  unfold smM okC4
  rw [e0, e1, e2, e3, Zer (n := 4398046510977) (m := 512) h2 (by omega) (by omega)]
  simp only [Bool.and_self, Bool.true_and, List.all_eq_true]
  intro s hs
  exact Znm (List.all_eq_true.1 h3 s hs) (g5 s hs)
abbrev macE (e : Int) : DV := .tup [.agg (macL 1 h0 []), I e]
abbrev macR (h : Mh) (ss : List SesD) (e : Int) : DV := .tup [.agg (macL 1 h ss), I e]
theorem ZnW {h : Mh} {ss : List SesD} (hm : smM h ss = true) : ((h.w0.all fun r => r.all D.keeps) = true ∧ (h.w1.all fun r => r.all D.keeps) = true ∧ (h.w2.all fun r => r.all D.keeps) = true ∧ (h.w3.all fun r => r.all D.keeps) = true) ∧ (h.tr.all fun r => r.all D.keeps) = true ∧ ∀ s ∈ ss, (s.pg.all fun r => r.all D.keeps) = true ∧ (s.rd.all fun r => r.all D.keeps) = true ∧ (s.wt.all fun r => r.all D.keeps) = true := by
  obtain ⟨⟨a0, a1, a2, a3⟩, a4, a5⟩ := ZeD hm
  exact ⟨⟨(Zab a0).2.2, (Zab a1).2.2, (Zab a2).2.2, (Zab a3).2.2⟩, (Zab a4).2.2, fun s hs => by
    obtain ⟨p, r, w⟩ := Zaw (a5 s hs)
    exact ⟨(Zab p).2.2, (Zab r).2.2, (Zab w).2.2⟩⟩
structure Foc (h : Mh) (ss : List SesD) (i : Int) (s : SesD) : Prop where
  at' : ss[i.toNat]? = some s
  ok : Zay s = true
  may : Zaj h.w0 h.w1 h.w2 h.w3 s = true
  lt : i.toNat < ss.length
  i0 : 0 ≤ i
  i1 : i < ss.length
  sm : smM h ss = true
  len : ss.length ≤ 4
  mm : mmay h ss = true
  w0 : allK h.w0 = true
  w1 : allK h.w1 = true
  w2 : allK h.w2 = true
  w3 : allK h.w3 = true
  tr : allK h.tr = true
  tl : h.tr.length ≤ 512
theorem foc {h : Mh} {ss : List SesD} {i : Int} (hok : okM h ss = true) (hm : Zca h ss i = true) : ∃ s, Foc h ss i s := by
  obtain ⟨s, h1, h2, h3⟩ := Zh7 hok hm
  obtain ⟨g0, g1, g2⟩ := Zcv hm
  have hsm := Zi4 hok g0
  obtain ⟨⟨b0, b1, b2, b3⟩, t3, _⟩ := ZnW hsm
  refine ⟨s, h1, h2, h3, by omega, g1, g2, hsm, (ZeG g0).1, g0, b0, b1, b2, b3, t3, ?_⟩
  unfold mmay at g0
  simp only [Bool.and_eq_true, Bool.not_eq_true', decide_eq_false_iff_not] at g0
  omega
theorem Foc.getD {h : Mh} {ss : List SesD} {i : Int} {s : SesD} (f : Foc h ss i s) : ss.getD i.toNat default = s := by
  rw [List.getD_eq_getElem?_getD, f.at']; rfl
theorem Foc.foAt {h : Mh} {ss : List SesD} {i : Int} {s : SesD} (f : Foc h ss i s) : Vm.foAt (addN 0 i.toNat) i.toNat (List.length (List.map (sesL 1) ss)) := Zop.2 ⟨rfl, by rw [List.length_map]; exact f.lt⟩
theorem Foc.ix {h : Mh} {ss : List SesD} {i : Int} {s : SesD} (f : Foc h ss i s) : (decide (0 ≤ i) && decide (i < @Nat.cast Int _ (List.length (List.map (sesL 1) ss)))) = true := by
  rw [List.length_map, decide_eq_true f.i0, decide_eq_true f.i1]; rfl
theorem Foc.row {h : Mh} {ss : List SesD} {i : Int} {s : SesD} (f : Foc h ss i s) : ZjJ (List.map (sesL 1) ss) (Int.toNat i) 1 s := Zh4 f.at'
theorem Foc.ow0 {h : Mh} {ss : List SesD} {i : Int} {s : SesD} (f : Foc h ss i s) : whole h.w0.length h.w0 := Zcc f.w0
theorem Foc.ow1 {h : Mh} {ss : List SesD} {i : Int} {s : SesD} (f : Foc h ss i s) : whole h.w1.length h.w1 := Zcc f.w1
theorem Foc.ow2 {h : Mh} {ss : List SesD} {i : Int} {s : SesD} (f : Foc h ss i s) : whole h.w2.length h.w2 := Zcc f.w2
theorem Foc.ow3 {h : Mh} {ss : List SesD} {i : Int} {s : SesD} (f : Foc h ss i s) : whole h.w3.length h.w3 := Zcc f.w3
theorem Foc.otr {h : Mh} {ss : List SesD} {i : Int} {s : SesD} (f : Foc h ss i s) : whole h.tr.length h.tr := Zcc f.tr
theorem Foc.oss {h : Mh} {ss : List SesD} {i : Int} {s : SesD} (f : Foc h ss i s) (j : Nat) (s' : SesD) : whole (List.length (List.map (sesL 1) ss)) (List.set (List.map (sesL 1) ss) j (sesL 1 s')) := Zml (List.length_map _)
theorem Zpu (h : Mh) (ss : List SesD) (j : Nat) (s : SesD) (e : Int) : AL (.tup [.agg (ZcB 1 h (List.set (List.map (sesL 1) ss) j (sesL 1 s))), I e]) (macR h (ss.set j s) e) := by
  rw [ZmN, Zn0]; exact AL.refl _
theorem Ztq (e : Int) : AL (.tup [.agg mac0, I e]) (macE e) := Zq2 e
theorem gCop : Goes Tryz.prog 53 := Zan Tryz.func53 (by kernel_rfl) rfl
theorem gAt : Goes Tryz.prog 80 := Zan Tryz.func80 (by kernel_rfl) rfl
def iCpF (t : Bool) (h : Mh) (ss : List SesD) (i : Int) (s : SesD) : Inl := Zou Tryz.prog [34] (sIf t (sAtD [.agg (macL 0 h ss)] (.agg (macL 1 h ss)))) (matF i.toNat s)
theorem ZpA {h : Mh} {ss : List SesD} (hm : smM h ss = true) : (DV.agg (macL 1 h ss)).pureOwn = true := Zhl hm
theorem ZpM {t : Bool} {h : Mh} {ss : List SesD} (i : Int) (s : SesD) (hl : t = true → smM h ss = true ∧ ss.length ≤ 4) : Zbf Tryz.prog 53 (iCpF t h ss i s) :=
  Zku (ZpS _ _) (oIf fun ht => oAtD gCop (cCop h ss (hl ht).2 (hl ht).1) (ZpA (hl ht).1) rfl)
theorem Zme {h : Mh} {ss : List SesD} (i : Int) (hok : okM h ss = true) : Zca h ss i = true → smM h ss = true ∧ ss.length ≤ 4 := fun hm => by
  obtain ⟨g0, _, _⟩ := Zcv hm
  exact ⟨Zi4 hok g0, (ZeG g0).1⟩
theorem Zkc {h : Mh} {ss : List SesD} (hm : smM h ss = true) (e : Int) : (macR h ss e).pureOwn = true := by
  have := Zhl hm
  simp only [macR, DV.pureOwn, DV.pureOwn.go, this]
  rfl
end

section
open Go Go.Proofs
def wdsB (R0 R1 R2 R3 : List (List D)) (s : SesD) : Bool := !(toZ s.pg).any (noIn R0 R1 R2 R3) && (!(toZ s.wt).any (noWr R0 R1 R2 R3) && !(toZ s.rd).any (noRd R0 R1 R2 R3))
theorem ZnI (a b c d : List (List Int)) (l : List (List Int)) : l.all (thv a b c d) = !l.any (noRd (mZ a) (mZ b) (mZ c) (mZ d)) := by
  rw [List.all_eq_not_any_not]
  congr 2
  funext r
  unfold thv noRd thW
  rw [Zaf, Zaf, Zaf, Zaf]
theorem cWds (R0 R1 R2 R3 : List (List D)) (s : SesD) (hA : okA R0 R1 R2 R3 = true) (hs : Zay s = true) : CT Tryz.prog 120 [.agg (wsL R0 R1 R2 R3), .agg (sesL 0 s)] (B (wdsB R0 R1 R2 R3 s)) := by
  obtain ⟨q0, q1, q2, q3⟩ := ZeC hA
  obtain ⟨a1, a2, _⟩ := Zai q0
  obtain ⟨b1, b2, _⟩ := Zai q1
  obtain ⟨c1, c2, _⟩ := Zai q2
  obtain ⟨d1, d2, _⟩ := Zai q3
  obtain ⟨e, ⟨hp, hpl⟩, ⟨hr, hrl⟩, ⟨hw, hwl⟩⟩ := Zlm hs
  have hz : okZ 3 s.rd = true := by unfold Zay at hs; simp only [Bool.and_eq_true] at hs; exact hs.2.1
  rw [a1, b1, c1, d1] at hA ⊢
  have hz2 : okZ 3 (mZ (toZ s.rd)) = true := by rw [← (Zai hz).1]; exact hz
  rw [e]
  generalize toZ R0 = a at *
  generalize toZ R1 = b at *
  generalize toZ R2 = c at *
  generalize toZ R3 = d at *
  generalize toZ s.pg = p at *
  generalize toZ s.rd = r at *
  generalize toZ s.wt = w at *
  refine ZhY (m := [(2, fWd1 a b c d s p r w), (8, fWd2 a b c d s p r w)]) (.cons Ziu (.cons oRT .nil)) mixed (Zp6 rfl (by kernel_rfl) (by kernel_rfl) rfl (kWd1 hp hpl) (kWd2 hw hwl)) Tryz.func120 rfl rfl rfl ?_
  rw [eWds]
  unfold wdsB SesD.on
  simp only [Zc5]
  refine ⟨⟨trivial, fun i hi => ?_, fun hn => ⟨trivial, fun i hi => ?_, fun hn2 => ?_⟩⟩⟩
  · rw [hi.any]; rfl
  · rw [hn.any, hi.any]; rfl
  · rw [hn.any, hn2.any, hA, hz2, ZnI]; rfl
def sWds : Spec := fun ds Q => match ds with
  | [.agg cs, e] => cond (ZmK cs && Nat.beq cs.length 4) (Zj9 cs fun R0 R1 R2 R3 => sesA e fun s => cond (okA R0 R1 R2 R3 && Zay s) (Q (B (wdsB R0 R1 R2 R3 s))) False) False
  | _ => False
theorem oWds : Zad Tryz.prog 120 sWds := o_al Tryz.func120 (by kernel_rfl) rfl fun ds Q h => by
  unfold sWds at h; split at h
  · obtain ⟨h0, h⟩ := Zae h
    rw [Bool.and_eq_true] at h0
    have hl := Zaa h0.2
    obtain ⟨R0, R1, R2, R3, h, r1⟩ := Zfz h
    obtain ⟨s, h, r2⟩ := Zb9 h
    obtain ⟨h1, h2⟩ := Zae h
    rw [Bool.and_eq_true] at h1
    rw [List.take_of_length_le (Nat.le_of_eq hl)] at r1
    exact ⟨_, _, .cons (.agg r1 h0.1 rfl) (.cons r2 .nil), cWds R0 R1 R2 R3 s h1.1 h1.2, rfl, rfl, h2⟩
  · exact h.elim
theorem eUp2 (x l m : Int) (K : DV → Prop) : (ask Tryz.prog [] Tryz.f56 [I x, I l, I m] K) = (bif decide (x ≥ l) then K (DV.c (D.v (Value.bool (decide (x ≤ m))))) else K (DV.c (D.v (Value.bool false)))) := by kernel_rfl
theorem oUp2 : Zad Tryz.prog 56 sUp := o_of Tryz.func56 (by kernel_rfl) rfl fun ds Q h => by
  unfold sUp at h; split at h
  · refine ⟨_, Zah .nil mixed Tryz.func56 rfl rfl rfl ?_, rfl, rfl, h⟩
    rw [eUp2]; rename_i x l m; unfold upto; cases decide (x ≥ l) <;> rfl
  · exact h.elim
theorem ZtD (h : Mh) (ss : List SesD) (s : SesD) (K : DV → Prop) : (ask Tryz.prog [(92, Zjq), (120, sWds), (56, sUp), (121, Zow), (122, sRM), (123, sWMy), (69, sB clk), (91, sB val8)] Tryz.f70 [.agg (macL 0 h ss), .agg (sesL 0 s)] K) = (bif okZ (4) s.pg then bif !smay s.id s.lb s.cl (toZ s.pg) then K (DV.c (D.v (Value.bool false))) else bif okA h.w0 h.w1 h.w2 h.w3 && Zay s then bif !wdsB h.w0 h.w1 h.w2 h.w3 s then K (DV.c (D.v (Value.bool false))) else bif !upto s.st (0) (6) then K (DV.c (D.v (Value.bool false))) else bif !upto s.pc (0) (@Nat.cast Int _ (List.length s.pg)) then K (DV.c (D.v (Value.bool false))) else bif !v4 s.r0 s.r1 s.r2 s.r3 then K (DV.c (D.v (Value.bool false))) else bif okZ (3) s.rd then bif !rmay (toZ s.rd) then K (DV.c (D.v (Value.bool false))) else bif okZ (3) s.wt then bif !ZfM (toZ s.wt) then K (DV.c (D.v (Value.bool false))) else bif upto s.at' (0) (@Nat.cast Int _ (List.length s.wt)) then bif clk s.sp then bif clk s.tr then bif upto s.rs (0) (5) then K (DV.c (D.v (Value.bool (val8 s.to)))) else K (DV.c (D.v (Value.bool false))) else K (DV.c (D.v (Value.bool false))) else K (DV.c (D.v (Value.bool false))) else K (DV.c (D.v (Value.bool false))) else False else False else False else False) := by kernel_rfl
theorem Zs9 (h : Mh) (ss : List SesD) (s : SesD) (hA : okA h.w0 h.w1 h.w2 h.w3 = true) (hs : Zay s = true) : CT Tryz.prog 70 [.agg (macL 0 h ss), .agg (sesL 0 s)] (B (Zaj h.w0 h.w1 h.w2 h.w3 s)) := by
  refine ct_s (.cons ZmD (.cons oWds (.cons oUp2 (.cons ZrG (.cons oQM (.cons oWPy (.cons Zf1 (.cons Zfc .nil)))))))) mixed Tryz.func70 rfl rfl rfl ?_
  rw [ZtD]
  refine ⟨?_⟩
  have hz := hs
  unfold Zay at hz
  simp only [Bool.and_eq_true] at hz
  simp only [hz.1, hz.2.1, hz.2.2, hA, hs, Bool.and_self, cond_true, bifN, bifK]
  unfold Zaj Zij farB ZiU wdsB
  congr 3
  ac_rfl
def Zh8 : Spec := fun ds Q => match ds with
  | [d, e] => macA d fun h _ => sesA e fun s => cond (okA h.w0 h.w1 h.w2 h.w3 && Zay s) (Q (B (Zaj h.w0 h.w1 h.w2 h.w3 s))) False
  | _ => False
theorem Zmj : Zad Tryz.prog 70 Zh8 := o_al Tryz.func70 (by kernel_rfl) rfl fun ds Q hq => by
  unfold Zh8 at hq; split at hq
  · obtain ⟨h, ss, hq, r1⟩ := Zci hq
    obtain ⟨s, hq, r⟩ := Zb9 hq
    obtain ⟨h1, h2⟩ := Zae hq
    rw [Bool.and_eq_true] at h1
    exact ⟨_, _, .cons r1 (.cons r .nil), Zs9 h ss s h1.1 h1.2, rfl, rfl, h2⟩
  · exact hq.elim
def stTr (h : Mh) (ss : List SesD) (v : Bool) (i : Int) : X := ⟨mkT 90 [(1, .c (.rp 2 0 11 0 0)), (2, ab v), (5, ai i)], [(2, .bx 0 11 ((macL 0 h ss).map C.d))], [], []⟩
def Zgp (h : Mh) (ss : List SesD) : Vw := fun y K => wB y 2 fun v => wI y 5 fun i => K (stTr h ss v i)
theorem Zhy (h : Mh) (ss : List SesD) : VwOK (Zgp h ss) := fun y K h => by
  unfold Zgp at h
  obtain ⟨v, h⟩ := Zc1 h
  obtain ⟨i, h⟩ := ZbI h
  exact ⟨_, h⟩
theorem rTr (h : Mh) (ss : List SesD) (v : Bool) (i : Int) (N : X → Prop) (E : Exit → X → Prop) : (Zb1 Tryz.prog (hkA band bor [(71, sB lab)] []) Tryz.f27 2 [] [1, 2, 5] [2] (Zgp h ss) (fun _ => Zgp h ss) N E (stTr h ss v i)) = (bif decide (i < @Nat.cast Int _ (List.length h.tr)) then bif decide (0 ≤ i) && decide (i < @Nat.cast Int _ (List.length h.tr)) then bif isJ [IntKind.i64] (List.drop (1) (List.getD h.tr (Int.toNat i) [])) then bif !lab (hdJ (List.drop (1) (List.getD h.tr (Int.toNat i) []))) then stTr h ss false i = stTr h ss false i ∧ E Exit.ret (stTr h ss false i) else stTr h ss v (IntKind.wrap IntKind.i64 (i + 1)) = stTr h ss v (IntKind.wrap IntKind.i64 (i + 1)) ∧ N (stTr h ss v (IntKind.wrap IntKind.i64 (i + 1))) else False else False else stTr h ss v i = stTr h ss v i ∧ E (Exit.exit (4)) (stTr h ss v i)) := by kernel_rfl
def Mh.on (h : Mh) (t : List (List Int)) : Mh := { h with tr := mZ t }
def fTr (h : Mh) (ss : List SesD) (t : List (List Int)) : LSum := ZcC [1, 2, 5] [2] (fun i => stTr (h.on t) ss false i) (fun i => stTr (h.on t) ss false i) t.length (fun i => noEv (t.getD i [])) .ret (.exit 4)
theorem kTr {h : Mh} {ss : List SesD} {t : List (List Int)} (hw : wid 4 t) (hn : t.length ≤ 9223372036854775807) (Q : Exit → X → Prop) (x : X) (hq : fTr h ss t Q x) : XWP Tryz.prog (.loop (Zap Tryz.f27 2)) Q x := by
  refine Zck (sw := []) (V := Zgp (h.on t) ss) (VE := fun _ => Zgp (h.on t) ss) mixed (Zhy (h.on t) ss) (fun _ => Zhy (h.on t) ss) _ _ _ _ _ _ (fun i hl => ⟨hkA band bor [(71, sB lab)] [], ZaF (.cons Zly .nil), Zag rfl, fun N E h1 h2 => ?_⟩) ⟨hkA band bor [(71, sB lab)] [], ZaF (.cons Zly .nil), Zag rfl, fun N E h1 => ?_⟩ Q x hq
  · rw [rTr]
    have wi : IntKind.wrap .i64 ((i : Int) + 1) = ((i + 1 : Nat) : Int) := Zas (n := 1) (by omega)
    have a1 : isJ [IntKind.i64] (List.drop 1 ((mZ t).getD i [])) = true := Zau (j := 1) (n := 1) hw hl (by omega)
    simp only [Mh.on, Zaf, Int.ofNat_lt, hl, decide_true, cond_true, Int.natCast_nonneg, Bool.and_self, Int.toNat_natCast, a1, Zb6, true_and, wi] at h1 h2 ⊢
    unfold noEv at h1 h2
    generalize lab ((t.getD i []).getD 1 0) = u at h1 h2 ⊢
    cases u <;> simp only [cond_true, cond_false, Bool.not_true, Bool.not_false, forall_const, reduceCtorEq, false_implies] at h1 h2 ⊢ <;> first | exact h1 | exact h2 | exact h1 trivial | exact h2 trivial
  · rw [rTr]
    simp only [Mh.on, Zaf, Int.ofNat_lt, Nat.lt_irrefl, decide_false, cond_false, true_and]
    exact h1
theorem ZsF (h : Mh) (t : List (List Int)) (K : DV → Prop) : (askL Tryz.prog [(68, Zcj), (69, sB clk), (56, sUp), (70, Zh8)] [(14, fTr h [] t)] Tryz.f27 [.agg (macL 0 (h.on t) [])] K) = (bif okA h.w0 h.w1 h.w2 h.w3 then bif !amay (toZ h.w0) (toZ h.w1) (toZ h.w2) (toZ h.w3) then K (DV.c (D.v (Value.bool false))) else bif !clk h.ce then K (DV.c (D.v (Value.bool false))) else bif decide (@Nat.cast Int _ (List.length (mZ t)) > 512) then K (DV.c (D.v (Value.bool false))) else bif !upto h.c0 (0) h.ce then K (DV.c (D.v (Value.bool false))) else bif !upto h.c1 (0) h.ce then K (DV.c (D.v (Value.bool false))) else bif !upto h.c2 (0) h.ce then K (DV.c (D.v (Value.bool false))) else bif !upto h.c3 (0) h.ce then K (DV.c (D.v (Value.bool false))) else stTr { w0 := h.w0, w1 := h.w1, w2 := h.w2, w3 := h.w3, c0 := h.c0, c1 := h.c1, c2 := h.c2, c3 := h.c3, ce := h.ce, tr := mZ t } [] false (0) = stTr { w0 := h.w0, w1 := h.w1, w2 := h.w2, w3 := h.w3, c0 := h.c0, c1 := h.c1, c2 := h.c2, c3 := h.c3, ce := h.ce, tr := mZ t } [] false (0) ∧ (∀ (i : Nat), firstAt (fun i => noEv (List.getD t i [])) (List.length t) i → K (DV.c (D.v (Value.bool false)))) ∧ (noneTo (fun i => noEv (List.getD t i [])) (List.length t) → K (DV.c (D.v (Value.bool true)))) else False) := by kernel_rfl
theorem Zts (h : Mh) (s0 : SesD) (t : List (List Int)) (K : DV → Prop) : (askL Tryz.prog [(68, Zcj), (69, sB clk), (56, sUp), (70, Zh8)] [(14, fTr h [s0] t)] Tryz.f27 [.agg (macL 0 (h.on t) [s0])] K) = (bif okA h.w0 h.w1 h.w2 h.w3 then bif !amay (toZ h.w0) (toZ h.w1) (toZ h.w2) (toZ h.w3) then K (DV.c (D.v (Value.bool false))) else bif !clk h.ce then K (DV.c (D.v (Value.bool false))) else bif decide (@Nat.cast Int _ (List.length (mZ t)) > 512) then K (DV.c (D.v (Value.bool false))) else bif !upto h.c0 (0) h.ce then K (DV.c (D.v (Value.bool false))) else bif !upto h.c1 (0) h.ce then K (DV.c (D.v (Value.bool false))) else bif !upto h.c2 (0) h.ce then K (DV.c (D.v (Value.bool false))) else bif !upto h.c3 (0) h.ce then K (DV.c (D.v (Value.bool false))) else bif okA h.w0 h.w1 h.w2 h.w3 && Zay s0 then bif !Zaj h.w0 h.w1 h.w2 h.w3 s0 then K (DV.c (D.v (Value.bool false))) else stTr { w0 := h.w0, w1 := h.w1, w2 := h.w2, w3 := h.w3, c0 := h.c0, c1 := h.c1, c2 := h.c2, c3 := h.c3, ce := h.ce, tr := mZ t } [s0] false (0) = stTr { w0 := h.w0, w1 := h.w1, w2 := h.w2, w3 := h.w3, c0 := h.c0, c1 := h.c1, c2 := h.c2, c3 := h.c3, ce := h.ce, tr := mZ t } [s0] false (0) ∧ (∀ (i : Nat), firstAt (fun i => noEv (List.getD t i [])) (List.length t) i → K (DV.c (D.v (Value.bool false)))) ∧ (noneTo (fun i => noEv (List.getD t i [])) (List.length t) → K (DV.c (D.v (Value.bool true)))) else False else False) := by kernel_rfl
theorem ZtQ (h : Mh) (s0 s1 : SesD) (t : List (List Int)) (K : DV → Prop) : (askL Tryz.prog [(68, Zcj), (69, sB clk), (56, sUp), (70, Zh8)] [(14, fTr h [s0, s1] t)] Tryz.f27 [.agg (macL 0 (h.on t) [s0, s1])] K) = (bif okA h.w0 h.w1 h.w2 h.w3 then bif !amay (toZ h.w0) (toZ h.w1) (toZ h.w2) (toZ h.w3) then K (DV.c (D.v (Value.bool false))) else bif !clk h.ce then K (DV.c (D.v (Value.bool false))) else bif decide (@Nat.cast Int _ (List.length (mZ t)) > 512) then K (DV.c (D.v (Value.bool false))) else bif !upto h.c0 (0) h.ce then K (DV.c (D.v (Value.bool false))) else bif !upto h.c1 (0) h.ce then K (DV.c (D.v (Value.bool false))) else bif !upto h.c2 (0) h.ce then K (DV.c (D.v (Value.bool false))) else bif !upto h.c3 (0) h.ce then K (DV.c (D.v (Value.bool false))) else bif okA h.w0 h.w1 h.w2 h.w3 && Zay s0 then bif !Zaj h.w0 h.w1 h.w2 h.w3 s0 then K (DV.c (D.v (Value.bool false))) else bif okA h.w0 h.w1 h.w2 h.w3 && Zay s1 then bif !Zaj h.w0 h.w1 h.w2 h.w3 s1 then K (DV.c (D.v (Value.bool false))) else bif decide (s1.id ≤ s0.id) then K (DV.c (D.v (Value.bool false))) else stTr { w0 := h.w0, w1 := h.w1, w2 := h.w2, w3 := h.w3, c0 := h.c0, c1 := h.c1, c2 := h.c2, c3 := h.c3, ce := h.ce, tr := mZ t } [s0, s1] false (0) = stTr { w0 := h.w0, w1 := h.w1, w2 := h.w2, w3 := h.w3, c0 := h.c0, c1 := h.c1, c2 := h.c2, c3 := h.c3, ce := h.ce, tr := mZ t } [s0, s1] false (0) ∧ (∀ (i : Nat), firstAt (fun i => noEv (List.getD t i [])) (List.length t) i → K (DV.c (D.v (Value.bool false)))) ∧ (noneTo (fun i => noEv (List.getD t i [])) (List.length t) → K (DV.c (D.v (Value.bool true)))) else False else False else False) := by kernel_rfl
theorem ZsE (h : Mh) (s0 s1 s2 : SesD) (t : List (List Int)) (K : DV → Prop) : (askL Tryz.prog [(68, Zcj), (69, sB clk), (56, sUp), (70, Zh8)] [(14, fTr h [s0, s1, s2] t)] Tryz.f27 [.agg (macL 0 (h.on t) [s0, s1, s2])] K) = (bif okA h.w0 h.w1 h.w2 h.w3 then bif !amay (toZ h.w0) (toZ h.w1) (toZ h.w2) (toZ h.w3) then K (DV.c (D.v (Value.bool false))) else bif !clk h.ce then K (DV.c (D.v (Value.bool false))) else bif decide (@Nat.cast Int _ (List.length (mZ t)) > 512) then K (DV.c (D.v (Value.bool false))) else bif !upto h.c0 (0) h.ce then K (DV.c (D.v (Value.bool false))) else bif !upto h.c1 (0) h.ce then K (DV.c (D.v (Value.bool false))) else bif !upto h.c2 (0) h.ce then K (DV.c (D.v (Value.bool false))) else bif !upto h.c3 (0) h.ce then K (DV.c (D.v (Value.bool false))) else bif okA h.w0 h.w1 h.w2 h.w3 && Zay s0 then bif !Zaj h.w0 h.w1 h.w2 h.w3 s0 then K (DV.c (D.v (Value.bool false))) else bif okA h.w0 h.w1 h.w2 h.w3 && Zay s1 then bif !Zaj h.w0 h.w1 h.w2 h.w3 s1 then K (DV.c (D.v (Value.bool false))) else bif decide (s1.id ≤ s0.id) then K (DV.c (D.v (Value.bool false))) else bif okA h.w0 h.w1 h.w2 h.w3 && Zay s2 then bif !Zaj h.w0 h.w1 h.w2 h.w3 s2 then K (DV.c (D.v (Value.bool false))) else bif decide (s2.id ≤ s1.id) then K (DV.c (D.v (Value.bool false))) else stTr { w0 := h.w0, w1 := h.w1, w2 := h.w2, w3 := h.w3, c0 := h.c0, c1 := h.c1, c2 := h.c2, c3 := h.c3, ce := h.ce, tr := mZ t } [s0, s1, s2] false (0) = stTr { w0 := h.w0, w1 := h.w1, w2 := h.w2, w3 := h.w3, c0 := h.c0, c1 := h.c1, c2 := h.c2, c3 := h.c3, ce := h.ce, tr := mZ t } [s0, s1, s2] false (0) ∧ (∀ (i : Nat), firstAt (fun i => noEv (List.getD t i [])) (List.length t) i → K (DV.c (D.v (Value.bool false)))) ∧ (noneTo (fun i => noEv (List.getD t i [])) (List.length t) → K (DV.c (D.v (Value.bool true)))) else False else False else False else False) := by kernel_rfl
theorem Zsl (h : Mh) (s0 s1 s2 s3 : SesD) (t : List (List Int)) (K : DV → Prop) : (askL Tryz.prog [(68, Zcj), (69, sB clk), (56, sUp), (70, Zh8)] [(14, fTr h [s0, s1, s2, s3] t)] Tryz.f27 [.agg (macL 0 (h.on t) [s0, s1, s2, s3])] K) = (bif okA h.w0 h.w1 h.w2 h.w3 then bif !amay (toZ h.w0) (toZ h.w1) (toZ h.w2) (toZ h.w3) then K (DV.c (D.v (Value.bool false))) else bif !clk h.ce then K (DV.c (D.v (Value.bool false))) else bif decide (@Nat.cast Int _ (List.length (mZ t)) > 512) then K (DV.c (D.v (Value.bool false))) else bif !upto h.c0 (0) h.ce then K (DV.c (D.v (Value.bool false))) else bif !upto h.c1 (0) h.ce then K (DV.c (D.v (Value.bool false))) else bif !upto h.c2 (0) h.ce then K (DV.c (D.v (Value.bool false))) else bif !upto h.c3 (0) h.ce then K (DV.c (D.v (Value.bool false))) else bif okA h.w0 h.w1 h.w2 h.w3 && Zay s0 then bif !Zaj h.w0 h.w1 h.w2 h.w3 s0 then K (DV.c (D.v (Value.bool false))) else bif okA h.w0 h.w1 h.w2 h.w3 && Zay s1 then bif !Zaj h.w0 h.w1 h.w2 h.w3 s1 then K (DV.c (D.v (Value.bool false))) else bif decide (s1.id ≤ s0.id) then K (DV.c (D.v (Value.bool false))) else bif okA h.w0 h.w1 h.w2 h.w3 && Zay s2 then bif !Zaj h.w0 h.w1 h.w2 h.w3 s2 then K (DV.c (D.v (Value.bool false))) else bif decide (s2.id ≤ s1.id) then K (DV.c (D.v (Value.bool false))) else bif okA h.w0 h.w1 h.w2 h.w3 && Zay s3 then bif !Zaj h.w0 h.w1 h.w2 h.w3 s3 then K (DV.c (D.v (Value.bool false))) else bif decide (s3.id ≤ s2.id) then K (DV.c (D.v (Value.bool false))) else stTr { w0 := h.w0, w1 := h.w1, w2 := h.w2, w3 := h.w3, c0 := h.c0, c1 := h.c1, c2 := h.c2, c3 := h.c3, ce := h.ce, tr := mZ t } [s0, s1, s2, s3] false (0) = stTr { w0 := h.w0, w1 := h.w1, w2 := h.w2, w3 := h.w3, c0 := h.c0, c1 := h.c1, c2 := h.c2, c3 := h.c3, ce := h.ce, tr := mZ t } [s0, s1, s2, s3] false (0) ∧ (∀ (i : Nat), firstAt (fun i => noEv (List.getD t i [])) (List.length t) i → K (DV.c (D.v (Value.bool false)))) ∧ (noneTo (fun i => noEv (List.getD t i [])) (List.length t) → K (DV.c (D.v (Value.bool true)))) else False else False else False else False else False) := by kernel_rfl
theorem ZtC (h : Mh) (ss : List SesD) (K : DV → Prop) : (askL Tryz.prog [(68, Zcj), (69, sB clk), (56, sUp)] [(4, fun _ _ => False)] Tryz.f27 [.agg (macL 0 h ss)] K) = (bif okA h.w0 h.w1 h.w2 h.w3 then bif !amay (toZ h.w0) (toZ h.w1) (toZ h.w2) (toZ h.w3) then K (DV.c (D.v (Value.bool false))) else bif !clk h.ce then K (DV.c (D.v (Value.bool false))) else bif decide (@Nat.cast Int _ (List.length (List.map (sesL (0)) ss)) > 4) then K (DV.c (D.v (Value.bool false))) else bif decide (@Nat.cast Int _ (List.length h.tr) > 512) then K (DV.c (D.v (Value.bool false))) else False else False) := by kernel_rfl
end

end Vm
