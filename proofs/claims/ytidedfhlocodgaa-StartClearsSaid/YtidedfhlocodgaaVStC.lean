/- What the functions of this text do, told by an interpreter that is proved right (YtidedfhlocodgaaVA to VD). My own work. -/
import Derived.Test.YtidedfhlocodgaaVStB
namespace Vm
open Go Go.Proofs
set_option linter.unusedSimpArgs false
set_option linter.unusedVariables false
/-! ### instructions -/
theorem eReg (x : Int) (K : DV → Prop) : (ask Try.prog [] Try.f43 [I x] K) = (bif decide (x ≥ 0) then K (DV.c (D.v (Value.bool (decide (x < 4))))) else K (DV.c (D.v (Value.bool false)))) := by kernel_rfl
theorem oReg : SpecOK Try.prog 43 (sB lab) := oB Try.func43 (by kernel_rfl) rfl fun x => ct_ask .nil mixed Try.func43 rfl rfl rfl (by
  rw [eReg]; unfold lab upto; rw [lt4]; cases decide (x ≥ 0) <;> rfl)
theorem oRReg : SpecOK Try.prog 46 (sB lab) := oB Try.func46 (by kernel_rfl) rfl fun x => ct_ask (.cons oUp .nil) mixed Try.func46 rfl rfl rfl (by
  have e : ask Try.prog [(49, sUp)] Try.f46 [I x] (fun r => r = B (lab x)) = (B (lab x) = B (lab x)) := by kernel_rfl
  rw [e])
def nA (c a : Int) : Int := if c = 0 ∨ c = 1 ∨ c = 2 ∨ c = 3 ∨ c = 4 ∨ c = 6 then a else 0
def nB (c b : Int) : Int := if c = 0 ∨ c = 1 ∨ c = 2 ∨ c = 3 ∨ c = 4 then b else 0
def nD (c d : Int) : Int := if c = 2 ∨ c = 3 then d else 0
def imay (c a b d : Int) : Bool := (c == 0 && (lab a && (val8 b && d == 0))) || ((c == 1 && (lab a && (lab b && d == 0))) || (((c == 2 || c == 3) && (lab a && (lab b && lab d))) || ((c == 4 && (lab a && (upto b 0 16 && d == 0))) || ((c == 5 && (a == 0 && (b == 0 && d == 0))) || (c == 6 && (val8 a && (b == 0 && d == 0)))))))
def sNames : Spec := fun ds Q => match ds with | [.agg [.v (.int .i64 c), .v (.int .i64 a), .v (.int .i64 b), .v (.int .i64 d)]] => Q (.agg [vi c, vi (nA c a), vi (nB c b), vi (nD c d)]) | _ => False
def sIMay : Spec := fun ds Q => match ds with | [.agg [.v (.int .i64 c), .v (.int .i64 a), .v (.int .i64 b), .v (.int .i64 d)]] => Q (B (imay c a b d)) | _ => False
theorem eNames (c a b d : Int) (K : DV → Prop) : (ask Try.prog [] Try.f42 [.agg [vi c, vi a, vi b, vi d]] K) = (bif c == 0 then K (DV.agg [D.v (Value.int IntKind.i64 c), D.v (Value.int IntKind.i64 a), D.v (Value.int IntKind.i64 b), D.v (Value.int IntKind.i64 (0))]) else bif c == 1 then K (DV.agg [D.v (Value.int IntKind.i64 c), D.v (Value.int IntKind.i64 a), D.v (Value.int IntKind.i64 b), D.v (Value.int IntKind.i64 (0))]) else bif c == 4 then K (DV.agg [D.v (Value.int IntKind.i64 c), D.v (Value.int IntKind.i64 a), D.v (Value.int IntKind.i64 b), D.v (Value.int IntKind.i64 (0))]) else bif c == 2 then K (DV.agg [D.v (Value.int IntKind.i64 c), D.v (Value.int IntKind.i64 a), D.v (Value.int IntKind.i64 b), D.v (Value.int IntKind.i64 d)]) else bif c == 3 then K (DV.agg [D.v (Value.int IntKind.i64 c), D.v (Value.int IntKind.i64 a), D.v (Value.int IntKind.i64 b), D.v (Value.int IntKind.i64 d)]) else bif c == 6 then K (DV.agg [D.v (Value.int IntKind.i64 c), D.v (Value.int IntKind.i64 a), D.v (Value.int IntKind.i64 (0)), D.v (Value.int IntKind.i64 (0))]) else K (DV.agg [D.v (Value.int IntKind.i64 c), D.v (Value.int IntKind.i64 (0)), D.v (Value.int IntKind.i64 (0)), D.v (Value.int IntKind.i64 (0))])) := by kernel_rfl
theorem eIMay (c a b d : Int) (K : DV → Prop) : (ask Try.prog [(42, sNames), (43, sB lab), (44, sB val8), (45, sB lab)] Try.f21 [.agg [vi c, vi a, vi b, vi d]] K) = (bif !eqI [c, nA c a, nB c b, nD c d] [c, a, b, d] then K (DV.c (D.v (Value.bool false))) else bif c == 0 then bif lab a then K (DV.c (D.v (Value.bool (val8 b)))) else K (DV.c (D.v (Value.bool false))) else bif c == 1 then bif lab a then K (DV.c (D.v (Value.bool (lab b)))) else K (DV.c (D.v (Value.bool false))) else bif c == 2 then bif lab a then bif lab b then bif decide (d ≥ 0) then K (DV.c (D.v (Value.bool (decide (d < 4))))) else K (DV.c (D.v (Value.bool false))) else K (DV.c (D.v (Value.bool false))) else K (DV.c (D.v (Value.bool false))) else bif c == 3 then bif lab a then bif lab b then bif decide (d ≥ 0) then K (DV.c (D.v (Value.bool (decide (d < 4))))) else K (DV.c (D.v (Value.bool false))) else K (DV.c (D.v (Value.bool false))) else K (DV.c (D.v (Value.bool false))) else bif c == 4 then bif lab a then bif decide (b ≥ 0) then K (DV.c (D.v (Value.bool (decide (b ≤ 16))))) else K (DV.c (D.v (Value.bool false))) else K (DV.c (D.v (Value.bool false))) else bif c == 5 then K (DV.c (D.v (Value.bool true))) else bif c == 6 then K (DV.c (D.v (Value.bool (val8 a)))) else K (DV.c (D.v (Value.bool false)))) := by kernel_rfl
theorem eRIMay (c a b d : Int) (K : DV → Prop) : (ask Try.prog [(46, sB lab), (47, sB val8), (48, sB lab), (49, sUp)] Try.f22 [.agg [vi c, vi a, vi b, vi d]] K) = (bif c == 0 then bif lab a then bif val8 b then K (DV.c (D.v (Value.bool (d == 0)))) else K (DV.c (D.v (Value.bool false))) else K (DV.c (D.v (Value.bool false))) else bif c == 1 then bif lab a then bif lab b then K (DV.c (D.v (Value.bool (d == 0)))) else K (DV.c (D.v (Value.bool false))) else K (DV.c (D.v (Value.bool false))) else bif c == 2 then bif lab a then bif lab b then K (DV.c (D.v (Value.bool (upto d (0) (3))))) else K (DV.c (D.v (Value.bool false))) else K (DV.c (D.v (Value.bool false))) else bif c == 3 then bif lab a then bif lab b then K (DV.c (D.v (Value.bool (upto d (0) (3))))) else K (DV.c (D.v (Value.bool false))) else K (DV.c (D.v (Value.bool false))) else bif c == 4 then bif lab a then bif upto b (0) (16) then K (DV.c (D.v (Value.bool (d == 0)))) else K (DV.c (D.v (Value.bool false))) else K (DV.c (D.v (Value.bool false))) else bif c == 5 then K (DV.c (D.v (Value.bool (eqI [c, a, b, d] [5, 0, 0, 0])))) else bif c == 6 then bif val8 a then bif b == 0 then K (DV.c (D.v (Value.bool (d == 0)))) else K (DV.c (D.v (Value.bool false))) else K (DV.c (D.v (Value.bool false))) else K (DV.c (D.v (Value.bool false)))) := by kernel_rfl
theorem oNames : SpecOK Try.prog 42 sNames := o_of Try.func42 (by kernel_rfl) rfl fun ds Q h => by
  unfold sNames at h; split at h
  · rename_i c a b d
    refine ⟨_, ct_ask .nil mixed Try.func42 rfl rfl rfl ?_, rfl, rfl, h⟩
    rw [eNames]
    by_cases h0 : c = 0
    · subst h0; rfl
    by_cases h1 : c = 1
    · subst h1; rfl
    by_cases h2 : c = 2
    · subst h2; rfl
    by_cases h3 : c = 3
    · subst h3; rfl
    by_cases h4 : c = 4
    · subst h4; rfl
    by_cases h6 : c = 6
    · subst h6; rfl
    simp [nA, nB, nD, h0, h1, h2, h3, h4, h6]
  · exact h.elim
theorem bz (d : Int) : (0 == d) = (d == 0) := by
  by_cases h : d = 0
  · subst h; rfl
  · rw [beq_eq_false_iff_ne.2 h, beq_eq_false_iff_ne.2 (fun e => h e.symm)]
theorem oIMay : SpecOK Try.prog 21 sIMay := o_of Try.func21 (by kernel_rfl) rfl fun ds Q h => by
  unfold sIMay at h; split at h
  · rename_i c a b d
    refine ⟨_, ct_ask (.cons oNames (.cons oReg (.cons oVal (.cons oLab .nil)))) mixed Try.func21 rfl rfl rfl ?_, rfl, rfl, h⟩
    rw [eIMay]
    by_cases h0 : c = 0
    · subst h0
      by_cases hd : d = 0
      · subst hd; cases ha : lab a <;> cases hb : val8 b <;> simp [imay, nA, nB, nD, eqI, ha, hb]
      · simp [imay, nA, nB, nD, eqI, bz, hd]
    by_cases h1 : c = 1
    · subst h1
      by_cases hd : d = 0
      · subst hd; cases ha : lab a <;> cases hb : lab b <;> simp [imay, nA, nB, nD, eqI, ha, hb]
      · simp [imay, nA, nB, nD, eqI, bz, hd]
    by_cases h2 : c = 2
    · subst h2
      rw [lt4]
      have hl : lab d = (decide (d ≥ 0) && decide (d ≤ 3)) := rfl
      by_cases hd : 0 ≤ d <;> cases ha : lab a <;> cases hb : lab b <;> simp [imay, nA, nB, nD, eqI, ha, hb, hl, hd]
    by_cases h3 : c = 3
    · subst h3
      rw [lt4]
      have hl : lab d = (decide (d ≥ 0) && decide (d ≤ 3)) := rfl
      by_cases hd : 0 ≤ d <;> cases ha : lab a <;> cases hb : lab b <;> simp [imay, nA, nB, nD, eqI, ha, hb, hl, hd]
    by_cases h4 : c = 4
    · subst h4
      by_cases hd : d = 0
      · subst hd; cases ha : lab a <;> cases hb : decide (b ≥ 0) <;> simp [imay, nA, nB, nD, eqI, ha, upto, hb]
      · simp [imay, nA, nB, nD, eqI, bz, hd]
    by_cases h5 : c = 5
    · subst h5
      by_cases hd : d = 0
      · subst hd
        by_cases ha : a = 0
        · subst ha
          by_cases hb : b = 0
          · subst hb; rfl
          · simp [imay, nA, nB, nD, eqI, bz, hb]
        · simp [imay, nA, nB, nD, eqI, bz, ha]
      · simp [imay, nA, nB, nD, eqI, bz, hd]
    by_cases h6 : c = 6
    · subst h6
      by_cases hd : d = 0
      · subst hd
        by_cases hb : b = 0
        · subst hb; cases ha : val8 a <;> simp [imay, nA, nB, nD, eqI, ha]
        · simp [imay, nA, nB, nD, eqI, bz, hb]
      · simp [imay, nA, nB, nD, eqI, bz, hd]
    simp [imay, h0, h1, h2, h3, h4, h5, h6]
  · exact h.elim
theorem oRIMay : SpecOK Try.prog 22 sIMay := o_of Try.func22 (by kernel_rfl) rfl fun ds Q h => by
  unfold sIMay at h; split at h
  · rename_i c a b d
    refine ⟨_, ct_ask (.cons oRReg (.cons oRVal (.cons oRLab (.cons oUp .nil)))) mixed Try.func22 rfl rfl rfl ?_, rfl, rfl, h⟩
    rw [eRIMay]
    have hl : lab d = upto d 0 3 := rfl
    by_cases h0 : c = 0
    · subst h0; cases ha : lab a <;> cases hb : val8 b <;> simp [imay, ha, hb]
    by_cases h1 : c = 1
    · subst h1; cases ha : lab a <;> cases hb : lab b <;> simp [imay, ha, hb]
    by_cases h2 : c = 2
    · subst h2; cases ha : lab a <;> cases hb : lab b <;> simp [imay, ha, hb, hl]
    by_cases h3 : c = 3
    · subst h3; cases ha : lab a <;> cases hb : lab b <;> simp [imay, ha, hb, hl]
    by_cases h4 : c = 4
    · subst h4; cases ha : lab a <;> cases hb : upto b 0 16 <;> simp [imay, ha, hb]
    by_cases h5 : c = 5
    · subst h5; simp [imay, eqI]
    by_cases h6 : c = 6
    · subst h6; cases ha : val8 a <;> cases hb : (b == 0) <;> simp_all [imay]
    simp [imay, h0, h1, h2, h3, h4, h5, h6]
  · exact h.elim
/-! ### programs -/
def imayR (r : List Int) : Bool := imay (r.getD 0 0) (r.getD 1 0) (r.getD 2 0) (r.getD 3 0)
def pI (n i : Nat) (r : List Int) : Bool := imayR r && !(r.getD 0 0 == 4 && (decide (r.getD 2 0 ≤ (i : Int)) || decide (r.getD 2 0 > (n : Int))))
def pmayN (l : List (List Int)) (k : Nat) : Bool := (List.range k).all fun i => pI l.length i (l.getD i [])
def pmay (l : List (List Int)) : Bool := pmayN l l.length && decide (l.length ≤ 16)
theorem pmayN_s (l : List (List Int)) (i : Nat) : pmayN l (i + 1) = (pmayN l i && pI l.length i (l.getD i [])) := by simp [pmayN, List.range_succ]
theorem pmayN_le {l : List (List Int)} {i n : Nat} (h : i ≤ n) (hc : pmayN l n = true) : pmayN l i = true := by
  simp only [pmayN, List.all_eq_true, List.mem_range] at hc ⊢
  exact fun j hj => hc j (by omega)
def stPM (R sp : List (List D)) (i : Int) (p : Bool) : X := ⟨mkT 37 [(0, aS 4 R sp), (2, ab p), (5, aS 4 R sp), (6, ai R.length), (7, ai i)], [], []⟩
def vPM (R sp : List (List D)) (y : X) : X := stPM R sp (slotI y 7) (slotB y 2)
theorem ePMr (R sp : List (List D)) (i : Int) (p : Bool) (N : X → Prop) (E : Exit → X → Prop) : (roundA band bor Try.prog [(21, sIMay)] [] Try.f38 0 [0, 2, 5, 6, 7] [] (vPM R sp) (vPM R sp) N E (stPM R sp i p)) = (bif decide (i < @Nat.cast Int _ (List.length R)) then bif decide (0 ≤ i) && decide (i < @Nat.cast Int _ (List.length R)) then bif isJ [IntKind.i64, IntKind.i64, IntKind.i64, IntKind.i64] (List.drop (0) (List.getD R (Int.toNat i) [])) then bif !imay (hdJ (List.drop (0) (List.getD R (Int.toNat i) []))) (hdJ (List.tail (List.drop (0) (List.getD R (Int.toNat i) [])))) (hdJ (List.tail (List.tail (List.drop (0) (List.getD R (Int.toNat i) []))))) (hdJ (List.tail (List.tail (List.tail (List.drop (0) (List.getD R (Int.toNat i) [])))))) then stPM R sp i false = stPM R sp i false ∧ E Exit.ret (stPM R sp i false) else bif hdJ (List.drop (0) (List.getD R (Int.toNat i) [])) == 4 then bif decide (hdJ (List.tail (List.tail (List.drop (0) (List.getD R (Int.toNat i) [])))) ≤ i) then stPM R sp i false = stPM R sp i false ∧ E Exit.ret (stPM R sp i false) else bif decide (hdJ (List.tail (List.tail (List.drop (0) (List.getD R (Int.toNat i) [])))) > @Nat.cast Int _ (List.length R)) then stPM R sp i false = stPM R sp i false ∧ E Exit.ret (stPM R sp i false) else stPM R sp (IntKind.wrap IntKind.i64 (i + 1)) p = stPM R sp (IntKind.wrap IntKind.i64 (i + 1)) p ∧ N (stPM R sp (IntKind.wrap IntKind.i64 (i + 1)) p) else stPM R sp (IntKind.wrap IntKind.i64 (i + 1)) p = stPM R sp (IntKind.wrap IntKind.i64 (i + 1)) p ∧ N (stPM R sp (IntKind.wrap IntKind.i64 (i + 1)) p) else False else False else stPM R sp i p = stPM R sp i p ∧ E (Exit.exit (0)) (stPM R sp i p)) := by kernel_rfl
def sumPM (l : List (List Int)) (sp : List (List D)) : LSum := fun Q x => x.only [0, 2, 5, 6, 7] [] = stPM (mZ l) sp 0 false ∧ (pmayN l l.length = false → ∀ i : Int, Q .ret (stPM (mZ l) sp i false)) ∧ (pmayN l l.length = true → Q (.exit 0) (stPM (mZ l) sp l.length false))
theorem ePM (l : List (List Int)) (sp : List (List D)) (K : DV → Prop) : (askL Try.prog [] [(2, sumPM l sp)] Try.f38 [dS 4 (mZ l) sp] K) = (stPM (mZ l) sp (0) false = stPM (mZ l) sp (0) false ∧ (pmayN l (List.length l) = false → ∀ (i : Int), K (DV.c (D.v (Value.bool false)))) ∧ (pmayN l (List.length l) = true → K (DV.c (D.v (Value.bool (decide (@Nat.cast Int _ (List.length (mZ l)) ≤ 16))))))) := by kernel_rfl
def stRPM (R sp : List (List D)) (i : Int) (p : Bool) : X := ⟨mkT 46 [(0, aS 4 R sp), (2, ab p), (3, ai i)], [], []⟩
def vRPM (R sp : List (List D)) (y : X) : X := stRPM R sp (slotI y 3) (slotB y 2)
theorem eRPMr (R sp : List (List D)) (i : Int) (p : Bool) (N : X → Prop) (E : Exit → X → Prop) : (roundA band bor Try.prog [(22, sIMay)] [] Try.f39 0 [0, 2, 3] [] (vRPM R sp) (vRPM R sp) N E (stRPM R sp i p)) = (bif decide (i < @Nat.cast Int _ (List.length R)) then bif decide (0 ≤ i) && decide (i < @Nat.cast Int _ (List.length R)) then bif isJ [IntKind.i64, IntKind.i64, IntKind.i64, IntKind.i64] (List.drop (0) (List.getD R (Int.toNat i) [])) then bif !imay (hdJ (List.drop (0) (List.getD R (Int.toNat i) []))) (hdJ (List.tail (List.drop (0) (List.getD R (Int.toNat i) [])))) (hdJ (List.tail (List.tail (List.drop (0) (List.getD R (Int.toNat i) []))))) (hdJ (List.tail (List.tail (List.tail (List.drop (0) (List.getD R (Int.toNat i) [])))))) then stRPM R sp i false = stRPM R sp i false ∧ E Exit.ret (stRPM R sp i false) else bif decide (0 ≤ i) && decide (i < @Nat.cast Int _ (List.length R)) then bif isJ [IntKind.i64] (List.drop (0) (List.getD R (Int.toNat i) [])) then bif hdJ (List.drop (0) (List.getD R (Int.toNat i) [])) == 4 then bif decide (0 ≤ i) && decide (i < @Nat.cast Int _ (List.length R)) then bif isJ [IntKind.i64] (List.drop (2) (List.getD R (Int.toNat i) [])) then bif decide (hdJ (List.drop (2) (List.getD R (Int.toNat i) [])) ≤ i) then stRPM R sp i false = stRPM R sp i false ∧ E Exit.ret (stRPM R sp i false) else bif decide (0 ≤ i) && decide (i < @Nat.cast Int _ (List.length R)) then bif isJ [IntKind.i64] (List.drop (2) (List.getD R (Int.toNat i) [])) then bif decide (hdJ (List.drop (2) (List.getD R (Int.toNat i) [])) > @Nat.cast Int _ (List.length R)) then stRPM R sp i false = stRPM R sp i false ∧ E Exit.ret (stRPM R sp i false) else stRPM R sp (IntKind.wrap IntKind.i64 (i + 1)) p = stRPM R sp (IntKind.wrap IntKind.i64 (i + 1)) p ∧ N (stRPM R sp (IntKind.wrap IntKind.i64 (i + 1)) p) else False else False else False else False else stRPM R sp (IntKind.wrap IntKind.i64 (i + 1)) p = stRPM R sp (IntKind.wrap IntKind.i64 (i + 1)) p ∧ N (stRPM R sp (IntKind.wrap IntKind.i64 (i + 1)) p) else False else False else False else False else stRPM R sp i p = stRPM R sp i p ∧ E (Exit.exit (0)) (stRPM R sp i p)) := by kernel_rfl
def sumRPM (l : List (List Int)) (sp : List (List D)) : LSum := fun Q x => x.only [0, 2, 3] [] = stRPM (mZ l) sp 0 false ∧ (pmayN l l.length = false → ∀ i : Int, Q .ret (stRPM (mZ l) sp i false)) ∧ (pmayN l l.length = true → Q (.exit 0) (stRPM (mZ l) sp l.length false))
theorem eRPM (l : List (List Int)) (sp : List (List D)) (K : DV → Prop) : (askL Try.prog [] [(2, sumRPM l sp)] Try.f39 [dS 4 (mZ l) sp] K) = (stRPM (mZ l) sp (0) false = stRPM (mZ l) sp (0) false ∧ (pmayN l (List.length l) = false → ∀ (i : Int), K (DV.c (D.v (Value.bool false)))) ∧ (pmayN l (List.length l) = true → K (DV.c (D.v (Value.bool (decide (@Nat.cast Int _ (List.length (mZ l)) ≤ 16))))))) := by kernel_rfl
end Vm
